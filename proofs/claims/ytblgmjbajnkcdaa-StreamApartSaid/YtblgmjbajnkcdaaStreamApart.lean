/-
  The given statement StreamApart: a call on one topic leaves all others, and their consumers, as they are. No condition.
-/
import Derived.Test.YtblgmjbajnkcdaaRows
import Derived.Test.YtblgmjbajnkcdaaChecked
import Derived.Test.YtblgmjbajnkcdaaLaw
import Derived.Test.YtblgmjbajnkcdaaStrTwo
import Derived.Test.YtblgmjbajnkcdaaStrGet
import Derived.Test.YtblgmjbajnkcdaaStrLaw
import Derived.Test.YtblgmjbajnkcdaaStrTy
import Derived.Test.YtblgmjbajnkcdaaGreat21
import Derived.Test.YtblgmjbajnkcdaaCmd
import Derived.KernelRfl
import Derived.ChangeMaps5
namespace Go.Proofs.Ytblgmjbajnkcdaa.StreamApart
open Go.RowKit Go.ChangeShapes Go.WideShapes Go.ChangeAt Go.ChangeMaps

theorem neq_self (x : Ent) (w : World) : (binOp .neq 29 (.agg #[.int .i64 x.off, .int .i64 x.id, .string x.key, .string x.body]) (.agg #[.int .i64 x.off, .int .i64 x.id, .string x.key, .string x.body])).run Try.prog w = .ok (.bool false) w := by
  have := ent_neq x x w
  rwa [(eqEnt_iff x x).2 rfl] at this

set_option maxHeartbeats 16000000 in
set_option maxRecDepth 100000 in
theorem walk {v : Value} {s : Str} {w : World} (m : Msg) (c : Cmd) (other off who : Int) (h : StrR w v s) (F : FitS s) : Calls Try.prog 7 #[v, msgVal m, cmdVal c, .int .i64 other, .int .i64 off, .int .i64 who] w (LawEnd w) := by
  have S := Lib.hid h
  have HKT := Lib.hid (fit_keys F)
  have HSZ := Lib.hid (fit_sizes F)
  have HRW := Lib.hid (fit_rows F)
  obtain ⟨a, cap, b, nc, cc, rfl, _, _⟩ := h.shape
  clear F h
  obtain ⟨mid, ga, gn, gc, mt, mk, mb⟩ := m
  obtain ⟨kind, ⟨cid, cga, cgn, cgc, cmt, cmk, cmb⟩, id, time, ma, mn, mc, ct, cw, cn⟩ := c
  simp only [msgVal, cmdVal]
  obtain ⟨x, e1, h1⟩ : ∃ x e, fetchS s other off = (x, e) := ⟨_, _, rfl⟩
  obtain ⟨y, e2, h2⟩ : ∃ x e, farS s other who = (x, e) := ⟨_, _, rfl⟩
  obtain ⟨u, n, g, hu⟩ : ∃ u n g, putS s mid mt mk mb = (u, n, g) := ⟨_, _, _, rfl⟩
  obtain ⟨d, j, hd⟩ : ∃ d j, doS s kind ct cw cn = (d, j) := ⟨_, _, rfl⟩
  have H1 := Lib.hid h1
  have H2 := Lib.hid h2
  have HU := Lib.hid hu
  have HD := Lib.hid hd
  have hcu : g ≠ 0 ∨ (g = 0 ∧ Hid (mayS u ∧ (∀ w, farS u other w = farS s other w) ∧ (other ≠ mt → fetchS u other off = fetchS s other off))) := by
    rcases putS_cases hu with ⟨_, _, h3⟩ | ⟨h3, ⟨hm, h0, h4⟩, hmu, _, t', hut, _⟩
    · exact Or.inl h3
    · refine Or.inr ⟨h3, hmu, fun w => farS_eq hm hmu (by rw [hut]), fun ho => fetchS_eq hm hmu (fun h5 => ?_)⟩
      rw [hut]
      exact topN_set_other h5 (by omega)
  have hcd : j ≠ 0 ∨ (j = 0 ∧ Hid (mayS d ∧ (other ≠ ct → fetchS d other off = fetchS s other off ∧ farS d other who = farS s other who))) := by
    rcases doS_cases hd with ⟨_, h3⟩ | ⟨h3, ⟨hm, h0, h4⟩, hmu, ⟨_, ht⟩, hg⟩
    · exact Or.inl h3
    · exact Or.inr ⟨h3, hmu, fun ho => ⟨fetchS_eq hm hmu (fun h5 => (ht _ h5).1 ho), farS_eq' hm hmu (fun h5 h6 h7 => (hg _ _ h5 h6 h7).1 ho)⟩⟩
  have HCU := Lib.hid hcu
  have HCD := Lib.hid hcd
  have hG := ent_eqGuard
  have HE := Lib.hid (neq_self x)
  clear h1 h2 hu hd hcu hcd
  go_enter Try.func7, Try.ntmps7
  go_wp2_with fail
  refine Calls.mono (strAlive_any _) ?_
  rintro e w1 ⟨rfl, hb⟩
  have HB : Hid (Below w.heap.size w _) := below_step (by repeat (first | (with_reducible exact Below.refl _ _) | (with_reducible exact Below.refl _ _) | (with_reducible apply Below.drew) | (with_reducible apply below_alloc) | ((with_reducible refine Below.alloc ?_ ?_ _); rotate_left; focus (first | (simp; done) | (simp; omega) | omega)) | ((with_reducible refine Below.setCell ?_ ?_ _); rotate_left; focus (first | (simp; done) | (simp; omega) | omega)))) hb
  have A : Blk _ (w.heap.size) _ _ := Blk.step (by repeat (first | ((with_reducible apply Blk.new); focus (first | rfl | (simp; done) | (simp; omega))) | (with_reducible apply Blk.drew) | (with_reducible apply Blk.alloc) | (with_reducible apply Blk.set_) | ((with_reducible apply Blk.far); rotate_left; focus (first | (simp; done) | (simp; omega) | omega)))) hb
  obtain ⟨a0, a1, az⟩ := cells2 A
  have al := Blk.lt A
  have HA := Lib.hid A
  clear A
  have M : Blk _ (w.heap.size + 1) _ _ := Blk.step (by repeat (first | ((with_reducible apply Blk.new); focus (first | rfl | (simp; done) | (simp; omega))) | (with_reducible apply Blk.drew) | (with_reducible apply Blk.alloc) | (with_reducible apply Blk.set_) | ((with_reducible apply Blk.far); rotate_left; focus (first | (simp; done) | (simp; omega) | omega)))) hb
  obtain ⟨m0, m1, m2, m3, m4, mz⟩ := cells5 M
  have ml := Blk.lt M
  have HM := Lib.hid M
  clear M
  have HC : Hid (Blk w1 (w.heap.size + 2) 52 [.int .u8 kind, .int .i64 cid, .slice cga cgn cgc, .int .i64 cmt, .string cmk, .string cmb, .int .i64 id, .int .i64 time, .slice ma mn mc, .int .i64 ct, .int .i64 cw, .int .i64 cn]) := Blk.step (by repeat (first | (with_reducible exact Blk.new rfl) | ((with_reducible apply Blk.new); focus (first | rfl | (simp; done) | (simp; omega))) | (with_reducible apply Blk.drew) | (with_reducible apply Blk.alloc) | (with_reducible apply Blk.set_) | ((with_reducible apply Blk.far); rotate_left; focus (first | (simp; done) | (simp; omega) | omega)))) hb
  replace S : Hid (StrR _ _ _) := strR_step S.out (by repeat (first | (with_reducible exact Below.refl _ _) | (with_reducible exact Below.refl _ _) | (with_reducible apply Below.drew) | (with_reducible apply below_alloc) | ((with_reducible refine Below.alloc ?_ ?_ _); rotate_left; focus (first | (simp; done) | (simp; omega) | omega)) | ((with_reducible refine Below.setCell ?_ ?_ _); rotate_left; focus (first | (simp; done) | (simp; omega) | omega)))) hb
  clear hb
  go_wp2_with fail
  refine Calls.mono (strGreat_any ?_ HSZ.out HRW.out) ?_
  · exact S.out.below (by repeat (first | (with_reducible exact Below.refl _ _) | (with_reducible exact Below.refl _ _) | (with_reducible apply Below.drew) | (with_reducible apply below_alloc) | ((with_reducible refine Below.alloc ?_ ?_ _); rotate_left; focus (first | (simp; done) | (simp; omega) | omega)) | ((with_reducible refine Below.setCell ?_ ?_ _); rotate_left; focus (first | (simp; done) | (simp; omega) | omega))))
  rintro e w2 ⟨⟨gr, rfl, -⟩, hb⟩
  replace HB : Hid (Below w.heap.size w _) := below_step (by repeat (first | (with_reducible exact HB.out) | (with_reducible exact Below.refl _ _) | (with_reducible apply Below.drew) | (with_reducible apply below_alloc) | ((with_reducible refine Below.alloc ?_ ?_ _); rotate_left; focus (first | (simp; done) | (simp; omega) | omega)) | ((with_reducible refine Below.setCell ?_ ?_ _); rotate_left; focus (first | (simp; done) | (simp; omega) | omega)))) hb
  clear a0 a1 az al
  replace HA : Hid (Blk _ (w.heap.size) _ _) := Blk.step (by repeat (first | (with_reducible exact HA.out) | ((with_reducible apply Blk.new); focus (first | rfl | (simp; done) | (simp; omega))) | (with_reducible apply Blk.drew) | (with_reducible apply Blk.alloc) | (with_reducible apply Blk.set_) | ((with_reducible apply Blk.far); rotate_left; focus (first | (simp; done) | (simp; omega) | omega)))) hb
  obtain ⟨a0, a1, az⟩ := cells2 HA.out
  have al := Blk.lt HA.out
  clear m0 m1 m2 m3 m4 mz ml
  replace HM : Hid (Blk _ (w.heap.size + 1) _ _) := Blk.step (by repeat (first | (with_reducible exact HM.out) | ((with_reducible apply Blk.new); focus (first | rfl | (simp; done) | (simp; omega))) | (with_reducible apply Blk.drew) | (with_reducible apply Blk.alloc) | (with_reducible apply Blk.set_) | ((with_reducible apply Blk.far); rotate_left; focus (first | (simp; done) | (simp; omega) | omega)))) hb
  obtain ⟨m0, m1, m2, m3, m4, mz⟩ := cells5 HM.out
  have ml := Blk.lt HM.out
  replace S : Hid (StrR _ _ _) := strR_step S.out (by repeat (first | (with_reducible exact Below.refl _ _) | (with_reducible exact Below.refl _ _) | (with_reducible apply Below.drew) | (with_reducible apply below_alloc) | ((with_reducible refine Below.alloc ?_ ?_ _); rotate_left; focus (first | (simp; done) | (simp; omega) | omega)) | ((with_reducible refine Below.setCell ?_ ?_ _); rotate_left; focus (first | (simp; done) | (simp; omega) | omega)))) hb
  replace HC := Lib.hid (HC.out.step hb)
  clear hb
  cases gr
  rotate_left
  · go_wp2_with fail
    go_ret
    exact ⟨rfl, HB.out⟩
  by_cases hkl : (5000 : Int) < (mk.size : Int)
  · go_wp2_with fail
    go_ret
    exact ⟨rfl, HB.out⟩
  by_cases hbl : (5000 : Int) < (mb.size : Int)
  · go_wp2_with fail
    go_ret
    exact ⟨rfl, HB.out⟩
  go_wp2_with fail
  refine Calls.mono (strFetch_any other off ?_ HKT.out H1.out) ?_
  · exact S.out.below (by repeat (first | (with_reducible exact Below.refl _ _) | (with_reducible exact Below.refl _ _) | (with_reducible apply Below.drew) | (with_reducible apply below_alloc) | ((with_reducible refine Below.alloc ?_ ?_ _); rotate_left; focus (first | (simp; done) | (simp; omega) | omega)) | ((with_reducible refine Below.setCell ?_ ?_ _); rotate_left; focus (first | (simp; done) | (simp; omega) | omega))))
  rintro e w3 ⟨rfl, hb⟩
  replace HB : Hid (Below w.heap.size w _) := below_step (by repeat (first | (with_reducible exact HB.out) | (with_reducible exact Below.refl _ _) | (with_reducible apply Below.drew) | (with_reducible apply below_alloc) | ((with_reducible refine Below.alloc ?_ ?_ _); rotate_left; focus (first | (simp; done) | (simp; omega) | omega)) | ((with_reducible refine Below.setCell ?_ ?_ _); rotate_left; focus (first | (simp; done) | (simp; omega) | omega)))) hb
  clear a0 a1 az al
  replace HA : Hid (Blk _ (w.heap.size) _ _) := Blk.step (by repeat (first | (with_reducible exact HA.out) | ((with_reducible apply Blk.new); focus (first | rfl | (simp; done) | (simp; omega))) | (with_reducible apply Blk.drew) | (with_reducible apply Blk.alloc) | (with_reducible apply Blk.set_) | ((with_reducible apply Blk.far); rotate_left; focus (first | (simp; done) | (simp; omega) | omega)))) hb
  obtain ⟨a0, a1, az⟩ := cells2 HA.out
  have al := Blk.lt HA.out
  clear m0 m1 m2 m3 m4 mz ml
  replace HM : Hid (Blk _ (w.heap.size + 1) _ _) := Blk.step (by repeat (first | (with_reducible exact HM.out) | ((with_reducible apply Blk.new); focus (first | rfl | (simp; done) | (simp; omega))) | (with_reducible apply Blk.drew) | (with_reducible apply Blk.alloc) | (with_reducible apply Blk.set_) | ((with_reducible apply Blk.far); rotate_left; focus (first | (simp; done) | (simp; omega) | omega)))) hb
  obtain ⟨m0, m1, m2, m3, m4, mz⟩ := cells5 HM.out
  have ml := Blk.lt HM.out
  replace S : Hid (StrR _ _ _) := strR_step S.out (by repeat (first | (with_reducible exact Below.refl _ _) | (with_reducible exact Below.refl _ _) | (with_reducible apply Below.drew) | (with_reducible apply below_alloc) | ((with_reducible refine Below.alloc ?_ ?_ _); rotate_left; focus (first | (simp; done) | (simp; omega) | omega)) | ((with_reducible refine Below.setCell ?_ ?_ _); rotate_left; focus (first | (simp; done) | (simp; omega) | omega)))) hb
  replace HC := Lib.hid (HC.out.step hb)
  clear hb
  go_wp2_with fail
  refine Calls.mono (strFar_any other who ?_ HKT.out H2.out) ?_
  · exact S.out.below (by repeat (first | (with_reducible exact Below.refl _ _) | (with_reducible exact Below.refl _ _) | (with_reducible apply Below.drew) | (with_reducible apply below_alloc) | ((with_reducible refine Below.alloc ?_ ?_ _); rotate_left; focus (first | (simp; done) | (simp; omega) | omega)) | ((with_reducible refine Below.setCell ?_ ?_ _); rotate_left; focus (first | (simp; done) | (simp; omega) | omega))))
  rintro e w4 ⟨rfl, hb⟩
  replace HB : Hid (Below w.heap.size w _) := below_step (by repeat (first | (with_reducible exact HB.out) | (with_reducible exact Below.refl _ _) | (with_reducible apply Below.drew) | (with_reducible apply below_alloc) | ((with_reducible refine Below.alloc ?_ ?_ _); rotate_left; focus (first | (simp; done) | (simp; omega) | omega)) | ((with_reducible refine Below.setCell ?_ ?_ _); rotate_left; focus (first | (simp; done) | (simp; omega) | omega)))) hb
  clear a0 a1 az al
  replace HA : Hid (Blk _ (w.heap.size) _ _) := Blk.step (by repeat (first | (with_reducible exact HA.out) | ((with_reducible apply Blk.new); focus (first | rfl | (simp; done) | (simp; omega))) | (with_reducible apply Blk.drew) | (with_reducible apply Blk.alloc) | (with_reducible apply Blk.set_) | ((with_reducible apply Blk.far); rotate_left; focus (first | (simp; done) | (simp; omega) | omega)))) hb
  obtain ⟨a0, a1, az⟩ := cells2 HA.out
  have al := Blk.lt HA.out
  clear m0 m1 m2 m3 m4 mz ml
  replace HM : Hid (Blk _ (w.heap.size + 1) _ _) := Blk.step (by repeat (first | (with_reducible exact HM.out) | ((with_reducible apply Blk.new); focus (first | rfl | (simp; done) | (simp; omega))) | (with_reducible apply Blk.drew) | (with_reducible apply Blk.alloc) | (with_reducible apply Blk.set_) | ((with_reducible apply Blk.far); rotate_left; focus (first | (simp; done) | (simp; omega) | omega)))) hb
  obtain ⟨m0, m1, m2, m3, m4, mz⟩ := cells5 HM.out
  have ml := Blk.lt HM.out
  replace S : Hid (StrR _ _ _) := strR_step S.out (by repeat (first | (with_reducible exact Below.refl _ _) | (with_reducible exact Below.refl _ _) | (with_reducible apply Below.drew) | (with_reducible apply below_alloc) | ((with_reducible refine Below.alloc ?_ ?_ _); rotate_left; focus (first | (simp; done) | (simp; omega) | omega)) | ((with_reducible refine Below.setCell ?_ ?_ _); rotate_left; focus (first | (simp; done) | (simp; omega) | omega)))) hb
  have HC4 : Hid (Blk w4 (w.heap.size + 2) 52 [.int .u8 kind, .int .i64 cid, .slice cga cgn cgc, .int .i64 cmt, .string cmk, .string cmb, .int .i64 id, .int .i64 time, .slice ma mn mc, .int .i64 ct, .int .i64 cw, .int .i64 cn]) := Lib.hid (Blk.step (by repeat (first | (with_reducible exact HC.out) | ((with_reducible apply Blk.new); focus (first | rfl | (simp; done) | (simp; omega))) | (with_reducible apply Blk.drew) | (with_reducible apply Blk.alloc) | (with_reducible apply Blk.set_) | ((with_reducible apply Blk.far); rotate_left; focus (first | (simp; done) | (simp; omega) | omega)))) hb)
  have X : Blk _ (w3.heap.size) _ _ := Blk.step (by repeat (first | ((with_reducible apply Blk.new); focus (first | rfl | (simp; done) | (simp; omega))) | (with_reducible apply Blk.drew) | (with_reducible apply Blk.alloc) | (with_reducible apply Blk.set_) | ((with_reducible apply Blk.far); rotate_left; focus (first | (simp; done) | (simp; omega) | omega)))) hb
  obtain ⟨x0, x1, x2, x3, xz⟩ := cells4 X
  have xl := Blk.lt X
  have HX := Lib.hid X
  clear X
  clear hb
  go_wp2_with fail
  refine Calls.mono (strPut_any mid mt mk mb ?_ HKT.out HU.out) ?_
  · exact S.out.below (by repeat (first | (with_reducible exact Below.refl _ _) | (with_reducible exact Below.refl _ _) | (with_reducible apply Below.drew) | (with_reducible apply below_alloc) | ((with_reducible refine Below.alloc ?_ ?_ _); rotate_left; focus (first | (simp; done) | (simp; omega) | omega)) | ((with_reducible refine Below.setCell ?_ ?_ _); rotate_left; focus (first | (simp; done) | (simp; omega) | omega))))
  rintro e w5 ⟨ta5, tc5, rfl, os5, hb⟩
  obtain ⟨a5, cap5, b5, nc5, cc5, ev, -, -⟩ := os5.reads.shape
  cases ev
  replace HB : Hid (Below w.heap.size w _) := below_step (by repeat (first | (with_reducible exact HB.out) | (with_reducible exact Below.refl _ _) | (with_reducible apply Below.drew) | (with_reducible apply below_alloc) | ((with_reducible refine Below.alloc ?_ ?_ _); rotate_left; focus (first | (simp; done) | (simp; omega) | omega)) | ((with_reducible refine Below.setCell ?_ ?_ _); rotate_left; focus (first | (simp; done) | (simp; omega) | omega)))) hb
  clear a0 a1 az al
  replace HA : Hid (Blk _ (w.heap.size) _ _) := Blk.step (by repeat (first | (with_reducible exact HA.out) | ((with_reducible apply Blk.new); focus (first | rfl | (simp; done) | (simp; omega))) | (with_reducible apply Blk.drew) | (with_reducible apply Blk.alloc) | (with_reducible apply Blk.set_) | ((with_reducible apply Blk.far); rotate_left; focus (first | (simp; done) | (simp; omega) | omega)))) hb
  obtain ⟨a0, a1, az⟩ := cells2 HA.out
  have al := Blk.lt HA.out
  clear m0 m1 m2 m3 m4 mz ml
  replace HM : Hid (Blk _ (w.heap.size + 1) _ _) := Blk.step (by repeat (first | (with_reducible exact HM.out) | ((with_reducible apply Blk.new); focus (first | rfl | (simp; done) | (simp; omega))) | (with_reducible apply Blk.drew) | (with_reducible apply Blk.alloc) | (with_reducible apply Blk.set_) | ((with_reducible apply Blk.far); rotate_left; focus (first | (simp; done) | (simp; omega) | omega)))) hb
  obtain ⟨m0, m1, m2, m3, m4, mz⟩ := cells5 HM.out
  have ml := Blk.lt HM.out
  clear x0 x1 x2 x3 xz xl
  replace HX : Hid (Blk _ (w3.heap.size) _ _) := Blk.step (by repeat (first | (with_reducible exact HX.out) | ((with_reducible apply Blk.new); focus (first | rfl | (simp; done) | (simp; omega))) | (with_reducible apply Blk.drew) | (with_reducible apply Blk.alloc) | (with_reducible apply Blk.set_) | ((with_reducible apply Blk.far); rotate_left; focus (first | (simp; done) | (simp; omega) | omega)))) hb
  obtain ⟨x0, x1, x2, x3, xz⟩ := cells4 HX.out
  have xl := Blk.lt HX.out
  replace S : Hid (StrR _ _ _) := strR_step S.out (by repeat (first | (with_reducible exact Below.refl _ _) | (with_reducible exact Below.refl _ _) | (with_reducible apply Below.drew) | (with_reducible apply below_alloc) | ((with_reducible refine Below.alloc ?_ ?_ _); rotate_left; focus (first | (simp; done) | (simp; omega) | omega)) | ((with_reducible refine Below.setCell ?_ ?_ _); rotate_left; focus (first | (simp; done) | (simp; omega) | omega)))) hb
  have HC5 : Hid (Blk w5 (w.heap.size + 2) 52 [.int .u8 kind, .int .i64 cid, .slice cga cgn cgc, .int .i64 cmt, .string cmk, .string cmb, .int .i64 id, .int .i64 time, .slice ma mn mc, .int .i64 ct, .int .i64 cw, .int .i64 cn]) := Lib.hid (Blk.step (by repeat (first | (with_reducible exact HC4.out) | ((with_reducible apply Blk.new); focus (first | rfl | (simp; done) | (simp; omega))) | (with_reducible apply Blk.drew) | (with_reducible apply Blk.alloc) | (with_reducible apply Blk.set_) | ((with_reducible apply Blk.far); rotate_left; focus (first | (simp; done) | (simp; omega) | omega)))) hb)
  have SU : Hid (StrR w5 _ u) := Lib.hid os5.reads
  obtain ⟨⟨⟨d0, d1, d2, d3⟩, ⟨d4, d5, d6, d7⟩, d8, d9, d10, d11⟩, dz⟩ := cells12 HC5.out
  have cl := HC5.out.lt
  clear hb os5 HC HC4
  rcases HCU.out with hg | ⟨hg, HP⟩

  · have hg' : (g == 0) = false := by simpa using hg
    go_wp2_with fail
    refine Calls.mono (strDo_any ct cw cn ?_ HKT.out HD.out) ?_
    · exact S.out.below (by repeat (first | (with_reducible exact Below.refl _ _) | (with_reducible exact Below.refl _ _) | (with_reducible apply Below.drew) | (with_reducible apply below_alloc) | ((with_reducible refine Below.alloc ?_ ?_ _); rotate_left; focus (first | (simp; done) | (simp; omega) | omega)) | ((with_reducible refine Below.setCell ?_ ?_ _); rotate_left; focus (first | (simp; done) | (simp; omega) | omega))))
    rintro e w6 ⟨ta6, tc6, rfl, os6, hb⟩
    obtain ⟨a6, cap6, b6, nc6, cc6, ev, -, -⟩ := os6.reads.shape
    cases ev
    replace HB : Hid (Below w.heap.size w _) := below_step (by repeat (first | (with_reducible exact HB.out) | (with_reducible exact Below.refl _ _) | (with_reducible apply Below.drew) | (with_reducible apply below_alloc) | ((with_reducible refine Below.alloc ?_ ?_ _); rotate_left; focus (first | (simp; done) | (simp; omega) | omega)) | ((with_reducible refine Below.setCell ?_ ?_ _); rotate_left; focus (first | (simp; done) | (simp; omega) | omega)))) hb
    clear x0 x1 x2 x3 xz xl
    replace HX : Hid (Blk _ (w3.heap.size) _ _) := Blk.step (by repeat (first | (with_reducible exact HX.out) | ((with_reducible apply Blk.new); focus (first | rfl | (simp; done) | (simp; omega))) | (with_reducible apply Blk.drew) | (with_reducible apply Blk.alloc) | (with_reducible apply Blk.set_) | ((with_reducible apply Blk.far); rotate_left; focus (first | (simp; done) | (simp; omega) | omega)))) hb
    obtain ⟨x0, x1, x2, x3, xz⟩ := cells4 HX.out
    have xl := Blk.lt HX.out
    have HC6 : Hid (Blk w6 (w.heap.size + 2) 52 [.int .u8 kind, .int .i64 cid, .slice cga cgn cgc, .int .i64 cmt, .string cmk, .string cmb, .int .i64 id, .int .i64 time, .slice ma mn mc, .int .i64 ct, .int .i64 cw, .int .i64 cn]) := Lib.hid (Blk.step (by repeat (first | (with_reducible exact HC5.out) | ((with_reducible apply Blk.new); focus (first | rfl | (simp; done) | (simp; omega))) | (with_reducible apply Blk.drew) | (with_reducible apply Blk.alloc) | (with_reducible apply Blk.set_) | ((with_reducible apply Blk.far); rotate_left; focus (first | (simp; done) | (simp; omega) | omega)))) hb)
    have SD : Hid (StrR w6 _ d) := Lib.hid os6.reads
    clear hb os6 d0 d1 d2 d3 d4 d5 d6 d7 d8 d9 d10 d11 dz cl HC5 S
    rcases HCD.out with hj | ⟨hj, HQ⟩
    · have hj' : (j == 0) = false := by simpa using hj
      go_wp2_with fail
      go_ret
      refine ⟨rfl, ?_⟩
      repeat (first | (with_reducible exact HB.out) | (with_reducible exact Below.refl _ _) | (with_reducible apply Below.drew) | (with_reducible apply below_alloc) | ((with_reducible refine Below.alloc ?_ ?_ _); rotate_left; focus (first | (simp; done) | (simp; omega) | omega)) | ((with_reducible refine Below.setCell ?_ ?_ _); rotate_left; focus (first | (simp; done) | (simp; omega) | omega)))
    · subst hj
      obtain ⟨p, h, hp⟩ : ∃ p h, fetchS d other off = (p, h) := ⟨_, _, rfl⟩
      obtain ⟨q, i, hq⟩ : ∃ q i, farS d other who = (q, i) := ⟨_, _, rfl⟩
      have HPP := Lib.hid hp
      have HQQ := Lib.hid hq
      have HKD := Lib.hid (keysS_of_may HQ.out.1)
      have HMD := Lib.hid (show (0 : Int) = if mayS d then 0 else 8 by rw [if_pos HQ.out.1])
      have hsame : other = ct ∨ (other ≠ ct ∧ ((x = p ∧ e1 = h) ∧ y = q ∧ e2 = i)) := by
        by_cases ho : other = ct
        · exact Or.inl ho
        · have h3 := HQ.out.2 ho
          rw [H1.out, H2.out, hp, hq] at h3
          obtain ⟨h3, h4⟩ := h3
          cases h3
          cases h4
          exact Or.inr ⟨ho, ⟨rfl, rfl⟩, rfl, rfl⟩
      have HSM := Lib.hid hsame
      clear hp hq hsame
      go_wp2_with fail
      refine Calls.mono (strFetch_any other off ?_ HKD.out HPP.out) ?_
      · exact SD.out.below (by repeat (first | (with_reducible exact Below.refl _ _) | (with_reducible exact Below.refl _ _) | (with_reducible apply Below.drew) | (with_reducible apply below_alloc) | ((with_reducible refine Below.alloc ?_ ?_ _); rotate_left; focus (first | (simp; done) | (simp; omega) | omega)) | ((with_reducible refine Below.setCell ?_ ?_ _); rotate_left; focus (first | (simp; done) | (simp; omega) | omega))))
      rintro e w7 ⟨rfl, hb⟩
      replace HB : Hid (Below w.heap.size w _) := below_step (by repeat (first | (with_reducible exact HB.out) | (with_reducible exact Below.refl _ _) | (with_reducible apply Below.drew) | (with_reducible apply below_alloc) | ((with_reducible refine Below.alloc ?_ ?_ _); rotate_left; focus (first | (simp; done) | (simp; omega) | omega)) | ((with_reducible refine Below.setCell ?_ ?_ _); rotate_left; focus (first | (simp; done) | (simp; omega) | omega)))) hb
      clear x0 x1 x2 x3 xz xl
      replace HX : Hid (Blk _ (w3.heap.size) _ _) := Blk.step (by repeat (first | (with_reducible exact HX.out) | ((with_reducible apply Blk.new); focus (first | rfl | (simp; done) | (simp; omega))) | (with_reducible apply Blk.drew) | (with_reducible apply Blk.alloc) | (with_reducible apply Blk.set_) | ((with_reducible apply Blk.far); rotate_left; focus (first | (simp; done) | (simp; omega) | omega)))) hb
      obtain ⟨x0, x1, x2, x3, xz⟩ := cells4 HX.out
      have xl := Blk.lt HX.out
      replace SD : Hid (StrR _ _ _) := strR_step SD.out (by repeat (first | (with_reducible exact Below.refl _ _) | (with_reducible exact Below.refl _ _) | (with_reducible apply Below.drew) | (with_reducible apply below_alloc) | ((with_reducible refine Below.alloc ?_ ?_ _); rotate_left; focus (first | (simp; done) | (simp; omega) | omega)) | ((with_reducible refine Below.setCell ?_ ?_ _); rotate_left; focus (first | (simp; done) | (simp; omega) | omega)))) hb
      have HC7 : Hid (Blk w7 (w.heap.size + 2) 52 [.int .u8 kind, .int .i64 cid, .slice cga cgn cgc, .int .i64 cmt, .string cmk, .string cmb, .int .i64 id, .int .i64 time, .slice ma mn mc, .int .i64 ct, .int .i64 cw, .int .i64 cn]) := Lib.hid (Blk.step (by repeat (first | (with_reducible exact HC6.out) | ((with_reducible apply Blk.new); focus (first | rfl | (simp; done) | (simp; omega))) | (with_reducible apply Blk.drew) | (with_reducible apply Blk.alloc) | (with_reducible apply Blk.set_) | ((with_reducible apply Blk.far); rotate_left; focus (first | (simp; done) | (simp; omega) | omega)))) hb)
      have D : Blk _ (w6.heap.size) _ _ := Blk.step (by repeat (first | ((with_reducible apply Blk.new); focus (first | rfl | (simp; done) | (simp; omega))) | (with_reducible apply Blk.drew) | (with_reducible apply Blk.alloc) | (with_reducible apply Blk.set_) | ((with_reducible apply Blk.far); rotate_left; focus (first | (simp; done) | (simp; omega) | omega)))) hb
      obtain ⟨d0, d1, dz⟩ := cells2 D
      have dl := Blk.lt D
      have HD := Lib.hid D
      clear D
      clear hb
      go_wp2_with fail
      refine Calls.mono (strFar_any other who ?_ HKD.out HQQ.out) ?_
      · exact SD.out.below (by repeat (first | (with_reducible exact Below.refl _ _) | (with_reducible exact Below.refl _ _) | (with_reducible apply Below.drew) | (with_reducible apply below_alloc) | ((with_reducible refine Below.alloc ?_ ?_ _); rotate_left; focus (first | (simp; done) | (simp; omega) | omega)) | ((with_reducible refine Below.setCell ?_ ?_ _); rotate_left; focus (first | (simp; done) | (simp; omega) | omega))))
      rintro e w8 ⟨rfl, hb⟩
      replace HB : Hid (Below w.heap.size w _) := below_step (by repeat (first | (with_reducible exact HB.out) | (with_reducible exact Below.refl _ _) | (with_reducible apply Below.drew) | (with_reducible apply below_alloc) | ((with_reducible refine Below.alloc ?_ ?_ _); rotate_left; focus (first | (simp; done) | (simp; omega) | omega)) | ((with_reducible refine Below.setCell ?_ ?_ _); rotate_left; focus (first | (simp; done) | (simp; omega) | omega)))) hb
      clear x0 x1 x2 x3 xz xl
      replace HX : Hid (Blk _ (w3.heap.size) _ _) := Blk.step (by repeat (first | (with_reducible exact HX.out) | ((with_reducible apply Blk.new); focus (first | rfl | (simp; done) | (simp; omega))) | (with_reducible apply Blk.drew) | (with_reducible apply Blk.alloc) | (with_reducible apply Blk.set_) | ((with_reducible apply Blk.far); rotate_left; focus (first | (simp; done) | (simp; omega) | omega)))) hb
      obtain ⟨x0, x1, x2, x3, xz⟩ := cells4 HX.out
      have xl := Blk.lt HX.out
      clear d0 d1 dz dl
      replace HD : Hid (Blk _ (w6.heap.size) _ _) := Blk.step (by repeat (first | (with_reducible exact HD.out) | ((with_reducible apply Blk.new); focus (first | rfl | (simp; done) | (simp; omega))) | (with_reducible apply Blk.drew) | (with_reducible apply Blk.alloc) | (with_reducible apply Blk.set_) | ((with_reducible apply Blk.far); rotate_left; focus (first | (simp; done) | (simp; omega) | omega)))) hb
      obtain ⟨d0, d1, dz⟩ := cells2 HD.out
      have dl := Blk.lt HD.out
      replace SD : Hid (StrR _ _ _) := strR_step SD.out (by repeat (first | (with_reducible exact Below.refl _ _) | (with_reducible exact Below.refl _ _) | (with_reducible apply Below.drew) | (with_reducible apply below_alloc) | ((with_reducible refine Below.alloc ?_ ?_ _); rotate_left; focus (first | (simp; done) | (simp; omega) | omega)) | ((with_reducible refine Below.setCell ?_ ?_ _); rotate_left; focus (first | (simp; done) | (simp; omega) | omega)))) hb
      have HC8 : Hid (Blk w8 (w.heap.size + 2) 52 [.int .u8 kind, .int .i64 cid, .slice cga cgn cgc, .int .i64 cmt, .string cmk, .string cmb, .int .i64 id, .int .i64 time, .slice ma mn mc, .int .i64 ct, .int .i64 cw, .int .i64 cn]) := Lib.hid (Blk.step (by repeat (first | (with_reducible exact HC7.out) | ((with_reducible apply Blk.new); focus (first | rfl | (simp; done) | (simp; omega))) | (with_reducible apply Blk.drew) | (with_reducible apply Blk.alloc) | (with_reducible apply Blk.set_) | ((with_reducible apply Blk.far); rotate_left; focus (first | (simp; done) | (simp; omega) | omega)))) hb)
      have E : Blk _ (w7.heap.size) _ _ := Blk.step (by repeat (first | ((with_reducible apply Blk.new); focus (first | rfl | (simp; done) | (simp; omega))) | (with_reducible apply Blk.drew) | (with_reducible apply Blk.alloc) | (with_reducible apply Blk.set_) | ((with_reducible apply Blk.far); rotate_left; focus (first | (simp; done) | (simp; omega) | omega)))) hb
      obtain ⟨e0, e1, e2, e3, ez⟩ := cells4 E
      have el := Blk.lt E
      have HE := Lib.hid E
      clear E
      obtain ⟨⟨-, -, -, d9, -, -⟩, dz⟩ := cells12 HC8.out
      have cl := HC8.out.lt
      clear hb HC7 HC6
      have fin : ∀ W1 : World, Below w8.heap.size w8 W1 → Hid (Below w.heap.size w W1) := fun W1 hw => Lib.hid (HB.out.trans (hw.mono (by have := HB.out.size; omega)))
      have FIN := Lib.hid fin
      clear fin
      rcases HSM.out with ho | ⟨ho, ⟨rfl, rfl⟩, rfl, rfl⟩
      · have eo : (other != ct) = false := by simpa using ho
        clear ho HPP HQQ HE
        go_wp2_with fail
        refine Calls.mono (strCheck_any SD.out HKD.out 0 HMD.out) ?_
        rintro e w9 ⟨rfl, hb⟩
        have HB9 := FIN.out _ hb
        clear hb
        go_wp2_with fail
        go_ret
        exact ⟨rfl, HB9.out⟩
      · have eo : (other != ct) = true := by simpa using ho
        have hE := HE.out
        clear ho HPP HQQ
        go_wp2_with fail
        refine Calls.mono (strCheck_any SD.out HKD.out 0 HMD.out) ?_
        rintro e w9 ⟨rfl, hb⟩
        have HB9 := FIN.out _ hb
        clear hb
        go_wp2_with fail
        go_ret
        exact ⟨rfl, HB9.out⟩
  · subst hg
    obtain ⟨p, h, hp⟩ : ∃ p h, fetchS u other off = (p, h) := ⟨_, _, rfl⟩
    have hfar : farS u other who = (y, e2) := by rw [HP.out.2.1]; exact H2.out
    have HPP := Lib.hid hp
    have HFAR := Lib.hid hfar
    have HKU := Lib.hid (keysS_of_may HP.out.1)
    have HMU := Lib.hid (show (0 : Int) = if mayS u then 0 else 8 by rw [if_pos HP.out.1])
    have hsame : other = mt ∨ (other ≠ mt ∧ (x = p ∧ e1 = h)) := by
      by_cases ho : other = mt
      · exact Or.inl ho
      · have h3 := HP.out.2.2 ho
        rw [H1.out, hp] at h3
        cases h3
        exact Or.inr ⟨ho, rfl, rfl⟩
    have HSM := Lib.hid hsame
    clear hp hsame hfar
    clear d0 d1 d2 d3 d4 d5 d6 d7 d8 d9 d10 d11 dz cl
    go_wp2_with fail
    refine Calls.mono (strFetch_any other off ?_ HKU.out HPP.out) ?_
    · exact SU.out.below (by repeat (first | (with_reducible exact Below.refl _ _) | (with_reducible exact Below.refl _ _) | (with_reducible apply Below.drew) | (with_reducible apply below_alloc) | ((with_reducible refine Below.alloc ?_ ?_ _); rotate_left; focus (first | (simp; done) | (simp; omega) | omega)) | ((with_reducible refine Below.setCell ?_ ?_ _); rotate_left; focus (first | (simp; done) | (simp; omega) | omega))))
    rintro e w6 ⟨rfl, hb⟩
    replace HB : Hid (Below w.heap.size w _) := below_step (by repeat (first | (with_reducible exact HB.out) | (with_reducible exact Below.refl _ _) | (with_reducible apply Below.drew) | (with_reducible apply below_alloc) | ((with_reducible refine Below.alloc ?_ ?_ _); rotate_left; focus (first | (simp; done) | (simp; omega) | omega)) | ((with_reducible refine Below.setCell ?_ ?_ _); rotate_left; focus (first | (simp; done) | (simp; omega) | omega)))) hb
    clear a0 a1 az al
    replace HA : Hid (Blk _ (w.heap.size) _ _) := Blk.step (by repeat (first | (with_reducible exact HA.out) | ((with_reducible apply Blk.new); focus (first | rfl | (simp; done) | (simp; omega))) | (with_reducible apply Blk.drew) | (with_reducible apply Blk.alloc) | (with_reducible apply Blk.set_) | ((with_reducible apply Blk.far); rotate_left; focus (first | (simp; done) | (simp; omega) | omega)))) hb
    obtain ⟨a0, a1, az⟩ := cells2 HA.out
    have al := Blk.lt HA.out
    clear m0 m1 m2 m3 m4 mz ml
    replace HM : Hid (Blk _ (w.heap.size + 1) _ _) := Blk.step (by repeat (first | (with_reducible exact HM.out) | ((with_reducible apply Blk.new); focus (first | rfl | (simp; done) | (simp; omega))) | (with_reducible apply Blk.drew) | (with_reducible apply Blk.alloc) | (with_reducible apply Blk.set_) | ((with_reducible apply Blk.far); rotate_left; focus (first | (simp; done) | (simp; omega) | omega)))) hb
    obtain ⟨m0, m1, m2, m3, m4, mz⟩ := cells5 HM.out
    have ml := Blk.lt HM.out
    clear x0 x1 x2 x3 xz xl
    replace HX : Hid (Blk _ (w3.heap.size) _ _) := Blk.step (by repeat (first | (with_reducible exact HX.out) | ((with_reducible apply Blk.new); focus (first | rfl | (simp; done) | (simp; omega))) | (with_reducible apply Blk.drew) | (with_reducible apply Blk.alloc) | (with_reducible apply Blk.set_) | ((with_reducible apply Blk.far); rotate_left; focus (first | (simp; done) | (simp; omega) | omega)))) hb
    obtain ⟨x0, x1, x2, x3, xz⟩ := cells4 HX.out
    have xl := Blk.lt HX.out
    replace S : Hid (StrR _ _ _) := strR_step S.out (by repeat (first | (with_reducible exact Below.refl _ _) | (with_reducible exact Below.refl _ _) | (with_reducible apply Below.drew) | (with_reducible apply below_alloc) | ((with_reducible refine Below.alloc ?_ ?_ _); rotate_left; focus (first | (simp; done) | (simp; omega) | omega)) | ((with_reducible refine Below.setCell ?_ ?_ _); rotate_left; focus (first | (simp; done) | (simp; omega) | omega)))) hb
    replace SU : Hid (StrR _ _ _) := strR_step SU.out (by repeat (first | (with_reducible exact Below.refl _ _) | (with_reducible exact Below.refl _ _) | (with_reducible apply Below.drew) | (with_reducible apply below_alloc) | ((with_reducible refine Below.alloc ?_ ?_ _); rotate_left; focus (first | (simp; done) | (simp; omega) | omega)) | ((with_reducible refine Below.setCell ?_ ?_ _); rotate_left; focus (first | (simp; done) | (simp; omega) | omega)))) hb
    have HC6 : Hid (Blk w6 (w.heap.size + 2) 52 [.int .u8 kind, .int .i64 cid, .slice cga cgn cgc, .int .i64 cmt, .string cmk, .string cmb, .int .i64 id, .int .i64 time, .slice ma mn mc, .int .i64 ct, .int .i64 cw, .int .i64 cn]) := Lib.hid (Blk.step (by repeat (first | (with_reducible exact HC5.out) | ((with_reducible apply Blk.new); focus (first | rfl | (simp; done) | (simp; omega))) | (with_reducible apply Blk.drew) | (with_reducible apply Blk.alloc) | (with_reducible apply Blk.set_) | ((with_reducible apply Blk.far); rotate_left; focus (first | (simp; done) | (simp; omega) | omega)))) hb)
    have R : Blk _ (w5.heap.size) _ _ := Blk.step (by repeat (first | ((with_reducible apply Blk.new); focus (first | rfl | (simp; done) | (simp; omega))) | (with_reducible apply Blk.drew) | (with_reducible apply Blk.alloc) | (with_reducible apply Blk.set_) | ((with_reducible apply Blk.far); rotate_left; focus (first | (simp; done) | (simp; omega) | omega)))) hb
    obtain ⟨r0, r1, rz⟩ := cells2 R
    have rl := Blk.lt R
    have HR := Lib.hid R
    clear R
    clear hb
    go_wp2_with fail
    refine Calls.mono (strFar_any other who ?_ HKU.out HFAR.out) ?_
    · exact SU.out.below (by repeat (first | (with_reducible exact Below.refl _ _) | (with_reducible exact Below.refl _ _) | (with_reducible apply Below.drew) | (with_reducible apply below_alloc) | ((with_reducible refine Below.alloc ?_ ?_ _); rotate_left; focus (first | (simp; done) | (simp; omega) | omega)) | ((with_reducible refine Below.setCell ?_ ?_ _); rotate_left; focus (first | (simp; done) | (simp; omega) | omega))))
    rintro e w7 ⟨rfl, hb⟩
    replace HB : Hid (Below w.heap.size w _) := below_step (by repeat (first | (with_reducible exact HB.out) | (with_reducible exact Below.refl _ _) | (with_reducible apply Below.drew) | (with_reducible apply below_alloc) | ((with_reducible refine Below.alloc ?_ ?_ _); rotate_left; focus (first | (simp; done) | (simp; omega) | omega)) | ((with_reducible refine Below.setCell ?_ ?_ _); rotate_left; focus (first | (simp; done) | (simp; omega) | omega)))) hb
    clear a0 a1 az al
    replace HA : Hid (Blk _ (w.heap.size) _ _) := Blk.step (by repeat (first | (with_reducible exact HA.out) | ((with_reducible apply Blk.new); focus (first | rfl | (simp; done) | (simp; omega))) | (with_reducible apply Blk.drew) | (with_reducible apply Blk.alloc) | (with_reducible apply Blk.set_) | ((with_reducible apply Blk.far); rotate_left; focus (first | (simp; done) | (simp; omega) | omega)))) hb
    obtain ⟨a0, a1, az⟩ := cells2 HA.out
    have al := Blk.lt HA.out
    clear m0 m1 m2 m3 m4 mz ml
    replace HM : Hid (Blk _ (w.heap.size + 1) _ _) := Blk.step (by repeat (first | (with_reducible exact HM.out) | ((with_reducible apply Blk.new); focus (first | rfl | (simp; done) | (simp; omega))) | (with_reducible apply Blk.drew) | (with_reducible apply Blk.alloc) | (with_reducible apply Blk.set_) | ((with_reducible apply Blk.far); rotate_left; focus (first | (simp; done) | (simp; omega) | omega)))) hb
    obtain ⟨m0, m1, m2, m3, m4, mz⟩ := cells5 HM.out
    have ml := Blk.lt HM.out
    clear x0 x1 x2 x3 xz xl
    replace HX : Hid (Blk _ (w3.heap.size) _ _) := Blk.step (by repeat (first | (with_reducible exact HX.out) | ((with_reducible apply Blk.new); focus (first | rfl | (simp; done) | (simp; omega))) | (with_reducible apply Blk.drew) | (with_reducible apply Blk.alloc) | (with_reducible apply Blk.set_) | ((with_reducible apply Blk.far); rotate_left; focus (first | (simp; done) | (simp; omega) | omega)))) hb
    obtain ⟨x0, x1, x2, x3, xz⟩ := cells4 HX.out
    have xl := Blk.lt HX.out
    clear r0 r1 rz rl
    replace HR : Hid (Blk _ (w5.heap.size) _ _) := Blk.step (by repeat (first | (with_reducible exact HR.out) | ((with_reducible apply Blk.new); focus (first | rfl | (simp; done) | (simp; omega))) | (with_reducible apply Blk.drew) | (with_reducible apply Blk.alloc) | (with_reducible apply Blk.set_) | ((with_reducible apply Blk.far); rotate_left; focus (first | (simp; done) | (simp; omega) | omega)))) hb
    obtain ⟨r0, r1, rz⟩ := cells2 HR.out
    have rl := Blk.lt HR.out
    replace S : Hid (StrR _ _ _) := strR_step S.out (by repeat (first | (with_reducible exact Below.refl _ _) | (with_reducible exact Below.refl _ _) | (with_reducible apply Below.drew) | (with_reducible apply below_alloc) | ((with_reducible refine Below.alloc ?_ ?_ _); rotate_left; focus (first | (simp; done) | (simp; omega) | omega)) | ((with_reducible refine Below.setCell ?_ ?_ _); rotate_left; focus (first | (simp; done) | (simp; omega) | omega)))) hb
    replace SU : Hid (StrR _ _ _) := strR_step SU.out (by repeat (first | (with_reducible exact Below.refl _ _) | (with_reducible exact Below.refl _ _) | (with_reducible apply Below.drew) | (with_reducible apply below_alloc) | ((with_reducible refine Below.alloc ?_ ?_ _); rotate_left; focus (first | (simp; done) | (simp; omega) | omega)) | ((with_reducible refine Below.setCell ?_ ?_ _); rotate_left; focus (first | (simp; done) | (simp; omega) | omega)))) hb
    have HC7 : Hid (Blk w7 (w.heap.size + 2) 52 [.int .u8 kind, .int .i64 cid, .slice cga cgn cgc, .int .i64 cmt, .string cmk, .string cmb, .int .i64 id, .int .i64 time, .slice ma mn mc, .int .i64 ct, .int .i64 cw, .int .i64 cn]) := Lib.hid (Blk.step (by repeat (first | (with_reducible exact HC6.out) | ((with_reducible apply Blk.new); focus (first | rfl | (simp; done) | (simp; omega))) | (with_reducible apply Blk.drew) | (with_reducible apply Blk.alloc) | (with_reducible apply Blk.set_) | ((with_reducible apply Blk.far); rotate_left; focus (first | (simp; done) | (simp; omega) | omega)))) hb)
    have Y : Blk _ (w6.heap.size) _ _ := Blk.step (by repeat (first | ((with_reducible apply Blk.new); focus (first | rfl | (simp; done) | (simp; omega))) | (with_reducible apply Blk.drew) | (with_reducible apply Blk.alloc) | (with_reducible apply Blk.set_) | ((with_reducible apply Blk.far); rotate_left; focus (first | (simp; done) | (simp; omega) | omega)))) hb
    obtain ⟨y0, y1, y2, y3, yz⟩ := cells4 Y
    have yl := Blk.lt Y
    have HY := Lib.hid Y
    clear Y
    clear hb HC5 HC6
    rcases HSM.out with ho | ⟨ho, rfl, rfl⟩
    · have eo : (other != mt) = false := by simpa using ho
      clear ho HPP HFAR
      go_wp2_with fail
      refine Calls.mono (strCheck_any ?_ HKU.out 0 HMU.out) ?_
      · exact SU.out.below (by repeat (first | (with_reducible exact Below.refl _ _) | (with_reducible exact Below.refl _ _) | (with_reducible apply Below.drew) | (with_reducible apply below_alloc) | ((with_reducible refine Below.alloc ?_ ?_ _); rotate_left; focus (first | (simp; done) | (simp; omega) | omega)) | ((with_reducible refine Below.setCell ?_ ?_ _); rotate_left; focus (first | (simp; done) | (simp; omega) | omega))))
      rintro e w8 ⟨rfl, hb⟩
      replace HB : Hid (Below w.heap.size w _) := below_step (by repeat (first | (with_reducible exact HB.out) | (with_reducible exact Below.refl _ _) | (with_reducible apply Below.drew) | (with_reducible apply below_alloc) | ((with_reducible refine Below.alloc ?_ ?_ _); rotate_left; focus (first | (simp; done) | (simp; omega) | omega)) | ((with_reducible refine Below.setCell ?_ ?_ _); rotate_left; focus (first | (simp; done) | (simp; omega) | omega)))) hb
      clear a0 a1 az al
      replace HA : Hid (Blk _ (w.heap.size) _ _) := Blk.step (by repeat (first | (with_reducible exact HA.out) | ((with_reducible apply Blk.new); focus (first | rfl | (simp; done) | (simp; omega))) | (with_reducible apply Blk.drew) | (with_reducible apply Blk.alloc) | (with_reducible apply Blk.set_) | ((with_reducible apply Blk.far); rotate_left; focus (first | (simp; done) | (simp; omega) | omega)))) hb
      obtain ⟨a0, a1, az⟩ := cells2 HA.out
      have al := Blk.lt HA.out
      clear x0 x1 x2 x3 xz xl
      replace HX : Hid (Blk _ (w3.heap.size) _ _) := Blk.step (by repeat (first | (with_reducible exact HX.out) | ((with_reducible apply Blk.new); focus (first | rfl | (simp; done) | (simp; omega))) | (with_reducible apply Blk.drew) | (with_reducible apply Blk.alloc) | (with_reducible apply Blk.set_) | ((with_reducible apply Blk.far); rotate_left; focus (first | (simp; done) | (simp; omega) | omega)))) hb
      obtain ⟨x0, x1, x2, x3, xz⟩ := cells4 HX.out
      have xl := Blk.lt HX.out
      replace S : Hid (StrR _ _ _) := strR_step S.out (by repeat (first | (with_reducible exact Below.refl _ _) | (with_reducible exact Below.refl _ _) | (with_reducible apply Below.drew) | (with_reducible apply below_alloc) | ((with_reducible refine Below.alloc ?_ ?_ _); rotate_left; focus (first | (simp; done) | (simp; omega) | omega)) | ((with_reducible refine Below.setCell ?_ ?_ _); rotate_left; focus (first | (simp; done) | (simp; omega) | omega)))) hb
      have HC8 : Hid (Blk w8 (w.heap.size + 2) 52 [.int .u8 kind, .int .i64 cid, .slice cga cgn cgc, .int .i64 cmt, .string cmk, .string cmb, .int .i64 id, .int .i64 time, .slice ma mn mc, .int .i64 ct, .int .i64 cw, .int .i64 cn]) := Lib.hid (Blk.step (by repeat (first | (with_reducible exact HC7.out) | ((with_reducible apply Blk.new); focus (first | rfl | (simp; done) | (simp; omega))) | (with_reducible apply Blk.drew) | (with_reducible apply Blk.alloc) | (with_reducible apply Blk.set_) | ((with_reducible apply Blk.far); rotate_left; focus (first | (simp; done) | (simp; omega) | omega)))) hb)
      obtain ⟨⟨⟨d0, d1, d2, d3⟩, ⟨d4, d5, d6, d7⟩, d8, d9, d10, d11⟩, dz⟩ := cells12 HC8.out
      have cl := HC8.out.lt
      clear hb HC7 m0 m1 m2 m3 m4 mz ml HM r0 r1 rz rl HR y0 y1 y2 y3 yz yl HY eo
      go_wp2_with fail
      refine Calls.mono (strDo_any ct cw cn ?_ HKT.out HD.out) ?_
      · exact S.out.below (by repeat (first | (with_reducible exact Below.refl _ _) | (with_reducible exact Below.refl _ _) | (with_reducible apply Below.drew) | (with_reducible apply below_alloc) | ((with_reducible refine Below.alloc ?_ ?_ _); rotate_left; focus (first | (simp; done) | (simp; omega) | omega)) | ((with_reducible refine Below.setCell ?_ ?_ _); rotate_left; focus (first | (simp; done) | (simp; omega) | omega))))
      rintro e w9 ⟨ta9, tc9, rfl, os9, hb⟩
      obtain ⟨a9, cap9, b9, nc9, cc9, ev, -, -⟩ := os9.reads.shape
      cases ev
      replace HB : Hid (Below w.heap.size w _) := below_step (by repeat (first | (with_reducible exact HB.out) | (with_reducible exact Below.refl _ _) | (with_reducible apply Below.drew) | (with_reducible apply below_alloc) | ((with_reducible refine Below.alloc ?_ ?_ _); rotate_left; focus (first | (simp; done) | (simp; omega) | omega)) | ((with_reducible refine Below.setCell ?_ ?_ _); rotate_left; focus (first | (simp; done) | (simp; omega) | omega)))) hb
      clear x0 x1 x2 x3 xz xl
      replace HX : Hid (Blk _ (w3.heap.size) _ _) := Blk.step (by repeat (first | (with_reducible exact HX.out) | ((with_reducible apply Blk.new); focus (first | rfl | (simp; done) | (simp; omega))) | (with_reducible apply Blk.drew) | (with_reducible apply Blk.alloc) | (with_reducible apply Blk.set_) | ((with_reducible apply Blk.far); rotate_left; focus (first | (simp; done) | (simp; omega) | omega)))) hb
      obtain ⟨x0, x1, x2, x3, xz⟩ := cells4 HX.out
      have xl := Blk.lt HX.out
      have HC9 : Hid (Blk w9 (w.heap.size + 2) 52 [.int .u8 kind, .int .i64 cid, .slice cga cgn cgc, .int .i64 cmt, .string cmk, .string cmb, .int .i64 id, .int .i64 time, .slice ma mn mc, .int .i64 ct, .int .i64 cw, .int .i64 cn]) := Lib.hid (Blk.step (by repeat (first | (with_reducible exact HC8.out) | ((with_reducible apply Blk.new); focus (first | rfl | (simp; done) | (simp; omega))) | (with_reducible apply Blk.drew) | (with_reducible apply Blk.alloc) | (with_reducible apply Blk.set_) | ((with_reducible apply Blk.far); rotate_left; focus (first | (simp; done) | (simp; omega) | omega)))) hb)
      have SD : Hid (StrR w9 _ d) := Lib.hid os9.reads
      clear hb os9 d0 d1 d2 d3 d4 d5 d6 d7 d8 d9 d10 d11 dz cl HC8 S
      rcases HCD.out with hj | ⟨hj, HQ⟩
      · have hj' : (j == 0) = false := by simpa using hj
        go_wp2_with fail
        go_ret
        refine ⟨rfl, ?_⟩
        repeat (first | (with_reducible exact HB.out) | (with_reducible exact Below.refl _ _) | (with_reducible apply Below.drew) | (with_reducible apply below_alloc) | ((with_reducible refine Below.alloc ?_ ?_ _); rotate_left; focus (first | (simp; done) | (simp; omega) | omega)) | ((with_reducible refine Below.setCell ?_ ?_ _); rotate_left; focus (first | (simp; done) | (simp; omega) | omega)))
      · subst hj
        obtain ⟨p, h, hp⟩ : ∃ p h, fetchS d other off = (p, h) := ⟨_, _, rfl⟩
        obtain ⟨q, i, hq⟩ : ∃ q i, farS d other who = (q, i) := ⟨_, _, rfl⟩
        have HPP := Lib.hid hp
        have HQQ := Lib.hid hq
        have HKD := Lib.hid (keysS_of_may HQ.out.1)
        have HMD := Lib.hid (show (0 : Int) = if mayS d then 0 else 8 by rw [if_pos HQ.out.1])
        have hsame : other = ct ∨ (other ≠ ct ∧ ((x = p ∧ e1 = h) ∧ y = q ∧ e2 = i)) := by
          by_cases ho : other = ct
          · exact Or.inl ho
          · have h3 := HQ.out.2 ho
            rw [H1.out, H2.out, hp, hq] at h3
            obtain ⟨h3, h4⟩ := h3
            cases h3
            cases h4
            exact Or.inr ⟨ho, ⟨rfl, rfl⟩, rfl, rfl⟩
        have HSM := Lib.hid hsame
        clear hp hq hsame
        go_wp2_with fail
        refine Calls.mono (strFetch_any other off ?_ HKD.out HPP.out) ?_
        · exact SD.out.below (by repeat (first | (with_reducible exact Below.refl _ _) | (with_reducible exact Below.refl _ _) | (with_reducible apply Below.drew) | (with_reducible apply below_alloc) | ((with_reducible refine Below.alloc ?_ ?_ _); rotate_left; focus (first | (simp; done) | (simp; omega) | omega)) | ((with_reducible refine Below.setCell ?_ ?_ _); rotate_left; focus (first | (simp; done) | (simp; omega) | omega))))
        rintro e w10 ⟨rfl, hb⟩
        replace HB : Hid (Below w.heap.size w _) := below_step (by repeat (first | (with_reducible exact HB.out) | (with_reducible exact Below.refl _ _) | (with_reducible apply Below.drew) | (with_reducible apply below_alloc) | ((with_reducible refine Below.alloc ?_ ?_ _); rotate_left; focus (first | (simp; done) | (simp; omega) | omega)) | ((with_reducible refine Below.setCell ?_ ?_ _); rotate_left; focus (first | (simp; done) | (simp; omega) | omega)))) hb
        clear x0 x1 x2 x3 xz xl
        replace HX : Hid (Blk _ (w3.heap.size) _ _) := Blk.step (by repeat (first | (with_reducible exact HX.out) | ((with_reducible apply Blk.new); focus (first | rfl | (simp; done) | (simp; omega))) | (with_reducible apply Blk.drew) | (with_reducible apply Blk.alloc) | (with_reducible apply Blk.set_) | ((with_reducible apply Blk.far); rotate_left; focus (first | (simp; done) | (simp; omega) | omega)))) hb
        obtain ⟨x0, x1, x2, x3, xz⟩ := cells4 HX.out
        have xl := Blk.lt HX.out
        replace SD : Hid (StrR _ _ _) := strR_step SD.out (by repeat (first | (with_reducible exact Below.refl _ _) | (with_reducible exact Below.refl _ _) | (with_reducible apply Below.drew) | (with_reducible apply below_alloc) | ((with_reducible refine Below.alloc ?_ ?_ _); rotate_left; focus (first | (simp; done) | (simp; omega) | omega)) | ((with_reducible refine Below.setCell ?_ ?_ _); rotate_left; focus (first | (simp; done) | (simp; omega) | omega)))) hb
        have HC10 : Hid (Blk w10 (w.heap.size + 2) 52 [.int .u8 kind, .int .i64 cid, .slice cga cgn cgc, .int .i64 cmt, .string cmk, .string cmb, .int .i64 id, .int .i64 time, .slice ma mn mc, .int .i64 ct, .int .i64 cw, .int .i64 cn]) := Lib.hid (Blk.step (by repeat (first | (with_reducible exact HC9.out) | ((with_reducible apply Blk.new); focus (first | rfl | (simp; done) | (simp; omega))) | (with_reducible apply Blk.drew) | (with_reducible apply Blk.alloc) | (with_reducible apply Blk.set_) | ((with_reducible apply Blk.far); rotate_left; focus (first | (simp; done) | (simp; omega) | omega)))) hb)
        have D : Blk _ (w9.heap.size) _ _ := Blk.step (by repeat (first | ((with_reducible apply Blk.new); focus (first | rfl | (simp; done) | (simp; omega))) | (with_reducible apply Blk.drew) | (with_reducible apply Blk.alloc) | (with_reducible apply Blk.set_) | ((with_reducible apply Blk.far); rotate_left; focus (first | (simp; done) | (simp; omega) | omega)))) hb
        obtain ⟨d0, d1, dz⟩ := cells2 D
        have dl := Blk.lt D
        have HD := Lib.hid D
        clear D
        clear hb
        go_wp2_with fail
        refine Calls.mono (strFar_any other who ?_ HKD.out HQQ.out) ?_
        · exact SD.out.below (by repeat (first | (with_reducible exact Below.refl _ _) | (with_reducible exact Below.refl _ _) | (with_reducible apply Below.drew) | (with_reducible apply below_alloc) | ((with_reducible refine Below.alloc ?_ ?_ _); rotate_left; focus (first | (simp; done) | (simp; omega) | omega)) | ((with_reducible refine Below.setCell ?_ ?_ _); rotate_left; focus (first | (simp; done) | (simp; omega) | omega))))
        rintro e w11 ⟨rfl, hb⟩
        replace HB : Hid (Below w.heap.size w _) := below_step (by repeat (first | (with_reducible exact HB.out) | (with_reducible exact Below.refl _ _) | (with_reducible apply Below.drew) | (with_reducible apply below_alloc) | ((with_reducible refine Below.alloc ?_ ?_ _); rotate_left; focus (first | (simp; done) | (simp; omega) | omega)) | ((with_reducible refine Below.setCell ?_ ?_ _); rotate_left; focus (first | (simp; done) | (simp; omega) | omega)))) hb
        clear x0 x1 x2 x3 xz xl
        replace HX : Hid (Blk _ (w3.heap.size) _ _) := Blk.step (by repeat (first | (with_reducible exact HX.out) | ((with_reducible apply Blk.new); focus (first | rfl | (simp; done) | (simp; omega))) | (with_reducible apply Blk.drew) | (with_reducible apply Blk.alloc) | (with_reducible apply Blk.set_) | ((with_reducible apply Blk.far); rotate_left; focus (first | (simp; done) | (simp; omega) | omega)))) hb
        obtain ⟨x0, x1, x2, x3, xz⟩ := cells4 HX.out
        have xl := Blk.lt HX.out
        clear d0 d1 dz dl
        replace HD : Hid (Blk _ (w9.heap.size) _ _) := Blk.step (by repeat (first | (with_reducible exact HD.out) | ((with_reducible apply Blk.new); focus (first | rfl | (simp; done) | (simp; omega))) | (with_reducible apply Blk.drew) | (with_reducible apply Blk.alloc) | (with_reducible apply Blk.set_) | ((with_reducible apply Blk.far); rotate_left; focus (first | (simp; done) | (simp; omega) | omega)))) hb
        obtain ⟨d0, d1, dz⟩ := cells2 HD.out
        have dl := Blk.lt HD.out
        replace SD : Hid (StrR _ _ _) := strR_step SD.out (by repeat (first | (with_reducible exact Below.refl _ _) | (with_reducible exact Below.refl _ _) | (with_reducible apply Below.drew) | (with_reducible apply below_alloc) | ((with_reducible refine Below.alloc ?_ ?_ _); rotate_left; focus (first | (simp; done) | (simp; omega) | omega)) | ((with_reducible refine Below.setCell ?_ ?_ _); rotate_left; focus (first | (simp; done) | (simp; omega) | omega)))) hb
        have HC11 : Hid (Blk w11 (w.heap.size + 2) 52 [.int .u8 kind, .int .i64 cid, .slice cga cgn cgc, .int .i64 cmt, .string cmk, .string cmb, .int .i64 id, .int .i64 time, .slice ma mn mc, .int .i64 ct, .int .i64 cw, .int .i64 cn]) := Lib.hid (Blk.step (by repeat (first | (with_reducible exact HC10.out) | ((with_reducible apply Blk.new); focus (first | rfl | (simp; done) | (simp; omega))) | (with_reducible apply Blk.drew) | (with_reducible apply Blk.alloc) | (with_reducible apply Blk.set_) | ((with_reducible apply Blk.far); rotate_left; focus (first | (simp; done) | (simp; omega) | omega)))) hb)
        have E : Blk _ (w10.heap.size) _ _ := Blk.step (by repeat (first | ((with_reducible apply Blk.new); focus (first | rfl | (simp; done) | (simp; omega))) | (with_reducible apply Blk.drew) | (with_reducible apply Blk.alloc) | (with_reducible apply Blk.set_) | ((with_reducible apply Blk.far); rotate_left; focus (first | (simp; done) | (simp; omega) | omega)))) hb
        obtain ⟨e0, e1, e2, e3, ez⟩ := cells4 E
        have el := Blk.lt E
        have HE := Lib.hid E
        clear E
        obtain ⟨⟨-, -, -, d9, -, -⟩, dz⟩ := cells12 HC11.out
        have cl := HC11.out.lt
        clear hb HC10 HC9
        have fin : ∀ W1 : World, Below w11.heap.size w11 W1 → Hid (Below w.heap.size w W1) := fun W1 hw => Lib.hid (HB.out.trans (hw.mono (by have := HB.out.size; omega)))
        have FIN := Lib.hid fin
        clear fin
        rcases HSM.out with ho | ⟨ho, ⟨rfl, rfl⟩, rfl, rfl⟩
        · have eo : (other != ct) = false := by simpa using ho
          clear ho HPP HQQ HE
          go_wp2_with fail
          refine Calls.mono (strCheck_any SD.out HKD.out 0 HMD.out) ?_
          rintro e w12 ⟨rfl, hb⟩
          have HB9 := FIN.out _ hb
          clear hb
          go_wp2_with fail
          go_ret
          exact ⟨rfl, HB9.out⟩
        · have eo : (other != ct) = true := by simpa using ho
          have hE := HE.out
          clear ho HPP HQQ
          go_wp2_with fail
          refine Calls.mono (strCheck_any SD.out HKD.out 0 HMD.out) ?_
          rintro e w12 ⟨rfl, hb⟩
          have HB9 := FIN.out _ hb
          clear hb
          go_wp2_with fail
          go_ret
          exact ⟨rfl, HB9.out⟩
    · have eo : (other != mt) = true := by simpa using ho
      have hE := HE.out
      clear ho HPP HFAR
      go_wp2_with fail
      refine Calls.mono (strCheck_any ?_ HKU.out 0 HMU.out) ?_
      · exact SU.out.below (by repeat (first | (with_reducible exact Below.refl _ _) | (with_reducible exact Below.refl _ _) | (with_reducible apply Below.drew) | (with_reducible apply below_alloc) | ((with_reducible refine Below.alloc ?_ ?_ _); rotate_left; focus (first | (simp; done) | (simp; omega) | omega)) | ((with_reducible refine Below.setCell ?_ ?_ _); rotate_left; focus (first | (simp; done) | (simp; omega) | omega))))
      rintro e w8 ⟨rfl, hb⟩
      replace HB : Hid (Below w.heap.size w _) := below_step (by repeat (first | (with_reducible exact HB.out) | (with_reducible exact Below.refl _ _) | (with_reducible apply Below.drew) | (with_reducible apply below_alloc) | ((with_reducible refine Below.alloc ?_ ?_ _); rotate_left; focus (first | (simp; done) | (simp; omega) | omega)) | ((with_reducible refine Below.setCell ?_ ?_ _); rotate_left; focus (first | (simp; done) | (simp; omega) | omega)))) hb
      clear a0 a1 az al
      replace HA : Hid (Blk _ (w.heap.size) _ _) := Blk.step (by repeat (first | (with_reducible exact HA.out) | ((with_reducible apply Blk.new); focus (first | rfl | (simp; done) | (simp; omega))) | (with_reducible apply Blk.drew) | (with_reducible apply Blk.alloc) | (with_reducible apply Blk.set_) | ((with_reducible apply Blk.far); rotate_left; focus (first | (simp; done) | (simp; omega) | omega)))) hb
      obtain ⟨a0, a1, az⟩ := cells2 HA.out
      have al := Blk.lt HA.out
      clear x0 x1 x2 x3 xz xl
      replace HX : Hid (Blk _ (w3.heap.size) _ _) := Blk.step (by repeat (first | (with_reducible exact HX.out) | ((with_reducible apply Blk.new); focus (first | rfl | (simp; done) | (simp; omega))) | (with_reducible apply Blk.drew) | (with_reducible apply Blk.alloc) | (with_reducible apply Blk.set_) | ((with_reducible apply Blk.far); rotate_left; focus (first | (simp; done) | (simp; omega) | omega)))) hb
      obtain ⟨x0, x1, x2, x3, xz⟩ := cells4 HX.out
      have xl := Blk.lt HX.out
      replace S : Hid (StrR _ _ _) := strR_step S.out (by repeat (first | (with_reducible exact Below.refl _ _) | (with_reducible exact Below.refl _ _) | (with_reducible apply Below.drew) | (with_reducible apply below_alloc) | ((with_reducible refine Below.alloc ?_ ?_ _); rotate_left; focus (first | (simp; done) | (simp; omega) | omega)) | ((with_reducible refine Below.setCell ?_ ?_ _); rotate_left; focus (first | (simp; done) | (simp; omega) | omega)))) hb
      have HC8 : Hid (Blk w8 (w.heap.size + 2) 52 [.int .u8 kind, .int .i64 cid, .slice cga cgn cgc, .int .i64 cmt, .string cmk, .string cmb, .int .i64 id, .int .i64 time, .slice ma mn mc, .int .i64 ct, .int .i64 cw, .int .i64 cn]) := Lib.hid (Blk.step (by repeat (first | (with_reducible exact HC7.out) | ((with_reducible apply Blk.new); focus (first | rfl | (simp; done) | (simp; omega))) | (with_reducible apply Blk.drew) | (with_reducible apply Blk.alloc) | (with_reducible apply Blk.set_) | ((with_reducible apply Blk.far); rotate_left; focus (first | (simp; done) | (simp; omega) | omega)))) hb)
      obtain ⟨⟨⟨d0, d1, d2, d3⟩, ⟨d4, d5, d6, d7⟩, d8, d9, d10, d11⟩, dz⟩ := cells12 HC8.out
      have cl := HC8.out.lt
      clear hb HC7 m0 m1 m2 m3 m4 mz ml HM r0 r1 rz rl HR y0 y1 y2 y3 yz yl HY eo hE
      go_wp2_with fail
      refine Calls.mono (strDo_any ct cw cn ?_ HKT.out HD.out) ?_
      · exact S.out.below (by repeat (first | (with_reducible exact Below.refl _ _) | (with_reducible exact Below.refl _ _) | (with_reducible apply Below.drew) | (with_reducible apply below_alloc) | ((with_reducible refine Below.alloc ?_ ?_ _); rotate_left; focus (first | (simp; done) | (simp; omega) | omega)) | ((with_reducible refine Below.setCell ?_ ?_ _); rotate_left; focus (first | (simp; done) | (simp; omega) | omega))))
      rintro e w9 ⟨ta9, tc9, rfl, os9, hb⟩
      obtain ⟨a9, cap9, b9, nc9, cc9, ev, -, -⟩ := os9.reads.shape
      cases ev
      replace HB : Hid (Below w.heap.size w _) := below_step (by repeat (first | (with_reducible exact HB.out) | (with_reducible exact Below.refl _ _) | (with_reducible apply Below.drew) | (with_reducible apply below_alloc) | ((with_reducible refine Below.alloc ?_ ?_ _); rotate_left; focus (first | (simp; done) | (simp; omega) | omega)) | ((with_reducible refine Below.setCell ?_ ?_ _); rotate_left; focus (first | (simp; done) | (simp; omega) | omega)))) hb
      clear x0 x1 x2 x3 xz xl
      replace HX : Hid (Blk _ (w3.heap.size) _ _) := Blk.step (by repeat (first | (with_reducible exact HX.out) | ((with_reducible apply Blk.new); focus (first | rfl | (simp; done) | (simp; omega))) | (with_reducible apply Blk.drew) | (with_reducible apply Blk.alloc) | (with_reducible apply Blk.set_) | ((with_reducible apply Blk.far); rotate_left; focus (first | (simp; done) | (simp; omega) | omega)))) hb
      obtain ⟨x0, x1, x2, x3, xz⟩ := cells4 HX.out
      have xl := Blk.lt HX.out
      have HC9 : Hid (Blk w9 (w.heap.size + 2) 52 [.int .u8 kind, .int .i64 cid, .slice cga cgn cgc, .int .i64 cmt, .string cmk, .string cmb, .int .i64 id, .int .i64 time, .slice ma mn mc, .int .i64 ct, .int .i64 cw, .int .i64 cn]) := Lib.hid (Blk.step (by repeat (first | (with_reducible exact HC8.out) | ((with_reducible apply Blk.new); focus (first | rfl | (simp; done) | (simp; omega))) | (with_reducible apply Blk.drew) | (with_reducible apply Blk.alloc) | (with_reducible apply Blk.set_) | ((with_reducible apply Blk.far); rotate_left; focus (first | (simp; done) | (simp; omega) | omega)))) hb)
      have SD : Hid (StrR w9 _ d) := Lib.hid os9.reads
      clear hb os9 d0 d1 d2 d3 d4 d5 d6 d7 d8 d9 d10 d11 dz cl HC8 S
      rcases HCD.out with hj | ⟨hj, HQ⟩
      · have hj' : (j == 0) = false := by simpa using hj
        go_wp2_with fail
        go_ret
        refine ⟨rfl, ?_⟩
        repeat (first | (with_reducible exact HB.out) | (with_reducible exact Below.refl _ _) | (with_reducible apply Below.drew) | (with_reducible apply below_alloc) | ((with_reducible refine Below.alloc ?_ ?_ _); rotate_left; focus (first | (simp; done) | (simp; omega) | omega)) | ((with_reducible refine Below.setCell ?_ ?_ _); rotate_left; focus (first | (simp; done) | (simp; omega) | omega)))
      · subst hj
        obtain ⟨p, h, hp⟩ : ∃ p h, fetchS d other off = (p, h) := ⟨_, _, rfl⟩
        obtain ⟨q, i, hq⟩ : ∃ q i, farS d other who = (q, i) := ⟨_, _, rfl⟩
        have HPP := Lib.hid hp
        have HQQ := Lib.hid hq
        have HKD := Lib.hid (keysS_of_may HQ.out.1)
        have HMD := Lib.hid (show (0 : Int) = if mayS d then 0 else 8 by rw [if_pos HQ.out.1])
        have hsame : other = ct ∨ (other ≠ ct ∧ ((x = p ∧ e1 = h) ∧ y = q ∧ e2 = i)) := by
          by_cases ho : other = ct
          · exact Or.inl ho
          · have h3 := HQ.out.2 ho
            rw [H1.out, H2.out, hp, hq] at h3
            obtain ⟨h3, h4⟩ := h3
            cases h3
            cases h4
            exact Or.inr ⟨ho, ⟨rfl, rfl⟩, rfl, rfl⟩
        have HSM := Lib.hid hsame
        clear hp hq hsame
        go_wp2_with fail
        refine Calls.mono (strFetch_any other off ?_ HKD.out HPP.out) ?_
        · exact SD.out.below (by repeat (first | (with_reducible exact Below.refl _ _) | (with_reducible exact Below.refl _ _) | (with_reducible apply Below.drew) | (with_reducible apply below_alloc) | ((with_reducible refine Below.alloc ?_ ?_ _); rotate_left; focus (first | (simp; done) | (simp; omega) | omega)) | ((with_reducible refine Below.setCell ?_ ?_ _); rotate_left; focus (first | (simp; done) | (simp; omega) | omega))))
        rintro e w10 ⟨rfl, hb⟩
        replace HB : Hid (Below w.heap.size w _) := below_step (by repeat (first | (with_reducible exact HB.out) | (with_reducible exact Below.refl _ _) | (with_reducible apply Below.drew) | (with_reducible apply below_alloc) | ((with_reducible refine Below.alloc ?_ ?_ _); rotate_left; focus (first | (simp; done) | (simp; omega) | omega)) | ((with_reducible refine Below.setCell ?_ ?_ _); rotate_left; focus (first | (simp; done) | (simp; omega) | omega)))) hb
        clear x0 x1 x2 x3 xz xl
        replace HX : Hid (Blk _ (w3.heap.size) _ _) := Blk.step (by repeat (first | (with_reducible exact HX.out) | ((with_reducible apply Blk.new); focus (first | rfl | (simp; done) | (simp; omega))) | (with_reducible apply Blk.drew) | (with_reducible apply Blk.alloc) | (with_reducible apply Blk.set_) | ((with_reducible apply Blk.far); rotate_left; focus (first | (simp; done) | (simp; omega) | omega)))) hb
        obtain ⟨x0, x1, x2, x3, xz⟩ := cells4 HX.out
        have xl := Blk.lt HX.out
        replace SD : Hid (StrR _ _ _) := strR_step SD.out (by repeat (first | (with_reducible exact Below.refl _ _) | (with_reducible exact Below.refl _ _) | (with_reducible apply Below.drew) | (with_reducible apply below_alloc) | ((with_reducible refine Below.alloc ?_ ?_ _); rotate_left; focus (first | (simp; done) | (simp; omega) | omega)) | ((with_reducible refine Below.setCell ?_ ?_ _); rotate_left; focus (first | (simp; done) | (simp; omega) | omega)))) hb
        have HC10 : Hid (Blk w10 (w.heap.size + 2) 52 [.int .u8 kind, .int .i64 cid, .slice cga cgn cgc, .int .i64 cmt, .string cmk, .string cmb, .int .i64 id, .int .i64 time, .slice ma mn mc, .int .i64 ct, .int .i64 cw, .int .i64 cn]) := Lib.hid (Blk.step (by repeat (first | (with_reducible exact HC9.out) | ((with_reducible apply Blk.new); focus (first | rfl | (simp; done) | (simp; omega))) | (with_reducible apply Blk.drew) | (with_reducible apply Blk.alloc) | (with_reducible apply Blk.set_) | ((with_reducible apply Blk.far); rotate_left; focus (first | (simp; done) | (simp; omega) | omega)))) hb)
        have D : Blk _ (w9.heap.size) _ _ := Blk.step (by repeat (first | ((with_reducible apply Blk.new); focus (first | rfl | (simp; done) | (simp; omega))) | (with_reducible apply Blk.drew) | (with_reducible apply Blk.alloc) | (with_reducible apply Blk.set_) | ((with_reducible apply Blk.far); rotate_left; focus (first | (simp; done) | (simp; omega) | omega)))) hb
        obtain ⟨d0, d1, dz⟩ := cells2 D
        have dl := Blk.lt D
        have HD := Lib.hid D
        clear D
        clear hb
        go_wp2_with fail
        refine Calls.mono (strFar_any other who ?_ HKD.out HQQ.out) ?_
        · exact SD.out.below (by repeat (first | (with_reducible exact Below.refl _ _) | (with_reducible exact Below.refl _ _) | (with_reducible apply Below.drew) | (with_reducible apply below_alloc) | ((with_reducible refine Below.alloc ?_ ?_ _); rotate_left; focus (first | (simp; done) | (simp; omega) | omega)) | ((with_reducible refine Below.setCell ?_ ?_ _); rotate_left; focus (first | (simp; done) | (simp; omega) | omega))))
        rintro e w11 ⟨rfl, hb⟩
        replace HB : Hid (Below w.heap.size w _) := below_step (by repeat (first | (with_reducible exact HB.out) | (with_reducible exact Below.refl _ _) | (with_reducible apply Below.drew) | (with_reducible apply below_alloc) | ((with_reducible refine Below.alloc ?_ ?_ _); rotate_left; focus (first | (simp; done) | (simp; omega) | omega)) | ((with_reducible refine Below.setCell ?_ ?_ _); rotate_left; focus (first | (simp; done) | (simp; omega) | omega)))) hb
        clear x0 x1 x2 x3 xz xl
        replace HX : Hid (Blk _ (w3.heap.size) _ _) := Blk.step (by repeat (first | (with_reducible exact HX.out) | ((with_reducible apply Blk.new); focus (first | rfl | (simp; done) | (simp; omega))) | (with_reducible apply Blk.drew) | (with_reducible apply Blk.alloc) | (with_reducible apply Blk.set_) | ((with_reducible apply Blk.far); rotate_left; focus (first | (simp; done) | (simp; omega) | omega)))) hb
        obtain ⟨x0, x1, x2, x3, xz⟩ := cells4 HX.out
        have xl := Blk.lt HX.out
        clear d0 d1 dz dl
        replace HD : Hid (Blk _ (w9.heap.size) _ _) := Blk.step (by repeat (first | (with_reducible exact HD.out) | ((with_reducible apply Blk.new); focus (first | rfl | (simp; done) | (simp; omega))) | (with_reducible apply Blk.drew) | (with_reducible apply Blk.alloc) | (with_reducible apply Blk.set_) | ((with_reducible apply Blk.far); rotate_left; focus (first | (simp; done) | (simp; omega) | omega)))) hb
        obtain ⟨d0, d1, dz⟩ := cells2 HD.out
        have dl := Blk.lt HD.out
        replace SD : Hid (StrR _ _ _) := strR_step SD.out (by repeat (first | (with_reducible exact Below.refl _ _) | (with_reducible exact Below.refl _ _) | (with_reducible apply Below.drew) | (with_reducible apply below_alloc) | ((with_reducible refine Below.alloc ?_ ?_ _); rotate_left; focus (first | (simp; done) | (simp; omega) | omega)) | ((with_reducible refine Below.setCell ?_ ?_ _); rotate_left; focus (first | (simp; done) | (simp; omega) | omega)))) hb
        have HC11 : Hid (Blk w11 (w.heap.size + 2) 52 [.int .u8 kind, .int .i64 cid, .slice cga cgn cgc, .int .i64 cmt, .string cmk, .string cmb, .int .i64 id, .int .i64 time, .slice ma mn mc, .int .i64 ct, .int .i64 cw, .int .i64 cn]) := Lib.hid (Blk.step (by repeat (first | (with_reducible exact HC10.out) | ((with_reducible apply Blk.new); focus (first | rfl | (simp; done) | (simp; omega))) | (with_reducible apply Blk.drew) | (with_reducible apply Blk.alloc) | (with_reducible apply Blk.set_) | ((with_reducible apply Blk.far); rotate_left; focus (first | (simp; done) | (simp; omega) | omega)))) hb)
        have E : Blk _ (w10.heap.size) _ _ := Blk.step (by repeat (first | ((with_reducible apply Blk.new); focus (first | rfl | (simp; done) | (simp; omega))) | (with_reducible apply Blk.drew) | (with_reducible apply Blk.alloc) | (with_reducible apply Blk.set_) | ((with_reducible apply Blk.far); rotate_left; focus (first | (simp; done) | (simp; omega) | omega)))) hb
        obtain ⟨e0, e1, e2, e3, ez⟩ := cells4 E
        have el := Blk.lt E
        have HE := Lib.hid E
        clear E
        obtain ⟨⟨-, -, -, d9, -, -⟩, dz⟩ := cells12 HC11.out
        have cl := HC11.out.lt
        clear hb HC10 HC9
        have fin : ∀ W1 : World, Below w11.heap.size w11 W1 → Hid (Below w.heap.size w W1) := fun W1 hw => Lib.hid (HB.out.trans (hw.mono (by have := HB.out.size; omega)))
        have FIN := Lib.hid fin
        clear fin
        rcases HSM.out with ho | ⟨ho, ⟨rfl, rfl⟩, rfl, rfl⟩
        · have eo : (other != ct) = false := by simpa using ho
          clear ho HPP HQQ HE
          go_wp2_with fail
          refine Calls.mono (strCheck_any SD.out HKD.out 0 HMD.out) ?_
          rintro e w12 ⟨rfl, hb⟩
          have HB9 := FIN.out _ hb
          clear hb
          go_wp2_with fail
          go_ret
          exact ⟨rfl, HB9.out⟩
        · have eo : (other != ct) = true := by simpa using ho
          have hE := HE.out
          clear ho HPP HQQ
          go_wp2_with fail
          refine Calls.mono (strCheck_any SD.out HKD.out 0 HMD.out) ?_
          rintro e w12 ⟨rfl, hb⟩
          have HB9 := FIN.out _ hb
          clear hb
          go_wp2_with fail
          go_ret
          exact ⟨rfl, HB9.out⟩

theorem own : ownKnob Try.prog.godebug = none := by kernel_rfl

set_option maxRecDepth 100000 in
set_option linter.unusedVariables false in
theorem lifted (os : Os) (started : os.Started) (H : Type) (enc : TypeId × Value → H) :
    ReturnsInHanded {} Try.checked os 7 .any (Rows.streamApartSpec.pre6 enc Try.prog Try.f7 Rows.streamApartRow.domain false) (Rows.streamApartSpec.post enc Try.prog Try.f7 false true false false) := by
  refine returnsInHanded_of_change_sized (C := Try.checked) own started (by kernel_rfl) Try.func7
    (ChangeSpec.witness6 (enc := enc) (C := Try.checked) false ⟨#[], #[.agg #[.slice none 0 0, .slice none 0 0], .agg #[.int .i64 0, .slice none 0 0, .int .i64 0, .string ByteArray.empty, .string ByteArray.empty], .agg #[.int .u8 0, .int .i64 0, .slice none 0 0, .int .i64 0, .string ByteArray.empty, .string ByteArray.empty, .int .i64 0, .int .i64 0, .slice none 0 0, .int .i64 0, .int .i64 0, .int .i64 0], .int .i64 0, .int .i64 0, .int .i64 0], []⟩ 8 (by kernel_rfl) (by kernel_rfl) (by kernel_rfl) (by kernel_rfl)) ?_
  intro W base args ds gs before hval0 hW hcnd hsz0 hholds
  have hsz : (DataW.weightsEach Try.prog (Try.f7.params.toList ++ Rows.streamApartSpec.plain.varTypes Try.prog) (ds ++ gs)).all (· ≤ reachBytes) = true := hsz0
  have hval : ∀ (j : Nat) t v, Try.f7.params[j]? = some t → args[j]? = some v → Value.okWide Try.prog W .any base t v := hval0
  have hW' := hW
  obtain ⟨p, q, hA0, hV, _, hfz, _⟩ := hW
  have hA : DataW.TrodAll enc Try.prog W 0 (fun _ => true) true Try.f7.params.toList args.toList ds p := hA0
  rw [Try.params7] at hA hval hsz
  obtain ⟨v0, vs0, d0, ds0, p0, q0, hargs, rfl, rfl, h0, r0⟩ := trodAll_cons hA
  obtain ⟨v1, vs1, d1, ds1, p1, q1, rfl, rfl, rfl, h1, r1⟩ := trodAll_cons r0
  obtain ⟨v2, vs2, d2, ds2, p2, q2, rfl, rfl, rfl, h2, r2⟩ := trodAll_cons r1
  obtain ⟨v3, vs3, d3, ds3, p3, q3, rfl, rfl, rfl, h3, r3⟩ := trodAll_cons r2
  obtain ⟨v4, vs4, d4, ds4, p4, q4, rfl, rfl, rfl, h4, r4⟩ := trodAll_cons r3
  obtain ⟨v5, vs5, d5, ds5, p5, q5, rfl, rfl, rfl, h5, r5⟩ := trodAll_cons r4
  obtain ⟨rfl, rfl, rfl⟩ := trodAll_nil r5
  obtain rfl : args = #[v0, v1, v2, v3, v4, v5] := by cases args; simp_all
  obtain ⟨rfl, _⟩ := trodVars_none hV
  have hwt : ∀ (j : Nat) (t : TypeId) (d : DataW H), (_ : List TypeId)[j]? = some t → (_ : List (DataW H))[j]? = some d → ∀ n ∈ d.weights Try.prog t, n ≤ reachBytes := fun j t d ht hd n hn => by simpa using List.all_eq_true.1 hsz n (DataW.weights_mem_each ht hd n hn)
  obtain ⟨t0, R0, F0⟩ := open_stream (hval 0 _ v0 rfl rfl) h0 (hwt 0 _ _ rfl rfl) ⟨Try.underlying25, cells_strm, Try.underlying22, cells_tops, Try.underlying23, cells_rows, Try.underlying48, cells_row, ⟨rfl, rfl⟩, ⟨rfl, rfl⟩⟩ ⟨Try.underlying72, cells_top, Try.underlying70, cells_ents, Try.underlying29, cells_ent, Try.underlying3, cells_int, Try.underlying9, cells_str, ⟨rfl, rfl⟩, ⟨rfl, rfl⟩, ⟨rfl, rfl⟩, ⟨rfl, rfl⟩, ⟨rfl, rfl⟩, ⟨rfl, rfl⟩, ⟨rfl, rfl⟩, ⟨rfl, rfl⟩⟩
  obtain ⟨m1, rfl, o1⟩ := open_msg (hval 1 _ v1 rfl rfl) h1 (hwt 1 _ _ rfl rfl) ⟨Try.underlying50, cells_msg, Try.underlying48, cells_row, Try.underlying3, cells_int, Try.underlying9, cells_str, ⟨rfl, rfl⟩, ⟨rfl, rfl⟩, ⟨rfl, rfl⟩, ⟨rfl, rfl⟩, ⟨rfl, rfl⟩⟩
  obtain ⟨c2, rfl, o2⟩ := open_cmd (hval 2 _ v2 rfl rfl) h2 (hwt 2 _ _ rfl rfl) ⟨Try.underlying52, cells_cmd, Try.underlying5, cells_u8, ⟨rfl, rfl⟩, ⟨rfl, rfl⟩, ⟨rfl, rfl⟩, ⟨rfl, rfl⟩, ⟨rfl, rfl⟩, ⟨rfl, rfl⟩, ⟨rfl, rfl⟩, ⟨rfl, rfl⟩⟩ ⟨Try.underlying50, cells_msg, Try.underlying48, cells_row, Try.underlying3, cells_int, Try.underlying9, cells_str, ⟨rfl, rfl⟩, ⟨rfl, rfl⟩, ⟨rfl, rfl⟩, ⟨rfl, rfl⟩, ⟨rfl, rfl⟩⟩
  obtain ⟨a3, rfl, rfl, _, w3⟩ := open_int Try.underlying3 (hval 3 _ v3 rfl rfl) h3
  obtain ⟨a4, rfl, rfl, _, w4⟩ := open_int Try.underlying3 (hval 4 _ v4 rfl rfl) h4
  obtain ⟨a5, rfl, rfl, _, w5⟩ := open_int Try.underlying3 (hval 5 _ v5 rfl rfl) h5
  refine (walk m1 c2 a3 a4 a5 R0 F0).mono fun e W' ⟨he, hb⟩ => ?_
  subst he
  exact ⟨_, rfl, law_post hW' rfl rfl rfl Try.underlying4 (by kernel_rfl) (by kernel_rfl) hb⟩

theorem over : Rows.streamApartRow.holds Try.pinned (OpenSpec.ofChange Rows.streamApartSpec) :=
  OpenClaim.holds_of_wide 7 Try.f7 rfl rfl rfl rfl rfl rfl rfl ⟨rfl, rfl, rfl, rfl, rfl⟩ rfl rfl rfl rfl rfl (by kernel_rfl) Try.func7 (by kernel_rfl)
    (of_decide_eq_true (by kernel_rfl)) (by unfold Func.isWrapper; rw [if_neg (of_decide_eq_false (by kernel_rfl))]; exact ⟨rfl, rfl⟩)
    (fun os started H enc _ => lifted os started H enc)

theorem proved : Rows.StreamApartSaid := over
#print axioms proved

end Go.Proofs.Ytblgmjbajnkcdaa.StreamApart
