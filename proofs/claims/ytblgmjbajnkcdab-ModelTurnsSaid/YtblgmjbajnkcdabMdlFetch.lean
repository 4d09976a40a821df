/-
  model.Fetch: what stands at an offset of a model.
-/
import Derived.Test.YtblgmjbajnkcdabMdlOne
namespace Go.Proofs.Ytblgmjbajnkcdab
open Go.RowKit

theorem cells4_alloc {w : World} {g : Nat} {t : TypeId} {a b c d : Value} (h : Blk w g t [a, b, c, d]) :
    (∀ o, (w.alloc o).cell? ⟨g, 0, none⟩ = some a) ∧ (∀ o, (w.alloc o).cell? ⟨g, 1, none⟩ = some b) ∧ (∀ o, (w.alloc o).cell? ⟨g, 2, none⟩ = some c) ∧ ∀ o, (w.alloc o).cell? ⟨g, 3, none⟩ = some d := ⟨fun o => (h.alloc o).cell 0, fun o => (h.alloc o).cell 1, fun o => (h.alloc o).cell 2, fun o => (h.alloc o).cell 3⟩

set_option maxHeartbeats 8000000 in
set_option maxRecDepth 100000 in
theorem mdlFetch_any {v : Value} {m : Mdl} {w : World} {x : Ent} {y : Int} (n o : Int) (h : MdlR w v m) (hf : few m.coms) (hu : fetchM m n o = (x, y)) :
    Calls Try.prog 10 #[v, .int .i64 n, .int .i64 o] w (EntEnd x y w) := by
  have S := Lib.hid h
  have HF := Lib.hid hf
  obtain ⟨a, cap, b, nc, cc, rfl, -, -⟩ := h.shape
  obtain ⟨p, c, hp⟩ : ∃ p c, oneM m n = (p, c) := ⟨_, _, rfl⟩
  have HP := Lib.hid hp
  obtain ⟨nt, hnt⟩ : ∃ nt, nt = m.tops.length := ⟨_, rfl⟩
  rw [← hnt] at S ⊢
  rw [fetchM] at hu
  by_cases ha : askM m n = 0
  · rw [if_pos ha] at hu
    obtain ⟨hm, h0, h1⟩ := askM_zero.1 ha
    have hpp : p = plN m n ∧ c = 0 := by rw [oneM, if_pos ha] at hp; cases hp; exact ⟨rfl, rfl⟩
    obtain ⟨hpp, rfl⟩ := hpp
    have HSH := Lib.hid (show shapedP p by rw [hpp]; exact mayM_shaped hm _ (plN_mem hm h0 h1))
    rw [← hpp] at hu
    obtain ⟨an, han⟩ : ∃ an, an = p.all.length := ⟨_, rfl⟩
    have HAN := Lib.hid han
    rw [fetchL, ← han] at hu
    have HU := Lib.hid hu
    clear h hf hp hnt ha hm h0 h1 hpp hu han
    by_cases c1 : o < 0
    · have hu := HU.out
      rw [if_pos c1] at hu
      cases hu
      go_enter Try.func10, Try.ntmps10
      go_wp2_with fail
      refine Calls.mono (mdlOne_any n ?_ HF.out HP.out) ?_
      · exact S.out.below (by repeat (first | (with_reducible exact Below.refl _ _) | (with_reducible exact Below.refl _ _) | (with_reducible apply Below.drew) | (with_reducible apply below_alloc) | ((with_reducible refine Below.alloc ?_ ?_ _); rotate_left; focus (first | (simp; done) | (simp; omega) | omega)) | ((with_reducible refine Below.setCell ?_ ?_ _); rotate_left; focus (first | (simp; done) | (simp; omega) | omega))))
      rintro e w1 ⟨ea, ecap, rfl, hpl, hb⟩
      have HB : Hid (Below w.heap.size w _) := below_step (by repeat (first | (with_reducible exact Below.refl _ _) | (with_reducible exact Below.refl _ _) | (with_reducible apply Below.drew) | (with_reducible apply below_alloc) | ((with_reducible refine Below.alloc ?_ ?_ _); rotate_left; focus (first | (simp; done) | (simp; omega) | omega)) | ((with_reducible refine Below.setCell ?_ ?_ _); rotate_left; focus (first | (simp; done) | (simp; omega) | omega)))) hb
      have R : Blk _ (w.heap.size + 1) _ _ := Blk.step (by repeat (first | ((with_reducible apply Blk.new); focus (first | rfl | (simp; done) | (simp; omega))) | (with_reducible apply Blk.drew) | (with_reducible apply Blk.alloc) | (with_reducible apply Blk.set_) | ((with_reducible apply Blk.far); rotate_left; focus (first | (simp; done) | (simp; omega) | omega)))) hb
      obtain ⟨r0, r1, r2, r3, rz⟩ := cells4 R
      have rl := Blk.lt R
      have HR := Lib.hid R
      clear R
      have PP := Lib.hid hpl
      clear hb hpl
      rw [← HAN.out] at PP ⊢
      go_wp2_with fail
      obtain ⟨t0, t1, t2, t3⟩ := cells4_alloc ((((HR.out.set_ 0 (.int .i64 0)).set_ 1 (.int .i64 0)).set_ 2 (.string ⟨#[]⟩)).set_ 3 (.string ⟨#[]⟩))
      refine bodyPost_ret (v := .tuple #[.agg #[.int .i64 0, .int .i64 0, .string ⟨#[]⟩, .string ⟨#[]⟩], .int .i64 2]) (by simp [results, Try.results10, go_sem, t0, t1, t2, t3]) rfl ⟨rfl, ?_⟩
      repeat (first | (with_reducible exact HB.out) | (with_reducible exact Below.refl _ _) | (with_reducible apply Below.drew) | (with_reducible apply below_alloc) | ((with_reducible refine Below.alloc ?_ ?_ _); rotate_left; focus (first | (simp; done) | (simp; omega) | omega)) | ((with_reducible refine Below.setCell ?_ ?_ _); rotate_left; focus (first | (simp; done) | (simp; omega) | omega)))
    by_cases c2 : (an : Int) ≤ o
    · have hu := HU.out
      rw [if_neg c1, if_pos c2] at hu
      cases hu
      go_enter Try.func10, Try.ntmps10
      go_wp2_with fail
      refine Calls.mono (mdlOne_any n ?_ HF.out HP.out) ?_
      · exact S.out.below (by repeat (first | (with_reducible exact Below.refl _ _) | (with_reducible exact Below.refl _ _) | (with_reducible apply Below.drew) | (with_reducible apply below_alloc) | ((with_reducible refine Below.alloc ?_ ?_ _); rotate_left; focus (first | (simp; done) | (simp; omega) | omega)) | ((with_reducible refine Below.setCell ?_ ?_ _); rotate_left; focus (first | (simp; done) | (simp; omega) | omega))))
      rintro e w1 ⟨ea, ecap, rfl, hpl, hb⟩
      have HB : Hid (Below w.heap.size w _) := below_step (by repeat (first | (with_reducible exact Below.refl _ _) | (with_reducible exact Below.refl _ _) | (with_reducible apply Below.drew) | (with_reducible apply below_alloc) | ((with_reducible refine Below.alloc ?_ ?_ _); rotate_left; focus (first | (simp; done) | (simp; omega) | omega)) | ((with_reducible refine Below.setCell ?_ ?_ _); rotate_left; focus (first | (simp; done) | (simp; omega) | omega)))) hb
      have R : Blk _ (w.heap.size + 1) _ _ := Blk.step (by repeat (first | ((with_reducible apply Blk.new); focus (first | rfl | (simp; done) | (simp; omega))) | (with_reducible apply Blk.drew) | (with_reducible apply Blk.alloc) | (with_reducible apply Blk.set_) | ((with_reducible apply Blk.far); rotate_left; focus (first | (simp; done) | (simp; omega) | omega)))) hb
      obtain ⟨r0, r1, r2, r3, rz⟩ := cells4 R
      have rl := Blk.lt R
      have HR := Lib.hid R
      clear R
      have PP := Lib.hid hpl
      clear hb hpl
      rw [← HAN.out] at PP ⊢
      go_wp2_with fail
      obtain ⟨t0, t1, t2, t3⟩ := cells4_alloc ((((HR.out.set_ 0 (.int .i64 0)).set_ 1 (.int .i64 0)).set_ 2 (.string ⟨#[]⟩)).set_ 3 (.string ⟨#[]⟩))
      refine bodyPost_ret (v := .tuple #[.agg #[.int .i64 0, .int .i64 0, .string ⟨#[]⟩, .string ⟨#[]⟩], .int .i64 170]) (by simp [results, Try.results10, go_sem, t0, t1, t2, t3]) rfl ⟨rfl, ?_⟩
      repeat (first | (with_reducible exact HB.out) | (with_reducible exact Below.refl _ _) | (with_reducible apply Below.drew) | (with_reducible apply below_alloc) | ((with_reducible refine Below.alloc ?_ ?_ _); rotate_left; focus (first | (simp; done) | (simp; omega) | omega)) | ((with_reducible refine Below.setCell ?_ ?_ _); rotate_left; focus (first | (simp; done) | (simp; omega) | omega)))
    by_cases c3 : o < p.base
    · have hu := HU.out
      rw [if_neg c1, if_neg c2, if_pos c3] at hu
      cases hu
      go_enter Try.func10, Try.ntmps10
      go_wp2_with fail
      refine Calls.mono (mdlOne_any n ?_ HF.out HP.out) ?_
      · exact S.out.below (by repeat (first | (with_reducible exact Below.refl _ _) | (with_reducible exact Below.refl _ _) | (with_reducible apply Below.drew) | (with_reducible apply below_alloc) | ((with_reducible refine Below.alloc ?_ ?_ _); rotate_left; focus (first | (simp; done) | (simp; omega) | omega)) | ((with_reducible refine Below.setCell ?_ ?_ _); rotate_left; focus (first | (simp; done) | (simp; omega) | omega))))
      rintro e w1 ⟨ea, ecap, rfl, hpl, hb⟩
      have HB : Hid (Below w.heap.size w _) := below_step (by repeat (first | (with_reducible exact Below.refl _ _) | (with_reducible exact Below.refl _ _) | (with_reducible apply Below.drew) | (with_reducible apply below_alloc) | ((with_reducible refine Below.alloc ?_ ?_ _); rotate_left; focus (first | (simp; done) | (simp; omega) | omega)) | ((with_reducible refine Below.setCell ?_ ?_ _); rotate_left; focus (first | (simp; done) | (simp; omega) | omega)))) hb
      have R : Blk _ (w.heap.size + 1) _ _ := Blk.step (by repeat (first | ((with_reducible apply Blk.new); focus (first | rfl | (simp; done) | (simp; omega))) | (with_reducible apply Blk.drew) | (with_reducible apply Blk.alloc) | (with_reducible apply Blk.set_) | ((with_reducible apply Blk.far); rotate_left; focus (first | (simp; done) | (simp; omega) | omega)))) hb
      obtain ⟨r0, r1, r2, r3, rz⟩ := cells4 R
      have rl := Blk.lt R
      have HR := Lib.hid R
      clear R
      have PP := Lib.hid hpl
      clear hb hpl
      rw [← HAN.out] at PP ⊢
      go_wp2_with fail
      obtain ⟨t0, t1, t2, t3⟩ := cells4_alloc ((((HR.out.set_ 0 (.int .i64 0)).set_ 1 (.int .i64 0)).set_ 2 (.string ⟨#[]⟩)).set_ 3 (.string ⟨#[]⟩))
      refine bodyPost_ret (v := .tuple #[.agg #[.int .i64 0, .int .i64 0, .string ⟨#[]⟩, .string ⟨#[]⟩], .int .i64 171]) (by simp [results, Try.results10, go_sem, t0, t1, t2, t3]) rfl ⟨rfl, ?_⟩
      repeat (first | (with_reducible exact HB.out) | (with_reducible exact Below.refl _ _) | (with_reducible apply Below.drew) | (with_reducible apply below_alloc) | ((with_reducible refine Below.alloc ?_ ?_ _); rotate_left; focus (first | (simp; done) | (simp; omega) | omega)) | ((with_reducible refine Below.setCell ?_ ?_ _); rotate_left; focus (first | (simp; done) | (simp; omega) | omega)))
    obtain ⟨i, rfl⟩ : ∃ i : Nat, o = (i : Int) := ⟨o.toNat, by omega⟩
    have hu := HU.out
    rw [if_neg c1, if_neg c2, if_neg c3, Int.toNat_natCast] at hu
    have hil : i < p.all.length := by have := HAN.out; omega
    have hi1 : (i : Int) < (an : Int) := by omega
    obtain ⟨z, hz⟩ : ∃ z, z = p.all.getD i default := ⟨_, rfl⟩
    obtain ⟨q, hq⟩ : ∃ q, q = keptI p i := ⟨_, rfl⟩
    have KK : Hid (∀ (W : World) {v : Value}, PlR W v p → Calls Try.prog 44 #[v, .agg #[.int .i64 z.off, .int .i64 z.id, .string z.key, .string z.body]] W fun e w' => e = .returned (.bool q) ∧ Below W.heap.size W w') := Lib.hid (fun W v hW => by rw [hz, hq]; exact kept_any i hW HSH.out hil)
    rw [← hz, ← hq] at hu
    have HZ := Lib.hid hz
    have HIL := Lib.hid hil
    have HU2 := Lib.hid hu
    clear hu hz hq hil
    go_enter Try.func10, Try.ntmps10
    go_wp2_with fail
    refine Calls.mono (mdlOne_any n ?_ HF.out HP.out) ?_
    · exact S.out.below (by repeat (first | (with_reducible exact Below.refl _ _) | (with_reducible exact Below.refl _ _) | (with_reducible apply Below.drew) | (with_reducible apply below_alloc) | ((with_reducible refine Below.alloc ?_ ?_ _); rotate_left; focus (first | (simp; done) | (simp; omega) | omega)) | ((with_reducible refine Below.setCell ?_ ?_ _); rotate_left; focus (first | (simp; done) | (simp; omega) | omega))))
    rintro e w1 ⟨ea, ecap, rfl, hpl, hb⟩
    have HB : Hid (Below w.heap.size w _) := below_step (by repeat (first | (with_reducible exact Below.refl _ _) | (with_reducible exact Below.refl _ _) | (with_reducible apply Below.drew) | (with_reducible apply below_alloc) | ((with_reducible refine Below.alloc ?_ ?_ _); rotate_left; focus (first | (simp; done) | (simp; omega) | omega)) | ((with_reducible refine Below.setCell ?_ ?_ _); rotate_left; focus (first | (simp; done) | (simp; omega) | omega)))) hb
    have R : Blk _ (w.heap.size + 1) _ _ := Blk.step (by repeat (first | ((with_reducible apply Blk.new); focus (first | rfl | (simp; done) | (simp; omega))) | (with_reducible apply Blk.drew) | (with_reducible apply Blk.alloc) | (with_reducible apply Blk.set_) | ((with_reducible apply Blk.far); rotate_left; focus (first | (simp; done) | (simp; omega) | omega)))) hb
    obtain ⟨r0, r1, r2, r3, rz⟩ := cells4 R
    have rl := Blk.lt R
    have HR := Lib.hid R
    clear R
    have PP := Lib.hid hpl
    clear hb hpl
    obtain ⟨a9, cap9, ev, hsl⟩ := PP.out
    cases ev
    obtain ⟨⟨_, hcap⟩, ⟨hmx, _⟩, hd⟩ := hsl.ents
    obtain ⟨bb, off, ha, hat⟩ := hd (by have := HIL.out; omega)
    subst ha
    have cc1 := hat i HIL.out
    rw [← HZ.out] at cc1
    have e0 := cc1.1.1.1
    have e1 := cc1.1.1.2
    have e2 := cc1.1.2
    have e3 := cc1.2
    have hbl : bb < w1.heap.size := World.block_lt_of_cell? w1 _ e0
    rw [← HAN.out] at PP hcap ⊢
    unfold maxLen at hmx
    clear hsl hd hat cc1
    have hu := HU2.out
    cases q
    · rw [if_neg (by decide)] at hu
      cases hu
      clear HU HU2
      go_wp2_with fail
      refine wp_region_below (by kernel_rfl) (by kernel_rfl) ?_
      repeat
        with_reducible refine wpQuiet_step (fun K hK => ?_)
        first
          | refine quiet_not (by rfl) (hK _ ?_)
          | refine quiet_any (by rfl) ?_
            apply Exists.intro
            refine ⟨fun wq hq => ?_, hK _ ?_⟩
            · obtain ⟨qc, _⟩ := bcell hq.out
              go_simp
              first
                | done
                | (with_reducible rfl)
                | ((go_at_call 44; exact call_in hq.out (KK.out _ ((PP.out.below (by repeat (first | (with_reducible exact Below.refl _ _) | (with_reducible exact Below.refl _ _) | (with_reducible apply Below.drew) | (with_reducible apply below_alloc) | ((with_reducible refine Below.alloc ?_ ?_ _); rotate_left; focus (first | (simp; done) | (simp; omega) | omega)) | ((with_reducible refine Below.setCell ?_ ?_ _); rotate_left; focus (first | (simp; done) | (simp; omega) | omega))))).below hq.out))))
        clear hK K
        simp only [Act.put, List.setIfInBounds_toArray, List.set_cons_zero, List.set_cons_succ]
      refine wpQuiet_nil ?_
      rintro w2 hb
      have HB2 : Hid (Below w.heap.size w w2) := below_step (by repeat (first | (with_reducible exact HB.out) | (with_reducible exact Below.refl _ _) | (with_reducible apply Below.drew) | (with_reducible apply below_alloc) | ((with_reducible refine Below.alloc ?_ ?_ _); rotate_left; focus (first | (simp; done) | (simp; omega) | omega)) | ((with_reducible refine Below.setCell ?_ ?_ _); rotate_left; focus (first | (simp; done) | (simp; omega) | omega)))) hb
      replace HR : Hid (Blk w2 (w.heap.size + 1) 29 _) := Blk.step (by repeat (first | (with_reducible exact HR.out) | ((with_reducible apply Blk.new); focus (first | rfl | (simp; done) | (simp; omega))) | (with_reducible apply Blk.drew) | (with_reducible apply Blk.alloc) | (with_reducible apply Blk.set_) | ((with_reducible apply Blk.far); rotate_left; focus (first | (simp; done) | (simp; omega) | omega)))) hb
      clear hb r0 r1 r2 r3 rz rl e0 e1 e2 e3
      obtain ⟨r0, r1, r2, r3, rz⟩ := cells4 HR.out
      have rl := HR.out.lt
      go_wp2_with fail
      refine bodyPost_ret (v := .tuple #[.agg #[.int .i64 0, .int .i64 0, .string ⟨#[]⟩, .string ⟨#[]⟩], .int .i64 172]) (by simp [results, Try.results10, go_sem, r0, r1, r2, r3]) rfl ⟨rfl, ?_⟩
      repeat (first | (with_reducible exact HB2.out) | (with_reducible exact Below.refl _ _) | (with_reducible apply Below.drew) | (with_reducible apply below_alloc) | ((with_reducible refine Below.alloc ?_ ?_ _); rotate_left; focus (first | (simp; done) | (simp; omega) | omega)) | ((with_reducible refine Below.setCell ?_ ?_ _); rotate_left; focus (first | (simp; done) | (simp; omega) | omega)))
    · rw [if_pos rfl] at hu
      injection hu with hx9 hy9
      subst hx9
      subst hy9
      clear HU HU2
      have K1 : Hid (∀ W : World, Below w1.heap.size w1 W → ((W.cell? ⟨bb, off + i * 4, none⟩ = some (.int .i64 z.off) ∧ W.cell? ⟨bb, off + i * 4 + 1, none⟩ = some (.int .i64 z.id)) ∧ W.cell? ⟨bb, off + i * 4 + 2, none⟩ = some (.string z.key)) ∧ W.cell? ⟨bb, off + i * 4 + 3, none⟩ = some (.string z.body)) := Lib.hid (fun W hb => ⟨⟨⟨(hb.cell hbl).trans e0, (hb.cell hbl).trans e1⟩, (hb.cell hbl).trans e2⟩, (hb.cell hbl).trans e3⟩)
      go_wp2_with fail
      refine wp_region_below (by kernel_rfl) (by kernel_rfl) ?_
      repeat
        with_reducible refine wpQuiet_step (fun K hK => ?_)
        first
          | refine quiet_not (by rfl) (hK _ ?_)
          | refine quiet_any (by rfl) ?_
            apply Exists.intro
            refine ⟨fun wq hq => ?_, hK _ ?_⟩
            · obtain ⟨qc, _⟩ := bcell hq.out
              go_simp
              first
                | done
                | (with_reducible rfl)
                | ((go_at_call 44; exact call_in hq.out (KK.out _ ((PP.out.below (by repeat (first | (with_reducible exact Below.refl _ _) | (with_reducible exact Below.refl _ _) | (with_reducible apply Below.drew) | (with_reducible apply below_alloc) | ((with_reducible refine Below.alloc ?_ ?_ _); rotate_left; focus (first | (simp; done) | (simp; omega) | omega)) | ((with_reducible refine Below.setCell ?_ ?_ _); rotate_left; focus (first | (simp; done) | (simp; omega) | omega))))).below hq.out))))
        clear hK K
        simp only [Act.put, List.setIfInBounds_toArray, List.set_cons_zero, List.set_cons_succ]
      refine wpQuiet_nil ?_
      rintro w2 hb
      have HB2 : Hid (Below w.heap.size w w2) := below_step (by repeat (first | (with_reducible exact HB.out) | (with_reducible exact Below.refl _ _) | (with_reducible apply Below.drew) | (with_reducible apply below_alloc) | ((with_reducible refine Below.alloc ?_ ?_ _); rotate_left; focus (first | (simp; done) | (simp; omega) | omega)) | ((with_reducible refine Below.setCell ?_ ?_ _); rotate_left; focus (first | (simp; done) | (simp; omega) | omega)))) hb
      have HB12 : Hid (Below w1.heap.size w1 w2) := below_step (by repeat (first | (with_reducible exact Below.refl _ _) | (with_reducible exact Below.refl _ _) | (with_reducible apply Below.drew) | (with_reducible apply below_alloc) | ((with_reducible refine Below.alloc ?_ ?_ _); rotate_left; focus (first | (simp; done) | (simp; omega) | omega)) | ((with_reducible refine Below.setCell ?_ ?_ _); rotate_left; focus (first | (simp; done) | (simp; omega) | omega)))) hb
      replace HR : Hid (Blk w2 (w.heap.size + 1) 29 _) := Blk.step (by repeat (first | (with_reducible exact HR.out) | ((with_reducible apply Blk.new); focus (first | rfl | (simp; done) | (simp; omega))) | (with_reducible apply Blk.drew) | (with_reducible apply Blk.alloc) | (with_reducible apply Blk.set_) | ((with_reducible apply Blk.far); rotate_left; focus (first | (simp; done) | (simp; omega) | omega)))) hb
      have Q : Blk _ (w1.heap.size) _ _ := Blk.step (by repeat (first | ((with_reducible apply Blk.new); focus (first | rfl | (simp; done) | (simp; omega))) | (with_reducible apply Blk.drew) | (with_reducible apply Blk.alloc) | (with_reducible apply Blk.set_) | ((with_reducible apply Blk.far); rotate_left; focus (first | (simp; done) | (simp; omega) | omega)))) hb
      obtain ⟨q0, q1, q2, qz⟩ := cells3 Q
      have ql := Blk.lt Q
      have HQ := Lib.hid Q
      clear Q
      clear hb r0 r1 r2 r3 rz rl e0 e1 e2 e3
      obtain ⟨r0, r1, r2, r3, rz⟩ := cells4 HR.out
      have rl := HR.out.lt
      obtain ⟨⟨⟨e0, e1⟩, e2⟩, e3⟩ := K1.out _ HB12.out
      go_wp2_with fail
      obtain ⟨t0, t1, t2, t3, -⟩ := cells4 ((((HR.out.set_ 0 (.int .i64 z.off)).set_ 1 (.int .i64 z.id)).set_ 2 (.string z.key)).set_ 3 (.string z.body))
      refine bodyPost_ret (v := .tuple #[.agg #[.int .i64 z.off, .int .i64 z.id, .string z.key, .string z.body], .int .i64 0]) (by simp [results, Try.results10, go_sem, t0, t1, t2, t3]) rfl ⟨rfl, ?_⟩
      repeat (first | (with_reducible exact HB2.out) | (with_reducible exact Below.refl _ _) | (with_reducible apply Below.drew) | (with_reducible apply below_alloc) | ((with_reducible refine Below.alloc ?_ ?_ _); rotate_left; focus (first | (simp; done) | (simp; omega) | omega)) | ((with_reducible refine Below.setCell ?_ ?_ _); rotate_left; focus (first | (simp; done) | (simp; omega) | omega)))
  · rw [if_neg ha] at hu
    have hcc : c = askM m n ∧ p = default := by rw [oneM, if_neg ha] at hp; cases hp; exact ⟨rfl, rfl⟩
    obtain ⟨hcc, rfl⟩ := hcc
    rw [← hcc] at hu ha
    have hd : (c != 0) = true := by simpa using ha
    cases hu
    clear h hf hp hnt hcc ha
    go_enter Try.func10, Try.ntmps10
    go_wp2_with fail
    refine Calls.mono (mdlOne_any n ?_ HF.out HP.out) ?_
    · exact S.out.below (by repeat (first | (with_reducible exact Below.refl _ _) | (with_reducible exact Below.refl _ _) | (with_reducible apply Below.drew) | (with_reducible apply below_alloc) | ((with_reducible refine Below.alloc ?_ ?_ _); rotate_left; focus (first | (simp; done) | (simp; omega) | omega)) | ((with_reducible refine Below.setCell ?_ ?_ _); rotate_left; focus (first | (simp; done) | (simp; omega) | omega))))
    rintro e w1 ⟨ea, ecap, rfl, hpl, hb⟩
    have HB : Hid (Below w.heap.size w _) := below_step (by repeat (first | (with_reducible exact Below.refl _ _) | (with_reducible exact Below.refl _ _) | (with_reducible apply Below.drew) | (with_reducible apply below_alloc) | ((with_reducible refine Below.alloc ?_ ?_ _); rotate_left; focus (first | (simp; done) | (simp; omega) | omega)) | ((with_reducible refine Below.setCell ?_ ?_ _); rotate_left; focus (first | (simp; done) | (simp; omega) | omega)))) hb
    have R : Blk _ (w.heap.size + 1) _ _ := Blk.step (by repeat (first | ((with_reducible apply Blk.new); focus (first | rfl | (simp; done) | (simp; omega))) | (with_reducible apply Blk.drew) | (with_reducible apply Blk.alloc) | (with_reducible apply Blk.set_) | ((with_reducible apply Blk.far); rotate_left; focus (first | (simp; done) | (simp; omega) | omega)))) hb
    obtain ⟨r0, r1, r2, r3, rz⟩ := cells4 R
    have rl := Blk.lt R
    have HR := Lib.hid R
    clear R
    have PP := Lib.hid hpl
    clear hb hpl
    go_wp2_with fail
    obtain ⟨t0, t1, t2, t3⟩ := cells4_alloc ((((HR.out.set_ 0 (.int .i64 0)).set_ 1 (.int .i64 0)).set_ 2 (.string ⟨#[]⟩)).set_ 3 (.string ⟨#[]⟩))
    refine bodyPost_ret (v := .tuple #[.agg #[.int .i64 0, .int .i64 0, .string ⟨#[]⟩, .string ⟨#[]⟩], .int .i64 y]) (by simp [results, Try.results10, go_sem, t0, t1, t2, t3]) rfl ⟨rfl, ?_⟩
    repeat (first | (with_reducible exact HB.out) | (with_reducible exact Below.refl _ _) | (with_reducible apply Below.drew) | (with_reducible apply below_alloc) | ((with_reducible refine Below.alloc ?_ ?_ _); rotate_left; focus (first | (simp; done) | (simp; omega) | omega)) | ((with_reducible refine Below.setCell ?_ ?_ _); rotate_left; focus (first | (simp; done) | (simp; omega) | omega)))
end Go.Proofs.Ytblgmjbajnkcdab
