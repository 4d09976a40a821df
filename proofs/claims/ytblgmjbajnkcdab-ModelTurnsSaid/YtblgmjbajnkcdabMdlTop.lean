/-
  model.topic, model.streamed: the topics that a model stands for.
-/
import Derived.Test.YtblgmjbajnkcdabMdlEnt
import Derived.Test.YtblgmjbajnkcdabBunS
import Derived.Deep.LoopGhost
import Derived.Deep.RegionLaw
import Derived.Deep.AppendLies
namespace Go.Proofs.Ytblgmjbajnkcdab
open Go.RowKit

set_option maxHeartbeats 4000000 in
set_option maxRecDepth 100000 in
theorem mdlTopic_any {v : Value} {p : Pl} {w : World} (h : PlR w v p) (hs : shapedP p) : Calls Try.prog 87 #[v] w (TwinEnd17 (topM p) w) := by
  have PP := Lib.hid h
  have HS := Lib.hid hs
  obtain ⟨a, cap, rfl, hsl⟩ := h
  obtain ⟨n, hn⟩ : ∃ n, n = p.all.length := ⟨_, rfl⟩
  have HN := Lib.hid hn
  rw [← hn] at PP ⊢
  clear hs hsl hn
  go_enter Try.func87, Try.ntmps87
  go_wp2_with fail
  obtain ⟨wa, hwa⟩ : ∃ wa, wa = (w.alloc (.cells #[.slice a n cap, .int .i64 p.base, .int .i64 p.mark] 84)).alloc (.cells #[.int .i64 0, .int .i64 0, .int .i64 0, .slice none 0 0] 70) := ⟨_, rfl⟩
  have HP0 : Hid (Blk wa w.heap.size 84 [.slice a n cap, .int .i64 p.base, .int .i64 p.mark]) := Lib.hid (by rw [hwa]; exact (Blk.new rfl).alloc _)
  have HR0 : Hid (Blk wa (w.heap.size + 1) 70 [.int .i64 0, .int .i64 0, .int .i64 0, .slice none 0 0]) := Lib.hid (by rw [hwa]; exact Blk.new (by simp))
  have HB0 : Hid (Below w.heap.size w wa) := Lib.hid (by rw [hwa]; repeat (first | (with_reducible exact Below.refl _ _) | (with_reducible exact Below.refl _ _) | (with_reducible apply Below.drew) | (with_reducible apply below_alloc) | ((with_reducible refine Below.alloc ?_ ?_ _); rotate_left; focus (first | (simp; done) | (simp; omega) | omega)) | ((with_reducible refine Below.setCell ?_ ?_ _); rotate_left; focus (first | (simp; done) | (simp; omega) | omega))))
  have hs0 : w.heap.size + 2 = wa.heap.size := by rw [hwa]; simp
  rw [← hwa]
  have HS0 := Lib.hid hs0
  have pl := HP0.out.lt
  have rl := HR0.out.lt
  clear hwa hs0
  have KC : Hid (∀ W' : World, Below (w.heap.size + 1) wa W' → ((W'.cell? ⟨w.heap.size, 0, none⟩ = some (.slice a n cap) ∧ W'.cell? ⟨w.heap.size, 1, none⟩ = some (.int .i64 p.base)) ∧ W'.cell? ⟨w.heap.size, 2, none⟩ = some (.int .i64 p.mark))) := fun W' hb => by
    have c := fun (p : Addr) (hp : p.block < w.heap.size + 1) => hb.cell hp
    have pp : w.heap.size < w.heap.size + 1 := Nat.lt_succ_self _
    obtain ⟨p0, p1, p2, -⟩ := cells3 HP0.out
    exact ⟨⟨(c _ pp).trans p0, (c _ pp).trans p1⟩, (c _ pp).trans p2⟩
  have KT := KC.out wa (Below.refl _ _)
  obtain ⟨r0, r1, r2, r3, rz⟩ := cells4 HR0.out
  go_region_held3 (fun W' => ((W'.cell? ⟨w.heap.size, 0, none⟩ = some (.slice a n cap) ∧ W'.cell? ⟨w.heap.size, 1, none⟩ = some (.int .i64 p.base)) ∧ W'.cell? ⟨w.heap.size, 2, none⟩ = some (.int .i64 p.mark)))
    (first | (with_reducible exact KT) | (exact KT4) | (refine KC.out _ ?_; (repeat (first | (with_reducible exact Below.refl _ _) | (with_reducible exact Below.refl _ _) | (with_reducible apply Below.drew) | (with_reducible apply below_alloc) | ((with_reducible refine Below.alloc ?_ ?_ _); rotate_left; focus (first | (simp; done) | (simp; omega) | omega)) | ((with_reducible refine Below.setCell ?_ ?_ _); rotate_left; focus (first | (simp; done) | (simp; omega) | omega)))); done) | (refine KC.out _ ?_; (repeat (first | (with_reducible exact HQ.out) | (with_reducible exact Below.refl _ _) | (with_reducible apply Below.drew) | (with_reducible apply below_alloc) | ((with_reducible refine Below.alloc ?_ ?_ _); rotate_left; focus (first | (simp; done) | (simp; omega) | omega)) | ((with_reducible refine Below.setCell ?_ ?_ _); rotate_left; focus (first | (simp; done) | (simp; omega) | omega)))); done))
    (first | (go_at_call 50; refine Calls.mono (entries_any (p := p) (PP.out.below (by repeat (first | (with_reducible exact HB0.out) | (with_reducible exact Below.refl _ _) | (with_reducible apply Below.drew) | (with_reducible apply below_alloc) | ((with_reducible refine Below.alloc ?_ ?_ _); rotate_left; focus (first | (simp; done) | (simp; omega) | omega)) | ((with_reducible refine Below.setCell ?_ ?_ _); rotate_left; focus (first | (simp; done) | (simp; omega) | omega))))) HS.out) ?_; rintro e w4 ⟨a4, c4, rfl, o4, hb⟩; have HQ2 : Hid (Below wa.heap.size wa w4) := below_step (by repeat (first | (with_reducible exact Below.refl _ _) | (with_reducible exact Below.refl _ _) | (with_reducible apply Below.drew) | (with_reducible apply below_alloc) | ((with_reducible refine Below.alloc ?_ ?_ _); rotate_left; focus (first | (simp; done) | (simp; omega) | omega)) | ((with_reducible refine Below.setCell ?_ ?_ _); rotate_left; focus (first | (simp; done) | (simp; omega) | omega)))) hb; have HQ : Hid (Below (w.heap.size + 1) wa w4) := Lib.hid (HQ2.out.mono (by have := HS0.out; omega)); have O4 : Hid (OwnE w4 (w.heap.size + 2) _ (entP p)) := Lib.hid (own_base o4 (by have := HS0.out; simp; omega)); have HR := Lib.hid (HR0.out.step HQ2.out); clear hb o4 r0 r1 r2 r3 rz; obtain ⟨r0, r1, r2, r3, rz⟩ := cells4 HR.out; have HB : Hid (Below w.heap.size w w4) := Lib.hid (HB0.out.trans (HQ2.out.mono HB0.out.size)); have rl4 := HR.out.lt; have KT4 := KC.out _ HQ.out))
  all_goals
    go_wp2_with fail
    obtain ⟨t0, t1, t2, t3, -⟩ := cells4 ((((HR.out.set_ 0 (.int .i64 p.base)).set_ 1 (.int .i64 (n : Int))).set_ 2 (.int .i64 p.mark)).set_ 3 (.slice a4 (entP p).length c4))
    refine bodyPost_ret (v := .agg #[.int .i64 p.base, .int .i64 (n : Int), .int .i64 p.mark, .slice a4 (entP p).length c4]) (by simp [results, Try.results87, go_sem, t0, t1, t2, t3]) rfl ⟨a4, c4, by rw [HN.out]; rfl, ?_, ?_⟩
    · show OwnE _ _ (.slice a4 (entP p).length c4) (entP p)
      refine own_base (B := w.heap.size + 2) ?_ (by omega)
      repeat (first | (with_reducible exact O4.out) | (with_reducible apply own_drew) | (with_reducible apply own_alloc) | ((with_reducible apply own_set); rotate_left; focus (first | (simp; done) | (simp; omega) | omega)))
    · repeat (first | (with_reducible exact HB.out) | (with_reducible exact Below.refl _ _) | (with_reducible apply Below.drew) | (with_reducible apply below_alloc) | ((with_reducible refine Below.alloc ?_ ?_ _); rotate_left; focus (first | (simp; done) | (simp; omega) | omega)) | ((with_reducible refine Below.setCell ?_ ?_ _); rotate_left; focus (first | (simp; done) | (simp; omega) | omega)))
end Go.Proofs.Ytblgmjbajnkcdab
