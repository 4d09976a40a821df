/-
  Texts that belong together; the remark at the head of each says what it proves.
-/
import Derived.Test.YtblgmjbajnkcdaaBunB
import Derived.Test.YtblgmjbajnkcdaaBunC
import Derived.Test.YtblgmjbajnkcdaaBunD
import Derived.Test.YtblgmjbajnkcdaaBunA
import Derived.Deep.RegionHeld3
import Derived.Test.YtblgmjbajnkcdaaProg
import Derived.Deep.LoopGhost
set_option maxRecDepth 100000
/-
  The document's May of topics. No condition but that the topic reads.
-/
namespace Go.Proofs.Ytblgmjbajnkcdaa
open Go.RowKit

theorem getD_len {l : List Ent} {j : Nat} (h : j < l.length) : l.getD j default = l[j] := by simp [List.getD, h]

/-- What is wrong with an entry by itself, the first thing first, as the walk spells it. -/
theorem ent_no {t : Top} {x : Ent} {p : Int} {k : Nat} (h : ¬ (Top.okEnt x ∧ t.base ≤ x.off ∧ x.off < t.next ∧ (0 < k → p < x.off))) :
    decide (x.id < 0) = true ∨ (decide (x.id < 0) = false ∧ (decide (6291456 ≤ x.id) = true ∨ (decide (6291456 ≤ x.id) = false ∧ (decide ((16 : Int) < (x.key.size : Int)) = true ∨ (decide ((16 : Int) < (x.key.size : Int)) = false ∧
      (decide ((64 : Int) < (x.body.size : Int)) = true ∨ (decide ((64 : Int) < (x.body.size : Int)) = false ∧ (decide (x.off < t.base) = true ∨ (decide (x.off < t.base) = false ∧ (decide (t.next ≤ x.off) = true ∨ (decide (t.next ≤ x.off) = false ∧ (0 < k ∧ x.off ≤ p)))))))))))) := by
  unfold Top.okEnt at h
  simp only [decide_eq_true_eq, decide_eq_false_iff_not]
  omega
theorem ent_yes {t : Top} {x : Ent} (h : Top.okEnt x ∧ t.base ≤ x.off ∧ x.off < t.next) : decide (x.id < 0) = false ∧ decide (6291456 ≤ x.id) = false ∧ decide ((16 : Int) < (x.key.size : Int)) = false ∧
      decide ((64 : Int) < (x.body.size : Int)) = false ∧ decide (x.off < t.base) = false ∧ decide (t.next ≤ x.off) = false := by
  unfold Top.okEnt at h
  simp only [decide_eq_false_iff_not]
  omega

set_option linter.unusedSimpArgs false in
theorem whole_take {t : Top} {k : Nat} (h : k < t.ents.length) : Top.whole t (t.ents.take (k + 1)) = Top.whole t (t.ents.take k) + if t.mark ≤ (t.ents.getD k default).off then 1 else 0 := by
  rw [take_succ_ent h]
  unfold Top.whole
  rw [List.countP_append]
  by_cases c : t.mark ≤ (t.ents.getD k default).off <;> simp [c]
theorem whole_le (t : Top) (l : List Ent) : Top.whole t l ≤ l.length := List.countP_le_length

theorem not_may_of {t : Top} {k : Nat} (hk : k < t.ents.length) (h : ¬ Top.good t k) : ¬ t.may := fun hm => h (hm.2.1 k hk)

set_option maxRecDepth 100000 in
set_option maxHeartbeats 2000000 in
theorem may_head (b n m : Int) (a : Option Addr) (l cap : Nat) (w : World)
    (h : n < 0 ∨ (0 ≤ n ∧ (1073741824 < n ∨ (n ≤ 1073741824 ∧ (b < 0 ∨ (0 ≤ b ∧ (n < b ∨ (b ≤ n ∧ (m < 0 ∨ (0 ≤ m ∧ (n < m ∨ (m ≤ n ∧ (200 : Int) < (l : Int))))))))))))) :
    Calls Try.prog 68 #[.agg #[.int .i64 b, .int .i64 n, .int .i64 m, .slice a l cap]] w fun e w' => e = .returned (.bool false) ∧ Below w.heap.size w w' := by
  rcases h with h1 | ⟨h1, h2 | ⟨h2, h3 | ⟨h3, h4 | ⟨h4, h5 | ⟨h5, h6 | ⟨h6, h7⟩⟩⟩⟩⟩⟩
  all_goals
    go_enter Try.func68, Try.ntmps68
    go_wp2_with fail
    go_ret
    exact ⟨rfl, (Below.refl _ _).alloc (Nat.le_refl _) _⟩

set_option maxHeartbeats 8000000 in
set_option maxRecDepth 100000 in
theorem may_some17 (t : Top) (a : Option Addr) (cap n : Nat) (w : World) (hn : n = t.ents.length) (hcap : n ≤ cap) (hh : Top.head t) (hc : 0 < n → ∃ bb off, a = some ⟨bb, off, none⟩ ∧ EntsAt w bb off t.ents) (z : Bool) (hm : z = decide t.may) :
    Calls Try.prog 68 #[.agg #[.int .i64 t.base, .int .i64 t.next, .int .i64 t.mark, .slice a n cap]] w fun e w' => e = .returned (.bool z) ∧ Below w.heap.size w w' := by
  have HH := Lib.hid hh
  obtain ⟨h1, h2, h3, h4, h5, h6, h7⟩ := hh
  rw [← hn] at h7
  have HC := Lib.hid hc
  have HN := Lib.hid hn
  have HM := Lib.hid hm
  have n1 : (n : Int) ≤ 200 := by omega
  clear hc hn hm
  go_enter Try.func68, Try.ntmps68
  go_wp2_with fail
  go_loopg [3, 4] n (fun g c i wr => ∃ (k s : Nat), k ≤ n ∧ g = n - k ∧ i = .int .i64 (k : Int) ∧ c = .int .i64 (s : Int) ∧ s ≤ k ∧ Hid (s = Top.whole t (t.ents.take k)) ∧ Hid (∀ j, j < k → Top.good t j) ∧ Hid (Below w.heap.size w wr) ∧
    Hid (Blk wr w.heap.size 72 [.int .i64 t.base, .int .i64 t.next, .int .i64 t.mark, .slice a n cap]))
  case atStart =>
    refine ⟨0, 0, Nat.zero_le _, rfl, rfl, rfl, Nat.le_refl _, rfl, (fun j hj => absurd hj (Nat.not_lt_zero _)), (Below.refl _ _).alloc (Nat.le_refl _) _, Blk.new rfl⟩
  case round =>
    obtain ⟨k, s, hkn, rfl, rfl, rfl, hsk, hs, hall, hb, hbox⟩ := hrel
    obtain ⟨wo, rfl⟩ : ∃ wo : World, wo = wr := ⟨_, rfl⟩
    obtain ⟨a0, a1, a2, a3, az⟩ := cells4 hbox.out
    have s1 : w.heap.size < wo.heap.size := hbox.out.lt
    by_cases hlt : k < n
    · have hk0 : (0 : Int) ≤ (k : Int) := by omega
      have hk1 : (k : Int) < (n : Int) := by omega
      have HKL := Lib.hid (show k < t.ents.length by rw [← HN.out]; exact hlt)
      obtain ⟨bb, off, ha, hcc⟩ := HC.out (by omega)
      subst ha
      have cc := hcc k HKL.out
      obtain ⟨x, hx⟩ : ∃ x, x = t.ents.getD k default := ⟨_, rfl⟩
      rw [← hx] at cc
      have c0 := keep hb.out cc.1.1.1
      have c1 := keep hb.out cc.1.1.2
      have c2 := keep hb.out cc.1.2
      have c3 := keep hb.out cc.2
      have HX := Lib.hid hx
      have HCC := Lib.hid hcc
      clear cc hx hcc
      by_cases hpre : Top.okEnt x ∧ t.base ≤ x.off ∧ x.off < t.next ∧ (0 < k → (t.ents.getD (k - 1) default).off < x.off)
      · obtain ⟨d1, d2, d3, d4, d5, d6⟩ := ent_yes ⟨hpre.1, hpre.2.1, hpre.2.2.1⟩
        have HP := Lib.hid hpre
        have HA := Lib.hid (Blk.alloc hbox.out (.cells #[.int .i64 x.off, .int .i64 x.id, .string x.key, .string x.body] 29))
        have HXB := Lib.hid (Blk.new (w := wo) (t := 29) (cs := entCells x) rfl)
        have step : (decide (0 < k) = false) ∨ ∃ p : Nat, p < k ∧ IntKind.i64.wrap ((k : Int) - 1) = (p : Int) ∧ decide (0 < k) = true ∧ decide (x.off ≤ (t.ents.getD p default).off) = false := by
          by_cases k0 : 0 < k
          · refine Or.inr ⟨k - 1, by omega, by rw [IntWalk.i64_in _ (by omega)]; omega, decide_eq_true k0, decide_eq_false ?_⟩
            have := hpre.2.2.2 k0
            omega
          · exact Or.inl (decide_eq_false k0)
        clear hpre
        have key : True := trivial
        rcases step with d7 | ⟨p, hpk, w1, d7, d8⟩
        · go_wp2_with fail
          refine wp_region_class (fun W => (((W.cell? ⟨w.heap.size, 0, none⟩ = some (.int .i64 t.base) ∧ W.cell? ⟨w.heap.size, 1, none⟩ = some (.int .i64 t.next)) ∧ (W.cell? ⟨wo.heap.size, 0, none⟩ = some (.int .i64 x.off) ∧ W.cell? ⟨wo.heap.size, 1, none⟩ = some (.int .i64 x.id))) ∧ (W.cell? ⟨wo.heap.size, 2, none⟩ = some (.string x.key) ∧ W.cell? ⟨wo.heap.size, 3, none⟩ = some (.string x.body))) ∧ Hid (Below w.heap.size w W) ∧ Hid (Blk W w.heap.size 72 [.int .i64 t.base, .int .i64 t.next, .int .i64 t.mark, .slice (some ⟨bb, off, none⟩) n cap]) ∧ Hid (Blk W wo.heap.size 29 (entCells x))) (by kernel_rfl) (by kernel_rfl) ⟨⟨⟨⟨by go_simp, by go_simp⟩, by go_simp, by go_simp⟩, by go_simp, by go_simp⟩, (hb.out.alloc hb.out.size _).drew, HA.out, HXB.out⟩ ?_
          repeat
            with_reducible refine wpQuiet_step (fun K hK => ?_)
            first
              | refine quiet_not (by rfl) (hK _ ?_)
              | refine quiet_any (by rfl) ?_
                apply Exists.intro
                refine ⟨fun wq hq => ?_, hK _ ?_⟩
                · obtain ⟨⟨⟨⟨k0, k1⟩, k2, k3⟩, k4, k5⟩, kb⟩ := hq
                  go_simp
                  first
                    | done
                    | (with_reducible rfl)
                    | (fail)
            clear hK K
            simp only [Act.put, List.setIfInBounds_toArray, List.set_cons_zero, List.set_cons_succ]
          refine wpQuiet_nil ?_
          intro wq hq
          obtain ⟨hbq, hAq, hXq⟩ := hq.2
          clear hq a0 a1 a2 a3 az c0 c1 c2 c3 d1 d2 d3 d4 d5 d6 d7
          go_wp2_with fail
          go_loopg [6] k (fun g q wi => ∃ kk : Nat, kk ≤ k ∧ g = k - kk ∧ q = .int .i64 (kk : Int) ∧ Hid (x.off < t.mark → ∀ j, j < kk → (t.ents.getD j default).key ≠ x.key) ∧ Hid (Below w.heap.size w wi) ∧ Hid (Blk wi w.heap.size 72 [.int .i64 t.base, .int .i64 t.next, .int .i64 t.mark, .slice (some ⟨bb, off, none⟩) n cap]) ∧ Hid (Blk wi wo.heap.size 29 (entCells x)))
          case atStart => exact ⟨0, Nat.zero_le _, rfl, rfl, (fun _ j hj => absurd hj (Nat.not_lt_zero _)), hbq, hAq, hXq⟩
          case round =>
            clear hbq hAq hXq
            obtain ⟨kk, hkk, rfl, rfl, hne, hbq, hAq, hXq⟩ := hrel
            obtain ⟨a0, a1, a2, a3, az⟩ := cells4 hAq.out
            have x0 := hXq.out.cell 0
            have x2 := hXq.out.cell 2
            simp only [entCells, List.getElem?_cons_zero, List.getElem?_cons_succ] at x0 x2
            by_cases hkl : kk < k
            · have q0 : (0 : Int) ≤ (kk : Int) := by omega
              have q1 : (kk : Int) < (k : Int) := by omega
              have q2 : (kk : Int) < (n : Int) := by omega
              by_cases hxm : x.off < t.mark
              · have hyc := HCC.out kk (by rw [← HN.out]; omega)
                obtain ⟨y, hy⟩ : ∃ y, y = t.ents.getD kk default := ⟨_, rfl⟩
                rw [← hy] at hyc
                have y2 := keep hbq.out hyc.1.2
                have HY := Lib.hid hy
                have e1 : decide (x.off < t.mark) = true := decide_eq_true hxm
                have HXM := Lib.hid hxm
                obtain ⟨e, he⟩ : ∃ e, e = (y.key.toList == x.key.toList) := ⟨_, rfl⟩
                have he' := he.symm
                have HE := Lib.hid he
                clear hy hyc hxm he
                cases e
                all_goals
                  go_wp2_with fail
                  refine wp_region_class (fun W => (((W.cell? ⟨wo.heap.size, 0, none⟩ = some (.int .i64 x.off) ∧ W.cell? ⟨wo.heap.size, 2, none⟩ = some (.string x.key)) ∧ (W.cell? ⟨w.heap.size, 2, none⟩ = some (.int .i64 t.mark) ∧ W.cell? ⟨w.heap.size, 3, none⟩ = some (.slice (some ⟨bb, off, none⟩) n cap))) ∧ W.cell? ⟨bb, off + kk * 4 + 2, none⟩ = some (.string y.key)) ∧ Hid (Below w.heap.size w W) ∧ Hid (Blk W w.heap.size 72 [.int .i64 t.base, .int .i64 t.next, .int .i64 t.mark, .slice (some ⟨bb, off, none⟩) n cap]) ∧ Hid (Blk W wo.heap.size 29 (entCells x))) (by kernel_rfl) (by kernel_rfl) ⟨⟨⟨⟨by go_simp, by go_simp⟩, by go_simp, by go_simp⟩, by go_simp⟩, hbq.out.drew, hAq.out, hXq.out⟩ ?_
                  repeat
                    with_reducible refine wpQuiet_step (fun K hK => ?_)
                    first
                      | refine quiet_not (by rfl) (hK _ ?_)
                      | refine quiet_any (by rfl) ?_
                        apply Exists.intro
                        refine ⟨fun wq hq => ?_, hK _ ?_⟩
                        · obtain ⟨⟨⟨⟨k0, k1⟩, k2, k3⟩, k4⟩, kb⟩ := hq
                          go_simp
                          first
                            | done
                            | (with_reducible rfl)
                            | (fail)
                    clear hK K
                    simp only [Act.put, List.setIfInBounds_toArray, List.set_cons_zero, List.set_cons_succ]
                  refine wpQuiet_nil ?_
                  intro ww hq
                  clear hbq hAq hXq
                  obtain ⟨hbq, hAq, hXq⟩ := hq.2
                  clear hq a0 a1 a2 a3 az x0 x2 y2
                  go_wp2_with fail
                · go_roundg (k - (kk + 1))
                  case measure => omega
                  case rel =>
                    refine ⟨kk + 1, by omega, rfl, by go_num, fun hm j hj => ?_, hbq, hAq, hXq⟩
                    by_cases hjk : j < kk
                    · exact hne.out hm j hjk
                    · obtain rfl : j = kk := by omega
                      rw [← HY.out]
                      intro h
                      have h2 := HE.out
                      rw [h] at h2
                      simp at h2
                · go_ret
                  refine ⟨?_, hbq.out⟩
                  have hz : z = false := by
                    rw [HM.out]
                    refine decide_eq_false (not_may_of HKL.out fun hg => ?_)
                    unfold Top.good at hg
                    rw [← HX.out] at hg
                    refine hg.2.2.2.2 HXM.out kk hkl ?_
                    rw [← HY.out]
                    exact toList_eq (by simpa using HE.out.symm)
                  rw [hz]; rfl
              · have e1 : decide (x.off < t.mark) = false := decide_eq_false hxm
                have HXM := Lib.hid hxm
                clear hxm
                go_wp2_with fail
                refine wp_region_class (fun W => ((W.cell? ⟨wo.heap.size, 0, none⟩ = some (.int .i64 x.off) ∧ W.cell? ⟨w.heap.size, 2, none⟩ = some (.int .i64 t.mark))) ∧ Hid (Below w.heap.size w W) ∧ Hid (Blk W w.heap.size 72 [.int .i64 t.base, .int .i64 t.next, .int .i64 t.mark, .slice (some ⟨bb, off, none⟩) n cap]) ∧ Hid (Blk W wo.heap.size 29 (entCells x))) (by kernel_rfl) (by kernel_rfl) ⟨⟨by go_simp, by go_simp⟩, hbq.out.drew, hAq.out, hXq.out⟩ ?_
                repeat
                  with_reducible refine wpQuiet_step (fun K hK => ?_)
                  first
                    | refine quiet_not (by rfl) (hK _ ?_)
                    | refine quiet_any (by rfl) ?_
                      apply Exists.intro
                      refine ⟨fun wq hq => ?_, hK _ ?_⟩
                      · obtain ⟨⟨k0, k1⟩, kb⟩ := hq
                        go_simp
                        first
                          | done
                          | (with_reducible rfl)
                          | (fail)
                  clear hK K
                  simp only [Act.put, List.setIfInBounds_toArray, List.set_cons_zero, List.set_cons_succ]
                refine wpQuiet_nil ?_
                intro ww hq
                clear hbq hAq hXq
                obtain ⟨hbq, hAq, hXq⟩ := hq.2
                clear hq a0 a1 a2 a3 az x0 x2
                go_wp2_with fail
                go_roundg (k - (kk + 1))
                case measure => omega
                case rel => exact ⟨kk + 1, by omega, rfl, by go_num, fun hm => absurd hm (by have := HXM.out; omega), hbq, hAq, hXq⟩
            · obtain rfl : kk = k := by omega
              have q1 : ¬ (kk : Int) < (kk : Int) := by omega
              have HG := Lib.hid (show Top.good t kk by
                unfold Top.good
                rw [← HX.out]
                exact ⟨HP.out.1, HP.out.2.1, HP.out.2.2.1, HP.out.2.2.2, fun hm => hne.out hm⟩)
              have HW := Lib.hid (whole_take HKL.out)
              have HALL := Lib.hid (show ∀ j, j < kk + 1 → Top.good t j by
                intro j hj
                by_cases hjk : j < kk
                · exact hall.out j hjk
                · obtain rfl : j = kk := by omega
                  exact HG.out)
              by_cases hxm : t.mark ≤ x.off
              · have hs1 : (s : Int) + 1 ≤ 201 := by omega
                have HXM := Lib.hid hxm
                go_wp2_with fail
                go_roundg (n - (kk + 1))
                case measure => omega
                case rel => exact ⟨kk + 1, s + 1, by omega, rfl, by go_num, by go_num, by omega, by have h1 := HW.out; rw [← HX.out, if_pos (by have := HXM.out; omega)] at h1; have h2 := hs.out; show s + 1 = _; omega, HALL.out, hbq, hAq⟩
              · have HXM := Lib.hid hxm
                go_wp2_with fail
                go_roundg (n - (kk + 1))
                case measure => omega
                case rel => exact ⟨kk + 1, s, by omega, rfl, by go_num, rfl, by omega, by have h1 := HW.out; rw [← HX.out, if_neg (by have := HXM.out; omega)] at h1; have h2 := hs.out; show s = _; omega, HALL.out, hbq, hAq⟩
        · have p0 : (0 : Int) ≤ (p : Int) := by omega
          have p1 : (p : Int) < (n : Int) := by omega
          have pp := keep hb.out (HCC.out p (by rw [← HN.out]; omega)).1.1.1
          have bl := World.block_lt_of_cell? _ _ pp
          obtain ⟨po, hpo⟩ : ∃ po, po = (t.ents.getD p default).off := ⟨_, rfl⟩
          rw [← hpo] at pp d8
          simp only at bl
          clear hpo
          go_wp2_with fail
          refine wp_region_class (fun W => (((W.cell? ⟨w.heap.size, 0, none⟩ = some (.int .i64 t.base) ∧ W.cell? ⟨w.heap.size, 1, none⟩ = some (.int .i64 t.next)) ∧ (W.cell? ⟨wo.heap.size, 0, none⟩ = some (.int .i64 x.off) ∧ W.cell? ⟨wo.heap.size, 1, none⟩ = some (.int .i64 x.id))) ∧ (W.cell? ⟨wo.heap.size, 2, none⟩ = some (.string x.key) ∧ W.cell? ⟨wo.heap.size, 3, none⟩ = some (.string x.body)) ∧ (W.cell? ⟨w.heap.size, 3, none⟩ = some (.slice (some ⟨bb, off, none⟩) n cap) ∧ W.cell? ⟨bb, off + p * 4, none⟩ = some (.int .i64 po))) ∧ Hid (Below w.heap.size w W) ∧ Hid (Blk W w.heap.size 72 [.int .i64 t.base, .int .i64 t.next, .int .i64 t.mark, .slice (some ⟨bb, off, none⟩) n cap]) ∧ Hid (Blk W wo.heap.size 29 (entCells x))) (by kernel_rfl) (by kernel_rfl) ⟨⟨⟨⟨by go_simp, by go_simp⟩, by go_simp, by go_simp⟩, ⟨by go_simp, by go_simp⟩, by go_simp, by go_simp⟩, (hb.out.alloc hb.out.size _).drew, HA.out, HXB.out⟩ ?_
          repeat
            with_reducible refine wpQuiet_step (fun K hK => ?_)
            first
              | refine quiet_not (by rfl) (hK _ ?_)
              | refine quiet_any (by rfl) ?_
                apply Exists.intro
                refine ⟨fun wq hq => ?_, hK _ ?_⟩
                · obtain ⟨⟨⟨⟨k0, k1⟩, k2, k3⟩, ⟨k4, k5⟩, k6, k7⟩, kb⟩ := hq
                  go_simp
                  first
                    | done
                    | (with_reducible rfl)
                    | (fail)
            clear hK K
            simp only [Act.put, List.setIfInBounds_toArray, List.set_cons_zero, List.set_cons_succ]
          refine wpQuiet_nil ?_
          intro wq hq
          obtain ⟨hbq, hAq, hXq⟩ := hq.2
          clear hq a0 a1 a2 a3 az c0 c1 c2 c3 d1 d2 d3 d4 d5 d6 d7 d8 w1 pp p0 p1
          go_wp2_with fail
          go_loopg [6] k (fun g q wi => ∃ kk : Nat, kk ≤ k ∧ g = k - kk ∧ q = .int .i64 (kk : Int) ∧ Hid (x.off < t.mark → ∀ j, j < kk → (t.ents.getD j default).key ≠ x.key) ∧ Hid (Below w.heap.size w wi) ∧ Hid (Blk wi w.heap.size 72 [.int .i64 t.base, .int .i64 t.next, .int .i64 t.mark, .slice (some ⟨bb, off, none⟩) n cap]) ∧ Hid (Blk wi wo.heap.size 29 (entCells x)))
          case atStart => exact ⟨0, Nat.zero_le _, rfl, rfl, (fun _ j hj => absurd hj (Nat.not_lt_zero _)), hbq, hAq, hXq⟩
          case round =>
            clear hbq hAq hXq
            obtain ⟨kk, hkk, rfl, rfl, hne, hbq, hAq, hXq⟩ := hrel
            obtain ⟨a0, a1, a2, a3, az⟩ := cells4 hAq.out
            have x0 := hXq.out.cell 0
            have x2 := hXq.out.cell 2
            simp only [entCells, List.getElem?_cons_zero, List.getElem?_cons_succ] at x0 x2
            by_cases hkl : kk < k
            · have q0 : (0 : Int) ≤ (kk : Int) := by omega
              have q1 : (kk : Int) < (k : Int) := by omega
              have q2 : (kk : Int) < (n : Int) := by omega
              by_cases hxm : x.off < t.mark
              · have hyc := HCC.out kk (by rw [← HN.out]; omega)
                obtain ⟨y, hy⟩ : ∃ y, y = t.ents.getD kk default := ⟨_, rfl⟩
                rw [← hy] at hyc
                have y2 := keep hbq.out hyc.1.2
                have HY := Lib.hid hy
                have e1 : decide (x.off < t.mark) = true := decide_eq_true hxm
                have HXM := Lib.hid hxm
                obtain ⟨e, he⟩ : ∃ e, e = (y.key.toList == x.key.toList) := ⟨_, rfl⟩
                have he' := he.symm
                have HE := Lib.hid he
                clear hy hyc hxm he
                cases e
                all_goals
                  go_wp2_with fail
                  refine wp_region_class (fun W => (((W.cell? ⟨wo.heap.size, 0, none⟩ = some (.int .i64 x.off) ∧ W.cell? ⟨wo.heap.size, 2, none⟩ = some (.string x.key)) ∧ (W.cell? ⟨w.heap.size, 2, none⟩ = some (.int .i64 t.mark) ∧ W.cell? ⟨w.heap.size, 3, none⟩ = some (.slice (some ⟨bb, off, none⟩) n cap))) ∧ W.cell? ⟨bb, off + kk * 4 + 2, none⟩ = some (.string y.key)) ∧ Hid (Below w.heap.size w W) ∧ Hid (Blk W w.heap.size 72 [.int .i64 t.base, .int .i64 t.next, .int .i64 t.mark, .slice (some ⟨bb, off, none⟩) n cap]) ∧ Hid (Blk W wo.heap.size 29 (entCells x))) (by kernel_rfl) (by kernel_rfl) ⟨⟨⟨⟨by go_simp, by go_simp⟩, by go_simp, by go_simp⟩, by go_simp⟩, hbq.out.drew, hAq.out, hXq.out⟩ ?_
                  repeat
                    with_reducible refine wpQuiet_step (fun K hK => ?_)
                    first
                      | refine quiet_not (by rfl) (hK _ ?_)
                      | refine quiet_any (by rfl) ?_
                        apply Exists.intro
                        refine ⟨fun wq hq => ?_, hK _ ?_⟩
                        · obtain ⟨⟨⟨⟨k0, k1⟩, k2, k3⟩, k4⟩, kb⟩ := hq
                          go_simp
                          first
                            | done
                            | (with_reducible rfl)
                            | (fail)
                    clear hK K
                    simp only [Act.put, List.setIfInBounds_toArray, List.set_cons_zero, List.set_cons_succ]
                  refine wpQuiet_nil ?_
                  intro ww hq
                  clear hbq hAq hXq
                  obtain ⟨hbq, hAq, hXq⟩ := hq.2
                  clear hq a0 a1 a2 a3 az x0 x2 y2
                  go_wp2_with fail
                · go_roundg (k - (kk + 1))
                  case measure => omega
                  case rel =>
                    refine ⟨kk + 1, by omega, rfl, by go_num, fun hm j hj => ?_, hbq, hAq, hXq⟩
                    by_cases hjk : j < kk
                    · exact hne.out hm j hjk
                    · obtain rfl : j = kk := by omega
                      rw [← HY.out]
                      intro h
                      have h2 := HE.out
                      rw [h] at h2
                      simp at h2
                · go_ret
                  refine ⟨?_, hbq.out⟩
                  have hz : z = false := by
                    rw [HM.out]
                    refine decide_eq_false (not_may_of HKL.out fun hg => ?_)
                    unfold Top.good at hg
                    rw [← HX.out] at hg
                    refine hg.2.2.2.2 HXM.out kk hkl ?_
                    rw [← HY.out]
                    exact toList_eq (by simpa using HE.out.symm)
                  rw [hz]; rfl
              · have e1 : decide (x.off < t.mark) = false := decide_eq_false hxm
                have HXM := Lib.hid hxm
                clear hxm
                go_wp2_with fail
                refine wp_region_class (fun W => ((W.cell? ⟨wo.heap.size, 0, none⟩ = some (.int .i64 x.off) ∧ W.cell? ⟨w.heap.size, 2, none⟩ = some (.int .i64 t.mark))) ∧ Hid (Below w.heap.size w W) ∧ Hid (Blk W w.heap.size 72 [.int .i64 t.base, .int .i64 t.next, .int .i64 t.mark, .slice (some ⟨bb, off, none⟩) n cap]) ∧ Hid (Blk W wo.heap.size 29 (entCells x))) (by kernel_rfl) (by kernel_rfl) ⟨⟨by go_simp, by go_simp⟩, hbq.out.drew, hAq.out, hXq.out⟩ ?_
                repeat
                  with_reducible refine wpQuiet_step (fun K hK => ?_)
                  first
                    | refine quiet_not (by rfl) (hK _ ?_)
                    | refine quiet_any (by rfl) ?_
                      apply Exists.intro
                      refine ⟨fun wq hq => ?_, hK _ ?_⟩
                      · obtain ⟨⟨k0, k1⟩, kb⟩ := hq
                        go_simp
                        first
                          | done
                          | (with_reducible rfl)
                          | (fail)
                  clear hK K
                  simp only [Act.put, List.setIfInBounds_toArray, List.set_cons_zero, List.set_cons_succ]
                refine wpQuiet_nil ?_
                intro ww hq
                clear hbq hAq hXq
                obtain ⟨hbq, hAq, hXq⟩ := hq.2
                clear hq a0 a1 a2 a3 az x0 x2
                go_wp2_with fail
                go_roundg (k - (kk + 1))
                case measure => omega
                case rel => exact ⟨kk + 1, by omega, rfl, by go_num, fun hm => absurd hm (by have := HXM.out; omega), hbq, hAq, hXq⟩
            · obtain rfl : kk = k := by omega
              have q1 : ¬ (kk : Int) < (kk : Int) := by omega
              have HG := Lib.hid (show Top.good t kk by
                unfold Top.good
                rw [← HX.out]
                exact ⟨HP.out.1, HP.out.2.1, HP.out.2.2.1, HP.out.2.2.2, fun hm => hne.out hm⟩)
              have HW := Lib.hid (whole_take HKL.out)
              have HALL := Lib.hid (show ∀ j, j < kk + 1 → Top.good t j by
                intro j hj
                by_cases hjk : j < kk
                · exact hall.out j hjk
                · obtain rfl : j = kk := by omega
                  exact HG.out)
              by_cases hxm : t.mark ≤ x.off
              · have hs1 : (s : Int) + 1 ≤ 201 := by omega
                have HXM := Lib.hid hxm
                go_wp2_with fail
                go_roundg (n - (kk + 1))
                case measure => omega
                case rel => exact ⟨kk + 1, s + 1, by omega, rfl, by go_num, by go_num, by omega, by have h1 := HW.out; rw [← HX.out, if_pos (by have := HXM.out; omega)] at h1; have h2 := hs.out; show s + 1 = _; omega, HALL.out, hbq, hAq⟩
              · have HXM := Lib.hid hxm
                go_wp2_with fail
                go_roundg (n - (kk + 1))
                case measure => omega
                case rel => exact ⟨kk + 1, s, by omega, rfl, by go_num, rfl, by omega, by have h1 := HW.out; rw [← HX.out, if_neg (by have := HXM.out; omega)] at h1; have h2 := hs.out; show s = _; omega, HALL.out, hbq, hAq⟩
      · have hz : z = false := by
          rw [HM.out]
          refine decide_eq_false (not_may_of HKL.out fun hg => hpre ?_)
          unfold Top.good at hg
          rw [← HX.out] at hg
          exact ⟨hg.1, hg.2.1, hg.2.2.1, hg.2.2.2.1⟩
        have HZ := Lib.hid hz
        have hno := ent_no hpre
        clear hz hpre
        rcases hno with q1 | ⟨q1, q2 | ⟨q2, q3 | ⟨q3, q4 | ⟨q4, q5 | ⟨q5, q6 | ⟨q6, q7, q8⟩⟩⟩⟩⟩⟩
        rotate_right
        · obtain ⟨p, hp⟩ : ∃ p, p = k - 1 := ⟨k - 1, rfl⟩
          rw [← hp] at q8
          have w1 : IntKind.i64.wrap ((k : Int) - 1) = (p : Int) := by rw [IntWalk.i64_in _ (by omega)]; omega
          have p0 : (0 : Int) ≤ (p : Int) := by omega
          have p1 : (p : Int) < (n : Int) := by omega
          have pp := keep hb.out (HCC.out p (by rw [← HN.out]; omega)).1.1.1
          have bl := World.block_lt_of_cell? _ _ pp
          obtain ⟨po, hpo⟩ : ∃ po, po = (t.ents.getD p default).off := ⟨_, rfl⟩
          rw [← hpo] at pp q8
          have q9 : decide (x.off ≤ po) = true := by simpa using q8
          have q10 : decide (0 < k) = true := decide_eq_true q7
          simp only at bl
          clear hpo q8 q7 hp
          go_wp2_with fail
          refine wp_region_class (fun W => (((W.cell? ⟨w.heap.size, 0, none⟩ = some (.int .i64 t.base) ∧ W.cell? ⟨w.heap.size, 1, none⟩ = some (.int .i64 t.next)) ∧ (W.cell? ⟨wo.heap.size, 0, none⟩ = some (.int .i64 x.off) ∧ W.cell? ⟨wo.heap.size, 1, none⟩ = some (.int .i64 x.id))) ∧ (W.cell? ⟨wo.heap.size, 2, none⟩ = some (.string x.key) ∧ W.cell? ⟨wo.heap.size, 3, none⟩ = some (.string x.body)) ∧ (W.cell? ⟨w.heap.size, 3, none⟩ = some (.slice (some ⟨bb, off, none⟩) n cap) ∧ W.cell? ⟨bb, off + p * 4, none⟩ = some (.int .i64 po))) ∧ Below w.heap.size w W) (by kernel_rfl) (by kernel_rfl) ⟨⟨⟨⟨by go_simp, by go_simp⟩, by go_simp, by go_simp⟩, ⟨by go_simp, by go_simp⟩, by go_simp, by go_simp⟩, (hb.out.alloc hb.out.size _).drew⟩ ?_
          repeat
            with_reducible refine wpQuiet_step (fun K hK => ?_)
            first
              | refine quiet_not (by rfl) (hK _ ?_)
              | refine quiet_any (by rfl) ?_
                apply Exists.intro
                refine ⟨fun wq hq => ?_, hK _ ?_⟩
                · obtain ⟨⟨⟨⟨k0, k1⟩, k2, k3⟩, ⟨k4, k5⟩, k6, k7⟩, kb⟩ := hq
                  go_simp
                  first
                    | done
                    | (with_reducible rfl)
                    | (fail)
            clear hK K
            simp only [Act.put, List.setIfInBounds_toArray, List.set_cons_zero, List.set_cons_succ]
          refine wpQuiet_nil ?_
          intro wq hq
          have hbq := Lib.hid hq.2
          clear hq
          go_wp2_with fail
          go_ret
          exact ⟨by rw [HZ.out]; rfl, hbq.out⟩
        all_goals
          go_wp2_with fail
          refine wp_region_class (fun W => (((W.cell? ⟨w.heap.size, 0, none⟩ = some (.int .i64 t.base) ∧ W.cell? ⟨w.heap.size, 1, none⟩ = some (.int .i64 t.next)) ∧ (W.cell? ⟨wo.heap.size, 0, none⟩ = some (.int .i64 x.off) ∧ W.cell? ⟨wo.heap.size, 1, none⟩ = some (.int .i64 x.id))) ∧ (W.cell? ⟨wo.heap.size, 2, none⟩ = some (.string x.key) ∧ W.cell? ⟨wo.heap.size, 3, none⟩ = some (.string x.body))) ∧ Below w.heap.size w W) (by kernel_rfl) (by kernel_rfl) ⟨⟨⟨⟨by go_simp, by go_simp⟩, by go_simp, by go_simp⟩, by go_simp, by go_simp⟩, (hb.out.alloc hb.out.size _).drew⟩ ?_
          repeat
            with_reducible refine wpQuiet_step (fun K hK => ?_)
            first
              | refine quiet_not (by rfl) (hK _ ?_)
              | refine quiet_any (by rfl) ?_
                apply Exists.intro
                refine ⟨fun wq hq => ?_, hK _ ?_⟩
                · obtain ⟨⟨⟨⟨k0, k1⟩, k2, k3⟩, k4, k5⟩, kb⟩ := hq
                  go_simp
                  first
                    | done
                    | (with_reducible rfl)
                    | (fail)
            clear hK K
            simp only [Act.put, List.setIfInBounds_toArray, List.set_cons_zero, List.set_cons_succ]
          refine wpQuiet_nil ?_
          intro wq hq
          have hbq := Lib.hid hq.2
          clear hq
          go_wp2_with fail
          go_ret
          exact ⟨by rw [HZ.out]; rfl, hbq.out⟩
    · obtain rfl : k = n := by omega
      have hlt' : ¬ (k : Int) < (k : Int) := by omega
      have HW := Lib.hid (show s = Top.whole t t.ents by
        have := hs.out
        rw [show t.ents.take k = t.ents by rw [HN.out]; exact List.take_length] at this
        exact this)
      have hmay : t.may ↔ (s : Int) = t.next - max t.mark t.base := by
        unfold Top.may
        rw [← HW.out]
        exact ⟨fun h => h.2.2, fun h => ⟨HH.out, fun i hi => hall.out i (by rw [HN.out]; exact hi), h⟩⟩
      by_cases hmb : t.mark < t.base
      · obtain ⟨d, hd⟩ : ∃ d, d = t.next - t.base := ⟨_, rfl⟩
        have wd : IntKind.i64.wrap (t.next - t.base) = d := by rw [hd]; exact IntWalk.i64_in _ (by omega)
        have hz : z = ((s : Int) == d) := by
          rw [HM.out, Bool.eq_iff_iff, decide_eq_true_eq, beq_iff_eq, hmay, hd]
          omega
        have HZ := Lib.hid hz
        clear hz hd hmay
        go_wp2_with fail
        go_ret
        exact ⟨by rw [HZ.out]; rfl, hb.out⟩
      · obtain ⟨d, hd⟩ : ∃ d, d = t.next - t.mark := ⟨_, rfl⟩
        have wd : IntKind.i64.wrap (t.next - t.mark) = d := by rw [hd]; exact IntWalk.i64_in _ (by omega)
        have hz : z = ((s : Int) == d) := by
          rw [HM.out, Bool.eq_iff_iff, decide_eq_true_eq, beq_iff_eq, hmay, hd]
          omega
        have HZ := Lib.hid hz
        clear hz hd hmay
        go_wp2_with fail
        go_ret
        exact ⟨by rw [HZ.out]; rfl, hb.out⟩

/-- Whether a topic may be. -/
theorem may17_any {v : Value} {t : Top} {w : World} (h : TopR w v t) :
    Calls Try.prog 68 #[v] w fun e w' => e = .returned (.bool (decide t.may)) ∧ Below w.heap.size w w' := by
  obtain ⟨a, cap, rfl, hs⟩ := h
  by_cases hh : Top.head t
  · obtain ⟨⟨_, hcap⟩, _, hd⟩ := hs.ents
    exact may_some17 t a cap _ w rfl hcap hh hd _ rfl
  · rw [decide_eq_false (fun hm : t.may => hh hm.1)]
    exact may_head _ _ _ _ _ _ w (head_no hh)
end Go.Proofs.Ytblgmjbajnkcdaa
/-
  The document's Trim. No condition but that the topic reads.
-/
namespace Go.Proofs.Ytblgmjbajnkcdaa
open Go.RowKit

set_option maxHeartbeats 2000000 in
set_option maxRecDepth 100000 in
theorem refTrim_any {v : Value} {t u : Top} {w : World} {x : Int} (to : Int) (h : TopR w v t) (hu : trimP t to = (u, x)) :
    Calls Try.prog 57 #[v, .int .i64 to] w (TopEnd1 u x w) := by
  have K := fun (o o' : Obj) => may17_any (h.below (((Below.refl _ _).alloc (Nat.le_refl _) o).alloc (by simp) o'))
  obtain ⟨a, cap, rfl, hs⟩ := h
  by_cases hm : t.may
  · rw [decide_eq_true hm] at K
    have HK := Lib.hid K
    have HL := Lib.hid (show t.ents.length ≤ 1000000 by have := hm.1.2.2.2.2.2.2; omega)
    have HS := Lib.hid hs
    by_cases ht : to < 0 ∨ 1073741824 < to
    · rw [trimP_arg hm ht] at hu
      cases hu
      clear K hs hm
      rcases ht with ht | ht
      all_goals
        go_enter Try.func57, Try.ntmps57
        go_wp2_with fail
        refine (HK.out _ _).mono ?_
        rintro e w2 ⟨rfl, hb⟩
        have HB2 : Hid (Below w.heap.size w _) := below_step (by repeat (first | (with_reducible exact Below.refl _ _) | (with_reducible exact Below.refl _ _) | (with_reducible apply Below.drew) | (with_reducible apply below_alloc) | ((with_reducible refine Below.alloc ?_ ?_ _); rotate_left; focus (first | (simp; done) | (simp; omega) | omega)) | ((with_reducible refine Below.setCell ?_ ?_ _); rotate_left; focus (first | (simp; done) | (simp; omega) | omega)))) hb
        have R2 : Blk _ (w.heap.size + 1) _ _ := Blk.step (by repeat (first | ((with_reducible apply Blk.new); focus (first | rfl | (simp; done) | (simp; omega))) | (with_reducible apply Blk.drew) | (with_reducible apply Blk.alloc) | (with_reducible apply Blk.set_) | ((with_reducible apply Blk.far); rotate_left; focus (first | (simp; done) | (simp; omega) | omega)))) hb
        obtain ⟨r20, r21, r22, r23, r2z⟩ := cells4 R2
        have r2l := Blk.lt R2
        have HR2 := Lib.hid R2
        clear R2
        clear hb
        go_wp2_with fail
        refine bodyPost_ret (v := .tuple #[.agg #[.int .i64 0, .int .i64 0, .int .i64 0, .slice none 0 0], .int .i64 2]) (by simp [results, Try.results57, go_sem, r20, r21, r22, r23]) rfl (topEnd1_zero _ rfl ?_)
        repeat (first | (with_reducible exact HB2.out) | (with_reducible exact Below.refl _ _) | (with_reducible apply Below.drew) | (with_reducible apply below_alloc) | ((with_reducible refine Below.alloc ?_ ?_ _); rotate_left; focus (first | (simp; done) | (simp; omega) | omega)) | ((with_reducible refine Below.setCell ?_ ?_ _); rotate_left; focus (first | (simp; done) | (simp; omega) | omega)))
    · rw [trimP_yes hm ht] at hu
      cases hu
      have h1 : 0 ≤ to := by omega
      have h2 : to ≤ 1073741824 := by omega
      have hbn : t.base ≤ t.next := hm.1.2.2.2.1
      clear K hs hm ht
      obtain ⟨m, hmd⟩ : ∃ m, m = trimTo t to := ⟨_, rfl⟩
      have HM := Lib.hid hmd
      rw [trimTo] at hmd
      rw [← HM.out]
      have cases3 : (t.next < to ∧ ¬ t.next < t.base ∧ m = t.next) ∨ (¬ t.next < to ∧ to < t.base ∧ m = t.base) ∨ (¬ t.next < to ∧ ¬ to < t.base ∧ m = to) := by omega
      clear hmd
      rcases cases3 with ⟨g1, g2, rfl⟩ | ⟨g1, g2, rfl⟩ | ⟨g1, g2, rfl⟩
      all_goals
        go_enter Try.func57, Try.ntmps57
        go_wp2_with fail
        refine (HK.out _ _).mono ?_
        rintro e w2 ⟨rfl, hb⟩
        have HB2 : Hid (Below w.heap.size w _) := below_step (by repeat (first | (with_reducible exact Below.refl _ _) | (with_reducible exact Below.refl _ _) | (with_reducible apply Below.drew) | (with_reducible apply below_alloc) | ((with_reducible refine Below.alloc ?_ ?_ _); rotate_left; focus (first | (simp; done) | (simp; omega) | omega)) | ((with_reducible refine Below.setCell ?_ ?_ _); rotate_left; focus (first | (simp; done) | (simp; omega) | omega)))) hb
        have s2 : w.heap.size + 2 ≤ w2.heap.size := by have := (hb).size; first | omega | (simp at this; omega)
        have A2 : Blk _ (w.heap.size) _ _ := Blk.step (by repeat (first | ((with_reducible apply Blk.new); focus (first | rfl | (simp; done) | (simp; omega))) | (with_reducible apply Blk.drew) | (with_reducible apply Blk.alloc) | (with_reducible apply Blk.set_) | ((with_reducible apply Blk.far); rotate_left; focus (first | (simp; done) | (simp; omega) | omega)))) hb
        obtain ⟨a20, a21, a22, a23, a2z⟩ := cells4 A2
        have a2l := Blk.lt A2
        have HA2 := Lib.hid A2
        clear A2
        have R2 : Blk _ (w.heap.size + 1) _ _ := Blk.step (by repeat (first | ((with_reducible apply Blk.new); focus (first | rfl | (simp; done) | (simp; omega))) | (with_reducible apply Blk.drew) | (with_reducible apply Blk.alloc) | (with_reducible apply Blk.set_) | ((with_reducible apply Blk.far); rotate_left; focus (first | (simp; done) | (simp; omega) | omega)))) hb
        obtain ⟨r20, r21, r22, r23, r2z⟩ := cells4 R2
        have r2l := Blk.lt R2
        have HR2 := Lib.hid R2
        clear R2
        clear hb
        go_wp2_with fail
        have S2 := Lib.hid (HS.out.below entCells_len HB2.out)
        go_region_held3 (fun W => W.cell? ⟨w.heap.size, 1, none⟩ = some (.int .i64 t.next) ∧ W.cell? ⟨w.heap.size, 2, none⟩ = some (.int .i64 t.mark) ∧ W.cell? ⟨w.heap.size, 3, none⟩ = some (.slice a t.ents.length cap))
          (first | (refine ⟨?_, ?_, ?_⟩ <;> exact keep hb (by assumption)) | go_keep)
          ((go_at_call 86; refine (from18_any _ (HS.out.below entCells_len (by repeat (first | (with_reducible exact HB2.out) | (with_reducible exact Below.refl _ _) | (with_reducible apply Below.drew) | (with_reducible apply below_alloc) | ((with_reducible refine Below.alloc ?_ ?_ _); rotate_left; focus (first | (simp; done) | (simp; omega) | omega)) | ((with_reducible refine Below.setCell ?_ ?_ _); rotate_left; focus (first | (simp; done) | (simp; omega) | omega))))) HL.out).mono ?_; rintro e w3 ⟨a3, cap3, rfl, o3, hb⟩; have HR3 := Lib.hid (Blk.step (Blk.drew HR2.out) hb); obtain ⟨r30, r31, r32, r33, r3z⟩ := cells4 HR3.out))
        have O3 := Lib.hid o3
        have HB3 : Hid (Below w.heap.size w w3) := below_step (by repeat (first | (with_reducible exact HB2.out) | (with_reducible exact Below.refl _ _) | (with_reducible apply Below.drew) | (with_reducible apply below_alloc) | ((with_reducible refine Below.alloc ?_ ?_ _); rotate_left; focus (first | (simp; done) | (simp; omega) | omega)) | ((with_reducible refine Below.setCell ?_ ?_ _); rotate_left; focus (first | (simp; done) | (simp; omega) | omega)))) hb
        clear o3 hb
        go_wp2_with fail
      · refine bodyPost_ret (v := .tuple #[.agg #[.int .i64 t.next, .int .i64 t.next, .int .i64 t.mark, .slice a3 (fromE t.next t.ents).length cap3], .int .i64 0]) (by simp [results, Try.results57, go_sem, r30, r31, r32, r33]) rfl ⟨a3, cap3, rfl, ?_, ?_⟩
        · refine own_base (B := w2.heap.size) ?_ (by omega)
          repeat (first | (with_reducible exact O3.out) | (with_reducible apply own_drew) | (with_reducible apply own_alloc) | ((with_reducible apply own_set); rotate_left; focus (first | (simp; done) | (simp; omega) | omega)))
          exact O3.out
        · repeat (first | (with_reducible exact HB3.out) | (with_reducible exact Below.refl _ _) | (with_reducible apply Below.drew) | (with_reducible apply below_alloc) | ((with_reducible refine Below.alloc ?_ ?_ _); rotate_left; focus (first | (simp; done) | (simp; omega) | omega)) | ((with_reducible refine Below.setCell ?_ ?_ _); rotate_left; focus (first | (simp; done) | (simp; omega) | omega)))
      · refine bodyPost_ret (v := .tuple #[.agg #[.int .i64 t.base, .int .i64 t.next, .int .i64 t.mark, .slice a3 (fromE t.base t.ents).length cap3], .int .i64 0]) (by simp [results, Try.results57, go_sem, r30, r31, r32, r33]) rfl ⟨a3, cap3, rfl, ?_, ?_⟩
        · refine own_base (B := w2.heap.size) ?_ (by omega)
          repeat (first | (with_reducible exact O3.out) | (with_reducible apply own_drew) | (with_reducible apply own_alloc) | ((with_reducible apply own_set); rotate_left; focus (first | (simp; done) | (simp; omega) | omega)))
          exact O3.out
        · repeat (first | (with_reducible exact HB3.out) | (with_reducible exact Below.refl _ _) | (with_reducible apply Below.drew) | (with_reducible apply below_alloc) | ((with_reducible refine Below.alloc ?_ ?_ _); rotate_left; focus (first | (simp; done) | (simp; omega) | omega)) | ((with_reducible refine Below.setCell ?_ ?_ _); rotate_left; focus (first | (simp; done) | (simp; omega) | omega)))
      · refine bodyPost_ret (v := .tuple #[.agg #[.int .i64 m, .int .i64 t.next, .int .i64 t.mark, .slice a3 (fromE m t.ents).length cap3], .int .i64 0]) (by simp [results, Try.results57, go_sem, r30, r31, r32, r33]) rfl ⟨a3, cap3, rfl, ?_, ?_⟩
        · refine own_base (B := w2.heap.size) ?_ (by omega)
          repeat (first | (with_reducible exact O3.out) | (with_reducible apply own_drew) | (with_reducible apply own_alloc) | ((with_reducible apply own_set); rotate_left; focus (first | (simp; done) | (simp; omega) | omega)))
          exact O3.out
        · repeat (first | (with_reducible exact HB3.out) | (with_reducible exact Below.refl _ _) | (with_reducible apply Below.drew) | (with_reducible apply below_alloc) | ((with_reducible refine Below.alloc ?_ ?_ _); rotate_left; focus (first | (simp; done) | (simp; omega) | omega)) | ((with_reducible refine Below.setCell ?_ ?_ _); rotate_left; focus (first | (simp; done) | (simp; omega) | omega)))
  · rw [decide_eq_false hm] at K
    have HK := Lib.hid K
    rw [trimP_bad hm] at hu
    cases hu
    clear K hm hs
    go_enter Try.func57, Try.ntmps57
    go_wp2_with fail
    refine (HK.out _ _).mono ?_
    rintro e w2 ⟨rfl, hb⟩
    have HB2 : Hid (Below w.heap.size w _) := below_step (by repeat (first | (with_reducible exact Below.refl _ _) | (with_reducible exact Below.refl _ _) | (with_reducible apply Below.drew) | (with_reducible apply below_alloc) | ((with_reducible refine Below.alloc ?_ ?_ _); rotate_left; focus (first | (simp; done) | (simp; omega) | omega)) | ((with_reducible refine Below.setCell ?_ ?_ _); rotate_left; focus (first | (simp; done) | (simp; omega) | omega)))) hb
    have R2 : Blk _ (w.heap.size + 1) _ _ := Blk.step (by repeat (first | ((with_reducible apply Blk.new); focus (first | rfl | (simp; done) | (simp; omega))) | (with_reducible apply Blk.drew) | (with_reducible apply Blk.alloc) | (with_reducible apply Blk.set_) | ((with_reducible apply Blk.far); rotate_left; focus (first | (simp; done) | (simp; omega) | omega)))) hb
    obtain ⟨r20, r21, r22, r23, r2z⟩ := cells4 R2
    have r2l := Blk.lt R2
    have HR2 := Lib.hid R2
    clear R2
    clear hb
    go_wp2_with fail
    refine bodyPost_ret (v := .tuple #[.agg #[.int .i64 0, .int .i64 0, .int .i64 0, .slice none 0 0], .int .i64 8]) (by simp [results, Try.results57, go_sem, r20, r21, r22, r23]) rfl (topEnd1_zero _ rfl ?_)
    repeat (first | (with_reducible exact HB2.out) | (with_reducible exact Below.refl _ _) | (with_reducible apply Below.drew) | (with_reducible apply below_alloc) | ((with_reducible refine Below.alloc ?_ ?_ _); rotate_left; focus (first | (simp; done) | (simp; omega) | omega)) | ((with_reducible refine Below.setCell ?_ ?_ _); rotate_left; focus (first | (simp; done) | (simp; omega) | omega)))
end Go.Proofs.Ytblgmjbajnkcdaa
/-
  The document's copy of a topic. No condition but that the topic reads and is not very great.
-/
namespace Go.Proofs.Ytblgmjbajnkcdaa
open Go.RowKit

set_option maxHeartbeats 1000000 in
set_option maxRecDepth 100000 in
theorem refTwin17_any {v : Value} {t : Top} {w : World} (h : TopR w v t) (hl : t.ents.length ≤ 1000000) : Calls Try.prog 33 #[v] w (TwinEnd17 t w) := by
  obtain ⟨a, cap, rfl, hs⟩ := h
  obtain ⟨i0, hi, hz0, hz1, hz2⟩ := info_parts info_ent
  obtain ⟨⟨_, hcap⟩, ⟨_, hnone⟩, hd⟩ := hs.ents
  have HNONE := Lib.hid (show a = none → t.ents.length = 0 ∧ cap = 0 from fun e => ⟨by have := hnone e; omega, hnone e⟩)
  have HD := Lib.hid hd
  have HS := Lib.hid hs
  have HL := Lib.hid hl
  obtain ⟨base, hbase⟩ : ∃ base, base = t.base := ⟨_, rfl⟩
  obtain ⟨next, hnext⟩ : ∃ next, next = t.next := ⟨_, rfl⟩
  obtain ⟨mark, hmark⟩ : ∃ mark, mark = t.mark := ⟨_, rfl⟩
  obtain ⟨n, hn⟩ : ∃ n, n = t.ents.length := ⟨_, rfl⟩
  rw [← hbase, ← hnext, ← hmark, ← hn]
  rw [← hn] at HS HD HL HNONE
  have HBS := Lib.hid hbase
  have HNX := Lib.hid hnext
  have HMK := Lib.hid hmark
  have HN := Lib.hid hn
  clear hbase hnext hmark hn hs hl hnone hd hcap
  go_enter Try.func33, Try.ntmps33
  go_wp2_with (at_builtin; go_must (refine wpList_append_own_any _ rfl _ _ 70 rfl (w.heap.size + 3) 29 i0 _ 4 48 Try.underlying70 hi hz0 hz1 hz2 rfl (by decide) _ 0 [] rfl (World.ownsRow_nil _ _ _ _) a n cap (t.ents.flatMap entCells) rfl (by rw [flat_len, HN.out]) HNONE.out ?_ (flat_one4 _) (by have := HL.out; unfold maxLen; omega) (by have := HL.out; omega) (by simp) ?_))
  · intro ad had j v hv
    subst had
    have hn0 : 0 < n := by
      have := (List.getElem?_eq_some_iff.1 hv).1
      rw [flat_len, ← HN.out] at this
      omega
    obtain ⟨b, off, e, _⟩ := HD.out hn0
    cases e
    exact (HS.out.below entCells_len ((((Below.refl _ _).alloc (Nat.le_refl _) _).alloc (by simp) _).alloc (by simp; omega) _)).flat entCells_len (by omega) j v hv
  · intro v' w2 hown hgrow
    have hb := belowGrown hgrow
    have ho : w2.ownsRow (w.heap.size + 3) 29 4 v' n (t.ents.flatMap entCells) := by simpa using hown
    obtain ⟨a', cap', hv'⟩ : ∃ a' cap', v' = .slice a' n cap' := by
      rcases ho.2 with ⟨e, h0⟩ | ⟨g, cp, _, e, _⟩
      · exact ⟨none, 0, by rw [e, h0]⟩
      · exact ⟨_, _, e⟩
    subst hv'
    have HO := Lib.hid ho
    have HB := Lib.hid hb
    have b0 := keep hb (a := ⟨w.heap.size + 2, 0, none⟩) (v := .int .i64 base) (by go_simp)
    have b1 := keep hb (a := ⟨w.heap.size + 2, 1, none⟩) (v := .int .i64 next) (by go_simp)
    have b2 := keep hb (a := ⟨w.heap.size + 2, 2, none⟩) (v := .int .i64 mark) (by go_simp)
    have b3 := keep hb (a := ⟨w.heap.size + 2, 3, none⟩) (v := .slice none 0 0) (by go_simp)
    have z3 : w2.frozen? ⟨w.heap.size + 2, 3, none⟩ = false := by rw [hb.frozen (p := ⟨w.heap.size + 2, 3, none⟩) (by simp)]; go_simp
    have r0 := keep hb (a := ⟨w.heap.size + 1, 0, none⟩) (v := .int .i64 0) (by go_simp)
    have r1 := keep hb (a := ⟨w.heap.size + 1, 1, none⟩) (v := .int .i64 0) (by go_simp)
    have r2 := keep hb (a := ⟨w.heap.size + 1, 2, none⟩) (v := .int .i64 0) (by go_simp)
    have r3 := keep hb (a := ⟨w.heap.size + 1, 3, none⟩) (v := .slice none 0 0) (by go_simp)
    have q0 : w2.frozen? ⟨w.heap.size + 1, 0, none⟩ = false := by rw [hb.frozen (p := ⟨w.heap.size + 1, 0, none⟩) (by simp)]; go_simp
    have q1 : w2.frozen? ⟨w.heap.size + 1, 1, none⟩ = false := by rw [hb.frozen (p := ⟨w.heap.size + 1, 1, none⟩) (by simp)]; go_simp
    have q2 : w2.frozen? ⟨w.heap.size + 1, 2, none⟩ = false := by rw [hb.frozen (p := ⟨w.heap.size + 1, 2, none⟩) (by simp)]; go_simp
    have q3 : w2.frozen? ⟨w.heap.size + 1, 3, none⟩ = false := by rw [hb.frozen (p := ⟨w.heap.size + 1, 3, none⟩) (by simp)]; go_simp
    clear ho hb hown hgrow
    go_wp2_with fail
    refine bodyPost_ret (v := .agg #[.int .i64 base, .int .i64 next, .int .i64 mark, .slice a' n cap']) (by simp [results, Try.results33, go_sem, r0, r1, r2, r3]) rfl ?_
    refine ⟨a', cap', by rw [HBS.out, HNX.out, HMK.out, HN.out], ?_, ?_⟩
    · have h0 := HO.out
      rw [HN.out] at h0 ⊢
      have hlt : ∀ k, (Value.slice a' t.ents.length cap').ownBlock = some k → w.heap.size + 3 ≤ k := fun k hk => (h0.lt k hk).1
      have h1 : OwnE w2 w.heap.size (.slice a' t.ents.length cap') t.ents := ⟨h0.1, h0.2.elim Or.inl (fun ⟨g, cp, cur, hv, hg, r⟩ => Or.inr ⟨g, cp, cur, hv, by omega, r⟩)⟩
      have s1 : ∀ (W : World) (b o : Nat) (u : Value), b < w.heap.size + 3 → OwnE W w.heap.size (.slice a' t.ents.length cap') t.ents → OwnE (W.setCell ⟨b, o, none⟩ u) w.heap.size (.slice a' t.ents.length cap') t.ents := fun W b o u hb h =>
        ownsRow_setCell_other h (fun e => by have := hlt _ e; simp at this; omega) u
      exact s1 _ _ _ _ (by omega) (s1 _ _ _ _ (by omega) (s1 _ _ _ _ (by omega) (s1 _ _ _ _ (by omega) (s1 _ _ _ _ (by omega) h1))))
    · have h0 : Below w.heap.size w w2 := ((((Below.refl _ _).alloc (Nat.le_refl _) _).alloc (by simp) _).alloc (by simp; omega) _).trans (HB.out.mono (by simp; omega))
      exact ((((h0.setCell (p := ⟨w.heap.size + 2, 3, none⟩) (by show w.heap.size ≤ w.heap.size + 2; omega) _).setCell (p := ⟨w.heap.size + 1, 0, none⟩) (Nat.le_succ _) _).setCell (p := ⟨w.heap.size + 1, 1, none⟩) (Nat.le_succ _) _).setCell (p := ⟨w.heap.size + 1, 2, none⟩) (Nat.le_succ _) _).setCell (p := ⟨w.heap.size + 1, 3, none⟩) (Nat.le_succ _) _
end Go.Proofs.Ytblgmjbajnkcdaa
/-
  The document's Great for topics. No condition but that the topic reads.
-/
namespace Go.Proofs.Ytblgmjbajnkcdaa
open Go.RowKit

def GreatEnd17 (t : Top) (w : World) (e : Ending) (w' : World) : Prop := (∃ g, e = .returned (.bool g) ∧ (g = false → t.ents.length ≤ 1000)) ∧ Below w.heap.size w w'

set_option maxHeartbeats 2000000 in
set_option maxRecDepth 100000 in
theorem great17_any {v : Value} {t : Top} {w : World} (h : TopR w v t) (hk : ∀ x ∈ t.ents, x.key.size ≤ 140737488355328 ∧ x.body.size ≤ 140737488355328) :
    Calls Try.prog 30 #[v] w (GreatEnd17 t w) := by
  obtain ⟨a, cap, rfl, hs⟩ := h
  obtain ⟨⟨_, hcap⟩, ⟨hmax, _⟩, hd⟩ := hs.ents
  have HD := Lib.hid hd
  have HK := Lib.hid hk
  obtain ⟨base, hbase⟩ : ∃ base, base = t.base := ⟨_, rfl⟩
  obtain ⟨next, hnext⟩ : ∃ next, next = t.next := ⟨_, rfl⟩
  obtain ⟨mark, hmark⟩ : ∃ mark, mark = t.mark := ⟨_, rfl⟩
  obtain ⟨n, hn⟩ : ∃ n, n = t.ents.length := ⟨_, rfl⟩
  rw [← hbase, ← hnext, ← hmark, ← hn]
  rw [← hn] at HD hcap
  have HN := Lib.hid hn
  unfold maxLen at hmax
  have hn1 : (n : Int) ≤ 9223372036854775807 := by omega
  clear hbase hnext hmark hn hs hd hk
  go_enter Try.func30, Try.ntmps30
  go_wp2_with fail
  go_loopg [3, 4] n (fun g s i wr => ∃ k s' : Nat, k ≤ n ∧ g = n - k ∧ i = .int .i64 (k : Int) ∧ s = .int .i64 (s' : Int) ∧ s' ≤ 400000000000000 ∧ Hid (Below w.heap.size w wr) ∧ Hid (wr.cell? ⟨w.heap.size, 3, none⟩ = some (.slice a n cap)))
  case atStart => exact ⟨0, 0, Nat.zero_le _, rfl, rfl, rfl, by omega, (Below.refl _ _).alloc (Nat.le_refl _) _, by show World.cell? _ _ = _; go_simp⟩
  case round =>
    obtain ⟨k, s', hkn, rfl, rfl, rfl, hs', hb, hbox⟩ := hrel
    have t3 := hbox.out
    by_cases hlt : k < n
    · have hk0 : (0 : Int) ≤ (k : Int) := by omega
      have hk1 : (k : Int) < (n : Int) := by omega
      by_cases hsm : s' ≤ 100000
      · have hs1 : (s' : Int) ≤ 100000 := by omega
        obtain ⟨bb, off, ha, hcc⟩ := HD.out (by omega)
        subst ha
        have cc := hcc k (by rw [← HN.out]; exact hlt)
        clear hcc
        obtain ⟨x, hx⟩ : ∃ x, x = t.ents.getD k default := ⟨_, rfl⟩
        rw [← hx] at cc
        have hsz : x.key.size ≤ 140737488355328 ∧ x.body.size ≤ 140737488355328 := by
          have hkl : k < t.ents.length := by rw [← HN.out]; exact hlt
          have e : t.ents.getD k default = t.ents[k] := by simp [List.getD, hkl]
          rw [hx, e]
          exact HK.out _ (List.getElem_mem hkl)
        have c2 := keep hb.out cc.1.2
        have c3 := keep hb.out cc.2
        obtain ⟨K, hK⟩ : ∃ K, K = x.key.size := ⟨_, rfl⟩
        obtain ⟨L, hL⟩ : ∃ L, L = x.body.size := ⟨_, rfl⟩
        rw [← hK, ← hL] at hsz
        obtain ⟨hK1, hL1⟩ := hsz
        have HKK := hK.symm
        have HLL := hL.symm
        obtain ⟨kk, hkk⟩ : ∃ kk, kk = x.key := ⟨_, rfl⟩
        obtain ⟨ll, hll⟩ : ∃ ll, ll = x.body := ⟨_, rfl⟩
        rw [← hkk] at c2 HKK
        rw [← hll] at c3 HLL
        clear hK hL hkk hll cc hx
        have w1 : IntKind.i64.wrap (30 + (K : Int)) = 30 + (K : Int) := IntWalk.i64_in _ (by omega)
        have w2 : IntKind.i64.wrap (30 + (K : Int) + (L : Int)) = 30 + (K : Int) + (L : Int) := IntWalk.i64_in _ (by omega)
        have w3 : IntKind.i64.wrap ((s' : Int) + (30 + (K : Int) + (L : Int))) = (s' : Int) + (30 + (K : Int) + (L : Int)) := IntWalk.i64_in _ (by omega)
        have hb2 := hb.out
        go_wp2_with fail
        refine wp_region_class (fun w' => ((w'.cell? ⟨w.heap.size, 3, none⟩ = some (.slice (some ⟨bb, off, none⟩) n cap) ∧ w'.cell? ⟨bb, off + k * 4 + 2, none⟩ = some (.string kk)) ∧ w'.cell? ⟨bb, off + k * 4 + 3, none⟩ = some (.string ll)) ∧ Below w.heap.size w w') (by kernel_rfl) (by kernel_rfl) ⟨⟨⟨by simpa using t3, by simpa using c2⟩, by simpa using c3⟩, hb2.drew⟩ ?_
        repeat
          with_reducible refine wpQuiet_step (fun K hK => ?_)
          first
            | refine quiet_not (by rfl) (hK _ ?_)
            | refine quiet_any (by rfl) ?_
              apply Exists.intro
              refine ⟨fun wq hq => ?_, hK _ ?_⟩
              · obtain ⟨⟨⟨k0, k1⟩, k2⟩, kb⟩ := hq
                go_simp
                first
                  | done
                  | (with_reducible rfl)
                  | (fail)
          clear hK K
          simp only [Act.put, List.setIfInBounds_toArray, List.set_cons_zero, List.set_cons_succ]
        refine wpQuiet_nil ?_
        intro wq hq
        have hbq := Lib.hid hq.2
        have t3q := Lib.hid hq.1.1.1
        clear hq hb2 c2 c3 t3
        go_wp2_with fail
        go_roundg (n - (k + 1))
        case measure => omega
        case rel => exact ⟨k + 1, s' + (30 + K + L), by omega, rfl, by go_num, by go_num, by omega, hbq, t3q⟩
      · have hs1 : (100000 : Int) < (s' : Int) := by omega
        have hs2 : ¬ (s' : Int) ≤ 100000 := by omega
        go_wp2_with fail
        go_ret
        exact ⟨⟨true, rfl, fun h => by cases h⟩, hb.out⟩
    · obtain rfl : k = n := by omega
      have hlt' : ¬ (k : Int) < (k : Int) := by omega
      by_cases hs1 : (100000 : Int) < (s' : Int)
      · go_wp2_with fail
        go_ret
        exact ⟨⟨true, rfl, fun h => by cases h⟩, hb.out⟩
      · by_cases hn2 : (1000 : Int) < (k : Int)
        · go_wp2_with fail
          go_ret
          exact ⟨⟨true, rfl, fun h => by cases h⟩, hb.out⟩
        · go_wp2_with fail
          go_ret
          exact ⟨⟨_, rfl, fun _ => by rw [← HN.out]; omega⟩, hb.out⟩
end Go.Proofs.Ytblgmjbajnkcdaa
