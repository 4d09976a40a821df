/-
  The document's May of topics. No condition but that the topic reads.
-/
import Derived.Test.YtolgkadoplalnaaCheck17
import Derived.Test.YtolgkadoplalnaaOwn
import Derived.Test.YtolgkadoplalnaaFrom18
import Derived.Test.YtolgkadoplalnaaTopD
namespace Go.Proofs.Ytolgkadoplalnaa
open Go.RowKit

theorem getD_len {l : List Ent} {j : Nat} (h : j < l.length) : l.getD j default = l[j] := by simp [List.getD, h]

/-- What is wrong with an entry by itself, the first thing first, as the walk spells it. -/
theorem ent_no {t : Top} {x : Ent} {p : Int} {k : Nat} (h : ¬ (Top.okEnt x ∧ t.base ≤ x.off ∧ x.off < t.next ∧ (0 < k → p < x.off))) :
    decide (x.id < 0) = true ∨ (decide (x.id < 0) = false ∧ (decide (6291456 ≤ x.id) = true ∨ (decide (6291456 ≤ x.id) = false ∧ (decide ((16 : Int) < (x.key.size : Int)) = true ∨ (decide ((16 : Int) < (x.key.size : Int)) = false ∧
      (decide ((64 : Int) < (x.body.size : Int)) = true ∨ (decide ((64 : Int) < (x.body.size : Int)) = false ∧ (decide (x.off < t.base) = true ∨ (decide (x.off < t.base) = false ∧ (decide (t.next ≤ x.off) = true ∨ (decide (t.next ≤ x.off) = false ∧ (0 < k ∧ x.off ≤ p)))))))))))) := by
  unfold Top.okEnt at h
  simp only [decide_eq_true_eq, decide_eq_false_iff_not]
  omega
theorem ent_yes {t : Top} {x : Ent} (h : Top.okEnt x ∧ t.base ≤ x.off ∧ x.off < t.next) : decide (x.id < 0) = false ∧ decide (6291456 ≤ x.id) = false ∧ decide ((16 : Int) < (x.key.size : Int)) = false ∧
      decide ((64 : Int) < (x.body.size : Int)) = false ∧ decide (x.off < t.base) = false ∧ decide (t.next ≤ x.off) = false := by
  unfold Top.okEnt at h
  simp only [decide_eq_false_iff_not]
  omega

set_option linter.unusedSimpArgs false in
theorem whole_take {t : Top} {k : Nat} (h : k < t.ents.length) : Top.whole t (t.ents.take (k + 1)) = Top.whole t (t.ents.take k) + if t.mark ≤ (t.ents.getD k default).off then 1 else 0 := by
  rw [take_succ_ent h]
  unfold Top.whole
  rw [List.countP_append]
  by_cases c : t.mark ≤ (t.ents.getD k default).off <;> simp [c]
theorem whole_le (t : Top) (l : List Ent) : Top.whole t l ≤ l.length := List.countP_le_length

theorem not_may_of {t : Top} {k : Nat} (hk : k < t.ents.length) (h : ¬ Top.good t k) : ¬ t.may := fun hm => h (hm.2.1 k hk)

set_option maxRecDepth 100000 in
set_option maxHeartbeats 2000000 in
theorem may_head (b n m : Int) (a : Option Addr) (l cap : Nat) (w : World)
    (h : n < 0 ∨ (0 ≤ n ∧ (1073741824 < n ∨ (n ≤ 1073741824 ∧ (b < 0 ∨ (0 ≤ b ∧ (n < b ∨ (b ≤ n ∧ (m < 0 ∨ (0 ≤ m ∧ (n < m ∨ (m ≤ n ∧ (200 : Int) < (l : Int))))))))))))) :
    Calls Try.prog 45 #[.agg #[.int .i64 b, .int .i64 n, .int .i64 m, .slice a l cap]] w fun e w' => e = .returned (.bool false) ∧ Below w.heap.size w w' := by
  rcases h with h1 | ⟨h1, h2 | ⟨h2, h3 | ⟨h3, h4 | ⟨h4, h5 | ⟨h5, h6 | ⟨h6, h7⟩⟩⟩⟩⟩⟩
  all_goals
    go_enter Try.func45, Try.ntmps45
    go_wp2_with fail
    go_ret
    exact ⟨rfl, (Below.refl _ _).alloc (Nat.le_refl _) _⟩

theorem toList_eq {u v : ByteArray} (h : u.toList = v.toList) : u = v := by
  rw [ByteArray.toList_eq, ByteArray.toList_eq] at h
  have := Array.toList_inj.1 h
  cases u; cases v; simp_all

set_option maxHeartbeats 8000000 in
set_option maxRecDepth 100000 in
theorem may_some17 (t : Top) (a : Option Addr) (cap n : Nat) (w : World) (hn : n = t.ents.length) (hcap : n ≤ cap) (hh : Top.head t) (hc : 0 < n → ∃ bb off, a = some ⟨bb, off, none⟩ ∧ EntsAt w bb off t.ents) (z : Bool) (hm : z = decide t.may) :
    Calls Try.prog 45 #[.agg #[.int .i64 t.base, .int .i64 t.next, .int .i64 t.mark, .slice a n cap]] w fun e w' => e = .returned (.bool z) ∧ Below w.heap.size w w' := by
  have HH := Lib.hid hh
  obtain ⟨h1, h2, h3, h4, h5, h6, h7⟩ := hh
  rw [← hn] at h7
  have HC := Lib.hid hc
  have HN := Lib.hid hn
  have HM := Lib.hid hm
  have n1 : (n : Int) ≤ 200 := by omega
  clear hc hn hm
  go_enter Try.func45, Try.ntmps45
  go_wp2_with fail
  go_loopg [3, 4] n (fun g c i wr => ∃ (k s : Nat), k ≤ n ∧ g = n - k ∧ i = .int .i64 (k : Int) ∧ c = .int .i64 (s : Int) ∧ s ≤ k ∧ Hid (s = Top.whole t (t.ents.take k)) ∧ Hid (∀ j, j < k → Top.good t j) ∧ Hid (Below w.heap.size w wr) ∧
    Hid (Blk wr w.heap.size 24 [.int .i64 t.base, .int .i64 t.next, .int .i64 t.mark, .slice a n cap]))
  case atStart =>
    refine ⟨0, 0, Nat.zero_le _, rfl, rfl, rfl, Nat.le_refl _, rfl, (fun j hj => absurd hj (Nat.not_lt_zero _)), (Below.refl _ _).alloc (Nat.le_refl _) _, Blk.new rfl⟩
  case round =>
    obtain ⟨k, s, hkn, rfl, rfl, rfl, hsk, hs, hall, hb, hbox⟩ := hrel
    obtain ⟨wo, rfl⟩ : ∃ wo : World, wo = wr := ⟨_, rfl⟩
    obtain ⟨a0, a1, a2, a3, az⟩ := cells4 hbox.out
    have s1 : w.heap.size < wo.heap.size := hbox.out.lt
    by_cases hlt : k < n
    · have hk0 : (0 : Int) ≤ (k : Int) := by omega
      have hk1 : (k : Int) < (n : Int) := by omega
      have HKL := Lib.hid (show k < t.ents.length by rw [← HN.out]; exact hlt)
      obtain ⟨bb, off, ha, hcc⟩ := HC.out (by omega)
      subst ha
      have cc := hcc k HKL.out
      obtain ⟨x, hx⟩ : ∃ x, x = t.ents.getD k default := ⟨_, rfl⟩
      rw [← hx] at cc
      have c0 := keep hb.out cc.1.1.1
      have c1 := keep hb.out cc.1.1.2
      have c2 := keep hb.out cc.1.2
      have c3 := keep hb.out cc.2
      have HX := Lib.hid hx
      have HCC := Lib.hid hcc
      clear cc hx hcc
      by_cases hpre : Top.okEnt x ∧ t.base ≤ x.off ∧ x.off < t.next ∧ (0 < k → (t.ents.getD (k - 1) default).off < x.off)
      · obtain ⟨d1, d2, d3, d4, d5, d6⟩ := ent_yes ⟨hpre.1, hpre.2.1, hpre.2.2.1⟩
        have HP := Lib.hid hpre
        have HA := Lib.hid (Blk.alloc hbox.out (.cells #[.int .i64 x.off, .int .i64 x.id, .string x.key, .string x.body] 38))
        have HXB := Lib.hid (Blk.new (w := wo) (t := 38) (cs := entCells x) rfl)
        have step : (decide (0 < k) = false) ∨ ∃ p : Nat, p < k ∧ IntKind.i64.wrap ((k : Int) - 1) = (p : Int) ∧ decide (0 < k) = true ∧ decide (x.off ≤ (t.ents.getD p default).off) = false := by
          by_cases k0 : 0 < k
          · refine Or.inr ⟨k - 1, by omega, by rw [IntWalk.i64_in _ (by omega)]; omega, decide_eq_true k0, decide_eq_false ?_⟩
            have := hpre.2.2.2 k0
            omega
          · exact Or.inl (decide_eq_false k0)
        clear hpre
        have key : True := trivial
        rcases step with d7 | ⟨p, hpk, w1, d7, d8⟩
        · go_wp2_with fail
          refine wp_region_class (fun W => (((W.cell? ⟨w.heap.size, 0, none⟩ = some (.int .i64 t.base) ∧ W.cell? ⟨w.heap.size, 1, none⟩ = some (.int .i64 t.next)) ∧ (W.cell? ⟨wo.heap.size, 0, none⟩ = some (.int .i64 x.off) ∧ W.cell? ⟨wo.heap.size, 1, none⟩ = some (.int .i64 x.id))) ∧ (W.cell? ⟨wo.heap.size, 2, none⟩ = some (.string x.key) ∧ W.cell? ⟨wo.heap.size, 3, none⟩ = some (.string x.body))) ∧ Hid (Below w.heap.size w W) ∧ Hid (Blk W w.heap.size 24 [.int .i64 t.base, .int .i64 t.next, .int .i64 t.mark, .slice (some ⟨bb, off, none⟩) n cap]) ∧ Hid (Blk W wo.heap.size 38 (entCells x))) (by kernel_rfl) (by kernel_rfl) ⟨⟨⟨⟨by go_simp, by go_simp⟩, by go_simp, by go_simp⟩, by go_simp, by go_simp⟩, (hb.out.alloc hb.out.size _).drew, HA.out, HXB.out⟩ ?_
          repeat
            with_reducible refine wpQuiet_step (fun K hK => ?_)
            first
              | refine quiet_not (by rfl) (hK _ ?_)
              | refine quiet_any (by rfl) ?_
                apply Exists.intro
                refine ⟨fun wq hq => ?_, hK _ ?_⟩
                · obtain ⟨⟨⟨⟨k0, k1⟩, k2, k3⟩, k4, k5⟩, kb⟩ := hq
                  go_simp
                  first
                    | done
                    | (with_reducible rfl)
                    | (fail)
            clear hK K
            simp only [Act.put, List.setIfInBounds_toArray, List.set_cons_zero, List.set_cons_succ]
          refine wpQuiet_nil ?_
          intro wq hq
          obtain ⟨hbq, hAq, hXq⟩ := hq.2
          clear hq a0 a1 a2 a3 az c0 c1 c2 c3 d1 d2 d3 d4 d5 d6 d7
          go_wp2_with fail
          go_loopg [6] k (fun g q wi => ∃ kk : Nat, kk ≤ k ∧ g = k - kk ∧ q = .int .i64 (kk : Int) ∧ Hid (x.off < t.mark → ∀ j, j < kk → (t.ents.getD j default).key ≠ x.key) ∧ Hid (Below w.heap.size w wi) ∧ Hid (Blk wi w.heap.size 24 [.int .i64 t.base, .int .i64 t.next, .int .i64 t.mark, .slice (some ⟨bb, off, none⟩) n cap]) ∧ Hid (Blk wi wo.heap.size 38 (entCells x)))
          case atStart => exact ⟨0, Nat.zero_le _, rfl, rfl, (fun _ j hj => absurd hj (Nat.not_lt_zero _)), hbq, hAq, hXq⟩
          case round =>
            clear hbq hAq hXq
            obtain ⟨kk, hkk, rfl, rfl, hne, hbq, hAq, hXq⟩ := hrel
            obtain ⟨a0, a1, a2, a3, az⟩ := cells4 hAq.out
            have x0 := hXq.out.cell 0
            have x2 := hXq.out.cell 2
            simp only [entCells, List.getElem?_cons_zero, List.getElem?_cons_succ] at x0 x2
            by_cases hkl : kk < k
            · have q0 : (0 : Int) ≤ (kk : Int) := by omega
              have q1 : (kk : Int) < (k : Int) := by omega
              have q2 : (kk : Int) < (n : Int) := by omega
              by_cases hxm : x.off < t.mark
              · have hyc := HCC.out kk (by rw [← HN.out]; omega)
                obtain ⟨y, hy⟩ : ∃ y, y = t.ents.getD kk default := ⟨_, rfl⟩
                rw [← hy] at hyc
                have y2 := keep hbq.out hyc.1.2
                have HY := Lib.hid hy
                have e1 : decide (x.off < t.mark) = true := decide_eq_true hxm
                have HXM := Lib.hid hxm
                obtain ⟨e, he⟩ : ∃ e, e = (y.key.toList == x.key.toList) := ⟨_, rfl⟩
                have he' := he.symm
                have HE := Lib.hid he
                clear hy hyc hxm he
                cases e
                all_goals
                  go_wp2_with fail
                  refine wp_region_class (fun W => (((W.cell? ⟨wo.heap.size, 0, none⟩ = some (.int .i64 x.off) ∧ W.cell? ⟨wo.heap.size, 2, none⟩ = some (.string x.key)) ∧ (W.cell? ⟨w.heap.size, 2, none⟩ = some (.int .i64 t.mark) ∧ W.cell? ⟨w.heap.size, 3, none⟩ = some (.slice (some ⟨bb, off, none⟩) n cap))) ∧ W.cell? ⟨bb, off + kk * 4 + 2, none⟩ = some (.string y.key)) ∧ Hid (Below w.heap.size w W) ∧ Hid (Blk W w.heap.size 24 [.int .i64 t.base, .int .i64 t.next, .int .i64 t.mark, .slice (some ⟨bb, off, none⟩) n cap]) ∧ Hid (Blk W wo.heap.size 38 (entCells x))) (by kernel_rfl) (by kernel_rfl) ⟨⟨⟨⟨by go_simp, by go_simp⟩, by go_simp, by go_simp⟩, by go_simp⟩, hbq.out.drew, hAq.out, hXq.out⟩ ?_
                  repeat
                    with_reducible refine wpQuiet_step (fun K hK => ?_)
                    first
                      | refine quiet_not (by rfl) (hK _ ?_)
                      | refine quiet_any (by rfl) ?_
                        apply Exists.intro
                        refine ⟨fun wq hq => ?_, hK _ ?_⟩
                        · obtain ⟨⟨⟨⟨k0, k1⟩, k2, k3⟩, k4⟩, kb⟩ := hq
                          go_simp
                          first
                            | done
                            | (with_reducible rfl)
                            | (fail)
                    clear hK K
                    simp only [Act.put, List.setIfInBounds_toArray, List.set_cons_zero, List.set_cons_succ]
                  refine wpQuiet_nil ?_
                  intro ww hq
                  clear hbq hAq hXq
                  obtain ⟨hbq, hAq, hXq⟩ := hq.2
                  clear hq a0 a1 a2 a3 az x0 x2 y2
                  go_wp2_with fail
                · go_roundg (k - (kk + 1))
                  case measure => omega
                  case rel =>
                    refine ⟨kk + 1, by omega, rfl, by go_num, fun hm j hj => ?_, hbq, hAq, hXq⟩
                    by_cases hjk : j < kk
                    · exact hne.out hm j hjk
                    · obtain rfl : j = kk := by omega
                      rw [← HY.out]
                      intro h
                      have h2 := HE.out
                      rw [h] at h2
                      simp at h2
                · go_ret
                  refine ⟨?_, hbq.out⟩
                  have hz : z = false := by
                    rw [HM.out]
                    refine decide_eq_false (not_may_of HKL.out fun hg => ?_)
                    unfold Top.good at hg
                    rw [← HX.out] at hg
                    refine hg.2.2.2.2 HXM.out kk hkl ?_
                    rw [← HY.out]
                    exact toList_eq (by simpa using HE.out.symm)
                  rw [hz]; rfl
              · have e1 : decide (x.off < t.mark) = false := decide_eq_false hxm
                have HXM := Lib.hid hxm
                clear hxm
                go_wp2_with fail
                refine wp_region_class (fun W => ((W.cell? ⟨wo.heap.size, 0, none⟩ = some (.int .i64 x.off) ∧ W.cell? ⟨w.heap.size, 2, none⟩ = some (.int .i64 t.mark))) ∧ Hid (Below w.heap.size w W) ∧ Hid (Blk W w.heap.size 24 [.int .i64 t.base, .int .i64 t.next, .int .i64 t.mark, .slice (some ⟨bb, off, none⟩) n cap]) ∧ Hid (Blk W wo.heap.size 38 (entCells x))) (by kernel_rfl) (by kernel_rfl) ⟨⟨by go_simp, by go_simp⟩, hbq.out.drew, hAq.out, hXq.out⟩ ?_
                repeat
                  with_reducible refine wpQuiet_step (fun K hK => ?_)
                  first
                    | refine quiet_not (by rfl) (hK _ ?_)
                    | refine quiet_any (by rfl) ?_
                      apply Exists.intro
                      refine ⟨fun wq hq => ?_, hK _ ?_⟩
                      · obtain ⟨⟨k0, k1⟩, kb⟩ := hq
                        go_simp
                        first
                          | done
                          | (with_reducible rfl)
                          | (fail)
                  clear hK K
                  simp only [Act.put, List.setIfInBounds_toArray, List.set_cons_zero, List.set_cons_succ]
                refine wpQuiet_nil ?_
                intro ww hq
                clear hbq hAq hXq
                obtain ⟨hbq, hAq, hXq⟩ := hq.2
                clear hq a0 a1 a2 a3 az x0 x2
                go_wp2_with fail
                go_roundg (k - (kk + 1))
                case measure => omega
                case rel => exact ⟨kk + 1, by omega, rfl, by go_num, fun hm => absurd hm (by have := HXM.out; omega), hbq, hAq, hXq⟩
            · obtain rfl : kk = k := by omega
              have q1 : ¬ (kk : Int) < (kk : Int) := by omega
              have HG := Lib.hid (show Top.good t kk by
                unfold Top.good
                rw [← HX.out]
                exact ⟨HP.out.1, HP.out.2.1, HP.out.2.2.1, HP.out.2.2.2, fun hm => hne.out hm⟩)
              have HW := Lib.hid (whole_take HKL.out)
              have HALL := Lib.hid (show ∀ j, j < kk + 1 → Top.good t j by
                intro j hj
                by_cases hjk : j < kk
                · exact hall.out j hjk
                · obtain rfl : j = kk := by omega
                  exact HG.out)
              by_cases hxm : t.mark ≤ x.off
              · have hs1 : (s : Int) + 1 ≤ 201 := by omega
                have HXM := Lib.hid hxm
                go_wp2_with fail
                go_roundg (n - (kk + 1))
                case measure => omega
                case rel => exact ⟨kk + 1, s + 1, by omega, rfl, by go_num, by go_num, by omega, by have h1 := HW.out; rw [← HX.out, if_pos (by have := HXM.out; omega)] at h1; have h2 := hs.out; show s + 1 = _; omega, HALL.out, hbq, hAq⟩
              · have HXM := Lib.hid hxm
                go_wp2_with fail
                go_roundg (n - (kk + 1))
                case measure => omega
                case rel => exact ⟨kk + 1, s, by omega, rfl, by go_num, rfl, by omega, by have h1 := HW.out; rw [← HX.out, if_neg (by have := HXM.out; omega)] at h1; have h2 := hs.out; show s = _; omega, HALL.out, hbq, hAq⟩
        · have p0 : (0 : Int) ≤ (p : Int) := by omega
          have p1 : (p : Int) < (n : Int) := by omega
          have pp := keep hb.out (HCC.out p (by rw [← HN.out]; omega)).1.1.1
          have bl := World.block_lt_of_cell? _ _ pp
          obtain ⟨po, hpo⟩ : ∃ po, po = (t.ents.getD p default).off := ⟨_, rfl⟩
          rw [← hpo] at pp d8
          simp only at bl
          clear hpo
          go_wp2_with fail
          refine wp_region_class (fun W => (((W.cell? ⟨w.heap.size, 0, none⟩ = some (.int .i64 t.base) ∧ W.cell? ⟨w.heap.size, 1, none⟩ = some (.int .i64 t.next)) ∧ (W.cell? ⟨wo.heap.size, 0, none⟩ = some (.int .i64 x.off) ∧ W.cell? ⟨wo.heap.size, 1, none⟩ = some (.int .i64 x.id))) ∧ (W.cell? ⟨wo.heap.size, 2, none⟩ = some (.string x.key) ∧ W.cell? ⟨wo.heap.size, 3, none⟩ = some (.string x.body)) ∧ (W.cell? ⟨w.heap.size, 3, none⟩ = some (.slice (some ⟨bb, off, none⟩) n cap) ∧ W.cell? ⟨bb, off + p * 4, none⟩ = some (.int .i64 po))) ∧ Hid (Below w.heap.size w W) ∧ Hid (Blk W w.heap.size 24 [.int .i64 t.base, .int .i64 t.next, .int .i64 t.mark, .slice (some ⟨bb, off, none⟩) n cap]) ∧ Hid (Blk W wo.heap.size 38 (entCells x))) (by kernel_rfl) (by kernel_rfl) ⟨⟨⟨⟨by go_simp, by go_simp⟩, by go_simp, by go_simp⟩, ⟨by go_simp, by go_simp⟩, by go_simp, by go_simp⟩, (hb.out.alloc hb.out.size _).drew, HA.out, HXB.out⟩ ?_
          repeat
            with_reducible refine wpQuiet_step (fun K hK => ?_)
            first
              | refine quiet_not (by rfl) (hK _ ?_)
              | refine quiet_any (by rfl) ?_
                apply Exists.intro
                refine ⟨fun wq hq => ?_, hK _ ?_⟩
                · obtain ⟨⟨⟨⟨k0, k1⟩, k2, k3⟩, ⟨k4, k5⟩, k6, k7⟩, kb⟩ := hq
                  go_simp
                  first
                    | done
                    | (with_reducible rfl)
                    | (fail)
            clear hK K
            simp only [Act.put, List.setIfInBounds_toArray, List.set_cons_zero, List.set_cons_succ]
          refine wpQuiet_nil ?_
          intro wq hq
          obtain ⟨hbq, hAq, hXq⟩ := hq.2
          clear hq a0 a1 a2 a3 az c0 c1 c2 c3 d1 d2 d3 d4 d5 d6 d7 d8 w1 pp p0 p1
          go_wp2_with fail
          go_loopg [6] k (fun g q wi => ∃ kk : Nat, kk ≤ k ∧ g = k - kk ∧ q = .int .i64 (kk : Int) ∧ Hid (x.off < t.mark → ∀ j, j < kk → (t.ents.getD j default).key ≠ x.key) ∧ Hid (Below w.heap.size w wi) ∧ Hid (Blk wi w.heap.size 24 [.int .i64 t.base, .int .i64 t.next, .int .i64 t.mark, .slice (some ⟨bb, off, none⟩) n cap]) ∧ Hid (Blk wi wo.heap.size 38 (entCells x)))
          case atStart => exact ⟨0, Nat.zero_le _, rfl, rfl, (fun _ j hj => absurd hj (Nat.not_lt_zero _)), hbq, hAq, hXq⟩
          case round =>
            clear hbq hAq hXq
            obtain ⟨kk, hkk, rfl, rfl, hne, hbq, hAq, hXq⟩ := hrel
            obtain ⟨a0, a1, a2, a3, az⟩ := cells4 hAq.out
            have x0 := hXq.out.cell 0
            have x2 := hXq.out.cell 2
            simp only [entCells, List.getElem?_cons_zero, List.getElem?_cons_succ] at x0 x2
            by_cases hkl : kk < k
            · have q0 : (0 : Int) ≤ (kk : Int) := by omega
              have q1 : (kk : Int) < (k : Int) := by omega
              have q2 : (kk : Int) < (n : Int) := by omega
              by_cases hxm : x.off < t.mark
              · have hyc := HCC.out kk (by rw [← HN.out]; omega)
                obtain ⟨y, hy⟩ : ∃ y, y = t.ents.getD kk default := ⟨_, rfl⟩
                rw [← hy] at hyc
                have y2 := keep hbq.out hyc.1.2
                have HY := Lib.hid hy
                have e1 : decide (x.off < t.mark) = true := decide_eq_true hxm
                have HXM := Lib.hid hxm
                obtain ⟨e, he⟩ : ∃ e, e = (y.key.toList == x.key.toList) := ⟨_, rfl⟩
                have he' := he.symm
                have HE := Lib.hid he
                clear hy hyc hxm he
                cases e
                all_goals
                  go_wp2_with fail
                  refine wp_region_class (fun W => (((W.cell? ⟨wo.heap.size, 0, none⟩ = some (.int .i64 x.off) ∧ W.cell? ⟨wo.heap.size, 2, none⟩ = some (.string x.key)) ∧ (W.cell? ⟨w.heap.size, 2, none⟩ = some (.int .i64 t.mark) ∧ W.cell? ⟨w.heap.size, 3, none⟩ = some (.slice (some ⟨bb, off, none⟩) n cap))) ∧ W.cell? ⟨bb, off + kk * 4 + 2, none⟩ = some (.string y.key)) ∧ Hid (Below w.heap.size w W) ∧ Hid (Blk W w.heap.size 24 [.int .i64 t.base, .int .i64 t.next, .int .i64 t.mark, .slice (some ⟨bb, off, none⟩) n cap]) ∧ Hid (Blk W wo.heap.size 38 (entCells x))) (by kernel_rfl) (by kernel_rfl) ⟨⟨⟨⟨by go_simp, by go_simp⟩, by go_simp, by go_simp⟩, by go_simp⟩, hbq.out.drew, hAq.out, hXq.out⟩ ?_
                  repeat
                    with_reducible refine wpQuiet_step (fun K hK => ?_)
                    first
                      | refine quiet_not (by rfl) (hK _ ?_)
                      | refine quiet_any (by rfl) ?_
                        apply Exists.intro
                        refine ⟨fun wq hq => ?_, hK _ ?_⟩
                        · obtain ⟨⟨⟨⟨k0, k1⟩, k2, k3⟩, k4⟩, kb⟩ := hq
                          go_simp
                          first
                            | done
                            | (with_reducible rfl)
                            | (fail)
                    clear hK K
                    simp only [Act.put, List.setIfInBounds_toArray, List.set_cons_zero, List.set_cons_succ]
                  refine wpQuiet_nil ?_
                  intro ww hq
                  clear hbq hAq hXq
                  obtain ⟨hbq, hAq, hXq⟩ := hq.2
                  clear hq a0 a1 a2 a3 az x0 x2 y2
                  go_wp2_with fail
                · go_roundg (k - (kk + 1))
                  case measure => omega
                  case rel =>
                    refine ⟨kk + 1, by omega, rfl, by go_num, fun hm j hj => ?_, hbq, hAq, hXq⟩
                    by_cases hjk : j < kk
                    · exact hne.out hm j hjk
                    · obtain rfl : j = kk := by omega
                      rw [← HY.out]
                      intro h
                      have h2 := HE.out
                      rw [h] at h2
                      simp at h2
                · go_ret
                  refine ⟨?_, hbq.out⟩
                  have hz : z = false := by
                    rw [HM.out]
                    refine decide_eq_false (not_may_of HKL.out fun hg => ?_)
                    unfold Top.good at hg
                    rw [← HX.out] at hg
                    refine hg.2.2.2.2 HXM.out kk hkl ?_
                    rw [← HY.out]
                    exact toList_eq (by simpa using HE.out.symm)
                  rw [hz]; rfl
              · have e1 : decide (x.off < t.mark) = false := decide_eq_false hxm
                have HXM := Lib.hid hxm
                clear hxm
                go_wp2_with fail
                refine wp_region_class (fun W => ((W.cell? ⟨wo.heap.size, 0, none⟩ = some (.int .i64 x.off) ∧ W.cell? ⟨w.heap.size, 2, none⟩ = some (.int .i64 t.mark))) ∧ Hid (Below w.heap.size w W) ∧ Hid (Blk W w.heap.size 24 [.int .i64 t.base, .int .i64 t.next, .int .i64 t.mark, .slice (some ⟨bb, off, none⟩) n cap]) ∧ Hid (Blk W wo.heap.size 38 (entCells x))) (by kernel_rfl) (by kernel_rfl) ⟨⟨by go_simp, by go_simp⟩, hbq.out.drew, hAq.out, hXq.out⟩ ?_
                repeat
                  with_reducible refine wpQuiet_step (fun K hK => ?_)
                  first
                    | refine quiet_not (by rfl) (hK _ ?_)
                    | refine quiet_any (by rfl) ?_
                      apply Exists.intro
                      refine ⟨fun wq hq => ?_, hK _ ?_⟩
                      · obtain ⟨⟨k0, k1⟩, kb⟩ := hq
                        go_simp
                        first
                          | done
                          | (with_reducible rfl)
                          | (fail)
                  clear hK K
                  simp only [Act.put, List.setIfInBounds_toArray, List.set_cons_zero, List.set_cons_succ]
                refine wpQuiet_nil ?_
                intro ww hq
                clear hbq hAq hXq
                obtain ⟨hbq, hAq, hXq⟩ := hq.2
                clear hq a0 a1 a2 a3 az x0 x2
                go_wp2_with fail
                go_roundg (k - (kk + 1))
                case measure => omega
                case rel => exact ⟨kk + 1, by omega, rfl, by go_num, fun hm => absurd hm (by have := HXM.out; omega), hbq, hAq, hXq⟩
            · obtain rfl : kk = k := by omega
              have q1 : ¬ (kk : Int) < (kk : Int) := by omega
              have HG := Lib.hid (show Top.good t kk by
                unfold Top.good
                rw [← HX.out]
                exact ⟨HP.out.1, HP.out.2.1, HP.out.2.2.1, HP.out.2.2.2, fun hm => hne.out hm⟩)
              have HW := Lib.hid (whole_take HKL.out)
              have HALL := Lib.hid (show ∀ j, j < kk + 1 → Top.good t j by
                intro j hj
                by_cases hjk : j < kk
                · exact hall.out j hjk
                · obtain rfl : j = kk := by omega
                  exact HG.out)
              by_cases hxm : t.mark ≤ x.off
              · have hs1 : (s : Int) + 1 ≤ 201 := by omega
                have HXM := Lib.hid hxm
                go_wp2_with fail
                go_roundg (n - (kk + 1))
                case measure => omega
                case rel => exact ⟨kk + 1, s + 1, by omega, rfl, by go_num, by go_num, by omega, by have h1 := HW.out; rw [← HX.out, if_pos (by have := HXM.out; omega)] at h1; have h2 := hs.out; show s + 1 = _; omega, HALL.out, hbq, hAq⟩
              · have HXM := Lib.hid hxm
                go_wp2_with fail
                go_roundg (n - (kk + 1))
                case measure => omega
                case rel => exact ⟨kk + 1, s, by omega, rfl, by go_num, rfl, by omega, by have h1 := HW.out; rw [← HX.out, if_neg (by have := HXM.out; omega)] at h1; have h2 := hs.out; show s = _; omega, HALL.out, hbq, hAq⟩
      · have hz : z = false := by
          rw [HM.out]
          refine decide_eq_false (not_may_of HKL.out fun hg => hpre ?_)
          unfold Top.good at hg
          rw [← HX.out] at hg
          exact ⟨hg.1, hg.2.1, hg.2.2.1, hg.2.2.2.1⟩
        have HZ := Lib.hid hz
        have hno := ent_no hpre
        clear hz hpre
        rcases hno with q1 | ⟨q1, q2 | ⟨q2, q3 | ⟨q3, q4 | ⟨q4, q5 | ⟨q5, q6 | ⟨q6, q7, q8⟩⟩⟩⟩⟩⟩
        rotate_right
        · obtain ⟨p, hp⟩ : ∃ p, p = k - 1 := ⟨k - 1, rfl⟩
          rw [← hp] at q8
          have w1 : IntKind.i64.wrap ((k : Int) - 1) = (p : Int) := by rw [IntWalk.i64_in _ (by omega)]; omega
          have p0 : (0 : Int) ≤ (p : Int) := by omega
          have p1 : (p : Int) < (n : Int) := by omega
          have pp := keep hb.out (HCC.out p (by rw [← HN.out]; omega)).1.1.1
          have bl := World.block_lt_of_cell? _ _ pp
          obtain ⟨po, hpo⟩ : ∃ po, po = (t.ents.getD p default).off := ⟨_, rfl⟩
          rw [← hpo] at pp q8
          have q9 : decide (x.off ≤ po) = true := by simpa using q8
          have q10 : decide (0 < k) = true := decide_eq_true q7
          simp only at bl
          clear hpo q8 q7 hp
          go_wp2_with fail
          refine wp_region_class (fun W => (((W.cell? ⟨w.heap.size, 0, none⟩ = some (.int .i64 t.base) ∧ W.cell? ⟨w.heap.size, 1, none⟩ = some (.int .i64 t.next)) ∧ (W.cell? ⟨wo.heap.size, 0, none⟩ = some (.int .i64 x.off) ∧ W.cell? ⟨wo.heap.size, 1, none⟩ = some (.int .i64 x.id))) ∧ (W.cell? ⟨wo.heap.size, 2, none⟩ = some (.string x.key) ∧ W.cell? ⟨wo.heap.size, 3, none⟩ = some (.string x.body)) ∧ (W.cell? ⟨w.heap.size, 3, none⟩ = some (.slice (some ⟨bb, off, none⟩) n cap) ∧ W.cell? ⟨bb, off + p * 4, none⟩ = some (.int .i64 po))) ∧ Below w.heap.size w W) (by kernel_rfl) (by kernel_rfl) ⟨⟨⟨⟨by go_simp, by go_simp⟩, by go_simp, by go_simp⟩, ⟨by go_simp, by go_simp⟩, by go_simp, by go_simp⟩, (hb.out.alloc hb.out.size _).drew⟩ ?_
          repeat
            with_reducible refine wpQuiet_step (fun K hK => ?_)
            first
              | refine quiet_not (by rfl) (hK _ ?_)
              | refine quiet_any (by rfl) ?_
                apply Exists.intro
                refine ⟨fun wq hq => ?_, hK _ ?_⟩
                · obtain ⟨⟨⟨⟨k0, k1⟩, k2, k3⟩, ⟨k4, k5⟩, k6, k7⟩, kb⟩ := hq
                  go_simp
                  first
                    | done
                    | (with_reducible rfl)
                    | (fail)
            clear hK K
            simp only [Act.put, List.setIfInBounds_toArray, List.set_cons_zero, List.set_cons_succ]
          refine wpQuiet_nil ?_
          intro wq hq
          have hbq := Lib.hid hq.2
          clear hq
          go_wp2_with fail
          go_ret
          exact ⟨by rw [HZ.out]; rfl, hbq.out⟩
        all_goals
          go_wp2_with fail
          refine wp_region_class (fun W => (((W.cell? ⟨w.heap.size, 0, none⟩ = some (.int .i64 t.base) ∧ W.cell? ⟨w.heap.size, 1, none⟩ = some (.int .i64 t.next)) ∧ (W.cell? ⟨wo.heap.size, 0, none⟩ = some (.int .i64 x.off) ∧ W.cell? ⟨wo.heap.size, 1, none⟩ = some (.int .i64 x.id))) ∧ (W.cell? ⟨wo.heap.size, 2, none⟩ = some (.string x.key) ∧ W.cell? ⟨wo.heap.size, 3, none⟩ = some (.string x.body))) ∧ Below w.heap.size w W) (by kernel_rfl) (by kernel_rfl) ⟨⟨⟨⟨by go_simp, by go_simp⟩, by go_simp, by go_simp⟩, by go_simp, by go_simp⟩, (hb.out.alloc hb.out.size _).drew⟩ ?_
          repeat
            with_reducible refine wpQuiet_step (fun K hK => ?_)
            first
              | refine quiet_not (by rfl) (hK _ ?_)
              | refine quiet_any (by rfl) ?_
                apply Exists.intro
                refine ⟨fun wq hq => ?_, hK _ ?_⟩
                · obtain ⟨⟨⟨⟨k0, k1⟩, k2, k3⟩, k4, k5⟩, kb⟩ := hq
                  go_simp
                  first
                    | done
                    | (with_reducible rfl)
                    | (fail)
            clear hK K
            simp only [Act.put, List.setIfInBounds_toArray, List.set_cons_zero, List.set_cons_succ]
          refine wpQuiet_nil ?_
          intro wq hq
          have hbq := Lib.hid hq.2
          clear hq
          go_wp2_with fail
          go_ret
          exact ⟨by rw [HZ.out]; rfl, hbq.out⟩
    · obtain rfl : k = n := by omega
      have hlt' : ¬ (k : Int) < (k : Int) := by omega
      have HW := Lib.hid (show s = Top.whole t t.ents by
        have := hs.out
        rw [show t.ents.take k = t.ents by rw [HN.out]; exact List.take_length] at this
        exact this)
      have hmay : t.may ↔ (s : Int) = t.next - max t.mark t.base := by
        unfold Top.may
        rw [← HW.out]
        exact ⟨fun h => h.2.2, fun h => ⟨HH.out, fun i hi => hall.out i (by rw [HN.out]; exact hi), h⟩⟩
      by_cases hmb : t.mark < t.base
      · obtain ⟨d, hd⟩ : ∃ d, d = t.next - t.base := ⟨_, rfl⟩
        have wd : IntKind.i64.wrap (t.next - t.base) = d := by rw [hd]; exact IntWalk.i64_in _ (by omega)
        have hz : z = ((s : Int) == d) := by
          rw [HM.out, Bool.eq_iff_iff, decide_eq_true_eq, beq_iff_eq, hmay, hd]
          omega
        have HZ := Lib.hid hz
        clear hz hd hmay
        go_wp2_with fail
        go_ret
        exact ⟨by rw [HZ.out]; rfl, hb.out⟩
      · obtain ⟨d, hd⟩ : ∃ d, d = t.next - t.mark := ⟨_, rfl⟩
        have wd : IntKind.i64.wrap (t.next - t.mark) = d := by rw [hd]; exact IntWalk.i64_in _ (by omega)
        have hz : z = ((s : Int) == d) := by
          rw [HM.out, Bool.eq_iff_iff, decide_eq_true_eq, beq_iff_eq, hmay, hd]
          omega
        have HZ := Lib.hid hz
        clear hz hd hmay
        go_wp2_with fail
        go_ret
        exact ⟨by rw [HZ.out]; rfl, hb.out⟩

/-- Whether a topic may be. -/
theorem may17_any {v : Value} {t : Top} {w : World} (h : TopR w v t) :
    Calls Try.prog 45 #[v] w fun e w' => e = .returned (.bool (decide t.may)) ∧ Below w.heap.size w w' := by
  obtain ⟨a, cap, rfl, hs⟩ := h
  by_cases hh : Top.head t
  · obtain ⟨⟨_, hcap⟩, _, hd⟩ := hs.ents
    exact may_some17 t a cap _ w rfl hcap hh hd _ rfl
  · rw [decide_eq_false (fun hm : t.may => hh hm.1)]
    exact may_head _ _ _ _ _ _ w (head_no hh)
end Go.Proofs.Ytolgkadoplalnaa
