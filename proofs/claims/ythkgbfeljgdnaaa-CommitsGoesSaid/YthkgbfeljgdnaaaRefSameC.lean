/-
  The document's Same for commits. No condition but that the slices read.
-/
import Derived.Test.YthkgbfeljgdnaaaComSame
import Derived.Deep.LoopGhost
namespace Go.Proofs.Ythkgbfeljgdnaaa
open Go.RowKit

theorem refSameC_len (a a' : Option Addr) (n n' cap cap' : Nat) (w : World) (h : n ≠ n') :
    Calls Try.prog 35 #[.slice a n cap, .slice a' n' cap'] w fun e w' => e = .returned (.bool false) ∧ Below w.heap.size w w' := by
  have hd : ((n : Int) != (n' : Int)) = true := by simp; omega
  go_enter Try.func35, Try.ntmps35
  go_wp2_with fail
  go_ret
  exact ⟨rfl, Below.refl _ _⟩
theorem refSameC_none (a a' : Option Addr) (cap cap' : Nat) (w : World) :
    Calls Try.prog 35 #[.slice a 0 cap, .slice a' 0 cap'] w fun e w' => e = .returned (.bool true) ∧ Below w.heap.size w w' := by
  go_enter Try.func35, Try.ntmps35
  go_wp2_with fail
  refine wp_loop_rounds 1 ?_
  rw [rounds_succ]
  go_wp2
  go_ret
  exact ⟨rfl, Below.refl _ _⟩

set_option maxHeartbeats 4000000 in
theorem refSameC_some (b off cap b' off' cap' n : Nat) (us us' : List Value) (m m' : List (List Int)) (w : World) (hl : 0 < n) (hn : n = m.length) (hn2 : n = m'.length) (hcap : n ≤ cap) (hm : cap ≤ 9223372036854775807) (hcap' : n ≤ cap')
    (hc : ∀ i, i < n → w.cell? ⟨b, off + i, none⟩ = some (us.getD i .nilIface)) (hc' : ∀ i, i < n → w.cell? ⟨b', off' + i, none⟩ = some (us'.getD i .nilIface))
    (hr : ∀ i, i < n → SliceR w (us.getD i .nilIface) 1 intCell (m.getD i [])) (hr' : ∀ i, i < n → SliceR w (us'.getD i .nilIface) 1 intCell (m'.getD i [])) :
    Calls Try.prog 35 #[.slice (some ⟨b, off, none⟩) n cap, .slice (some ⟨b', off', none⟩) n cap'] w fun e w' => e = .returned (.bool (decide (m = m'))) ∧ Below w.heap.size w w' := by
  have HC := Lib.hid hc
  have HC' := Lib.hid hc'
  have HR := Lib.hid hr
  have HR' := Lib.hid hr'
  have HN := Lib.hid hn
  have HN2 := Lib.hid hn2
  obtain ⟨z, hz⟩ : ∃ z, z = decide (m = m') := ⟨_, rfl⟩
  rw [← hz]
  have HZ := Lib.hid hz
  clear hn hn2 hc hc' hr hr' hz
  have nn : ((n : Int) != (n : Int)) = false := by simp
  have hn' : (n : Int) ≤ 9223372036854775807 := by omega
  go_enter Try.func35, Try.ntmps35
  go_wp2_with fail
  go_loopg [5] n (fun g i wr => ∃ k : Nat, k ≤ n ∧ g = n - k ∧ i = .int .i64 (k : Int) ∧ Hid (∀ j, j < k → m.getD j [] = m'.getD j []) ∧ Hid (Below w.heap.size w wr))
  case atStart => exact ⟨0, Nat.zero_le _, rfl, rfl, (fun j hj => absurd hj (Nat.not_lt_zero _)), Below.refl _ _⟩
  case round =>
    obtain ⟨k, hk, rfl, rfl, hall, hb⟩ := hrel
    by_cases hlt : k < n
    · have hk0 : (0 : Int) ≤ (k : Int) := by omega
      have hk1 : (k : Int) < (n : Int) := by omega
      have r0 := HR.out k hlt
      have r0' := HR'.out k hlt
      have c0 := HC.out k hlt
      have c0' := HC'.out k hlt
      obtain ⟨u, hu⟩ : ∃ u, u = us.getD k .nilIface := ⟨_, rfl⟩
      rw [← hu] at c0 r0
      clear hu
      obtain ⟨u', hu'⟩ : ∃ u', u' = us'.getD k .nilIface := ⟨_, rfl⟩
      rw [← hu'] at c0' r0'
      clear hu'
      obtain ⟨r, hr⟩ : ∃ r, r = m.getD k [] := ⟨_, rfl⟩
      rw [← hr] at r0
      obtain ⟨r', hr'⟩ : ∃ r', r' = m'.getD k [] := ⟨_, rfl⟩
      rw [← hr'] at r0'
      have HE := Lib.hid hr
      have HE' := Lib.hid hr'
      clear hr hr'
      obtain ⟨ua, ucap, hua, huc, huc2, _, hrc⟩ := r0.one (c := fun n => .int .i64 n) 0
      obtain ⟨ua', ucap', hua', huc', huc2', _, hrc'⟩ := r0'.one (c := fun n => .int .i64 n) 0
      subst hua hua'
      obtain ⟨rl, hrl⟩ : ∃ rl, rl = r.length := ⟨_, rfl⟩
      obtain ⟨rl', hrl'⟩ : ∃ rl', rl' = r'.length := ⟨_, rfl⟩
      rw [← hrl] at c0 hrc huc
      rw [← hrl'] at c0' hrc' huc'
      have HRL := Lib.hid hrl
      have HRL' := Lib.hid hrl'
      have HRC := Lib.hid hrc
      have HRC' := Lib.hid hrc'
      have C0 := Lib.hid c0
      have C0' := Lib.hid c0'
      have d0 := keep hb.out c0
      have d0' := keep hb.out c0'
      have hb2 := hb.out
      unfold maxLen at huc2
      clear hrl hrl' hrc hrc' c0 c0' r0 r0'
      by_cases hll : rl = rl'
      · subst hll
        have rr : ((rl : Int) != (rl : Int)) = false := by simp
        have hrn : (rl : Int) ≤ 9223372036854775807 := by omega
        go_wp2_with fail
        refine wp_region_class (fun w' => (w'.cell? ⟨b, off + k, none⟩ = some (.slice ua rl ucap) ∧ w'.cell? ⟨b', off' + k, none⟩ = some (.slice ua' rl ucap')) ∧ Below w.heap.size w w') (by kernel_rfl) (by kernel_rfl) ⟨⟨by simpa using d0, by simpa using d0'⟩, hb2.drew⟩ ?_
        repeat
          with_reducible refine wpQuiet_step (fun K hK => ?_)
          first
            | refine quiet_not (by rfl) (hK _ ?_)
            | refine quiet_any (by rfl) ?_
              apply Exists.intro
              refine ⟨fun wq hq => ?_, hK _ ?_⟩
              · obtain ⟨⟨k0, k1⟩, kb⟩ := hq
                go_simp
                first
                  | done
                  | (with_reducible rfl)
                  | (fail)
          clear hK K
          simp only [Act.put, List.setIfInBounds_toArray, List.set_cons_zero, List.set_cons_succ]
        refine wpQuiet_nil ?_
        intro wq hq
        have hbq := Lib.hid hq.2
        clear hq d0 d0' hb2 hb
        go_wp2_with fail
        go_loopg [6] rl (fun g j wi => ∃ q : Nat, q ≤ rl ∧ g = rl - q ∧ j = .int .i64 (q : Int) ∧ Hid (∀ i, i < q → r.getD i 0 = r'.getD i 0) ∧ Hid (Below w.heap.size w wi))
        case atStart => exact ⟨0, Nat.zero_le _, rfl, rfl, (fun j hj => absurd hj (Nat.not_lt_zero _)), hbq.out⟩
        case round =>
          obtain ⟨q, hq, rfl, rfl, hin, hbi⟩ := hrel
          have e0 := keep hbi.out C0.out
          have e0' := keep hbi.out C0'.out
          clear hbq
          by_cases hql : q < rl
          · have hq0 : (0 : Int) ≤ (q : Int) := by omega
            have hq1 : (q : Int) < (rl : Int) := by omega
            obtain ⟨rb, roff, hua, hrd⟩ := HRC.out (by omega)
            obtain ⟨rb', roff', hua', hrd'⟩ := HRC'.out (by omega)
            have c1 := keep hbi.out (hrd q hql)
            have c1' := keep hbi.out (hrd' q hql)
            clear HRC HRC' hrd hrd'
            subst hua hua'
            obtain ⟨x, hx⟩ : ∃ x, x = r.getD q 0 := ⟨_, rfl⟩
            obtain ⟨y, hy⟩ : ∃ y, y = r'.getD q 0 := ⟨_, rfl⟩
            rw [← hx] at c1
            rw [← hy] at c1'
            have HX := Lib.hid hx
            have HY := Lib.hid hy
            have hbi2 := hbi.out
            clear hx hy
            by_cases hxy : x = y
            · have hd : (x != y) = false := by simpa using hxy
              have HXY := Lib.hid hxy
              clear hxy
              go_wp2_with fail
              refine wp_region_class (fun w' => ((w'.cell? ⟨b, off + k, none⟩ = some (.slice (some ⟨rb, roff, none⟩) rl ucap) ∧ w'.cell? ⟨b', off' + k, none⟩ = some (.slice (some ⟨rb', roff', none⟩) rl ucap')) ∧ w'.cell? ⟨rb, roff + q, none⟩ = some (.int .i64 x) ∧ w'.cell? ⟨rb', roff' + q, none⟩ = some (.int .i64 y)) ∧ Below w.heap.size w w') (by kernel_rfl) (by kernel_rfl) ⟨⟨⟨by simpa using e0, by simpa using e0'⟩, by simpa using c1, by simpa using c1'⟩, hbi2.drew⟩ ?_
              repeat
                with_reducible refine wpQuiet_step (fun K hK => ?_)
                first
                  | refine quiet_not (by rfl) (hK _ ?_)
                  | refine quiet_any (by rfl) ?_
                    apply Exists.intro
                    refine ⟨fun wq hq => ?_, hK _ ?_⟩
                    · obtain ⟨⟨⟨k0, k1⟩, k2, k3⟩, kb⟩ := hq
                      go_simp
                      first
                        | done
                        | (with_reducible rfl)
                        | (fail)
                clear hK K
                simp only [Act.put, List.setIfInBounds_toArray, List.set_cons_zero, List.set_cons_succ]
              refine wpQuiet_nil ?_
              intro wq hq
              have hbq := Lib.hid hq.2
              clear hq hbi2 e0 e0' c1 c1'
              go_wp2_with fail
              go_roundg (rl - (q + 1))
              case measure => omega
              case rel =>
                refine ⟨q + 1, by omega, rfl, by go_num, fun j hj => ?_, hbq⟩
                by_cases hjq : j < q
                · exact hin.out j hjq
                · obtain rfl : j = q := by omega
                  rw [← HX.out, ← HY.out]; exact HXY.out
            · have hd : (x != y) = true := by simpa using hxy
              have HXY := Lib.hid hxy
              clear hxy
              go_wp2_with fail
              refine wp_region_class (fun w' => ((w'.cell? ⟨b, off + k, none⟩ = some (.slice (some ⟨rb, roff, none⟩) rl ucap) ∧ w'.cell? ⟨b', off' + k, none⟩ = some (.slice (some ⟨rb', roff', none⟩) rl ucap')) ∧ w'.cell? ⟨rb, roff + q, none⟩ = some (.int .i64 x) ∧ w'.cell? ⟨rb', roff' + q, none⟩ = some (.int .i64 y)) ∧ Below w.heap.size w w') (by kernel_rfl) (by kernel_rfl) ⟨⟨⟨by simpa using e0, by simpa using e0'⟩, by simpa using c1, by simpa using c1'⟩, hbi2.drew⟩ ?_
              repeat
                with_reducible refine wpQuiet_step (fun K hK => ?_)
                first
                  | refine quiet_not (by rfl) (hK _ ?_)
                  | refine quiet_any (by rfl) ?_
                    apply Exists.intro
                    refine ⟨fun wq hq => ?_, hK _ ?_⟩
                    · obtain ⟨⟨⟨k0, k1⟩, k2, k3⟩, kb⟩ := hq
                      go_simp
                      first
                        | done
                        | (with_reducible rfl)
                        | (fail)
                clear hK K
                simp only [Act.put, List.setIfInBounds_toArray, List.set_cons_zero, List.set_cons_succ]
              refine wpQuiet_nil ?_
              intro wq hq
              have hbq := Lib.hid hq.2
              clear hq hbi2 e0 e0' c1 c1'
              go_wp2_with fail
              go_ret
              refine ⟨?_, hbq.out⟩
              rw [HZ.out, decide_eq_false (fun e => HXY.out (by rw [HX.out, HY.out, HE.out, HE'.out, e]))]
              rfl
          · obtain rfl : q = rl := by omega
            have hlq : ¬ (q : Int) < (q : Int) := by omega
            go_wp2_with fail
            go_roundg (n - (k + 1))
            case measure => omega
            case rel =>
              refine ⟨k + 1, by omega, rfl, by go_num, fun j hj => ?_, hbi⟩
              by_cases hjk : j < k
              · exact hall.out j hjk
              · obtain rfl : j = k := by omega
                rw [← HE.out, ← HE'.out]
                exact list_eq_of 0 (by rw [← HRL.out, ← HRL'.out]) (by rw [← HRL.out]; exact hin.out)
      · have rr : ((rl : Int) != (rl' : Int)) = true := by simp; omega
        have hrn : (rl : Int) ≤ 9223372036854775807 := by omega
        have HLL := Lib.hid hll
        clear hll
        go_wp2_with fail
        refine wp_region_class (fun w' => (w'.cell? ⟨b, off + k, none⟩ = some (.slice ua rl ucap) ∧ w'.cell? ⟨b', off' + k, none⟩ = some (.slice ua' rl' ucap')) ∧ Below w.heap.size w w') (by kernel_rfl) (by kernel_rfl) ⟨⟨by simpa using d0, by simpa using d0'⟩, hb2.drew⟩ ?_
        repeat
          with_reducible refine wpQuiet_step (fun K hK => ?_)
          first
            | refine quiet_not (by rfl) (hK _ ?_)
            | refine quiet_any (by rfl) ?_
              apply Exists.intro
              refine ⟨fun wq hq => ?_, hK _ ?_⟩
              · obtain ⟨⟨k0, k1⟩, kb⟩ := hq
                go_simp
                first
                  | done
                  | (with_reducible rfl)
                  | (fail)
          clear hK K
          simp only [Act.put, List.setIfInBounds_toArray, List.set_cons_zero, List.set_cons_succ]
        refine wpQuiet_nil ?_
        intro wq hq
        have hbq := Lib.hid hq.2
        clear hq d0 d0' hb2 hb
        go_wp2_with fail
        go_ret
        refine ⟨?_, hbq.out⟩
        rw [HZ.out, decide_eq_false (fun e => HLL.out (by rw [HRL.out, HRL'.out, HE.out, HE'.out, e]))]
        rfl
    · obtain rfl : k = n := by omega
      have hlt' : ¬ (k : Int) < (k : Int) := by omega
      go_wp2_with fail
      go_ret
      refine ⟨?_, hb.out⟩
      rw [HZ.out, decide_eq_true (list_eq_of [] (by rw [← HN.out, ← HN2.out]) (by rw [← HN.out]; exact hall.out))]
      rfl

theorem refSameC_any {v v' : Value} {m m' : List (List Int)} {w : World} (h : RowsR w v m) (h' : RowsR w v' m') :
    Calls Try.prog 35 #[v, v'] w fun e w' => e = .returned (.bool (decide (m = m'))) ∧ Below w.heap.size w w' := by
  obtain ⟨us, h1, h2, h3⟩ := h
  obtain ⟨us', h1', h2', h3'⟩ := h'
  obtain ⟨a, cap, rfl, hcap, hm, _, hc⟩ := h1.one (c := fun u => u) .nilIface
  obtain ⟨a', cap', rfl, hcap', hm', _, hc'⟩ := h1'.one (c := fun u => u) .nilIface
  by_cases hl : us.length = us'.length
  · by_cases h0 : us.length = 0
    · have e1 : m = [] := List.length_eq_zero_iff.1 (by omega)
      have e2 : m' = [] := List.length_eq_zero_iff.1 (by omega)
      rw [← hl, h0, e1, e2]
      exact refSameC_none a a' cap cap' w
    · obtain ⟨b, off, rfl, hd⟩ := hc (by omega)
      obtain ⟨b', off', rfl, hd'⟩ := hc' (by omega)
      unfold maxLen at hm
      rw [← hl]
      exact refSameC_some b off cap b' off' cap' _ us us' m m' w (by omega) h2 (by omega) hcap hm (by omega) hd (fun i hi => hd' i (by omega)) (fun i hi => h3 i (by omega)) (fun i hi => h3' i (by omega))
  · have e : decide (m = m') = false := decide_eq_false (fun e => hl (by rw [h2, h2', e]))
    rw [e]
    exact refSameC_len a a' _ _ cap cap' w hl

end Go.Proofs.Ythkgbfeljgdnaaa
