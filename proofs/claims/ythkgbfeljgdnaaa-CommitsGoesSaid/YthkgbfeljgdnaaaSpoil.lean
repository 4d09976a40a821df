/-
  spoil: it writes over rows that the caller itself made; what lay there ahead stays. No condition.
-/
import Derived.Test.YthkgbfeljgdnaaaComSet
import Derived.Deep.LoopGhost
namespace Go.Proofs.Ythkgbfeljgdnaaa
open Go.RowKit

/-- OwnC, the rows' values named. -/
def OwnU (w : World) (base : Nat) (v : Value) (us : List Value) (m : List (List Int)) : Prop :=
  w.ownsRow base 65 1 v us.length us ∧ us.length = m.length ∧ (∀ i, i < m.length → w.ownsRow base 3 1 (us.getD i .nilIface) (m.getD i []).length (rowVals (m.getD i []))) ∧
    ∀ i j, i < m.length → j < m.length → i ≠ j → (us.getD i .nilIface).ownBlock = none ∨ (us.getD i .nilIface).ownBlock ≠ (us.getD j .nilIface).ownBlock
theorem OwnU.keep {w w' : World} {base : Nat} {v : Value} {us : List Value} {m : List (List Int)} (h : OwnU w base v us m) (hb : Below w.heap.size w w') : OwnU w' base v us m := by
  obtain ⟨h1, h2, h3, h4⟩ := h
  exact ⟨ownsRow_keep h1 hb, h2, fun i hi => ownsRow_keep (h3 i hi) hb, h4⟩
theorem ownsRow_above {w w' : World} {b : Nat} {e : TypeId} {s n : Nat} {v : Value} {xs : List Value} (h : w.ownsRow b e s v n xs) (hb : ∀ K, b ≤ K → w'.heap[K]? = w.heap[K]?) : w'.ownsRow b e s v n xs := by
  refine ⟨h.1, ?_⟩
  rcases h.2 with h0 | ⟨g, cap, cur, hv, hg, hh, r⟩
  · exact Or.inl h0
  · exact Or.inr ⟨g, cap, cur, hv, hg, by rw [hb g hg]; exact hh, r⟩
theorem OwnC_above {w w' : World} {base : Nat} {v : Value} {m : List (List Int)} (h : OwnC w base v m) (hb : ∀ K, base ≤ K → w'.heap[K]? = w.heap[K]?) : OwnC w' base v m := by
  obtain ⟨us, h1, h2, h3, h4⟩ := h
  exact ⟨us, ownsRow_above h1 hb, h2, fun i hi => ownsRow_above (h3 i hi) hb, h4⟩
/-- No block of these rows. -/
def notOf (us : List Value) (K : Nat) : Prop := ∀ i, i < us.length → (us.getD i .nilIface).ownBlock ≠ some K
theorem OwnU.rows_lt {w : World} {base : Nat} {v : Value} {us : List Value} {m : List (List Int)} (h : OwnU w base v us m) {K : Nat} (hK : w.heap.size ≤ K) : notOf us K := by
  intro i hi e
  have := ((h.2.2.1 i (by rw [← h.2.1]; exact hi)).lt K e).2
  omega

theorem own_row {w : World} {base g n cap : Nat} {us : List Value} {m : List (List Int)} (h : OwnU w base (.slice (some ⟨g, 0, none⟩) n cap) us m) {t : Nat} (ht : t < m.length) :
    ∃ ra rcap, w.cell? ⟨g, t, none⟩ = some (.slice ra (m.getD t []).length rcap) ∧ (m.getD t []).length ≤ maxLen ∧ ∀ k, k < (m.getD t []).length →
      ∃ gt, ra = some ⟨gt, 0, none⟩ ∧ w.cell? ⟨gt, k, none⟩ = some (.int .i64 ((m.getD t []).getD k 0)) ∧ w.frozen? ⟨gt, k, none⟩ = false ∧ (base ≤ gt ∧ ¬ notOf us gt) ∧
        ∀ x, OwnU (w.setCell ⟨gt, k, none⟩ (.int .i64 x)) base (.slice (some ⟨g, 0, none⟩) n cap) us (m.set t ((m.getD t []).set k x)) := by
  obtain ⟨e1, e2, e3, e4⟩ := h
  have hrow := e3 t ht
  have hn : n = us.length := by
    rcases e1.2 with ⟨h0, _⟩ | ⟨_, _, _, h0, _⟩
    · cases h0
    · cases h0; rfl
  subst hn
  have c1 := e1.cellAt t (by omega)
  have c1' : w.cell? ⟨g, t, none⟩ = some (us.getD t .nilIface) := by rw [c1]; simp [List.getD, show t < us.length by omega]
  rcases hrow.2 with ⟨hu, h0⟩ | ⟨gt, rcap, cur, hu, hbg, hh, hle, hmx, hcs, htk⟩
  · refine ⟨none, 0, by rw [c1', hu, h0], by rw [h0]; exact Nat.zero_le _, fun k hk => ?_⟩
    omega
  · refine ⟨some ⟨gt, 0, none⟩, rcap, by rw [c1', hu], Nat.le_trans hle hmx, fun k hk => ⟨gt, rfl, ?_⟩⟩
    have hrow' := hrow
    rw [hu] at hrow'
    have c2 := hrow'.cellAt k (by omega)
    refine ⟨by rw [c2]; exact rowVals_get hk, hrow'.frozenAt _, ⟨hbg, fun hno => hno t (by omega) (by rw [hu]; rfl)⟩, fun x => ?_⟩
    obtain ⟨st, _⟩ := hrow'.stored k (.int .i64 x)
    have hne : (Value.slice (some ⟨g, 0, none⟩) us.length cap).ownBlock ≠ some gt := by
      rcases rows_apart hrow' e1 (by decide) with h0 | h0
      · simp [Value.ownBlock] at h0
      · simpa [Value.ownBlock] using fun e => h0 (by simp [Value.ownBlock, e])
    refine ⟨ownsRow_setCell_other e1 hne _, by simpa using e2, fun i hi => ?_, fun i j hi hj hij => e4 i j (by simpa using hi) (by simpa using hj) hij⟩
    have hi' : i < m.length := by simpa using hi
    by_cases hit : i = t
    · subst hit
      rw [getD_set_same ht, rowVals_set, List.length_set, hu]
      exact st
    · rw [getD_set_other (fun e => hit e.symm)]
      refine ownsRow_setCell_other (e3 i hi') ?_ _
      rcases e4 i t hi' ht hit with h0 | h0
      · rw [h0]; simp
      · rw [hu] at h0
        exact h0

def SpoilEnd (base : Nat) (us : List Value) (w : World) (e : Ending) (w' : World) : Prop := (∃ r, e = .returned r) ∧ Below base w w' ∧ ∀ K, notOf us K → w'.heap[K]? = w.heap[K]?

theorem spoil_none (base : Nat) (us : List Value) (a : Option Addr) (cap : Nat) (w : World) : Calls Try.prog 39 #[.slice a 0 cap] w (SpoilEnd base us w) := by
  go_enter Try.func39, Try.ntmps39
  go_wp2_with fail
  refine wp_loop_rounds 1 ?_
  rw [rounds_succ]
  go_wp2
  first | go_end0 | ((try simp only [Exit.inBlock, Exit.then]); refine bodyPost_ret (results_none rfl _ _ _) rfl ?_)
  exact ⟨⟨_, rfl⟩, Below.refl _ _, fun _ _ => rfl⟩

set_option maxHeartbeats 2000000 in
theorem spoil_some {base g n cap : Nat} {us : List Value} {m : List (List Int)} {w : World} (h : OwnU w base (.slice (some ⟨g, 0, none⟩) n cap) us m) (hn : n = m.length) (hcap : n ≤ cap) (hm : cap ≤ 9223372036854775807) :
    Calls Try.prog 39 #[.slice (some ⟨g, 0, none⟩) n cap] w (SpoilEnd base us w) := by
  have H0 := Lib.hid h
  have HN := Lib.hid hn
  clear h hn
  have hn' : (n : Int) ≤ 9223372036854775807 := by omega
  go_enter Try.func39, Try.ntmps39
  go_wp2_with fail
  go_loopg [2] n (fun g' i wr => ∃ k : Nat, k ≤ n ∧ g' = n - k ∧ i = .int .i64 (k : Int) ∧ Hid (∃ m' : List (List Int), m'.length = n ∧ OwnU wr base (.slice (some ⟨g, 0, none⟩) n cap) us m') ∧ Hid (Below base w wr ∧ ∀ K, notOf us K → wr.heap[K]? = w.heap[K]?))
  case atStart => exact ⟨0, Nat.zero_le _, rfl, rfl, ⟨m, HN.out.symm, H0.out⟩, Below.refl _ _, fun _ _ => rfl⟩
  case round =>
    obtain ⟨k, hk, rfl, rfl, hm', hb⟩ := hrel
    by_cases hlt : k < n
    · have hk0 : (0 : Int) ≤ (k : Int) := by omega
      have hk1 : (k : Int) < (n : Int) := by omega
      obtain ⟨m1, hl1, ho1⟩ := hm'.out
      obtain ⟨rl, hrl⟩ : ∃ rl, rl = (m1.getD k []).length := ⟨_, rfl⟩
      have HI : Hid (∃ m' : List (List Int), m'.length = n ∧ (m'.getD k []).length = rl ∧ OwnU wr base (.slice (some ⟨g, 0, none⟩) n cap) us m') := ⟨m1, hl1, hrl.symm, ho1⟩
      clear hrl ho1 hl1 hm' H0 HN
      go_wp2_with fail
      go_loopg [3] rl (fun g' j wi => ∃ q : Nat, q ≤ rl ∧ g' = rl - q ∧ j = .int .i64 (q : Int) ∧ Hid (∃ m' : List (List Int), m'.length = n ∧ (m'.getD k []).length = rl ∧ OwnU wi base (.slice (some ⟨g, 0, none⟩) n cap) us m') ∧ Hid (Below base w wi ∧ ∀ K, notOf us K → wi.heap[K]? = w.heap[K]?))
      case atStart => exact ⟨0, Nat.zero_le _, rfl, rfl, HI, hb⟩
      case round =>
        obtain ⟨q, hq, rfl, rfl, hm2, hb2⟩ := hrel
        have hm2' := hm2
        clear HI hb
        obtain ⟨m2, hl2, hrl2, ho2⟩ := hm2.out
        obtain ⟨ra, rcap, c1, hmx, hgo⟩ := own_row ho2 (t := k) (by omega)
        rw [hrl2] at c1 hmx hgo
        have HGO := Lib.hid hgo
        have HL2 := Lib.hid hl2
        have HRL2 := Lib.hid hrl2
        unfold maxLen at hmx
        have hrn : (rl : Int) ≤ 9223372036854775807 := by omega
        clear hgo ho2 hl2 hrl2 hm2
        by_cases hql : q < rl
        · have hq0 : (0 : Int) ≤ (q : Int) := by omega
          have hq1 : (q : Int) < (rl : Int) := by omega
          obtain ⟨gt, hra, c2, c3, hbg, hst⟩ := HGO.out q hql
          subst hra
          have HST := Lib.hid hst
          clear hst HGO
          obtain ⟨x, hx⟩ : ∃ x, x = (m2.getD k []).getD q 0 := ⟨_, rfl⟩
          rw [← hx] at c2
          clear hx
          go_wp2_with fail
          go_roundg (rl - (q + 1))
          case measure => omega
          case rel =>
            refine ⟨q + 1, by omega, rfl, by go_num, ⟨m2.set k ((m2.getD k []).set q (-77)), by rw [List.length_set]; exact HL2.out, ?_, HST.out (-77)⟩, hb2.out.1.setCell (p := ⟨gt, q, none⟩) hbg.1 _, fun K hK => ?_⟩
            · rw [getD_set_same (by rw [HL2.out]; exact hlt), List.length_set]
              exact HRL2.out
            · rw [heap_setCell_other _ _ _ _ (fun e => hbg.2 (by have e' : K = gt := e; rw [← e']; exact hK))]
              exact hb2.out.2 K hK
        · obtain rfl : q = rl := by omega
          have hlq : ¬ (q : Int) < (q : Int) := by omega
          have HO : Hid (∃ m' : List (List Int), m'.length = n ∧ OwnU wr base (.slice (some ⟨g, 0, none⟩) n cap) us m') := by
            obtain ⟨m3, e1, _, e3⟩ := hm2'.out
            exact ⟨m3, e1, e3⟩
          go_wp2_with fail
          go_roundg (n - (k + 1))
          case measure => omega
          case rel => exact ⟨k + 1, by omega, rfl, by go_num, HO, hb2⟩
    · obtain rfl : k = n := by omega
      have hlt' : ¬ (k : Int) < (k : Int) := by omega
      go_wp2_with fail
      first | go_end0 | ((try simp only [Exit.inBlock, Exit.then]); refine bodyPost_ret (results_none rfl _ _ _) rfl ?_)
      exact ⟨⟨_, rfl⟩, hb.out.1, hb.out.2⟩

theorem spoil_any {base : Nat} {v : Value} {us : List Value} {m : List (List Int)} {w : World} (h : OwnU w base v us m) : Calls Try.prog 39 #[v] w (SpoilEnd base us w) := by
  have h' := h
  obtain ⟨e1, e2, _, _⟩ := h'
  rcases e1.2 with ⟨hv, h0⟩ | ⟨g, cap, _, hv, _, _, hle, hmx, _⟩
  · rw [hv]
    exact spoil_none base us none 0 w
  · rw [hv] at h ⊢
    unfold maxLen at hmx
    exact spoil_some h e2 hle hmx

end Go.Proofs.Ythkgbfeljgdnaaa
