/-
  The document's comparison of two lists of entries; slices.Equal at entries; the two Sames. No condition but that the slices read.
-/
import Derived.Test.YtolgkadoplalnaaEntEq
import Derived.Deep.LoopGhost
namespace Go.Proofs.Ytolgkadoplalnaa
open Go.RowKit

theorem eqEnt_iff (x y : Ent) : eqEnt x y = true ↔ x = y := by
  obtain ⟨a, b, c, d⟩ := x
  obtain ⟨a', b', c', d'⟩ := y
  have hb : ∀ u v : ByteArray, u.toList = v.toList ↔ u = v := fun u v => by
    rw [ByteArray.toList_eq, ByteArray.toList_eq]
    constructor
    · intro h
      have := Array.toList_inj.1 h
      cases u; cases v; simp_all
    · rintro rfl; rfl
  simp [eqEnt, hb]

def sameE (l l' : List Ent) : Bool := decide (l.length = l'.length) && (List.range l.length).all fun i => eqEnt (l.getD i default) (l'.getD i default)
theorem sameE_iff (l l' : List Ent) : sameE l l' = true ↔ l = l' := by
  simp only [sameE, Bool.and_eq_true, decide_eq_true_eq, List.all_eq_true, List.mem_range]
  constructor
  · rintro ⟨h1, h2⟩
    apply List.ext_getElem h1
    intro i hi hi'
    have := (eqEnt_iff _ _).1 (h2 i hi)
    simpa [List.getD, hi, hi'] using this
  · rintro rfl
    exact ⟨rfl, fun i _ => (eqEnt_iff _ _).2 rfl⟩
theorem sameE_len {l l' : List Ent} (h : l.length ≠ l'.length) : sameE l l' = false := by simp [sameE, h]
theorem sameE_at {l l' : List Ent} {k : Nat} (h : eqEnt (l.getD k default) (l'.getD k default) = false) : sameE l l' = false := by
  cases e : sameE l l' with
  | false => rfl
  | true =>
    rw [(sameE_iff _ _).1 e] at h
    rw [(eqEnt_iff _ _).2 rfl] at h
    cases h
theorem sameE_all {l l' : List Ent} (hl : l.length = l'.length) (h : ∀ i, i < l.length → eqEnt (l.getD i default) (l'.getD i default) = true) : sameE l l' = true := by
  simp only [sameE, Bool.and_eq_true, decide_eq_true_eq, List.all_eq_true, List.mem_range]
  exact ⟨hl, h⟩

set_option maxHeartbeats 2000000 in
theorem sameEnts_some (a a' : Option Addr) (cap cap' n : Nat) (l l' : List Ent) (w : World) (hn : n = l.length) (hn2 : n = l'.length) (hcap : n ≤ cap) (hm : cap ≤ 9223372036854775807) (hcap' : n ≤ cap')
    (hc : 0 < n → ∃ b off, a = some ⟨b, off, none⟩ ∧ EntsAt w b off l) (hc' : 0 < n → ∃ b off, a' = some ⟨b, off, none⟩ ∧ EntsAt w b off l') :
    Calls Try.prog 47 #[.slice a n cap, .slice a' n cap'] w fun e w' => e = .returned (.bool (sameE l l')) ∧ Below w.heap.size w w' := by
  have HC := Lib.hid hc
  have HC' := Lib.hid hc'
  have HN := Lib.hid hn
  have HN2 := Lib.hid hn2
  obtain ⟨z, hz⟩ : ∃ z, z = sameE l l' := ⟨_, rfl⟩
  rw [← hz]
  have HZ := Lib.hid hz
  clear hn hn2 hc hc' hz
  have nn : ((n : Int) != (n : Int)) = false := by simp
  have hn' : (n : Int) ≤ 9223372036854775807 := by omega
  have hE := ent_neq
  have hG := ent_eqGuard
  go_enter Try.func47, Try.ntmps47
  go_wp2_with fail
  go_loopg [5] n (fun g i wr => ∃ k : Nat, k ≤ n ∧ g = n - k ∧ i = .int .i64 (k : Int) ∧ Hid (∀ j, j < k → eqEnt (l.getD j default) (l'.getD j default) = true) ∧ Hid (Below w.heap.size w wr))
  case atStart => exact ⟨0, Nat.zero_le _, rfl, rfl, (fun j hj => absurd hj (Nat.not_lt_zero _)), Below.refl _ _⟩
  case round =>
    obtain ⟨k, hk, rfl, rfl, hall, hb⟩ := hrel
    by_cases hlt : k < n
    · have hk0 : (0 : Int) ≤ (k : Int) := by omega
      have hk1 : (k : Int) < (n : Int) := by omega
      obtain ⟨b, off, ha, h1⟩ := HC.out (by omega)
      obtain ⟨b', off', ha', h1'⟩ := HC'.out (by omega)
      subst ha ha'
      have cc := h1 k (by rw [← HN.out]; exact hlt)
      have cc' := h1' k (by rw [← HN2.out]; exact hlt)
      clear h1 h1'
      obtain ⟨x, hx⟩ : ∃ x, x = l.getD k default := ⟨_, rfl⟩
      obtain ⟨y, hy⟩ : ∃ y, y = l'.getD k default := ⟨_, rfl⟩
      rw [← hx] at cc
      rw [← hy] at cc'
      have HX := Lib.hid hx
      have HY := Lib.hid hy
      have c0 := keep hb.out cc.1.1.1
      have c1 := keep hb.out cc.1.1.2
      have c2 := keep hb.out cc.1.2
      have c3 := keep hb.out cc.2
      have d0 := keep hb.out cc'.1.1.1
      have d1 := keep hb.out cc'.1.1.2
      have d2 := keep hb.out cc'.1.2
      have d3 := keep hb.out cc'.2
      have hb2 := hb.out
      clear hx hy cc cc'
      obtain ⟨q, hq⟩ : ∃ q, q = eqEnt x y := ⟨_, rfl⟩
      have hq' := hq.symm
      have HQ := Lib.hid hq
      clear hq
      cases q
      all_goals
        go_wp2_with fail
        refine wp_region_class (fun w' => ((((w'.cell? ⟨b, off + k * 4, none⟩ = some (.int .i64 x.off) ∧ w'.cell? ⟨b, off + k * 4 + 1, none⟩ = some (.int .i64 x.id)) ∧ w'.cell? ⟨b, off + k * 4 + 2, none⟩ = some (.string x.key)) ∧ w'.cell? ⟨b, off + k * 4 + 3, none⟩ = some (.string x.body)) ∧
          (((w'.cell? ⟨b', off' + k * 4, none⟩ = some (.int .i64 y.off) ∧ w'.cell? ⟨b', off' + k * 4 + 1, none⟩ = some (.int .i64 y.id)) ∧ w'.cell? ⟨b', off' + k * 4 + 2, none⟩ = some (.string y.key)) ∧ w'.cell? ⟨b', off' + k * 4 + 3, none⟩ = some (.string y.body))) ∧ Below w.heap.size w w') (by kernel_rfl) (by kernel_rfl)
          ⟨⟨⟨⟨⟨by simpa using c0, by simpa using c1⟩, by simpa using c2⟩, by simpa using c3⟩, ⟨⟨by simpa using d0, by simpa using d1⟩, by simpa using d2⟩, by simpa using d3⟩, hb2.drew⟩ ?_
        repeat
          with_reducible refine wpQuiet_step (fun K hK => ?_)
          first
            | refine quiet_not (by rfl) (hK _ ?_)
            | refine quiet_any (by rfl) ?_
              apply Exists.intro
              refine ⟨fun wq hq => ?_, hK _ ?_⟩
              · obtain ⟨⟨⟨⟨⟨k0, k1⟩, k2⟩, k3⟩, ⟨⟨m0, m1⟩, m2⟩, m3⟩, kb⟩ := hq
                go_simp
                first
                  | done
                  | (with_reducible rfl)
                  | (fail)
          clear hK K
          simp only [Act.put, List.setIfInBounds_toArray, List.set_cons_zero, List.set_cons_succ]
        refine wpQuiet_nil ?_
        intro wq hq
        have hbq := Lib.hid hq.2
        clear hq hb2 c0 c1 c2 c3 d0 d1 d2 d3
        go_wp2_with fail
      · go_ret
        refine ⟨?_, hbq.out⟩
        rw [HZ.out, sameE_at (k := k) (by rw [← HX.out, ← HY.out]; exact HQ.out.symm)]
        rfl
      · go_roundg (n - (k + 1))
        case measure => omega
        case rel =>
          refine ⟨k + 1, by omega, rfl, by go_num, fun j hj => ?_, hbq⟩
          by_cases hjk : j < k
          · exact hall.out j hjk
          · obtain rfl : j = k := by omega
            rw [← HX.out, ← HY.out]; exact HQ.out.symm
    · obtain rfl : k = n := by omega
      have hlt' : ¬ (k : Int) < (k : Int) := by omega
      go_wp2_with fail
      go_ret
      refine ⟨?_, hb.out⟩
      rw [HZ.out, sameE_all (by rw [← HN.out, ← HN2.out]) (by rw [← HN.out]; exact hall.out)]
      rfl

theorem sameEnts_len (a a' : Option Addr) (n n' cap cap' : Nat) (w : World) (h : n ≠ n') :
    Calls Try.prog 47 #[.slice a n cap, .slice a' n' cap'] w fun e w' => e = .returned (.bool false) ∧ Below w.heap.size w w' := by
  have hd : ((n : Int) != (n' : Int)) = true := by simp; omega
  go_enter Try.func47, Try.ntmps47
  go_wp2_with fail
  go_ret
  exact ⟨rfl, Below.refl _ _⟩

theorem sameEnts_any {v v' : Value} {l l' : List Ent} {w : World} (h : SliceR w v 4 entCells l) (h' : SliceR w v' 4 entCells l') :
    Calls Try.prog 47 #[v, v'] w fun e w' => e = .returned (.bool (sameE l l')) ∧ Below w.heap.size w w' := by
  obtain ⟨a, cap, hv, _⟩ := id h
  obtain ⟨a', cap', hv', _⟩ := id h'
  subst hv hv'
  obtain ⟨⟨_, hcap⟩, ⟨hmax, _⟩, hd⟩ := h.ents
  obtain ⟨⟨_, hcap'⟩, ⟨_, _⟩, hd'⟩ := h'.ents
  unfold maxLen at hmax
  by_cases hl : l.length = l'.length
  · rw [← hl] at hd' hcap' ⊢
    exact sameEnts_some a a' cap cap' _ l l' w rfl hl hcap hmax hcap' hd hd'
  · rw [sameE_len hl]
    exact sameEnts_len _ _ _ _ _ _ w hl

set_option maxHeartbeats 2000000 in
theorem equalEnts_some (a a' : Option Addr) (cap cap' n : Nat) (l l' : List Ent) (w : World) (hn : n = l.length) (hn2 : n = l'.length) (hcap : n ≤ cap) (hm : cap ≤ 9223372036854775807) (hcap' : n ≤ cap')
    (hc : 0 < n → ∃ b off, a = some ⟨b, off, none⟩ ∧ EntsAt w b off l) (hc' : 0 < n → ∃ b off, a' = some ⟨b, off, none⟩ ∧ EntsAt w b off l') :
    Calls Try.prog 51 #[.slice a n cap, .slice a' n cap'] w fun e w' => e = .returned (.bool (sameE l l')) ∧ Below w.heap.size w w' := by
  have HC := Lib.hid hc
  have HC' := Lib.hid hc'
  have HN := Lib.hid hn
  have HN2 := Lib.hid hn2
  obtain ⟨z, hz⟩ : ∃ z, z = sameE l l' := ⟨_, rfl⟩
  rw [← hz]
  have HZ := Lib.hid hz
  clear hn hn2 hc hc' hz
  have nn : ((n : Int) != (n : Int)) = false := by simp
  have hn' : (n : Int) ≤ 9223372036854775807 := by omega
  have hE := ent_neq
  have hG := ent_eqGuard
  go_enter Try.func51, Try.ntmps51
  go_wp2_with fail
  go_loopg [5, 13] n (fun g _ i wr => ∃ k : Nat, k ≤ n ∧ g = n - k ∧ i = .int .i64 (k : Int) ∧ Hid (∀ j, j < k → eqEnt (l.getD j default) (l'.getD j default) = true) ∧ Hid (Below w.heap.size w wr))
  case atStart => exact ⟨0, Nat.zero_le _, rfl, rfl, (fun j hj => absurd hj (Nat.not_lt_zero _)), Below.refl _ _⟩
  case round =>
    obtain ⟨k, hk, rfl, rfl, hall, hb⟩ := hrel
    by_cases hlt : k < n
    · have hk0 : (0 : Int) ≤ (k : Int) := by omega
      have hk1 : (k : Int) < (n : Int) := by omega
      obtain ⟨b, off, ha, h1⟩ := HC.out (by omega)
      obtain ⟨b', off', ha', h1'⟩ := HC'.out (by omega)
      subst ha ha'
      have cc := h1 k (by rw [← HN.out]; exact hlt)
      have cc' := h1' k (by rw [← HN2.out]; exact hlt)
      clear h1 h1'
      obtain ⟨x, hx⟩ : ∃ x, x = l.getD k default := ⟨_, rfl⟩
      obtain ⟨y, hy⟩ : ∃ y, y = l'.getD k default := ⟨_, rfl⟩
      rw [← hx] at cc
      rw [← hy] at cc'
      have HX := Lib.hid hx
      have HY := Lib.hid hy
      have c0 := keep hb.out cc.1.1.1
      have c1 := keep hb.out cc.1.1.2
      have c2 := keep hb.out cc.1.2
      have c3 := keep hb.out cc.2
      have d0 := keep hb.out cc'.1.1.1
      have d1 := keep hb.out cc'.1.1.2
      have d2 := keep hb.out cc'.1.2
      have d3 := keep hb.out cc'.2
      have hb2 := hb.out
      clear hx hy cc cc'
      obtain ⟨q, hq⟩ : ∃ q, q = eqEnt x y := ⟨_, rfl⟩
      have hq' := hq.symm
      have HQ := Lib.hid hq
      clear hq
      cases q
      all_goals
        go_wp2_with fail
        refine wp_region_class (fun w' => ((((w'.cell? ⟨b, off + k * 4, none⟩ = some (.int .i64 x.off) ∧ w'.cell? ⟨b, off + k * 4 + 1, none⟩ = some (.int .i64 x.id)) ∧ w'.cell? ⟨b, off + k * 4 + 2, none⟩ = some (.string x.key)) ∧ w'.cell? ⟨b, off + k * 4 + 3, none⟩ = some (.string x.body)) ∧
          (((w'.cell? ⟨b', off' + k * 4, none⟩ = some (.int .i64 y.off) ∧ w'.cell? ⟨b', off' + k * 4 + 1, none⟩ = some (.int .i64 y.id)) ∧ w'.cell? ⟨b', off' + k * 4 + 2, none⟩ = some (.string y.key)) ∧ w'.cell? ⟨b', off' + k * 4 + 3, none⟩ = some (.string y.body))) ∧ Below w.heap.size w w') (by kernel_rfl) (by kernel_rfl)
          ⟨⟨⟨⟨⟨by simpa using c0, by simpa using c1⟩, by simpa using c2⟩, by simpa using c3⟩, ⟨⟨by simpa using d0, by simpa using d1⟩, by simpa using d2⟩, by simpa using d3⟩, hb2.drew⟩ ?_
        repeat
          with_reducible refine wpQuiet_step (fun K hK => ?_)
          first
            | refine quiet_not (by rfl) (hK _ ?_)
            | refine quiet_any (by rfl) ?_
              apply Exists.intro
              refine ⟨fun wq hq => ?_, hK _ ?_⟩
              · obtain ⟨⟨⟨⟨⟨k0, k1⟩, k2⟩, k3⟩, ⟨⟨m0, m1⟩, m2⟩, m3⟩, kb⟩ := hq
                go_simp
                first
                  | done
                  | (with_reducible rfl)
                  | (fail)
          clear hK K
          simp only [Act.put, List.setIfInBounds_toArray, List.set_cons_zero, List.set_cons_succ]
        refine wpQuiet_nil ?_
        intro wq hq
        have hbq := Lib.hid hq.2
        clear hq hb2 c0 c1 c2 c3 d0 d1 d2 d3
        go_wp2_with fail
      · go_ret
        refine ⟨?_, hbq.out⟩
        rw [HZ.out, sameE_at (k := k) (by rw [← HX.out, ← HY.out]; exact HQ.out.symm)]
        rfl
      · go_roundg (n - (k + 1))
        case measure => omega
        case rel =>
          refine ⟨k + 1, by omega, rfl, by go_num, fun j hj => ?_, hbq⟩
          by_cases hjk : j < k
          · exact hall.out j hjk
          · obtain rfl : j = k := by omega
            rw [← HX.out, ← HY.out]; exact HQ.out.symm
    · obtain rfl : k = n := by omega
      have hlt' : ¬ (k : Int) < (k : Int) := by omega
      go_wp2_with fail
      go_ret
      refine ⟨?_, hb.out⟩
      rw [HZ.out, sameE_all (by rw [← HN.out, ← HN2.out]) (by rw [← HN.out]; exact hall.out)]
      rfl

theorem equalEnts_len (a a' : Option Addr) (n n' cap cap' : Nat) (w : World) (h : n ≠ n') :
    Calls Try.prog 51 #[.slice a n cap, .slice a' n' cap'] w fun e w' => e = .returned (.bool false) ∧ Below w.heap.size w w' := by
  have hd : ((n : Int) != (n' : Int)) = true := by simp; omega
  go_enter Try.func51, Try.ntmps51
  go_wp2_with fail
  go_ret
  exact ⟨rfl, Below.refl _ _⟩

theorem equalEnts_any {v v' : Value} {l l' : List Ent} {w : World} (h : SliceR w v 4 entCells l) (h' : SliceR w v' 4 entCells l') :
    Calls Try.prog 51 #[v, v'] w fun e w' => e = .returned (.bool (sameE l l')) ∧ Below w.heap.size w w' := by
  obtain ⟨a, cap, hv, _⟩ := id h
  obtain ⟨a', cap', hv', _⟩ := id h'
  subst hv hv'
  obtain ⟨⟨_, hcap⟩, ⟨hmax, _⟩, hd⟩ := h.ents
  obtain ⟨⟨_, hcap'⟩, ⟨_, _⟩, hd'⟩ := h'.ents
  unfold maxLen at hmax
  by_cases hl : l.length = l'.length
  · rw [← hl] at hd' hcap' ⊢
    exact equalEnts_some a a' cap cap' _ l l' w rfl hl hcap hmax hcap' hd hd'
  · rw [sameE_len hl]
    exact equalEnts_len _ _ _ _ _ _ w hl

end Go.Proofs.Ytolgkadoplalnaa
