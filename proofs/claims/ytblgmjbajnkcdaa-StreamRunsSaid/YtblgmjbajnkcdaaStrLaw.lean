/-
  Plain: what a call on one topic leaves as it is. No program in sight.
-/
import Derived.Test.YtblgmjbajnkcdaaStrDoP
import Derived.Test.YtblgmjbajnkcdaaBunE
import Derived.Test.YtblgmjbajnkcdaaBunH
import Derived.Test.YtblgmjbajnkcdaaBunJ
namespace Go.Proofs.Ytblgmjbajnkcdaa
open Go.RowKit

theorem ask_eq {s u : Str} (hs : mayS s) (hu : mayS u) (n : Int) : askS u n = askS s n := by rw [askS, askS, if_pos hs, if_pos hu]
theorem getD_mem_top {s : Str} {i : Nat} (h : i < s.tops.length) : s.tops.getD i default ∈ s.tops := by
  rw [getD_lt h]; exact List.getElem_mem _
theorem may_set {s : Str} {i : Nat} {t : Top} (hm : mayS s) (ht : t.may) (hn : (s.tops.getD i default).next ≤ t.next) : mayS ⟨s.tops.set i t, s.coms⟩ := by
  obtain ⟨⟨h1, h2⟩, h3, h4⟩ := hm
  refine ⟨⟨by simpa using h1, fun x hx => ?_⟩, h3, fun j hj k hk => ?_⟩
  · rcases List.mem_or_eq_of_mem_set hx with h | rfl
    · exact h2 x h
    · exact ht
  · have h5 := h4 j hj k hk
    show (s.coms.getD j []).getD k 0 ≤ ((s.tops.set i t).getD j default).next
    by_cases hij : i = j
    · subst hij
      rw [getD_set_same (by omega)]
      omega
    · rw [getD_set_other hij]
      exact h5
theorem may_com {s : Str} {i : Nat} {who n : Int} (hm : mayS s) (hi : i < 4) (e0 : 0 ≤ who) (e1 : who < 8) (e2 : 0 ≤ n) (e3 : n ≤ 1073741824) (hn : n ≤ (s.tops.getD i default).next) : mayS ⟨s.tops, setC s.coms (i : Int) who n⟩ := by
  obtain ⟨⟨h1, h2⟩, h3, h4⟩ := hm
  refine ⟨⟨h1, h2⟩, okC_set h3 (by omega) (by omega) e0 e1 e2 e3, fun j hj k hk => ?_⟩
  have h5 := h4 j hj k hk
  have h6 := getC_set h3 (t := (i : Int)) (k := who) (n := n) (t' := (j : Int)) (k' := (k : Int)) (by omega) (by omega) e0 e1 (by omega) (by omega)
  simp only [getC, Int.toNat_natCast] at h6
  show ((setC s.coms (i : Int) who n).getD j []).getD k 0 ≤ (s.tops.getD j default).next
  rw [h6]
  split
  · rename_i hh
    obtain ⟨ha, hb⟩ := hh
    have : j = i := by omega
    subst this
    have hwk : who.toNat = k := by omega
    rw [hwk] at *
    omega
  · exact h5
theorem topN_set_other {s : Str} {t : Top} {i : Nat} {o : Int} {c : List (List Int)} (h0 : 0 ≤ o) (h : o ≠ (i : Int)) : topN ⟨s.tops.set i t, c⟩ o = topN s o := by
  unfold topN
  exact getD_set_other (by omega)
theorem fetchS_eq {s u : Str} (hs : mayS s) (hu : mayS u) {n o : Int} (h : 0 ≤ n → topN u n = topN s n) : fetchS u n o = fetchS s n o := by
  rw [fetchS, fetchS, ask_eq hs hu]
  split
  · rename_i ha
    rw [h (askS_zero.1 ha).2.1]
  · rfl
theorem farS_eq {s u : Str} (hs : mayS s) (hu : mayS u) {n k : Int} (h : u.coms = s.coms) : farS u n k = farS s n k := by
  rw [farS, farS, if_pos hs, if_pos hu, h]
theorem farS_eq' {s u : Str} (hs : mayS s) (hu : mayS u) {n k : Int} (h : 0 ≤ n → n < 4 → 0 ≤ k → getC u.coms n k = getC s.coms n k) : farS u n k = farS s n k := by
  rw [farS, farS, if_pos hs, if_pos hu]
  have e : askC u.coms n k = askC s.coms n k := by unfold askC; rw [hs.2.1, hu.2.1]
  rw [e]
  split
  · rename_i ha
    obtain ⟨_, h0, h1, h2, _⟩ := askC_zero ha
    rw [h h0 h1 h2]
  · rfl

theorem putS_cases {s u : Str} {id topic n e : Int} {k b : ByteArray} (h : putS s id topic k b = (u, n, e)) :
    (u = Str.zero ∧ n = 0 ∧ e ≠ 0) ∨ (e = 0 ∧ (mayS s ∧ 0 ≤ topic ∧ topic < 4) ∧ mayS u ∧ n = (topN s topic).next ∧ ∃ t' : Top, u = ⟨s.tops.set topic.toNat t', s.coms⟩ ∧ t'.next = (topN s topic).next + 1) := by
  rw [putS] at h
  split at h
  · rename_i ha
    obtain ⟨hm, h0, h1⟩ := askS_zero.1 ha
    obtain ⟨t', y, f, hadd⟩ : ∃ t' y f, addP (topN s topic) id k b = (t', y, f) := ⟨_, _, _, rfl⟩
    rw [hadd] at h
    have hc := add_cases hadd
    split at h
    · rename_i hf
      cases h
      right
      rcases hc with ⟨_, _, hc⟩ | ⟨⟨_, hy, hut⟩, ⟨_, hum⟩, _⟩
      · exfalso
        simp only at hf
        omega
      · have hnx : t'.next = (topN s topic).next + 1 := by rw [hut]; rfl
        refine ⟨rfl, ⟨hm, h0, h1⟩, may_set hm hum (by rw [show s.tops.getD topic.toNat default = topN s topic from rfl, hnx]; omega), hy, t', rfl, hnx⟩
    · rename_i hf
      cases h
      exact Or.inl ⟨rfl, rfl, hf⟩
  · rename_i ha
    cases h
    exact Or.inl ⟨rfl, rfl, ha⟩

/-- What a command on a topic leaves. -/
theorem doS_cases {s u : Str} {kind topic who n e : Int} (h : doS s kind topic who n = (u, e)) :
    (u = Str.zero ∧ e ≠ 0) ∨ (e = 0 ∧ (mayS s ∧ 0 ≤ topic ∧ topic < 4) ∧ mayS u ∧ ((kind = 4 ∨ kind = 5 ∨ kind = 6) ∧ ∀ o, 0 ≤ o → (o ≠ topic → topN u o = topN s o) ∧ (topN u o).next = (topN s o).next) ∧
      ∀ t k, 0 ≤ t → t < 4 → 0 ≤ k → (t ≠ topic → getC u.coms t k = getC s.coms t k) ∧ getC s.coms t k ≤ getC u.coms t k) := by
  rw [doS] at h
  split at h
  · rename_i ha
    obtain ⟨hm, h0, h1⟩ := askS_zero.1 ha
    obtain ⟨i, rfl⟩ : ∃ i : Nat, topic = (i : Int) := ⟨topic.toNat, by omega⟩
    have hi : i < 4 := by omega
    have hmt := hm.1.2 _ (topN_mem hm h0 h1)
    have ht4 := hm.1.1
    have turned : ∀ r : Top × Int, (r.1.may ∧ r.1.next = (topN s (i : Int)).next ∨ r.2 ≠ 0) → (kind = 5 ∨ kind = 6) → turnS s (i : Int) r = (u, e) → (u = Str.zero ∧ e ≠ 0) ∨ (e = 0 ∧ (mayS s ∧ 0 ≤ (i : Int) ∧ (i : Int) < 4) ∧ mayS u ∧ ((kind = 4 ∨ kind = 5 ∨ kind = 6) ∧ ∀ o, 0 ≤ o → (o ≠ (i : Int) → topN u o = topN s o) ∧ (topN u o).next = (topN s o).next) ∧
        ∀ t k, 0 ≤ t → t < 4 → 0 ≤ k → (t ≠ (i : Int) → getC u.coms t k = getC s.coms t k) ∧ getC s.coms t k ≤ getC u.coms t k) := by
      intro r hr hk ht
      rw [turnS] at ht
      split at ht
      · rename_i h2
        cases ht
        rw [Int.toNat_natCast]
        rcases hr with ⟨hr1, hr2⟩ | hr
        · right
          refine ⟨rfl, ⟨hm, h0, h1⟩, may_set hm hr1 (by rw [show s.tops.getD i default = topN s (i : Int) from rfl, hr2]; exact Int.le_refl _), ⟨Or.inr hk, fun o ho => ⟨fun hne => topN_set_other ho hne, ?_⟩⟩, fun t k _ _ _ => ⟨fun _ => rfl, Int.le_refl _⟩⟩
          by_cases hoi : o = (i : Int)
          · subst hoi
            rw [show topN ⟨s.tops.set i r.1, s.coms⟩ (i : Int) = r.1 from getD_set_same (by omega), hr2]
          · rw [topN_set_other ho hoi]
        · exact absurd h2 hr
      · rename_i h2
        cases ht
        exact Or.inl ⟨rfl, h2⟩
    split at h
    · rename_i h4
      rw [commitS] at h
      split at h
      · cases h; exact Or.inl ⟨rfl, by decide⟩
      · rename_i hb
        split at h
        · cases h; exact Or.inl ⟨rfl, by decide⟩
        · rename_i hn
          cases h
          right
          refine ⟨rfl, ⟨hm, h0, h1⟩, may_com hm hi (by omega) (by omega) (by omega) (by omega) (by have : (topN s (i : Int)).next = (s.tops.getD i default).next := rfl; omega), ⟨Or.inl h4, fun o _ => ⟨fun _ => rfl, rfl⟩⟩, fun t k ht0 ht4 hk0 => ?_⟩
          have h6 := getC_set hm.2.1 (t := (i : Int)) (k := who) (n := n) (t' := t) (k' := k) h0 h1 (by omega) (by omega) ht0 hk0
          show (t ≠ (i : Int) → getC (setC s.coms (i : Int) who n) t k = getC s.coms t k) ∧ getC s.coms t k ≤ getC (setC s.coms (i : Int) who n) t k
          rw [h6]
          split
          · rename_i hh
            obtain ⟨rfl, rfl⟩ := hh
            exact ⟨fun h => absurd rfl h, by omega⟩
          · exact ⟨fun _ => rfl, Int.le_refl _⟩
    · split at h
      · rename_i h5
        refine turned _ ?_ (Or.inl h5) h
        rcases trim_cases (show trimP (topN s (i : Int)) n = ((trimP (topN s (i : Int)) n).1, (trimP (topN s (i : Int)) n).2) from rfl) with ⟨_, hc⟩ | ⟨⟨_, hu⟩, ⟨_, hum⟩, _⟩
        · right; omega
        · left; exact ⟨hum, by rw [hu]; rfl⟩
      · split at h
        · rename_i h6
          refine turned _ ?_ (Or.inr h6) h
          rcases comp_cases (show compactP (topN s (i : Int)) n = ((compactP (topN s (i : Int)) n).1, (compactP (topN s (i : Int)) n).2) from rfl) with ⟨_, hc⟩ | ⟨⟨_, hu⟩, ⟨_, hum⟩, _⟩
          · right; omega
          · left; exact ⟨hum, by rw [hu]; rfl⟩
        · cases h; exact Or.inl ⟨rfl, by decide⟩
  · rename_i ha
    cases h
    exact Or.inl ⟨rfl, ha⟩
end Go.Proofs.Ytblgmjbajnkcdaa
