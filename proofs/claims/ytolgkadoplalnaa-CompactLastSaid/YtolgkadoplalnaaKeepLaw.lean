/-
  Plain law of what is kept: a topic of which something was let go may be, is fetched as it was from Base on; twice is once. No program in sight.
-/
import Derived.Test.YtolgkadoplalnaaAddLaw
namespace Go.Proofs.Ytolgkadoplalnaa

theorem chk_mono {t t' : Top} (h1 : t'.mark = t.mark) (h2 : t'.next = t.next) : ∀ (l : List Ent) (last : Int) (seen seen' : List ByteArray), (∀ k, k ∈ seen' → k ∈ seen) → Top.chk t last seen l → Top.chk t' last seen' l
  | [], last, _, _, _, h => by
    have h' : max (last + 1) t.mark = t.next := h
    show max (last + 1) t'.mark = t'.next
    rw [h1, h2]; exact h'
  | x :: l, last, seen, seen', hs, ⟨⟨a1, a2, a3, a4, a5⟩, hr⟩ => by
    refine ⟨⟨a1, a2, by rw [h2]; exact a3, by rw [h1]; exact a4, fun hm hk => a5 (by rw [← h1]; exact hm) (hs _ hk)⟩, ?_⟩
    refine chk_mono h1 h2 l x.off _ _ ?_ hr
    rw [h1]
    intro k hk
    by_cases hm : x.off < t.mark
    · rw [if_pos hm] at hk ⊢
      rcases List.mem_cons.1 hk with rfl | hk
      · exact List.mem_cons_self
      · exact List.mem_cons_of_mem _ (hs _ hk)
    · rw [if_neg hm] at hk ⊢
      exact hs _ hk
theorem chk_above (t : Top) : ∀ (l : List Ent) (last : Int) (seen : List ByteArray), Top.chk t last seen l → ∀ y ∈ l, last < y.off
  | [], _, _, _, _, hy => by cases hy
  | x :: l, last, seen, ⟨⟨_, a2, _⟩, hr⟩, y, hy => by
    rcases List.mem_cons.1 hy with rfl | hy
    · exact a2
    · have := chk_above t l x.off _ hr y hy
      omega
theorem chk_from {t t' : Top} (h1 : t'.mark = t.mark) (h2 : t'.next = t.next) {b : Int} (hbn : b ≤ t.next) : ∀ (l : List Ent) (last : Int) (seen seen' : List ByteArray), last + 1 ≤ b → (∀ k, k ∈ seen' → k ∈ seen) → Top.chk t last seen l → Top.chk t' (b - 1) seen' (fromE b l)
  | [], last, _, _, hb, _, h => by
    have h' : max (last + 1) t.mark = t.next := h
    show max (b - 1 + 1) t'.mark = t'.next
    rw [h1, h2]; omega
  | x :: l, last, seen, seen', hb, hs, ⟨⟨a1, a2, a3, a4, a5⟩, hr⟩ => by
    by_cases hx : b ≤ x.off
    · have e : fromE b (x :: l) = x :: l := by
        have : fromE b l = l := fromE_all (fun y hy => by have := chk_above t l x.off _ hr y hy; omega)
        show List.filter _ _ = _
        rw [List.filter_cons_of_pos (by simpa using hx)]
        exact congrArg _ this
      rw [e]
      refine ⟨⟨a1, by omega, by rw [h2]; exact a3, by rw [h1]; omega, fun hm hk => a5 (by rw [← h1]; exact hm) (hs _ hk)⟩, ?_⟩
      refine chk_mono h1 h2 l x.off _ _ ?_ hr
      rw [h1]
      intro k hk
      by_cases hm : x.off < t.mark
      · rw [if_pos hm] at hk ⊢
        rcases List.mem_cons.1 hk with rfl | hk
        · exact List.mem_cons_self
        · exact List.mem_cons_of_mem _ (hs _ hk)
      · rw [if_neg hm] at hk ⊢
        exact hs _ hk
    · have e : fromE b (x :: l) = fromE b l := by
        show List.filter _ _ = _
        rw [List.filter_cons_of_neg (by simpa using hx)]
        rfl
      rw [e]
      refine chk_from h1 h2 hbn l x.off _ _ (by omega) ?_ hr
      intro k hk
      by_cases hm : x.off < t.mark
      · rw [if_pos hm]; exact List.mem_cons_of_mem _ (hs _ hk)
      · rw [if_neg hm]; exact hs _ hk

def trimT (t : Top) (to : Int) : Top := ⟨trimTo t to, t.next, t.mark, fromE (trimTo t to) t.ents⟩
theorem trim_may {t : Top} {to : Int} (h : t.may) (_ : 0 ≤ to) : (trimT t to).may := by
  have hh := h.1
  obtain ⟨a1, a2, a3, a4, a5, a6, a7⟩ := hh
  have hb : trimTo t to ≤ t.next := by unfold trimTo; omega
  have hb0 : t.base ≤ trimTo t to := by unfold trimTo; omega
  refine (Top.may_iff _).2 ⟨⟨a1, a2, by show 0 ≤ trimTo t to; omega, hb, a5, a6, Nat.le_trans (fromE_len _ _) a7⟩, ?_⟩
  exact chk_from (t := t) (t' := trimT t to) rfl rfl hb t.ents (t.base - 1) [] [] (by omega) (fun _ h => h) ((Top.may_iff t).1 h).2
theorem find_from {l : List Ent} {b o : Int} (h : b ≤ o) : (fromE b l).find? (fun x => x.off == o) = l.find? (fun x => x.off == o) := by
  show (List.filter _ l).find? _ = _
  rw [List.find?_filter]
  congr 1
  funext x
  by_cases e : x.off = o
  · simp [e, h]
  · simp [e]
theorem fetch_trim_low {t : Top} {to o : Int} (h : t.may) (h0 : 0 ≤ to) (h1 : 0 ≤ o) (h2 : o < trimTo t to) : fetchP (trimT t to) o = (default, 171) := by
  have hb : trimTo t to ≤ t.next := by have := h.1; unfold Top.head at this; unfold trimTo; omega
  rw [fetchP, if_pos (trim_may h h0), if_neg (by omega), if_neg (by show ¬ t.next ≤ o; omega), if_pos (by show o < trimTo t to; exact h2)]
theorem fetch_trim_high {t : Top} {to o : Int} (h : t.may) (h0 : 0 ≤ to) (h1 : ¬ (0 ≤ o ∧ o < trimTo t to)) : fetchP (trimT t to) o = fetchP t o := by
  have hb0 : t.base ≤ trimTo t to := by unfold trimTo; omega
  rw [fetchP, fetchP, if_pos (trim_may h h0), if_pos h]
  by_cases h2 : o < 0
  · rw [if_pos h2, if_pos h2]
  · rw [if_neg h2, if_neg h2]
    have e1 : (trimT t to).next = t.next := rfl
    have e2 : (trimT t to).base = trimTo t to := rfl
    have e3 : (trimT t to).ents = fromE (trimTo t to) t.ents := rfl
    rw [e1, e2, e3, if_neg (show ¬ o < trimTo t to by omega), if_neg (show ¬ o < t.base by omega), find_from (by omega)]

theorem trim_cases {t u : Top} {to e : Int} (h : trimP t to = (u, e)) : (u = Top.zero ∧ (e = 2 ∨ e = 8)) ∨ ((e = 0 ∧ u = trimT t to) ∧ (t.may ∧ u.may) ∧ 0 ≤ to ∧ to ≤ 1073741824) := by
  by_cases hm : t.may
  · by_cases ht : to < 0 ∨ 1073741824 < to
    · rw [trimP_arg hm ht] at h; cases h; exact Or.inl ⟨rfl, Or.inl rfl⟩
    · rw [trimP_yes hm ht] at h; cases h
      exact Or.inr ⟨⟨rfl, rfl⟩, ⟨hm, trim_may hm (by omega)⟩, by omega, by omega⟩
  · rw [trimP_bad hm] at h; cases h; exact Or.inl ⟨rfl, Or.inr rfl⟩
theorem from_from {b c : Int} (h : b ≤ c) (l : List Ent) : fromE c (fromE b l) = fromE c l := by
  show List.filter _ (List.filter _ l) = List.filter _ l
  rw [List.filter_filter]
  congr 1
  funext x
  by_cases e : c ≤ x.off
  · have : b ≤ x.off := by omega
    simp [e, this]
  · simp [e]
theorem trim_twice {t : Top} {m n : Int} (h : t.may) (hm : 0 ≤ m) (hn : 0 ≤ n) (_ : m ≤ 1073741824) (hn2 : n ≤ 1073741824) : trimP (trimT t m) n = (trimT t (max m n), 0) := by
  rw [trimP_yes (trim_may h hm) (by omega)]
  have e : trimTo (trimT t m) n = trimTo t (max m n) := by
    show max (trimTo t m) (min n t.next) = _
    unfold trimTo
    omega
  rw [e]
  have hle : trimTo t m ≤ trimTo t (max m n) := by unfold trimTo; omega
  show (Top.mk _ _ _ (fromE (trimTo t (max m n)) (fromE (trimTo t m) t.ents)), (0 : Int)) = _
  rw [from_from hle]
  rfl
end Go.Proofs.Ytolgkadoplalnaa
