/-
  Plain: what is read of a model is what is read of the topics that it stands for; a message more, a command do the same to both. No program in sight.
-/
import Derived.Test.YtblgmjbajnkcdabMdlP
namespace Go.Proofs.Ytblgmjbajnkcdab
open Go.RowKit

theorem askM_str {m : Mdl} (hm : mayM m) (n : Int) : askS (streamM m) n = askM m n := by
  rw [askS, askM, if_pos (mayM_str hm), if_pos hm]
theorem topN_str {m : Mdl} {n : Int} (hm : mayM m) (h0 : 0 ≤ n) (h1 : n < 4) : topN (streamM m) n = topM (plN m n) := by
  have := hm.1.1
  exact getD_map_top (by omega)
theorem preP_find {p : Pl} (h : ∀ i, i < p.all.length → entAt p i) {o : Int} (h0 : 0 ≤ o) : ∀ k, k ≤ p.all.length →
    (preP p k).find? (fun x => x.off == o) = if o.toNat < k ∧ keptI p o.toNat = true then some (p.all.getD o.toNat default) else none
  | 0, _ => by rw [if_neg (show ¬ (o.toNat < 0 ∧ keptI p o.toNat = true) from fun hh => absurd hh.1 (Nat.not_lt_zero _))]; rfl
  | k + 1, hk => by
    have ih := preP_find h h0 k (by omega)
    have ho := (h k (by omega)).1
    have hone : o.toNat ≠ k → [p.all.getD k default].find? (fun x => x.off == o) = none := fun hne => by
      rw [List.find?_cons_of_neg, List.find?_nil]
      rw [ho, beq_iff_eq]
      omega
    rw [preP, List.find?_append, ih]
    have P1 : ∀ q, o.toNat < q ∧ keptI p o.toNat = true → (if o.toNat < q ∧ keptI p o.toNat = true then some (p.all.getD o.toNat default) else none) = some (p.all.getD o.toNat default) := fun q hq => if_pos hq
    have N1 : ∀ q, ¬ (o.toNat < q ∧ keptI p o.toNat = true) → (if o.toNat < q ∧ keptI p o.toNat = true then some (p.all.getD o.toNat default) else none) = none := fun q hq => if_neg hq
    by_cases hok : o.toNat < k
    · by_cases hkp : keptI p o.toNat = true
      · rw [P1 k ⟨hok, hkp⟩, P1 (k + 1) ⟨by omega, hkp⟩]; rfl
      · rw [N1 k (fun hh => hkp hh.2), N1 (k + 1) (fun hh => hkp hh.2)]
        split
        · exact hone (by omega)
        · rfl
    · rw [N1 k (fun hh => hok hh.1)]
      by_cases hoe : o.toNat = k
      · by_cases hkp : keptI p k = true
        · rw [P1 (k + 1) ⟨by omega, by rw [hoe]; exact hkp⟩, if_pos hkp, List.find?_cons_of_pos (by rw [ho, beq_iff_eq]; omega), hoe]; rfl
        · rw [N1 (k + 1) (fun hh => hkp (by rw [← hoe]; exact hh.2)), if_neg hkp]; rfl
      · rw [N1 (k + 1) (fun hh => absurd hh.1 (by omega))]
        split
        · exact hone hoe
        · rfl
theorem fetchL_top {p : Pl} (h : shapedP p) (hl : (entP p).length ≤ 200) (o : Int) : fetchP (topM p) o = fetchL p o := by
  have hmay := (topM_may h).2 hl
  rw [fetchP, if_pos hmay, fetchL]
  by_cases h0 : o < 0
  · rw [if_pos h0, if_pos h0]
  rw [if_neg h0, if_neg h0]
  by_cases h1 : (p.all.length : Int) ≤ o
  · rw [if_pos (show (topM p).next ≤ o from h1), if_pos h1]
  rw [if_neg (show ¬ (topM p).next ≤ o from h1), if_neg h1]
  by_cases h2 : o < p.base
  · rw [if_pos (show o < (topM p).base from h2), if_pos h2]
  rw [if_neg (show ¬ o < (topM p).base from h2), if_neg h2]
  have hf := preP_find h.1 (o := o) (by omega) p.all.length (Nat.le_refl _)
  rw [preP_all] at hf
  rw [show (topM p).ents = entP p from rfl, hf]
  by_cases hk : keptI p o.toNat = true
  · rw [if_pos ⟨by omega, hk⟩, if_pos hk]
  · rw [if_neg (fun hh => hk hh.2), if_neg hk]
theorem fetchM_str {m : Mdl} (hm : mayM m) (n o : Int) : fetchS (streamM m) n o = fetchM m n o := by
  rw [fetchS, fetchM, askM_str hm]
  by_cases ha : askM m n = 0
  · obtain ⟨_, h0, h1⟩ := askM_zero.1 ha
    have hp := hm.1.2 _ (plN_mem hm h0 h1)
    rw [if_pos ha, if_pos ha, topN_str hm h0 h1, fetchL_top hp.1 hp.2]
  · rw [if_neg ha, if_neg ha]
theorem endM_str {m : Mdl} (hm : mayM m) (n : Int) : endS (streamM m) n = endM m n := by
  rw [endS, endM, askM_str hm]
  by_cases ha : askM m n = 0
  · obtain ⟨_, h0, h1⟩ := askM_zero.1 ha
    rw [if_pos ha, if_pos ha, topN_str hm h0 h1]
    rfl
  · rw [if_neg ha, if_neg ha]
theorem farM_str {m : Mdl} (hm : mayM m) (n k : Int) : farS (streamM m) n k = farM m n k := by
  rw [farS, farM, if_pos (mayM_str hm), if_pos hm]
  have e : (streamM m).coms = m.coms := rfl
  rw [e]
  by_cases h : (0 ≤ n ∧ n < 4) ∧ 0 ≤ k ∧ k < 8
  · rw [if_pos h, askC_yes hm.2.1 h.1.1 h.1.2 h.2.1 h.2.2, if_pos rfl]
  · have ha : askC m.coms n k = 2 := by
      unfold askC
      rw [if_pos hm.2.1, if_neg (fun hh => h (by simp [inTW] at hh; omega))]
    rw [if_neg h, ha, if_neg (by decide)]

/-! Entries that rise -/
theorem shaped_pair {p : Pl} (h : shapedP p) : risesS p.all := by
  rw [risesS, List.pairwise_iff_getElem]
  intro i j hi hj hij
  have h1 := (h.1 i hi).1
  have h2 := (h.1 j hj).1
  rw [getD_at hi] at h1
  rw [getD_at hj] at h2
  omega
theorem keep_from {n b : Int} : ∀ {l : List Ent}, risesS l → keepF n (fromE b l) = fromE b (keepF n l)
  | [], _ => rfl
  | x :: l, h => by
    have hr : risesS l := (List.pairwise_cons.1 h).2
    have hx : ∀ y ∈ l, x.off < y.off := (List.pairwise_cons.1 h).1
    by_cases hb : b ≤ x.off
    · rw [fromE_all (l := x :: l) (fun y hy => by
        rcases List.mem_cons.1 hy with rfl | hy
        · exact hb
        · have := hx y hy; omega)]
      rw [fromE_all (fun y hy => by
        have hy2 := (keepF_sub n (x :: l)).mem hy
        rcases List.mem_cons.1 hy2 with rfl | hy2
        · exact hb
        · have := hx y hy2; omega)]
    · have e1 : fromE b (x :: l) = fromE b l := by simp [fromE, hb]
      rw [e1, keep_from hr]
      by_cases hk : x.off < n ∧ hasL n x.key l = true
      · rw [keepF_skip hk.1 hk.2]
      · rw [keepF_keep hk]
        simp [fromE, hb]
theorem keepF_snoc {n : Int} {x : Ent} (hx : n ≤ x.off) : ∀ l : List Ent, keepF n (l ++ [x]) = keepF n l ++ [x]
  | [] => by
    rw [List.nil_append, keepF_keep (by rintro ⟨h, _⟩; omega)]
    rfl
  | y :: l => by
    have hh : hasL n y.key (l ++ [x]) = hasL n y.key l := by
      have : ¬ x.off < n := by omega
      simp [hasL, this]
    rw [List.cons_append]
    by_cases hk : y.off < n ∧ hasL n y.key l = true
    · rw [keepF_skip hk.1 (by rw [hh]; exact hk.2), keepF_skip hk.1 hk.2, keepF_snoc hx l]
    · rw [keepF_keep (by rw [hh]; exact hk), keepF_keep hk, keepF_snoc hx l]
      rfl
theorem topM_add {p : Pl} (h : shapedP p) (id : Int) (k b : ByteArray) :
    topM ⟨p.all ++ [⟨(p.all.length : Int), id, k, b⟩], p.base, p.mark⟩ = addT (topM p) id k b := by
  obtain ⟨h1, h2, ⟨h3, h4⟩, h5, h6⟩ := h
  unfold topM addT entP
  simp only [Top.mk.injEq, true_and]
  refine ⟨by simp, ?_⟩
  rw [keepF_snoc (by exact h6), fromE_append, fromE_all (l := [_]) (fun y hy => by rw [List.mem_singleton.1 hy]; exact h4)]
theorem topM_trim {p : Pl} (n : Int) : topM ⟨p.all, max p.base (min n (p.all.length : Int)), p.mark⟩ = ⟨trimTo (topM p) n, (topM p).next, (topM p).mark, fromE (trimTo (topM p) n) (topM p).ents⟩ := by
  have e : trimTo (topM p) n = max p.base (min n (p.all.length : Int)) := rfl
  rw [e]
  unfold topM entP
  simp only
  rw [from_from (by omega)]
theorem topM_comp {p : Pl} (h : shapedP p) (n : Int) : topM ⟨p.all, p.base, max p.mark (min n (p.all.length : Int))⟩ = compT (topM p) n := by
  have e : markC (topM p) n = max p.mark (min n (p.all.length : Int)) := rfl
  unfold compT
  rw [e]
  unfold topM entP
  simp only
  rw [keep_from ((shaped_pair h).sublist (keepF_sub _ _)), keep_keep (by omega)]
theorem map_set_top {l : List Pl} {i : Nat} {p : Pl} : (l.set i p).map topM = (l.map topM).set i (topM p) := by rw [List.map_set]

/-- A MESSAGE MORE: the model and its topics do the same, unless the model is full. -/
theorem putM_str {m u : Mdl} {id topic n e : Int} {k b : ByteArray} (hm : mayM m) (hfull : 0 ≤ topic → topic < 4 → (plN m topic).all.length ≠ 600) (h : putM m id topic k b = (u, n, e)) :
    putS (streamM m) id topic k b = (if e = 0 then streamM u else Str.zero, n, e) ∧ (e = 0 → mayM u) := by
  have hS := mayM_str hm
  rw [putM] at h
  rw [putS, askM_str hm]
  by_cases ha : askM m topic = 0
  · obtain ⟨_, h0, h1⟩ := askM_zero.1 ha
    have hpm := plN_mem hm h0 h1
    obtain ⟨hp1, hp2⟩ := hm.1.2 _ hpm
    have hmay := (topM_may hp1).2 hp2
    have hf := hfull h0 h1
    have hl6 := hp1.2.1
    rw [if_pos ha] at h
    rw [if_pos ha, topN_str hm h0 h1, addP, if_pos hmay]
    by_cases c1 : id < 0 ∨ 6291456 ≤ id
    · rw [if_pos c1] at h; cases h
      rw [if_pos c1]
      exact ⟨rfl, fun h => by cases h⟩
    rw [if_neg c1] at h
    rw [if_neg c1]
    by_cases c2 : 16 < k.size ∨ 64 < b.size
    · rw [if_pos c2] at h; cases h
      rw [if_pos c2]
      exact ⟨rfl, fun h => by cases h⟩
    rw [if_neg c2] at h
    rw [if_neg c2]
    by_cases c3 : (entP (plN m topic)).length = 200
    · rw [if_pos (Or.inr c3)] at h; cases h
      rw [if_pos (Or.inr (show (topM (plN m topic)).ents.length = 200 from c3))]
      exact ⟨rfl, fun h => by cases h⟩
    have c4 : ¬ ((plN m topic).all.length = 600 ∨ (entP (plN m topic)).length = 200) := fun hh => hh.elim hf c3
    rw [if_neg c4] at h
    cases h
    have c5 : ¬ ((topM (plN m topic)).next = 1073741824 ∨ (topM (plN m topic)).ents.length = 200) := by
      rintro (hh | hh)
      · have : ((plN m topic).all.length : Int) = 1073741824 := hh
        omega
      · exact c3 hh
    rw [if_neg c5]
    have hadd := topM_add hp1 id k b
    have e1 : (⟨(topM (plN m topic)).base, (topM (plN m topic)).next + 1, (topM (plN m topic)).mark, (topM (plN m topic)).ents ++ [⟨(topM (plN m topic)).next, id, k, b⟩]⟩ : Top) = addT (topM (plN m topic)) id k b := rfl
    have e2 : streamM ⟨m.tops.set topic.toNat ⟨(plN m topic).all ++ [⟨((plN m topic).all.length : Int), id, k, b⟩], (plN m topic).base, (plN m topic).mark⟩, m.coms⟩ = ⟨(streamM m).tops.set topic.toNat (addT (topM (plN m topic)) id k b), (streamM m).coms⟩ := by
      show (⟨_, _⟩ : Str) = _
      rw [map_set_top, hadd]; rfl
    refine ⟨?_, fun _ => ?_⟩
    · rw [e1, if_pos rfl, if_pos rfl, e2]
      rfl
    · refine (mayM_iff (fun p hp => ?_)).1 ?_
      · rcases List.mem_or_eq_of_mem_set hp with hp | rfl
        · exact mayM_shaped hm p hp
        · obtain ⟨s1, s2, ⟨s3, s4⟩, s5, s6⟩ := hp1
          refine ⟨fun i hi => ?_, by show (_ ++ [_]).length ≤ 600; simp; omega, ⟨s3, by show (plN m topic).base ≤ ((_ ++ [_]).length : Int); simp; omega⟩, s5, by show (plN m topic).mark ≤ ((_ ++ [_]).length : Int); simp; omega⟩
          have hi' : i < (plN m topic).all.length + 1 := by simpa using hi
          unfold entAt
          simp only
          by_cases hil : i < (plN m topic).all.length
          · rw [Top.getD_pre hil]
            exact s1 i hil
          · obtain rfl : i = (plN m topic).all.length := by omega
            rw [Top.getD_mid]
            exact ⟨rfl, by show (0 : Int) ≤ id; omega, by show id < 6291456; omega, by show k.size ≤ 16; omega, by show b.size ≤ 64; omega⟩
      · rw [e2]
        refine may_set hS (add_may hmay (by omega) (fun hh => c5 (Or.inl hh)) (fun hh => c5 (Or.inr hh))) ?_
        rw [show (streamM m).tops.getD topic.toNat default = topM (plN m topic) from topN_str hm h0 h1]
        show (topM (plN m topic)).next ≤ (topM (plN m topic)).next + 1
        omega
  · rw [if_neg ha] at h
    cases h
    rw [if_neg ha]
    rw [if_neg ha]
    exact ⟨rfl, fun h => absurd h ha⟩

/-- A COMMAND: the model and its topics do the same. -/
theorem doM_str {m u : Mdl} {kind topic who n e : Int} (hm : mayM m) (h : doM m kind topic who n = (u, e)) :
    doS (streamM m) kind topic who n = (if e = 0 then streamM u else Str.zero, e) ∧ (e = 0 → mayM u) := by
  have hS := mayM_str hm
  rw [doM, if_pos hm] at h
  by_cases hr : rightD kind topic who n
  · rw [if_neg (fun hh => hh hr)] at h
    obtain ⟨hk, ⟨h0, h1⟩, h2, h3⟩ := id hr
    have ha : askS (streamM m) topic = 0 := askS_zero.2 ⟨hS, h0, h1⟩
    have hpm := plN_mem hm h0 h1
    obtain ⟨hp1, hp2⟩ := hm.1.2 _ hpm
    have hmay := (topM_may hp1).2 hp2
    have hnb : ¬ (n < 0 ∨ 1073741824 < n) := by omega
    obtain ⟨s1, s2, ⟨s3, s4⟩, s5, s6⟩ := id hp1
    have hmem : ∀ (q : Pl), shapedP q → ∀ p ∈ (⟨m.tops.set topic.toNat q, m.coms⟩ : Mdl).tops, shapedP p := fun q hq p hp => by
      rcases List.mem_or_eq_of_mem_set hp with hp | rfl
      · exact mayM_shaped hm p hp
      · exact hq
    have hst : ∀ (q : Pl), streamM ⟨m.tops.set topic.toNat q, m.coms⟩ = ⟨(streamM m).tops.set topic.toNat (topM q), (streamM m).coms⟩ := fun q => by
      show (⟨_, _⟩ : Str) = _
      rw [map_set_top]; rfl
    have hset : ∀ (q : Pl), shapedP q → (topM q).may → (topM (plN m topic)).next ≤ (topM q).next → mayM ⟨m.tops.set topic.toNat q, m.coms⟩ := fun q hq hqm hn => by
      refine (mayM_iff (hmem q hq)).1 ?_
      rw [hst]
      refine may_set hS hqm ?_
      rw [show (streamM m).tops.getD topic.toNat default = topM (plN m topic) from topN_str hm h0 h1]
      exact hn
    rw [doS, if_pos ha, topN_str hm h0 h1]
    by_cases k4 : kind = 4
    · rw [if_pos k4] at h
      rw [if_pos k4, commitS, if_neg (by omega), topN_str hm h0 h1]
      by_cases hn : ((plN m topic).all.length : Int) < n
      · rw [if_pos hn] at h; cases h
        rw [if_pos (show (topM (plN m topic)).next < n from hn)]
        exact ⟨rfl, fun h => by cases h⟩
      · rw [if_neg hn] at h; cases h
        rw [if_neg (show ¬ (topM (plN m topic)).next < n from hn)]
        refine ⟨rfl, fun _ => (mayM_iff (m := ⟨m.tops, setC m.coms topic who n⟩) (mayM_shaped (m := m) hm)).1 ?_⟩
        have hc := may_com (s := streamM m) (i := topic.toNat) (who := who) (n := n) hS (by omega) (by omega) (by omega) h2 h3 (by
          rw [show (streamM m).tops.getD topic.toNat default = topM (plN m topic) from topN_str hm h0 h1]
          show n ≤ ((plN m topic).all.length : Int)
          omega)
        rw [show ((topic.toNat : Nat) : Int) = topic by omega] at hc
        exact hc
    · rw [if_neg k4] at h
      rw [if_neg k4]
      by_cases k5 : kind = 5
      · rw [if_pos k5] at h; cases h
        have ht := topM_trim (p := plN m topic) n
        rw [if_pos k5, trimP_yes hmay hnb, turnS, if_pos rfl, ← ht]
        refine ⟨by rw [if_pos rfl, hst], fun _ => hset _ ⟨s1, s2, ⟨by show 0 ≤ max _ _; omega, by show max (plN m topic).base (min n ((plN m topic).all.length : Int)) ≤ ((plN m topic).all.length : Int); omega⟩, s5, s6⟩ ?_ (Int.le_refl _)⟩
        rw [ht]
        exact trim_may hmay h2
      · have k6 : kind = 6 := by omega
        rw [if_neg k5] at h; cases h
        have ht := topM_comp hp1 n
        rw [if_neg k5, if_pos k6, compactP_T hmay hnb, turnS, if_pos rfl, ← ht]
        refine ⟨by rw [if_pos rfl, hst], fun _ => hset _ ⟨s1, s2, ⟨s3, s4⟩, by show 0 ≤ max _ _; omega, by show max (plN m topic).mark (min n ((plN m topic).all.length : Int)) ≤ ((plN m topic).all.length : Int); omega⟩ ?_ (Int.le_refl _)⟩
        rw [ht]
        exact comp_may n hmay
  · rw [if_pos hr] at h; cases h
    rw [doS_no hS hr]
    exact ⟨rfl, fun h => by cases h⟩
end Go.Proofs.Ytblgmjbajnkcdab
