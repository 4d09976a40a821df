/-
  Plain: topics as they are to be, and the topics that they stand for. No program in sight.
-/
import Derived.Test.YtblgmjbajnkcdabBunS
namespace Go.Proofs.Ytblgmjbajnkcdab
open Go.RowKit

structure Pl where
  all : List Ent
  base : Int
  mark : Int
structure Mdl where
  tops : List Pl
  coms : List (List Int)
instance : Inhabited Pl := ⟨⟨[], 0, 0⟩⟩

/-- What is kept: the last of each key below Mark, all from Mark on; from Base on. -/
def entP (p : Pl) : List Ent := fromE p.base (keepF p.mark p.all)
def topM (p : Pl) : Top := ⟨p.base, p.all.length, p.mark, entP p⟩
def streamM (m : Mdl) : Str := ⟨m.tops.map topM, m.coms⟩
def entAt (p : Pl) (i : Nat) : Prop := (p.all.getD i default).off = (i : Int) ∧ Top.okEnt (p.all.getD i default)
instance (p : Pl) (i : Nat) : Decidable (entAt p i) := by unfold entAt; infer_instance
def shapedP (p : Pl) : Prop := (∀ i, i < p.all.length → entAt p i) ∧ p.all.length ≤ 600 ∧ (0 ≤ p.base ∧ p.base ≤ (p.all.length : Int)) ∧ 0 ≤ p.mark ∧ p.mark ≤ (p.all.length : Int)
instance (p : Pl) : Decidable (shapedP p) := by unfold shapedP; infer_instance
def mayM (m : Mdl) : Prop := (m.tops.length = 4 ∧ ∀ p ∈ m.tops, shapedP p ∧ (entP p).length ≤ 200) ∧ okC m.coms = true ∧ ∀ i, i < 4 → ∀ k, k < 8 → ((m.coms.getD i []).getD k 0) ≤ ((m.tops.getD i default).all.length : Int)
instance (m : Mdl) : Decidable (mayM m) := by unfold mayM; infer_instance

theorem drop_cons {l : List Ent} {k : Nat} (h : k < l.length) : l.drop k = l.getD k default :: l.drop (k + 1) := by
  rw [List.drop_eq_getElem_cons h, getD_at h]
theorem chk_all {p : Pl} (h : ∀ i, i < p.all.length → entAt p i) : ∀ (n k : Nat), k + n = p.all.length → Top.chk ⟨0, p.all.length, 0, p.all⟩ ((k : Int) - 1) [] (p.all.drop k)
  | 0, k, hk => by
    rw [List.drop_eq_nil_of_le (by omega)]
    show max ((k : Int) - 1 + 1) 0 = (p.all.length : Int)
    omega
  | n + 1, k, hk => by
    have hlt : k < p.all.length := by omega
    obtain ⟨h1, h2⟩ := h k hlt
    rw [drop_cons hlt]
    refine ⟨⟨h2, by rw [h1]; omega, by rw [h1]; show (k : Int) < (p.all.length : Int); omega, by rw [h1]; show (k : Int) ≤ max ((k : Int) - 1 + 1) 0; omega, fun h0 => by rw [h1] at h0; exact absurd h0 (by show ¬ (k : Int) < 0; omega)⟩, ?_⟩
    rw [if_neg (by rw [h1]; show ¬ (k : Int) < 0; omega), h1]
    have := chk_all h n (k + 1) (by omega)
    rwa [show ((k + 1 : Nat) : Int) - 1 = (k : Int) by omega] at this
theorem topM_chk {p : Pl} (h : shapedP p) : Top.chk (topM p) (p.base - 1) [] (entP p) := by
  obtain ⟨h1, h2, ⟨h3, h4⟩, h5, h6⟩ := h
  have c0 := chk_all h1 p.all.length 0 (by omega)
  rw [List.drop_zero] at c0
  have c1 := chk_keep (t := ⟨0, p.all.length, 0, p.all⟩) (t' := ⟨0, p.all.length, p.mark, keepF p.mark p.all⟩) (m := p.mark) rfl rfl h5 h6 p.all _ (-1) [] [] (by simp) (Or.inl (by simp)) (fun _ hk => by cases hk) c0
  exact chk_from (t := ⟨0, p.all.length, p.mark, keepF p.mark p.all⟩) (t' := topM p) rfl rfl h4 _ (-1) [] [] (by omega) (fun _ h => h) c1
theorem topM_may {p : Pl} (h : shapedP p) : (topM p).may ↔ (entP p).length ≤ 200 := by
  rw [Top.may_iff]
  constructor
  · exact fun hh => hh.1.2.2.2.2.2.2
  · intro hl
    obtain ⟨h1, h2, ⟨h3, h4⟩, h5, h6⟩ := id h
    exact ⟨⟨by show (0 : Int) ≤ (p.all.length : Int); omega, by show (p.all.length : Int) ≤ 1073741824; omega, h3, h4, h5, h6, hl⟩, topM_chk h⟩
theorem getD_map_top {l : List Pl} {i : Nat} (h : i < l.length) : (l.map topM).getD i default = topM (l.getD i default) := by simp [List.getD, h]
theorem mayM_iff {m : Mdl} (h : ∀ p ∈ m.tops, shapedP p) : mayS (streamM m) ↔ mayM m := by
  constructor
  · rintro ⟨⟨h1, h2⟩, h3, h4⟩
    have hl : m.tops.length = 4 := by simpa [streamM] using h1
    refine ⟨⟨hl, fun p hp => ⟨h p hp, (topM_may (h p hp)).1 (h2 _ (List.mem_map.2 ⟨p, hp, rfl⟩))⟩⟩, h3, fun i hi k hk => ?_⟩
    have := h4 i hi k hk
    rw [show (streamM m).tops.getD i default = topM (m.tops.getD i default) from getD_map_top (by omega)] at this
    exact this
  · rintro ⟨⟨h1, h2⟩, h3, h4⟩
    refine ⟨⟨by simpa [streamM] using h1, fun t ht => ?_⟩, h3, fun i hi k hk => ?_⟩
    · obtain ⟨p, hp, rfl⟩ := List.mem_map.1 ht
      exact (topM_may (h p hp)).2 (h2 p hp).2
    · rw [show (streamM m).tops.getD i default = topM (m.tops.getD i default) from getD_map_top (by omega)]
      exact h4 i hi k hk
theorem mayM_shaped {m : Mdl} (h : mayM m) : ∀ p ∈ m.tops, shapedP p := fun p hp => (h.1.2 p hp).1
theorem mayM_str {m : Mdl} (h : mayM m) : mayS (streamM m) := (mayM_iff (mayM_shaped h)).2 h

/-! The entries, one by one -/
def keptI (p : Pl) (i : Nat) : Bool := decide (p.base ≤ (p.all.getD i default).off) && !(decide ((p.all.getD i default).off < p.mark) && hasL p.mark (p.all.getD i default).key (p.all.drop (i + 1)))
def preP (p : Pl) : Nat → List Ent
  | 0 => []
  | k + 1 => preP p k ++ (if keptI p k = true then [p.all.getD k default] else [])
theorem preP_len (p : Pl) : ∀ k, (preP p k).length ≤ k
  | 0 => Nat.le_refl _
  | k + 1 => by
    have := preP_len p k
    rw [preP, List.length_append]
    split <;> simp <;> omega
theorem preP_end (p : Pl) : ∀ (n k : Nat), k + n = p.all.length → preP p k ++ fromE p.base (keepF p.mark (p.all.drop k)) = preP p p.all.length
  | 0, k, hk => by
    obtain rfl : k = p.all.length := by omega
    rw [List.drop_eq_nil_of_le (Nat.le_refl _)]
    exact List.append_nil _
  | n + 1, k, hk => by
    have hlt : k < p.all.length := by omega
    rw [← preP_end p n (k + 1) (by omega), preP, List.append_assoc]
    congr 1
    rw [drop_cons hlt]
    generalize hx : p.all.getD k default = x
    have hkI : keptI p k = (decide (p.base ≤ x.off) && !(decide (x.off < p.mark) && hasL p.mark x.key (p.all.drop (k + 1)))) := by rw [keptI, hx]
    rw [hkI]
    by_cases h : x.off < p.mark ∧ hasL p.mark x.key (p.all.drop (k + 1)) = true
    · rw [keepF_skip h.1 h.2]
      simp [h.1, h.2]
    · rw [keepF_keep h]
      have h' : (decide (x.off < p.mark) && hasL p.mark x.key (p.all.drop (k + 1))) = false := by
        rw [← Bool.not_eq_true, Bool.and_eq_true, decide_eq_true_eq]; exact h
      rw [h']
      by_cases hb : p.base ≤ x.off
      · simp [fromE, hb]
      · simp [fromE, hb]
theorem preP_all (p : Pl) : preP p p.all.length = entP p := by
  have := preP_end p p.all.length 0 (by omega)
  rw [List.drop_zero] at this
  exact this.symm
/-- The program's test of an entry, offsets being places. -/
theorem keptI_off {p : Pl} {i : Nat} (h : entAt p i) : keptI p i = (decide (p.base ≤ (i : Int)) && !(decide ((i : Int) < p.mark) && hasL p.mark (p.all.getD i default).key (p.all.drop (i + 1)))) := by rw [keptI, h.1]

/-! What is read -/
def askM (m : Mdl) (n : Int) : Int := if mayM m then (if 0 ≤ n ∧ n < 4 then 0 else 2) else 8
def plN (m : Mdl) (n : Int) : Pl := m.tops.getD n.toNat default
def fetchL (p : Pl) (o : Int) : Ent × Int := if o < 0 then (default, 2) else if (p.all.length : Int) ≤ o then (default, 170) else if o < p.base then (default, 171) else if keptI p o.toNat = true then (p.all.getD o.toNat default, 0) else (default, 172)
def fetchM (m : Mdl) (n o : Int) : Ent × Int := if askM m n = 0 then fetchL (plN m n) o else (default, askM m n)
def farM (m : Mdl) (n k : Int) : Int × Int := if mayM m then (if (0 ≤ n ∧ n < 4) ∧ 0 ≤ k ∧ k < 8 then (getC m.coms n k, 0) else (0, 2)) else (0, 8)
def endM (m : Mdl) (n : Int) : Int × Int := if askM m n = 0 then (((plN m n).all.length : Int), 0) else (0, askM m n)
theorem askM_zero {m : Mdl} {n : Int} : askM m n = 0 ↔ mayM m ∧ 0 ≤ n ∧ n < 4 := by
  unfold askM
  by_cases h : mayM m
  · by_cases h2 : 0 ≤ n ∧ n < 4
    · simp [h, h2]
    · rw [if_pos h, if_neg h2]; simp [h]; omega
  · rw [if_neg h]; simp [h]
theorem plN_mem {m : Mdl} {n : Int} (h : mayM m) (h0 : 0 ≤ n) (h1 : n < 4) : plN m n ∈ m.tops := by
  have := h.1.1
  rw [plN, getD_lt (show n.toNat < m.tops.length by omega)]
  exact List.getElem_mem _

/-! A message more, a command -/
def Mdl.zero : Mdl := ⟨[], []⟩
def putM (m : Mdl) (id topic : Int) (k b : ByteArray) : Mdl × Int × Int :=
  if askM m topic = 0 then
    (if id < 0 ∨ 6291456 ≤ id then (Mdl.zero, 0, 2) else if 16 < k.size ∨ 64 < b.size then (Mdl.zero, 0, 3) else if (plN m topic).all.length = 600 ∨ (entP (plN m topic)).length = 200 then (Mdl.zero, 0, 9)
      else (⟨m.tops.set topic.toNat ⟨(plN m topic).all ++ [⟨((plN m topic).all.length : Int), id, k, b⟩], (plN m topic).base, (plN m topic).mark⟩, m.coms⟩, ((plN m topic).all.length : Int), 0))
  else (Mdl.zero, 0, askM m topic)
def doM (m : Mdl) (kind topic who n : Int) : Mdl × Int :=
  if mayM m then
    (if ¬ rightD kind topic who n then (Mdl.zero, 2)
      else if kind = 4 then (if ((plN m topic).all.length : Int) < n then (Mdl.zero, 170) else (⟨m.tops, setC m.coms topic who n⟩, 0))
      else if kind = 5 then (⟨m.tops.set topic.toNat ⟨(plN m topic).all, max (plN m topic).base (min n ((plN m topic).all.length : Int)), (plN m topic).mark⟩, m.coms⟩, 0)
      else (⟨m.tops.set topic.toNat ⟨(plN m topic).all, (plN m topic).base, max (plN m topic).mark (min n ((plN m topic).all.length : Int))⟩, m.coms⟩, 0))
  else (Mdl.zero, 8)
end Go.Proofs.Ytblgmjbajnkcdab
