/-
  The keys that were seen: a map of strings that a call makes and keeps to itself, as a list. No program in sight.
-/
import Derived.WalkKit
import Derived.ProofKit
import Derived.Maps.OwnOps
import Derived.Maps.Views
import Derived.Maps.Keyed
import Derived.StringKeys
import Derived.WideMake
namespace Go.Proofs.Ytolgkadoplalnaa
open Go.RowKit Go.Maps Go.WideMaps

/-- Block b of w is a map of at most n entries: 1 at each key of seen, nothing else. -/
def Seen (P : Program) (ts ti : TypeId) (w : World) (b n : Nat) (seen : List ByteArray) : Prop :=
  ∃ D : DataW Unit, w.ownsMap P ts (plainElem P ti) b n D ∧ IsMap D ∧ ∀ s : ByteArray, (s ∈ seen → D.atKey (.string s.data.toList) (.lit (.int .i64 0)) = .lit (.int .i64 1)) ∧ (s ∉ seen → D.atKey (.string s.data.toList) (.lit (.int .i64 0)) = .lit (.int .i64 0))

variable {P : Program} {ts ti tm : TypeId} {w w' : World} {b n : Nat} {seen : List ByteArray}

theorem Seen.made (P : Program) (ts ti : TypeId) (w : World) : Seen P ts ti (w.alloc (.map #[] 0)) w.heap.size 0 [] :=
  ⟨.map [], World.ownsMap_made _ _ _ _, ⟨_, rfl⟩, fun _ => ⟨fun h => absurd h (by simp), fun _ => by simp [DataW.atKey]⟩⟩

theorem Seen.mono (h : Seen P ts ti w b n seen) {m : Nat} (hm : n ≤ m) : Seen P ts ti w b m seen := by
  obtain ⟨D, h1, h2, h3⟩ := h
  exact ⟨D, h1.mono hm, h2, h3⟩

theorem Seen.lt (h : Seen P ts ti w b n seen) : b < w.heap.size := h.choose_spec.1.lt

theorem Seen.same (h : Seen P ts ti w b n seen) (hb : w'.heap[b]? = w.heap[b]?) : Seen P ts ti w' b n seen := by
  obtain ⟨D, ⟨es, clock, e1, e2⟩, h2, h3⟩ := h
  exact ⟨D, ⟨es, clock, by rw [hb]; exact e1, e2⟩, h2, h3⟩
theorem Seen.below (h : Seen P ts ti w b n seen) (hb : Below w.heap.size w w') : Seen P ts ti w' b n seen := h.same (hb.block b h.lt)

theorem Seen.look (h : Seen P ts ti w b n seen) (hts : P.underlying ts = some .string) (hm : P.underlying tm = some (.map ts ti)) (hti : P.underlying ti = some (.int .i64)) (hz : (zeroValue ti).run P w = .ok (.int .i64 0) w) {s : ByteArray} (hs : s.size ≤ maxLen) (c : Int)
    (hc : (s ∈ seen ∧ c = 1) ∨ (s ∉ seen ∧ c = 0)) : (Instr.lookup tm (.map (some b)) (.string s) false).run P w = .ok (.int .i64 c) w := by
  obtain ⟨D, h1, h2, h3⟩ := h
  obtain ⟨c', hrun, hat, _⟩ := h1.lookup_int (string_keyed hts) hm hti hz (keyOf_string_mk hts hs)
  rcases hc with ⟨hi, rfl⟩ | ⟨hi, rfl⟩
  · rw [(h3 s).1 hi] at hat
    cases hat
    exact hrun
  · rw [(h3 s).2 hi] at hat
    cases hat
    exact hrun

theorem Seen.store (h : Seen P ts ti w b n seen) (hts : P.underlying ts = some .string) (hm : P.underlying tm = some (.map ts ti)) (hti : P.underlying ti = some (.int .i64)) (hn : n < maxLen) {s : ByteArray} (hs : s.size ≤ maxLen) :
    ∃ w', (Instr.mapUpdate tm (.map (some b)) (.string s) (.int .i64 1)).run P w = .ok () w' ∧ Seen P ts ti w' b (n + 1) (s :: seen) ∧ w.grownBy w' (some b) := by
  obtain ⟨D, h1, h2, h3⟩ := h
  obtain ⟨w', hrun, hown, hg⟩ := h1.update (string_keyed hts) hm hn (keyOf_string_mk hts hs) (plainElem_int hti (a := 1) (by decide))
  refine ⟨w', hrun, ⟨_, hown, ?_, fun u => ?_⟩, hg⟩
  · obtain ⟨l, rfl⟩ := h2
    exact ⟨_, rfl⟩
  · by_cases hu : u = s
    · rw [hu]
      have e := atKey_put_same (H := Unit) h2 (k := .string s.data.toList) trivial (.lit (.int .i64 1)) (.lit (.int .i64 0))
      exact ⟨fun _ => e, fun h => absurd (List.mem_cons_self) h⟩
    · have hne : Lit.string u.data.toList ≠ Lit.string s.data.toList := fun e => hu (by
        have e1 : u.data.toList = s.data.toList := by injection e
        have e2 : u.data = s.data := Array.toList_inj.1 e1
        cases u; cases s; simp_all)
      have e := atKey_put_other (H := Unit) (D := D) hne (.lit (.int .i64 1)) (.lit (.int .i64 0))
      refine ⟨fun h => ?_, fun h => ?_⟩
      · rw [e]
        exact (h3 u).1 ((List.mem_cons.1 h).resolve_left hu)
      · rw [e]
        exact (h3 u).2 (fun h' => h (List.mem_cons_of_mem _ h'))

end Go.Proofs.Ytolgkadoplalnaa
