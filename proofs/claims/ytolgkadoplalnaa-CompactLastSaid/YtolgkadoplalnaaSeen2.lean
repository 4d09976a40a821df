/-
  Keys that were seen: one is struck. No program in sight.
-/
import Derived.Test.YtolgkadoplalnaaSeen
import Derived.Maps.OwnSet
namespace Go.Proofs.Ytolgkadoplalnaa
open Go.RowKit Go.Maps Go.WideMaps

variable {P : Program} {ts ti tm : TypeId} {w w' : World} {b n : Nat} {seen : List ByteArray}

theorem Seen.delete (h : Seen P ts ti w b n seen) (hts : P.underlying ts = some .string) (hm : P.underlying tm = some (.map ts ti)) {s : ByteArray} (hs : s.size ≤ maxLen) (ty : TypeId) :
    ∃ w', (Builtin.delete_ #[tm, ts] ty #[.map (some b), .string s]).run P w = .ok (.tuple #[]) w' ∧ Seen P ts ti w' b n (seen.filter fun k => decide (k ≠ s)) ∧ w.grownBy w' (some b) := by
  obtain ⟨D, h1, h2, h3⟩ := h
  obtain ⟨w', hrun, hown, hg⟩ := h1.drop (string_keyed hts) hm (keyOf_string_mk hts hs) ty
  refine ⟨w', hrun, ⟨_, hown, ?_, fun u => ?_⟩, hg.grown⟩
  · obtain ⟨l, rfl⟩ := h2
    exact ⟨_, rfl⟩
  · by_cases hu : u = s
    · rw [hu]
      have e := atKey_del_same (H := Unit) (D := D) (k := .string s.data.toList) (.lit (.int .i64 0))
      exact ⟨fun h => by simp at h, fun _ => e⟩
    · have hne : Lit.string u.data.toList ≠ Lit.string s.data.toList := fun e => hu (by
        have e1 : u.data.toList = s.data.toList := by injection e
        have e2 : u.data = s.data := Array.toList_inj.1 e1
        cases u; cases s; simp_all)
      have e := atKey_del_other (H := Unit) (D := D) hne (.lit (.int .i64 0))
      refine ⟨fun h => ?_, fun h => ?_⟩
      · rw [e]
        exact (h3 u).1 (List.mem_filter.1 h).1
      · rw [e]
        exact (h3 u).2 (fun h' => h (List.mem_filter.2 ⟨h', by simpa using hu⟩))

end Go.Proofs.Ytolgkadoplalnaa
