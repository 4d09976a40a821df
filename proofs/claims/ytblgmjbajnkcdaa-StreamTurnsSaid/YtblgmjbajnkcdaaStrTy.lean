/-
  What is known of a stream that comes in: sizes. No walk in sight.
-/
import Derived.Test.YtblgmjbajnkcdaaStrChk
import Derived.Test.YtblgmjbajnkcdaaBunD
namespace Go.Proofs.Ytblgmjbajnkcdaa
open Go.RowKit

theorem cells_strm : Try.prog.cellsOf 25 = 2 := by kernel_rfl
theorem cells_tops : Try.prog.cellsOf 22 = 1 := by kernel_rfl
theorem cells_rows : Try.prog.cellsOf 23 = 1 := by kernel_rfl
theorem cells_row : Try.prog.cellsOf 48 = 1 := by kernel_rfl
theorem bytes_int : Try.prog.bytesOf 3 = 8 := by kernel_rfl
abbrev FitS (s : Str) : Prop := strFit Try.prog 72 29 48 3 s
theorem fit_sizes {s : Str} (F : FitS s) : ∀ t ∈ s.tops, ∀ x ∈ t.ents, x.key.size ≤ 140737488355328 ∧ x.body.size ≤ 140737488355328 := fun t ht => top_sizes (F.1.1 t ht).1
theorem fit_keys {s : Str} (F : FitS s) : strKeys s := fun t ht => top_keys (F.1.1 t ht).1
theorem fit_rows {s : Str} (F : FitS s) : ∀ r ∈ s.coms, r.length ≤ 17592186044416 := fun r hr => by
  have := (F.2.2 r hr).1
  rw [bytes_int] at this
  unfold reachBytes at this
  omega
end Go.Proofs.Ytblgmjbajnkcdaa
