/-
  What is known of a model that comes in: sizes. No walk in sight.
-/
import Derived.Test.YtblgmjbajnkcdabMdlR
import Derived.Test.YtblgmjbajnkcdabBunS
import Derived.Test.YtblgmjbajnkcdabMdlRTwin
import Derived.Test.YtblgmjbajnkcdabMdlGreat
namespace Go.Proofs.Ytblgmjbajnkcdab
open Go.RowKit

theorem cells_mdl : Try.prog.cellsOf 25 = 2 := by kernel_rfl
theorem cells_pls : Try.prog.cellsOf 22 = 1 := by kernel_rfl
theorem cells_pl : Try.prog.cellsOf 84 = 3 := by kernel_rfl
theorem bytes_ent : Try.prog.bytesOf 29 = 48 := by kernel_rfl
abbrev FitMdl (m : Mdl) : Prop := mdlFit Try.prog 84 29 43 3 m
theorem mfit_sizes {m : Mdl} (F : FitMdl m) : ∀ p ∈ m.tops, ∀ x ∈ p.all, x.key.size ≤ 140737488355328 ∧ x.body.size ≤ 140737488355328 := fun p hp x hx => ⟨Nat.le_trans ((F.1.1 p hp).1.2 x hx).2.1 (by unfold reachBytes; omega), Nat.le_trans ((F.1.1 p hp).1.2 x hx).2.2 (by unfold reachBytes; omega)⟩
theorem mfit_rows {m : Mdl} (F : FitMdl m) : ∀ r ∈ m.coms, r.length ≤ 17592186044416 := fun r hr => by
  have := (F.2.2 r hr).1
  rw [bytes_int] at this
  unfold reachBytes at this
  omega
theorem mfit_fit {m : Mdl} (F : FitMdl m) (hg : m.tops.length ≤ 50 ∧ few m.coms) : fitM m := ⟨by omega, hg.2, fun p hp => by
  have := (F.1.1 p hp).2
  rw [bytes_ent] at this
  unfold reachBytes at this
  omega⟩
end Go.Proofs.Ytblgmjbajnkcdab
