/-
  '==' and '!=' of two stamps. No condition.
-/
import Derived.Test.YthkgbfeljgdnaaaProg
import Derived.Test.YthkgbfeljgdnaaaRead
import Derived.KernelRfl
namespace Go.Proofs.Ythkgbfeljgdnaaa
open Go.RowKit

def eqSt (x y : Int × Int) : Bool := x.1 == y.1 && x.2 == y.2
theorem eqSt_iff (x y : Int × Int) : eqSt x y = true ↔ x = y := by
  obtain ⟨a, b⟩ := x
  obtain ⟨c, d⟩ := y
  simp [eqSt]

theorem st_fields : Try.prog.underlying 33 = some (.struct (Try.prog.fieldsOf 33)) := by kernel_rfl
theorem st_held : Try.prog.stoodInHeld 33 = false := by kernel_rfl
theorem st_guard : Try.prog.eqGuardType Try.prog.depth 33 = false := by kernel_rfl

theorem st_equal (a b c d : Int) (w : World) : (Op.equalIn 10000 33 (.agg #[.int .i64 a, .int .i64 b]) (.agg #[.int .i64 c, .int .i64 d])).run Try.prog w = .ok (eqSt (a, b) (c, d)) w := by
  have u3 := Try.underlying3
  have a3 := Try.isAgg3
  have z3 := Try.sizeOf3
  rw [show (10000 : Nat) = 9999 + 1 from rfl, run_equalIn_agg w 9999 _ _ _ st_fields st_held]
  simp only [Program.fieldsOf, Try.underlying33]
  go_simp
  by_cases h1 : a = c <;> by_cases h2 : b = d <;> simp [h1, h2, eqSt]

theorem st_eql (a b c d : Int) (w : World) : (binOp .eql 33 (.agg #[.int .i64 a, .int .i64 b]) (.agg #[.int .i64 c, .int .i64 d])).run Try.prog w = .ok (.bool (eqSt (a, b) (c, d))) w := by
  rw [run_eql_struct, st_equal]; rfl
theorem st_neq (a b c d : Int) (w : World) : (binOp .neq 33 (.agg #[.int .i64 a, .int .i64 b]) (.agg #[.int .i64 c, .int .i64 d])).run Try.prog w = .ok (.bool (!eqSt (a, b) (c, d))) w := by
  rw [run_neq_struct, st_equal]; rfl
theorem st_eqGuard (op : BinOp) (x y : Operand) (a b c d : Int) (w : World) : (eqGuard op 33 x y (.agg #[.int .i64 a, .int .i64 b]) (.agg #[.int .i64 c, .int .i64 d])).run Try.prog w = .ok () w :=
  run_eqGuard_agg w op _ x y _ _ st_guard

end Go.Proofs.Ythkgbfeljgdnaaa
