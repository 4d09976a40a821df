/-
  '==' and '!=' of two entries. No condition.
-/
import Derived.Test.YtolgkadoplalnaaProg
import Derived.Test.YtolgkadoplalnaaTopR
import Derived.KernelRfl
namespace Go.Proofs.Ytolgkadoplalnaa
open Go.RowKit

def eqEnt (x y : Ent) : Bool := x.off == y.off && (x.id == y.id && (x.key.toList == y.key.toList && x.body.toList == y.body.toList))

theorem ent_fields : Try.prog.underlying 38 = some (.struct (Try.prog.fieldsOf 38)) := by kernel_rfl
theorem ent_held : Try.prog.stoodInHeld 38 = false := by kernel_rfl
theorem ent_guard : Try.prog.eqGuardType Try.prog.depth 38 = false := by kernel_rfl

theorem ent_equal (x y : Ent) (w : World) : (Op.equalIn 10000 38 (.agg #[.int .i64 x.off, .int .i64 x.id, .string x.key, .string x.body]) (.agg #[.int .i64 y.off, .int .i64 y.id, .string y.key, .string y.body])).run Try.prog w = .ok (eqEnt x y) w := by
  have u3 := Try.underlying3
  have a3 := Try.isAgg3
  have z3 := Try.sizeOf3
  have u9 := Try.underlying9
  have a9 := Try.isAgg9
  have z9 := Try.sizeOf9
  rw [show (10000 : Nat) = 9999 + 1 from rfl, run_equalIn_agg w 9999 _ _ _ ent_fields ent_held]
  simp only [Program.fieldsOf, Try.underlying38]
  go_simp
  by_cases h1 : x.off = y.off <;> by_cases h2 : x.id = y.id <;> by_cases h3 : x.key.toList = y.key.toList <;> by_cases h4 : x.body.toList = y.body.toList <;> simp [h1, h2, h3, h4, eqEnt]

theorem ent_eql (x y : Ent) (w : World) : (binOp .eql 38 (.agg #[.int .i64 x.off, .int .i64 x.id, .string x.key, .string x.body]) (.agg #[.int .i64 y.off, .int .i64 y.id, .string y.key, .string y.body])).run Try.prog w = .ok (.bool (eqEnt x y)) w := by
  rw [run_eql_struct, ent_equal]; rfl
theorem ent_neq (x y : Ent) (w : World) : (binOp .neq 38 (.agg #[.int .i64 x.off, .int .i64 x.id, .string x.key, .string x.body]) (.agg #[.int .i64 y.off, .int .i64 y.id, .string y.key, .string y.body])).run Try.prog w = .ok (.bool (!eqEnt x y)) w := by
  rw [run_neq_struct, ent_equal]; rfl
theorem ent_eqGuard (op : BinOp) (a b : Operand) (x y : Ent) (w : World) : (eqGuard op 38 a b (.agg #[.int .i64 x.off, .int .i64 x.id, .string x.key, .string x.body]) (.agg #[.int .i64 y.off, .int .i64 y.id, .string y.key, .string y.body])).run Try.prog w = .ok () w :=
  run_eqGuard_agg w op _ a b _ _ ent_guard

end Go.Proofs.Ytolgkadoplalnaa
