/- A struct of spans compared; no condition. -/
import Derived.Test.YtfdadkngbnhmeaaDoorLib
namespace Go.Proofs.YtfdadkngbnhmeaaDoor
open Go.RowKit

theorem span_fields : (Tryd.prog.fieldsOf 64).toList = [{ name := "From", type := 3, offset := 0, embedded := false, tag := "", pkgPath := "", byteOffset := 0 }, { name := "To", type := 3, offset := 1, embedded := false, tag := "", pkgPath := "", byteOffset := 8 }] := by kernel_rfl
theorem span_eql (a b c d : Int) (w : World) : (binOp .eql 64 (.agg #[.int .i64 a, .int .i64 b]) (.agg #[.int .i64 c, .int .i64 d])).run Tryd.prog w = .ok (.bool (a == c && b == d)) w := by
  have ht : Tryd.prog.underlying 64 = some (.struct (Tryd.prog.fieldsOf 64)) := by kernel_rfl
  have hp : Tryd.prog.stoodInHeld 64 = false := by kernel_rfl
  rw [run_eql_struct, run_equalIn_agg w 9999 _ _ _ ht hp, span_fields]
  clear ht hp
  by_cases h : a = c
  · simp [Op.eqFields, h, go_sem, part]
    by_cases k : b = d <;> simp [k]
  · simp [Op.eqFields, h, go_sem, part]
theorem span_guard (x y : Operand) (a b c d : Int) (w : World) : (eqGuard .eql 64 x y (.agg #[.int .i64 a, .int .i64 b]) (.agg #[.int .i64 c, .int .i64 d])).run Tryd.prog w = .ok () w := by kernel_rfl
theorem span_same (x y : Int) (w : World) : (binOp .eql 64 (.agg #[.int .i64 x, .int .i64 y]) (.agg #[.int .i64 x, .int .i64 y])).run Tryd.prog w = .ok (.bool true) w := by rw [span_eql]; simp
end Go.Proofs.YtfdadkngbnhmeaaDoor
