/- metronomelaw.small; struct of spans compared; no condition. -/
import Derived.Test.YtgdljdhibknjnaaGo
namespace Go.Proofs.Ytgdljdhibknjnaa
open Go.RowKit

set_option maxRecDepth 100000 in
set_option maxHeartbeats 1000000 in
theorem small_any (nd fa sk ji dr R : Int) (A : Option Addr) (len c : Nat) (AL : Option Addr) (ll cl : Nat) (fr : Int) (AQ : Option Addr) (lq cq : Nat) (b : Bool) (h : decide (wrap64 (wrap64 ((len : Int) + (ll : Int)) + (lq : Int)) ≤ 120) = b) (w : World) :
    Calls Try.prog 39 #[.agg (planC nd fa sk ji dr R (.slice A len c) (.slice AL ll cl) fr (.slice AQ lq cq))] w fun e w' => e = .returned (.bool b) ∧ Below w.heap.size w w' := by
  have hB := hide ((Below.refl w.heap.size w).alloc (Nat.le_refl _) (.cells (planC nd fa sk ji dr R (.slice A len c) (.slice AL ll cl) fr (.slice AQ lq cq)) 86))
  have HH := hide h; clear h
  go_enter Try.func39, Try.ntmps39
  go_wp2_with fail
  go_ret
  exact ⟨ret_bool HH.out, hB.out⟩

theorem span_fields : (Try.prog.fieldsOf 88).toList = [{ name := "From", type := 3, offset := 0, embedded := false, tag := "", pkgPath := "", byteOffset := 0 }, { name := "To", type := 3, offset := 1, embedded := false, tag := "", pkgPath := "", byteOffset := 8 }] := by kernel_rfl
theorem span_eql (a b c d : Int) (w : World) : (binOp .eql 88 (.agg #[.int .i64 a, .int .i64 b]) (.agg #[.int .i64 c, .int .i64 d])).run Try.prog w = .ok (.bool (a == c && b == d)) w := by
  have ht : Try.prog.underlying 88 = some (.struct (Try.prog.fieldsOf 88)) := by kernel_rfl
  have hp : Try.prog.stoodInHeld 88 = false := by kernel_rfl
  rw [run_eql_struct, run_equalIn_agg w 9999 _ _ _ ht hp, span_fields]
  clear ht hp
  by_cases h : a = c
  · simp [Op.eqFields, h, go_sem, part]
    by_cases k : b = d <;> simp [k]
  · simp [Op.eqFields, h, go_sem, part]
theorem span_guard (x y : Operand) (a b c d : Int) (w : World) : (eqGuard .eql 88 x y (.agg #[.int .i64 a, .int .i64 b]) (.agg #[.int .i64 c, .int .i64 d])).run Try.prog w = .ok () w := by kernel_rfl
theorem span_same (x y : Int) (w : World) : (binOp .eql 88 (.agg #[.int .i64 x, .int .i64 y]) (.agg #[.int .i64 x, .int .i64 y])).run Try.prog w = .ok (.bool true) w := by rw [span_eql]; simp
end Go.Proofs.Ytgdljdhibknjnaa
