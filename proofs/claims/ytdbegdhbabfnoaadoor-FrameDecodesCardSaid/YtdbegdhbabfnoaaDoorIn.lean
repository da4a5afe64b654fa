/- The contract of metronomeref.in; no condition. -/
import Derived.Test.YtdbegdhbabfnoaaDoorLib
namespace Go.Proofs.YtdbegdhbabfnoaaDoor
open Go.RowKit

/-- metronomeref.in -/
def inB (n lo hi : Int) : Bool := decide (lo ≤ n) && decide (n ≤ hi)
set_option maxHeartbeats 400000 in
theorem in_any (n lo hi : Int) (w : World) :
    Calls Tryd.prog 14 #[.int .i64 n, .int .i64 lo, .int .i64 hi] w fun e w' => e = .returned (.bool (inB n lo hi)) ∧ w = w' := by
  go_enter Tryd.func14, Tryd.ntmps14
  go_wp2
  all_goals (go_ret; exact ⟨ret_bool (by simp only [inB]; simp [*] <;> omega), rfl⟩)
theorem in_is (n lo hi : Int) (v : Bool) (hv : inB n lo hi = v) (w : World) :
    Calls Tryd.prog 14 #[.int .i64 n, .int .i64 lo, .int .i64 hi] w fun e w' => e = .returned (.bool v) ∧ w = w' := by subst hv; exact in_any n lo hi w
theorem inB_bd {n : Int} (h : inB n (-1099511627776) 1099511627776 = true) : -1099511627776 ≤ n ∧ n ≤ 1099511627776 := by simpa [inB] using h
end Go.Proofs.YtdbegdhbabfnoaaDoor
