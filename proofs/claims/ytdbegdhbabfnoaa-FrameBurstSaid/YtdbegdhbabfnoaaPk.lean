/- The contract of metronomekeep.pick; no condition. -/
import Derived.Test.YtdbegdhbabfnoaaLib
namespace Go.Proofs.Ytdbegdhbabfnoaa
open Go.RowKit

set_option maxHeartbeats 400000 in
/-- metronomekeep.pick -/
theorem pick_any (a : Int) (n : Nat) (w : World) (h0 : 0 < n) (h1 : n ≤ 9223372036854775807) :
    Calls Try.prog 8 #[.int .i64 a, .int .i64 n] w fun e w' => e = .returned (.int .i64 ((a % 18446744073709551616).toNat % n : Nat)) ∧ w = w' := by
  obtain ⟨x, hx⟩ : ∃ x : Nat, x = (a % 18446744073709551616).toNat := ⟨_, rfl⟩
  have q : IntKind.u64.wrap a = (x : Int) := by rw [IntKind.wrap_u64]; omega
  have q2 : IntKind.u64.wrap (n : Int) = (n : Int) := by rw [IntKind.wrap_u64]; omega
  have hm := Nat.mod_lt x h0
  have hz : ((n : Int) == 0) = false := by simp; omega
  rw [← hx]
  have q3 : (x : Int) % (n : Int) = ((x % n : Nat) : Int) := by simp
  generalize hy : x % n = y at *
  have q4 : wrap64 (y : Int) = y := IntWalk.wrap64_in _ ⟨by omega, by omega⟩
  clear hy hx
  go_enter Try.func8, Try.ntmps8
  go_wp2
  go_ret
  exact ⟨rfl, rfl⟩
end Go.Proofs.Ytdbegdhbabfnoaa
