/- The contract of frame.right; no condition. -/
import Derived.Test.YtdbegdhbabfnoaaSm
namespace Go.Proofs.Ytdbegdhbabfnoaa
open Go.RowKit

abbrev frV (nd sl mb lk sq : Int) (d : ByteArray) : Value := .agg #[.int .i64 nd, .int .i64 sl, .int .i64 mb, .int .i64 lk, .int .i64 sq, .string d]
abbrev frC (nd sl mb lk sq : Int) (d : ByteArray) : Array Value := #[.int .i64 nd, .int .i64 sl, .int .i64 mb, .int .i64 lk, .int .i64 sq, .string d]
def fOk (nd sl mb lk sq : Int) (n : Nat) : Bool := decide ((0 ≤ nd ∧ nd < 16 ∧ 0 ≤ sl ∧ sl < 32 ∧ 0 ≤ mb ∧ mb < 65536) ∧ ((lk = -1 ∧ sq = 0 ∧ n = 0) ∨ (0 ≤ lk ∧ lk < 8 ∧ 0 ≤ sq ∧ sq < 256 ∧ n ≤ 40)))

theorem size_empty {d : ByteArray} (h : d.size = 0) : d = ⟨#[]⟩ := by
  obtain ⟨a⟩ := d
  have : a = #[] := Array.eq_empty_of_size_eq_zero h
  rw [this]
theorem list_size (d : ByteArray) : d.toList.length = d.size := by rw [ByteArray.toList_eq, Array.length_toList]; rfl

set_option maxRecDepth 100000 in
set_option maxHeartbeats 1000000 in
theorem fright_any (nd sl mb lk sq : Int) (d : ByteArray) (w : World) (hd : d.size ≤ 9223372036854775807) :
    Calls Try.prog 9 #[frV nd sl mb lk sq d] w fun e w' => e = .returned (.bool (fOk nd sl mb lk sq d.size)) ∧ w.alloc (.cells (frC nd sl mb lk sq d) 23) = w' := by
  by_cases h0 : d.size = 0
  · obtain rfl := size_empty h0
    rw [h0]
    clear h0 hd
    go_enter Try.func9, Try.ntmps9
    go_wp2
    all_goals
      go_ret
      exact ⟨ret_bool (by unfold fOk; symm; first | (apply decide_eq_false; omega) | (apply decide_eq_true; omega) | (apply decide_eq_decide.2; omega)), by first | rfl | (subst_vars; rfl)⟩
  · have hl : d.toList.isEmpty = false := by
      have := list_size d
      cases h : d.toList with
      | nil => rw [h] at this; simp at this; omega
      | cons a b => rfl
    have hl2 : (d.toList == []) = false := by
      cases h : d.toList with
      | nil => rw [h] at hl; simp at hl
      | cons a b => rfl
    go_enter Try.func9, Try.ntmps9
    go_wp2
    all_goals
      go_ret
      exact ⟨ret_bool (by unfold fOk; symm; first | (apply decide_eq_false; omega) | (apply decide_eq_true; omega) | (apply decide_eq_decide.2; omega)), by first | rfl | (subst_vars; rfl)⟩
end Go.Proofs.Ytdbegdhbabfnoaa
