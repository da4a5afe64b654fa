/- The contracts of the clock's methods Right, Local and Real of package ticks; no condition. -/
import Derived.Test.YtgdljdhibknjnaaLib
import Derived.Test.YtgdljdhibknjnaaTp
import Derived.IntWalk
namespace Go.Proofs.Ytgdljdhibknjnaa
open Go.RowKit

def rightB (f s n d : Int) : Bool := decide (0 ≤ f ∧ f ≤ 1099511627776 ∧ -1099511627776 ≤ s ∧ s ≤ 1099511627776 ∧ 1 ≤ n ∧ n ≤ 1000000 ∧ 1 ≤ d ∧ d ≤ 1000000 ∧ n ≤ 2 * d ∧ d ≤ 2 * n)
abbrev clk (f s n d : Int) : Value := .agg #[.int .i64 f, .int .i64 s, .int .i64 n, .int .i64 d]

set_option maxRecDepth 100000 in
set_option maxHeartbeats 1000000 in
theorem right_any (f s n d : Int) (w : World) :
    Calls Try.prog 52 #[clk f s n d] w fun e w' => e = .returned (.bool (rightB f s n d)) ∧ w.alloc (.cells #[.int .i64 f, .int .i64 s, .int .i64 n, .int .i64 d] 36) = w' := by
  go_enter Try.func52, Try.ntmps52
  go_wp2
  all_goals (go_ret; exact ⟨ret_bool (by unfold rightB; symm; first | (apply decide_eq_false; omega) | (apply decide_eq_decide.2; omega)), rfl⟩)

theorem rightB_iff {f s n d : Int} (h : rightB f s n d = true) : 0 ≤ f ∧ f ≤ 1099511627776 ∧ -1099511627776 ≤ s ∧ s ≤ 1099511627776 ∧ 1 ≤ n ∧ n ≤ 1000000 ∧ 1 ≤ d ∧ d ≤ 1000000 ∧ n ≤ 2 * d ∧ d ≤ 2 * n := by simpa [rightB] using h

theorem local_wrap (f s n d t : Int) (hr : rightB f s n d = true) (h1 : f ≤ t) (h2 : t ≤ 1099511627776) :
    wrap64 (wrap64 (s + wrap64 ((t - f) / d * n)) + wrap64 ((wrap64 ((t - f) % d * n)).tdiv d)) = Tkp.localV f s n d t ∧ s ≤ Tkp.localV f s n d t ∧ Tkp.localV f s n d t ≤ 5000000000000 := by
  obtain ⟨r1, r2, r3, r4, r5, r6, r7, r8, r9, r10⟩ := rightB_iff hr
  obtain ⟨a, b, c, e, g, h, i, j⟩ := Tkp.part_le (t - f) n d (by omega) (by omega) r5 r6 r7 r8 r9
  have k0 : 0 ≤ (t - f) % d * n / d := Int.ediv_nonneg i (by omega)
  have k1 : (t - f) % d * n / d ≤ (t - f) % d * n := Int.ediv_le_self _ i
  rw [IntWalk.wrap64_in ((t - f) / d * n) ⟨by omega, by omega⟩, IntWalk.wrap64_in ((t - f) % d * n) ⟨by omega, by omega⟩, Int.tdiv_eq_ediv_of_nonneg i, IntWalk.wrap64_in ((t - f) % d * n / d) ⟨by omega, by omega⟩,
    IntWalk.wrap64_in (s + (t - f) / d * n) ⟨by omega, by omega⟩, IntWalk.wrap64_in (s + (t - f) / d * n + (t - f) % d * n / d) ⟨by omega, by omega⟩]
  exact ⟨rfl, by unfold Tkp.localV; omega, by unfold Tkp.localV; omega⟩

/-- Local's error: 0, 1 or 2. -/
def localE (f s n d t : Int) : Int := if rightB f s n d = false then 1 else if t < f ∨ 1099511627776 < t then 2 else if 1099511627776 < Tkp.localV f s n d t then 2 else 0

set_option maxRecDepth 100000 in
set_option maxHeartbeats 1000000 in
theorem local_ok (f s n d t : Int) (w : World) (h : localE f s n d t = 0) :
    Calls Try.prog 19 #[clk f s n d, .int .i64 t] w fun e w' => e = .returned (.tuple #[.int .i64 (Tkp.localV f s n d t), .nilIface]) ∧ Below w.heap.size w w' := by
  unfold localE at h
  by_cases hr : rightB f s n d = false
  · simp [hr] at h
  rw [if_neg hr] at h
  by_cases h1 : t < f ∨ 1099511627776 < t
  · simp [h1] at h
  rw [if_neg h1] at h
  by_cases h2 : 1099511627776 < Tkp.localV f s n d t
  · simp [h2] at h
  clear h
  have hr : rightB f s n d = true := by simpa using hr
  obtain ⟨r1, r2, r3, r4, r5, r6, r7, r8, r9, r10⟩ := rightB_iff hr
  obtain ⟨le, l0, l1⟩ := local_wrap f s n d t hr (by omega) (by omega)
  have t1 : f ≤ t := by omega
  have t2 : t ≤ 1099511627776 := by omega
  clear h1
  have HR := hide hr; clear hr
  have LE := hide le; clear le
  go_enter Try.func19, Try.ntmps19
  go_wp2_with (go_at_call 52; refine (right_any _ _ _ _ _).mono ?_; rw [HR.out]; rintro e w' ⟨rfl, rfl⟩)
  go_quiet (fail)
  rw [LE.out]
  go_wp2
  go_ret2
  exact ⟨rfl, below_drewN (((Below.refl _ _).alloc (Nat.le_refl _) _).alloc (by simp) _) _⟩

set_option maxRecDepth 100000 in
set_option maxHeartbeats 1000000 in
theorem local_bad (f s n d t : Int) (w : World) (h : localE f s n d t ≠ 0) :
    Calls Try.prog 19 #[clk f s n d, .int .i64 t] w fun e w' => e = .returned (.tuple #[.int .i64 0, .iface 110 (.int .i64 (localE f s n d t))]) ∧ Below w.heap.size w w' := by
  by_cases hr : rightB f s n d = false
  · have he : localE f s n d t = 1 := by simp [localE, hr]
    rw [he]
    have HR := hide hr; clear hr he h
    go_enter Try.func19, Try.ntmps19
    go_wp2_with (go_at_call 52; refine (right_any _ _ _ _ _).mono ?_; rw [HR.out]; rintro e w' ⟨rfl, rfl⟩)
    go_ret2
    exact ⟨rfl, ((Below.refl _ _).alloc (Nat.le_refl _) _).alloc (by simp) _⟩
  have hr : rightB f s n d = true := by simpa using hr
  obtain ⟨r1, r2, r3, r4, r5, r6, r7, r8, r9, r10⟩ := rightB_iff hr
  by_cases h1 : t < f ∨ 1099511627776 < t
  · have he : localE f s n d t = 2 := by simp [localE, hr, h1]
    rw [he]
    have HR := hide hr; clear hr he h
    rcases h1 with h1 | h1
    · go_enter Try.func19, Try.ntmps19
      go_wp2_with (go_at_call 52; refine (right_any _ _ _ _ _).mono ?_; rw [HR.out]; rintro e w' ⟨rfl, rfl⟩)
      go_ret2
      exact ⟨rfl, ((Below.refl _ _).alloc (Nat.le_refl _) _).alloc (by simp) _⟩
    · have h0 : f ≤ t := by omega
      go_enter Try.func19, Try.ntmps19
      go_wp2_with (go_at_call 52; refine (right_any _ _ _ _ _).mono ?_; rw [HR.out]; rintro e w' ⟨rfl, rfl⟩)
      go_ret2
      exact ⟨rfl, ((Below.refl _ _).alloc (Nat.le_refl _) _).alloc (by simp) _⟩
  have t1 : f ≤ t := by omega
  have t2 : t ≤ 1099511627776 := by omega
  by_cases h2 : 1099511627776 < Tkp.localV f s n d t
  · have he : localE f s n d t = 2 := by simp [localE, h2]; omega
    obtain ⟨le, l0, l1⟩ := local_wrap f s n d t hr (by omega) (by omega)
    rw [he]
    clear h1 he h
    have HR := hide hr; clear hr
    have LE := hide le; clear le
    go_enter Try.func19, Try.ntmps19
    go_wp2_with (go_at_call 52; refine (right_any _ _ _ _ _).mono ?_; rw [HR.out]; rintro e w' ⟨rfl, rfl⟩)
    go_quiet (fail)
    rw [LE.out]
    go_wp2
    go_ret2
    exact ⟨rfl, below_drewN (((Below.refl _ _).alloc (Nat.le_refl _) _).alloc (by simp) _) _⟩
  · exact absurd (by simp [localE, hr]; omega) h
end Go.Proofs.Ytgdljdhibknjnaa
