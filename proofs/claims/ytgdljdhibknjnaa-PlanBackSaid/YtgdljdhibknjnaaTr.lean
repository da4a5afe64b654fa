/- The contract of the clock's method Real of package ticks; no condition. -/
import Derived.Test.YtgdljdhibknjnaaTk
namespace Go.Proofs.Ytgdljdhibknjnaa
open Go.RowKit

theorem real_wrap (f s n d l : Int) (hr : rightB f s n d = true) (h1 : s < l) (h2 : l ≤ 1099511627776) :
    wrap64 (wrap64 ((l - s) / n * d) + wrap64 ((wrap64 (wrap64 (wrap64 ((l - s) % n * d) + n) - 1)).tdiv n)) = Tkp.waitV n d (l - s) ∧ 1 ≤ Tkp.waitV n d (l - s) ∧ Tkp.waitV n d (l - s) ≤ 6000000000000 := by
  obtain ⟨r1, r2, r3, r4, r5, r6, r7, r8, r9, r10⟩ := rightB_iff hr
  obtain ⟨a, b, c, e, g, h, i, j⟩ := Tkp.part_le (l - s) d n (by omega) (by omega) r7 r8 r5 r6 r10
  have k0 : 0 ≤ ((l - s) % n * d + n - 1) / n := Int.ediv_nonneg (by omega) (by omega)
  have k1 : ((l - s) % n * d + n - 1) / n ≤ (l - s) % n * d + n - 1 := Int.ediv_le_self _ (by omega)
  rw [IntWalk.wrap64_in ((l - s) / n * d) ⟨by omega, by omega⟩, IntWalk.wrap64_in ((l - s) % n * d) ⟨by omega, by omega⟩, IntWalk.wrap64_in ((l - s) % n * d + n) ⟨by omega, by omega⟩, IntWalk.wrap64_in ((l - s) % n * d + n - 1) ⟨by omega, by omega⟩,
    Int.tdiv_eq_ediv_of_nonneg (by omega), IntWalk.wrap64_in (((l - s) % n * d + n - 1) / n) ⟨by omega, by omega⟩,
    IntWalk.wrap64_in ((l - s) / n * d + ((l - s) % n * d + n - 1) / n) ⟨by omega, by omega⟩]
  exact ⟨rfl, Tkp.wait_one n d (l - s) r5 r7 (by omega), by unfold Tkp.waitV; omega⟩

/-- Real's error, and its answer. -/
def realE (f s n d l : Int) : Int := if rightB f s n d = false then 1 else if l < -1099511627776 ∨ 1099511627776 < l then 2 else if l ≤ s then 0 else if 1099511627776 < f + Tkp.waitV n d (l - s) then 2 else 0
def realV (f s n d l : Int) : Int := if l ≤ s then f else f + Tkp.waitV n d (l - s)

set_option maxRecDepth 100000 in
set_option maxHeartbeats 1000000 in
theorem real_ok (f s n d l : Int) (w : World) (h : realE f s n d l = 0) :
    Calls Try.prog 18 #[clk f s n d, .int .i64 l] w fun e w' => e = .returned (.tuple #[.int .i64 (realV f s n d l), .nilIface]) ∧ Below w.heap.size w w' := by
  unfold realE at h
  by_cases hr : rightB f s n d = false
  · simp [hr] at h
  rw [if_neg hr] at h
  by_cases h1 : l < -1099511627776 ∨ 1099511627776 < l
  · simp [h1] at h
  rw [if_neg h1] at h
  have hr : rightB f s n d = true := by simpa using hr
  obtain ⟨r1, r2, r3, r4, r5, r6, r7, r8, r9, r10⟩ := rightB_iff hr
  have t1 : -1099511627776 ≤ l := by omega
  have t2 : l ≤ 1099511627776 := by omega
  clear h1
  by_cases h2 : l ≤ s
  · have hv : realV f s n d l = f := by simp [realV, h2]
    rw [hv]
    have HR := hide hr; clear hr h hv
    go_enter Try.func18, Try.ntmps18
    go_wp2_with (go_at_call 52; refine (right_any _ _ _ _ _).mono ?_; rw [HR.out]; rintro e w' ⟨rfl, rfl⟩)
    go_ret2
    exact ⟨rfl, (((Below.refl _ _).alloc (Nat.le_refl _) _).alloc (by simp) _)⟩
  rw [if_neg h2] at h
  have hv : realV f s n d l = f + Tkp.waitV n d (l - s) := by simp [realV, h2]
  rw [hv]
  by_cases h3 : 1099511627776 < f + Tkp.waitV n d (l - s)
  · simp [h3] at h
  clear h
  obtain ⟨le, l0, l1⟩ := real_wrap f s n d l hr (by omega) (by omega)
  have HR := hide hr; clear hr hv
  have LE := hide le; clear le
  go_enter Try.func18, Try.ntmps18
  go_wp2_with (go_at_call 52; refine (right_any _ _ _ _ _).mono ?_; rw [HR.out]; rintro e w' ⟨rfl, rfl⟩)
  go_quiet (fail)
  rw [LE.out]
  go_wp2
  go_ret2
  exact ⟨rfl, below_drewN (((Below.refl _ _).alloc (Nat.le_refl _) _).alloc (by simp) _) _⟩

set_option maxRecDepth 100000 in
set_option maxHeartbeats 1000000 in
theorem real_bad (f s n d l : Int) (w : World) (h : realE f s n d l ≠ 0) :
    Calls Try.prog 18 #[clk f s n d, .int .i64 l] w fun e w' => e = .returned (.tuple #[.int .i64 0, .iface 110 (.int .i64 (realE f s n d l))]) ∧ Below w.heap.size w w' := by
  by_cases hr : rightB f s n d = false
  · have he : realE f s n d l = 1 := by simp [realE, hr]
    rw [he]
    have HR := hide hr; clear hr he h
    go_enter Try.func18, Try.ntmps18
    go_wp2_with (go_at_call 52; refine (right_any _ _ _ _ _).mono ?_; rw [HR.out]; rintro e w' ⟨rfl, rfl⟩)
    go_ret2
    exact ⟨rfl, ((Below.refl _ _).alloc (Nat.le_refl _) _).alloc (by simp) _⟩
  have hr : rightB f s n d = true := by simpa using hr
  obtain ⟨r1, r2, r3, r4, r5, r6, r7, r8, r9, r10⟩ := rightB_iff hr
  by_cases h1 : l < -1099511627776 ∨ 1099511627776 < l
  · have he : realE f s n d l = 2 := by simp [realE, hr, h1]
    rw [he]
    have HR := hide hr; clear hr he h
    rcases h1 with h1 | h1
    · go_enter Try.func18, Try.ntmps18
      go_wp2_with (go_at_call 52; refine (right_any _ _ _ _ _).mono ?_; rw [HR.out]; rintro e w' ⟨rfl, rfl⟩)
      go_ret2
      exact ⟨rfl, ((Below.refl _ _).alloc (Nat.le_refl _) _).alloc (by simp) _⟩
    · have h0 : -1099511627776 ≤ l := by omega
      go_enter Try.func18, Try.ntmps18
      go_wp2_with (go_at_call 52; refine (right_any _ _ _ _ _).mono ?_; rw [HR.out]; rintro e w' ⟨rfl, rfl⟩)
      go_ret2
      exact ⟨rfl, ((Below.refl _ _).alloc (Nat.le_refl _) _).alloc (by simp) _⟩
  have t1 : -1099511627776 ≤ l := by omega
  have t2 : l ≤ 1099511627776 := by omega
  by_cases h2 : l ≤ s
  · exact absurd (by simp [realE, hr, h2]; omega) h
  by_cases h3 : 1099511627776 < f + Tkp.waitV n d (l - s)
  · have he : realE f s n d l = 2 := by simp [realE, hr, h2, h3]
    obtain ⟨le, l0, l1⟩ := real_wrap f s n d l hr (by omega) (by omega)
    rw [he]
    clear h1 he h
    have HR := hide hr; clear hr
    have LE := hide le; clear le
    go_enter Try.func18, Try.ntmps18
    go_wp2_with (go_at_call 52; refine (right_any _ _ _ _ _).mono ?_; rw [HR.out]; rintro e w' ⟨rfl, rfl⟩)
    go_quiet (fail)
    rw [LE.out]
    go_wp2
    go_ret2
    exact ⟨rfl, below_drewN (((Below.refl _ _).alloc (Nat.le_refl _) _).alloc (by simp) _) _⟩
  · exact absurd (by simp [realE, hr, h2, h3]; omega) h
end Go.Proofs.Ytgdljdhibknjnaa
