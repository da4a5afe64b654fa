/- Plain facts on clocks that go by a fraction; no Go in sight. -/
import Derived.Test.YtideefjnlakciaaGreatDoorP01
import Derived.Test.YtideefjnlakciaaGreatDoorP04
import Derived.Test.YtideefjnlakciaaGreatDoorP03
import Derived.Test.YtideefjnlakciaaGreatDoorP10
import Derived.Test.YtideefjnlakciaaGreatDoorP15
import Derived.IntWalk
import Derived.Lib.AtoiAll
import Derived.Lib.ItoaNum
import Derived.Lib.Join
import Derived.Lib.FieldsP
set_option linter.unusedVariables false
set_option linter.unusedSimpArgs false
namespace Go.Proofs.YtideefjnlakciaaGreatDoor.Tkp
def localV (f s n d t : Int) : Int := s + (t - f) / d * n + (t - f) % d * n / d
def waitV (n d k : Int) : Int := k / n * d + (k % n * d + n - 1) / n
theorem waitV_eq (n d k : Int) (hn : 1 ≤ n) : waitV n d k = (k * d + n - 1) / n := by
 unfold waitV
 have h : k * d + n - 1 = (k % n * d + n - 1) + (k / n * d) * n := by
  have := Int.emod_add_mul_ediv k n
  have h2 : k * d = k % n * d + (k / n * d) * n := by
   calc k * d = (k % n + n * (k / n)) * d := by rw [this]
    _ = k % n * d + (k / n * d) * n := by rw [Int.add_mul, Int.mul_assoc, Int.mul_comm n]
  omega
 rw [h, Int.add_mul_ediv_right _ _ (by omega)]
 omega
theorem wait_nonneg (n d k : Int) (hn : 1 ≤ n) (hd : 1 ≤ d) (hk : 0 ≤ k) : 0 ≤ waitV n d k := by
 rw [waitV_eq _ _ _ hn]
 have : 0 ≤ k * d := Int.mul_nonneg hk (by omega)
 exact Int.ediv_nonneg (by omega) (by omega)
theorem wait_one (n d k : Int) (hn : 1 ≤ n) (hd : 1 ≤ d) (hk : 1 ≤ k) : 1 ≤ waitV n d k := by
 rw [waitV_eq _ _ _ hn]
 have : 1 * 1 ≤ k * d := Int.mul_le_mul (by omega) (by omega) (by omega) (by omega)
 rw [Int.le_ediv_iff_mul_le (by omega)]
 omega
theorem part_le (x n d : Int) (hx : 0 ≤ x) (_hx' : x ≤ 4398046511104) (hn : 1 ≤ n) (hn' : n ≤ 1000000) (hd : 1 ≤ d) (hd' : d ≤ 1000000) (h2 : n ≤ 2 * d) :
 0 ≤ x / d ∧ x / d ≤ x ∧ 0 ≤ x / d * n ∧ x / d * n ≤ 2 * x ∧ 0 ≤ x % d ∧ x % d < d ∧ 0 ≤ x % d * n ∧ x % d * n ≤ 1000000000000 := by
 have a := Int.ediv_nonneg hx (by omega : 0 ≤ d)
 have b := Int.emod_nonneg x (by omega : d ≠ 0)
 have c := Int.emod_lt_of_pos x (by omega : 0 < d)
 have e := Int.emod_add_mul_ediv x d
 have m1 : x / d * n ≤ x / d * (2 * d) := Int.mul_le_mul_of_nonneg_left h2 a
 have m2 : x / d * (2 * d) = 2 * (d * (x / d)) := by rw [Int.mul_left_comm, Int.mul_comm (x / d) d]
 have m3 : x % d * n ≤ 1000000 * 1000000 := Int.mul_le_mul (by omega) hn' (by omega) (by omega)
 have m4 : 1 * (x / d) ≤ d * (x / d) := Int.mul_le_mul_of_nonneg_right hd a
 refine ⟨a, by omega, Int.mul_nonneg a (by omega), by omega, b, c, Int.mul_nonneg b (by omega), by omega⟩
end Go.Proofs.YtideefjnlakciaaGreatDoor.Tkp
namespace Go.Proofs.YtideefjnlakciaaGreatDoor
section
open Go.RowKit
def rightB (f s n d : Int) : Bool := decide (0 ≤ f ∧ f ≤ 1099511627776 ∧ -1099511627776 ≤ s ∧ s ≤ 1099511627776 ∧ 1 ≤ n ∧ n ≤ 1000000 ∧ 1 ≤ d ∧ d ≤ 1000000 ∧ n ≤ 2 * d ∧ d ≤ 2 * n)
abbrev clk (f s n d : Int) : Value := .agg #[.int .i64 f, .int .i64 s, .int .i64 n, .int .i64 d]
set_option maxRecDepth 100000 in
set_option maxHeartbeats 1000000 in
theorem right_any (f s n d : Int) (w : World) :
 Calls Tryz.prog 131 #[clk f s n d] w fun e w' => e = .returned (.bool (rightB f s n d)) ∧ w.alloc (.cells #[.int .i64 f, .int .i64 s, .int .i64 n, .int .i64 d] 166) = w' := by
 go_enter Tryz.func131, Tryz.ntmps131
 go_wp2
 all_goals (go_ret; exact ⟨ret_bool (by unfold rightB; symm; first | (apply decide_eq_false; omega) | (apply decide_eq_decide.2; omega)), rfl⟩)
theorem rightB_iff {f s n d : Int} (h : rightB f s n d = true) : 0 ≤ f ∧ f ≤ 1099511627776 ∧ -1099511627776 ≤ s ∧ s ≤ 1099511627776 ∧ 1 ≤ n ∧ n ≤ 1000000 ∧ 1 ≤ d ∧ d ≤ 1000000 ∧ n ≤ 2 * d ∧ d ≤ 2 * n := by simpa [rightB] using h
theorem local_wrap (f s n d t : Int) (hr : rightB f s n d = true) (h1 : f ≤ t) (h2 : t ≤ 1099511627776) :
 wrap64 (wrap64 (s + wrap64 ((t - f) / d * n)) + wrap64 ((wrap64 ((t - f) % d * n)).tdiv d)) = Tkp.localV f s n d t ∧ s ≤ Tkp.localV f s n d t ∧ Tkp.localV f s n d t ≤ 5000000000000 := by
 obtain ⟨r1, r2, r3, r4, r5, r6, r7, r8, r9, r10⟩ := rightB_iff hr
 obtain ⟨a, b, c, e, g, h, i, j⟩ := Tkp.part_le (t - f) n d (by omega) (by omega) r5 r6 r7 r8 r9
 have k0 : 0 ≤ (t - f) % d * n / d := Int.ediv_nonneg i (by omega)
 have k1 : (t - f) % d * n / d ≤ (t - f) % d * n := Int.ediv_le_self _ i
 rw [IntWalk.wrap64_in ((t - f) / d * n) ⟨by omega, by omega⟩, IntWalk.wrap64_in ((t - f) % d * n) ⟨by omega, by omega⟩, Int.tdiv_eq_ediv_of_nonneg i, IntWalk.wrap64_in ((t - f) % d * n / d) ⟨by omega, by omega⟩,
  IntWalk.wrap64_in (s + (t - f) / d * n) ⟨by omega, by omega⟩, IntWalk.wrap64_in (s + (t - f) / d * n + (t - f) % d * n / d) ⟨by omega, by omega⟩]
 exact ⟨rfl, by unfold Tkp.localV; omega, by unfold Tkp.localV; omega⟩
def localE (f s n d t : Int) : Int := if rightB f s n d = false then 1 else if t < f ∨ 1099511627776 < t then 2 else if 1099511627776 < Tkp.localV f s n d t then 2 else 0
set_option maxRecDepth 100000 in
set_option maxHeartbeats 1000000 in
theorem local_ok (f s n d t : Int) (w : World) (h : localE f s n d t = 0) :
 Calls Tryz.prog 98 #[clk f s n d, .int .i64 t] w fun e w' => e = .returned (.tuple #[.int .i64 (Tkp.localV f s n d t), .nilIface]) ∧ Below w.heap.size w w' := by
 unfold localE at h
 by_cases hr : rightB f s n d = false
 ·simp [hr] at h
 rw [if_neg hr] at h
 by_cases h1 : t < f ∨ 1099511627776 < t
 ·simp [h1] at h
 rw [if_neg h1] at h
 by_cases h2 : 1099511627776 < Tkp.localV f s n d t
 ·simp [h2] at h
 clear h
 have hr : rightB f s n d = true := by simpa using hr
 obtain ⟨r1, r2, r3, r4, r5, r6, r7, r8, r9, r10⟩ := rightB_iff hr
 obtain ⟨le, l0, l1⟩ := local_wrap f s n d t hr (by omega) (by omega)
 have t1 : f ≤ t := by omega
 have t2 : t ≤ 1099511627776 := by omega
 clear h1
 have HR := hide hr; clear hr
 have LE := hide le; clear le
 go_enter Tryz.func98, Tryz.ntmps98
 go_wp2_with (go_at_call 131; refine (right_any _ _ _ _ _).mono ?_; rw [HR.out]; rintro e w' ⟨rfl, rfl⟩)
 go_quiet (fail)
 rw [LE.out]
 go_wp2
 go_ret2
 exact ⟨rfl, below_drewN (((Below.refl _ _).alloc (Nat.le_refl _) _).alloc (by simp) _) _⟩
set_option maxRecDepth 100000 in
set_option maxHeartbeats 1000000 in
theorem local_bad (f s n d t : Int) (w : World) (h : localE f s n d t ≠ 0) :
 Calls Tryz.prog 98 #[clk f s n d, .int .i64 t] w fun e w' => e = .returned (.tuple #[.int .i64 0, .iface 61 (.int .i64 (localE f s n d t))]) ∧ Below w.heap.size w w' := by
 by_cases hr : rightB f s n d = false
 ·have he : localE f s n d t = 1 := by simp [localE, hr]
  rw [he]
  have HR := hide hr; clear hr he h
  go_enter Tryz.func98, Tryz.ntmps98
  go_wp2_with (go_at_call 131; refine (right_any _ _ _ _ _).mono ?_; rw [HR.out]; rintro e w' ⟨rfl, rfl⟩)
  go_ret2
  exact ⟨rfl, ((Below.refl _ _).alloc (Nat.le_refl _) _).alloc (by simp) _⟩
 have hr : rightB f s n d = true := by simpa using hr
 obtain ⟨r1, r2, r3, r4, r5, r6, r7, r8, r9, r10⟩ := rightB_iff hr
 by_cases h1 : t < f ∨ 1099511627776 < t
 ·have he : localE f s n d t = 2 := by simp [localE, hr, h1]
  rw [he]
  have HR := hide hr; clear hr he h
  rcases h1 with h1 | h1
  ·go_enter Tryz.func98, Tryz.ntmps98
   go_wp2_with (go_at_call 131; refine (right_any _ _ _ _ _).mono ?_; rw [HR.out]; rintro e w' ⟨rfl, rfl⟩)
   go_ret2
   exact ⟨rfl, ((Below.refl _ _).alloc (Nat.le_refl _) _).alloc (by simp) _⟩
  ·have h0 : f ≤ t := by omega
   go_enter Tryz.func98, Tryz.ntmps98
   go_wp2_with (go_at_call 131; refine (right_any _ _ _ _ _).mono ?_; rw [HR.out]; rintro e w' ⟨rfl, rfl⟩)
   go_ret2
   exact ⟨rfl, ((Below.refl _ _).alloc (Nat.le_refl _) _).alloc (by simp) _⟩
 have t1 : f ≤ t := by omega
 have t2 : t ≤ 1099511627776 := by omega
 by_cases h2 : 1099511627776 < Tkp.localV f s n d t
 ·have he : localE f s n d t = 2 := by simp [localE, h2]; omega
  obtain ⟨le, l0, l1⟩ := local_wrap f s n d t hr (by omega) (by omega)
  rw [he]
  clear h1 he h
  have HR := hide hr; clear hr
  have LE := hide le; clear le
  go_enter Tryz.func98, Tryz.ntmps98
  go_wp2_with (go_at_call 131; refine (right_any _ _ _ _ _).mono ?_; rw [HR.out]; rintro e w' ⟨rfl, rfl⟩)
  go_quiet (fail)
  rw [LE.out]
  go_wp2
  go_ret2
  exact ⟨rfl, below_drewN (((Below.refl _ _).alloc (Nat.le_refl _) _).alloc (by simp) _) _⟩
 ·exact absurd (by simp [localE, hr]; omega) h
end
section
open Go.RowKit
theorem real_wrap (f s n d l : Int) (hr : rightB f s n d = true) (h1 : s < l) (h2 : l ≤ 1099511627776) :
 wrap64 (wrap64 ((l - s) / n * d) + wrap64 ((wrap64 (wrap64 (wrap64 ((l - s) % n * d) + n) - 1)).tdiv n)) = Tkp.waitV n d (l - s) ∧ 1 ≤ Tkp.waitV n d (l - s) ∧ Tkp.waitV n d (l - s) ≤ 6000000000000 := by
 obtain ⟨r1, r2, r3, r4, r5, r6, r7, r8, r9, r10⟩ := rightB_iff hr
 obtain ⟨a, b, c, e, g, h, i, j⟩ := Tkp.part_le (l - s) d n (by omega) (by omega) r7 r8 r5 r6 r10
 have k0 : 0 ≤ ((l - s) % n * d + n - 1) / n := Int.ediv_nonneg (by omega) (by omega)
 have k1 : ((l - s) % n * d + n - 1) / n ≤ (l - s) % n * d + n - 1 := Int.ediv_le_self _ (by omega)
 rw [IntWalk.wrap64_in ((l - s) / n * d) ⟨by omega, by omega⟩, IntWalk.wrap64_in ((l - s) % n * d) ⟨by omega, by omega⟩, IntWalk.wrap64_in ((l - s) % n * d + n) ⟨by omega, by omega⟩, IntWalk.wrap64_in ((l - s) % n * d + n - 1) ⟨by omega, by omega⟩,
  Int.tdiv_eq_ediv_of_nonneg (by omega), IntWalk.wrap64_in (((l - s) % n * d + n - 1) / n) ⟨by omega, by omega⟩,
  IntWalk.wrap64_in ((l - s) / n * d + ((l - s) % n * d + n - 1) / n) ⟨by omega, by omega⟩]
 exact ⟨rfl, Tkp.wait_one n d (l - s) r5 r7 (by omega), by unfold Tkp.waitV; omega⟩
def realE (f s n d l : Int) : Int := if rightB f s n d = false then 1 else if l < -1099511627776 ∨ 1099511627776 < l then 2 else if l ≤ s then 0 else if 1099511627776 < f + Tkp.waitV n d (l - s) then 2 else 0
def realV (f s n d l : Int) : Int := if l ≤ s then f else f + Tkp.waitV n d (l - s)
set_option maxRecDepth 100000 in
set_option maxHeartbeats 1000000 in
theorem real_ok (f s n d l : Int) (w : World) (h : realE f s n d l = 0) :
 Calls Tryz.prog 102 #[clk f s n d, .int .i64 l] w fun e w' => e = .returned (.tuple #[.int .i64 (realV f s n d l), .nilIface]) ∧ Below w.heap.size w w' := by
 unfold realE at h
 by_cases hr : rightB f s n d = false
 ·simp [hr] at h
 rw [if_neg hr] at h
 by_cases h1 : l < -1099511627776 ∨ 1099511627776 < l
 ·simp [h1] at h
 rw [if_neg h1] at h
 have hr : rightB f s n d = true := by simpa using hr
 obtain ⟨r1, r2, r3, r4, r5, r6, r7, r8, r9, r10⟩ := rightB_iff hr
 have t1 : -1099511627776 ≤ l := by omega
 have t2 : l ≤ 1099511627776 := by omega
 clear h1
 by_cases h2 : l ≤ s
 ·have hv : realV f s n d l = f := by simp [realV, h2]
  rw [hv]
  have HR := hide hr; clear hr h hv
  go_enter Tryz.func102, Tryz.ntmps102
  go_wp2_with (go_at_call 131; refine (right_any _ _ _ _ _).mono ?_; rw [HR.out]; rintro e w' ⟨rfl, rfl⟩)
  go_ret2
  exact ⟨rfl, (((Below.refl _ _).alloc (Nat.le_refl _) _).alloc (by simp) _)⟩
 rw [if_neg h2] at h
 have hv : realV f s n d l = f + Tkp.waitV n d (l - s) := by simp [realV, h2]
 rw [hv]
 by_cases h3 : 1099511627776 < f + Tkp.waitV n d (l - s)
 ·simp [h3] at h
 clear h
 obtain ⟨le, l0, l1⟩ := real_wrap f s n d l hr (by omega) (by omega)
 have HR := hide hr; clear hr hv
 have LE := hide le; clear le
 go_enter Tryz.func102, Tryz.ntmps102
 go_wp2_with (go_at_call 131; refine (right_any _ _ _ _ _).mono ?_; rw [HR.out]; rintro e w' ⟨rfl, rfl⟩)
 go_quiet (fail)
 rw [LE.out]
 go_wp2
 go_ret2
 exact ⟨rfl, below_drewN (((Below.refl _ _).alloc (Nat.le_refl _) _).alloc (by simp) _) _⟩
set_option maxRecDepth 100000 in
set_option maxHeartbeats 1000000 in
theorem real_bad (f s n d l : Int) (w : World) (h : realE f s n d l ≠ 0) :
 Calls Tryz.prog 102 #[clk f s n d, .int .i64 l] w fun e w' => e = .returned (.tuple #[.int .i64 0, .iface 61 (.int .i64 (realE f s n d l))]) ∧ Below w.heap.size w w' := by
 by_cases hr : rightB f s n d = false
 ·have he : realE f s n d l = 1 := by simp [realE, hr]
  rw [he]
  have HR := hide hr; clear hr he h
  go_enter Tryz.func102, Tryz.ntmps102
  go_wp2_with (go_at_call 131; refine (right_any _ _ _ _ _).mono ?_; rw [HR.out]; rintro e w' ⟨rfl, rfl⟩)
  go_ret2
  exact ⟨rfl, ((Below.refl _ _).alloc (Nat.le_refl _) _).alloc (by simp) _⟩
 have hr : rightB f s n d = true := by simpa using hr
 obtain ⟨r1, r2, r3, r4, r5, r6, r7, r8, r9, r10⟩ := rightB_iff hr
 by_cases h1 : l < -1099511627776 ∨ 1099511627776 < l
 ·have he : realE f s n d l = 2 := by simp [realE, hr, h1]
  rw [he]
  have HR := hide hr; clear hr he h
  rcases h1 with h1 | h1
  ·go_enter Tryz.func102, Tryz.ntmps102
   go_wp2_with (go_at_call 131; refine (right_any _ _ _ _ _).mono ?_; rw [HR.out]; rintro e w' ⟨rfl, rfl⟩)
   go_ret2
   exact ⟨rfl, ((Below.refl _ _).alloc (Nat.le_refl _) _).alloc (by simp) _⟩
  ·have h0 : -1099511627776 ≤ l := by omega
   go_enter Tryz.func102, Tryz.ntmps102
   go_wp2_with (go_at_call 131; refine (right_any _ _ _ _ _).mono ?_; rw [HR.out]; rintro e w' ⟨rfl, rfl⟩)
   go_ret2
   exact ⟨rfl, ((Below.refl _ _).alloc (Nat.le_refl _) _).alloc (by simp) _⟩
 have t1 : -1099511627776 ≤ l := by omega
 have t2 : l ≤ 1099511627776 := by omega
 by_cases h2 : l ≤ s
 ·exact absurd (by simp [realE, hr, h2]; omega) h
 by_cases h3 : 1099511627776 < f + Tkp.waitV n d (l - s)
 ·have he : realE f s n d l = 2 := by simp [realE, hr, h2, h3]
  obtain ⟨le, l0, l1⟩ := real_wrap f s n d l hr (by omega) (by omega)
  rw [he]
  clear h1 he h
  have HR := hide hr; clear hr
  have LE := hide le; clear le
  go_enter Tryz.func102, Tryz.ntmps102
  go_wp2_with (go_at_call 131; refine (right_any _ _ _ _ _).mono ?_; rw [HR.out]; rintro e w' ⟨rfl, rfl⟩)
  go_quiet (fail)
  rw [LE.out]
  go_wp2
  go_ret2
  exact ⟨rfl, below_drewN (((Below.refl _ _).alloc (Nat.le_refl _) _).alloc (by simp) _) _⟩
 ·exact absurd (by simp [realE, hr, h2, h3]; omega) h
end
section
open Go.RowKit
def localN (f s n d t : Int) : Int := if localE f s n d t = 0 then Tkp.localV f s n d t else 0
theorem local_any (f s n d t : Int) (w : World) :
 Calls Tryz.prog 98 #[clk f s n d, .int .i64 t] w fun e w' => e = .returned (.tuple #[.int .i64 (localN f s n d t), errV (localE f s n d t)]) ∧ Below w.heap.size w w' := by
 by_cases h : localE f s n d t = 0
 ·refine (local_ok f s n d t w h).mono fun e w' ⟨he, hb⟩ => ⟨?_, hb⟩
  rw [he, localN, errV, if_pos h, if_pos h]
 ·refine (local_bad f s n d t w h).mono fun e w' ⟨he, hb⟩ => ⟨?_, hb⟩
  rw [he, localN, errV, if_neg h, if_neg h]
def realN (f s n d t : Int) : Int := if realE f s n d t = 0 then realV f s n d t else 0
theorem real_any (f s n d t : Int) (w : World) :
 Calls Tryz.prog 102 #[clk f s n d, .int .i64 t] w fun e w' => e = .returned (.tuple #[.int .i64 (realN f s n d t), errV (realE f s n d t)]) ∧ Below w.heap.size w w' := by
 by_cases h : realE f s n d t = 0
 ·refine (real_ok f s n d t w h).mono fun e w' ⟨he, hb⟩ => ⟨?_, hb⟩
  rw [he, realN, errV, if_pos h, if_pos h]
 ·refine (real_bad f s n d t w h).mono fun e w' ⟨he, hb⟩ => ⟨?_, hb⟩
  rw [he, realN, errV, if_neg h, if_neg h]
theorem realN_bd (f s n d l : Int) : 0 ≤ realN f s n d l ∧ realN f s n d l ≤ 1099511627776 := by
 unfold realN
 by_cases h : realE f s n d l = 0
 ·rw [if_pos h]
  unfold realE at h
  by_cases hr : rightB f s n d = false
  ·simp [hr] at h
  rw [if_neg hr] at h
  have hr : rightB f s n d = true := by simpa using hr
  obtain ⟨r1, r2, r3, r4, r5, r6, r7, r8, r9, r10⟩ := rightB_iff hr
  by_cases h1 : l < -1099511627776 ∨ 1099511627776 < l
  ·simp [h1] at h
  rw [if_neg h1] at h
  unfold realV
  by_cases h2 : l ≤ s
  ·rw [if_pos h2]; omega
  ·rw [if_neg h2] at h ⊢
   have := Tkp.wait_nonneg n d (l - s) r5 r7 (by omega)
   by_cases h3 : 1099511627776 < f + Tkp.waitV n d (l - s)
   ·simp [h3] at h
   ·omega
 ·rw [if_neg h]; omega
end
section
open Go.RowKit
def PutPost (w : World) (base : Nat) (v : Value) (l : List Nat) (r : Ending) (w' : World) : Prop := ∃ v', r = .returned v' ∧ QAt w' base 5 v' (bvN l) ∧ OwnTo w w' v v'
section
variable (base : Nat) (v : Value) (l : List Nat) (A : Option Addr) (n c : Nat) (zs : List Nat)
set_option maxRecDepth 100000 in
set_option maxHeartbeats 4000000 in
theorem put_any (w : World) (hQ : QAt w base 5 v (bvN l)) (hv : ∀ k, v.ownBlock = some k → k < w.heap.size) (hbase : base ≤ w.heap.size) (hN : NumsAt w A n zs) (hz : zs.length = n) (hA : ∀ b off, A = some ⟨b, off, none⟩ → v.ownBlock ≠ some b) (hb : ∀ z ∈ zs, z < 9223372036854775808) (hlen : l.length + 10 * n ≤ 100000) (hl2 : ∀ z ∈ zs, (vnum z).length ≤ 10) :
 Calls Tryz.prog 130 #[v, .slice A n c] w (PutPost w base v (l ++ vnums zs)) := by
 have hn : n ≤ 100000 := by omega
 have HQ := hide hQ; have HV := hide hv; have HBA := hide hbase; have HN := hide hN; have HZ := hide hz; have HA := hide hA; have HB := hide hb; have HL := hide hlen; have HL2 := hide hl2
 obtain ⟨i0, hi, hz0, hz1, hz2⟩ := en_info_parts en_u8_info
 clear hQ hv hbase hN hz hA hb hlen hl2
 go_enter Tryz.func130, Tryz.ntmps130
 go_wp2_with fail
 go_loopw [0, 6, 9] (fun b _ i wr => ∃ k : Nat, k ≤ n ∧ i = .int .i64 k ∧ Hid (QAt wr base 5 b (bvN (l ++ vnums (zs.take k))) ∧ OwnTo w wr v b)) (fun _ _ i _ => n - (intOf i).toNat)
 case atStart => exact ⟨0, by omega, rfl, hide ⟨by simpa [vnums_nil] using HQ.out, OwnTo.refl w v HV.out⟩⟩
 case round =>
  obtain ⟨k, hk, rfl, HI⟩ := hrel
  by_cases hlt : k < n
  ·obtain ⟨bl, off, rfl, c0⟩ := HN.out k hlt
   have hbl := World.block_lt_of_cell? _ _ c0
   obtain ⟨z, hz⟩ : ∃ z, zs.getD k 0 = z := ⟨_, rfl⟩
   have k0 : wr.cell? ⟨bl, off + k, none⟩ = some (.int .i64 (z : Nat)) := by
    rw [← hz, ← c0]
    have := HI.out.2.1.block bl hbl (fun e => HA.out bl off rfl e.symm)
    unfold World.cell?; simp only [this]
   have hmem : z ∈ zs := by rw [← hz]; simp [show k < zs.length by rw [HZ.out]; exact hlt]
   have hz63 : z < 9223372036854775808 := HB.out z hmem
   have hz10 : (vnum z).length ≤ 10 := HL2.out z hmem
   have HZK := hide hz
   obtain ⟨pk, hpk⟩ : ∃ pk, l ++ vnums (zs.take k) = pk := ⟨_, rfl⟩
   have hpl : pk.length ≤ l.length + 10 * k := by
    rw [← hpk, List.length_append]
    have := vnums_len10 (zs.take k) (fun x hx => HL2.out x (List.mem_of_mem_take hx))
    rw [List.length_take] at this; omega
   have HPL := hide hpl
   rw [hpk] at HI
   have HPK := hide hpk
   clear c0 hz hmem hpk hpl
   go_wp2_with fail
   obtain ⟨wo, rfl⟩ : ∃ wo : World, wo = wr := ⟨_, rfl⟩
   go_loopw [0, 6] (fun b m wr => ∃ (x : Nat) (pre : List Nat), m = .int .i64 x ∧ x < 9223372036854775808 ∧ Hid (QAt wr base 5 b (bvN pre) ∧ OwnTo w wr v b ∧ pre ++ vnum x = pk ++ vnum z)) (fun _ m _ => (intOf m).toNat)
   case atStart => exact ⟨z, pk, rfl, hz63, hide ⟨HI.out.1, HI.out.2, rfl⟩⟩
   case round =>
    obtain ⟨x, pre, rfl, hx, HJ⟩ := hrel
    obtain ⟨ao, cc, hvv, -⟩ := HJ.out.1.shape
    rw [bvN_len] at hvv
    subst hvv
    have HPRE := hide (show pre.length ≤ 100010 by have h := congrArg List.length HJ.out.2.2; simp only [List.length_append] at h; have := HPL.out; have := HL.out; omega)
    by_cases h128 : x < 128
    ·have e2 : (x : Int) % 256 = (x : Int) := by omega
     go_wp2_with (at_builtin; go_must (refine wpList_append_q _ rfl (.tmp 23) (.tmp 26) _ rfl base 5 i0 _ 1 Tryz.underlying40 hi hz0 hz1 hz2 rfl (.slice ao pre.length cc) (bvN pre) rfl (by exact HJ.out.1.alloc _) wr.heap.size 0 1 (.int .u8 (x : Int)) rfl (by exact (Blk.new wr 5 #[.int .u8 (x : Int)]).cells1.1) rfl (by have := HPRE.out; simp [maxLen, bvN_len]; omega) (by have := HPRE.out; simp [bvN_len]; omega) (by have := HBA.out; have := HJ.out.2.1.1.size; simp; omega) ?_); intro g1 o1 cap1 w3 hQ3 hgr ho hb1 hlt1; have HQ3 := hide hQ3; have HO3 : Hid (OwnTo w w3 v (.slice (some ⟨g1, o1, none⟩) ((bvN pre).length + 1) cap1)) := hide ((HJ.out.2.1.alloc _).trans ⟨hgr, own_of ho hlt1⟩); clear hQ3 hgr ho hb1 hlt1)
     go_roundw
     case rel => exact ⟨k + 1, by omega, by go_num, hide ⟨by rw [vnums_take zs k (by rw [HZ.out]; exact hlt), HZK.out, ← List.append_assoc, HPK.out, ← HJ.out.2.2, vnum_small h128, bvN_snoc]; exact HQ3.out, HO3.out⟩⟩
     case measure => simp [intOf]; omega
    ·obtain ⟨y, hy⟩ : ∃ y, x % 128 + 128 = y := ⟨_, rfl⟩
     have e1 := vbyte x
     rw [IntKind.wrap_u8] at e1
     rw [hy] at e1
     have HY := hide hy; clear hy
     obtain ⟨x2, hx2⟩ : ∃ x2, x / 128 = x2 := ⟨_, rfl⟩
     have e3 : (x : Int) / 2 ^ 7 = (x2 : Int) := by rw [← hx2]; push_cast; rfl
     have e4 : (x : Int) / 128 = (x2 : Int) := by rw [← hx2]; push_cast; rfl
     have HX2 := hide hx2; clear hx2
     go_wp2_with (at_builtin; go_must (refine wpList_append_q _ rfl (.tmp 17) (.tmp 21) _ rfl base 5 i0 _ 1 Tryz.underlying40 hi hz0 hz1 hz2 rfl (.slice ao pre.length cc) (bvN pre) rfl (by exact HJ.out.1.alloc _) wr.heap.size 0 1 (.int .u8 (y : Int)) rfl (by exact (Blk.new wr 5 #[.int .u8 (y : Int)]).cells1.1) rfl (by have := HPRE.out; simp [maxLen, bvN_len]; omega) (by have := HPRE.out; simp [bvN_len]; omega) (by have := HBA.out; have := HJ.out.2.1.1.size; simp; omega) ?_); intro g1 o1 cap1 w3 hQ3 hgr ho hb1 hlt1; have HQ3 := hide hQ3; have HO3 : Hid (OwnTo w w3 v (.slice (some ⟨g1, o1, none⟩) ((bvN pre).length + 1) cap1)) := hide ((HJ.out.2.1.alloc _).trans ⟨hgr, own_of ho hlt1⟩); clear hQ3 hgr ho hb1 hlt1)
     go_roundw
     case rel => exact ⟨x2, pre ++ [y], rfl, by have := HX2.out; omega, hide ⟨by rw [bvN_snoc]; exact HQ3.out, HO3.out, by rw [← HJ.out.2.2, vnum_big h128, HX2.out, HY.out, List.append_assoc]; rfl⟩⟩
     case measure => have := HX2.out; simp [intOf]; omega
  ·obtain rfl : n = k := by omega
   have HR : Hid (QAt wr base 5 u0 (bvN (l ++ vnums zs)) ∧ OwnTo w wr v u0) := by
    have := HI.out
    rw [List.take_of_length_le (by rw [HZ.out]; omega)] at this
    exact hide this
   clear HI
   go_wp2_with fail
   go_ret
   exact ⟨_, rfl, HR.out⟩
end
end
section
def slN (s : Sl) : List Nat := [s.n.toNat, s.f.toNat, s.t.toNat]
def lkN (s : Lk) : List Nat := [s.f.toNat, s.t.toNat, s.b.toNat, s.q.toNat]
def wnN (s : Wn) : List Nat := [s.p.toNat, s.f.toNat, s.t.toNat]
def plN (p : Pl) : List Nat :=
 [p.nd.toNat, p.fa.toNat, p.sk.toNat, p.ji.toNat, p.dr.toNat, p.rd.toNat] ++ (p.sl.length :: (p.sl.map slN).flatten) ++ (p.lk.length :: (p.lk.map lkN).flatten) ++ [p.fr.toNat] ++ (p.wn.length :: (p.wn.map wnN).flatten)
theorem chk_bounds {p : Pl} (h : (chk p).1 = 0) : (0 ≤ p.nd ∧ 0 ≤ p.fa ∧ 0 ≤ p.sk ∧ 0 ≤ p.ji ∧ 0 ≤ p.dr ∧ 0 ≤ p.rd ∧ 0 ≤ p.fr ∧ p.nd ≤ 2 ^ 40 ∧ p.fa ≤ 2 ^ 40 ∧ p.sk ≤ 2 ^ 40 ∧ p.ji ≤ 2 ^ 40 ∧ p.dr ≤ 2 ^ 40 ∧ p.rd ≤ 2 ^ 40 ∧ p.fr ≤ 2 ^ 40) ∧ (p.sl.length ≤ 32 ∧ p.lk.length ≤ 8 ∧ p.wn.length ≤ 32) ∧
 (∀ s ∈ p.sl, (0 ≤ s.n ∧ 0 ≤ s.f ∧ 0 ≤ s.t) ∧ s.n ≤ 2 ^ 40 ∧ s.f ≤ 2 ^ 40 ∧ s.t ≤ 2 ^ 40) ∧ (∀ s ∈ p.lk, (0 ≤ s.f ∧ 0 ≤ s.t ∧ 0 ≤ s.b ∧ 0 ≤ s.q) ∧ s.f ≤ 2 ^ 40 ∧ s.t ≤ 2 ^ 40 ∧ s.b ≤ 2 ^ 40 ∧ s.q ≤ 2 ^ 40) ∧ (∀ s ∈ p.wn, (0 ≤ s.p ∧ 0 ≤ s.f ∧ 0 ≤ s.t) ∧ s.p ≤ 2 ^ 40 ∧ s.f ≤ 2 ^ 40 ∧ s.t ≤ 2 ^ 40) := by
 unfold chk at h
 by_cases h0 : headE p ≠ 0
 ·rw [if_pos h0] at h; exact absurd h h0
 rw [if_neg h0] at h
 by_cases h1 : (firstE (slEs p.sk p.rd p.nd 0 p.sl) 0).1 ≠ 0
 ·rw [if_pos h1] at h; exact absurd h h1
 rw [if_neg h1] at h
 by_cases h2 : (firstE (p.lk.map (lkE p.nd)) 0).1 ≠ 0
 ·rw [if_pos h2] at h; exact absurd h h2
 rw [if_neg h2] at h
 by_cases h3 : (firstE (wnEs p.fr 0 p.wn) 0).1 ≠ 0
 ·rw [if_pos h3] at h; exact absurd h h3
 have h0 := Classical.not_not.1 h0
 have z1 := firstE_zero _ 0 (Classical.not_not.1 h1)
 have z2 := firstE_zero _ 0 (Classical.not_not.1 h2)
 have z3 := firstE_zero _ 0 (Classical.not_not.1 h3)
 clear h h1 h2 h3
 have hd : 1 ≤ p.nd ∧ p.nd ≤ 16 ∧ 0 ≤ p.fa ∧ p.fa ≤ 16 ∧ 0 ≤ p.sk ∧ p.sk ≤ 137438953472 ∧ 0 ≤ p.ji ∧ p.ji ≤ 137438953472 ∧ 0 ≤ p.dr ∧ p.dr ≤ 137438953472 ∧ 1 ≤ p.rd ∧ p.rd ≤ 137438953472 ∧ 1 ≤ p.fr ∧ p.fr ≤ 137438953472 ∧ p.sl.length ≤ 32 ∧ p.lk.length ≤ 8 ∧ p.wn.length ≤ 32 := by
  unfold headE at h0
  split at h0
  ·cases h0
  ·split at h0
   ·cases h0
   ·split at h0
    ·cases h0
    ·omega
 have sp : ∀ {f t lo hi : Int}, spE f t lo hi = 0 → f < t ∧ lo ≤ f ∧ t ≤ hi := by
  intro f t lo hi h
  unfold spE at h
  by_cases h1 : t ≤ f
  ·rw [if_pos h1] at h; cases h
  ·rw [if_neg h1] at h
   by_cases h2 : f < lo
   ·rw [if_pos h2] at h; cases h
   ·rw [if_neg h2] at h
    by_cases h3 : hi < t
    ·rw [if_pos h3] at h; cases h
    ·omega
 have pw : (2 : Int) ^ 40 = 1099511627776 := by decide
 have hs : ∀ (k : Nat) (s : Sl), p.sl[k]? = some s → 0 ≤ s.n ∧ s.n ≤ p.nd - 1 ∧ slLo p.sk 0 p.sl k ≤ s.f ∧ s.f < s.t ∧ s.t ≤ p.rd - p.sk - 1 := by
  intro k s hk
  have hl := (List.getElem?_eq_some_iff.1 hk).1
  have := z1 k (by rw [slEs_len]; exact hl)
  rw [slEs_at _ _ _ _ _ _ _ hk] at this
  have := Option.some.inj this
  unfold slE at this
  split at this
  ·rename_i h; exact absurd this h
  ·rename_i h
   have := sp (Classical.not_not.1 h)
   split at *
   ·omega
   ·omega
 have hs0 : ∀ (k : Nat) (s : Sl), p.sl[k]? = some s → 0 ≤ s.f := by
  intro k
  induction k with
  | zero => intro s hk; have := hs 0 s hk; rw [slLo_zero] at this; omega
  | succ k ih =>
   intro s hk
   have hl := (List.getElem?_eq_some_iff.1 hk).1
   have hk2 : p.sl[k]? = some p.sl[k] := List.getElem?_eq_getElem (by omega)
   have a := hs (k + 1) s hk
   have b := hs k _ hk2
   have c := ih _ hk2
   rw [slLo_succ _ _ _ _ _ hk2] at a
   omega
 have hw : ∀ (k : Nat) (s : Wn), p.wn[k]? = some s → 0 ≤ s.p ∧ s.p ≤ 5 ∧ wnLo 0 p.wn k ≤ s.f ∧ s.f < s.t ∧ s.t ≤ p.fr := by
  intro k s hk
  have hl := (List.getElem?_eq_some_iff.1 hk).1
  have := z3 k (by rw [wnEs_len]; exact hl)
  rw [wnEs_at _ _ _ _ _ hk] at this
  have := Option.some.inj this
  unfold wnE at this
  split at this
  ·rename_i h; exact absurd this h
  ·rename_i h
   have := sp (Classical.not_not.1 h)
   split at *
   ·omega
   ·omega
 have hw0 : ∀ (k : Nat) (s : Wn), p.wn[k]? = some s → 0 ≤ s.f := by
  intro k
  induction k with
  | zero => intro s hk; have := hw 0 s hk; rw [wnLo_zero] at this; omega
  | succ k ih =>
   intro s hk
   have hl := (List.getElem?_eq_some_iff.1 hk).1
   have hk2 : p.wn[k]? = some p.wn[k] := List.getElem?_eq_getElem (by omega)
   have a := hw (k + 1) s hk
   have b := hw k _ hk2
   have c := ih _ hk2
   rw [wnLo_succ _ _ _ _ hk2] at a
   omega
 rw [pw]
 refine ⟨by omega, by omega, ?_, ?_, ?_⟩
 ·intro s hm
  obtain ⟨k, hk, rfl⟩ := List.getElem_of_mem hm
  have a := hs k _ (List.getElem?_eq_getElem hk)
  have b := hs0 k _ (List.getElem?_eq_getElem hk)
  omega
 ·intro s hm
  obtain ⟨k, hk, rfl⟩ := List.getElem_of_mem hm
  have := z2 k (by simpa using hk)
  rw [List.getElem?_map, List.getElem?_eq_getElem hk] at this
  have := Option.some.inj this
  generalize p.lk[k] = s at this
  unfold lkE at this
  split at this
  ·cases this
  ·split at this
   ·cases this
   ·rename_i h1 h2
    have h2 := bool_f (fun h => h2 h)
    unfold toBad at h2
    simp only [Bool.or_eq_false_iff, decide_eq_false_iff_not] at h2
    split at this
    ·cases this
    ·have : (2 : Int) ^ p.nd.toNat ≤ 2 ^ 16 := by
      have h := Nat.pow_le_pow_right (n := 2) (by decide) (show p.nd.toNat ≤ 16 by omega)
      exact_mod_cast h
     have h16 : (2 : Int) ^ 16 = 65536 := by decide
     omega
 ·intro s hm
  obtain ⟨k, hk, rfl⟩ := List.getElem_of_mem hm
  have a := hw k _ (List.getElem?_eq_getElem hk)
  have b := hw0 k _ (List.getElem?_eq_getElem hk)
  omega
theorem toNat_le {x : Int} (h : x ≤ 2 ^ 40) : x.toNat ≤ 2 ^ 40 := by
 have pw : (2 : Int) ^ 40 = 1099511627776 := by decide
 have pn : (2 : Nat) ^ 40 = 1099511627776 := by decide
 omega
theorem plN_le {p : Pl} (h : (chk p).1 = 0) : ∀ n ∈ plN p, n ≤ 2 ^ 40 := by
 obtain ⟨h1, h2, h3, h4, h5⟩ := chk_bounds h
 have pn : (32 : Nat) ≤ 2 ^ 40 := by decide
 intro n hn
 unfold plN at hn
 simp only [List.mem_append, List.mem_cons, List.not_mem_nil, or_false, List.mem_flatten, List.mem_map] at hn
 rcases hn with ((((hn | hn) | hn) | hn) | hn)
 ·rcases hn with rfl | rfl | rfl | rfl | rfl | rfl <;> exact toNat_le (by omega)
 ·rcases hn with rfl | ⟨_, ⟨s, hs, rfl⟩, hx⟩
  ·omega
  ·simp [slN] at hx
   have := h3 s hs
   rcases hx with rfl | rfl | rfl <;> exact toNat_le (by omega)
 ·rcases hn with rfl | ⟨_, ⟨s, hs, rfl⟩, hx⟩
  ·omega
  ·simp [lkN] at hx
   have := h4 s hs
   rcases hx with rfl | rfl | rfl | rfl <;> exact toNat_le (by omega)
 ·subst hn; exact toNat_le (by omega)
 ·rcases hn with rfl | ⟨_, ⟨s, hs, rfl⟩, hx⟩
  ·omega
  ·simp [wnN] at hx
   have := h5 s hs
   rcases hx with rfl | rfl | rfl <;> exact toNat_le (by omega)
theorem vnum_len (n k : Nat) (hk : 1 ≤ k) (h : n < 128 ^ k) : (vnum n).length ≤ k := by
 induction k generalizing n with
 | zero => omega
 | succ k ih =>
  by_cases h1 : n < 128
  ·rw [vnum_small h1]; simp
  ·rw [vnum_big h1, List.length_cons]
   by_cases hk0 : k = 0
   ·subst hk0; simp at h; omega
   ·have := ih (n / 128) (by omega) (by rw [Nat.pow_succ] at h; exact Nat.div_lt_of_lt_mul (by rw [Nat.mul_comm]; exact h))
    omega
theorem vnums_len (l : List Nat) (h : ∀ n ∈ l, n ≤ 2 ^ 40) : (vnums l).length ≤ 6 * l.length := by
 induction l with
 | nil => simp [vnums_nil]
 | cons n l ih =>
  have h1 := vnum_len n 6 (by omega) (Nat.lt_of_le_of_lt (h n (by simp)) (by decide))
  have h2 := ih (fun m hm => h m (by simp [hm]))
  rw [vnums_cons, List.length_append, List.length_cons]; omega
theorem flat_len {α : Type} {j : Nat} {l : List α} {f : α → List Nat} (h : ∀ x, (f x).length = j) : (l.map f).flatten.length = j * l.length := by
 induction l with
 | nil => simp
 | cons x l ih => simp only [List.map_cons, List.flatten_cons, List.length_append, h, ih, List.length_cons, Nat.mul_succ]; omega
theorem plN_len (p : Pl) : (plN p).length = 10 + 3 * p.sl.length + 4 * p.lk.length + 3 * p.wn.length := by
 unfold plN
 simp only [List.length_append, List.length_cons, List.length_nil, flat_len (j := 3) (f := slN) (fun _ => rfl), flat_len (j := 4) (f := lkN) (fun _ => rfl), flat_len (j := 3) (f := wnN) (fun _ => rfl)]
 omega
theorem plN_short {p : Pl} (h : (chk p).1 = 0) : (vnums (plN p)).length ≤ 2000 := by
 obtain ⟨_, ⟨h1, h2, h3⟩, _⟩ := chk_bounds h
 have a := vnums_len _ (plN_le h)
 rw [plN_len] at a
 omega
end
section
open Go.RowKit
structure EnAt (w wr : World) (G : Array Value) (v : Value) (l : List Nat) : Prop where
 g : Blk wr w.heap.size 29 G
 q : QAt wr (w.heap.size + 1) 5 v (bvN l)
 o : ∀ k, v.ownBlock = some k → w.heap.size < k ∧ k < wr.heap.size
 old : Below w.heap.size w wr
section
variable {w w1 w2 : World} {G : Array Value} {v v' : Value} {l : List Nat}
theorem EnAt.below (h : EnAt w w1 G v l) (hB : Below w1.heap.size w1 w2) : EnAt w w2 G v l :=
 ⟨h.g.below hB h.g.lt, h.q.below hB (Nat.le_refl _), fun k e => ⟨(h.o k e).1, Nat.lt_of_lt_of_le (h.o k e).2 hB.size⟩, h.old.trans (hB.mono h.old.size)⟩
theorem EnAt.alloc (h : EnAt w w1 G v l) (o : Obj) : EnAt w (w1.alloc o) G v l := h.below ((Below.refl _ _).alloc (Nat.le_refl _) o)
theorem EnAt.put (h : EnAt w w1 G v l) {l' : List Nat} (hq : QAt w2 (w.heap.size + 1) 5 v' (bvN l')) (ho : OwnTo w1 w2 v v') : EnAt w w2 G v' l' := by
 have hne : v.ownBlock ≠ some w.heap.size := fun e => by have := (h.o _ e).1; omega
 have hlt := h.g.lt
 refine ⟨h.g.grown ho.1 hne.symm, hq, fun k e => ?_, ⟨ho.1.os.trans h.old.os, ho.1.tape.trans h.old.tape, ho.1.output.trans h.old.output, Nat.le_trans h.old.size ho.1.size, fun i hi => ?_⟩⟩
 ·obtain ⟨a, b | b⟩ := ho.2 k e
  ·exact ⟨(h.o k b).1, a⟩
  ·exact ⟨by omega, a⟩
 ·rw [ho.1.block i (by omega) (fun e => by have := (h.o i e.symm).1; omega)]
  exact h.old.block i hi
end
theorem nums1 {w : World} {g : Nat} {a : Int} (h : Blk w g 3 #[.int .i64 a]) (ha : 0 ≤ a) : NumsAt w (some ⟨g, 0, none⟩) 1 [a.toNat] := by
 intro j hj
 refine ⟨g, 0, rfl, ?_⟩
 match j, hj with
 | 0, _ => rw [h.cell 0]; simp; omega
theorem nums2 {w : World} {g : Nat} {a b : Int} (h : Blk w g 3 #[.int .i64 a, .int .i64 b]) (ha : 0 ≤ a) (hb : 0 ≤ b) : NumsAt w (some ⟨g, 0, none⟩) 2 [a.toNat, b.toNat] := by
 intro j hj
 refine ⟨g, 0, rfl, ?_⟩
 match j, hj with
 | 0, _ => rw [h.cell 0]; simp; omega
 | 1, _ => rw [h.cell 1]; simp; omega
theorem nums3 {w : World} {g : Nat} {a b c : Int} (h : Blk w g 3 #[.int .i64 a, .int .i64 b, .int .i64 c]) (ha : 0 ≤ a) (hb : 0 ≤ b) (hc : 0 ≤ c) : NumsAt w (some ⟨g, 0, none⟩) 3 [a.toNat, b.toNat, c.toNat] := by
 intro j hj
 refine ⟨g, 0, rfl, ?_⟩
 match j, hj with
 | 0, _ => rw [h.cell 0]; simp; omega
 | 1, _ => rw [h.cell 1]; simp; omega
 | 2, _ => rw [h.cell 2]; simp; omega
theorem nums4 {w : World} {g : Nat} {a b c d : Int} (h : Blk w g 3 #[.int .i64 a, .int .i64 b, .int .i64 c, .int .i64 d]) (ha : 0 ≤ a) (hb : 0 ≤ b) (hc : 0 ≤ c) (hd : 0 ≤ d) : NumsAt w (some ⟨g, 0, none⟩) 4 [a.toNat, b.toNat, c.toNat, d.toNat] := by
 intro j hj
 refine ⟨g, 0, rfl, ?_⟩
 match j, hj with
 | 0, _ => rw [h.cell 0]; simp; omega
 | 1, _ => rw [h.cell 1]; simp; omega
 | 2, _ => rw [h.cell 2]; simp; omega
 | 3, _ => rw [h.cell 3]; simp; omega
theorem nums7 {w : World} {g : Nat} {a b c d e f i : Int} (h : Blk w g 3 #[.int .i64 a, .int .i64 b, .int .i64 c, .int .i64 d, .int .i64 e, .int .i64 f, .int .i64 i]) (ha : 0 ≤ a) (hb : 0 ≤ b) (hc : 0 ≤ c) (hd : 0 ≤ d) (he : 0 ≤ e) (hf : 0 ≤ f) (hi : 0 ≤ i) : NumsAt w (some ⟨g, 0, none⟩) 7 [a.toNat, b.toNat, c.toNat, d.toNat, e.toNat, f.toNat, i.toNat] := by
 intro j hj
 refine ⟨g, 0, rfl, ?_⟩
 match j, hj with
 | 0, _ => rw [h.cell 0]; simp; omega
 | 1, _ => rw [h.cell 1]; simp; omega
 | 2, _ => rw [h.cell 2]; simp; omega
 | 3, _ => rw [h.cell 3]; simp; omega
 | 4, _ => rw [h.cell 4]; simp; omega
 | 5, _ => rw [h.cell 5]; simp; omega
 | 6, _ => rw [h.cell 6]; simp; omega
def Fit (L : List Nat) (N : Nat) : Prop := (∀ n ∈ L, n ≤ 2 ^ 40) ∧ L.length ≤ N
theorem Fit.app {L M : List Nat} {N K : Nat} (h : Fit L N) (k : Fit M K) : Fit (L ++ M) (N + K) := ⟨fun n hn => (List.mem_append.1 hn).elim (h.1 n) (k.1 n), by have := h.2; have := k.2; rw [List.length_append]; omega⟩
theorem put_fit {w w1 : World} {G : Array Value} {v : Value} {L zs : List Nat} {N n : Nat} (h : EnAt w w1 G v (vnums L)) (hL : Fit L N) (hN : N ≤ 300) (hz : Fit zs n) (hzn : zs.length = n) (hn : n ≤ 10) (g : Nat) (hg : ∀ k, v.ownBlock = some k → k < g) (hA : NumsAt w1 (some ⟨g, 0, none⟩) n zs) :
 Calls Tryz.prog 130 #[v, .slice (some ⟨g, 0, none⟩) n n] w1 fun r w2 => ∃ v', r = .returned v' ∧ EnAt w w2 G v' (vnums (L ++ zs)) := by
 have h6 : ∀ z, z ≤ 2 ^ 40 → (vnum z).length ≤ 6 := fun z hz => vnum_len z 6 (by omega) (Nat.lt_of_le_of_lt hz (by decide))
 have hlen := vnums_len L hL.1
 have hl := hL.2
 refine (put_any (w.heap.size + 1) v (vnums L) (some ⟨g, 0, none⟩) n n zs w1 h.q (fun k e => (h.o k e).2) h.g.lt hA hzn (fun b off e e2 => ?_) (fun z hm => Nat.lt_of_le_of_lt (hz.1 z hm) (by decide)) (by omega) (fun z hm => Nat.le_trans (h6 z (hz.1 z hm)) (by omega))).mono ?_
 ·cases e; exact Nat.lt_irrefl _ (hg _ e2)
 ·rintro r w2 ⟨v', rfl, hq, ho⟩
  exact ⟨v', rfl, by rw [vnums_app]; exact h.put hq ho⟩
theorem fit1 {a : Nat} (ha : a ≤ 1000) : Fit [a] 1 := ⟨by intro n hn; simp at hn; subst hn; exact Nat.le_trans ha (by decide), by simp⟩
theorem fit2 {a : Int} {b : Nat} (ha : a ≤ 2 ^ 40) (hb : b ≤ 1000) : Fit [a.toNat, b] 2 := ⟨by
 intro n hn; simp at hn
 rcases hn with rfl | rfl
 ·exact toNat_le ha
 ·exact Nat.le_trans hb (by decide), by simp⟩
theorem fit7 {a b c d e f : Int} {i : Nat} (ha : a ≤ 2 ^ 40) (hb : b ≤ 2 ^ 40) (hc : c ≤ 2 ^ 40) (hd : d ≤ 2 ^ 40) (he : e ≤ 2 ^ 40) (hf : f ≤ 2 ^ 40) (hi : i ≤ 1000) : Fit [a.toNat, b.toNat, c.toNat, d.toNat, e.toNat, f.toNat, i] 7 := ⟨by
 intro n hn; simp at hn
 rcases hn with rfl | rfl | rfl | rfl | rfl | rfl | rfl
 ·exact toNat_le ha
 ·exact toNat_le hb
 ·exact toNat_le hc
 ·exact toNat_le hd
 ·exact toNat_le he
 ·exact toNat_le hf
 ·exact Nat.le_trans hi (by decide), by simp⟩
theorem slN_fit {s : Sl} (h : (0 ≤ s.n ∧ 0 ≤ s.f ∧ 0 ≤ s.t) ∧ s.n ≤ 2 ^ 40 ∧ s.f ≤ 2 ^ 40 ∧ s.t ≤ 2 ^ 40) : Fit (slN s) 3 := ⟨by
 intro n hn; simp [slN] at hn
 rcases hn with rfl | rfl | rfl <;> exact toNat_le (by omega), by simp [slN]⟩
theorem wnN_fit {s : Wn} (h : (0 ≤ s.p ∧ 0 ≤ s.f ∧ 0 ≤ s.t) ∧ s.p ≤ 2 ^ 40 ∧ s.f ≤ 2 ^ 40 ∧ s.t ≤ 2 ^ 40) : Fit (wnN s) 3 := ⟨by
 intro n hn; simp [wnN] at hn
 rcases hn with rfl | rfl | rfl <;> exact toNat_le (by omega), by simp [wnN]⟩
theorem lkN_fit {s : Lk} (h : (0 ≤ s.f ∧ 0 ≤ s.t ∧ 0 ≤ s.b ∧ 0 ≤ s.q) ∧ s.f ≤ 2 ^ 40 ∧ s.t ≤ 2 ^ 40 ∧ s.b ≤ 2 ^ 40 ∧ s.q ≤ 2 ^ 40) : Fit (lkN s) 4 := ⟨by
 intro n hn; simp [lkN] at hn
 rcases hn with rfl | rfl | rfl | rfl <;> exact toNat_le (by omega), by simp [lkN]⟩
theorem flat_fit {α : Type} {f : α → List Nat} {l : List α} {j : Nat} (h : ∀ s ∈ l, Fit (f s) j) (k : Nat) : Fit ((l.take k).map f).flatten (j * k) := by
 induction l generalizing k with
 | nil => simp [Fit]
 | cons s l ih =>
  cases k with
  | zero => simp [Fit]
  | succ k =>
   have h1 := h s (by simp)
   have h2 := ih (fun x hx => h x (by simp [hx])) k
   simp only [List.take_succ_cons, List.map_cons, List.flatten_cons]
   have := h1.app h2
   exact ⟨this.1, by have := this.2; rw [Nat.mul_succ]; omega⟩
theorem flat_take {α : Type} (f : α → List Nat) (l : List α) (k : Nat) (x : α) (h : l[k]? = some x) : ((l.take (k + 1)).map f).flatten = ((l.take k).map f).flatten ++ f x := by
 obtain ⟨hk, e⟩ := List.getElem?_eq_some_iff.1 h
 rw [List.take_succ_eq_append_getElem hk, e]
 simp
theorem plN_eq (p : Pl) {len ll lq : Nat} (h1 : p.sl.length = len) (h2 : p.lk.length = ll) (h3 : p.wn.length = lq) : plN p = [p.nd.toNat, p.fa.toNat, p.sk.toNat, p.ji.toNat, p.dr.toNat, p.rd.toNat, (len : Int).toNat] ++ (p.sl.map slN).flatten ++ [(ll : Int).toNat] ++ (p.lk.map lkN).flatten ++ [p.fr.toNat, (lq : Int).toNat] ++ (p.wn.map wnN).flatten := by
 subst h1 h2 h3
 unfold plN
 simp
def EoPost (w : World) (p : Pl) (r : Ending) (w' : World) : Prop :=
 if (chk p).1 = 0 then ∃ v, r = .returned (.tuple #[v, .nilIface]) ∧ QAt w' (w.heap.size + 1) 5 v (bvN (vnums (plN p))) ∧ (∀ k, v.ownBlock = some k → w.heap.size < k ∧ k < w'.heap.size) ∧ Below w.heap.size w w'
 else ∃ v, r = .returned (.tuple #[.slice none 0 0, v]) ∧ AtV w' v (chk p).1 (chk p).2 ∧ Below w.heap.size w w'
section
variable (p : Pl) (A : Option Addr) (len c : Nat) (AL : Option Addr) (ll cl : Nat) (AQ : Option Addr) (lq cq : Nat)
set_option maxRecDepth 100000 in
set_option maxHeartbeats 8000000 in
theorem encode_bad (w : World) (h0 : (chk p).1 ≠ 0) (s1 : p.sl.length = len) (l1 : p.lk.length = ll) (q1 : p.wn.length = lq) (s2 : SlotsAt w A len p.sl) (l2 : LinksAt w AL ll p.lk) (q2 : WinsAt w AQ lq p.wn) :
 Calls Tryz.prog 93 #[.agg (planC p.nd p.fa p.sk p.ji p.dr p.rd (.slice A len c) (.slice AL ll cl) p.fr (.slice AQ lq cq))] w (EoPost w p) := by
 have hP0 : PcAt w (w.alloc (.cells (planC p.nd p.fa p.sk p.ji p.dr p.rd (.slice A len c) (.slice AL ll cl) p.fr (.slice AQ lq cq)) 29)) (planC p.nd p.fa p.sk p.ji p.dr p.rd (.slice A len c) (.slice AL ll cl) p.fr (.slice AQ lq cq)) := ⟨Blk.new w _ _, (Below.refl _ _).alloc (Nat.le_refl _) _⟩
 have HP := hide hP0
 obtain ⟨i0, i1, i2, i3, i4, i5, i6, i7, i8, i9⟩ := hP0.g.cells10
 have HCK : Hid (∀ w0 : World, Below w.heap.size w w0 → Calls Tryz.prog 129 #[.agg (planC p.nd p.fa p.sk p.ji p.dr p.rd (.slice A len c) (.slice AL ll cl) p.fr (.slice AQ lq cq))] w0 (PcPost w0 (chk p))) := hide fun w0 hB => check_any p A len c AL ll cl AQ lq cq w0 s1 l1 q1 (s2.below hB) (l2.below hB) (q2.below hB)
 have H0 := hide h0
 clear hP0 s1 l1 q1 s2 l2 q2 h0
 go_enter Tryz.func93, Tryz.ntmps93
 go_wp2_with fail
 refine (HCK.out _ HP.out.old).mono ?_
 rintro e w3 hpost
 rcases hpost.2 with ⟨h, _⟩ | ⟨_, v, rfl, hv⟩
 ·exact absurd h H0.out
 have HV := hide hv
 have HB := hide (HP.out.old.trans (hpost.1.mono HP.out.old.size))
 obtain ⟨t, u, rfl⟩ := hv.iface
 clear hpost hv HP HCK i0 i1 i2 i3 i4 i5 i6 i7 i8 i9
 go_wp2_with fail
 go_ret2
 unfold EoPost
 rw [if_neg H0.out]
 exact ⟨_, rfl, HV.out, HB.out⟩
set_option maxRecDepth 100000 in
set_option maxHeartbeats 8000000 in
theorem encode_ok (w : World) (h0 : (chk p).1 = 0) (s1 : p.sl.length = len) (l1 : p.lk.length = ll) (q1 : p.wn.length = lq) (s2 : SlotsAt w A len p.sl) (l2 : LinksAt w AL ll p.lk) (q2 : WinsAt w AQ lq p.wn) :
 Calls Tryz.prog 93 #[.agg (planC p.nd p.fa p.sk p.ji p.dr p.rd (.slice A len c) (.slice AL ll cl) p.fr (.slice AQ lq cq))] w (EoPost w p) := by
 obtain ⟨hb1, hb2, hb3, hb4, hb5⟩ := chk_bounds h0
 have HB1 := hide hb1; have HB3 := hide hb3; have HB4 := hide hb4; have HB5 := hide hb5
 have n1 : len ≤ 32 := by omega
 have n2 : ll ≤ 8 := by omega
 have n3 : lq ≤ 32 := by omega
 have hP0 : PcAt w (w.alloc (.cells (planC p.nd p.fa p.sk p.ji p.dr p.rd (.slice A len c) (.slice AL ll cl) p.fr (.slice AQ lq cq)) 29)) (planC p.nd p.fa p.sk p.ji p.dr p.rd (.slice A len c) (.slice AL ll cl) p.fr (.slice AQ lq cq)) := ⟨Blk.new w _ _, (Below.refl _ _).alloc (Nat.le_refl _) _⟩
 have HP := hide hP0
 obtain ⟨i0, i1, i2, i3, i4, i5, i6, i7, i8, i9⟩ := hP0.g.cells10
 have HCK : Hid (∀ w0 : World, Below w.heap.size w w0 → Calls Tryz.prog 129 #[.agg (planC p.nd p.fa p.sk p.ji p.dr p.rd (.slice A len c) (.slice AL ll cl) p.fr (.slice AQ lq cq))] w0 (PcPost w0 (chk p))) := hide fun w0 hB => check_any p A len c AL ll cl AQ lq cq w0 s1 l1 q1 (s2.below hB) (l2.below hB) (q2.below hB)
 have H0 := hide h0; have S1 := hide s1; have L1 := hide l1; have Q1 := hide q1; have S2 := hide s2; have L2 := hide l2; have Q2 := hide q2
 clear hP0 s1 l1 q1 s2 l2 q2 h0 hb1 hb2 hb3 hb4 hb5
 go_enter Tryz.func93, Tryz.ntmps93
 go_wp2_with fail
 refine (HCK.out _ HP.out.old).mono ?_
 rintro e w3 hpost
 rcases hpost.2 with ⟨-, rfl⟩ | ⟨h, _⟩
 rotate_left
 ·exact absurd H0.out h
 have HP3 := hide (HP.out.below hpost.1)
 clear hpost HP HCK i0 i1 i2 i3 i4 i5 i6 i7 i8 i9
 obtain ⟨i0, i1, i2, i3, i4, i5, i6, i7, i8, i9⟩ := HP3.out.g.cells10
 have HE0 : Hid (EnAt w (w3.alloc (.cells #[.int .i64 p.nd, .int .i64 p.fa, .int .i64 p.sk, .int .i64 p.ji, .int .i64 p.dr, .int .i64 p.rd, .int .i64 (len : Int)] 3)) (planC p.nd p.fa p.sk p.ji p.dr p.rd (.slice A len c) (.slice AL ll cl) p.fr (.slice AQ lq cq)) (.slice none 0 0) (vnums [])) := hide (EnAt.alloc ⟨HP3.out.g, QAt.nil _ _ _, fun k e => by simp [Value.ownBlock] at e, HP3.out.old⟩ _)
 go_wp2_with fail
 have HFIT : Hid (Fit [p.nd.toNat, p.fa.toNat, p.sk.toNat, p.ji.toNat, p.dr.toNat, p.rd.toNat, (len : Int).toNat] 7) := hide (fit7 (by have := HB1.out; omega) (by have := HB1.out; omega) (by have := HB1.out; omega) (by have := HB1.out; omega) (by have := HB1.out; omega) (by have := HB1.out; omega) (by omega))
 refine (put_fit HE0.out (N := 0) ⟨by simp, by simp⟩ (by omega) (zs := [p.nd.toNat, p.fa.toNat, p.sk.toNat, p.ji.toNat, p.dr.toNat, p.rd.toNat, (len : Int).toNat]) (n := 7) HFIT.out rfl (by omega) w3.heap.size (fun k e => by simp [Value.ownBlock] at e) (by exact nums7 (Blk.new w3 _ _) (by have := HB1.out; omega) (by have := HB1.out; omega) (by have := HB1.out; omega) (by have := HB1.out; omega) (by have := HB1.out; omega) (by have := HB1.out; omega) (by omega))).mono ?_
 rintro e w4 ⟨v4, rfl, hE⟩
 have HE := hide hE; clear hE HE0 HP3 i0 i1 i2 i3 i4 i5 i6 i7 i8 i9
 obtain ⟨i0, i1, i2, i3, i4, i5, i6, i7, i8, i9⟩ := HE.out.g.cells10
 obtain ⟨A1, hA1⟩ : ∃ A1, [p.nd.toNat, p.fa.toNat, p.sk.toNat, p.ji.toNat, p.dr.toNat, p.rd.toNat, (len : Int).toNat] = A1 := ⟨_, rfl⟩
 rw [List.nil_append, hA1] at HE
 have HFA1 : Hid (Fit A1 7) := hide (by rw [← hA1]; exact HFIT.out)
 have HA1 := hide hA1
 clear hA1 HFIT
 have HFS : Hid (∀ k, Fit ((p.sl.take k).map slN).flatten (3 * k)) := hide (fun k => flat_fit (fun s hs => slN_fit (HB3.out s hs)) k)
 have HFL : Hid (∀ k, Fit ((p.lk.take k).map lkN).flatten (4 * k)) := hide (fun k => flat_fit (fun s hs => lkN_fit (HB4.out s hs)) k)
 have HFW : Hid (∀ k, Fit ((p.wn.take k).map wnN).flatten (3 * k)) := hide (fun k => flat_fit (fun s hs => wnN_fit (HB5.out s hs)) k)
 go_wp2_with fail
 go_loopw [5, 37] (fun v i wr => ∃ k : Nat, k ≤ len ∧ i = .int .i64 k ∧ Hid (EnAt w wr (planC p.nd p.fa p.sk p.ji p.dr p.rd (.slice A len c) (.slice AL ll cl) p.fr (.slice AQ lq cq)) v (vnums (A1 ++ ((p.sl.take k).map slN).flatten)))) (fun _ i _ => len - (intOf i).toNat)
 case atStart => exact ⟨0, by omega, rfl, by simpa using HE⟩
 case round =>
  clear HE i0 i1 i2 i3 i4 i5 i6 i7 i8 i9
  obtain ⟨k, hk, rfl, HE⟩ := hrel
  obtain ⟨i0, i1, i2, i3, i4, i5, i6, i7, i8, i9⟩ := HE.out.g.cells10
  by_cases hlt : k < len
  ·obtain ⟨b, off, rfl, x, hx, c0, c1, c2⟩ := (S2.out.below HE.out.old) k hlt
   have hmem : x ∈ p.sl := List.mem_of_getElem? hx
   have HX := hide hx
   have HM := hide (HB3.out x hmem)
   have HE2 := hide ((HE.out.alloc (.cells #[.int .i64 x.n, .int .i64 x.f, .int .i64 x.t] 86)).alloc (.cells #[.int .i64 x.n, .int .i64 x.f, .int .i64 x.t] 3))
   obtain ⟨j0, j1, j2, j3, j4, j5, j6, j7, j8, j9⟩ := (HE.out.alloc (.cells #[.int .i64 x.n, .int .i64 x.f, .int .i64 x.t] 86)).g.cells10
   clear hx hmem
   go_wp2_with fail
   refine (put_fit (zs := slN x) (n := 3) HE2.out ((HFA1.out.app (HFS.out k)) : Fit _ _) (by omega) (slN_fit HM.out) rfl (by omega) (wr.heap.size + 1) (fun k e => Nat.lt_succ_of_lt (HE.out.o k e).2) (by exact nums3 (by simpa using Blk.new (wr.alloc _) _ _) (by have := HM.out; omega) (by have := HM.out; omega) (by have := HM.out; omega))).mono ?_
   rintro e w6 ⟨v6, rfl, hE⟩
   have HE6 := hide hE
   clear hE HE2 HE i0 i1 i2 i3 i4 i5 i6 i7 i8 i9 j0 j1 j2 j3 j4 j5 j6 j7 j8 j9
   go_wp2_with fail
   go_roundw
   case rel => exact ⟨k + 1, by omega, by go_num, hide (by rw [flat_take slN _ _ _ HX.out, ← List.append_assoc]; exact HE6.out)⟩
   case measure => simp [intOf]; omega
  ·obtain rfl : len = k := by omega
   have HS2 : Hid (EnAt w wr (planC p.nd p.fa p.sk p.ji p.dr p.rd (.slice A len c) (.slice AL ll cl) p.fr (.slice AQ lq cq)) u5 (vnums (A1 ++ (p.sl.map slN).flatten))) := hide (by
    have := HE.out
    rw [List.take_of_length_le (by rw [S1.out]; omega)] at this
    exact this)
   have HF2 : Hid (Fit (A1 ++ (p.sl.map slN).flatten) (7 + 3 * len)) := hide (by
    have := HFA1.out.app (HFS.out len)
    rw [List.take_of_length_le (by rw [S1.out]; omega)] at this
    exact this)
   have HE2 := hide (HS2.out.alloc (.cells #[.int .i64 (ll : Int)] 3))
   clear HE hlt hk
   go_wp2_with fail
   refine (put_fit (zs := [(ll : Int).toNat]) (n := 1) HE2.out HF2.out (by omega) (fit1 (by omega)) rfl (by omega) wr.heap.size (fun k e => (HS2.out.o k e).2) (by exact nums1 (Blk.new wr _ _) (by omega))).mono ?_
   rintro e w7 ⟨v7, rfl, hE⟩
   have HE := hide hE
   obtain ⟨A2, hA2⟩ : ∃ A2, A1 ++ (p.sl.map slN).flatten ++ [(ll : Int).toNat] = A2 := ⟨_, rfl⟩
   rw [hA2] at HE
   have HFA2 : Hid (Fit A2 104) := hide (by rw [← hA2]; have := (HF2.out.app (fit1 (show (ll : Int).toNat ≤ 1000 by omega)) : Fit _ _); exact ⟨this.1, by have := this.2; omega⟩)
   have HA2 := hide hA2
   clear hE HE2 HS2 HF2 hA2 i0 i1 i2 i3 i4 i5 i6 i7 i8 i9
   obtain ⟨i0, i1, i2, i3, i4, i5, i6, i7, i8, i9⟩ := HE.out.g.cells10
   go_wp2_with fail
   obtain ⟨wo, rfl⟩ : ∃ wo : World, wo = wr := ⟨_, rfl⟩
   go_loopw [5, 62] (fun v i wr => ∃ k : Nat, k ≤ ll ∧ i = .int .i64 k ∧ Hid (EnAt w wr (planC p.nd p.fa p.sk p.ji p.dr p.rd (.slice A len c) (.slice AL ll cl) p.fr (.slice AQ lq cq)) v (vnums (A2 ++ ((p.lk.take k).map lkN).flatten)))) (fun _ i _ => ll - (intOf i).toNat)
   case atStart => exact ⟨0, by omega, rfl, by simpa using HE⟩
   case round =>
    clear HE i0 i1 i2 i3 i4 i5 i6 i7 i8 i9
    obtain ⟨k, hk, rfl, HE⟩ := hrel
    obtain ⟨i0, i1, i2, i3, i4, i5, i6, i7, i8, i9⟩ := HE.out.g.cells10
    by_cases hlt : k < ll
    ·obtain ⟨b, off, rfl, x, hx, c0, c1, c2, c3⟩ := (L2.out.below HE.out.old) k hlt
     have hmem : x ∈ p.lk := List.mem_of_getElem? hx
     have HX := hide hx
     have HM := hide (HB4.out x hmem)
     have HE2 := hide ((HE.out.alloc (.cells #[.int .i64 x.f, .int .i64 x.t, .int .i64 x.b, .int .i64 x.q] 88)).alloc (.cells #[.int .i64 x.f, .int .i64 x.t, .int .i64 x.b, .int .i64 x.q] 3))
     obtain ⟨j0, j1, j2, j3, j4, j5, j6, j7, j8, j9⟩ := (HE.out.alloc (.cells #[.int .i64 x.f, .int .i64 x.t, .int .i64 x.b, .int .i64 x.q] 88)).g.cells10
     clear hx hmem
     go_wp2_with fail
     refine (put_fit (zs := lkN x) (n := 4) HE2.out ((HFA2.out.app (HFL.out k)) : Fit _ _) (by omega) (lkN_fit HM.out) rfl (by omega) (wr.heap.size + 1) (fun k e => Nat.lt_succ_of_lt (HE.out.o k e).2) (by exact nums4 (by simpa using Blk.new (wr.alloc _) _ _) (by have := HM.out; omega) (by have := HM.out; omega) (by have := HM.out; omega) (by have := HM.out; omega))).mono ?_
     rintro e w6 ⟨v6, rfl, hE⟩
     have HE6 := hide hE
     clear hE HE2 HE i0 i1 i2 i3 i4 i5 i6 i7 i8 i9 j0 j1 j2 j3 j4 j5 j6 j7 j8 j9
     go_wp2_with fail
     go_roundw
     case rel => exact ⟨k + 1, by omega, by go_num, hide (by rw [flat_take lkN _ _ _ HX.out, ← List.append_assoc]; exact HE6.out)⟩
     case measure => simp [intOf]; omega
    ·obtain rfl : ll = k := by omega
     have HS2 : Hid (EnAt w wr (planC p.nd p.fa p.sk p.ji p.dr p.rd (.slice A len c) (.slice AL ll cl) p.fr (.slice AQ lq cq)) u5 (vnums (A2 ++ (p.lk.map lkN).flatten))) := hide (by
      have := HE.out
      rw [List.take_of_length_le (by rw [L1.out]; omega)] at this
      exact this)
     have HF2 : Hid (Fit (A2 ++ (p.lk.map lkN).flatten) (104 + 4 * ll)) := hide (by
      have := HFA2.out.app (HFL.out ll)
      rw [List.take_of_length_le (by rw [L1.out]; omega)] at this
      exact this)
     have HE2 := hide (HS2.out.alloc (.cells #[.int .i64 p.fr, .int .i64 (lq : Int)] 3))
     clear HE hlt hk
     go_wp2_with fail
     refine (put_fit (zs := [p.fr.toNat, (lq : Int).toNat]) (n := 2) HE2.out HF2.out (by omega) (fit2 (by have := HB1.out; omega) (by omega)) rfl (by omega) wr.heap.size (fun k e => (HS2.out.o k e).2) (by exact nums2 (Blk.new wr _ _) (by have := HB1.out; omega) (by omega))).mono ?_
     rintro e w8 ⟨v8, rfl, hE⟩
     have HE := hide hE
     obtain ⟨A3, hA3⟩ : ∃ A3, A2 ++ (p.lk.map lkN).flatten ++ [p.fr.toNat, (lq : Int).toNat] = A3 := ⟨_, rfl⟩
     rw [hA3] at HE
     have HFA3 : Hid (Fit A3 (104 + 4 * ll + 2)) := hide (by rw [← hA3]; exact (HF2.out.app (fit2 (a := p.fr) (b := (lq : Int).toNat) (by have := HB1.out; omega) (by omega)) : Fit _ _))
     have HA3 : Hid (A1 ++ (p.sl.map slN).flatten ++ [(ll : Int).toNat] ++ (p.lk.map lkN).flatten ++ [p.fr.toNat, (lq : Int).toNat] = A3) := hide (by rw [← hA3, ← HA2.out])
     clear hE HE2 HS2 HF2 hA3 i0 i1 i2 i3 i4 i5 i6 i7 i8 i9
     obtain ⟨i0, i1, i2, i3, i4, i5, i6, i7, i8, i9⟩ := HE.out.g.cells10
     go_wp2_with fail
     obtain ⟨wo, rfl⟩ : ∃ wo : World, wo = wr := ⟨_, rfl⟩
     go_loopw [5, 89] (fun v i wr => ∃ k : Nat, k ≤ lq ∧ i = .int .i64 k ∧ Hid (EnAt w wr (planC p.nd p.fa p.sk p.ji p.dr p.rd (.slice A len c) (.slice AL ll cl) p.fr (.slice AQ lq cq)) v (vnums (A3 ++ ((p.wn.take k).map wnN).flatten)))) (fun _ i _ => lq - (intOf i).toNat)
     case atStart => exact ⟨0, by omega, rfl, by simpa using HE⟩
     case round =>
      clear HE i0 i1 i2 i3 i4 i5 i6 i7 i8 i9
      obtain ⟨k, hk, rfl, HE⟩ := hrel
      obtain ⟨i0, i1, i2, i3, i4, i5, i6, i7, i8, i9⟩ := HE.out.g.cells10
      by_cases hlt : k < lq
      ·obtain ⟨b, off, rfl, x, hx, c0, c1, c2⟩ := (Q2.out.below HE.out.old) k hlt
       have hmem : x ∈ p.wn := List.mem_of_getElem? hx
       have HX := hide hx
       have HM := hide (HB5.out x hmem)
       have HE2 := hide ((HE.out.alloc (.cells #[.int .i64 x.p, .int .i64 x.f, .int .i64 x.t] 135)).alloc (.cells #[.int .i64 x.p, .int .i64 x.f, .int .i64 x.t] 3))
       obtain ⟨j0, j1, j2, j3, j4, j5, j6, j7, j8, j9⟩ := (HE.out.alloc (.cells #[.int .i64 x.p, .int .i64 x.f, .int .i64 x.t] 135)).g.cells10
       clear hx hmem
       go_wp2_with fail
       refine (put_fit (zs := wnN x) (n := 3) HE2.out ((HFA3.out.app (HFW.out k)) : Fit _ _) (by omega) (wnN_fit HM.out) rfl (by omega) (wr.heap.size + 1) (fun k e => Nat.lt_succ_of_lt (HE.out.o k e).2) (by exact nums3 (by simpa using Blk.new (wr.alloc _) _ _) (by have := HM.out; omega) (by have := HM.out; omega) (by have := HM.out; omega))).mono ?_
       rintro e w6 ⟨v6, rfl, hE⟩
       have HE6 := hide hE
       clear hE HE2 HE i0 i1 i2 i3 i4 i5 i6 i7 i8 i9 j0 j1 j2 j3 j4 j5 j6 j7 j8 j9
       go_wp2_with fail
       go_roundw
       case rel => exact ⟨k + 1, by omega, by go_num, hide (by rw [flat_take wnN _ _ _ HX.out, ← List.append_assoc]; exact HE6.out)⟩
       case measure => simp [intOf]; omega
      ·obtain rfl : lq = k := by omega
       have HF : Hid (EnAt w wr (planC p.nd p.fa p.sk p.ji p.dr p.rd (.slice A len c) (.slice AL ll cl) p.fr (.slice AQ lq cq)) u5 (vnums (plN p))) := hide (by
        have := HE.out
        rw [List.take_of_length_le (by rw [Q1.out]; omega), ← HA3.out] at this
        rw [plN_eq p S1.out L1.out Q1.out, HA1.out]
        exact this)
       obtain ⟨ao, cc, hvv, -⟩ := HF.out.q.shape
       rw [bvN_len] at hvv
       have hsh : (vnums (plN p)).length ≤ 2000 := plN_short H0.out
       have HH : Hid (EoPost w p (.returned (.tuple #[u5, .nilIface])) wr) := hide (by
        unfold EoPost
        rw [if_pos H0.out]
        exact ⟨_, rfl, HF.out.q, HF.out.o, HF.out.old⟩)
       subst hvv
       clear HF HE hlt hk
       go_wp2_with fail
       go_ret2
       exact HH.out
theorem encode_any (w : World) (s1 : p.sl.length = len) (l1 : p.lk.length = ll) (q1 : p.wn.length = lq) (s2 : SlotsAt w A len p.sl) (l2 : LinksAt w AL ll p.lk) (q2 : WinsAt w AQ lq p.wn) :
 Calls Tryz.prog 93 #[.agg (planC p.nd p.fa p.sk p.ji p.dr p.rd (.slice A len c) (.slice AL ll cl) p.fr (.slice AQ lq cq))] w (EoPost w p) := by
 by_cases h0 : (chk p).1 = 0
 ·exact encode_ok p A len c AL ll cl AQ lq cq w h0 s1 l1 q1 s2 l2 q2
 ·exact encode_bad p A len c AL ll cl AQ lq cq w h0 s1 l1 q1 s2 l2 q2
end
end
section
open Go Go.RowKit
def numF (s : ByteArray) : Option Int := match Lib.atoiAll s.data.toList with
 | .ok k => if (⟨(Lib.itoa k).toArray⟩ : ByteArray) = s then some k else none
 | _ => none
def numsF : List ByteArray → Option (List Int)
 | [] => some []
 | s :: l => match numF s with
  | none => none
  | some k => (numsF l).map (k :: ·)
def numbersF (w : List ByteArray) (n : Int) : Option (List Int) := if (0 ≤ n ∧ (w.length : Int) ≠ n) ∨ (w.length : Int) < -n then none else numsF w
theorem numsF_len : ∀ {w : List ByteArray} {l : List Int}, numsF w = some l → l.length = w.length
 | [], l, h => by cases h; rfl
 | s :: w, l, h => by
  unfold numsF at h
  cases hk : numF s with
  | none => rw [hk] at h; cases h
  | some k =>
   rw [hk] at h
   cases hl : numsF w with
   | none => rw [hl] at h; cases h
   | some l' => rw [hl] at h; cases h; simp [numsF_len hl]
theorem numbersF_len {w : List ByteArray} {n : Int} {l : List Int} (h : numbersF w n = some l) : (0 ≤ n → (l.length : Int) = n) ∧ -n ≤ l.length := by
 unfold numbersF at h
 split at h
 ·cases h
 ·rename_i hc
  rw [numsF_len h]
  omega
def itoB (n : Int) : ByteArray := ⟨(Lib.itoa n).toArray⟩
def errB (e : Int) : ByteArray := ⟨#[101, 114, 114, 111, 114, 32]⟩ ++ itoB e
def tellB (l : List Int) : ByteArray := ⟨(Lib.join (l.map Lib.itoa) [32]).toArray⟩
def lookS {β : Type} (s : ByteArray) : List (ByteArray × β) → Option β
 | [] => none
 | x :: l => if s = x.1 then some x.2 else lookS s l
theorem lookS_mem {β : Type} {s : ByteArray} {f : β} : ∀ {l : List (ByteArray × β)}, lookS s l = some f → ∃ x, x ∈ l ∧ x.1 = s ∧ x.2 = f
 | [], h => by cases h
 | x :: l, h => by
  unfold lookS at h
  split at h
  ·rename_i e
   cases h
   exact ⟨x, by simp, e.symm, rfl⟩
  ·obtain ⟨y, h1, h2⟩ := lookS_mem h
   exact ⟨y, by simp [h1], h2⟩
def TwinL {β γ : Type} (R : β → γ → Prop) : List (ByteArray × β) → List (ByteArray × γ) → Prop
 | [], [] => True
 | x :: l, y :: m => (x.1 = y.1 ∧ R x.2 y.2) ∧ TwinL R l m
 | _, _ => False
theorem lookS_two {β γ : Type} {R : β → γ → Prop} {s : ByteArray} : ∀ {l : List (ByteArray × β)} {m : List (ByteArray × γ)}, TwinL R l m → (lookS s l = none ∧ lookS s m = none) ∨ ∃ x y, lookS s l = some x ∧ lookS s m = some y ∧ R x y
 | [], [], _ => .inl ⟨rfl, rfl⟩
 | [], _ :: _, h => h.elim
 | _ :: _, [], h => h.elim
 | x :: l, y :: m, ⟨h1, h2⟩ => by
  unfold lookS
  rw [h1.1]
  by_cases e : s = y.1
  ·rw [if_pos e, if_pos e]
   exact .inr ⟨_, _, rfl, rfl, h1.2⟩
  ·rw [if_neg e, if_neg e]
   exact lookS_two h2
end
section
open Go Go.RowKit
structure Dk where
 p : Pl
 c : Option (Nat × Cl)
 r : Rn
def dk0 : Dk := ⟨⟨0, 0, 0, 0, 0, 0, [], [], 1, []⟩, none, ⟨[], [], [], []⟩⟩
structure Ans where
 o : Except Int ByteArray
 d : Dk
def withN (d : Dk) (w : List ByteArray) (n : Int) (f : List Int → Ans) : Ans := match numbersF w n with
 | none => ⟨.error 3, d⟩
 | some l => f l
def noC (d : Dk) (f : Ans) : Ans := match d.c with
 | none => f
 | some _ => ⟨.error 6, d⟩
def hasC (d : Dk) (f : Nat → Cl → Ans) : Ans := match d.c with
 | none => ⟨.error 6, d⟩
 | some x => f x.1 x.2
def orE (e : Int) (o : ByteArray) (d : Dk) : Ans := ⟨if e = 0 then .ok o else .error e, d⟩
def aPlan (d : Dk) (w : List ByteArray) : Ans := withN d w 6 fun n => noC d ⟨.ok ⟨#[112, 108, 97, 110]⟩, { d with p := { d.p with nd := n.getD 0 0, fa := n.getD 1 0, sk := n.getD 2 0, ji := n.getD 3 0, dr := n.getD 4 0, rd := n.getD 5 0 } }⟩
def aSlot (d : Dk) (w : List ByteArray) : Ans := withN d w 3 fun n => noC d (if 32 ≤ d.p.sl.length then ⟨.error 4, d⟩ else ⟨.ok (itoB d.p.sl.length), { d with p := { d.p with sl := d.p.sl ++ [⟨n.getD 0 0, n.getD 1 0, n.getD 2 0⟩] } }⟩)
def aLink (d : Dk) (w : List ByteArray) : Ans := withN d w 4 fun n => noC d (if 8 ≤ d.p.lk.length then ⟨.error 4, d⟩ else ⟨.ok (itoB d.p.lk.length), { d with p := { d.p with lk := d.p.lk ++ [⟨n.getD 0 0, n.getD 1 0, n.getD 2 0, n.getD 3 0⟩] } }⟩)
noncomputable def newE (p : Pl) (f0 : Int) (zs : List Int) : Int := if (chk p).1 ≠ 0 then (chk p).1 else (newIs_any p f0 zs).choose
noncomputable def aStart (d : Dk) (w : List ByteArray) : Ans := withN d w (-1) fun n => noC d (if newE d.p (n.getD 0 0) n.tail = 0 then ⟨.ok ⟨#[115, 116, 97, 114, 116]⟩, { d with c := some ((n.getD 0 0).toNat, startF d.p n.tail) }⟩ else ⟨.error (newE d.p (n.getD 0 0) n.tail), d⟩)
def aBytes (d : Dk) (w : List ByteArray) : Ans := withN d w 0 fun _ => orE (chk d.p).1 (itoB (vnums (plN d.p)).length) d
def aPut (d : Dk) (w : List ByteArray) : Ans := if w.length ≠ 2 then ⟨.error 3, d⟩ else withN d (w.take 1) 1 fun n => hasC d fun fy c =>
 if n.getD 0 0 < 0 then ⟨.error 2, d⟩ else match d.p.lk[(n.getD 0 0).toNat]? with
 | none => ⟨.error 2, d⟩
 | some l => orE (putE (w.getD 1 ⟨#[]⟩).size (c.sd (n.getD 0 0).toNat).q.length l.q) ⟨#[112, 117, 116]⟩ { d with c := some (fy, clPut (n.getD 0 0).toNat l (w.getD 1 ⟨#[]⟩) c) }
def isB (s : ByteArray) : ByteArray := ⟨#[105, 115, 32]⟩ ++ s
def aRecv (d : Dk) (w : List ByteArray) : Ans := withN d w 2 fun n => hasC d fun fy c =>
 if n.getD 0 0 < 0 ∨ d.p.nd ≤ n.getD 0 0 ∨ n.getD 1 0 < 0 then ⟨.error 2, d⟩ else match d.p.lk[(n.getD 1 0).toNat]? with
 | none => ⟨.error 2, d⟩
 | some l => if bitB l.t (n.getD 0 0).toNat = false then ⟨.error 2, d⟩ else match (c.pr (n.getD 1 0).toNat (n.getD 0 0).toNat).q with
  | [] => ⟨.error 8, d⟩
  | x :: _ => ⟨.ok (isB x), { d with c := some (fy, clRecv (n.getD 1 0).toNat (n.getD 0 0).toNat c) }⟩
def aLose (d : Dk) (w : List ByteArray) : Ans := withN d w 3 fun n => hasC d fun _ _ => ⟨.ok ⟨#[108, 111, 115, 101]⟩, { d with r := { d.r with ls := d.r.ls ++ [⟨n.getD 0 0, n.getD 1 0, n.getD 2 0⟩] } }⟩
def aRead (d : Dk) (w : List ByteArray) : Ans := withN d w 3 fun n => hasC d fun _ _ => ⟨.ok ⟨#[114, 101, 97, 100]⟩, { d with r := { d.r with rg := d.r.rg ++ [⟨n.getD 0 0, n.getD 1 0, n.getD 2 0⟩] } }⟩
def aDrift (d : Dk) (w : List ByteArray) : Ans := withN d w (-1) fun n => hasC d fun _ _ => ⟨.ok ⟨#[100, 114, 105, 102, 116]⟩, { d with r := { d.r with dr := n } }⟩
def aMode (d : Dk) (w : List ByteArray) : Ans := withN d w (-1) fun n => hasC d fun _ _ => ⟨.ok ⟨#[109, 111, 100, 101]⟩, { d with r := { d.r with md := n } }⟩
def aRound (d : Dk) (w : List ByteArray) : Ans := withN d w 0 fun _ => hasC d fun fy c =>
 if playE d.p fy d.r c = 0 then ⟨.ok (itoB (playF d.p fy d.r c).rd), { d with c := some (fy, playF d.p fy d.r c), r := ⟨[], [], [], []⟩ }⟩
 else ⟨.error (playE d.p fy d.r c), { d with c := some (fy, playF d.p fy d.r c) }⟩
def aClocks (d : Dk) (w : List ByteArray) : Ans := withN d w 0 fun _ => hasC d fun _ c => ⟨.ok (tellB c.ck), d⟩
def SpIs (p : Pl) (fy : Nat) (c : Cl) (x : Int) : Prop := ∃ a b, x = a - b ∧ IsTop (honL fy c.ck p.nd.toNat) a ∧ IsLow (honL fy c.ck p.nd.toNat) b
theorem SpIs.one {p : Pl} {fy : Nat} {c : Cl} {x y : Int} (h : SpIs p fy c x) (h2 : SpIs p fy c y) : x = y := by
 obtain ⟨a, b, rfl, ⟨⟨j, hj, rfl⟩, ha⟩, ⟨⟨k, hk, rfl⟩, hb⟩⟩ := h
 obtain ⟨a', b', rfl, ⟨⟨j', hj', rfl⟩, ha'⟩, ⟨⟨k', hk', rfl⟩, hb'⟩⟩ := h2
 have h1 := ha j' hj'
 have h2 := ha' j hj
 have h3 := hb k' hk'
 have h4 := hb' k hk
 omega
open Classical in
noncomputable def spF (p : Pl) (fy : Nat) (c : Cl) : Int := if h : ∃ x, SpIs p fy c x then h.choose else 0
theorem SpIs.eq {p : Pl} {fy : Nat} {c : Cl} {x : Int} (h : SpIs p fy c x) : x = spF p fy c := by
 have he : ∃ x, SpIs p fy c x := ⟨x, h⟩
 unfold spF
 rw [dif_pos he]
 exact h.one he.choose_spec
noncomputable def aSpread (d : Dk) (w : List ByteArray) : Ans := withN d w 0 fun _ => hasC d fun fy c => ⟨.ok (itoB (spF d.p fy c)), d⟩
def aMembers (d : Dk) (w : List ByteArray) : Ans := withN d w 1 fun n => hasC d fun _ c =>
 if n.getD 0 0 < 0 ∨ d.p.nd ≤ n.getD 0 0 then ⟨.error 2, d⟩
 else ⟨.ok (if (c.mm (n.getD 0 0).toNat).fz then itoB ((c.mm (n.getD 0 0).toNat).m : Nat) ++ ⟨#[32, 102, 114, 111, 122, 101, 110]⟩ else itoB ((c.mm (n.getD 0 0).toNat).m : Nat)), d⟩
def aMid (d : Dk) (w : List ByteArray) : Ans := withN d w (-1) fun n => orE (midE n.tail (n.getD 0 0)) (itoB (midV n.tail (n.getD 0 0))) d
def aLocal (d : Dk) (w : List ByteArray) : Ans := withN d w 5 fun n => orE (localE (n.getD 0 0) (n.getD 1 0) (n.getD 2 0) (n.getD 3 0) (n.getD 4 0)) (itoB (localN (n.getD 0 0) (n.getD 1 0) (n.getD 2 0) (n.getD 3 0) (n.getD 4 0))) d
def aReal (d : Dk) (w : List ByteArray) : Ans := withN d w 5 fun n => orE (realE (n.getD 0 0) (n.getD 1 0) (n.getD 2 0) (n.getD 3 0) (n.getD 4 0)) (itoB (realN (n.getD 0 0) (n.getD 1 0) (n.getD 2 0) (n.getD 3 0) (n.getD 4 0))) d
def aClear (d : Dk) (w : List ByteArray) : Ans := withN d w 0 fun _ => ⟨.ok ⟨#[99, 108, 101, 97, 114]⟩, dk0⟩
def helpB : ByteArray := ⟨#[98, 121, 116, 101, 115, 32, 99, 108, 101, 97, 114, 32, 99, 108, 111, 99, 107, 115, 32, 100, 114, 105, 102, 116, 32, 104, 101, 108, 112, 32, 108, 105, 110, 107, 32, 108, 111, 99, 97, 108, 32, 108, 111, 115, 101, 32, 109, 101, 109, 98, 101, 114, 115, 32, 109, 105, 100, 112, 111, 105, 110, 116, 32, 109, 111, 100, 101, 32, 112, 108, 97, 110, 32, 112, 117, 116, 32, 114, 101, 97, 100, 32, 114, 101, 97, 108, 32, 114, 101, 99, 101, 105, 118, 101, 32, 114, 111, 117, 110, 100, 32, 115, 108, 111, 116, 32, 115, 112, 114, 101, 97, 100, 32, 115, 116, 97, 114, 116]⟩
def aHelp (d : Dk) (w : List ByteArray) : Ans := withN d w 0 fun _ => ⟨.ok helpB, d⟩
noncomputable def cmdL : List (ByteArray × (Dk → List ByteArray → Ans)) := [
 (⟨#[98, 121, 116, 101, 115]⟩, aBytes),
 (⟨#[99, 108, 101, 97, 114]⟩, aClear),
 (⟨#[99, 108, 111, 99, 107, 115]⟩, aClocks),
 (⟨#[100, 114, 105, 102, 116]⟩, aDrift),
 (⟨#[104, 101, 108, 112]⟩, aHelp),
 (⟨#[108, 105, 110, 107]⟩, aLink),
 (⟨#[108, 111, 99, 97, 108]⟩, aLocal),
 (⟨#[108, 111, 115, 101]⟩, aLose),
 (⟨#[109, 101, 109, 98, 101, 114, 115]⟩, aMembers),
 (⟨#[109, 105, 100, 112, 111, 105, 110, 116]⟩, aMid),
 (⟨#[109, 111, 100, 101]⟩, aMode),
 (⟨#[112, 108, 97, 110]⟩, aPlan),
 (⟨#[112, 117, 116]⟩, aPut),
 (⟨#[114, 101, 97, 100]⟩, aRead),
 (⟨#[114, 101, 97, 108]⟩, aReal),
 (⟨#[114, 101, 99, 101, 105, 118, 101]⟩, aRecv),
 (⟨#[114, 111, 117, 110, 100]⟩, aRound),
 (⟨#[115, 108, 111, 116]⟩, aSlot),
 (⟨#[115, 112, 114, 101, 97, 100]⟩, aSpread),
 (⟨#[115, 116, 97, 114, 116]⟩, aStart)]
noncomputable def cmdF (s : ByteArray) : Option (Dk → List ByteArray → Ans) := lookS s cmdL
def ansB : Except Int ByteArray → ByteArray
 | .ok o => o
 | .error e => errB e
def wordsF (s : ByteArray) : List ByteArray := Lib.goFieldsP (fun x => x == 32) s
noncomputable def lineF (d : Dk) (s : ByteArray) : ByteArray × Dk := match wordsF s with
 | [] => (⟨#[111, 107]⟩, d)
 | x :: w => match cmdF x with
  | none => (errB 3, d)
  | some f => (ansB (f d w).o, (f d w).d)
noncomputable def runF (d : Dk) (l : List ByteArray) : List UInt8 := runG lineF d l
noncomputable def sessF (s : List UInt8) : List UInt8 := if 20000 < s.length then [101, 114, 114, 111, 114, 32, 52, 10] else runF dk0 (linesF s)
end
section
open Go Go.RowKit
def slV : List Sl → List Value
 | [] => []
 | x :: l => .int .i64 x.n :: .int .i64 x.f :: .int .i64 x.t :: slV l
def lkV : List Lk → List Value
 | [] => []
 | x :: l => .int .i64 x.f :: .int .i64 x.t :: .int .i64 x.b :: .int .i64 x.q :: lkV l
theorem slV_snoc (x : Sl) : ∀ l, slV (l ++ [x]) = slV l ++ [.int .i64 x.n, .int .i64 x.f, .int .i64 x.t]
 | [] => rfl
 | y :: l => by rw [List.cons_append, slV, slV_snoc x l]; rfl
theorem lkV_snoc (x : Lk) : ∀ l, lkV (l ++ [x]) = lkV l ++ [.int .i64 x.f, .int .i64 x.t, .int .i64 x.b, .int .i64 x.q]
 | [] => rfl
 | y :: l => by rw [List.cons_append, lkV, lkV_snoc x l]; rfl
theorem slV_at : ∀ {l : List Sl} {j : Nat} {x : Sl}, l[j]? = some x → (slV l)[j * 3]? = some (.int .i64 x.n) ∧ (slV l)[j * 3 + 1]? = some (.int .i64 x.f) ∧ (slV l)[j * 3 + 2]? = some (.int .i64 x.t)
 | [], j, x, h => by simp at h
 | y :: l, 0, x, h => by
  simp at h
  subst h
  exact ⟨rfl, rfl, rfl⟩
 | y :: l, j + 1, x, h => by
  have ih := slV_at (l := l) (j := j) (x := x) (by simpa using h)
  rw [show (j + 1) * 3 = j * 3 + 3 by omega]
  exact ih
theorem lkV_at : ∀ {l : List Lk} {j : Nat} {x : Lk}, l[j]? = some x → (lkV l)[j * 4]? = some (.int .i64 x.f) ∧ (lkV l)[j * 4 + 1]? = some (.int .i64 x.t) ∧ (lkV l)[j * 4 + 2]? = some (.int .i64 x.b) ∧ (lkV l)[j * 4 + 3]? = some (.int .i64 x.q)
 | [], j, x, h => by simp at h
 | y :: l, 0, x, h => by
  simp at h
  subst h
  exact ⟨rfl, rfl, rfl, rfl⟩
 | y :: l, j + 1, x, h => by
  have ih := lkV_at (l := l) (j := j) (x := x) (by simpa using h)
  rw [show (j + 1) * 4 = j * 4 + 4 by omega]
  exact ih
theorem own_at {w : World} {base size n : Nat} {e : TypeId} {v : Value} {xs : List Value} (h : w.ownsRow base e size v n xs) : ∃ A cp, v = .slice A n cp ∧ n ≤ cp ∧ (∀ x, A = some x → v.ownBlock = some x.block) ∧ ∀ i, i < n * size → ∃ g, A = some ⟨g, 0, none⟩ ∧ w.cell? ⟨g, i, none⟩ = xs[i]? := by
 obtain ⟨hl, ⟨rfl, rfl⟩ | ⟨g, cap, cur, rfl, hg, hh, hn, hm, hs, ht⟩⟩ := h
 ·exact ⟨none, 0, rfl, Nat.le_refl _, fun x e => by (first | cases e), fun j hj => by omega⟩
 ·refine ⟨_, cap, rfl, hn, fun x e => by cases e; rfl, fun j hj => ⟨g, rfl, ?_⟩⟩
  rw [cell_of_row w g j cur e (0, 0) hh, ← ht, List.getElem?_take, if_pos hj]
  simp
theorem own_slots {w : World} {b n : Nat} {e : TypeId} {v : Value} {l : List Sl} (h : w.ownsRow b e 3 v n (slV l)) (hn : l.length = n) : ∃ A cp, v = .slice A n cp ∧ SlotsAt w A n l ∧ ∀ x, A = some x → v.ownBlock = some x.block := by
 obtain ⟨A, cp, hv, _, hb, hc⟩ := own_at h
 refine ⟨A, cp, hv, fun j hj => ?_, hb⟩
 obtain ⟨g, hA, _⟩ := hc (j * 3) (by omega)
 have hx : l[j]? = some l[j] := List.getElem?_eq_getElem (by omega)
 obtain ⟨a0, a1, a2⟩ := slV_at hx
 have cell : ∀ i, i < n * 3 → w.cell? ⟨g, 0 + i, none⟩ = (slV l)[i]? := fun i hi => by
  obtain ⟨g', hA', c⟩ := hc i hi
  rw [hA] at hA'; cases hA'
  rw [Nat.zero_add]; exact c
 exact ⟨g, 0, hA, _, hx, (cell (j * 3) (by omega)).trans a0, (cell (j * 3 + 1) (by omega)).trans a1, (cell (j * 3 + 2) (by omega)).trans a2⟩
theorem own_links {w : World} {b n : Nat} {e : TypeId} {v : Value} {l : List Lk} (h : w.ownsRow b e 4 v n (lkV l)) (hn : l.length = n) : ∃ A cp, v = .slice A n cp ∧ LinksAt w A n l ∧ ∀ x, A = some x → v.ownBlock = some x.block := by
 obtain ⟨A, cp, hv, _, hb, hc⟩ := own_at h
 refine ⟨A, cp, hv, fun j hj => ?_, hb⟩
 obtain ⟨g, hA, _⟩ := hc (j * 4) (by omega)
 have hx : l[j]? = some l[j] := List.getElem?_eq_getElem (by omega)
 obtain ⟨a0, a1, a2, a3⟩ := lkV_at hx
 have cell : ∀ i, i < n * 4 → w.cell? ⟨g, 0 + i, none⟩ = (lkV l)[i]? := fun i hi => by
  obtain ⟨g', hA', c⟩ := hc i hi
  rw [hA] at hA'; cases hA'
  rw [Nat.zero_add]; exact c
 exact ⟨g, 0, hA, _, hx, (cell (j * 4) (by omega)).trans a0, (cell (j * 4 + 1) (by omega)).trans a1, (cell (j * 4 + 2) (by omega)).trans a2, (cell (j * 4 + 3) (by omega)).trans a3⟩
theorem own_nums {w : World} {b n : Nat} {e : TypeId} {v : Value} {l : List Int} (h : w.ownsRow b e 1 v n (l.map (Value.int .i64))) (hn : l.length = n) : ∃ A cp, v = .slice A n cp ∧ n ≤ cp ∧ IsL w A l ∧ ∀ x, A = some x → v.ownBlock = some x.block := by
 obtain ⟨A, cp, hv, hle, hb, hc⟩ := own_at h
 refine ⟨A, cp, hv, hle, fun j hj => ?_, hb⟩
 obtain ⟨g, hA, c⟩ := hc j (by omega)
 exact ⟨g, 0, hA, by rw [Nat.zero_add, c, List.getElem?_map, List.getElem?_eq_getElem hj, List.getD_eq_getElem?_getD, List.getElem?_eq_getElem hj]; rfl⟩
structure Ly where
 v : Nat → Value
 S : Ix → Ob
 cv : Value
def rowT : Nat → TypeId
 | 0 => 86
 | 1 => 88
 | 2 => 169
 | 3 => 174
 | _ => 3
def rowN : Nat → Nat
 | 0 => 3
 | 1 => 4
 | 2 => 3
 | 3 => 3
 | _ => 1
def rowX (d : Dk) : Nat → List Value
 | 0 => slV d.p.sl
 | 1 => lkV d.p.lk
 | 2 => lsV d.r.ls
 | 3 => rgV d.r.rg
 | 4 => d.r.dr.map (Value.int .i64)
 | _ => d.r.md.map (Value.int .i64)
def rowL (d : Dk) : Nat → Nat
 | 0 => d.p.sl.length
 | 1 => d.p.lk.length
 | 2 => d.r.ls.length
 | 3 => d.r.rg.length
 | 4 => d.r.dr.length
 | _ => d.r.md.length
abbrev deskC (d : Dk) (L : Ly) : Array Value := #[.int .i64 d.p.nd, .int .i64 d.p.fa, .int .i64 d.p.sk, .int .i64 d.p.ji, .int .i64 d.p.dr, .int .i64 d.p.rd, L.v 0, L.v 1, .int .i64 d.p.fr, .slice none 0 0, L.cv, L.v 2, L.v 3, L.v 4, L.v 5]
def DFoot (g : Nat) (L : Ly) (i : Nat) : Prop := i = g ∨ (∃ j, j < 6 ∧ (L.v j).ownBlock = some i) ∨ Fmy L.S i
def CluAt (d : Dk) (L : Ly) : Prop := match d.c with
 | none => L.cv = .pointer none ∧ L.S = fun _ => Ob.none
 | some x => ∃ a, L.cv = ptrV a.g ∧ L.S = shape a (fullN d.p) d.p ⟨L.v 0, L.v 1, .slice none 0 0⟩ x.1 x.2
structure DkL (w0 w : World) (g : Nat) (d : Dk) (L : Ly) : Prop where
 low : Below w0.heap.size w0 w
 gb : w0.heap.size ≤ g
 blk : Blk w g 37 (deskC d L)
 own : ∀ j, j < 6 → w.ownsRow w0.heap.size (rowT j) (rowN j) (L.v j) (rowL d j) (rowX d j)
 off : ∀ j, j < 6 → (L.v j).ownBlock ≠ some g
 sep : ∀ i j b, i < 6 → j < 6 → (L.v i).ownBlock = some b → (L.v j).ownBlock = some b → i = j
 fam : ∃ b, w0.heap.size ≤ b ∧ b ≤ w.heap.size ∧ Objs w b L.S
 offF : ¬ Fmy L.S g
 sepF : ∀ j b, j < 6 → (L.v j).ownBlock = some b → ¬ Fmy L.S b
 clu : CluAt d L
structure KeptD (w w' : World) (g : Nat) (L L' : Ly) : Prop where
 os : w'.os = w.os
 tape : w'.tape = w.tape
 output : w'.output = w.output
 size : w.heap.size ≤ w'.heap.size
 block : ∀ i, i < w.heap.size → ¬ DFoot g L i → w'.heap[i]? = w.heap[i]?
 fam : ∀ i, DFoot g L' i → DFoot g L i ∨ w.heap.size ≤ i
def DkTo (w0 w : World) (g : Nat) (L : Ly) (w' : World) (d' : Dk) : Prop := ∃ L', DkL w0 w' g d' L' ∧ KeptD w w' g L L'
section
variable {w0 w w' w2 : World} {g : Nat} {d d' : Dk} {L L' L2 : Ly}
theorem KeptD.trans (h : KeptD w w' g L L') (h2 : KeptD w' w2 g L' L2) : KeptD w w2 g L L2 :=
 ⟨h2.os.trans h.os, h2.tape.trans h.tape, h2.output.trans h.output, Nat.le_trans h.size h2.size,
  fun i hi hn => (h2.block i (Nat.lt_of_lt_of_le hi h.size) (fun hf => (h.fam i hf).elim hn (fun e => by omega))).trans (h.block i hi hn),
  fun k hf => (h2.fam k hf).elim (h.fam k) (fun e => .inr (Nat.le_trans h.size e))⟩
theorem KeptD.of_below (hB : Below w.heap.size w w') : KeptD w w' g L L := ⟨hB.os, hB.tape, hB.output, hB.size, fun i hi _ => hB.block i hi, fun _ h => .inl h⟩
theorem DkL.lo (h : DkL w0 w g d L) {i : Nat} (hi : DFoot g L i) : w0.heap.size ≤ i ∧ i < w.heap.size := by
 rcases hi with rfl | ⟨j, hj, e⟩ | ⟨x, hx⟩
 ·exact ⟨h.gb, h.blk.lt⟩
 ·have h1 := h.own j hj
  obtain ⟨_, ⟨hv, _⟩ | ⟨b, cap, cur, hv, hb, hh, _⟩⟩ := h1
  ·rw [hv] at e; cases e
  ·rw [hv] at e; cases e; exact ⟨hb, (Array.getElem?_eq_some_iff.1 hh).1⟩
 ·obtain ⟨b, hb, _, hO⟩ := h.fam
  have := hO.own x i hx
  omega
theorem DkL.low_of (h : DkL w0 w g d L) (hk : KeptD w w' g L L') : Below w0.heap.size w0 w' :=
 ⟨hk.os.trans h.low.os, hk.tape.trans h.low.tape, hk.output.trans h.low.output, Nat.le_trans h.low.size hk.size,
  fun i hi => (hk.block i (Nat.lt_of_lt_of_le hi h.low.size) (fun hf => by have := (h.lo hf).1; omega)).trans (h.low.block i hi)⟩
theorem DkL.same (h : DkL w0 w g d L) (hs : w.heap.size ≤ w'.heap.size) (hl : Below w0.heap.size w0 w') (hk : ∀ i, i < w.heap.size → DFoot g L i → w'.heap[i]? = w.heap[i]?) : DkL w0 w' g d L :=
 { low := hl
   gb := h.gb
   blk := (hk g h.blk.lt (.inl rfl)).trans h.blk
   own := fun j hj => own_keepH (h.own j hj) (fun b e => hk b (h.lo (.inr (.inl ⟨j, hj, e⟩))).2 (.inr (.inl ⟨j, hj, e⟩)))
   off := h.off
   sep := h.sep
   fam := by
    obtain ⟨b, h1, h2, hO⟩ := h.fam
    exact ⟨b, h1, by omega, hO.keepF hs (fun i hi hf => hk i hi (.inr (.inr hf)))⟩
   offF := h.offF
   sepF := h.sepF
   clu := h.clu }
theorem DkL.below (h : DkL w0 w g d L) (hB : Below w.heap.size w w') : DkL w0 w' g d L :=
 h.same hB.size (h.low_of (KeptD.of_below (L := L) (g := g) hB)) (fun i hi _ => hB.block i hi)
theorem DkL.to (h : DkL w0 w g d L) (hB : Below w.heap.size w w') : DkTo w0 w g L w' d := ⟨L, h.below hB, .of_below hB⟩
theorem DkTo.after (hB : Below w.heap.size w w2) (h : DkTo w0 w2 g L w' d') : DkTo w0 w g L w' d' := by
 obtain ⟨L', h1, h2⟩ := h
 exact ⟨L', h1, (KeptD.of_below hB).trans h2⟩
theorem DkTo.below (h : DkTo w0 w g L w' d') (hB : Below w'.heap.size w' w2) : DkTo w0 w g L w2 d' := by
 obtain ⟨L', h1, h2⟩ := h
 exact ⟨L', h1.below hB, h2.trans (.of_below hB)⟩
theorem KeptD.grown (hg : w.grownBy w' (some g)) : KeptD w w' g L L :=
 ⟨hg.os, hg.tape, hg.output, hg.size, fun i hi hn => hg.block i hi (fun e => hn (.inl (by cases e; rfl))), fun _ h => .inl h⟩
theorem DkL.put (h : DkL w0 w g d L) (hg : w.grownBy w' (some g)) (hb : Blk w' g 37 (deskC d' L)) (hX : ∀ j, rowX d' j = rowX d j ∧ rowL d' j = rowL d j) (hc : d.c = none) (hc' : d'.c = none) : DkTo w0 w g L w' d' := by
 have hk : KeptD w w' g L L := .grown hg
 have ho : ∀ i, i < w.heap.size → i ≠ g → w'.heap[i]? = w.heap[i]? := fun i hi hn => hg.block i hi (fun e => hn (by cases e; rfl))
 refine ⟨L, ⟨h.low_of hk, h.gb, hb, fun j hj => ?_, h.off, h.sep, ?_, h.offF, h.sepF, ?_⟩, hk⟩
 ·rw [(hX j).1, (hX j).2]
  exact own_keepH (h.own j hj) (fun b e => ho b (h.lo (.inr (.inl ⟨j, hj, e⟩))).2 (fun e2 => h.off j hj (by rw [e, e2])))
 ·obtain ⟨b, h1, h2, hO⟩ := h.fam
  exact ⟨b, h1, Nat.le_trans h2 hg.size, hO.keepF hg.size (fun i hi hf => ho i hi (fun e => h.offF (by rw [← e]; exact hf)))⟩
 ·have := h.clu
  unfold CluAt at this ⊢
  rw [hc] at this
  rw [hc']
  exact this
theorem DkL.row (h : DkL w0 w g d L) (j0 : Nat) (hj0 : j0 < 6) (v : Value) (hg : w.grownBy w2 (L.v j0).ownBlock) (hv : v.ownBlock = (L.v j0).ownBlock ∨ ∀ b, v.ownBlock = some b → w.heap.size ≤ b) (hg2 : w2.grownBy w' (some g))
 (hown : w2.ownsRow w0.heap.size (rowT j0) (rowN j0) v (rowL d' j0) (rowX d' j0)) (hb : Blk w' g 37 (deskC d' { L with v := updF L.v j0 v })) (hX : ∀ j, j < 6 → j ≠ j0 → rowX d' j = rowX d j ∧ rowL d' j = rowL d j)
 (hc : d'.c = d.c) (hp : d.c = none ∨ (2 ≤ j0 ∧ d'.p = d.p)) : DkTo w0 w g L w' d' := by
 have hsz := hg.size
 have hlt2 : ∀ b, v.ownBlock = some b → b < w2.heap.size := fun b e => by
  obtain ⟨_, ⟨e2, _⟩ | ⟨b2, cap, cur, e2, hb, hh, _⟩⟩ := hown
  ·rw [e2] at e; cases e
  ·rw [e2] at e; cases e; exact (Array.getElem?_eq_some_iff.1 hh).1
 have ho : ∀ i, i < w.heap.size → i ≠ g → some i ≠ (L.v j0).ownBlock → w'.heap[i]? = w.heap[i]? := fun i hi hn hm => (hg2.block i (Nat.lt_of_lt_of_le hi hsz) (fun e => hn (by cases e; rfl))).trans (hg.block i hi hm)
 have hk : KeptD w w' g L { L with v := updF L.v j0 v } := by
  refine ⟨hg2.os.trans hg.os, hg2.tape.trans hg.tape, hg2.output.trans hg.output, Nat.le_trans hsz hg2.size, fun i hi hn => ho i hi (fun e => hn (.inl e)) (fun e => hn (.inr (.inl ⟨j0, hj0, e.symm⟩))), ?_⟩
  rintro i (rfl | ⟨j, hj, e⟩ | hf)
  ·exact .inl (.inl rfl)
  ·dsimp only [updF] at e
   by_cases e2 : j = j0
   ·rw [if_pos e2] at e
    rcases hv with h1 | h1
    ·exact .inl (.inr (.inl ⟨j0, hj0, by rw [← h1]; exact e⟩))
    ·exact .inr (h1 i e)
   ·rw [if_neg e2] at e
    exact .inl (.inr (.inl ⟨j, hj, e⟩))
  ·exact .inl (.inr (.inr hf))
 have hvg : v.ownBlock ≠ some g := fun e => by
  rcases hv with h1 | h1
  ·exact h.off j0 hj0 (by rw [← h1]; exact e)
  ·have := h1 g e; have := h.blk.lt; omega
 have hvs : ∀ i b, i < 6 → i ≠ j0 → (L.v i).ownBlock = some b → v.ownBlock ≠ some b := fun i b hi hne e e2 => by
  rcases hv with h1 | h1
  ·exact hne (h.sep i j0 b hi hj0 e (by rw [← h1]; exact e2))
  ·have := h1 b e2; have := (h.lo (.inr (.inl ⟨i, hi, e⟩))).2; omega
 have hvf : ∀ b, v.ownBlock = some b → ¬ Fmy L.S b := fun b e hf => by
  rcases hv with h1 | h1
  ·exact h.sepF j0 b hj0 (by rw [← h1]; exact e) hf
  ·have := h1 b e; have := (h.lo (.inr (.inr hf))).2; omega
 refine ⟨{ L with v := updF L.v j0 v }, ⟨h.low_of hk, h.gb, hb, fun j hj => ?_, fun j hj => ?_, fun i j b hi hj e1 e2 => ?_, ?_, h.offF, fun j b hj e => ?_, ?_⟩, hk⟩
 ·dsimp only [updF]
  by_cases e : j = j0
  ·subst e
   rw [if_pos rfl]
   exact own_keepH hown (fun b e => hg2.block b (hlt2 b e) (fun e2 => hvg (by rw [e]; exact e2)))
  ·rw [if_neg e, (hX j hj e).1, (hX j hj e).2]
   exact own_keepH (h.own j hj) (fun b e3 => ho b (h.lo (.inr (.inl ⟨j, hj, e3⟩))).2 (fun e2 => h.off j hj (by rw [e3, e2])) (fun e2 => e (h.sep j j0 b hj hj0 e3 e2.symm)))
 ·dsimp only [updF]
  split
  ·exact hvg
  ·exact h.off j hj
 ·dsimp only [updF] at e1 e2
  by_cases a1 : i = j0 <;> by_cases a2 : j = j0
  ·omega
  ·rw [if_pos a1] at e1
   rw [if_neg a2] at e2
   exact absurd e1 (hvs j b hj a2 e2)
  ·rw [if_neg a1] at e1
   rw [if_pos a2] at e2
   exact absurd e2 (hvs i b hi a1 e1)
  ·rw [if_neg a1] at e1
   rw [if_neg a2] at e2
   exact h.sep i j b hi hj e1 e2
 ·obtain ⟨b, h1, h2, hO⟩ := h.fam
  exact ⟨b, h1, Nat.le_trans h2 hk.size, hO.keepF hk.size (fun i hi hf => ho i hi (fun e => h.offF (by rw [← e]; exact hf)) (fun e => h.sepF j0 i hj0 e.symm hf))⟩
 ·dsimp only [updF] at e
  by_cases e2 : j = j0
  ·rw [if_pos e2] at e; exact hvf b e
  ·rw [if_neg e2] at e; exact h.sepF j b hj e
 ·have hcl := h.clu
  unfold CluAt at hcl ⊢
  rw [hc]
  rcases hp with hp | ⟨hp, hp2⟩
  ·rw [hp] at hcl ⊢
   exact hcl
  ·cases hd : d.c with
   | none => rw [hd] at hcl; exact hcl
   | some x =>
    rw [hd] at hcl
    obtain ⟨a, h1, h2⟩ := hcl
    refine ⟨a, h1, ?_⟩
    rw [hp2]
    dsimp only [updF]
    rw [if_neg (by omega), if_neg (by omega)]
    exact h2
theorem DkL.clus (h : DkL w0 w g d L) {fy : Nat} {c c' : Cl} (hd : d.c = some (fy, c)) {b : Nat} {a : Ad} (hL : L.S = shape a (fullN d.p) d.p ⟨L.v 0, L.v 1, .slice none 0 0⟩ fy c) (hcv : L.cv = ptrV a.g) (hb : w0.heap.size ≤ b) (hbw : b ≤ w.heap.size)
 (ht : ClTo w b a (fullN d.p) d.p ⟨L.v 0, L.v 1, .slice none 0 0⟩ fy c w' c') : DkTo w0 w g L w' { d with c := some (fy, c') } := by
 obtain ⟨a', hg', hA', hk'⟩ := ht
 have hk : KeptD w w' g L { L with S := shape a' (fullN d.p) d.p ⟨L.v 0, L.v 1, .slice none 0 0⟩ fy c' } := by
  refine ⟨hk'.os, hk'.tape, hk'.output, hk'.size, fun i hi hn => hk'.block i hi (fun hf => hn (.inr (.inr (by rw [hL]; exact hf)))), ?_⟩
  rintro i (rfl | h1 | hf)
  ·exact .inl (.inl rfl)
  ·exact .inl (.inr (.inl h1))
  ·rcases hk'.fam i hf with h1 | h1
   ·exact .inl (.inr (.inr (by rw [hL]; exact h1)))
   ·exact .inr h1
 have ho : ∀ i, i < w.heap.size → ¬ Fmy L.S i → w'.heap[i]? = w.heap[i]? := fun i hi hn => hk'.block i hi (by rw [← hL]; exact hn)
 refine ⟨{ L with S := shape a' (fullN d.p) d.p ⟨L.v 0, L.v 1, .slice none 0 0⟩ fy c' }, ⟨h.low_of hk, h.gb, (ho g h.blk.lt h.offF).trans h.blk, fun j hj => own_keepH (h.own j hj) (fun b e => ho b (h.lo (.inr (.inl ⟨j, hj, e⟩))).2 (h.sepF j b hj e)), h.off, h.sep, ⟨b, hb, Nat.le_trans hbw hk'.size, hA'⟩, fun hf => ?_, fun j b hj e hf => ?_, ?_⟩, hk⟩
 ·rcases hk'.fam g hf with h1 | h1
  ·exact h.offF (by rw [hL]; exact h1)
  ·have := h.blk.lt; omega
 ·rcases hk'.fam b hf with h1 | h1
  ·exact h.sepF j b hj e (by rw [hL]; exact h1)
  ·have := (h.lo (.inr (.inl ⟨j, hj, e⟩))).2; omega
 ·exact ⟨a', by rw [hcv, ← hg'], rfl⟩
theorem DkL.start (h : DkL w0 w g d L) (hd : d.c = none) (hB : Below w.heap.size w w2) {b : Nat} {a : Ad} {fy : Nat} {c : Cl} (hb : w.heap.size ≤ b) (hA : ClAt w2 b a (fullN d.p) d.p ⟨L.v 0, L.v 1, .slice none 0 0⟩ fy c) : DkTo w0 w g L (w2.setCell ⟨g, 10, none⟩ (ptrV a.g)) { d with c := some (fy, c) } := by
 have hgl := h.blk.lt
 have hbw2 : b ≤ w2.heap.size := by
  have := (hA.own .clu a.g (by simp [shape, Ob.foot]))
  omega
 have ho : ∀ i, i < w2.heap.size → i ≠ g → (w2.setCell ⟨g, 10, none⟩ (ptrV a.g)).heap[i]? = w2.heap[i]? := fun i _ hn => Below.heap_setCell w2 _ _ i hn
 have hsz2 : (w2.setCell ⟨g, 10, none⟩ (ptrV a.g)).heap.size = w2.heap.size := by simp [World.setCell]
 have hk : KeptD w (w2.setCell ⟨g, 10, none⟩ (ptrV a.g)) g L { v := L.v, S := shape a (fullN d.p) d.p ⟨L.v 0, L.v 1, .slice none 0 0⟩ fy c, cv := ptrV a.g } := by
  refine ⟨hB.os, hB.tape, hB.output, by rw [hsz2]; exact hB.size, fun i hi hn => (ho i (Nat.lt_of_lt_of_le hi hB.size) (fun e => hn (.inl e))).trans (hB.block i hi), ?_⟩
  rintro i (rfl | h1 | ⟨x, hx⟩)
  ·exact .inl (.inl rfl)
  ·exact .inl (.inr (.inl h1))
  ·exact .inr (Nat.le_trans hb (hA.own x i hx).1)
 have hnf : ∀ i, i < w.heap.size → ¬ Fmy (shape a (fullN d.p) d.p ⟨L.v 0, L.v 1, .slice none 0 0⟩ fy c) i := fun i hi ⟨x, hx⟩ => by have := (hA.own x i hx).1; omega
 refine ⟨{ v := L.v, S := shape a (fullN d.p) d.p ⟨L.v 0, L.v 1, .slice none 0 0⟩ fy c, cv := ptrV a.g }, ⟨h.low_of hk, h.gb, ?_, fun j hj => ?_, h.off, h.sep, ⟨b, ?_, by rw [hsz2]; exact hbw2, ?_⟩, hnf g hgl, fun j b2 hj e => hnf b2 (h.lo (.inr (.inl ⟨j, hj, e⟩))).2, ⟨a, rfl, rfl⟩⟩, hk⟩
 ·have := (h.blk.below hB hgl).set_ 10 (ptrV a.g)
  exact this
 ·exact own_keepH (h.own j hj) (fun b2 e => (ho b2 (Nat.lt_of_lt_of_le (h.lo (.inr (.inl ⟨j, hj, e⟩))).2 hB.size) (fun e2 => h.off j hj (by rw [e, e2]))).trans (hB.block b2 (h.lo (.inr (.inl ⟨j, hj, e⟩))).2))
 ·have := h.low.size; omega
 ·exact hA.keepF (by rw [hsz2]; exact Nat.le_refl _) (fun i hi hf => ho i hi (fun e => hnf g hgl (by rw [← e]; exact hf)))
theorem DkL.reset (h : DkL w0 w g d L) (hg : w.grownBy w' (some g)) {L1 : Ly} (hL1 : L1 = { L with v := fun j => if j < 2 then L.v j else .slice none 0 0 }) (hb : Blk w' g 37 (deskC { d with r := ⟨[], [], [], []⟩ } L1)) : DkTo w0 w g L w' { d with r := ⟨[], [], [], []⟩ } := by
 have ho : ∀ i, i < w.heap.size → i ≠ g → w'.heap[i]? = w.heap[i]? := fun i hi hn => hg.block i hi (fun e => hn (by cases e; rfl))
 have hv : ∀ j b, (L1.v j).ownBlock = some b → j < 2 ∧ (L.v j).ownBlock = some b := fun j b e => by
  rw [hL1] at e
  dsimp only at e
  by_cases hj : j < 2
  ·rw [if_pos hj] at e; exact ⟨hj, e⟩
  ·rw [if_neg hj] at e; cases e
 have hS : L1.S = L.S := by rw [hL1]
 have hk : KeptD w w' g L L1 := by
  refine ⟨hg.os, hg.tape, hg.output, hg.size, fun i hi hn => ho i hi (fun e => hn (.inl e)), ?_⟩
  rintro i (rfl | ⟨j, hj, e⟩ | hf)
  ·exact .inl (.inl rfl)
  ·exact .inl (.inr (.inl ⟨j, hj, (hv j i e).2⟩))
  ·exact .inl (.inr (.inr (by rw [← hS]; exact hf)))
 refine ⟨L1, ⟨h.low_of hk, h.gb, hb, fun j hj => ?_, fun j hj e => h.off j hj (hv j g e).2, fun i j b hi hj e1 e2 => h.sep i j b hi hj (hv i b e1).2 (hv j b e2).2, ?_, by rw [hS]; exact h.offF, fun j b hj e => by rw [hS]; exact h.sepF j b hj (hv j b e).2, ?_⟩, hk⟩
 ·by_cases h2 : j < 2
  ·have e1 : L1.v j = L.v j := by rw [hL1]; exact if_pos h2
   have e2 : rowX { d with r := ⟨[], [], [], []⟩ } j = rowX d j ∧ rowL { d with r := ⟨[], [], [], []⟩ } j = rowL d j := by
    obtain rfl | rfl : j = 0 ∨ j = 1 := by omega
    ·exact ⟨rfl, rfl⟩
    ·exact ⟨rfl, rfl⟩
   rw [e1, e2.1, e2.2]
   exact own_keepH (h.own j hj) (fun b e => ho b (h.lo (.inr (.inl ⟨j, hj, e⟩))).2 (fun e2 => h.off j hj (by rw [e, e2])))
  ·have e1 : L1.v j = .slice none 0 0 := by rw [hL1]; exact if_neg h2
   have e2 : rowX { d with r := ⟨[], [], [], []⟩ } j = [] ∧ rowL { d with r := ⟨[], [], [], []⟩ } j = 0 := by
    obtain rfl | rfl | rfl | rfl : j = 2 ∨ j = 3 ∨ j = 4 ∨ j = 5 := by omega
    all_goals exact ⟨rfl, rfl⟩
   rw [e1, e2.1, e2.2]
   exact ⟨by simp, .inl ⟨rfl, rfl⟩⟩
 ·obtain ⟨b, h1, h2, hO⟩ := h.fam
  rw [hS]
  exact ⟨b, h1, Nat.le_trans h2 hg.size, hO.keepF hg.size (fun i hi hf => ho i hi (fun e => h.offF (by rw [← e]; exact hf)))⟩
 ·have hcl := h.clu
  unfold CluAt at hcl ⊢
  cases hd : d.c with
  | none => rw [hd] at hcl; exact ⟨by rw [hL1]; exact hcl.1, by rw [hL1]; exact hcl.2⟩
  | some x =>
   rw [hd] at hcl
   obtain ⟨a, h1, h2⟩ := hcl
   exact ⟨a, by rw [hL1]; exact h1, by rw [hL1]; exact h2⟩
abbrev ly0 : Ly := ⟨fun _ => .slice none 0 0, fun _ => .none, .pointer none⟩
theorem dk0_at (hl : Below w0.heap.size w0 w) (hgb : w0.heap.size ≤ g) (hb : Blk w g 37 (deskC dk0 ly0)) : DkL w0 w g dk0 ly0 := by
 have hnf : ∀ i, ¬ Fmy ly0.S i := fun i ⟨x, hx⟩ => by simp [Ob.foot] at hx
 refine ⟨hl, hgb, hb, fun j hj => ⟨?_, .inl ⟨rfl, ?_⟩⟩, (fun j hj e => by cases e), (fun i j b hi hj e => by cases e), ⟨w.heap.size, hl.size, Nat.le_refl _, ⟨fun x => trivial, fun x k hm => by simp [Ob.foot] at hm, fun x y k hm => by simp [Ob.foot] at hm⟩⟩, hnf g, fun j b hj e => hnf b, rfl, rfl⟩
 ·obtain rfl | rfl | rfl | rfl | rfl | rfl : j = 0 ∨ j = 1 ∨ j = 2 ∨ j = 3 ∨ j = 4 ∨ j = 5 := by omega
  all_goals rfl
 ·obtain rfl | rfl | rfl | rfl | rfl | rfl : j = 0 ∨ j = 1 ∨ j = 2 ∨ j = 3 ∨ j = 4 ∨ j = 5 := by omega
  all_goals rfl
theorem DkL.clear (h : DkL w0 w g d L) (hg : w.grownBy w' (some g)) (hb : Blk w' g 37 (deskC dk0 ly0)) : DkTo w0 w g L w' dk0 := by
 have hnf : ∀ i, ¬ Fmy ly0.S i := fun i ⟨x, hx⟩ => by simp [Ob.foot] at hx
 have hk : KeptD w w' g L ly0 := by
  refine ⟨hg.os, hg.tape, hg.output, hg.size, fun i hi hn => hg.block i hi (fun e => hn (.inl (by cases e; rfl))), ?_⟩
  rintro i (rfl | ⟨j, hj, e⟩ | hf)
  ·exact .inl (.inl rfl)
  ·cases e
  ·exact absurd hf (hnf i)
 exact ⟨ly0, dk0_at (h.low_of hk) h.gb hb, hk⟩
end
end
section
open Go Go.RowKit
def PrB (c : Cl) : Prop := ∀ k i, ∀ d ∈ (c.pr k i).q, d.size ≤ 40
def SdB (c : Cl) : Prop := ∀ k, ∀ d ∈ (c.sd k).q, d.size ≤ 40
section
variable {p : Pl} {c : Cl}
theorem PrB.congr {c' : Cl} (h : PrB c) (e : c'.pr = c.pr) : PrB c' := fun k i => by rw [e]; exact h k i
theorem SdB.congr {c' : Cl} (h : SdB c) (e : c'.sd = c.sd) : SdB c' := fun k => by rw [e]; exact h k
theorem chanF_b (h : PrB c) {tn : Nat} {f : FrR} (hf : f.d.size ≤ 40) : PrB (chanF p tn f c) := by
 unfold chanF
 split
 ·exact h
 ·split
  ·exact h
  ·split
   ·intro k i
    dsimp only
    split
    ·unfold upd2
     split
     ·intro d hd
      have hd : d ∈ putQ (c.pr f.lk.toNat tn).q f.d (putE f.d.size (c.pr f.lk.toNat tn).q.length 16) := hd
      unfold putQ at hd
      split at hd
      ·rcases List.mem_append.1 hd with h1 | h1
       ·exact h _ _ d h1
       ·simp at h1; subst h1; exact hf
      ·exact h _ _ d hd
     ·exact h k i
    ·exact h k i
   ·exact h
theorem chanF_sd {tn : Nat} {f : FrR} : (chanF p tn f c).sd = c.sd := by
 unfold chanF
 split
 ·rfl
 ·split
  ·rfl
  ·split <;> rfl
theorem chanO_b (h : PrB c) {tn : Nat} {fr : Option FrR} {b : Bool} (hf : ∀ f, fr = some f → f.d.size ≤ 40) : PrB (chanO p tn fr b c) ∧ (chanO p tn fr b c).sd = c.sd := by
 unfold chanO
 split
 ·exact ⟨h, rfl⟩
 ·rename_i f
  split
  ·exact ⟨chanF_b h (hf f rfl), chanF_sd⟩
  ·exact ⟨h, rfl⟩
theorem hearsF_b (h : PrB c) {from_ tn slot : Nat} {fr : Option FrR} {ls : List Ls} (hf : ∀ f, fr = some f → f.d.size ≤ 40) : PrB (hearsF p from_ tn slot fr ls c) ∧ (hearsF p from_ tn slot fr ls c).sd = c.sd := by
 have h1 := chanO_b (p := p) (tn := tn) (b := cameB fr ls slot 0 tn) h hf
 have h2 := chanO_b (p := p) (tn := tn) (b := cameB fr ls slot 1 tn) h1.1 hf
 exact ⟨h2.1.congr rfl, h2.2.trans h1.2⟩
theorem hearAll_b (h : PrB c) {node slot : Nat} {fr : Option FrR} {ls : List Ls} (hf : ∀ f, fr = some f → f.d.size ≤ 40) : ∀ k, PrB (hearAll p node slot fr ls c k) ∧ (hearAll p node slot fr ls c k).sd = c.sd
 | 0 => ⟨h, rfl⟩
 | k + 1 => by
  have ih := hearAll_b h (node := node) (slot := slot) (ls := ls) hf k
  unfold hearAll
  split
  ·exact ih
  ·have h2 := hearsF_b (p := p) (from_ := node) (tn := k) (slot := slot) (ls := ls) ih.1 hf
   exact ⟨h2.1, h2.2.trans ih.2⟩
theorem loadsF_b {now node : Int} : ∀ (l : List Lk) (k : Nat) (c : Cl), SdB c → SdB (loadsF now node l k c).1 ∧ (loadsF now node l k c).1.pr = c.pr ∧ (loadsF now node l k c).2.2.2.size ≤ 40
 | [], _, c, h => ⟨h, rfl, by unfold loadsF; show ByteArray.size ⟨#[]⟩ ≤ 40; decide⟩
 | l :: ls, k, c, h => by
  unfold loadsF
  split
  ·split
   ·refine ⟨fun q d hd => ?_, rfl, ?_⟩
    ·dsimp only [updF] at hd
     split at hd
     ·exact h k d (List.mem_of_mem_tail hd)
     ·exact h q d hd
    ·dsimp only
     cases hq : (c.sd k).q with
     | nil => decide
     | cons x q => exact h k x (by rw [hq]; simp)
   ·refine loadsF_b ls (k + 1) _ (fun q d hd => ?_)
    dsimp only [updF] at hd
    split at hd
    ·exact h k d hd
    ·exact h q d hd
  ·exact loadsF_b ls (k + 1) c h
theorem slotF_b (h : PrB c) (hs : SdB c) (fa : Nat) (r : Rn) (i : Nat) : PrB (slotF p fa r i c) ∧ SdB (slotF p fa r i c) := by
 unfold slotF
 split
 ·exact ⟨h, hs⟩
 ·dsimp only
  split
  ·rename_i s _ _
   have h1 := loadsF_b (now := c.rd * p.rd + s.f) (node := s.n) p.lk 0 { c with mm := updF c.mm s.n.toNat (c.mm s.n.toNat).send } hs
   have h2 := fun (fr : Option FrR) (hf : ∀ f, fr = some f → f.d.size ≤ 40) => hearAll_b (p := p) (node := s.n.toNat) (slot := i) (ls := r.ls) (c := (loadsF (c.rd * p.rd + s.f) s.n p.lk 0 { c with mm := updF c.mm s.n.toNat (c.mm s.n.toNat).send }).1) (h.congr h1.2.1) (fr := fr) hf p.nd.toNat
   exact ⟨(h2 _ (fun f e => by cases e; exact h1.2.2)).1, h1.1.congr (h2 _ (fun f e => by cases e; exact h1.2.2)).2⟩
  ·rename_i s _ _
   have h2 := hearAll_b (p := p) (node := s.n.toNat) (slot := i) (ls := r.ls) (c := { c with mm := updF c.mm s.n.toNat (c.mm s.n.toNat).send }) (h.congr rfl) (fr := none) (fun f e => by cases e) p.nd.toNat
   exact ⟨h2.1, hs.congr h2.2⟩
theorem slotsF_b (h : PrB c) (hs : SdB c) (fa : Nat) (r : Rn) : ∀ k, PrB (slotsF p fa r c k) ∧ SdB (slotsF p fa r c k)
 | 0 => ⟨h, hs⟩
 | k + 1 => by
  have ih := slotsF_b h hs fa r k
  exact slotF_b ih.1 ih.2 fa r k
theorem playF_b (h : PrB c) (hs : SdB c) (fa : Nat) (r : Rn) : PrB (playF p fa r c) := by
 unfold playF
 split
 ·exact h
 ·exact (slotsF_b h hs fa r _).1.congr rfl
theorem clPut_b (h : PrB c) (k : Nat) (l : Lk) (d : ByteArray) : PrB (clPut k l d c) := h.congr rfl
theorem clRecv_b (h : PrB c) (k i : Nat) : PrB (clRecv k i c) := fun a b d hd => by
 have hd : d ∈ (upd2 c.pr k i { c.pr k i with q := (c.pr k i).q.tail } a b).q := hd
 unfold upd2 at hd
 split at hd
 ·exact h k i d (List.mem_of_mem_tail hd)
 ·exact h a b d hd
theorem start_b (zs : List Int) : PrB (startF p zs) := fun k i d hd => by
 have : d ∈ ([] : List ByteArray) := hd
 cases this
end
end
section
open Go Go.RowKit
attribute [local irreducible] playF startF clPut clRecv chk
structure DkOk (k : Nat) (d : Dk) : Prop where
 wn : d.p.wn = []
 sl : d.p.sl.length ≤ 32
 lk : d.p.lk.length ≤ 8
 ls : d.r.ls.length ≤ k
 rg : d.r.rg.length ≤ k
 dr : d.r.dr.length ≤ k
 md : d.r.md.length ≤ k
 clu : ∀ x, d.c = some x → chk d.p = (0, -1) ∧ ClOk d.p (1 + 2592 * k) x.2 ∧ x.2.rd ≤ k ∧ x.1 < 65536 ∧ (liars x.1 d.p.nd.toNat : Int) ≤ d.p.fa ∧ PrB x.2
theorem dk0_ok : DkOk 0 dk0 := ⟨rfl, by simp [dk0], by simp [dk0], by simp [dk0], by simp [dk0], by simp [dk0], by simp [dk0], fun x h => by simp [dk0] at h⟩
section
variable {k m : Nat} {d : Dk} {w : List ByteArray}
theorem DkOk.mono (h : DkOk k d) (hk : k ≤ m) : DkOk m d := by
 have := h.ls; have := h.rg; have := h.dr; have := h.md
 refine ⟨h.wn, h.sl, h.lk, by omega, by omega, by omega, by omega, fun x hx => ?_⟩
 obtain ⟨h1, h2, h3, h4, h5⟩ := h.clu x hx
 exact ⟨h1, h2.mono (by omega), by omega, h4, h5⟩
theorem with_ok {n : Int} {f : List Int → Ans} (h : DkOk k d) (hf : ∀ l, numbersF w n = some l → DkOk k (f l).d) : DkOk k (withN d w n f).d := by
 unfold withN
 split
 ·exact h
 ·rename_i l hl; exact hf l hl
theorem noC_ok {f : Ans} (h : DkOk k d) (hf : d.c = none → DkOk k f.d) : DkOk k (noC d f).d := by
 unfold noC
 split
 ·rename_i e; exact hf e
 ·exact h
theorem hasC_ok {f : Nat → Cl → Ans} (h : DkOk k d) (hf : ∀ x, d.c = some x → DkOk k (f x.1 x.2).d) : DkOk k (hasC d f).d := by
 unfold hasC
 split
 ·exact h
 ·rename_i x e; exact hf x e
theorem DkOk.plan (h : DkOk k d) (hc : d.c = none) {p : Pl} (hw : p.wn = []) (h1 : p.sl.length ≤ 32) (h2 : p.lk.length ≤ 8) : DkOk k { d with p := p } :=
 ⟨hw, h1, h2, h.ls, h.rg, h.dr, h.md, fun x hx => by rw [hc] at hx; cases hx⟩
theorem DkOk.clus (h : DkOk k d) {x : Nat × Cl} (hx : d.c = some x) {c : Cl} (hok : ClOk d.p (1 + 2592 * k) c) (hrd : c.rd ≤ k) (hb : PrB c) : DkOk k { d with c := some (x.1, c) } :=
 ⟨h.wn, h.sl, h.lk, h.ls, h.rg, h.dr, h.md, fun y hy => by
  obtain ⟨h1, h2, h3, h4, h5, h6⟩ := h.clu x hx
  cases hy
  exact ⟨h1, hok, hrd, h4, h5, hb⟩⟩
theorem DkOk.rn (h : DkOk k d) {r : Rn} (h1 : r.ls.length ≤ k) (h2 : r.rg.length ≤ k) (h3 : r.dr.length ≤ k) (h4 : r.md.length ≤ k) : DkOk k { d with r := r } :=
 ⟨h.wn, h.sl, h.lk, h1, h2, h3, h4, h.clu⟩
theorem newE_zero {p : Pl} {f0 : Int} {zs : List Int} (h : newE p f0 zs = 0) : chk p = (0, -1) ∧ NewIs p f0 zs 0 := by
 unfold newE at h
 split at h
 ·rename_i h1; exact absurd h h1
 ·rename_i h1
  have h1 : (chk p).1 = 0 := by simpa using h1
  refine ⟨Prod.ext h1 (chk_nil h1), ?_⟩
  have := (newIs_any p f0 zs).choose_spec
  rw [h] at this
  exact this
theorem newE_is {p : Pl} {f0 : Int} {zs : List Int} (h : chk p = (0, -1)) : NewIs p f0 zs (newE p f0 zs) := by
 unfold newE
 rw [h, if_neg (by decide)]
 exact (newIs_any p f0 zs).choose_spec
theorem newE_chk {p : Pl} {f0 : Int} {zs : List Int} (h : chk p ≠ (0, -1)) : newE p f0 zs = (chk p).1 ∧ (chk p).1 ≠ 0 := by
 have h1 : (chk p).1 ≠ 0 := fun e => h (Prod.ext e (chk_nil e))
 unfold newE
 rw [if_pos h1]
 exact ⟨rfl, h1⟩
theorem wild_all {zs : List Int} (h : wildB zs = false) (j : Nat) : -274877906944 ≤ zs.getD j 0 ∧ zs.getD j 0 ≤ 274877906944 := by
 by_cases hj : j < zs.length
 ·exact wild_in h hj
 ·rw [List.getD_eq_getElem?_getD, List.getElem?_eq_none (by omega)]
  simp
theorem plan_ok (h : DkOk k d) : DkOk k (aPlan d w).d := with_ok h fun _ _ => noC_ok h fun hc => h.plan hc h.wn h.sl h.lk
theorem slot_ok (h : DkOk k d) : DkOk k (aSlot d w).d := with_ok h fun _ _ => noC_ok h fun hc => by
 split
 ·exact h
 ·exact h.plan hc h.wn (by simp; omega) h.lk
theorem link_ok (h : DkOk k d) : DkOk k (aLink d w).d := with_ok h fun _ _ => noC_ok h fun hc => by
 split
 ·exact h
 ·exact h.plan hc h.wn h.sl (by simp; omega)
theorem fy_16 {p : Pl} (hp : PlOk p) {fy : Nat} (h : fy < 2 ^ p.nd.toNat) : fy < 65536 := by
 have h16 := hp.n16
 have : (2 : Nat) ^ p.nd.toNat ≤ 2 ^ 16 := Nat.pow_le_pow_right (by omega) (by omega)
 omega
theorem start_okD (h : DkOk k d) : DkOk k (aStart d w).d := with_ok h fun n _ => noC_ok h fun hc => by
 split
 ·rename_i he
  obtain ⟨h1, h2⟩ := newE_zero he
  obtain ⟨⟨fy, e1, e2, e3⟩, e4, e5, e6⟩ := h2.good
  have hp := PlOk.of h1
  have hs := start_ok hp e4 (wild_all e5)
  refine ⟨h.wn, h.sl, h.lk, h.ls, h.rg, h.dr, h.md, fun x hx => ?_⟩
  cases hx
  rw [e1]
  exact ⟨h1, hs.mono (by omega), by unfold startF; show (0 : Int) ≤ k; omega, fy_16 hp e2, e3, start_b _⟩
 ·exact h
theorem put_okD (h : DkOk k d) : DkOk k (aPut d w).d := by
 unfold aPut
 split
 ·exact h
 ·refine with_ok h fun n _ => hasC_ok h fun x hx => ?_
  split
  ·exact h
  ·split
   ·exact h
   ·rename_i l hl
    obtain ⟨h1, h2, h3, _, _, h6⟩ := h.clu x hx
    exact h.clus hx (clPut_ok (PlOk.of h1) h2 hl _) (by unfold clPut; exact h3) (clPut_b h6 _ _ _)
theorem recv_okD (h : DkOk k d) : DkOk (k + 1) (aRecv d w).d := with_ok (h.mono (by omega)) fun n _ => hasC_ok (h.mono (by omega)) fun x hx => by
 split
 ·exact h.mono (by omega)
 ·split
  ·exact h.mono (by omega)
  ·split
   ·exact h.mono (by omega)
   ·split
    ·exact h.mono (by omega)
    ·obtain ⟨h1, h2, h3, _, _, h6⟩ := h.clu x hx
     exact (h.mono (by omega)).clus hx ((clRecv_ok h2 _ _).mono (by omega)) (by unfold clRecv; show x.2.rd ≤ _; omega) (clRecv_b h6 _ _)
theorem lose_ok (h : DkOk k d) : DkOk (k + 1) (aLose d w).d := with_ok (h.mono (by omega)) fun n _ => hasC_ok (h.mono (by omega)) fun x hx =>
 (h.mono (by omega)).rn (by simp; exact h.ls) (Nat.le_trans h.rg (by omega)) (Nat.le_trans h.dr (by omega)) (Nat.le_trans h.md (by omega))
theorem read_ok (h : DkOk k d) : DkOk (k + 1) (aRead d w).d := with_ok (h.mono (by omega)) fun n _ => hasC_ok (h.mono (by omega)) fun x hx =>
 (h.mono (by omega)).rn (Nat.le_trans h.ls (by omega)) (by simp; exact h.rg) (Nat.le_trans h.dr (by omega)) (Nat.le_trans h.md (by omega))
theorem numbersF_le {n : Int} {l : List Int} (h : numbersF w n = some l) : l.length = w.length := by
 unfold numbersF at h
 split at h
 ·cases h
 ·exact numsF_len h
theorem drift_ok (h : DkOk k d) : DkOk (k + w.length) (aDrift d w).d := with_ok (h.mono (by omega)) fun n hn => hasC_ok (h.mono (by omega)) fun x hx =>
 (h.mono (by omega)).rn (Nat.le_trans h.ls (by omega)) (Nat.le_trans h.rg (by omega)) (by show n.length ≤ _; rw [numbersF_le hn]; omega) (Nat.le_trans h.md (by omega))
theorem mode_ok (h : DkOk k d) : DkOk (k + w.length) (aMode d w).d := with_ok (h.mono (by omega)) fun n hn => hasC_ok (h.mono (by omega)) fun x hx =>
 (h.mono (by omega)).rn (Nat.le_trans h.ls (by omega)) (Nat.le_trans h.rg (by omega)) (Nat.le_trans h.dr (by omega)) (by show n.length ≤ _; rw [numbersF_le hn]; omega)
theorem play_rd (p : Pl) (fy : Nat) (r : Rn) (c : Cl) : (playF p fy r c).rd ≤ c.rd + 1 := by
 unfold playF
 split
 ·omega
 ·exact Int.le_refl _
theorem round_ok (h : DkOk k d) : DkOk (k + 1) (aRound d w).d := with_ok (h.mono (by omega)) fun n _ => hasC_ok (h.mono (by omega)) fun x hx => by
 obtain ⟨h1, h2, h3, _, _, h6⟩ := h.clu x hx
 have h4 := play_rd d.p x.1 d.r x.2
 have h5 := (h.mono (show k ≤ k + 1 by omega)).clus hx ((playF_ok (PlOk.of h1) h2 x.1 d.r).mono (by omega)) (by omega) (playF_b h6 (fun k => (h2.sd k).2.2.2.2.2) x.1 d.r)
 split
 ·exact h5.rn (by simp) (by simp) (by simp) (by simp)
 ·exact h5
theorem clear_ok (h : DkOk k d) : DkOk k (aClear d w).d := with_ok h fun _ _ => dk0_ok.mono (by omega)
theorem same_okD (h : DkOk k d) {n : Int} {f : List Int → Ans} (hf : ∀ l, (f l).d = d) : DkOk k (withN d w n f).d := with_ok h fun l _ => by rw [hf]; exact h
theorem cmd_ok (h : DkOk k d) {s : ByteArray} {f : Dk → List ByteArray → Ans} (hf : cmdF s = some f) : DkOk (k + 1 + w.length) (f d w).d := by
 have h1 := h.mono (show k ≤ k + 1 + w.length by omega)
 have hm : ∀ {d' : Dk}, DkOk (k + 1) d' → DkOk (k + 1 + w.length) d' := fun h => h.mono (by omega)
 have hm2 : ∀ {d' : Dk}, DkOk (k + w.length) d' → DkOk (k + 1 + w.length) d' := fun h => h.mono (by omega)
 have hs : ∀ {n : Int} {g : List Int → Ans}, (∀ l, (g l).d = d) → DkOk (k + 1 + w.length) (withN d w n g).d := fun h => same_okD h1 h
 have hh : ∀ {g : Nat → Cl → Ans}, (∀ fy c, (g fy c).d = d) → (hasC d g).d = d := fun hg => by
  unfold hasC
  split
  ·rfl
  ·exact hg _ _
 obtain ⟨x, hx, -, rfl⟩ := lookS_mem hf
 unfold cmdL at hx
 simp only [List.mem_cons, List.not_mem_nil, or_false] at hx
 rcases hx with rfl | rfl | rfl | rfl | rfl | rfl | rfl | rfl | rfl | rfl | rfl | rfl | rfl | rfl | rfl | rfl | rfl | rfl | rfl | rfl
 ·exact hs fun _ => rfl
 ·exact clear_ok h1
 ·exact hs fun _ => hh fun _ _ => rfl
 ·exact hm2 (drift_ok h)
 ·exact hs fun _ => rfl
 ·exact link_ok h1
 ·exact hs fun _ => rfl
 ·exact hm (lose_ok h)
 ·exact hs fun _ => hh fun _ _ => by split <;> rfl
 ·exact hs fun _ => rfl
 ·exact hm2 (mode_ok h)
 ·exact plan_ok h1
 ·exact put_okD h1
 ·exact hm (read_ok h)
 ·exact hs fun _ => rfl
 ·exact hm (recv_okD h)
 ·exact hm (round_ok h)
 ·exact slot_ok h1
 ·exact hs fun _ => hh fun _ _ => rfl
 ·exact start_okD h1
end
end
end Go.Proofs.YtideefjnlakciaaGreatDoor
