/- The walks of metronomekeep.guarded and GuardApart; condition: slots, links and windows lie in memory. -/
import Derived.Test.YtgdljdhibknjnaaGq
import Derived.Test.YtgdljdhibknjnaaGa
import Derived.Test.YtgdljdhibknjnaaGsm
import Derived.Test.YtgdljdhibknjnaaPd
import Derived.Test.YtgdljdhibknjnaaPk
import Derived.Test.YtgdljdhibknjnaaTb
import Derived.Test.YtgdljdhibknjnaaTs
namespace Go.Proofs.Ytgdljdhibknjnaa
open Go.RowKit

theorem guard_fact : psR 0 0 1 1 100 0 115 200 3 [⟨0, 10, 20⟩] 50 (max 0 0) = some (115, 120) := by decide +kernel
set_option maxRecDepth 100000 in
set_option maxHeartbeats 2000000 in
theorem guarded_any (w : World) : Calls Try.prog 43 #[] w fun e w' => e = .returned (.bool true) ∧ Below w.heap.size w w' := by
  have hS : SlotsAt ((w.alloc (.cells #[.int .i64 0, .int .i64 10, .int .i64 20] 127)).alloc (.cells (planC 1 0 0 0 0 100 (.slice (some ⟨w.heap.size, 0, none⟩) 1 1) (.slice none 0 0) 0 (.slice none 0 0)) 86)) (some ⟨w.heap.size, 0, none⟩) 1 [⟨0, 10, 20⟩] := by
    have hb := (Blk.new w 127 #[.int .i64 0, .int .i64 10, .int .i64 20]).alloc (.cells (planC 1 0 0 0 0 100 (.slice (some ⟨w.heap.size, 0, none⟩) 1 1) (.slice none 0 0) 0 (.slice none 0 0)) 86)
    intro j hj
    obtain rfl : j = 0 := by omega
    exact ⟨w.heap.size, 0, rfl, ⟨0, 10, 20⟩, rfl, hb.cell 0, hb.cell 1, hb.cell 2⟩
  have HS := hide hS; clear hS
  have hB := hide (((Below.refl w.heap.size w).alloc (Nat.le_refl _) (.cells #[.int .i64 0, .int .i64 10, .int .i64 20] 127)).alloc (by simp) (.cells (planC 1 0 0 0 0 100 (.slice (some ⟨w.heap.size, 0, none⟩) 1 1) (.slice none 0 0) 0 (.slice none 0 0)) 86))
  go_enter Try.func43, Try.ntmps43
  go_wp2_with fail
  refine (gpass_any 1 0 0 0 0 100 (some ⟨w.heap.size, 0, none⟩) 1 1 _ 0 _ 0 0 1 1 0 115 200 0 3 [⟨0, 10, 20⟩] _ (by decide) rfl (by exact HS.out) (by decide) (by decide)).mono ?_
  rw [guard_fact]
  rintro e w2 ⟨rfl, hB2⟩
  have HB := hide (hB.out.trans (hB2.mono hB.out.size)); clear hB2
  obtain ⟨q0, q1, _, _⟩ := (Blk.new w2 88 #[.int .i64 115, .int .i64 120]).cells2
  have hsame := span_same 115 120
  have hguard := span_guard
  go_wp2_with fail
  go_ret
  exact ⟨rfl, HB.out.alloc (Nat.le_trans (by omega) HB.out.size) _⟩
theorem pick_same (a : Int) (n : Nat) (w : World) (h0 : 0 < n) (h1 : n ≤ 9223372036854775807) (x : Nat) (hx : Hid ((a % 18446744073709551616).toNat % n = x)) :
    Calls Try.prog 20 #[.int .i64 a, .int .i64 n] w fun e w' => e = .returned (.int .i64 (x : Int)) ∧ w' = w := by
  have := hx.out
  subst this
  exact (pick_any a n w h0 h1).mono fun e w' ⟨h, k⟩ => ⟨h, k.symm⟩
theorem local_bd {f s n d t : Int} (h : localE f s n d t = 0) : -1099511627776 ≤ localN f s n d t ∧ localN f s n d t ≤ 1099511627776 := by
  rw [localN_ok h]
  unfold localE at h
  by_cases hr : rightB f s n d = false
  · simp [hr] at h
  rw [if_neg hr] at h
  by_cases h1 : t < f ∨ 1099511627776 < t
  · simp [h1] at h
  rw [if_neg h1] at h
  by_cases h2 : 1099511627776 < Tkp.localV f s n d t
  · simp [h2] at h
  obtain ⟨_, l0, l1⟩ := local_wrap f s n d t (by simpa using hr) (by omega) (by omega)
  have := (rightB_iff (by simpa using hr : rightB f s n d = true))
  omega
theorem chk_sk {p : Pl} (h : (chk p).1 = 0) : p.sk ≤ 137438953472 := by
  unfold chk at h
  by_cases h0 : headE p ≠ 0
  · rw [if_pos h0] at h; exact absurd h h0
  · have := head_zero (Classical.not_not.1 h0); omega
end Go.Proofs.Ytgdljdhibknjnaa
