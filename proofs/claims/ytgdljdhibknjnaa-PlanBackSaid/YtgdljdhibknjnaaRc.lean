/- The contracts of the methods Right, shows and Local of metronomeref.Clock, and of metronomelaw.clock; no condition. -/
import Derived.Test.YtgdljdhibknjnaaTn
import Derived.Test.YtgdljdhibknjnaaIn
namespace Go.Proofs.Ytgdljdhibknjnaa
open Go.RowKit

set_option maxRecDepth 100000 in
set_option maxHeartbeats 1000000 in
theorem rright_any (f s n d : Int) (w : World) :
    Calls Try.prog 76 #[clk f s n d] w fun e w' => e = .returned (.bool (rightB f s n d)) ∧ w.alloc (.cells #[.int .i64 f, .int .i64 s, .int .i64 n, .int .i64 d] 92) = w' := by
  by_cases hd : 1 ≤ d ∧ d ≤ 1000000
  · by_cases hn : 1 ≤ n ∧ n ≤ 1000000
    · obtain ⟨d0, d1⟩ := hd
      obtain ⟨n0, n1⟩ := hn
      go_enter Try.func76, Try.ntmps76
      go_wp2_with (go_at_call 51; refine (in_any _ _ _ _).mono ?_; rintro e w' ⟨rfl, rfl⟩)
      all_goals (go_ret; exact ⟨ret_bool (by simp only [inB, Bool.and_eq_true, decide_eq_true_eq] at *; unfold rightB; symm; first | (apply decide_eq_false; omega) | (apply decide_eq_true; omega) | (apply decide_eq_decide.2; omega)), rfl⟩)
    · have hq : inB n 1 1000000 = false := by simp [inB]; omega
      go_enter Try.func76, Try.ntmps76
      go_wp2_with (go_at_call 51; refine (in_any _ _ _ _).mono ?_; rintro e w' ⟨rfl, rfl⟩)
      all_goals (go_ret; exact ⟨ret_bool (by simp only [inB, Bool.and_eq_true, decide_eq_true_eq, Bool.and_eq_false_iff, decide_eq_false_iff_not] at *; unfold rightB; symm; first | (apply decide_eq_false; omega) | (apply decide_eq_true; omega) | (apply decide_eq_decide.2; omega)), rfl⟩)
  · have hq : inB d 1 1000000 = false := by simp [inB]; omega
    go_enter Try.func76, Try.ntmps76
    go_wp2_with (go_at_call 51; refine (in_any _ _ _ _).mono ?_; rintro e w' ⟨rfl, rfl⟩)
    all_goals (go_ret; exact ⟨ret_bool (by simp only [inB, Bool.and_eq_true, decide_eq_true_eq, Bool.and_eq_false_iff, decide_eq_false_iff_not] at *; unfold rightB; symm; first | (apply decide_eq_false; omega) | (apply decide_eq_true; omega) | (apply decide_eq_decide.2; omega)), rfl⟩)

theorem clock_any (f s n d : Int) (w : World) :
    Calls Try.prog 41 #[clk f s n d] w fun e w' => e = .returned (clk f s n d) ∧ Below w.heap.size w w' := by
  go_enter Try.func41, Try.ntmps41
  go_wp2
  exact bodyPost_ret (v := clk f s n d) (by simp [results, Try.results41, go_sem]) rfl ⟨rfl, by repeat (first | exact Below.refl _ _ | refine Below.alloc ?_ (by simp <;> omega) _)⟩

set_option maxRecDepth 100000 in
set_option maxHeartbeats 1000000 in
theorem shows_any (f s n d t : Int) (w : World) (hr : rightB f s n d = true) (h1 : f ≤ t) (h2 : t ≤ 1099511627776) :
    Calls Try.prog 77 #[clk f s n d, .int .i64 t] w fun e w' => e = .returned (.int .i64 (Tkp.localV f s n d t)) ∧ Below w.heap.size w w' := by
  obtain ⟨r1, r2, r3, r4, r5, r6, r7, r8, r9, r10⟩ := rightB_iff hr
  obtain ⟨le, l0, l1⟩ := local_wrap f s n d t hr h1 h2
  clear hr
  have LE := hide le; clear le
  go_enter Try.func77, Try.ntmps77
  go_wp2
  go_quiet (fail)
  go_wp2
  go_quiet (fail)
  rw [LE.out]
  go_wp2
  go_ret
  exact ⟨rfl, below_drewN (below_drewN ((Below.refl _ _).alloc (Nat.le_refl _) _) _) _⟩

end Go.Proofs.Ytgdljdhibknjnaa
