/- The walks of Add, Meet and Common of packages ticks and metronomeref, and of metronomelaw.TicksSpans; conditions: the numbers are of 64 bits. -/
import Derived.Test.YtgdljdhibknjnaaAd
import Derived.Deep.RegionHeld3
import Derived.Test.YtgdljdhibknjnaaTq
namespace Go.Proofs.Ytgdljdhibknjnaa
open Go.RowKit


set_option maxHeartbeats 1000000 in
theorem meet_any (a b c d : Int) (w : World) :
    Calls Try.prog 45 #[spanV a b, spanV c d] w fun e w' => e = .returned (.bool (meetB a b c d)) ∧ Below w.heap.size w w' := by
  go_enter Try.func45, Try.ntmps45
  go_wp2
  all_goals (go_ret; exact ⟨ret_bool (by unfold meetB; symm; first | (apply decide_eq_false; omega) | (apply decide_eq_decide.2; omega)), by repeat (first | exact Below.refl _ _ | refine Below.alloc ?_ (by simp) _)⟩)
theorem meet_is (a b c d : Int) (v : Bool) (hv : meetB a b c d = v) (w : World) :
    Calls Try.prog 45 #[spanV a b, spanV c d] w fun e w' => e = .returned (.bool v) ∧ Below w.heap.size w w' := by subst hv; exact meet_any a b c d w
end Go.Proofs.Ytgdljdhibknjnaa
