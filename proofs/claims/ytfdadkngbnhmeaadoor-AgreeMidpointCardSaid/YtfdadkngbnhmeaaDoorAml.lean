/- The walk of metronomelaw.AgreeMidpoint; conditions: the numbers lie in memory; errors.errorType holds what start-up lays there. -/
import Derived.Test.YtfdadkngbnhmeaaDoorAr
import Derived.Test.YtfdadkngbnhmeaaDoorEp
import Derived.Test.YtfdadkngbnhmeaaDoorOpen
namespace Go.Proofs.YtfdadkngbnhmeaaDoor
open Go Go.RowKit

theorem isl_of {W : World} {A : Option Addr} {n : Nat} {zs : List Int} (h : IntsAt W A n zs) : IsL W A ((List.range n).map fun j => zs.getD j 0) := fun j hj => by
  have hj2 : j < n := by simpa using hj
  obtain ⟨b, off, e, hc⟩ := h j hj2
  refine ⟨b, off, e, ?_⟩
  rw [hc]
  simp [List.getD, hj2]
set_option maxRecDepth 100000 in
set_option maxHeartbeats 1000000 in
theorem amid_law (A : Option Addr) (n c : Nat) (zs : List Int) (f : Int) (w : World) (hn : zs.length = n) (hI : IsL w A zs) (hf : f ≤ 9223372036854775807) (hE : ErrT w) :
    Calls Tryd.prog 4 #[.slice A n c, .int .i64 f] w fun e w' => e = .returned (.bool true) ∧ Below w.heap.size w w' := by
  by_cases h60 : 60 < n
  · have d1 : decide ((60 : Int) < (n : Int)) = true := decide_eq_true (by omega)
    clear hI hE
    go_enter Tryd.func4, Tryd.ntmps4
    go_wp2_with fail
    go_ret
    exact ⟨rfl, Below.refl _ _⟩
  · have d1 : decide ((60 : Int) < (n : Int)) = false := decide_eq_false (by omega)
    have H1 := hide (rmid_any A c zs f w hI (by omega))
    have H2 : Hid (∀ w1, Below w.heap.size w w1 → Calls Tryd.prog 12 #[.slice A zs.length c, .int .i64 f] w1 fun e w' => e = .returned (.tuple #[.int .i64 (midV zs f), errV (midE zs f)]) ∧ Below w1.heap.size w1 w') := hide fun w1 hB => mid_any A c zs f w1 (hI.below (Nat.le_refl _) hB) (by omega) hf
    rw [hn] at H1 H2
    have HE := hide hE
    clear hI hE hn hf
    generalize midE zs f = me at H1 H2
    generalize midV zs f = mv at H1 H2
    go_enter Tryd.func4, Tryd.ntmps4
    go_wp2_with (first
      | (go_at_call 11; refine H1.out.mono ?_; rintro e w1 ⟨rfl, hB1⟩; have HB1 := hide hB1; clear hB1)
      | (go_at_call 12; refine (H2.out _ HB1.out).mono ?_; rintro e w2 ⟨rfl, hB2⟩; have HB2 := hide (HB1.out.trans (hB2.mono HB1.out.size)); clear hB2)
      | (go_at_call 13; refine (bare_errV me me _ (by exact errT_below HE.out HB2.out)).mono ?_; rintro e w3 ⟨rfl, hB3⟩; have HB3 := hide (HB2.out.trans (hB3.mono HB2.out.size)); clear hB3; rw [beq_self_eq_true]))
    go_ret
    exact ⟨rfl, HB3.out⟩
end Go.Proofs.YtfdadkngbnhmeaaDoor
