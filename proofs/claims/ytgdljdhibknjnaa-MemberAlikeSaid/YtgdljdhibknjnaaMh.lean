/- The walk of metronomekeep.heard: who is not heard is no member; no condition. -/
import Derived.Test.YtgdljdhibknjnaaMa
namespace Go.Proofs.Ytgdljdhibknjnaa
open Go.RowKit

set_option maxRecDepth 100000 in
set_option maxHeartbeats 2000000 in
theorem heard_any (w : World) : Calls Try.prog 21 #[] w fun e w' => e = .returned (.bool true) ∧ Below w.heap.size w w' := by
  go_enter Try.func21, Try.ntmps21
  go_wp2_with fail
  refine (new_in 0 3 w (by decide) (by decide)).mono ?_
  rintro e w1 ⟨rfl, rfl⟩
  generalize hW : (World.alloc _ _) = w1
  obtain ⟨hb, hB⟩ : Blk w1 w.heap.size 112 (nodeC 0 3 7 1 0 false) ∧ Below w.heap.size w w1 := by
    subst hW
    exact ⟨Blk.new w _ _, (Below.refl _ _).alloc (Nat.le_refl _) _⟩
  clear hW
  have HB := hide hB; have Hb := hide hb; clear hB hb
  go_wp2_with fail
  refine (hears_in w.heap.size 0 3 7 1 0 false 2 0 w1 Hb.out (by decide) (by decide) (by decide) (by decide) (by decide) (by decide) (by decide) (by decide) (by decide) (by decide)).mono ?_
  rintro e w2 ⟨rfl, hb, hg⟩
  have hb2 : Blk w2 w.heap.size 112 (nodeC 0 3 3 1 0 false) := hb
  have HB2 := hide (HB.out.grown hg HB.out.size (by simp)); have Hb2 := hide hb2
  clear hb hb2 hg
  go_wp2_with fail
  refine (sends_in w.heap.size 0 3 3 1 0 false w2 Hb2.out).mono ?_
  rintro e w3 ⟨rfl, hb, hg⟩
  have hb3 : Blk w3 w.heap.size 112 (nodeC 0 3 3 1 0 false) := hb
  have HB3 := hide (HB2.out.grown hg HB2.out.size (by simp)); have Hb3 := hide hb3
  clear hb hb3 hg
  have s1 : sendsV 3 1 0 false = 3 := by decide
  have s2 : sendsOk 1 0 false = true := by decide
  have j1 : judgeV 3 1 3 = 1 := by decide
  have j2 : judgeV 3 1 7 = 2 := by decide
  rw [s1, s2]
  go_wp2_with fail
  refine (judges_in w.heap.size 0 3 3 1 0 false 1 3 w3 Hb3.out (by decide) (by decide) (by decide) (by decide)).mono ?_
  rintro e w4 ⟨rfl, n4, rfl⟩
  rw [j1]
  go_wp2_with fail
  refine (judges_in w.heap.size 0 3 3 1 0 false 1 7 _ (Hb3.out.drewN n4) (by decide) (by decide) (by decide) (by decide)).mono ?_
  rintro e w5 ⟨rfl, n5, rfl⟩
  rw [j2]
  go_wp2_with fail
  go_ret
  exact ⟨rfl, below_drewN HB3.out _⟩
end Go.Proofs.Ytgdljdhibknjnaa
