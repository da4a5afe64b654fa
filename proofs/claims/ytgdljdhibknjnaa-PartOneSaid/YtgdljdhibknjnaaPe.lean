/- The walk of metronomekeep.parted: who runs when; no condition. -/
import Derived.Test.YtgdljdhibknjnaaPn
namespace Go.Proofs.Ytgdljdhibknjnaa
open Go.RowKit

set_option maxRecDepth 100000 in
set_option maxHeartbeats 2000000 in
theorem parted_any (w : World) : Calls Try.prog 35 #[] w fun e w' => e = .returned (.bool true) ∧ Below w.heap.size w w' := by
  have hb := Blk.new w 118 #[.int .i64 2, .int .i64 3, .int .i64 7]
  have hW : WinsAt (w.alloc (.cells #[.int .i64 2, .int .i64 3, .int .i64 7] 118)) (some ⟨w.heap.size, 0, none⟩) 1 [⟨2, 3, 7⟩] := by
    intro j hj
    obtain rfl : j = 0 := by omega
    exact ⟨w.heap.size, 0, rfl, ⟨2, 3, 7⟩, rfl, by simp [hb.cell], by simp [hb.cell], by simp [hb.cell]⟩
  have hB0 := hide ((Below.refl w.heap.size w).alloc (Nat.le_refl _) (.cells #[.int .i64 2, .int .i64 3, .int .i64 7] 118))
  have HW := hide hW; clear hW hb
  go_enter Try.func35, Try.ntmps35
  go_wp2_with fail
  refine (pnew_all 10 (some ⟨w.heap.size, 0, none⟩) 1 1 [⟨2, 3, 7⟩] _ rfl HW.out).mono ?_
  rintro e w2 ⟨hB, ⟨hbad, _⟩ | ⟨_, _, _, _, hok, g, A, c, rfl, c0, c1, hw⟩⟩
  · exact absurd hbad (by decide)
  · have hB2 := hide (hB0.out.trans (hB.mono hB0.out.size))
    have HW2 := hide hw; have hgl := World.block_lt_of_cell? _ _ c0
    have C0 := hide c0; have C1 := hide c1
    clear hB hw
    go_wp2_with fail
    refine (at_any g 10 25 A 1 c [⟨2, 3, 7⟩] w2 (by decide) rfl hok (by decide) (by decide) (by decide) (by decide) C0.out C1.out HW2.out 5 (by rfl) 2 2 (by rfl) (by rfl)).mono ?_
    rintro e w3 ⟨rfl, hB⟩
    have hB3 := hide (hB2.out.trans (hB.mono hB2.out.size))
    have C03 := hide ((hB.cell (p := ⟨g, 0, none⟩) hgl).trans C0.out); have C13 := hide ((hB.cell (p := ⟨g, 1, none⟩) hgl).trans C1.out)
    have HW3 := hide (HW2.out.below hB)
    clear hB c0 c1
    go_wp2_with fail
    refine (at_any g 10 18 A 1 c [⟨2, 3, 7⟩] w3 (by decide) rfl hok (by decide) (by decide) (by decide) (by decide) C03.out C13.out HW3.out 8 (by rfl) (-1) 5 (by rfl) (by rfl)).mono ?_
    rintro e w4 ⟨rfl, hB⟩
    have hB4 := hide (hB3.out.trans (hB.mono hB3.out.size))
    clear hB
    go_wp2_with fail
    go_ret
    exact ⟨rfl, hB4.out⟩
end Go.Proofs.Ytgdljdhibknjnaa
