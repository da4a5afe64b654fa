/- The walk of metronomelaw.VlinkTakes over a slice of numbers; condition: the numbers lie in memory. -/
import Derived.Test.YtgdljdhibknjnaaVr
import Derived.Deep.RegionHeld3
import Derived.Test.YtgdljdhibknjnaaOpen
namespace Go.Proofs.Ytgdljdhibknjnaa
open Go.RowKit

set_option maxHeartbeats 400000 in
theorem newReceiver_any (w : World) :
    Calls Try.prog 13 #[] w fun e w' => e = .returned (.pointer (some ⟨w.heap.size, 0, none⟩)) ∧ (w.alloc (.cells #[.int .i64 (-1), .int .i64 0, .int .i64 0] 107)) = w' := by
  go_enter Try.func13, Try.ntmps13
  go_wp2
  go_ret
  exact ⟨rfl, rfl⟩

set_option maxHeartbeats 400000 in
theorem counts_any (g : Nat) (nw c0 c1 : Int) (w : World) (hb : Blk w g 107 #[.int .i64 nw, .int .i64 c0, .int .i64 c1]) :
    Calls Try.prog 16 #[.pointer (some ⟨g, 0, none⟩)] w fun e w' => e = .returned (.tuple #[.int .i64 c0, .int .i64 c1]) ∧ ∃ n, w' = w.drewN n := by
  have hlt := hb.lt
  have k0 := hb.cell 0
  have k1 := hb.cell 1
  have k2 := hb.cell 2
  simp at k0 k1 k2
  go_enter Try.func16, Try.ntmps16
  go_wp2
  go_quiet (fail)
  go_wp2
  go_ret2
  exact ⟨rfl, _, rfl⟩

/-- After k messages: what both know. -/
structure Same (w : World) (W : World) (k : Nat) (nw c0 c1 : Int) : Prop where
  a : Blk w W.heap.size 107 #[.int .i64 nw, .int .i64 c0, .int .i64 c1]
  b : Blk w (W.heap.size + 1) 27 #[.int .i64 nw, .int .i64 c0, .int .i64 c1]
  n0 : -1 ≤ nw
  n1 : nw ≤ 255
  p0 : 0 ≤ c0
  p1 : c0 ≤ k
  q0 : 0 ≤ c1
  q1 : c1 ≤ k
  old : Below W.heap.size W w

theorem takeSt_form (s nw c0 c1 : Int) (hn : -1 ≤ nw) (hn' : nw ≤ 255) (hc0 : 0 ≤ c0) (hc1 : 0 ≤ c1) : ∃ nw' c0' c1' : Int, takeSt s nw c0 c1 = #[.int .i64 nw', .int .i64 c0', .int .i64 c1'] ∧ -1 ≤ nw' ∧ nw' ≤ 255 ∧ 0 ≤ c0' ∧ c0' ≤ c0 + 1 ∧ 0 ≤ c1' ∧ c1' ≤ c1 + 1 := by
  unfold takeSt
  cases h : takeB s nw
  · exact ⟨nw, c0, c1 + 1, rfl, by omega, by omega, by omega, by omega, by omega, by omega⟩
  · have : 0 ≤ s ∧ s ≤ 255 := by simp [takeB] at h; exact h.1
    exact ⟨s, c0 + 1, c1, rfl, by omega, by omega, by omega, by omega, by omega, by omega⟩

set_option maxRecDepth 100000 in
set_option maxHeartbeats 1000000 in
theorem law_vt (A : Option Addr) (n c : Nat) (zs : List Int) (W : World) (hc : IntsAt W A n zs) (hn : n ≤ 9223372036854775807) :
    Calls Try.prog 3 #[.slice A n c] W fun e w' => e = .returned (.bool true) ∧ Below W.heap.size W w' := by
  by_cases h300 : 300 < n
  · go_enter Try.func3, Try.ntmps3
    go_wp2
    go_ret
    exact ⟨rfl, Below.refl _ _⟩
  · have hd : decide ((300 : Int) < n) = false := by simp; omega
    go_enter Try.func3, Try.ntmps3
    go_wp2_with (first | (go_at_call 13; refine (newReceiver_any _).mono ?_; rintro e w' ⟨rfl, rfl⟩))
    go_loopw [5] (fun i wr => ∃ (k : Nat) (nw c0 c1 : Int), k ≤ n ∧ i = .int .i64 k ∧ Same wr W k nw c0 c1) (fun i _ => n - (intOf i).toNat)
    case atStart =>
      refine ⟨0, -1, 0, 0, by omega, rfl, ⟨(Blk.new W _ _).alloc _, ?_, by omega, by omega, by omega, by omega, by omega, by omega, ?_⟩⟩
      · have := Blk.new (W.alloc (.cells #[.int .i64 (-1), .int .i64 0, .int .i64 0] 107)) 27 #[.int .i64 (-1), .int .i64 0, .int .i64 0]
        simpa using this
      · exact ((Below.refl _ _).alloc (Nat.le_refl _) _).alloc (by simp) _
    case round =>
      obtain ⟨k, nw, c0, c1, hk, rfl, hS⟩ := hrel
      by_cases hlt : k < n
      · obtain ⟨b, off, rfl, hcell⟩ := hc k hlt
        have hbb := World.block_lt_of_cell? W ⟨b, off + k, none⟩ hcell
        have hcw : wr.cell? ⟨b, off + k, none⟩ = some (.int .i64 (zs.getD k 0)) := by rw [hS.old.cell hbb]; exact hcell
        clear hcell
        obtain ⟨hA, hB, n0, n1, p0, p1, q0, q1, hO⟩ := hS
        have HA := hide hA; have HB := hide hB
        clear hA hB
        have HO := hide hO
        clear hO
        go_wp2_with fail
        go_region_held3 (fun w' => w'.cell? ⟨b, off + k, none⟩ = some (.int .i64 (zs.getD k 0))) (first | assumption | (simp [go_sem]; assumption))
          (first
            | (go_at_call 14; refine (take_any _ _ nw c0 c1 _ _ (by exact HA.out) (by omega) (by omega) (by omega) (by omega) (by omega) (by omega)).mono ?_; rintro e w1 ⟨rfl, hA1, hg1⟩; have hcw1 := hg1.cell hcw (by simp; omega); have HA1 := hide hA1; clear hA1; have HG1 := hide (un_drew hg1); clear hg1)
            | (go_at_call 15; refine (rtake_any _ _ nw c0 c1 _ (by exact (HB.out.grown HG1.out (by simp))) (by omega) (by omega) (by omega) (by omega) (by omega) (by omega)).mono ?_; rintro e w2 ⟨rfl, hB2, hg2⟩; have hcw2 := hg2.cell hcw1 (by simp; omega); have HB2 := hide hB2; clear hB2; have HG2 := hide hg2; clear hg2))
        obtain ⟨nw', c0', c1', eq, m0, m1, r0, r1, t0, t1⟩ := takeSt_form (zs.getD k 0) nw c0 c1 n0 n1 p0 q0
        have hA2 : Blk w2 W.heap.size 107 #[.int .i64 nw', .int .i64 c0', .int .i64 c1'] := by
          have := HA1.out.grown HG2.out (by simp)
          rw [← eq]; exact this
        have hB3 : Blk w2 (W.heap.size + 1) 27 #[.int .i64 nw', .int .i64 c0', .int .i64 c1'] := by
          rw [← eq]; exact HB2.out
        have hO2 : Below W.heap.size W w2 := (HO.out.grown HG1.out HO.out.size (by simp)).grown HG2.out (Nat.le_trans HO.out.size HG1.out.size) (by simp)
        have hlt1 := hB3.lt
        have j0 := hB3.cell 1
        have j1 := hB3.cell 2
        simp at j0 j1
        clear eq hcw hcw1 hcw2
        have HA2 := hide hA2; clear hA2
        have HB3 := hide hB3; clear hB3
        have HO2 := hide hO2; clear hO2
        clear HA1 HB2 HG1 HG2 HO HA HB
        go_wp2_with (go_at_call 16; refine (counts_any _ nw' c0' c1' _ (by exact HA2.out)).mono ?_; rintro e w3 ⟨rfl, nq, rfl⟩)
        go_roundw
        case rel => exact ⟨k + 1, nw', c0', c1', by omega, by go_num, ⟨HA2.out.drewN _, HB3.out.drewN _, m0, m1, r0, by omega, t0, by omega, below_drewN HO2.out _⟩⟩
        case measure => simp [intOf]; omega
      · go_wp2_with fail
        go_ret
        exact ⟨rfl, hS.old⟩

end Go.Proofs.Ytgdljdhibknjnaa
