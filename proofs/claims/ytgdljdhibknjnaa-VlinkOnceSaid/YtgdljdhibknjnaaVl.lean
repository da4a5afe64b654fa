/- The contracts of metronomeref.in, vlink.ahead and the method Take of vlink.Receiver; conditions: the receiver lies in a block of its own, its numbers are small. -/
import Derived.Test.YtgdljdhibknjnaaIn
namespace Go.Proofs.Ytgdljdhibknjnaa
open Go.RowKit

/-- vlink.ahead -/
def aheadB (a b : Int) : Bool := decide (a ≠ 0 ∧ ((b = 0 ∧ a ≤ 127) ∨ (b ≠ 0 ∧ 1 ≤ (a - b) % 255 ∧ (a - b) % 255 ≤ 127)))

set_option maxHeartbeats 400000 in
theorem ahead_any (a b : Int) (ha : 0 ≤ a) (ha' : a ≤ 255) (hb : 0 ≤ b) (hb' : b ≤ 255) (w : World) :
    Calls Try.prog 50 #[.int .i64 a, .int .i64 b] w fun e w' => e = .returned (.bool (aheadB a b)) ∧ w' = w := by
  go_enter Try.func50, Try.ntmps50
  go_wp2
  all_goals (go_ret; exact ⟨ret_bool (by simp_all [aheadB] <;> omega), rfl⟩)

theorem ahead_is (a b : Int) (ha : 0 ≤ a) (ha' : a ≤ 255) (hb : 0 ≤ b) (hb' : b ≤ 255) (v : Bool) (hv : aheadB a b = v) (w : World) :
    Calls Try.prog 50 #[.int .i64 a, .int .i64 b] w fun e w' => e = .returned (.bool v) ∧ w' = w := by
  subst hv; exact ahead_any a b ha ha' hb hb' w

/-- vlink.Receiver.Take -/
def takeB (s nw : Int) : Bool := decide (0 ≤ s ∧ s ≤ 255) && (decide (nw < 0) || aheadB s nw)
def takeSt (s nw c0 c1 : Int) : Array Value := bif takeB s nw then #[.int .i64 s, .int .i64 (c0 + 1), .int .i64 c1] else #[.int .i64 nw, .int .i64 c0, .int .i64 (c1 + 1)]

set_option maxHeartbeats 1000000 in
theorem take_any (g : Nat) (s nw c0 c1 : Int) (d : ByteArray) (w : World) (hb : Blk w g 107 #[.int .i64 nw, .int .i64 c0, .int .i64 c1])
    (hn : -1 ≤ nw) (hn' : nw ≤ 255) (hc0 : 0 ≤ c0) (hc0' : c0 ≤ 1000000) (hc1 : 0 ≤ c1) (hc1' : c1 ≤ 1000000) :
    Calls Try.prog 14 #[.pointer (some ⟨g, 0, none⟩), .agg #[.int .i64 s, .string d]] w fun e w' => e = .returned (.bool (takeB s nw)) ∧ Blk w' g 107 (takeSt s nw c0 c1) ∧ w.grownBy w' (some g) := by
  have hlt := hb.lt
  have k0 := hb.cell 0
  have k1 := hb.cell 1
  have k2 := hb.cell 2
  have f0 := hb.frozen 0
  have f1 := hb.frozen 1
  have f2 := hb.frozen 2
  simp at k0 k1 k2
  by_cases a1 : s < 0
  · have et : takeB s nw = false := by simp [takeB]; omega
    have g1 : decide (s < 0) = true := by simp; omega
    have H := hide et; clear et
    go_enter Try.func14, Try.ntmps14
    go_wp2
    go_quiet (fail)
    go_wp2
    go_region
    go_wp2
    go_ret
    refine ⟨ret_bool H.out.symm, ?_, ?_⟩
    · rw [takeSt, H.out]; exact (((hb.alloc _).drewN _).set_ 2 _).drew
    · repeat (first | exact only_refl _ _ | refine only_drew ?_ | refine only_drewN ?_ _ | refine only_alloc ?_ _ | refine only_setCell ?_ (by simp) _)
  have g1 : decide (s < 0) = false := by simp; omega
  by_cases a2 : 255 < s
  · have et : takeB s nw = false := by simp [takeB]; omega
    have g2 : decide (255 < s) = true := by simp; omega
    have H := hide et; clear et
    go_enter Try.func14, Try.ntmps14
    go_wp2
    go_quiet (fail)
    go_wp2
    go_region
    go_wp2
    go_ret
    refine ⟨ret_bool H.out.symm, ?_, ?_⟩
    · rw [takeSt, H.out]; exact (((hb.alloc _).drewN _).set_ 2 _).drew
    · repeat (first | exact only_refl _ _ | refine only_drew ?_ | refine only_drewN ?_ _ | refine only_alloc ?_ _ | refine only_setCell ?_ (by simp) _)
  have g2 : decide (255 < s) = false := by simp; omega
  by_cases a3 : nw < 0
  · have et : takeB s nw = true := by simp [takeB]; omega
    have g3 : decide (0 ≤ nw) = false := by simp; omega
    have H := hide et; clear et
    go_enter Try.func14, Try.ntmps14
    go_wp2
    go_quiet (fail)
    go_wp2
    go_region
    go_wp2
    go_ret
    refine ⟨ret_bool H.out.symm, ?_, ?_⟩
    · rw [takeSt, H.out]; exact ((((hb.alloc _).drewN _).set_ 0 _).set_ 1 _).drew
    · repeat (first | exact only_refl _ _ | refine only_drew ?_ | refine only_drewN ?_ _ | refine only_alloc ?_ _ | refine only_setCell ?_ (by simp) _)
  have g3 : decide (0 ≤ nw) = true := by simp; omega
  by_cases a4 : aheadB s nw = true
  · have et : takeB s nw = true := by simp [takeB, a4]; omega
    have c := ahead_is s nw (by omega) (by omega) (by omega) (by omega) _ a4
    have H := hide et; clear et
    clear a4
    have C := hide c; clear c
    go_enter Try.func14, Try.ntmps14
    go_wp2
    go_quiet ((go_at_call 50; exact Calls.quiet_of_same (C.out _)))
    go_wp2
    go_region
    go_wp2
    go_ret
    refine ⟨ret_bool H.out.symm, ?_, ?_⟩
    · rw [takeSt, H.out]; exact ((((hb.alloc _).drewN _).set_ 0 _).set_ 1 _).drew
    · repeat (first | exact only_refl _ _ | refine only_drew ?_ | refine only_drewN ?_ _ | refine only_alloc ?_ _ | refine only_setCell ?_ (by simp) _)
  · have a4 : aheadB s nw = false := by simpa using a4
    have et : takeB s nw = false := by simp [takeB, a4]; omega
    have c := ahead_is s nw (by omega) (by omega) (by omega) (by omega) _ a4
    have H := hide et; clear et
    clear a4
    have C := hide c; clear c
    go_enter Try.func14, Try.ntmps14
    go_wp2
    go_quiet ((go_at_call 50; exact Calls.quiet_of_same (C.out _)))
    go_wp2
    go_region
    go_wp2
    go_ret
    refine ⟨ret_bool H.out.symm, ?_, ?_⟩
    · rw [takeSt, H.out]; exact (((hb.alloc _).drewN _).set_ 2 _).drew
    · repeat (first | exact only_refl _ _ | refine only_drew ?_ | refine only_drewN ?_ _ | refine only_alloc ?_ _ | refine only_setCell ?_ (by simp) _)
end Go.Proofs.Ytgdljdhibknjnaa
