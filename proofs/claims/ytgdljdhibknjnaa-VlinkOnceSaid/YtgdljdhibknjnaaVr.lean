/- The contract of the method Take of metronomeref.Receiver: 127 steps find what is ahead; conditions: the receiver lies in a block of its own, its numbers are small. -/
import Derived.Test.YtgdljdhibknjnaaVl
namespace Go.Proofs.Ytgdljdhibknjnaa
open Go.RowKit

/-- where k steps lead from n (0 to 255) -/
def stepAt (n k : Int) : Int := if n + k ≤ 255 then n + k else n + k - 255
/-- did one of the first k steps come to s? -/
def okAt (n s k : Int) : Bool := decide ((n < s ∧ s ≤ n + k ∧ s ≤ 255) ∨ (1 ≤ s ∧ s + 255 ≤ n + k))
theorem okAt_succ (n s k : Int) (hn : 0 ≤ n) (hn' : n ≤ 255) (hk : 0 ≤ k) (hk' : k ≤ 126) (hs : 0 ≤ s) (hs' : s ≤ 255) : okAt n s (k + 1) = (okAt n s k || decide (stepAt n (k + 1) = s)) := by
  rw [Bool.eq_iff_iff]; simp only [okAt, decide_eq_true_eq, Bool.or_eq_true]; unfold stepAt; split <;> omega
theorem okAt_127 (n s : Int) (hn : 0 ≤ n) (hn' : n ≤ 255) (hs : 0 ≤ s) (hs' : s ≤ 255) : okAt n s 127 = aheadB s n := by
  simp only [okAt, aheadB]; rw [Bool.eq_iff_iff]; simp only [decide_eq_true_eq]; omega

theorem stepAt_bd (n k : Int) (hn : 0 ≤ n) (hn' : n ≤ 255) (hk : 0 ≤ k) (hk' : k ≤ 127) : 0 ≤ stepAt n k ∧ stepAt n k ≤ 255 := by unfold stepAt; split <;> omega
theorem stepAt_wrap (n k : Int) (hn : 0 ≤ n) (hn' : n ≤ 255) (hk : 0 ≤ k) (hk' : k ≤ 126) (h : (stepAt n k + 1 == 256) = true) : stepAt n (k + 1) = 1 := by
  simp only [beq_iff_eq] at h; unfold stepAt at h ⊢; split <;> (split at h <;> omega)
theorem stepAt_on (n k : Int) (hn : 0 ≤ n) (hn' : n ≤ 255) (hk : 0 ≤ k) (hk' : k ≤ 126) (h : (stepAt n k + 1 == 256) = false) : stepAt n (k + 1) = stepAt n k + 1 := by
  simp only [beq_eq_false_iff_ne, ne_eq] at h; unfold stepAt at h ⊢; split <;> (split at h <;> omega)
theorem ok_stay (n s k : Int) (hn : 0 ≤ n) (hn' : n ≤ 255) (hk : 0 ≤ k) (hk' : k ≤ 126) (hs : 0 ≤ s) (hs' : s ≤ 255) (h : okAt n s k = true) : okAt n s (k + 1) = true := by
  rw [okAt_succ n s k hn hn' hk hk' hs hs', h]; rfl
theorem ok_wrap (n s k : Int) (hn : 0 ≤ n) (hn' : n ≤ 255) (hk : 0 ≤ k) (hk' : k ≤ 126) (hs : 0 ≤ s) (hs' : s ≤ 255) (h : ¬ okAt n s k = true) (h' : (stepAt n k + 1 == 256) = true) : (1 == s) = okAt n s (k + 1) := by
  rw [okAt_succ n s k hn hn' hk hk' hs hs', stepAt_wrap n k hn hn' hk hk' h', (by simpa using h : okAt n s k = false)]; rw [Bool.eq_iff_iff]; simp
theorem ok_on (n s k : Int) (hn : 0 ≤ n) (hn' : n ≤ 255) (hk : 0 ≤ k) (hk' : k ≤ 126) (hs : 0 ≤ s) (hs' : s ≤ 255) (h : ¬ okAt n s k = true) (h' : (stepAt n k + 1 == 256) = false) : (stepAt n k + 1 == s) = okAt n s (k + 1) := by
  rw [okAt_succ n s k hn hn' hk hk' hs hs', stepAt_on n k hn hn' hk hk' h', (by simpa using h : okAt n s k = false)]; rw [Bool.eq_iff_iff]; simp
theorem vint {a b : Int} (h : a = b) : Value.int .i64 a = .int .i64 b := by rw [h]
theorem vbool {a b : Bool} (h : a = b) : Value.bool a = .bool b := by rw [h]

def refSt (s nw c0 c1 : Int) : Array Value := bif takeB s nw then #[.int .i64 s, .int .i64 (c0 + 1), .int .i64 c1] else #[.int .i64 nw, .int .i64 c0, .int .i64 (c1 + 1)]

set_option maxRecDepth 100000 in
set_option maxHeartbeats 1000000 in
theorem rtake_any (g : Nat) (s nw c0 c1 : Int) (w : World) (hb : Blk w g 27 #[.int .i64 nw, .int .i64 c0, .int .i64 c1])
    (hn : -1 ≤ nw) (hn' : nw ≤ 255) (hc0 : 0 ≤ c0) (hc0' : c0 ≤ 1000000) (hc1 : 0 ≤ c1) (hc1' : c1 ≤ 1000000) :
    Calls Try.prog 15 #[.pointer (some ⟨g, 0, none⟩), .int .i64 s] w fun e w' => e = .returned (.bool (takeB s nw)) ∧ Blk w' g 27 (takeSt s nw c0 c1) ∧ w.grownBy w' (some g) := by
  have hlt := hb.lt
  have k0 := hb.cell 0
  have k1 := hb.cell 1
  have k2 := hb.cell 2
  have f0 := hb.frozen 0
  have f1 := hb.frozen 1
  have f2 := hb.frozen 2
  simp at k0 k1 k2
  by_cases a1 : inB s 0 255 = false
  · have et : takeB s nw = false := by simp [takeB]; simp [inB] at a1; omega
    have H := hide et; clear et
    have A := hide a1; clear a1
    go_enter Try.func15, Try.ntmps15
    go_wp2_with (go_at_call 51; refine (in_any _ _ _ _).mono ?_; rw [A.out]; rintro e w' ⟨rfl, rfl⟩)
    go_ret
    refine ⟨ret_bool H.out.symm, ?_, ?_⟩
    · rw [takeSt, H.out]; exact (hb.set_ 2 _)
    · repeat (first | exact only_refl _ _ | refine only_drew ?_ | refine only_drewN ?_ _ | refine only_alloc ?_ _ | refine only_setCell ?_ (by simp) _)
  · have a1 : inB s 0 255 = true := by simpa using a1
    have hs : 0 ≤ s ∧ s ≤ 255 := by simp [inB] at a1; omega
    obtain ⟨hs0, hs1⟩ := hs
    have A := hide a1; clear a1
    by_cases a3 : nw < 0
    · have et : takeB s nw = true := by simp [takeB]; omega
      have H := hide et; clear et
      go_enter Try.func15, Try.ntmps15
      go_wp2_with (go_at_call 51; refine (in_any _ _ _ _).mono ?_; rw [A.out]; rintro e w' ⟨rfl, rfl⟩)
      go_ret
      refine ⟨ret_bool H.out.symm, ?_, ?_⟩
      · rw [takeSt, H.out]; exact ((hb.set_ 0 _).set_ 1 _)
      · repeat (first | exact only_refl _ _ | refine only_drew ?_ | refine only_drewN ?_ _ | refine only_alloc ?_ _ | refine only_setCell ?_ (by simp) _)
    · have hn0 : 0 ≤ nw := by omega
      have et : takeB s nw = okAt nw s 127 := by rw [okAt_127 _ _ hn0 hn' hs0 hs1]; simp [takeB, hs0, hs1]; omega
      have H := hide et; clear et
      have e0 : okAt nw s 0 = false := by simp [okAt]; omega
      have E0 := hide e0; clear e0
      have ha0 : decide (0 ≤ nw) = true := by simp; omega
      go_enter Try.func15, Try.ntmps15
      go_wp2_with (go_at_call 51; refine (in_any _ _ _ _).mono ?_; rw [A.out]; rintro e w' ⟨rfl, rfl⟩)
      go_loop [5, 6, 21] (fun ok at_ i => ∃ k : Nat, k ≤ 127 ∧ i = .int .i64 k ∧ at_ = .int .i64 (stepAt nw k) ∧ ok = .bool (okAt nw s k)) (fun _ _ i => 127 - (intOf i).toNat)
      case atStart => exact ⟨0, by omega, rfl, by simp [stepAt]; omega, by rw [show ((0:Nat):Int) = 0 from rfl, E0.out]⟩
      case round =>
        obtain ⟨k, hk, rfl, rfl, rfl⟩ := hrel
        have sb := stepAt_bd nw k hn0 hn' (by omega) (by omega)
        obtain ⟨sb0, sb1⟩ := sb
        go_wp2
        · exact ⟨⟨k + 1, by omega, by go_num, vint (stepAt_wrap nw k hn0 hn' (by omega) (by omega) ‹_›).symm, vbool (ok_stay nw s k hn0 hn' (by omega) (by omega) hs0 hs1 ‹_›).symm⟩, by simp [intOf]; omega⟩
        · exact ⟨⟨k + 1, by omega, by go_num, vint (stepAt_wrap nw k hn0 hn' (by omega) (by omega) ‹_›).symm, vbool (ok_wrap nw s k hn0 hn' (by omega) (by omega) hs0 hs1 ‹_› ‹_›)⟩, by simp [intOf]; omega⟩
        · exact ⟨⟨k + 1, by omega, by go_num, vint (stepAt_on nw k hn0 hn' (by omega) (by omega) ‹_›).symm, vbool (ok_stay nw s k hn0 hn' (by omega) (by omega) hs0 hs1 ‹_›).symm⟩, by simp [intOf]; omega⟩
        · exact ⟨⟨k + 1, by omega, by go_num, vint (stepAt_on nw k hn0 hn' (by omega) (by omega) ‹_›).symm, vbool (ok_on nw s k hn0 hn' (by omega) (by omega) hs0 hs1 ‹_› ‹_›)⟩, by simp [intOf]; omega⟩
        all_goals
          have hk127 : k = 127 := by omega
          subst hk127
          have hE : takeB s nw = okAt nw s 127 := H.out
          go_ret
        · have h1 : okAt nw s 127 = true := by assumption
          refine ⟨ret_bool (hE.trans h1).symm, ?_, ?_⟩
          · rw [takeSt, hE, h1]; exact ((hb.set_ 0 _).set_ 1 _)
          · repeat (first | exact only_refl _ _ | refine only_drew ?_ | refine only_drewN ?_ _ | refine only_alloc ?_ _ | refine only_setCell ?_ (by simp) _)
        · have h1 : okAt nw s 127 = false := by assumption
          refine ⟨ret_bool (hE.trans h1).symm, ?_, ?_⟩
          · rw [takeSt, hE, h1]; exact (hb.set_ 2 _)
          · repeat (first | exact only_refl _ _ | refine only_drew ?_ | refine only_drewN ?_ _ | refine only_alloc ?_ _ | refine only_setCell ?_ (by simp) _)
end Go.Proofs.Ytgdljdhibknjnaa
