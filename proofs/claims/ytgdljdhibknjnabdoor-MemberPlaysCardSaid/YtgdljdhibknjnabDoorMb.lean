/- The contracts of the methods of member.Node at nodes and sets that may be; conditions: the node lies in a block of its own, its numbers are small. -/
import Derived.Test.YtgdljdhibknjnabDoorBt
import Derived.Laws.Shifts
import Derived.Laws.ShiftsVar
import Derived.Laws.ShiftsVarLaws
namespace Go.Proofs.YtgdljdhibknjnabDoor
open Go.RowKit

/-- The cells of a node. -/
abbrev nodeC (id n m : Nat) (good bad : Int) (fz : Bool) : Array Value := #[.int .i64 id, .int .i64 n, .int .i64 m, .int .i64 good, .int .i64 bad, .bool fz]
/-- Is it Good? -/
def judgeB (m fr mm : Nat) : Bool := decide (mm ||| 2 ^ fr = m ||| 2 ^ fr) && mm.testBit fr

/-- What Judges tells. -/
def judgeV (m fr mm : Nat) : Int := if judgeB m fr mm then 1 else 2

theorem or_pow (m k : Nat) (hm : m < 65536) (hk : k < 17) : bits .or .i64 (m : Int) (wrap64 (2 ^ k)) = ((m ||| 2 ^ k : Nat) : Int) := by
  have h1 : (2 : Nat) ^ k ≤ 2 ^ 16 := Nat.pow_le_pow_right (by omega) (by omega)
  rw [pow_small k hk, i64_or_nat m (2 ^ k) (by omega) (by omega)]
theorem clr_pow (m k : Nat) (hm : m < 65536) (hk : k < 17) : bits .andNot .i64 (m : Int) (wrap64 (2 ^ k)) = ((clr m (2 ^ k) : Nat) : Int) := by
  have h1 : (2 : Nat) ^ k ≤ 2 ^ 16 := Nat.pow_le_pow_right (by omega) (by omega)
  rw [pow_small k hk, i64_andNot_nat m (2 ^ k) (by omega) (by omega)]

theorem judge_bad1 (m fr mm : Nat) (hm : m < 65536) (hmm : mm < 65536) (hf : fr < 17) (h : ¬ bits .or .i64 (mm : Int) (wrap64 (2 ^ fr)) = bits .or .i64 (m : Int) (wrap64 (2 ^ fr))) : judgeB m fr mm = false := by
  rw [or_pow _ _ hm hf, or_pow _ _ hmm hf] at h
  have h' : ¬ (mm ||| 2 ^ fr = m ||| 2 ^ fr) := fun e => h (by rw [e])
  simp [judgeB, h']
theorem judge_bad2 (m fr mm : Nat) (hmm : mm < 65536) (h : (bits .and .i64 ((mm : Int) / 2 ^ fr) 1 == 0) = true) : judgeB m fr mm = false := by
  rw [bit_one _ _ hmm] at h
  cases hb : mm.testBit fr
  · simp [judgeB, hb]
  · simp [hb] at h
theorem judge_good (m fr mm : Nat) (hm : m < 65536) (hmm : mm < 65536) (hf : fr < 17) (h : bits .or .i64 (mm : Int) (wrap64 (2 ^ fr)) = bits .or .i64 (m : Int) (wrap64 (2 ^ fr))) (h' : (bits .and .i64 ((mm : Int) / 2 ^ fr) 1 == 0) = false) : judgeB m fr mm = true := by
  rw [or_pow _ _ hm hf, or_pow _ _ hmm hf] at h
  have h := Int.ofNat.inj h
  rw [bit_one _ _ hmm] at h'
  cases hb : mm.testBit fr
  · simp [hb] at h'
  · simp [judgeB, hb, h]

set_option maxRecDepth 100000 in
set_option maxHeartbeats 1000000 in
theorem judges_in (g id n m : Nat) (good bad : Int) (fz : Bool) (fr mm : Nat) (w : World) (hb : Blk w g 157 (nodeC id n m good bad fz)) (hn : n ≤ 16) (hf : fr < n) (hm : m < 65536) (hmm : mm < 65536) :
    Calls Tryd.prog 46 #[.pointer (some ⟨g, 0, none⟩), .int .i64 fr, .int .i64 mm] w fun e w' => e = .returned (.int .i64 (judgeV m fr mm)) ∧ ∃ k, w' = w.drewN k := by
  have hlt := hb.lt
  have k0 := hb.cell 0
  have k1 := hb.cell 1
  have k2 := hb.cell 2
  have k3 := hb.cell 3
  have k4 := hb.cell 4
  have k5 := hb.cell 5
  simp at k0 k1 k2 k3 k4 k5
  have g1 : decide ((fr : Int) < 0) = false := by simp
  have g2 : decide (n ≤ fr) = false := by simp; omega
  clear hb
  go_enter Tryd.func46, Tryd.ntmps46
  go_wp2
  refine wp_region_quiet_lit (by kernel_rfl) (by kernel_rfl) ?_
  repeat (any_goals (first | go_big_quiet_step (fail) | quiet_step (fail) | (refine wpQuiet_step (fun K hK => ?_); go_simp; split <;> (refine hK _ ?_; clear hK K))))
  all_goals (refine wpQuiet_nil ?_; intro _ hw'; obtain ⟨nq, hw''⟩ := hw'; subst hw'')
  all_goals go_wp2
  · have hj := judge_bad2 m fr mm hmm ‹_›
    go_ret
    exact ⟨by rw [judgeV, hj]; rfl, _, rfl⟩
  · have hj := judge_good m fr mm hm hmm (by omega) ‹_› ‹_›
    go_ret
    exact ⟨by rw [judgeV, hj]; rfl, _, rfl⟩
  · have hj := judge_bad1 m fr mm hm hmm (by omega) ‹_›
    go_ret
    exact ⟨by rw [judgeV, hj]; rfl, _, rfl⟩

/-- What a node knows behind what it hears. -/
def hearsC (id n m : Nat) (good bad : Int) (fz : Bool) (fr : Nat) (what : Int) : Array Value :=
  if fz then nodeC id n m good bad fz else if what = 1 then nodeC id n (m ||| 2 ^ fr) (good + 1) bad fz else if what = 2 then nodeC id n (clr m (2 ^ fr)) good (bad + 1) fz else nodeC id n (clr m (2 ^ fr)) good bad fz

set_option maxRecDepth 100000 in
set_option maxHeartbeats 2000000 in
theorem hears_in (g id n m : Nat) (good bad : Int) (fz : Bool) (fr : Nat) (what : Int) (w : World) (hb : Blk w g 157 (nodeC id n m good bad fz)) (hn : n ≤ 16) (hf : fr < n) (hi : id ≠ fr) (hm : m < 65536)
    (h0 : 0 ≤ what) (h2 : what ≤ 2) (g0 : 0 ≤ good) (g1 : good ≤ 1000000) (b0 : 0 ≤ bad) (b1 : bad ≤ 1000000) :
    Calls Tryd.prog 40 #[.pointer (some ⟨g, 0, none⟩), .int .i64 fr, .int .i64 what] w fun e w' => e = .returned (.tuple #[]) ∧ Blk w' g 157 (hearsC id n m good bad fz fr what) ∧ w.grownBy w' (some g) := by
  have hlt := hb.lt
  have k0 := hb.cell 0
  have k1 := hb.cell 1
  have k2 := hb.cell 2
  have k3 := hb.cell 3
  have k4 := hb.cell 4
  have k5 := hb.cell 5
  simp at k0 k1 k2 k3 k4 k5
  have f2 := hb.frozen 2
  have f3 := hb.frozen 3
  have f4 := hb.frozen 4
  have i1 : decide ((fr : Int) < 0) = false := by simp
  have i2 : decide (n ≤ fr) = false := by simp; omega
  have i3 : ((fr : Int) == (id : Int)) = false := by simp; omega
  have i4 : decide (what < 0) = false := by simp; omega
  have i5 : decide (2 < what) = false := by simp; omega
  have HB := hide hb; clear hb
  have ho := hide (or_pow m fr hm (by omega))
  have hc := hide (clr_pow m fr hm (by omega))
  cases fz
  · by_cases w1 : what = 1
    · subst w1
      go_enter Tryd.func40, Tryd.ntmps40
      go_wp2
      go_region
      go_wp2
      refine bodyPost_ret (results_none rfl _ _ _) rfl ⟨rfl, ?_, ?_⟩
      · rw [ho.out]
        exact ((HB.out.set_ 3 _).set_ 2 _).drew
      · repeat (first | exact only_refl _ _ | refine only_drew ?_ | refine only_drewN ?_ _ | refine only_alloc ?_ _ | refine only_setCell ?_ (by simp) _)
    · by_cases w2 : what = 2
      · subst w2
        go_enter Tryd.func40, Tryd.ntmps40
        go_wp2
        go_region
        go_wp2
        go_end0
        refine ⟨rfl, ?_, ?_⟩
        · rw [hc.out]
          exact ((HB.out.set_ 4 _).set_ 2 _).drew
        · repeat (first | exact only_refl _ _ | refine only_drew ?_ | refine only_drewN ?_ _ | refine only_alloc ?_ _ | refine only_setCell ?_ (by simp) _)
      · obtain rfl : what = 0 := by omega
        go_enter Tryd.func40, Tryd.ntmps40
        go_wp2
        go_region
        go_wp2
        go_end0
        refine ⟨rfl, ?_, ?_⟩
        · rw [hc.out]
          exact (HB.out.set_ 2 _).drew
        · repeat (first | exact only_refl _ _ | refine only_drew ?_ | refine only_drewN ?_ _ | refine only_alloc ?_ _ | refine only_setCell ?_ (by simp) _)
  · go_enter Tryd.func40, Tryd.ntmps40
    go_wp2
    refine bodyPost_ret (results_none rfl _ _ _) rfl ⟨rfl, ?_, ?_⟩
    · exact HB.out
    · exact only_refl _ _

/-- What a node knows behind its own slot. -/
def sendsC (id n m : Nat) (good bad : Int) (fz : Bool) : Array Value := if fz then nodeC id n m good bad fz else if good ≤ bad then nodeC id n m good bad true else nodeC id n m 1 0 fz
def sendsOk (good bad : Int) (fz : Bool) : Bool := !fz && decide (bad < good)

def sendsV (m : Nat) (good bad : Int) (fz : Bool) : Int := if sendsOk good bad fz then (m : Int) else 0

set_option maxRecDepth 100000 in
set_option maxHeartbeats 2000000 in
theorem sends_in (g id n m : Nat) (good bad : Int) (fz : Bool) (w : World) (hb : Blk w g 157 (nodeC id n m good bad fz)) :
    Calls Tryd.prog 43 #[.pointer (some ⟨g, 0, none⟩)] w fun e w' => e = .returned (.tuple #[.int .i64 (sendsV m good bad fz), .bool (sendsOk good bad fz)]) ∧ Blk w' g 157 (sendsC id n m good bad fz) ∧ w.grownBy w' (some g) := by
  have hlt := hb.lt
  have k0 := hb.cell 0
  have k1 := hb.cell 1
  have k2 := hb.cell 2
  have k3 := hb.cell 3
  have k4 := hb.cell 4
  have k5 := hb.cell 5
  simp at k0 k1 k2 k3 k4 k5
  have f2 := hb.frozen 2
  have f3 := hb.frozen 3
  have f4 := hb.frozen 4
  have f5 := hb.frozen 5
  have HB := hide hb; clear hb
  cases fz
  · by_cases h : good ≤ bad
    · rw [show sendsV m good bad false = 0 by simp [sendsV, sendsOk]; omega, show sendsOk good bad false = false by simp [sendsOk]; omega, show sendsC id n m good bad false = nodeC id n m good bad true by simp [sendsC, h]]
      go_enter Tryd.func43, Tryd.ntmps43
      go_wp2
      go_quiet (fail)
      go_wp2
      go_ret2
      refine ⟨rfl, ?_, ?_⟩
      · exact (HB.out.drewN _).set_ 5 _
      · repeat (first | exact only_refl _ _ | refine only_drew ?_ | refine only_drewN ?_ _ | refine only_alloc ?_ _ | refine only_setCell ?_ (by simp) _)
    · rw [show sendsV m good bad false = m by simp [sendsV, sendsOk]; omega, show sendsOk good bad false = true by simp [sendsOk]; omega, show sendsC id n m good bad false = nodeC id n m 1 0 false by simp [sendsC, h]]
      go_enter Tryd.func43, Tryd.ntmps43
      go_wp2
      go_quiet (fail)
      go_wp2
      go_ret2
      refine ⟨rfl, ?_, ?_⟩
      · exact ((HB.out.drewN _).set_ 3 _).set_ 4 _
      · repeat (first | exact only_refl _ _ | refine only_drew ?_ | refine only_drewN ?_ _ | refine only_alloc ?_ _ | refine only_setCell ?_ (by simp) _)
  · rw [show sendsV m good bad true = 0 by simp [sendsV, sendsOk], show sendsOk good bad true = false by simp [sendsOk], show sendsC id n m good bad true = nodeC id n m good bad true by simp [sendsC]]
    go_enter Tryd.func43, Tryd.ntmps43
    go_wp2
    go_ret2
    exact ⟨rfl, HB.out, only_refl _ _⟩

theorem frozen_in (g id n m : Nat) (good bad : Int) (fz : Bool) (w : World) (hb : Blk w g 157 (nodeC id n m good bad fz)) :
    Calls Tryd.prog 51 #[.pointer (some ⟨g, 0, none⟩)] w fun e w' => e = .returned (.bool fz) ∧ w' = w := by
  have hlt := hb.lt
  have k5 := hb.cell 5
  simp at k5
  clear hb
  go_enter Tryd.func51, Tryd.ntmps51
  go_wp2
  go_ret
  exact ⟨rfl, rfl⟩
theorem members_in (g id n m : Nat) (good bad : Int) (fz : Bool) (w : World) (hb : Blk w g 157 (nodeC id n m good bad fz)) :
    Calls Tryd.prog 49 #[.pointer (some ⟨g, 0, none⟩)] w fun e w' => e = .returned (.int .i64 m) ∧ w' = w := by
  have hlt := hb.lt
  have k5 := hb.cell 2
  simp at k5
  clear hb
  go_enter Tryd.func49, Tryd.ntmps49
  go_wp2
  go_ret
  exact ⟨rfl, rfl⟩

set_option maxRecDepth 100000 in
set_option maxHeartbeats 1000000 in
theorem new_in (id n : Nat) (w : World) (h : id < n) (hn : n ≤ 16) :
    Calls Tryd.prog 38 #[.int .i64 id, .int .i64 n] w fun e w' => e = .returned (.tuple #[.pointer (some ⟨w.heap.size, 0, none⟩), .nilIface]) ∧ w.alloc (.cells (nodeC id n (2 ^ n - 1) 1 0 false) 157) = w' := by
  have hp : wrap64 (wrap64 (2 ^ n) - 1) = ((2 ^ n - 1 : Nat) : Int) := by
    have h1 : (2 : Nat) ^ n ≤ 2 ^ 16 := Nat.pow_le_pow_right (by omega) (by omega)
    have h2 : 0 < (2 : Nat) ^ n := Nat.two_pow_pos n
    rw [pow_small n (by omega)]
    generalize (2 : Nat) ^ n = x at h1 h2
    unfold wrap64
    omega
  have HP := hide hp; clear hp
  go_enter Tryd.func38, Tryd.ntmps38
  go_wp2
  go_ret2
  exact ⟨rfl, by rw [HP.out]⟩
end Go.Proofs.YtgdljdhibknjnabDoor
