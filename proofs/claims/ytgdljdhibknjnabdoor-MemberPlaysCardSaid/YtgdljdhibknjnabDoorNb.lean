/- The contracts of the methods of member.Node, whatever is asked; conditions: the node lies in a block of its own, its numbers are small. -/
import Derived.Test.YtgdljdhibknjnabDoorNa
import Derived.Test.YtgdljdhibknjnabDoorLib
import Derived.BigQuiet
import Derived.RegionTactic
namespace Go.Proofs.YtgdljdhibknjnabDoor
open Go.RowKit

set_option maxRecDepth 100000 in
set_option maxHeartbeats 2000000 in
theorem hears_all (g id n m : Nat) (good bad : Int) (fz : Bool) (fr what : Int) (w : World) (hb : Blk w g 157 (nodeC id n m good bad fz)) (hn : n ≤ 16) (hm : m < 65536) (g0 : 0 ≤ good) (g1 : good ≤ 1000000) (b0 : 0 ≤ bad) (b1 : bad ≤ 1000000) :
    Calls Tryd.prog 40 #[.pointer (some ⟨g, 0, none⟩), .int .i64 fr, .int .i64 what] w fun e w' => e = .returned (.tuple #[]) ∧ Blk w' g 157 (nodeC id n (hM id n m fz fr what) (hG id n good fz fr what) (hB id n bad fz fr what) fz) ∧ w.grownBy w' (some g) := by
  cases ho : hOk id n fz fr what
  case true =>
    have h : fz = false ∧ 0 ≤ fr ∧ fr < n ∧ fr ≠ id ∧ 0 ≤ what ∧ what ≤ 2 := by
      simp [hOk] at ho
      obtain ⟨⟨⟨⟨⟨a, b⟩, c⟩, d⟩, e⟩, f⟩ := ho
      exact ⟨a, b, c, d, e, f⟩
    obtain ⟨-, f0, f1, f2, w0, w2⟩ := h
    obtain ⟨k, rfl⟩ : ∃ k : Nat, fr = k := ⟨fr.toNat, by omega⟩
    rw [← hears_is id n m good bad fz k what ho]
    exact hears_in g id n m good bad fz k what w hb hn (by omega) (by omega) hm w0 w2 g0 g1 b0 b1
  case false =>
    rw [hM_no ho, hG_no ho, hB_no ho]
    have hlt := hb.lt
    have k0 := hb.cell 0
    have k1 := hb.cell 1
    have k2 := hb.cell 2
    have k3 := hb.cell 3
    have k4 := hb.cell 4
    have k5 := hb.cell 5
    simp at k0 k1 k2 k3 k4 k5
    have HB := hide hb; clear hb
    cases fz
    case true =>
      clear ho
      go_enter Tryd.func40, Tryd.ntmps40
      go_wp2
      refine bodyPost_ret (results_none rfl _ _ _) rfl ⟨rfl, ?_, ?_⟩
      · exact HB.out
      · exact only_refl _ _
    case false =>
      have hc : Hid (decide (fr < 0) = true ∨ (decide (fr < 0) = false ∧ decide ((n : Int) ≤ fr) = true) ∨ (decide (fr < 0) = false ∧ decide ((n : Int) ≤ fr) = false ∧ (fr == (id : Int)) = true) ∨ (decide (fr < 0) = false ∧ decide ((n : Int) ≤ fr) = false ∧ (fr == (id : Int)) = false ∧ decide (what < 0) = true) ∨ (decide (fr < 0) = false ∧ decide ((n : Int) ≤ fr) = false ∧ (fr == (id : Int)) = false ∧ decide (what < 0) = false ∧ decide (2 < what) = true)) := hide (by
        simp [hOk] at ho
        simp only [decide_eq_true_eq, decide_eq_false_iff_not, beq_iff_eq, beq_eq_false_iff_ne]
        omega)
      clear ho
      rcases hc.out with h1 | ⟨h1, h2⟩ | ⟨h1, h2, h3⟩ | ⟨h1, h2, h3, h4⟩ | ⟨h1, h2, h3, h4, h5⟩
      all_goals
        clear hc
        go_enter Tryd.func40, Tryd.ntmps40
        go_wp2
        refine bodyPost_ret (results_none rfl _ _ _) rfl ⟨rfl, ?_, ?_⟩
        · exact HB.out
        · exact only_refl _ _

theorem judgeV_bad {m fr mm : Nat} (h : judgeB m fr mm = false) : judgeV m fr mm = 2 := by unfold judgeV; rw [h]; rfl
set_option maxRecDepth 100000 in
set_option maxHeartbeats 2000000 in
theorem judges_all (g id n m : Nat) (good bad : Int) (fz : Bool) (fr mm : Int) (w : World) (hb : Blk w g 157 (nodeC id n m good bad fz)) (hn : n ≤ 16) (hm : m < 2 ^ n) (h1 : -9223372036854775808 ≤ mm) (h2 : mm ≤ 9223372036854775807) :
    Calls Tryd.prog 46 #[.pointer (some ⟨g, 0, none⟩), .int .i64 fr, .int .i64 mm] w fun e w' => e = .returned (.int .i64 (judgeG n m fr mm)) ∧ ∃ k, w' = w.drewN k := by
  have hm6 : m < 65536 := Nat.lt_of_lt_of_le hm (Nat.le_trans (Nat.pow_le_pow_right (by decide) hn) (by decide))
  by_cases hf : 0 ≤ fr ∧ fr < n
  · obtain ⟨k, rfl⟩ : ∃ k : Nat, fr = k := ⟨fr.toNat, by omega⟩
    by_cases hr : 0 ≤ mm ∧ mm < 65536
    · obtain ⟨j, rfl⟩ : ∃ j : Nat, mm = j := ⟨mm.toNat, by omega⟩
      rw [judgeG_in hm (by omega)]
      exact judges_in g id n m good bad fz k j w hb hn (by omega) hm6 (by omega)
    · have hr2 : mm < 0 ∨ 65536 ≤ mm := by omega
      have hg : judgeG n m (k : Int) mm = 2 := judgeG_bad (by
        rcases hr2 with h | h
        · exact .inr (.inr (.inl h))
        · have : 2 ^ n ≤ 2 ^ 16 := Nat.pow_le_pow_right (by decide) hn
          exact .inr (.inr (.inr (by omega))))
      rw [hg]
      have hne := hide (or_high mm m k hm6 (by omega) h1 h2 hr2)
      have d := hide (beq_eq_false_iff_ne.2 hne.out)
      have hlt := hb.lt
      have k0 := hb.cell 0
      have k1 := hb.cell 1
      have k2 := hb.cell 2
      have k3 := hb.cell 3
      have k4 := hb.cell 4
      have k5 := hb.cell 5
      simp at k0 k1 k2 k3 k4 k5
      have g1 : decide ((k : Int) < 0) = false := by simp
      have g2 : decide (n ≤ k) = false := by simp; omega
      have hkn : k < n := by omega
      clear hb hg hr hr2 hf
      go_enter Tryd.func46, Tryd.ntmps46
      go_wp2
      refine wp_region_quiet_lit (by kernel_rfl) (by kernel_rfl) ?_
      repeat (any_goals (first | go_big_quiet_step (fail) | quiet_step (fail) | (refine wpQuiet_step (fun K hK => ?_); go_simp; split <;> (refine hK _ ?_; clear hK K))))
      all_goals (refine wpQuiet_nil ?_; intro _ hw'; obtain ⟨nq, hw''⟩ := hw'; subst hw'')
      all_goals go_wp2
      all_goals first
        | (exfalso; exact hne.out ‹_›)
        | (go_ret; exact ⟨rfl, _, rfl⟩)
  · have hg : judgeG n m fr mm = 2 := judgeG_bad (by omega)
    rw [hg]
    have hlt := hb.lt
    have k1 := hb.cell 1
    simp at k1
    by_cases h0 : fr < 0
    · have g1 : decide (fr < 0) = true := decide_eq_true h0
      clear hb hg hf
      go_enter Tryd.func46, Tryd.ntmps46
      go_wp2
      go_quiet (fail)
      go_wp2
      go_ret
      exact ⟨rfl, _, rfl⟩
    · have g1 : decide (fr < 0) = false := decide_eq_false h0
      have g2 : decide ((n : Int) ≤ fr) = true := decide_eq_true (by omega)
      clear hb hg hf
      go_enter Tryd.func46, Tryd.ntmps46
      go_wp2
      go_quiet (fail)
      go_wp2
      go_ret
      exact ⟨rfl, _, rfl⟩
set_option maxRecDepth 100000 in
theorem ncounts_any (g id n m : Nat) (good bad : Int) (fz : Bool) (w : World) (hb : Blk w g 157 (nodeC id n m good bad fz)) :
    Calls Tryd.prog 48 #[.pointer (some ⟨g, 0, none⟩)] w fun e w' => e = .returned (.tuple #[.int .i64 good, .int .i64 bad]) ∧ ∃ k, w' = w.drewN k := by
  have hlt := hb.lt
  have k3 := hb.cell 3
  have k4 := hb.cell 4
  simp at k3 k4
  clear hb
  go_enter Tryd.func48, Tryd.ntmps48
  go_wp2
  go_quiet (fail)
  go_wp2
  go_ret2
  exact ⟨rfl, _, rfl⟩
set_option maxRecDepth 100000 in
set_option maxHeartbeats 4000000 in
theorem nback_any (g id n m : Nat) (good bad : Int) (fz : Bool) (mm : Int) (w : World) (hb : Blk w g 157 (nodeC id n m good bad fz)) (hn : n ≤ 16) (hi : id < n) :
    Calls Tryd.prog 44 #[.pointer (some ⟨g, 0, none⟩), .int .i64 mm] w fun e w' => e = .returned (errV (bE n fz mm)) ∧ Blk w' g 157 (nodeC id n (bM id m (bE n fz mm) mm) (bG (bE n fz mm) good) (bB (bE n fz mm) bad) (bF (bE n fz mm) fz)) ∧ w.grownBy w' (some g) := by
  have hlt := hb.lt
  have k0 := hb.cell 0
  have k1 := hb.cell 1
  have k2 := hb.cell 2
  have k3 := hb.cell 3
  have k4 := hb.cell 4
  have k5 := hb.cell 5
  simp at k0 k1 k2 k3 k4 k5
  have f2 := hb.frozen 2
  have f3 := hb.frozen 3
  have f4 := hb.frozen 4
  have f5 := hb.frozen 5
  have HB := hide hb; clear hb
  cases fz
  case false =>
    have he : bE n false mm = 6 := rfl
    rw [he]
    go_enter Tryd.func44, Tryd.ntmps44
    go_wp2
    go_ret
    exact ⟨rfl, HB.out, only_refl _ _⟩
  case true =>
    by_cases h0 : mm < 0
    · have he : bE n true mm = 1 := by unfold bE; rw [if_neg (by decide), if_pos (.inl h0)]
      rw [he]
      have d0 : decide (mm < 0) = true := decide_eq_true h0
      clear he
      go_enter Tryd.func44, Tryd.ntmps44
      go_wp2
      go_ret
      exact ⟨rfl, HB.out, only_refl _ _⟩
    · obtain ⟨j, rfl⟩ : ∃ j : Nat, mm = j := ⟨mm.toNat, by omega⟩
      have d0 : decide ((j : Int) < 0) = false := decide_eq_false h0
      have e1 : ((j : Int) / 2 ^ n) = ((j / 2 ^ n : Nat) : Int) := by simp
      by_cases hj : 2 ^ n ≤ j
      · have he : bE n true (j : Int) = 1 := by unfold bE; rw [if_neg (by decide), if_pos (.inr (by omega))]
        rw [he]
        have d1 : (((j : Int) / 2 ^ n) == 0) = false := by rw [beq_eq_false_iff_ne, e1]; have := Nat.div_pos hj (Nat.two_pow_pos n); omega
        clear he e1 h0 hj
        go_enter Tryd.func44, Tryd.ntmps44
        go_wp2
        go_ret
        exact ⟨rfl, HB.out, only_refl _ _⟩
      · have he : bE n true (j : Int) = 0 := by unfold bE; rw [if_neg (by decide), if_neg (by omega)]
        rw [he]
        have d1 : (((j : Int) / 2 ^ n) == 0) = true := by rw [e1, Nat.div_eq_of_lt (by omega)]; rfl
        have hj6 : j < 65536 := Nat.lt_of_lt_of_le (Nat.lt_of_not_le hj) (Nat.le_trans (Nat.pow_le_pow_right (by decide) hn) (by decide))
        have ho := hide (or_pow j id hj6 (by omega))
        have hres : nodeC id n (bM id m 0 (j : Int)) (bG 0 good) (bB 0 bad) (bF 0 true) = #[.int .i64 id, .int .i64 n, .int .i64 ((j ||| 2 ^ id : Nat)), .int .i64 1, .int .i64 0, .bool false] := by simp [bM, bG, bB, bF]
        rw [hres]
        clear he e1 h0 hj hres
        go_enter Tryd.func44, Tryd.ntmps44
        go_wp2_with fail
        go_region
        go_wp2
        go_ret
        refine ⟨rfl, ?_, ?_⟩
        · rw [ho.out]
          exact ((((HB.out.set_ 5 _).set_ 2 _).set_ 3 _).set_ 4 _).drew
        · repeat (first | exact only_refl _ _ | refine only_drew ?_ | refine only_drewN ?_ _ | refine only_alloc ?_ _ | refine only_setCell ?_ (by simp) _)
set_option maxRecDepth 100000 in
theorem newm_bad (id n : Int) (w : World) (h : n < 1 ∨ 16 < n ∨ id < 0 ∨ n ≤ id) :
    Calls Tryd.prog 38 #[.int .i64 id, .int .i64 n] w fun e w' => e = .returned (.tuple #[.pointer none, errV 1]) ∧ Below w.heap.size w w' := by
  have hc : Hid (decide (n < 1) = true ∨ (decide (n < 1) = false ∧ decide (16 < n) = true) ∨ (decide (n < 1) = false ∧ decide (16 < n) = false ∧ decide (id < 0) = true) ∨ (decide (n < 1) = false ∧ decide (16 < n) = false ∧ decide (id < 0) = false ∧ decide (n ≤ id) = true)) := hide (by
    simp only [decide_eq_true_eq, decide_eq_false_iff_not]; omega)
  clear h
  rcases hc.out with h1 | ⟨h1, h2⟩ | ⟨h1, h2, h3⟩ | ⟨h1, h2, h3, h4⟩
  all_goals
    clear hc
    go_enter Tryd.func38, Tryd.ntmps38
    go_wp2
    go_ret2
    exact ⟨rfl, Below.refl _ _⟩
end Go.Proofs.YtgdljdhibknjnabDoor
