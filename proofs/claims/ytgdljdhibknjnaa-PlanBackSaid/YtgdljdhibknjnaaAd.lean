/- The contracts of Add of packages ticks and metronomeref; no condition. -/
import Derived.Test.YtgdljdhibknjnaaIn
namespace Go.Proofs.Ytgdljdhibknjnaa
open Go.RowKit

theorem within_any (n : Int) (w : World) :
    Calls Try.prog 78 #[.int .i64 n] w fun e w' => e = .returned (.bool (inB n (-1099511627776) 1099511627776)) ∧ w = w' := by
  go_enter Try.func78, Try.ntmps78
  go_wp2
  all_goals (go_ret; exact ⟨ret_bool (by simp only [inB]; simp [*] <;> omega), rfl⟩)

def addOk (a b : Int) : Bool := inB a (-1099511627776) 1099511627776 && inB b (-1099511627776) 1099511627776 && inB (a + b) (-1099511627776) 1099511627776
def addE (a b : Int) : Int := if addOk a b then 0 else 2
def addN (a b : Int) : Int := if addOk a b then a + b else 0
theorem ret_two {a b : Value} {c d : Value} (h : a = c) (k : b = d) : Ending.returned (.tuple #[a, b]) = .returned (.tuple #[c, d]) := by rw [h, k]


set_option maxHeartbeats 1000000 in
theorem radd_any (a b : Int) (w : World) :
    Calls Try.prog 71 #[.int .i64 a, .int .i64 b] w fun e w' => e = .returned (.tuple #[.int .i64 (addN a b), .int .i64 (addE a b)]) ∧ w = w' := by
  by_cases h1 : inB a (-1099511627776) 1099511627776 = true
  · by_cases h2 : inB b (-1099511627776) 1099511627776 = true
    · obtain ⟨a0, a1⟩ := inB_bd h1
      obtain ⟨b0, b1⟩ := inB_bd h2
      by_cases h3 : inB (a + b) (-1099511627776) 1099511627776 = true
      · have hn : addN a b = a + b := by simp [addN, addOk, h1, h2, h3]
        have he : addE a b = 0 := by simp [addE, addOk, h1, h2, h3]
        rw [hn, he]
        have H1 := hide h1; have H2 := hide h2; have H3 := hide h3
        clear h1 h2 h3 hn he
        go_enter Try.func71, Try.ntmps71
        go_wp2_with fail
        refine (in_is _ _ _ _ H1.out _).mono ?_
        rintro e w' ⟨rfl, rfl⟩
        go_wp2_with fail
        refine (in_is _ _ _ _ H2.out _).mono ?_
        rintro e w' ⟨rfl, rfl⟩
        go_wp2_with fail
        refine (in_is _ _ _ _ H3.out _).mono ?_
        rintro e w' ⟨rfl, rfl⟩
        go_wp2_with fail
        go_ret2
        exact ⟨rfl, rfl⟩
      · have h3 : inB (a + b) (-1099511627776) 1099511627776 = false := by simpa using h3
        have hn : addN a b = 0 := by simp [addN, addOk, h3]
        have he : addE a b = 2 := by simp [addE, addOk, h3]
        rw [hn, he]
        have H1 := hide h1; have H2 := hide h2; have H3 := hide h3
        clear h1 h2 h3 hn he
        go_enter Try.func71, Try.ntmps71
        go_wp2_with fail
        refine (in_is _ _ _ _ H1.out _).mono ?_
        rintro e w' ⟨rfl, rfl⟩
        go_wp2_with fail
        refine (in_is _ _ _ _ H2.out _).mono ?_
        rintro e w' ⟨rfl, rfl⟩
        go_wp2_with fail
        refine (in_is _ _ _ _ H3.out _).mono ?_
        rintro e w' ⟨rfl, rfl⟩
        go_wp2_with fail
        go_ret2
        exact ⟨rfl, rfl⟩
    · have h2 : inB b (-1099511627776) 1099511627776 = false := by simpa using h2
      have hn : addN a b = 0 := by simp [addN, addOk, h2]
      have he : addE a b = 2 := by simp [addE, addOk, h2]
      rw [hn, he]
      have H1 := hide h1; have H2 := hide h2
      clear h1 h2 hn he
      go_enter Try.func71, Try.ntmps71
      go_wp2_with fail
      refine (in_is _ _ _ _ H1.out _).mono ?_
      rintro e w' ⟨rfl, rfl⟩
      go_wp2_with fail
      refine (in_is _ _ _ _ H2.out _).mono ?_
      rintro e w' ⟨rfl, rfl⟩
      go_wp2_with fail
      go_ret2
      exact ⟨rfl, rfl⟩
  · have h1 : inB a (-1099511627776) 1099511627776 = false := by simpa using h1
    have hn : addN a b = 0 := by simp [addN, addOk, h1]
    have he : addE a b = 2 := by simp [addE, addOk, h1]
    rw [hn, he]
    have H1 := hide h1
    clear h1 hn he
    go_enter Try.func71, Try.ntmps71
    go_wp2_with fail
    refine (in_is _ _ _ _ H1.out _).mono ?_
    rintro e w' ⟨rfl, rfl⟩
    go_wp2_with fail
    go_ret2
    exact ⟨rfl, rfl⟩

theorem within_is (n : Int) (v : Bool) (hv : inB n (-1099511627776) 1099511627776 = v) (w : World) :
    Calls Try.prog 78 #[.int .i64 n] w fun e w' => e = .returned (.bool v) ∧ w = w' := by subst hv; exact within_any n w

set_option maxHeartbeats 1000000 in
theorem tadd_any (a b : Int) (w : World) :
    Calls Try.prog 73 #[.int .i64 a, .int .i64 b] w fun e w' => e = .returned (.tuple #[.int .i64 (addN a b), errV (addE a b)]) ∧ w = w' := by
  by_cases h1 : inB a (-1099511627776) 1099511627776 = true
  · by_cases h2 : inB b (-1099511627776) 1099511627776 = true
    · obtain ⟨a0, a1⟩ := inB_bd h1
      obtain ⟨b0, b1⟩ := inB_bd h2
      by_cases h3 : inB (a + b) (-1099511627776) 1099511627776 = true
      · have hn : addN a b = a + b := by simp [addN, addOk, h1, h2, h3]
        have he : errV (addE a b) = .nilIface := by simp [errV, addE, addOk, h1, h2, h3]
        rw [hn, he]
        have H1 := hide h1; have H2 := hide h2; have H3 := hide h3
        clear h1 h2 h3 hn he
        go_enter Try.func73, Try.ntmps73
        go_wp2_with fail
        refine (within_is _ _ H1.out _).mono ?_
        rintro e w' ⟨rfl, rfl⟩
        go_wp2_with fail
        refine (within_is _ _ H2.out _).mono ?_
        rintro e w' ⟨rfl, rfl⟩
        go_wp2_with fail
        refine (within_is _ _ H3.out _).mono ?_
        rintro e w' ⟨rfl, rfl⟩
        go_wp2_with fail
        go_ret2
        exact ⟨rfl, rfl⟩
      · have h3 : inB (a + b) (-1099511627776) 1099511627776 = false := by simpa using h3
        have hn : addN a b = 0 := by simp [addN, addOk, h3]
        have he : errV (addE a b) = .iface 110 (.int .i64 2) := by simp [errV, addE, addOk, h3]
        rw [hn, he]
        have H1 := hide h1; have H2 := hide h2; have H3 := hide h3
        clear h1 h2 h3 hn he
        go_enter Try.func73, Try.ntmps73
        go_wp2_with fail
        refine (within_is _ _ H1.out _).mono ?_
        rintro e w' ⟨rfl, rfl⟩
        go_wp2_with fail
        refine (within_is _ _ H2.out _).mono ?_
        rintro e w' ⟨rfl, rfl⟩
        go_wp2_with fail
        refine (within_is _ _ H3.out _).mono ?_
        rintro e w' ⟨rfl, rfl⟩
        go_wp2_with fail
        go_ret2
        exact ⟨rfl, rfl⟩
    · have h2 : inB b (-1099511627776) 1099511627776 = false := by simpa using h2
      have hn : addN a b = 0 := by simp [addN, addOk, h2]
      have he : errV (addE a b) = .iface 110 (.int .i64 2) := by simp [errV, addE, addOk, h2]
      rw [hn, he]
      have H1 := hide h1; have H2 := hide h2
      clear h1 h2 hn he
      go_enter Try.func73, Try.ntmps73
      go_wp2_with fail
      refine (within_is _ _ H1.out _).mono ?_
      rintro e w' ⟨rfl, rfl⟩
      go_wp2_with fail
      refine (within_is _ _ H2.out _).mono ?_
      rintro e w' ⟨rfl, rfl⟩
      go_wp2_with fail
      go_ret2
      exact ⟨rfl, rfl⟩
  · have h1 : inB a (-1099511627776) 1099511627776 = false := by simpa using h1
    have hn : addN a b = 0 := by simp [addN, addOk, h1]
    have he : errV (addE a b) = .iface 110 (.int .i64 2) := by simp [errV, addE, addOk, h1]
    rw [hn, he]
    have H1 := hide h1
    clear h1 hn he
    go_enter Try.func73, Try.ntmps73
    go_wp2_with fail
    refine (within_is _ _ H1.out _).mono ?_
    rintro e w' ⟨rfl, rfl⟩
    go_wp2_with fail
    go_ret2
    exact ⟨rfl, rfl⟩

end Go.Proofs.Ytgdljdhibknjnaa
