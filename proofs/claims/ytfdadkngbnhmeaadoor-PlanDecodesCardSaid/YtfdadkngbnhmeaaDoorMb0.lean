/- Sets and bits of a member: plain facts; no condition. -/
import Derived.Test.YtfdadkngbnhmeaaDoorBt
import Derived.Laws.Shifts
import Derived.Laws.ShiftsVar
import Derived.Laws.ShiftsVarLaws
namespace Go.Proofs.YtfdadkngbnhmeaaDoor
open Go.RowKit

/-- The cells of a node. -/
abbrev nodeC (id n m : Nat) (good bad : Int) (fz : Bool) : Array Value := #[.int .i64 id, .int .i64 n, .int .i64 m, .int .i64 good, .int .i64 bad, .bool fz]
/-- Is it Good? -/
def judgeB (m fr mm : Nat) : Bool := decide (mm ||| 2 ^ fr = m ||| 2 ^ fr) && mm.testBit fr

/-- What Judges tells. -/
def judgeV (m fr mm : Nat) : Int := if judgeB m fr mm then 1 else 2

theorem or_pow (m k : Nat) (hm : m < 65536) (hk : k < 17) : bits .or .i64 (m : Int) (wrap64 (2 ^ k)) = ((m ||| 2 ^ k : Nat) : Int) := by
  have h1 : (2 : Nat) ^ k ≤ 2 ^ 16 := Nat.pow_le_pow_right (by omega) (by omega)
  rw [pow_small k hk, i64_or_nat m (2 ^ k) (by omega) (by omega)]
theorem clr_pow (m k : Nat) (hm : m < 65536) (hk : k < 17) : bits .andNot .i64 (m : Int) (wrap64 (2 ^ k)) = ((clr m (2 ^ k) : Nat) : Int) := by
  have h1 : (2 : Nat) ^ k ≤ 2 ^ 16 := Nat.pow_le_pow_right (by omega) (by omega)
  rw [pow_small k hk, i64_andNot_nat m (2 ^ k) (by omega) (by omega)]

theorem judge_bad1 (m fr mm : Nat) (hm : m < 65536) (hmm : mm < 65536) (hf : fr < 17) (h : ¬ bits .or .i64 (mm : Int) (wrap64 (2 ^ fr)) = bits .or .i64 (m : Int) (wrap64 (2 ^ fr))) : judgeB m fr mm = false := by
  rw [or_pow _ _ hm hf, or_pow _ _ hmm hf] at h
  have h' : ¬ (mm ||| 2 ^ fr = m ||| 2 ^ fr) := fun e => h (by rw [e])
  simp [judgeB, h']
theorem judge_bad2 (m fr mm : Nat) (hmm : mm < 65536) (h : (bits .and .i64 ((mm : Int) / 2 ^ fr) 1 == 0) = true) : judgeB m fr mm = false := by
  rw [bit_one _ _ hmm] at h
  cases hb : mm.testBit fr
  · simp [judgeB, hb]
  · simp [hb] at h
theorem judge_good (m fr mm : Nat) (hm : m < 65536) (hmm : mm < 65536) (hf : fr < 17) (h : bits .or .i64 (mm : Int) (wrap64 (2 ^ fr)) = bits .or .i64 (m : Int) (wrap64 (2 ^ fr))) (h' : (bits .and .i64 ((mm : Int) / 2 ^ fr) 1 == 0) = false) : judgeB m fr mm = true := by
  rw [or_pow _ _ hm hf, or_pow _ _ hmm hf] at h
  have h := Int.ofNat.inj h
  rw [bit_one _ _ hmm] at h'
  cases hb : mm.testBit fr
  · simp [hb] at h'
  · simp [judgeB, hb, h]

end Go.Proofs.YtfdadkngbnhmeaaDoor
