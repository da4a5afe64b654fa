/- The document's sum, bit by bit, is the sum: plain facts, no program in sight. -/
import Derived.Test.YtdbegdhbabfnoaaDoorBu
set_option linter.unusedVariables false
set_option linter.unusedSimpArgs false
namespace Go.Proofs.YtdbegdhbabfnoaaDoor
/-- One bit of the document's sum. -/
def rstep (r : Nat) (bit : Bool) : Nat := (2 * r % 65536) ^^^ (if bit then 4129 else 0)
theorem rstep_lt (r : Nat) (bit : Bool) : rstep r bit < 65536 := by
  unfold rstep
  exact Nat.xor_lt_two_pow (n := 16) (by omega) (by split <;> omega)
theorem rstep_eq (r x j z : Nat) (hr : r < 65536) (hj : j < 8) (hz : z < 65536) (h : r ^^^ (x * 2 ^ (8 + j) % 65536) = z) :
    rstep r (x.testBit (7 - j) ^^ r.testBit 15) ^^^ (x * 2 ^ (8 + (j + 1)) % 65536) = crcT z := by
  have hy : x * 2 ^ (8 + j) % 65536 < 65536 := Nat.mod_lt _ (by omega)
  have e1 : (x * 2 ^ (8 + j) % 65536).testBit 15 = x.testBit (7 - j) := by
    rw [show (65536 : Nat) = 2 ^ 16 from rfl, Nat.testBit_mod_two_pow, Nat.testBit_mul_two_pow, show 15 - (8 + j) = 7 - j by omega]
    simp; omega
  have e2 : x * 2 ^ (8 + (j + 1)) % 65536 = 2 * (x * 2 ^ (8 + j) % 65536) % 65536 := by
    rw [show 8 + (j + 1) = (8 + j) + 1 by omega, Nat.pow_succ, ← Nat.mul_assoc x]
    omega
  have e3 : decide (32768 ≤ z) = (x.testBit (7 - j) ^^ r.testBit 15) := by
    rw [← top_bit z hz, ← h, Nat.testBit_xor, e1, Bool.xor_comm]
  have hd := dbl_xor r (x * 2 ^ (8 + j) % 65536)
  rw [h] at hd
  rw [crcT_alt z hz, hd, e2]
  unfold rstep
  rw [← e3]
  simp only [decide_eq_true_eq]
  rw [Nat.xor_assoc, Nat.xor_assoc]
  congr 1
  rw [Nat.xor_comm]
theorem rstep_zero (q x : Nat) (hx : x < 256) : q ^^^ (x * 2 ^ (8 + 0) % 65536) = q ^^^ (x * 256) := by
  rw [show (2 : Nat) ^ (8 + 0) = 256 from rfl, Nat.mod_eq_of_lt (by omega)]
theorem rstep_last (r x z : Nat) (h : r ^^^ (x * 2 ^ (8 + 8) % 65536) = z) : r = z := by
  rw [show (2 : Nat) ^ (8 + 8) = 65536 from rfl, Nat.mul_mod_left, Nat.xor_zero] at h
  exact h
end Go.Proofs.YtdbegdhbabfnoaaDoor
