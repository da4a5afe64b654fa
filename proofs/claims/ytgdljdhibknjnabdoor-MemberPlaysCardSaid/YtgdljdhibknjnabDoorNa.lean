/- The document's member as a set: plain facts, no program in sight. -/
import Derived.Test.YtgdljdhibknjnabDoorMb
namespace Go.Proofs.YtgdljdhibknjnabDoor
open Go.RowKit

theorem mod_succ (m k : Nat) : m % 2 ^ (k + 1) = m % 2 ^ k + if m.testBit k then 2 ^ k else 0 := by
  rw [Nat.pow_succ, Nat.mod_mul, Nat.testBit_eq_decide_div_mod_eq]
  have := Nat.mod_two_eq_zero_or_one (m / 2 ^ k)
  rcases this with h | h <;> simp [h]
theorem and_two (m k : Nat) : m &&& 2 ^ k = if m.testBit k then 2 ^ k else 0 := by
  apply Nat.eq_of_testBit_eq
  intro i
  rw [Nat.testBit_and, Nat.testBit_two_pow]
  by_cases h : k = i
  · subst h
    cases hb : m.testBit k <;> simp [Nat.testBit_two_pow]
  · cases m.testBit k <;> simp [Nat.testBit_two_pow, h]
theorem and_pow (m k : Nat) (hm : m < 65536) (hk : k < 17) : bits .and .i64 (m : Int) (wrap64 (2 ^ k)) = if m.testBit k then ((2 ^ k : Nat) : Int) else 0 := by
  have h1 : (2 : Nat) ^ k ≤ 2 ^ 16 := Nat.pow_le_pow_right (by omega) (by omega)
  rw [pow_small k hk, i64_and_nat m (2 ^ k) (by omega) (by omega), and_two]
  cases m.testBit k <;> simp
theorem and_pow_ne (m k : Nat) (hm : m < 65536) (hk : k < 17) : (bits .and .i64 (m : Int) (wrap64 (2 ^ k)) == 0) = !m.testBit k := by
  rw [and_pow m k hm hk]
  have := Nat.two_pow_pos k
  cases m.testBit k
  · simp
  · simp only [if_true, Bool.not_true]
    rw [beq_eq_false_iff_ne]; omega
theorem or_high (mm : Int) (m k : Nat) (hm : m < 65536) (hk : k < 16) (h1 : -9223372036854775808 ≤ mm) (h2 : mm ≤ 9223372036854775807) (h : mm < 0 ∨ 65536 ≤ mm) : ¬ bits .or .i64 mm (wrap64 (2 ^ k)) = bits .or .i64 (m : Int) (wrap64 (2 ^ k)) := by
  intro e
  have hp : (2 : Nat) ^ k ≤ 2 ^ 15 := Nat.pow_le_pow_right (by omega) (by omega)
  have hlt : m ||| 2 ^ k < 2 ^ 16 := Nat.or_lt_two_pow (by omega) (by omega)
  rw [or_pow m k hm (by omega), pow_small k (by omega)] at e
  have e' : IntKind.i64.wrap ((BitVec.ofInt 64 mm ||| BitVec.ofInt 64 ((2 ^ k : Nat) : Int)).toNat : Int) = ((m ||| 2 ^ k : Nat) : Int) := e
  rw [BitVec.toNat_or, IntKind.wrap_i64] at e'
  have hle := @Nat.left_le_or (BitVec.ofInt 64 mm).toNat (BitVec.ofInt 64 ((2 ^ k : Nat) : Int)).toNat
  have hb : (BitVec.ofInt 64 mm).toNat ||| (BitVec.ofInt 64 ((2 ^ k : Nat) : Int)).toNat < 2 ^ 64 := Nat.or_lt_two_pow (BitVec.isLt _) (BitVec.isLt _)
  have hx : (BitVec.ofInt 64 mm).toNat = (mm % 18446744073709551616).toNat := by
    rw [BitVec.toNat_ofInt]; rfl
  generalize (BitVec.ofInt 64 mm).toNat ||| (BitVec.ofInt 64 ((2 ^ k : Nat) : Int)).toNat = y at *
  generalize m ||| 2 ^ k = z at *
  rw [hx] at hle
  clear hx
  omega
/-- What the document's Judges looks at, place by place. -/
def fineAt (m fr mm i : Nat) : Bool := if i = fr then mm.testBit i else mm.testBit i == m.testBit i
theorem judge_all {n m fr mm : Nat} (hm : m < 2 ^ n) (hmm : mm < 2 ^ n) (hf : fr < n) (h : ∀ i, i < n → fineAt m fr mm i = true) : judgeB m fr mm = true := by
  have h0 := h fr hf
  unfold fineAt at h0
  rw [if_pos rfl] at h0
  unfold judgeB
  rw [h0, Bool.and_true, decide_eq_true_eq]
  apply Nat.eq_of_testBit_eq
  intro i
  rw [Nat.testBit_or, Nat.testBit_or, Nat.testBit_two_pow]
  by_cases hi : i = fr
  · subst hi; simp
  · rcases Nat.lt_or_ge i n with hlt | hge
    · have h1 := h i hlt
      unfold fineAt at h1
      rw [if_neg hi] at h1
      simp at h1
      rw [h1]
    · have hp : 2 ^ n ≤ 2 ^ i := Nat.pow_le_pow_right (by omega) hge
      rw [Nat.testBit_lt_two_pow (Nat.lt_of_lt_of_le hm hp), Nat.testBit_lt_two_pow (Nat.lt_of_lt_of_le hmm hp)]
theorem judge_not {m fr mm i : Nat} (h : fineAt m fr mm i = false) : judgeB m fr mm = false := by
  cases hj : judgeB m fr mm
  · rfl
  · unfold judgeB at hj
    simp at hj
    obtain ⟨e, hb⟩ := hj
    unfold fineAt at h
    by_cases hi : i = fr
    · rw [if_pos hi] at h; subst hi; rw [hb] at h; cases h
    · rw [if_neg hi] at h
      have := congrArg (fun x => Nat.testBit x i) e
      simp only [Nat.testBit_or, Nat.testBit_two_pow] at this
      have hd : decide (fr = i) = false := decide_eq_false (by omega)
      rw [hd, Bool.or_false, Bool.or_false] at this
      rw [this] at h; simp at h
theorem judge_high {n m fr mm : Nat} (hm : m < 2 ^ n) (hmm : 2 ^ n ≤ mm) (hf : fr < n) : judgeB m fr mm = false := by
  cases hj : judgeB m fr mm
  · rfl
  · exfalso
    unfold judgeB at hj
    simp at hj
    obtain ⟨e, hb⟩ := hj
    have hlt : m ||| 2 ^ fr < 2 ^ n := Nat.or_lt_two_pow hm (Nat.pow_lt_pow_right (by omega) hf)
    have := @Nat.left_le_or mm (2 ^ fr)
    omega
/-- What Judges tells, whatever is asked. -/
def judgeG (n m : Nat) (fr mm : Int) : Int := if fr < 0 ∨ (n : Int) ≤ fr ∨ mm < 0 ∨ (2 ^ n : Nat) ≤ mm then 2 else judgeV m fr.toNat mm.toNat
theorem judgeG_bad {n m : Nat} {fr mm : Int} (h : fr < 0 ∨ (n : Int) ≤ fr ∨ mm < 0 ∨ (2 ^ n : Nat) ≤ mm) : judgeG n m fr mm = 2 := by unfold judgeG; rw [if_pos h]
theorem judgeG_in {n m fr mm : Nat} (hm : m < 2 ^ n) (hf : fr < n) : judgeG n m (fr : Int) (mm : Int) = judgeV m fr mm := by
  unfold judgeG
  by_cases h : 2 ^ n ≤ mm
  · rw [if_pos (by omega)]
    unfold judgeV
    rw [judge_high hm h hf]; rfl
  · rw [if_neg (by omega)]; rfl

/-- Does Hears change anything? -/
def hOk (id n : Nat) (fz : Bool) (fr what : Int) : Bool := !fz && decide (0 ≤ fr) && decide (fr < n) && !decide (fr = id) && decide (0 ≤ what) && decide (what ≤ 2)
def hM (id n m : Nat) (fz : Bool) (fr what : Int) : Nat := if hOk id n fz fr what then (if what = 1 then m ||| 2 ^ fr.toNat else clr m (2 ^ fr.toNat)) else m
def hG (id n : Nat) (good : Int) (fz : Bool) (fr what : Int) : Int := if hOk id n fz fr what && decide (what = 1) then good + 1 else good
def hB (id n : Nat) (bad : Int) (fz : Bool) (fr what : Int) : Int := if hOk id n fz fr what && decide (what = 2) then bad + 1 else bad
theorem hM_lt {id n m : Nat} {fz : Bool} {fr what : Int} (hm : m < 2 ^ n) : hM id n m fz fr what < 2 ^ n := by
  unfold hM
  split
  · rename_i h
    simp [hOk] at h
    split
    · exact Nat.or_lt_two_pow hm (Nat.pow_lt_pow_right (by omega) (by omega))
    · exact clr_lt _ _ _ hm
  · exact hm
theorem hG_bd {id n k : Nat} {good : Int} {fz : Bool} {fr what : Int} (h : 0 ≤ good ∧ good ≤ k) : 0 ≤ hG id n good fz fr what ∧ hG id n good fz fr what ≤ (k + 1 : Nat) := by unfold hG; split <;> omega
theorem hB_bd {id n k : Nat} {good : Int} {fz : Bool} {fr what : Int} (h : 0 ≤ good ∧ good ≤ k) : 0 ≤ hB id n good fz fr what ∧ hB id n good fz fr what ≤ (k + 1 : Nat) := by unfold hB; split <;> omega
theorem hears_is (id n m : Nat) (good bad : Int) (fz : Bool) (fr : Nat) (what : Int) (h : hOk id n fz (fr : Int) what = true) : hearsC id n m good bad fz fr what = nodeC id n (hM id n m fz fr what) (hG id n good fz fr what) (hB id n bad fz fr what) fz := by
  unfold hM hG hB
  rw [h]
  have hz : fz = false := by simp [hOk] at h; exact h.1.1.1.1
  unfold hearsC
  rw [hz]
  by_cases h1 : what = 1
  · subst h1; simp
  · by_cases h2 : what = 2
    · subst h2; simp
    · simp [h1, h2]
theorem hM_no {id n m : Nat} {fz : Bool} {fr what : Int} (h : hOk id n fz fr what = false) : hM id n m fz fr what = m := by unfold hM; rw [h]; rfl
theorem hG_no {id n : Nat} {good : Int} {fz : Bool} {fr what : Int} (h : hOk id n fz fr what = false) : hG id n good fz fr what = good := by unfold hG; rw [h]; rfl
theorem hB_no {id n : Nat} {good : Int} {fz : Bool} {fr what : Int} (h : hOk id n fz fr what = false) : hB id n good fz fr what = good := by unfold hB; rw [h]; rfl
/-- What Sends leaves. -/
def sG (good bad : Int) (fz : Bool) : Int := if sendsOk good bad fz then 1 else good
def sB (good bad : Int) (fz : Bool) : Int := if sendsOk good bad fz then 0 else bad
theorem sends_is (id n m : Nat) (good bad : Int) (fz : Bool) : sendsC id n m good bad fz = nodeC id n m (sG good bad fz) (sB good bad fz) (!sendsOk good bad fz) := by
  unfold sendsC sG sB sendsOk
  cases fz
  · by_cases h : good ≤ bad
    · have h' : ¬ bad < good := by omega
      simp [h, h']
    · have h' : bad < good := by omega
      simp [h, h']
  · simp
theorem sG_bd {k : Nat} {good bad : Int} {fz : Bool} (h : 0 ≤ good ∧ good ≤ k) (hk : 1 ≤ k) : 0 ≤ sG good bad fz ∧ sG good bad fz ≤ (k + 1 : Nat) := by unfold sG; split <;> omega
theorem sB_bd {k : Nat} {good bad : Int} {fz : Bool} (h : 0 ≤ bad ∧ bad ≤ k) : 0 ≤ sB good bad fz ∧ sB good bad fz ≤ (k + 1 : Nat) := by unfold sB; split <;> omega
/-- What Back answers. -/
def bE (n : Nat) (fz : Bool) (mm : Int) : Int := if fz = false then 6 else if mm < 0 ∨ (2 ^ n : Nat) ≤ mm then 1 else 0
def bM (id m : Nat) (e mm : Int) : Nat := if e = 0 then mm.toNat ||| 2 ^ id else m
def bG (e good : Int) : Int := if e = 0 then 1 else good
def bB (e bad : Int) : Int := if e = 0 then 0 else bad
def bF (e : Int) (fz : Bool) : Bool := if e = 0 then false else fz
theorem bM_lt {id n m : Nat} {fz : Bool} {mm : Int} (hm : m < 2 ^ n) (hi : id < n) : bM id m (bE n fz mm) mm < 2 ^ n := by
  unfold bM
  split
  · rename_i h
    refine Nat.or_lt_two_pow ?_ (Nat.pow_lt_pow_right (by omega) hi)
    unfold bE at h
    split at h
    · cases h
    · split at h
      · cases h
      · omega
  · exact hm
theorem bG_bd {k : Nat} {e good : Int} (h : 0 ≤ good ∧ good ≤ k) (hk : 1 ≤ k) : 0 ≤ bG e good ∧ bG e good ≤ (k + 1 : Nat) := by unfold bG; split <;> omega
theorem bB_bd {k : Nat} {e good : Int} (h : 0 ≤ good ∧ good ≤ k) : 0 ≤ bB e good ∧ bB e good ≤ (k + 1 : Nat) := by unfold bB; split <;> omega
/-- The document's set, place by place. -/
def tkA (n m : Nat) : Array Value := ((List.range n).map fun i => Value.bool (m.testBit i)).toArray
theorem tkA_get {n m i : Nat} (h : i < n) : (tkA n m)[i]? = some (.bool (m.testBit i)) := by simp [tkA, h]
theorem tkA_ext {n m : Nat} {a : Array Value} (hs : a.size = n) (h : ∀ i, i < n → a[i]? = some (.bool (m.testBit i))) : a = tkA n m := by
  apply Array.ext_getElem?
  intro i
  rcases Nat.lt_or_ge i n with hlt | hge
  · rw [h i hlt, tkA_get hlt]
  · rw [Array.getElem?_eq_none (by omega), Array.getElem?_eq_none (by simp [tkA]; omega)]
/-- One place of a set, made new. -/
theorem tkA_set {n m fr : Nat} {b : Bool} {m' : Nat} (hf : fr < n) (hb : m'.testBit fr = b) (ho : ∀ i, i ≠ fr → m'.testBit i = m.testBit i) : (tkA n m).setIfInBounds fr (.bool b) = tkA n m' := by
  apply tkA_ext (by simp [tkA])
  intro i hi
  rw [Array.getElem?_setIfInBounds]
  by_cases h : fr = i
  · subst h; simp [tkA, hf, hb]
  · rw [if_neg h, tkA_get hi, ho i (Ne.symm h)]
theorem or_bit_on (m k : Nat) : (m ||| 2 ^ k).testBit k = true := by simp [Nat.testBit_or]
theorem or_bit_off {m k i : Nat} (h : i ≠ k) : (m ||| 2 ^ k).testBit i = m.testBit i := by simp [Nat.testBit_or, Nat.testBit_two_pow, Ne.symm h]
theorem clr_bit_on (m k : Nat) : (clr m (2 ^ k)).testBit k = false := by simp [clr_bit]
theorem clr_bit_off {m k i : Nat} (h : i ≠ k) : (clr m (2 ^ k)).testBit i = m.testBit i := by simp [clr_bit, Nat.testBit_two_pow, Ne.symm h]
end Go.Proofs.YtgdljdhibknjnabDoor
