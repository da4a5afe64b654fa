/- The sum sees every burst: plain facts on crcS; no condition. -/
import Derived.Test.YtdbegdhbabfnoaaDoorCr
set_option linter.unusedVariables false
set_option linter.unusedSimpArgs false
namespace Go.Proofs.YtdbegdhbabfnoaaDoor
theorem crcT_zero (v : Nat) (h : v < 65536) (h0 : crcT v = 0) : v = 0 := by
  unfold crcT at h0
  split at h0
  · have h1 : 2 * v % 65536 = 4129 := by
      have := congrArg (· ^^^ 4129) h0
      simpa [Nat.xor_assoc] using this
    omega
  · omega
theorem crcI_zero (k v : Nat) (h : v < 65536) (h0 : crcI k v = 0) : v = 0 := by
  induction k with
  | zero => exact h0
  | succ k ih => exact ih (crcT_zero _ (crcI_lt k v h) h0)
theorem top_bit (v : Nat) (h : v < 65536) : v.testBit 15 = decide (32768 ≤ v) := by
  rw [Nat.testBit_eq_decide_div_mod_eq]
  apply decide_eq_decide.2
  omega
theorem xor16 (a b : Nat) (ha : a < 65536) (hb : b < 65536) : a ^^^ b < 65536 := Nat.xor_lt_two_pow (n := 16) ha hb
theorem dbl_xor (a b : Nat) : 2 * (a ^^^ b) % 65536 = (2 * a % 65536) ^^^ (2 * b % 65536) := by
  rw [show (65536 : Nat) = 2 ^ 16 from rfl, ← Nat.xor_mod_two_pow, Nat.mul_comm 2 (a ^^^ b), Nat.mul_comm 2 a, Nat.mul_comm 2 b]
  have := Nat.shiftLeft_xor_distrib (a := a) (b := b) (i := 1)
  simp only [Nat.shiftLeft_eq] at this
  rw [show (2:Nat)^1 = 2 from rfl] at this
  rw [this]
theorem crcT_alt (v : Nat) (h : v < 65536) : crcT v = (2 * v % 65536) ^^^ (if 32768 ≤ v then 4129 else 0) := by
  unfold crcT
  split
  · rfl
  · rw [Nat.xor_zero]; omega
theorem crcT_xor (a b : Nat) (ha : a < 65536) (hb : b < 65536) : crcT (a ^^^ b) = crcT a ^^^ crcT b := by
  rw [crcT_alt _ ha, crcT_alt _ hb, crcT_alt _ (xor16 a b ha hb), dbl_xor]
  have e : decide (32768 ≤ a ^^^ b) = (decide (32768 ≤ a) ^^ decide (32768 ≤ b)) := by
    rw [← top_bit _ ha, ← top_bit _ hb, ← top_bit _ (xor16 a b ha hb), Nat.testBit_xor]
  have sw : ∀ p q r s : Nat, (p ^^^ q) ^^^ (r ^^^ s) = (p ^^^ r) ^^^ (q ^^^ s) := by
    intro p q r s
    rw [Nat.xor_assoc, Nat.xor_assoc, ← Nat.xor_assoc q r s, Nat.xor_comm q r, Nat.xor_assoc]
  rw [sw]
  congr 1
  by_cases h1 : 32768 ≤ a
  · by_cases h2 : 32768 ≤ b
    · have : ¬ 32768 ≤ a ^^^ b := by simpa [h1, h2] using e
      rw [if_pos h1, if_pos h2, if_neg this]; rfl
    · have : 32768 ≤ a ^^^ b := by simpa [h1, h2] using e
      rw [if_pos h1, if_neg h2, if_pos this]; rfl
  · by_cases h2 : 32768 ≤ b
    · have : 32768 ≤ a ^^^ b := by simpa [h1, h2] using e
      rw [if_neg h1, if_pos h2, if_pos this]; rfl
    · have : ¬ 32768 ≤ a ^^^ b := by simpa [h1, h2] using e
      rw [if_neg h1, if_neg h2, if_neg this]; rfl
theorem crcI_xor (k a b : Nat) (ha : a < 65536) (hb : b < 65536) : crcI k (a ^^^ b) = crcI k a ^^^ crcI k b := by
  induction k with
  | zero => rfl
  | succ k ih => rw [crcI, ih, crcT_xor _ _ (crcI_lt k a ha) (crcI_lt k b hb)]; rfl
theorem crcI_add (j k v : Nat) : crcI (j + k) v = crcI j (crcI k v) := by
  induction j with
  | zero => rw [Nat.zero_add]; rfl
  | succ j ih => rw [Nat.succ_add, crcI, ih]; rfl
theorem crcI_pow (k m : Nat) (h : m + k ≤ 15) : crcI k (2 ^ m) = 2 ^ (m + k) := by
  induction k with
  | zero => rfl
  | succ k ih =>
    have h1 := ih (by omega)
    have hlt : 2 ^ (m + k) < 32768 := Nat.pow_lt_pow_right (a := 2) (n := 15) (by omega) (by omega)
    rw [crcI, h1, crcT, if_neg (by omega), Nat.mul_comm, ← Nat.pow_succ]; rfl
theorem crcI_small (k y : Nat) (hk : k ≤ 8) (h : y < 256) : crcI k y = y * 2 ^ k := by
  induction k with
  | zero => simp [crcI]
  | succ k ih =>
    have h1 := ih (by omega)
    have hp : 2 ^ k ≤ 128 := Nat.pow_le_pow_right (n := 2) (j := 7) (by omega) (by omega)
    have hlt : y * 2 ^ k < 32768 := Nat.lt_of_le_of_lt (Nat.mul_le_mul (Nat.le_of_lt_succ h) hp) (by omega)
    rw [crcI, h1, crcT, if_neg (by omega), Nat.pow_succ, ← Nat.mul_assoc y, Nat.mul_comm]
theorem crcI_nil (k : Nat) : crcI k 0 = 0 := by
  induction k with
  | zero => rfl
  | succ k ih => rw [crcI, ih]; rfl
theorem mul256_xor (a b : Nat) : (a ^^^ b) * 256 = (a * 256) ^^^ (b * 256) := by
  have := Nat.shiftLeft_xor_distrib (a := a) (b := b) (i := 8)
  simp only [Nat.shiftLeft_eq] at this
  exact this
theorem crcB_xor (s d c m : Nat) (hs : s < 65536) (hd : d < 65536) (hc : c < 256) (hm : m < 256) : crcB (s ^^^ d) (c ^^^ m) = crcB s c ^^^ crcB d m := by
  unfold crcB
  rw [mul256_xor, ← crcI_xor _ _ _ (crcX_lt s c hs hc) (crcX_lt d m hd hm)]
  congr 1
  simp only [Nat.xor_assoc]
  congr 1
  rw [← Nat.xor_assoc, Nat.xor_comm d (c * 256), Nat.xor_assoc]
theorem crcF_xor (l : List Nat) (a d : Nat) (ha : a < 65536) (hd : d < 65536) (hl : ∀ c ∈ l, c < 256) : l.foldl crcB (a ^^^ d) = l.foldl crcB a ^^^ crcI (8 * l.length) d := by
  induction l generalizing a d with
  | nil => rfl
  | cons c l ih =>
    have hc := hl c (List.mem_cons_self ..)
    have e := crcB_xor a d c 0 ha hd hc (by omega)
    rw [Nat.xor_zero] at e
    have e2 : crcB d 0 = crcI 8 d := by unfold crcB; rw [Nat.zero_mul, Nat.xor_zero]
    rw [List.foldl_cons, List.foldl_cons, e, e2, ih _ _ (crcB_lt a c ha hc) (crcI_lt 8 d hd) (fun x hx => hl x (List.mem_cons_of_mem _ hx)), List.length_cons, ← crcI_add]
    rw [show 8 * l.length + 8 = 8 * (l.length + 1) by omega]
/-- A bit that is turned. -/
theorem crcF_turn (l : List Nat) (v i : Nat) (hv : v < 65536) (hl : ∀ c ∈ l, c < 256) (hi : i < 8 * l.length) :
    (l.set (i / 8) (l.getD (i / 8) 0 ^^^ (128 / 2 ^ (i % 8)))).foldl crcB v = l.foldl crcB v ^^^ crcI (8 * l.length - i) 32768 := by
  induction l generalizing v i with
  | nil => simp at hi
  | cons c l ih =>
    have hc := hl c (List.mem_cons_self ..)
    have hl' := fun x hx => hl x (List.mem_cons_of_mem c hx)
    rw [List.length_cons] at hi ⊢
    by_cases h8 : i < 8
    · have hq : i / 8 = 0 := by omega
      have hm : i % 8 = i := by omega
      rw [hq, hm, List.set_cons_zero, List.foldl_cons, List.foldl_cons]
      have hp : 128 / 2 ^ i = 2 ^ (7 - i) := by
        rw [show (128 : Nat) = 2 ^ 7 from rfl, Nat.pow_div (by omega) (by omega)]
      have hp2 : 2 ^ (7 - i) < 256 := Nat.pow_lt_pow_right (a := 2) (n := 8) (by omega) (by omega)
      have e := crcB_xor v 0 c (2 ^ (7 - i)) hv (by omega) hc hp2
      rw [Nat.xor_zero] at e
      rw [hp, List.getD_cons_zero, e, crcF_xor _ _ _ (crcB_lt v c hv hc) (crcB_lt 0 _ (by omega) hp2) hl']
      have e2 : crcB 0 (2 ^ (7 - i)) = crcI (8 - i) 32768 := by
        have e3 : crcB 0 (2 ^ (7 - i)) = crcI 8 (2 ^ (15 - i)) := by
          unfold crcB
          rw [Nat.zero_xor, show (256 : Nat) = 2 ^ 8 from rfl, ← Nat.pow_add, show 7 - i + 8 = 15 - i by omega]
        have e4 := crcI_add (8 - i) i (2 ^ (15 - i))
        rw [show 8 - i + i = 8 by omega, crcI_pow i (15 - i) (by omega), show 15 - i + i = 15 by omega, show (2 : Nat) ^ 15 = 32768 from rfl] at e4
        rw [e3, e4]
      rw [e2, ← crcI_add, show 8 * l.length + (8 - i) = 8 * (l.length + 1) - i by omega]
    · obtain ⟨k, rfl⟩ : ∃ k, i = k + 8 := ⟨i - 8, by omega⟩
      have hq : (k + 8) / 8 = k / 8 + 1 := by omega
      have hm : (k + 8) % 8 = k % 8 := by omega
      rw [hq, hm, List.set_cons_succ, List.getD_cons_succ, List.foldl_cons, List.foldl_cons, ih (crcB v c) k (crcB_lt v c hv hc) hl' (by omega), show 8 * (l.length + 1) - (k + 8) = 8 * l.length - k by omega]
theorem split_byte (s : Nat) : s ^^^ (s / 256 * 256) = s % 256 := by
  have h : s / 256 * 256 + s % 256 = s := by omega
  have e := Nat.shiftLeft_add_eq_or_of_lt (show s % 256 < 2 ^ 8 by omega) (s / 256)
  rw [Nat.shiftLeft_eq, show (2 : Nat) ^ 8 = 256 from rfl, h] at e
  have h2 : (s / 256 * 256) ^^^ (s % 256) = s := by
    apply Nat.eq_of_testBit_eq
    intro j
    rw [Nat.testBit_xor]
    have e3 : s.testBit j = ((s / 256 * 256).testBit j || (s % 256).testBit j) := by
      conv => lhs; rw [e]
      rw [Nat.testBit_or]
    rw [e3, show (256 : Nat) = 2 ^ 8 from rfl, Nat.testBit_mul_two_pow, Nat.testBit_mod_two_pow]
    by_cases h8 : 8 ≤ j
    · have : ¬ j < 8 := by omega
      simp [h8, this]
    · have : j < 8 := by omega
      simp [h8, this]
  conv => lhs; arg 1; rw [← h2]
  rw [Nat.xor_comm, ← Nat.xor_assoc, Nat.xor_self, Nat.zero_xor]
/-- Bytes with their sum behind them: the sum of all is 0. -/
theorem crc_all (l : List Nat) (x y : Nat) (hx : x < 256) (hy : y < 256) (h : crcS l = x * 256 + y) : crcS (l ++ [x, y]) = 0 := by
  unfold crcS at h ⊢
  rw [List.foldl_append, h, List.foldl_cons, List.foldl_cons, List.foldl_nil]
  have e := split_byte (x * 256 + y)
  rw [show (x * 256 + y) / 256 = x by omega, show (x * 256 + y) % 256 = y by omega] at e
  unfold crcB
  rw [e, crcI_small 8 y (by omega) hy, show (2 : Nat) ^ 8 = 256 from rfl, Nat.xor_self, crcI_nil]
theorem or_free (a k : Nat) (hk : k ≤ 15) (ha : a % 2 ^ (k + 1) = 0) : a ^^^ 2 ^ k = a + 2 ^ k := by
  have hd : a = a / 2 ^ (k + 1) * 2 ^ (k + 1) := by have := Nat.div_add_mod a (2 ^ (k + 1)); rw [ha, Nat.mul_comm] at this; omega
  have e := Nat.shiftLeft_add_eq_or_of_lt (show 2 ^ k < 2 ^ (k + 1) from Nat.pow_lt_pow_right (by omega) (by omega)) (a / 2 ^ (k + 1))
  rw [Nat.shiftLeft_eq, ← hd] at e
  rw [e]
  apply Nat.eq_of_testBit_eq
  intro j
  rw [Nat.testBit_xor, Nat.testBit_or]
  have h1 : a.testBit k = false := by rw [hd, Nat.testBit_mul_two_pow]; simp; intro h; omega
  by_cases hj : j = k
  · subst hj; simp [h1]
  · have : (2 ^ k).testBit j = false := by rw [Nat.testBit_two_pow]; simp; omega
    simp [this]
/-- What the first k of the turned bits are as a window. -/
def win (bits : Nat) : Nat → Nat
  | 0 => 0
  | k + 1 => win bits k + (if bits / 2 ^ k % 2 = 1 then 2 ^ (15 - k) else 0)
theorem win_mod (bits k : Nat) (hk : k ≤ 16) : win bits k % 2 ^ (16 - k) = 0 := by
  induction k with
  | zero => rfl
  | succ k ih =>
    have h := ih (by omega)
    have h1 : win bits k % 2 ^ (15 - k) = 0 := Nat.mod_eq_zero_of_dvd (Nat.dvd_trans (Nat.pow_dvd_pow 2 (by omega)) (Nat.dvd_of_mod_eq_zero h))
    rw [win, show 16 - (k + 1) = 15 - k by omega]
    split
    · rw [Nat.add_mod_right, h1]
    · exact h1
theorem win_lt (bits k : Nat) (hk : k ≤ 16) : win bits k + 2 ^ (16 - k) ≤ 65536 := by
  induction k with
  | zero => rw [win, show (2 : Nat) ^ (16 - 0) = 65536 from rfl]; omega
  | succ k ih =>
    have h := ih (by omega)
    rw [win, show 16 - (k + 1) = 15 - k by omega]
    have e : 2 ^ (16 - k) = 2 * 2 ^ (15 - k) := by rw [show 16 - k = 15 - k + 1 by omega, Nat.pow_succ]; omega
    split <;> omega
theorem win_zero (bits k : Nat) (h : win bits k = 0) : bits % 2 ^ k = 0 := by
  induction k with
  | zero => omega
  | succ k ih =>
    rw [win] at h
    have h1 := ih (by omega)
    have hp : 0 < 2 ^ (15 - k) := Nat.pow_pos (by omega)
    have h2 : bits / 2 ^ k % 2 = 0 := by
      split at h
      · omega
      · omega
    rw [Nat.pow_succ, Nat.mod_mul, h1, h2]; rfl
theorem win_xor (bits k : Nat) (hk : k < 16) (h : bits / 2 ^ k % 2 = 1) : win bits (k + 1) = win bits k ^^^ 2 ^ (15 - k) := by
  rw [win, if_pos h, or_free _ _ (by omega)]
  rw [show 15 - k + 1 = 16 - k by omega]; exact win_mod bits k (by omega)
/-- One more of the burst's bits is turned. -/
theorem burst_step (l : List Nat) (at_ bits k N : Nat) (hN : N = 8 * l.length) (ha : at_ + 16 ≤ N) (hk : k < 16) (hl : ∀ c ∈ l, c < 256) (hb : bits / 2 ^ k % 2 = 1) (h : crcS l = crcI (N - at_) (win bits k)) :
    crcS (l.set ((at_ + k) / 8) (l.getD ((at_ + k) / 8) 0 ^^^ (128 / 2 ^ ((at_ + k) % 8)))) = crcI (N - at_) (win bits (k + 1)) := by
  unfold crcS at h ⊢
  have hw := win_lt bits k (by omega)
  have hp : 0 < 2 ^ (16 - k) := Nat.pow_pos (by omega)
  have hp15 : 2 ^ (15 - k) ≤ 32768 := Nat.pow_le_pow_right (n := 2) (j := 15) (by omega) (by omega)
  rw [crcF_turn l _ _ (by omega) hl (by omega), h, win_xor bits k hk hb, crcI_xor _ _ _ (by omega) (by omega)]
  congr 1
  rw [← hN, show N - at_ = (N - (at_ + k)) + k by omega, crcI_add, crcI_pow _ _ (by omega), show 15 - k + k = 15 by omega]
theorem burst_end (l : List Nat) (x y j bits : Nat) (hx : x < 256) (hy : y < 256) (h : crcS (l ++ [x, y]) = crcI j (win bits 16)) (h0 : 0 < bits) (hb : bits < 65536) : crcS l ≠ x * 256 + y := by
  intro hc
  rw [crc_all l x y hx hy hc] at h
  have hw := win_lt bits 16 (by omega)
  have h1 := win_zero bits 16 (crcI_zero j _ (by simp at hw; omega) h.symm)
  rw [Nat.mod_eq_of_lt (by omega)] at h1
  omega
end Go.Proofs.YtdbegdhbabfnoaaDoor
