/- Plain facts on clocks that go by a fraction; no Go in sight. -/
namespace Go.Proofs.Ytgdljdhibknjnaa.Tkp
/-- what a clock shows -/
def localV (f s n d t : Int) : Int := s + (t - f) / d * n + (t - f) % d * n / d
/-- how long till a clock shows k more -/
def waitV (n d k : Int) : Int := k / n * d + (k % n * d + n - 1) / n

theorem split_div (x n d : Int) (hd : 1 ≤ d) : x / d * n + x % d * n / d = x * n / d := by
  have h : x * n = x % d * n + (x / d * n) * d := by
    have := Int.emod_add_mul_ediv x d
    calc x * n = (x % d + d * (x / d)) * n := by rw [this]
      _ = x % d * n + (x / d * n) * d := by rw [Int.add_mul, Int.mul_assoc, Int.mul_comm d]
  rw [h, Int.add_mul_ediv_right _ _ (by omega)]
  omega
theorem localV_eq (f s n d t : Int) (hd : 1 ≤ d) : localV f s n d t = s + (t - f) * n / d := by
  unfold localV; rw [Int.add_assoc, split_div _ _ _ hd]
theorem waitV_eq (n d k : Int) (hn : 1 ≤ n) : waitV n d k = (k * d + n - 1) / n := by
  unfold waitV
  have h : k * d + n - 1 = (k % n * d + n - 1) + (k / n * d) * n := by
    have := Int.emod_add_mul_ediv k n
    have h2 : k * d = k % n * d + (k / n * d) * n := by
      calc k * d = (k % n + n * (k / n)) * d := by rw [this]
        _ = k % n * d + (k / n * d) * n := by rw [Int.add_mul, Int.mul_assoc, Int.mul_comm n]
    omega
  rw [h, Int.add_mul_ediv_right _ _ (by omega)]
  omega
theorem localV_mono (f s n d t u : Int) (hd : 1 ≤ d) (hn : 1 ≤ n) (h : t ≤ u) : localV f s n d t ≤ localV f s n d u := by
  rw [localV_eq _ _ _ _ _ hd, localV_eq _ _ _ _ _ hd]
  have : (t - f) * n ≤ (u - f) * n := Int.mul_le_mul_of_nonneg_right (by omega) (by omega)
  have := Int.ediv_le_ediv (by omega : 0 < d) this
  omega
theorem wait_enough (n d k : Int) (hn : 1 ≤ n) (hd : 1 ≤ d) : k ≤ waitV n d k * n / d := by
  rw [waitV_eq _ _ _ hn]
  rw [Int.le_ediv_iff_mul_le (by omega)]
  have := Int.emod_add_mul_ediv (k * d + n - 1) n
  have h2 := Int.emod_lt_of_pos (k * d + n - 1) (by omega : 0 < n)
  rw [Int.mul_comm] at this
  have := Int.mul_comm ((k * d + n - 1) / n) n
  have e := Int.emod_add_mul_ediv (k * d + n - 1) n
  omega
theorem wait_first (n d k e : Int) (hn : 1 ≤ n) (hd : 1 ≤ d) (he : e < waitV n d k) : e * n / d < k := by
  rw [waitV_eq _ _ _ hn] at he
  rw [Int.ediv_lt_iff_lt_mul (by omega)]
  have h1 : e + 1 ≤ (k * d + n - 1) / n := by omega
  rw [Int.le_ediv_iff_mul_le (by omega)] at h1
  rw [Int.add_mul] at h1
  omega
theorem wait_nonneg (n d k : Int) (hn : 1 ≤ n) (hd : 1 ≤ d) (hk : 0 ≤ k) : 0 ≤ waitV n d k := by
  rw [waitV_eq _ _ _ hn]
  have : 0 ≤ k * d := Int.mul_nonneg hk (by omega)
  exact Int.ediv_nonneg (by omega) (by omega)
theorem wait_one (n d k : Int) (hn : 1 ≤ n) (hd : 1 ≤ d) (hk : 1 ≤ k) : 1 ≤ waitV n d k := by
  rw [waitV_eq _ _ _ hn]
  have : 1 * 1 ≤ k * d := Int.mul_le_mul (by omega) (by omega) (by omega) (by omega)
  rw [Int.le_ediv_iff_mul_le (by omega)]
  omega
/-- bounds of the parts -/
theorem part_le (x n d : Int) (hx : 0 ≤ x) (_hx' : x ≤ 4398046511104) (hn : 1 ≤ n) (hn' : n ≤ 1000000) (hd : 1 ≤ d) (hd' : d ≤ 1000000) (h2 : n ≤ 2 * d) :
    0 ≤ x / d ∧ x / d ≤ x ∧ 0 ≤ x / d * n ∧ x / d * n ≤ 2 * x ∧ 0 ≤ x % d ∧ x % d < d ∧ 0 ≤ x % d * n ∧ x % d * n ≤ 1000000000000 := by
  have a := Int.ediv_nonneg hx (by omega : 0 ≤ d)
  have b := Int.emod_nonneg x (by omega : d ≠ 0)
  have c := Int.emod_lt_of_pos x (by omega : 0 < d)
  have e := Int.emod_add_mul_ediv x d
  have m1 : x / d * n ≤ x / d * (2 * d) := Int.mul_le_mul_of_nonneg_left h2 a
  have m2 : x / d * (2 * d) = 2 * (d * (x / d)) := by rw [Int.mul_left_comm, Int.mul_comm (x / d) d]
  have m3 : x % d * n ≤ 1000000 * 1000000 := Int.mul_le_mul (by omega) hn' (by omega) (by omega)
  have m4 : 1 * (x / d) ≤ d * (x / d) := Int.mul_le_mul_of_nonneg_right hd a
  refine ⟨a, by omega, Int.mul_nonneg a (by omega), by omega, b, c, Int.mul_nonneg b (by omega), by omega⟩
end Go.Proofs.Ytgdljdhibknjnaa.Tkp
