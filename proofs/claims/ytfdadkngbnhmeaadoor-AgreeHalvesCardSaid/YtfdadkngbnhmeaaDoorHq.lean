/- metronomekeep.AgreeHalves holds, in plain words; no condition. -/
import Derived.Test.YtfdadkngbnhmeaaDoorHp
namespace Go.Proofs.YtfdadkngbnhmeaaDoor
open Go Go.RowKit

def rowsL (zs ls ws : List Int) (f u k : Nat) : List (List Int) := (List.range k).map fun j => rowL zs ls ws f u k j k
theorem rowsL_len (zs ls ws : List Int) (f u k : Nat) : (rowsL zs ls ws f u k).length = k := by simp [rowsL]
theorem rowsL_get (zs ls ws : List Int) {f u k j : Nat} (h : j < k) : (rowsL zs ls ws f u k).getD j [] = rowL zs ls ws f u k j k := by simp [rowsL, List.getD, h]
theorem HvAt.rows {w7 wr : World} {k : Nat} {V : Nat → Value} {zs ls ws : List Int} {f u : Nat} (h : HvAt w7 wr k V (Rin zs ls ws f u k k 0)) : RowsAt wr (some ⟨w7.heap.size, 0, none⟩) (rowsL zs ls ws f u k) := fun j hj => by
  rw [rowsL_len] at hj
  have ho := h.fam.own j (Nat.le_of_lt hj)
  have e : Rin zs ls ws f u k k 0 j = rowL zs ls ws f u k j k := by unfold Rin; rw [if_neg (by omega), if_pos hj]
  rw [e, rowL_len] at ho
  rw [rowsL_get zs ls ws hj]
  rcases ho.2 with ⟨_, h0⟩ | ⟨g, c, cur, hv, _⟩
  · omega
  · have hc := h.cell hj
    rw [hv] at hc ho
    exact ⟨_, 0, _, c, rfl, by rw [Nat.zero_add, rowL_len]; exact hc, fun i hi => ⟨g, 0, rfl, by rw [Nat.zero_add]; exact own_get ho (by rw [rowL_len] at hi; exact hi)⟩⟩
theorem row_mid (zs ls ws : List Int) {f u k : Nat} (hu : u < 1000) (hk : 3 * f + 1 ≤ k) (j : Nat) : midE (rowL zs ls ws f u k j k) (f : Int) = 0 ∧ midV (rowL zs ls ws f u k j k) (f : Int) = midN ((List.range k).map (rowF zs ls ws f u k j)) f := by
  have ha : (rowL zs ls ws f u k j k).any outT = false := by
    rw [List.any_eq_false]
    intro x hx
    obtain ⟨i, _, rfl⟩ := List.mem_map.1 hx
    have := rowF_bd zs ls ws (f := f) (u := u) (n := k) (i := j) (k := i) hu
    simp [outT]; omega
  exact (midE_ok (by rw [rowL_len]; omega)).2 ha
theorem halves_set (zs ls ws : List Int) {f u k : Nat} (hu : u < 1000) (hk : 3 * f + 1 ≤ k) : ∀ j, j < k → setE k (f : Int) ((nowL zs k).getD j 0) ((rowsL zs ls ws f u k).getD j []) = 0 := fun j hj => by
  rw [rowsL_get zs ls ws hj, nowL_get zs hj]
  unfold setE
  rw [if_neg (by rw [rowL_len]; simp), if_neg (by
    have := nowF_bd zs j
    simp [outT]; omega)]
  exact (row_mid zs ls ws hu hk j).1
theorem count_bad (f : Nat) : ∀ n, (List.range n).countP (fun i => !decide (f ≤ i)) ≤ min n f
  | 0 => by simp
  | n + 1 => by
    have := count_bad f n
    rw [List.range_succ, List.countP_append]
    by_cases h : f ≤ n
    · simp [h]; omega
    · simp [h]; omega
theorem out_get (zs ls ws : List Int) {f u k : Nat} (hu : u < 1000) (hk : 3 * f + 1 ≤ k) {j : Nat} (hj : j < k) : (setL (nowL zs k) (rowsL zs ls ws f u k) (f : Int) k).getD j 0 = nowF zs j + midN ((List.range k).map (rowF zs ls ws f u k j)) f := by
  have e : (setL (nowL zs k) (rowsL zs ls ws f u k) (f : Int) k).getD j 0 = (nowL zs k).getD j 0 + midV ((rowsL zs ls ws f u k).getD j []) (f : Int) := by simp only [setL, List.getD, List.getElem?_map, List.getElem?_range hj, Option.map_some, Option.getD_some]
  rw [e, rowsL_get zs ls ws hj, nowL_get zs hj, (row_mid zs ls ws hu hk j).2]
/-- Welch and Lynch's bounds, at what the law draws. -/
theorem halves_plain (zs ls ws : List Int) {f u k : Nat} (hu : u < 1000) (hk : 3 * f + 1 ≤ k) {lo hi : Int} (hl : ∀ t, t < k - f → lo ≤ (rightL zs f k).getD t 0 ∧ (rightL zs f k).getD t 0 ≤ hi) :
    (∀ j, f ≤ j → j < k → lo - u ≤ (setL (nowL zs k) (rowsL zs ls ws f u k) (f : Int) k).getD j 0 ∧ (setL (nowL zs k) (rowsL zs ls ws f u k) (f : Int) k).getD j 0 ≤ hi + u) ∧
    (∀ i j, f ≤ i → i < k → f ≤ j → j < k → (setL (nowL zs k) (rowsL zs ls ws f u k) (f : Int) k).getD i 0 - (setL (nowL zs k) (rowsL zs ls ws f u k) (f : Int) k).getD j 0 ≤ (hi - lo) / 2 + 2 * u + 1) := by
  have hw := welch (n := k) (f := f) (good := fun i => decide (f ≤ i)) (now := nowF zs) (row := rowF zs ls ws f u k) (u := (u : Int)) (low := lo) (high := hi) (by omega) hk
    (Nat.le_trans (count_bad f k) (Nat.min_le_right _ _))
    (fun i j hi hj gi gj => by
      have h1 : f ≤ j := of_decide_eq_true gj
      have h2 := pck_lt (atL ws (i * k + j : Nat)) (n := 2 * u + 1) (by omega)
      have e : rowF zs ls ws f u k i j = nowF zs j - nowF zs i + ((pck (atL ws (i * k + j : Nat)) (2 * u + 1) : Int) - u) := by unfold rowF; rw [if_neg (by omega)]
      rw [e]
      omega)
    (fun i hi gi => by
      have h1 : f ≤ i := of_decide_eq_true gi
      have h2 := hl (i - f) (by omega)
      rw [rightL_get zs (by omega), show f + (i - f) = i by omega] at h2
      exact h2)
  refine ⟨fun j h1 h2 => ?_, fun i j h1 h2 h3 h4 => ?_⟩
  · rw [out_get zs ls ws hu hk h2]
    exact hw.1 j h2 (decide_eq_true h1)
  · rw [out_get zs ls ws hu hk h2, out_get zs ls ws hu hk h4]
    exact hw.2 i j h2 h4 (decide_eq_true h1) (decide_eq_true h3)
theorem out_bd (zs ls ws : List Int) {f u k : Nat} (hu : u < 1000) (hk : 3 * f + 1 ≤ k) {j : Nat} (hj : j < k) : -1000000000000 ≤ (setL (nowL zs k) (rowsL zs ls ws f u k) (f : Int) k).getD j 0 ∧ (setL (nowL zs k) (rowsL zs ls ws f u k) (f : Int) k).getD j 0 ≤ 1000000000000 := by
  rw [out_get zs ls ws hu hk hj, ← (row_mid zs ls ws hu hk j).2]
  have h1 := nowF_bd zs j
  have h2 := midV_bd (rowL zs ls ws f u k j k) (f : Int)
  have ha : (rowL zs ls ws f u k j k).any outT = false := by
    rw [List.any_eq_false]
    intro x hx
    obtain ⟨i, _, rfl⟩ := List.mem_map.1 hx
    have := rowF_bd zs ls ws (f := f) (u := u) (n := k) (i := j) (k := i) hu
    simp [outT]; omega
  have h3 : -8589934592 ≤ midV (rowL zs ls ws f u k j k) (f : Int) ∧ midV (rowL zs ls ws f u k j k) (f : Int) ≤ 8589934592 := by
    rw [(row_mid zs ls ws hu hk j).2]
    have hm : ∀ t, t < k → -8589934592 ≤ (srt ((List.range k).map (rowF zs ls ws f u k j))).getD t 0 ∧ (srt ((List.range k).map (rowF zs ls ws f u k j))).getD t 0 ≤ 8589934592 := by
      intro t ht
      have hl : t < (srt ((List.range k).map (rowF zs ls ws f u k j))).length := by rw [srt_len]; simpa using ht
      have hmem : (srt ((List.range k).map (rowF zs ls ws f u k j)))[t] ∈ (List.range k).map (rowF zs ls ws f u k j) := (srt_perm _).mem_iff.1 (List.getElem_mem hl)
      obtain ⟨i, _, e⟩ := List.mem_map.1 hmem
      have e2 : (srt ((List.range k).map (rowF zs ls ws f u k j))).getD t 0 = rowF zs ls ws f u k j i := by rw [e]; simp [List.getD, List.getElem?_eq_getElem hl]
      rw [e2]
      exact rowF_bd zs ls ws hu
    have a := hm f (by omega)
    have b := hm (((List.range k).map (rowF zs ls ws f u k j)).length - 1 - f) (by simp; omega)
    unfold midN
    omega
  omega
end Go.Proofs.YtfdadkngbnhmeaaDoor
