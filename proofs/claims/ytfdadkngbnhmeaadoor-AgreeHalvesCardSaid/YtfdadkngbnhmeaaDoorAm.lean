/- Clocks that are set by the middle of readings: plain facts, no program in sight. -/
import Derived.WalkKit
namespace Go.Proofs.YtfdadkngbnhmeaaDoor
/-- Readings, the least ones first. -/
def srt (l : List Int) : List Int := l.mergeSort (fun a b => decide (a ≤ b))
theorem srt_perm (l : List Int) : (srt l).Perm l := List.mergeSort_perm _ _
theorem srt_sorted (l : List Int) : (srt l).Pairwise (· ≤ ·) := by
  have := List.pairwise_mergeSort (le := fun a b : Int => decide (a ≤ b)) (fun a b c h1 h2 => by simp at *; omega) (fun a b => by simp; omega) l
  exact this.imp (fun h => by simpa using h)
theorem srt_len (l : List Int) : (srt l).length = l.length := (srt_perm l).length_eq
theorem srt_eq {s l : List Int} (h : s.Perm l) (hs : s.Pairwise (· ≤ ·)) : s = srt l :=
  List.Perm.eq_of_pairwise (le := (· ≤ ·)) (fun _ _ _ _ h1 h2 => Int.le_antisymm h1 h2) hs (srt_sorted l) (h.trans (srt_perm l).symm)
def outT (z : Int) : Bool := decide (z < -1099511627776) || decide (1099511627776 < z)
/-- What is wrong with readings. -/
def midE (l : List Int) (f : Int) : Int := if f < 0 ∨ (l.length : Int) < 2 * f + 1 then 1 else if l.any outT = true then 2 else 0
/-- The middle. -/
def midN (l : List Int) (f : Nat) : Int := ((srt l).getD f 0 + (srt l).getD (l.length - 1 - f) 0) / 2
def midV (l : List Int) (f : Int) : Int := if midE l f = 0 then midN l f.toNat else 0

theorem getD_get {s : List Int} {i : Nat} (h : i < s.length) : s.getD i 0 = s[i] := by simp [h]
theorem sorted_le {s : List Int} (h : s.Pairwise (· ≤ ·)) {i j : Nat} (hij : i ≤ j) (hj : j < s.length) : s.getD i 0 ≤ s.getD j 0 := by
  rcases Nat.lt_or_ge i j with hlt | hge
  · rw [getD_get (by omega), getD_get hj]
    exact List.pairwise_iff_getElem.1 h i j (by omega) hj hlt
  · obtain rfl : i = j := by omega
    exact Int.le_refl _
theorem count_split (s : List Int) (p : Int → Bool) (f : Nat) : s.countP p = (s.take f).countP p + (s.drop f).countP p := by
  rw [← List.countP_append, List.take_append_drop]
theorem mem_drop_ge {s : List Int} (h : s.Pairwise (· ≤ ·)) {f : Nat} {x : Int} (hx : x ∈ s.drop f) : s.getD f 0 ≤ x := by
  obtain ⟨k, hk, rfl⟩ := List.getElem_of_mem hx
  rw [List.getElem_drop]
  have hk2 : f + k < s.length := by simpa using Nat.add_lt_of_lt_sub' (by simpa using hk)
  have := sorted_le h (i := f) (j := f + k) (by omega) hk2
  rwa [getD_get hk2] at this
theorem mem_take_le {s : List Int} (h : s.Pairwise (· ≤ ·)) {f : Nat} (hf : f < s.length) {x : Int} (hx : x ∈ s.take (f + 1)) : x ≤ s.getD f 0 := by
  obtain ⟨k, hk, rfl⟩ := List.getElem_of_mem hx
  rw [List.getElem_take]
  have hk2 : k < f + 1 := by simp at hk; omega
  have := sorted_le h (i := k) (j := f) (by omega) hf
  rwa [getD_get (by omega)] at this
/-- More than f that are at most c: the f-th is. -/
theorem rank_le {s : List Int} (h : s.Pairwise (· ≤ ·)) {f : Nat} {c : Int} (hc : f + 1 ≤ s.countP (fun x => decide (x ≤ c))) : s.getD f 0 ≤ c := by
  rcases (show c < s.getD f 0 ∨ s.getD f 0 ≤ c by omega) with hlt | hge
  · have h0 : (s.drop f).countP (fun x => decide (x ≤ c)) = 0 := by
      rw [List.countP_eq_zero]
      intro x hx
      have := mem_drop_ge h hx
      simp; omega
    have h1 := count_split s (fun x => decide (x ≤ c)) f
    have h2 := List.countP_le_length (p := fun x : Int => decide (x ≤ c)) (l := s.take f)
    simp only [List.length_take] at h2
    omega
  · exact hge
/-- At most f that are below a: the f-th is not. -/
theorem rank_ge {s : List Int} (h : s.Pairwise (· ≤ ·)) {f : Nat} (hf : f < s.length) {a : Int} (hc : s.countP (fun x => decide (x < a)) ≤ f) : a ≤ s.getD f 0 := by
  rcases (show s.getD f 0 < a ∨ a ≤ s.getD f 0 by omega) with hlt | hge
  · have h1 : (s.take (f + 1)).countP (fun x => decide (x < a)) = (s.take (f + 1)).length := by
      rw [List.countP_eq_length]
      intro x hx
      have := mem_take_le h hf hx
      simp; omega
    have h2 := count_split s (fun x => decide (x < a)) (f + 1)
    simp only [List.length_take] at h1
    omega
  · exact hge
/-- Counted from the end. -/
theorem rank_ge' {s : List Int} (h : s.Pairwise (· ≤ ·)) {f : Nat} (hf : f < s.length) {c : Int} (hc : f + 1 ≤ s.countP (fun x => decide (c ≤ x))) : c ≤ s.getD (s.length - 1 - f) 0 := by
  refine rank_ge h (by omega) ?_
  have h1 : s.length = s.countP (fun x => decide (x < c)) + s.countP (fun x => decide (c ≤ x)) := by
    have := List.length_eq_countP_add_countP (fun x : Int => decide (x < c)) (l := s)
    rw [this]; congr 1
    apply List.countP_congr
    intro x _; simp
  omega
theorem rank_le' {s : List Int} (h : s.Pairwise (· ≤ ·)) {f : Nat} (hf : f < s.length) {b : Int} (hc : s.countP (fun x => decide (b < x)) ≤ f) : s.getD (s.length - 1 - f) 0 ≤ b := by
  refine rank_le h ?_
  have h1 : s.length = s.countP (fun x => decide (x ≤ b)) + s.countP (fun x => decide (b < x)) := by
    have := List.length_eq_countP_add_countP (fun x : Int => decide (x ≤ b)) (l := s)
    rw [this]; congr 1
    apply List.countP_congr
    intro x _; simp
  omega
theorem count_row (n : Nat) (r : Nat → Int) (p : Int → Bool) : (srt ((List.range n).map r)).countP p = (List.range n).countP (fun k => p (r k)) := by
  rw [(srt_perm _).countP_eq, List.countP_map]; rfl
theorem count_good {n : Nat} {good p : Nat → Bool} : (List.range n).countP p ≤ (List.range n).countP (fun k => !good k) + (List.range n).countP (fun k => good k && p k) := by
  induction (List.range n) with
  | nil => simp
  | cons k l ih => simp only [List.countP_cons]; cases good k <;> cases p k <;> simp <;> omega
section
variable {n f : Nat} {good : Nat → Bool} {r : Nat → Int}
theorem trim_lo (hf : f < n) (hbad : (List.range n).countP (fun k => !good k) ≤ f) {a : Int} (h : ∀ k, k < n → good k = true → a ≤ r k) : a ≤ (srt ((List.range n).map r)).getD f 0 := by
  refine rank_ge (srt_sorted _) (by rw [srt_len]; simpa using hf) ?_
  rw [count_row]
  have h1 := count_good (n := n) (good := good) (p := fun k => decide (r k < a))
  have h2 : (List.range n).countP (fun k => good k && decide (r k < a)) = 0 := by
    rw [List.countP_eq_zero]
    intro k hk
    have hk := List.mem_range.1 hk
    simp only [Bool.and_eq_true, decide_eq_true_eq, not_and]
    intro hg
    have := h k hk hg; omega
  omega
theorem trim_hi (hf : f < n) (hbad : (List.range n).countP (fun k => !good k) ≤ f) {b : Int} (h : ∀ k, k < n → good k = true → r k ≤ b) : (srt ((List.range n).map r)).getD (n - 1 - f) 0 ≤ b := by
  have hl : (srt ((List.range n).map r)).length = n := by rw [srt_len]; simp
  have := rank_le' (srt_sorted ((List.range n).map r)) (f := f) (by omega) (b := b) (by
    rw [count_row]
    have h1 := count_good (n := n) (good := good) (p := fun k => decide (b < r k))
    have h2 : (List.range n).countP (fun k => good k && decide (b < r k)) = 0 := by
      rw [List.countP_eq_zero]
      intro k hk
      have hk := List.mem_range.1 hk
      simp only [Bool.and_eq_true, decide_eq_true_eq, not_and]
      intro hg
      have := h k hk hg; omega
    omega)
  rwa [hl] at this
theorem trim_le {p : Nat → Bool} {c : Int} (h : f + 1 ≤ (List.range n).countP p) (hp : ∀ k, k < n → p k = true → r k ≤ c) : (srt ((List.range n).map r)).getD f 0 ≤ c := by
  refine rank_le (srt_sorted _) ?_
  rw [count_row]
  refine Nat.le_trans h (List.countP_mono_left fun k hk h1 => ?_)
  simpa using hp k (List.mem_range.1 hk) h1
theorem trim_ge (hf : f < n) {p : Nat → Bool} {c : Int} (h : f + 1 ≤ (List.range n).countP p) (hp : ∀ k, k < n → p k = true → c ≤ r k) : c ≤ (srt ((List.range n).map r)).getD (n - 1 - f) 0 := by
  have hl : (srt ((List.range n).map r)).length = n := by rw [srt_len]; simp
  have := rank_ge' (srt_sorted ((List.range n).map r)) (f := f) (by omega) (c := c) (by
    rw [count_row]
    refine Nat.le_trans h (List.countP_mono_left fun k hk h1 => ?_)
    simpa using hp k (List.mem_range.1 hk) h1)
  rwa [hl] at this
/-- A value in the middle of those of the good ones. -/
theorem centre (now : Nat → Int) (hn : 3 * f + 1 ≤ n) (hbad : (List.range n).countP (fun k => !good k) ≤ f) : ∃ c : Int, f + 1 ≤ (List.range n).countP (fun k => good k && decide (now k ≤ c)) ∧ f + 1 ≤ (List.range n).countP (fun k => good k && decide (c ≤ now k)) := by
  have hg : (List.range n).countP (fun k => good k) = ((List.range n).filter good).length := List.countP_eq_length_filter
  have hall : n = (List.range n).countP (fun k => good k) + (List.range n).countP (fun k => !good k) := by
    have := List.length_eq_countP_add_countP (fun k => good k) (l := List.range n)
    simpa using this
  have hlen : (srt (((List.range n).filter good).map now)).length = (List.range n).countP (fun k => good k) := by rw [srt_len, List.length_map, hg]
  have cnt : ∀ p : Int → Bool, (srt (((List.range n).filter good).map now)).countP p = (List.range n).countP (fun k => good k && p (now k)) := by
    intro p
    rw [(srt_perm _).countP_eq, List.countP_map, List.countP_filter]
    apply List.countP_congr
    intro k _
    simp [Bool.and_comm]
  have hs := srt_sorted (((List.range n).filter good).map now)
  refine ⟨(srt (((List.range n).filter good).map now)).getD f 0, ?_, ?_⟩
  · rw [← cnt (fun x => decide (x ≤ _)), count_split _ _ (f + 1)]
    have : ((srt (((List.range n).filter good).map now)).take (f + 1)).countP (fun x => decide (x ≤ (srt (((List.range n).filter good).map now)).getD f 0)) = ((srt (((List.range n).filter good).map now)).take (f + 1)).length := by
      rw [List.countP_eq_length]
      intro x hx
      have := mem_take_le hs (by omega) hx
      simpa using this
    rw [this, List.length_take]
    omega
  · rw [← cnt (fun x => decide (_ ≤ x)), count_split _ _ f]
    have : ((srt (((List.range n).filter good).map now)).drop f).countP (fun x => decide ((srt (((List.range n).filter good).map now)).getD f 0 ≤ x)) = ((srt (((List.range n).filter good).map now)).drop f).length := by
      rw [List.countP_eq_length]
      intro x hx
      have := mem_drop_ge hs hx
      simpa using this
    rw [this, List.length_drop]
    omega
end
/-- Welch, Lynch: whoever is good sets its clock within what good ones showed, and half as far apart from the others'. -/
theorem welch {n f : Nat} {good : Nat → Bool} {now : Nat → Int} {row : Nat → Nat → Int} {u low high : Int} (_hu : 0 ≤ u) (hn : 3 * f + 1 ≤ n) (hbad : (List.range n).countP (fun k => !good k) ≤ f)
    (hrow : ∀ i k, i < n → k < n → good i = true → good k = true → now k - now i - u ≤ row i k ∧ row i k ≤ now k - now i + u) (hlh : ∀ k, k < n → good k = true → low ≤ now k ∧ now k ≤ high) :
    (∀ i, i < n → good i = true → low - u ≤ now i + midN ((List.range n).map (row i)) f ∧ now i + midN ((List.range n).map (row i)) f ≤ high + u) ∧
    (∀ i j, i < n → j < n → good i = true → good j = true → (now i + midN ((List.range n).map (row i)) f) - (now j + midN ((List.range n).map (row j)) f) ≤ (high - low) / 2 + 2 * u + 1) := by
  obtain ⟨c, c1, c2⟩ := centre now hn hbad
  have hf : f < n := by omega
  have hb : ∀ i, i < n → good i = true →
      low - u - now i ≤ (srt ((List.range n).map (row i))).getD f 0 ∧ (srt ((List.range n).map (row i))).getD f 0 ≤ c + u - now i ∧
      c - u - now i ≤ (srt ((List.range n).map (row i))).getD (n - 1 - f) 0 ∧ (srt ((List.range n).map (row i))).getD (n - 1 - f) 0 ≤ high + u - now i := by
    intro i hi gi
    refine ⟨trim_lo hf hbad fun k hk gk => ?_, trim_le c1 fun k hk hp => ?_, trim_ge hf c2 fun k hk hp => ?_, trim_hi hf hbad fun k hk gk => ?_⟩
    · have := hrow i k hi hk gi gk; have := hlh k hk gk; omega
    · simp only [Bool.and_eq_true, decide_eq_true_eq] at hp
      have := hrow i k hi hk gi hp.1; omega
    · simp only [Bool.and_eq_true, decide_eq_true_eq] at hp
      have := hrow i k hi hk gi hp.1; omega
    · have := hrow i k hi hk gi gk; have := hlh k hk gk; omega
  have hc : low ≤ c ∧ c ≤ high := by
    have pos : ∀ (p : Nat → Bool), 0 < (List.range n).countP p → ∃ k, k < n ∧ p k = true := by
      intro p hp
      obtain ⟨k, hk, h⟩ := List.countP_pos_iff.1 hp
      exact ⟨k, List.mem_range.1 hk, h⟩
    obtain ⟨a, ha, h1⟩ := pos _ (Nat.lt_of_lt_of_le (Nat.succ_pos f) c1)
    obtain ⟨b, hb', h2⟩ := pos _ (Nat.lt_of_lt_of_le (Nat.succ_pos f) c2)
    simp only [Bool.and_eq_true, decide_eq_true_eq] at h1 h2
    have := hlh a ha h1.1; have := hlh b hb' h2.1; omega
  have hlen : ∀ i, ((List.range n).map (row i)).length = n := by intro i; simp
  refine ⟨fun i hi gi => ?_, fun i j hi hj gi gj => ?_⟩
  · obtain ⟨a1, a2, a3, a4⟩ := hb i hi gi
    unfold midN; rw [hlen]
    omega
  · obtain ⟨a1, a2, a3, a4⟩ := hb i hi gi
    obtain ⟨b1, b2, b3, b4⟩ := hb j hj gj
    unfold midN; rw [hlen, hlen]
    omega
end Go.Proofs.YtfdadkngbnhmeaaDoor
