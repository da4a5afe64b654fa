/- Of messages over two channels what is told is told once, and in order: plain facts, no program in sight. -/
import Derived.Test.YtgdljdhibknjnaaVl
import Derived.Test.YtgdljdhibknjnaaOr
namespace Go.Proofs.Ytgdljdhibknjnaa
theorem take_ordr (k L : Nat) (h1 : L ≤ k + 51) (h2 : k ≤ L + 101) : takeB (ordr k) (nwst L) = decide (L ≤ k) := by
  have hb := ordr_bd k
  unfold takeB
  rw [decide_eq_true (by omega : 0 ≤ ordr k ∧ ordr k ≤ 255), Bool.true_and]
  by_cases h0 : L = 0
  · subst h0; simp [nwst]
  · have hn : nwst L = ordr (L - 1) := by unfold nwst; rw [if_neg h0]
    have hb2 := ordr_bd (L - 1)
    rw [hn, decide_eq_false (by omega : ¬ ordr (L - 1) < 0), Bool.false_or]
    unfold aheadB
    apply decide_eq_decide.2
    unfold ordr
    by_cases hk : k = 0
    · subst hk; simp; omega
    · rw [if_neg hk]
      by_cases hl : L - 1 = 0
      · rw [if_pos hl]; omega
      · rw [if_neg hl]; omega

/-- Where both channels are, how far was told, and what. -/
structure OInv (many : Nat) (lv : Nat → Nat) (a b L : Nat) (got : List Nat) : Prop where
  ha : a ≤ many
  hb : b ≤ many
  hab : a ≤ b + 51
  hba : b ≤ a + 51
  hL : L ≤ max a b
  h0 : ∀ j, j < a → (lv j).testBit 0 = false → j < L
  h1 : ∀ j, j < b → (lv j).testBit 1 = false → j < L
  hg : got.Pairwise (· < ·)
  hl : ∀ j ∈ got, j < L
  hin : ∀ j, j < max a b → lv j = 0 → j ∈ got
theorem OInv.start (many : Nat) (lv : Nat → Nat) : OInv many lv 0 0 0 [] := ⟨by omega, by omega, by omega, by omega, by omega, fun j h => by omega, fun j h => by omega, List.Pairwise.nil, by simp, fun j h => by omega⟩
/-- Both lose never so many, one behind the other. -/
def Few (lv : Nat → Nat) (many : Nat) : Prop := ∀ m, m + 51 ≤ many → ∃ j, m ≤ j ∧ j < m + 51 ∧ lv j ≠ 3
theorem two_bits {x : Nat} (h : x < 4) (h0 : x.testBit 0 = true) (h1 : x.testBit 1 = true) : x = 3 := by
  match x, h with
  | 0, _ => simp at h0
  | 1, _ => exact absurd h1 (by decide)
  | 2, _ => exact absurd h0 (by decide)
  | 3, _ => rfl
theorem OInv.near {many : Nat} {lv : Nat → Nat} {a b L : Nat} {got : List Nat} (h : OInv many lv a b L got) (hf : Few lv many) (hlv : ∀ j, lv j < 4) : min a b ≤ L + 50 := by
  rcases Nat.lt_or_ge (L + 50) (min a b) with hlt | hge
  · exfalso
    obtain ⟨j, j1, j2, j3⟩ := hf L (by have := h.ha; omega)
    apply j3
    refine two_bits (hlv j) ?_ ?_
    · cases e : (lv j).testBit 0 with
      | true => rfl
      | false => have := h.h0 j (by omega) e; omega
    · cases e : (lv j).testBit 1 with
      | true => rfl
      | false => have := h.h1 j (by omega) e; omega
  · exact hge
theorem pair_snoc {l : List Nat} {k : Nat} (h : l.Pairwise (· < ·)) (hk : ∀ j ∈ l, j < k) : (l ++ [k]).Pairwise (· < ·) := by
  rw [List.pairwise_append]
  exact ⟨h, by simp, fun x hx y hy => by simp at hy; subst hy; exact hk x hx⟩

/-- The first channel's next one: lost. -/
theorem OInv.lost0 {many : Nat} {lv : Nat → Nat} {a b L : Nat} {got : List Nat} (h : OInv many lv a b L got) (ha : a < many) (hab : a ≤ b + 50) (hl : (lv a).testBit 0 = true) : OInv many lv (a + 1) b L got where
  ha := ha
  hb := h.hb
  hab := by omega
  hba := by have := h.hba; omega
  hL := by have := h.hL; omega
  h0 := fun j hj e => by
    by_cases hja : j = a
    · subst hja; rw [hl] at e; cases e
    · exact h.h0 j (by omega) e
  h1 := h.h1
  hg := h.hg
  hl := h.hl
  hin := fun j hj e => by
    by_cases hja : j = a
    · subst hja; rw [e] at hl; simp at hl
    · exact h.hin j (by omega) e
/-- .. brought, and not told. -/
theorem OInv.old0 {many : Nat} {lv : Nat → Nat} {a b L : Nat} {got : List Nat} (h : OInv many lv a b L got) (ha : a < many) (hab : a ≤ b + 50) (hl : a < L) : OInv many lv (a + 1) b L got where
  ha := ha
  hb := h.hb
  hab := by omega
  hba := by have := h.hba; omega
  hL := by have := h.hL; omega
  h0 := fun j hj e => by
    by_cases hja : j = a
    · omega
    · exact h.h0 j (by omega) e
  h1 := h.h1
  hg := h.hg
  hl := h.hl
  hin := fun j hj e => by have := h.hL; exact h.hin j (by omega) e
/-- .. brought, and told. -/
theorem OInv.new0 {many : Nat} {lv : Nat → Nat} {a b L : Nat} {got : List Nat} (h : OInv many lv a b L got) (ha : a < many) (hab : a ≤ b + 50) (hl : L ≤ a) : OInv many lv (a + 1) b (a + 1) (got ++ [a]) where
  ha := ha
  hb := h.hb
  hab := by omega
  hba := by have := h.hba; omega
  hL := by omega
  h0 := fun j hj e => by omega
  h1 := fun j hj e => by have := h.h1 j hj e; omega
  hg := pair_snoc h.hg (fun j hj => by have := h.hl j hj; omega)
  hl := fun j hj => by
    simp at hj
    rcases hj with hj | hj
    · have := h.hl j hj; omega
    · omega
  hin := fun j hj e => by
    simp
    by_cases hja : j = a
    · right; exact hja
    · left
      by_cases hjm : j < max a b
      · exact h.hin j hjm e
      · omega
/-- The second channel's next one: lost. -/
theorem OInv.lost1 {many : Nat} {lv : Nat → Nat} {a b L : Nat} {got : List Nat} (h : OInv many lv a b L got) (hb : b < many) (hba : b ≤ a + 50) (hl : (lv b).testBit 1 = true) : OInv many lv a (b + 1) L got where
  ha := h.ha
  hb := hb
  hab := by have := h.hab; omega
  hba := by omega
  hL := by have := h.hL; omega
  h0 := h.h0
  h1 := fun j hj e => by
    by_cases hjb : j = b
    · subst hjb; rw [hl] at e; cases e
    · exact h.h1 j (by omega) e
  hg := h.hg
  hl := h.hl
  hin := fun j hj e => by
    by_cases hjb : j = b
    · subst hjb; rw [e] at hl; simp at hl
    · exact h.hin j (by omega) e
theorem OInv.old1 {many : Nat} {lv : Nat → Nat} {a b L : Nat} {got : List Nat} (h : OInv many lv a b L got) (hb : b < many) (hba : b ≤ a + 50) (hl : b < L) : OInv many lv a (b + 1) L got where
  ha := h.ha
  hb := hb
  hab := by have := h.hab; omega
  hba := by omega
  hL := by have := h.hL; omega
  h0 := h.h0
  h1 := fun j hj e => by
    by_cases hjb : j = b
    · omega
    · exact h.h1 j (by omega) e
  hg := h.hg
  hl := h.hl
  hin := fun j hj e => by have := h.hL; exact h.hin j (by omega) e
theorem OInv.new1 {many : Nat} {lv : Nat → Nat} {a b L : Nat} {got : List Nat} (h : OInv many lv a b L got) (hb : b < many) (hba : b ≤ a + 50) (hl : L ≤ b) : OInv many lv a (b + 1) (b + 1) (got ++ [b]) where
  ha := h.ha
  hb := hb
  hab := by have := h.hab; omega
  hba := by omega
  hL := by omega
  h0 := fun j hj e => by have := h.h0 j hj e; omega
  h1 := fun j hj e => by omega
  hg := pair_snoc h.hg (fun j hj => by have := h.hl j hj; omega)
  hl := fun j hj => by
    simp at hj
    rcases hj with hj | hj
    · have := h.hl j hj; omega
    · omega
  hin := fun j hj e => by
    simp
    by_cases hjb : j = b
    · right; exact hjb
    · left
      by_cases hjm : j < max a b
      · exact h.hin j hjm e
      · omega
/-- Whether the next one of a channel is told. -/
theorem OInv.told0 {many : Nat} {lv : Nat → Nat} {a b L : Nat} {got : List Nat} (h : OInv many lv a b L got) (hf : Few lv many) (hlv : ∀ j, lv j < 4) : takeB (ordr a) (nwst L) = decide (L ≤ a) := by
  have := h.near hf hlv
  have := h.hL; have := h.hab; have := h.hba
  exact take_ordr a L (by omega) (by omega)
theorem OInv.told1 {many : Nat} {lv : Nat → Nat} {a b L : Nat} {got : List Nat} (h : OInv many lv a b L got) (hf : Few lv many) (hlv : ∀ j, lv j < 4) : takeB (ordr b) (nwst L) = decide (L ≤ b) := by
  have := h.near hf hlv
  have := h.hL; have := h.hab; have := h.hba
  exact take_ordr b L (by omega) (by omega)
/-- Rows of what both lose, counted. -/
structure RowInv (lv : Nat → Nat) (i row : Nat) : Prop where
  h1 : row ≤ i
  h2 : row ≤ 50
  h3 : row < i → lv (i - 1 - row) ≠ 3
  h4 : Few lv i
theorem RowInv.start (lv : Nat → Nat) : RowInv lv 0 0 := ⟨by omega, by omega, fun h => by omega, fun m h => by omega⟩
theorem RowInv.both {lv : Nat → Nat} {i row : Nat} (h : RowInv lv i row) (hr : row + 1 ≤ 50) : RowInv lv (i + 1) (row + 1) where
  h1 := by have := h.h1; omega
  h2 := hr
  h3 := fun hlt => by
    have := h.h3 (by omega)
    rwa [show i + 1 - 1 - (row + 1) = i - 1 - row by omega]
  h4 := fun m hm => by
    by_cases hmi : m + 51 ≤ i
    · exact h.h4 m hmi
    · have := h.h1
      exact ⟨i - 1 - row, by omega, by omega, h.h3 (by omega)⟩
theorem RowInv.one {lv : Nat → Nat} {i row : Nat} (h : RowInv lv i row) (hi : lv i ≠ 3) : RowInv lv (i + 1) 0 where
  h1 := by omega
  h2 := by omega
  h3 := fun _ => by simpa using hi
  h4 := fun m hm => by
    by_cases hmi : m + 51 ≤ i
    · exact h.h4 m hmi
    · exact ⟨i, by omega, by omega, hi⟩
/-- Counting through what was told. -/
theorem got_here {got : List Nat} (hg : got.Pairwise (· < ·)) {n k : Nat} (h1 : ∀ j, j < n → ∀ x, got[j]? = some x → x < k) (h2 : ∀ x, got[n]? = some x → k ≤ x) : (k ∈ got ↔ got[n]? = some k) := by
  constructor
  · intro hk
    obtain ⟨j, hj, e⟩ := List.getElem_of_mem hk
    have e' : got[j]? = some k := by rw [List.getElem?_eq_getElem hj, e]
    rcases Nat.lt_trichotomy j n with h | h | h
    · have := h1 j h k e'; omega
    · rw [← h]; exact e'
    · have hn : n < got.length := by omega
      have h3 := h2 got[n] (List.getElem?_eq_getElem hn)
      have h4 := List.pairwise_iff_getElem.1 hg n j hn hj h
      omega
  · intro h
    exact List.mem_of_getElem? h
theorem got_next {got : List Nat} (hg : got.Pairwise (· < ·)) {n k : Nat} (h : got[n]? = some k) : ∀ x, got[n + 1]? = some x → k + 1 ≤ x := by
  intro x hx
  have hn := (List.getElem?_eq_some_iff.1 h).1
  have hm := (List.getElem?_eq_some_iff.1 hx).1
  have h4 := List.pairwise_iff_getElem.1 hg n (n + 1) hn hm (by omega)
  rw [(List.getElem?_eq_some_iff.1 h).2, (List.getElem?_eq_some_iff.1 hx).2] at h4
  omega
end Go.Proofs.Ytgdljdhibknjnaa
