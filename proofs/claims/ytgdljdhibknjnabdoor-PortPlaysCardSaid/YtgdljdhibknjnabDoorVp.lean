/- A sender's answers, by the code's state and by the document's: plain facts, no program in sight. -/
import Derived.Test.YtgdljdhibknjnabDoorOr
namespace Go.Proofs.YtgdljdhibknjnabDoor
/-- What Put answers, by a text's length and how many wait. -/
def putE (n q : Nat) (que : Int) : Int := if 40 < n then 4 else if que ≤ q then 12 else 0
def putQ (q : List ByteArray) (d : ByteArray) (e : Int) : List ByteArray := if e = 0 then q ++ [d] else q
/-- What Send answers. -/
def sdE (now la nw bag : Int) (n : Nat) : Int := if now < 0 ∨ 1099511627776 < now then 2 else if now < nw then 10 else if n = 0 ∨ (0 ≤ la ∧ now - la < bag) then 8 else 0
/-- The document's. -/
def rsE (now last nw bag : Int) (went n : Nat) : Int := if now < 0 ∨ 1099511627776 < now then 2 else if now < nw then 10 else if went = n ∨ (0 < went ∧ now < last + bag) then 8 else 0
/-- The time behind a Send. -/
def sdN (e now nw : Int) : Int := if e = 2 ∨ e = 10 then nw else now
/-- The code's state, and the document's. -/
structure VsRel (all : List ByteArray) (went : Nat) (last nw : Int) (q : List ByteArray) (nx la : Int) : Prop where
  hw : went ≤ all.length
  hq : q = all.drop went
  hn : nx = ordr went
  hl : la = if went = 0 then -1 else last
  h0 : 0 ≤ last ∧ last ≤ 1099511627776
  h1 : 0 ≤ nw ∧ nw ≤ 1099511627776
section
variable {all : List ByteArray} {went : Nat} {last nw : Int} {q : List ByteArray} {nx la : Int}
theorem VsRel.start : VsRel [] 0 0 0 [] 0 (-1) := ⟨by simp, rfl, rfl, rfl, by omega, by omega⟩
theorem VsRel.len (h : VsRel all went last nw q nx la) : q.length = all.length - went := by rw [h.hq, List.length_drop]
theorem VsRel.put (h : VsRel all went last nw q nx la) (d : ByteArray) (e : Int) : VsRel (putQ all d e) went last nw (putQ q d e) nx la := by
  unfold putQ
  split
  · exact ⟨by have := h.hw; simp; omega, by rw [h.hq, List.drop_append_of_le_length h.hw], h.hn, h.hl, h.h0, h.h1⟩
  · exact h
theorem VsRel.err (h : VsRel all went last nw q nx la) (now bag : Int) : rsE now last nw bag went all.length = sdE now la nw bag q.length := by
  unfold rsE sdE
  have hw := h.hw
  rw [h.len, h.hl]
  by_cases a : now < 0 ∨ 1099511627776 < now
  · rw [if_pos a, if_pos a]
  · rw [if_neg a, if_neg a]
    by_cases b : now < nw
    · rw [if_pos b, if_pos b]
    · rw [if_neg b, if_neg b]
      by_cases hz : went = 0
      · rw [if_pos hz]
        by_cases c : went = all.length
        · rw [if_pos (.inl c), if_pos (.inl (by omega))]
        · rw [if_neg (by omega), if_neg (by omega)]
      · rw [if_neg hz]
        have := h.h0
        by_cases c : went = all.length ∨ (0 < went ∧ now < last + bag)
        · rw [if_pos c, if_pos (by omega)]
        · rw [if_neg c, if_neg (by omega)]
theorem sdE_range (now la nw bag : Int) (n : Nat) : (sdE now la nw bag n = 2 ∧ (now < 0 ∨ 1099511627776 < now)) ∨ (0 ≤ now ∧ now ≤ 1099511627776 ∧ now < nw ∧ sdE now la nw bag n = 10) ∨ (0 ≤ now ∧ now ≤ 1099511627776 ∧ nw ≤ now ∧ (sdE now la nw bag n = 8 ∨ sdE now la nw bag n = 0)) := by
  unfold sdE
  by_cases a : now < 0 ∨ 1099511627776 < now
  · rw [if_pos a]; exact .inl ⟨rfl, a⟩
  · rw [if_neg a]
    by_cases b : now < nw
    · rw [if_pos b]; exact .inr (.inl ⟨by omega, by omega, b, rfl⟩)
    · rw [if_neg b]
      refine .inr (.inr ⟨by omega, by omega, by omega, ?_⟩)
      split
      · exact .inl rfl
      · exact .inr rfl
theorem VsRel.none_ (h : VsRel all went last nw q nx la) {now bag : Int} : VsRel all went last (sdN (sdE now la nw bag q.length) now nw) q nx la := by
  refine ⟨h.hw, h.hq, h.hn, h.hl, h.h0, ?_⟩
  have := h.h1
  unfold sdN
  rcases sdE_range now la nw bag q.length with ⟨h2, _⟩ | ⟨h1, h2, h3, h4⟩ | ⟨h1, h2, h3, h4 | h4⟩
  · rw [if_pos (.inl h2)]; omega
  · rw [if_pos (.inr h4)]; omega
  · rw [h4, if_neg (by decide)]; omega
  · rw [h4, if_neg (by decide)]; omega
theorem VsRel.goes (h : VsRel all went last nw q nx la) {now bag : Int} (e : sdE now la nw bag q.length = 0) : ∃ d q', q = d :: q' ∧ all[went]? = some d ∧ went < all.length ∧ nx = ordr went ∧ VsRel all (went + 1) now now q' (if nx + 1 = 256 then 1 else nx + 1) now := by
  have hl := h.len
  have hb : 0 ≤ now ∧ now ≤ 1099511627776 := by
    rcases sdE_range now la nw bag q.length with ⟨h2, _⟩ | ⟨h1, h2, h3, h4⟩ | ⟨h1, h2, h3, h4⟩
    · rw [e] at h2; cases h2
    · rw [e] at h4; cases h4
    · exact ⟨h1, h2⟩
  have hne : q.length ≠ 0 := by
    intro h0
    unfold sdE at e
    split at e
    · cases e
    · split at e
      · cases e
      · rw [if_pos (.inl h0)] at e; cases e
  have hlt : went < all.length := by omega
  refine ⟨all[went], all.drop (went + 1), by rw [h.hq, List.drop_eq_getElem_cons hlt], List.getElem?_eq_getElem hlt, hlt, h.hn, ⟨by omega, rfl, by rw [h.hn, ordr_succ], by rw [if_neg (by omega)], hb, hb⟩⟩
end
end Go.Proofs.YtgdljdhibknjnabDoor
