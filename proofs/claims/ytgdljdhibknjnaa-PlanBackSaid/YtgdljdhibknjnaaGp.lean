/- Which part of what a node sends goes through its slots: plain facts, no program in sight. -/
import Derived.Test.YtgdljdhibknjnaaCk
import Derived.Test.YtgdljdhibknjnaaTn
import Derived.Test.YtgdljdhibknjnaaTq
namespace Go.Proofs.Ytgdljdhibknjnaa
/-- When a clock shows an end of a slot: what is wrong. -/
def edE (f s n d rr x : Int) : Int := if addE rr x ≠ 0 then addE rr x else realE f s n d (addN rr x)
def opE (f s n d R round : Int) (x : Sl) : Int := if round < 0 ∨ R < 1 ∨ 1099511627776 / R < round then 2 else if edE f s n d (round * R) x.f ≠ 0 then edE f s n d (round * R) x.f else edE f s n d (round * R) x.t
def opA (f s n d R round : Int) (x : Sl) : Int := if opE f s n d R round x = 0 then realN f s n d (addN (round * R) x.f) else 0
def opB (f s n d R round : Int) (x : Sl) : Int := if opE f s n d R round x = 0 then realN f s n d (addN (round * R) x.t) else 0
/-- Whether something goes through a slot. -/
def goes (f s n d R nd sa sb round : Int) (x : Sl) : Bool := decide (x.n = nd) && decide (opE f s n d R round x = 0) && meetB (opA f s n d R round x) (opB f s n d R round x) sa sb
/-- The first slot of a round through which something goes: what. -/
def psT (f s n d R nd sa sb round : Int) : List Sl → Option (Int × Int)
  | [] => none
  | x :: l => if goes f s n d R nd sa sb round x = true then some (comA (opA f s n d R round x) (opB f s n d R round x) sa sb, comB (opA f s n d R round x) (opB f s n d R round x) sa sb) else psT f s n d R nd sa sb round l
/-- .. of rounds from one on. -/
def psR (f s n d R nd sa sb to : Int) (sl : List Sl) : Nat → Int → Option (Int × Int)
  | 0, _ => none
  | k + 1, round => if round ≤ to then (match psT f s n d R nd sa sb round sl with | some v => some v | none => psR f s n d R nd sa sb to sl k (round + 1)) else none
theorem opE_late (f s n d R round : Int) (x : Sl) (h : 1099511627776 < round) : opE f s n d R round x = 2 := by
  unfold opE
  by_cases hR : R < 1
  · rw [if_pos (.inr (.inl hR))]
  · have : 1099511627776 / R ≤ 1099511627776 := Int.ediv_le_self _ (by omega)
    rw [if_pos (.inr (.inr (by omega)))]
theorem psT_late (f s n d R nd sa sb round : Int) (l : List Sl) (h : 1099511627776 < round) : psT f s n d R nd sa sb round l = none := by
  induction l with
  | nil => rfl
  | cons x l ih =>
    unfold psT
    rw [if_neg ?_]
    · exact ih
    · unfold goes; rw [opE_late _ _ _ _ _ _ _ h]; simp
theorem psR_late (f s n d R nd sa sb to : Int) (sl : List Sl) (k : Nat) (round : Int) (h : 1099511627776 < round) : psR f s n d R nd sa sb to sl k round = none := by
  induction k generalizing round with
  | zero => rfl
  | succ k ih =>
    unfold psR
    rw [psT_late _ _ _ _ _ _ _ _ _ _ h]
    split
    · exact ih (round + 1) (by omega)
    · rfl
theorem psT_step (f s n d R nd sa sb round : Int) (sl : List Sl) (i : Nat) (x : Sl) (h : sl[i]? = some x) : psT f s n d R nd sa sb round (sl.drop i) = if goes f s n d R nd sa sb round x = true then some (comA (opA f s n d R round x) (opB f s n d R round x) sa sb, comB (opA f s n d R round x) (opB f s n d R round x) sa sb) else psT f s n d R nd sa sb round (sl.drop (i + 1)) := by
  have hi : i < sl.length := (List.getElem?_eq_some_iff.1 h).1
  have hx : sl[i] = x := (List.getElem?_eq_some_iff.1 h).2
  rw [List.drop_eq_getElem_cons hi, hx]
  rfl
theorem psT_end (f s n d R nd sa sb round : Int) (sl : List Sl) (i : Nat) (h : sl.length ≤ i) : psT f s n d R nd sa sb round (sl.drop i) = none := by
  rw [List.drop_of_length_le h]; rfl
/-- What goes through is of some slot of the node's that is open. -/
theorem psT_some {f s n d R nd sa sb round : Int} {sl : List Sl} {v : Int × Int} (h : psT f s n d R nd sa sb round sl = some v) : ∃ (i : Nat) (x : Sl), sl[i]? = some x ∧ x.n = nd ∧ opE f s n d R round x = 0 ∧ meetB (opA f s n d R round x) (opB f s n d R round x) sa sb = true ∧ v = (comA (opA f s n d R round x) (opB f s n d R round x) sa sb, comB (opA f s n d R round x) (opB f s n d R round x) sa sb) := by
  induction sl with
  | nil => cases h
  | cons x l ih =>
    unfold psT at h
    by_cases hg : goes f s n d R nd sa sb round x = true
    · rw [if_pos hg] at h
      refine ⟨0, x, rfl, ?_⟩
      unfold goes at hg
      simp only [Bool.and_eq_true, decide_eq_true_eq] at hg
      exact ⟨hg.1.1, hg.1.2, hg.2, (Option.some.inj h).symm⟩
    · rw [if_neg hg] at h
      obtain ⟨i, y, hy, r⟩ := ih h
      exact ⟨i + 1, y, by simpa using hy, r⟩
theorem psR_some {f s n d R nd sa sb to : Int} {sl : List Sl} {k : Nat} {round : Int} {v : Int × Int} (h : psR f s n d R nd sa sb to sl k round = some v) : ∃ r, round ≤ r ∧ psT f s n d R nd sa sb r sl = some v := by
  induction k generalizing round with
  | zero => cases h
  | succ k ih =>
    unfold psR at h
    by_cases hr : round ≤ to
    · rw [if_pos hr] at h
      cases e : psT f s n d R nd sa sb round sl with
      | some u => rw [e] at h; cases h; exact ⟨round, Int.le_refl _, e⟩
      | none =>
        rw [e] at h
        obtain ⟨r, h1, h2⟩ := ih h
        exact ⟨r, by omega, h2⟩
    · rw [if_neg hr] at h; cases h
end Go.Proofs.Ytgdljdhibknjnaa
