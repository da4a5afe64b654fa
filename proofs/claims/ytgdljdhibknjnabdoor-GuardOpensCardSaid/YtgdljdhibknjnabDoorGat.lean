/- The contracts of guard's Opens and of metronomeref.Opens, whatever the slot (for the seat without Passes); condition: the slots lie in memory. -/
import Derived.Test.YtgdljdhibknjnabDoorGr
namespace Go.Proofs.YtgdljdhibknjnabDoor
open Go.RowKit

theorem opE_out (f s n d R round : Int) (x : Sl) (h : round < 0 ∨ R < 1 ∨ 1099511627776 / R < round) : opE f s n d R round x = 2 ∧ opA f s n d R round x = 0 ∧ opB f s n d R round x = 0 := by
  have e : opE f s n d R round x = 2 := by unfold opE; rw [if_pos h]
  refine ⟨e, ?_, ?_⟩
  · unfold opA; rw [e]; rfl
  · unfold opB; rw [e]; rfl
/-- Opens, at a slot that there is. -/
theorem go_at (nd fa sk ji dr R : Int) (A : Option Addr) (len c : Nat) (L : Value) (fr : Int) (Q : Value) (f s n d id : Int) (round : Int) (k : Nat) (x : Sl) (sl : List Sl) (w : World) (hk : k < len) (hm : len ≤ 9223372036854775807) (hx : sl[k]? = some x) (hS : SlotsAt w A len sl) :
    Calls Tryd.prog 37 #[.agg (gdC nd fa sk ji dr R (.slice A len c) L fr Q f s n d id), .int .i64 round, .int .i64 k] w (GoPost w (opA f s n d R round x) (opB f s n d R round x) (opE f s n d R round x)) := by
  by_cases h : round < 0 ∨ R < 1 ∨ 1099511627776 / R < round
  · obtain ⟨e1, e2, e3⟩ := opE_out f s n d R round x h
    rw [e1, e2, e3]
    exact go_late nd fa sk ji dr R A len c L fr Q f s n d id round k w hk hm h
  · exact go_fine nd fa sk ji dr R A len c L fr Q f s n d id round k x sl w hk hm hx hS (by omega) (by omega) (by omega)

/-- The document's Opens, at a slot that there is. -/
theorem gr_at (nd fa sk ji dr R : Int) (A : Option Addr) (len c : Nat) (L : Value) (fr : Int) (Q : Value) (f s n d : Int) (round : Int) (k : Nat) (x : Sl) (sl : List Sl) (w : World) (hk : k < len) (hm : len ≤ 9223372036854775807) (hx : sl[k]? = some x) (hS : SlotsAt w A len sl) :
    Calls Tryd.prog 36 #[.agg (planC nd fa sk ji dr R (.slice A len c) L fr Q), clk f s n d, .int .i64 round, .int .i64 k] w (GrPost w (opA f s n d R round x) (opB f s n d R round x) (opE f s n d R round x)) := by
  by_cases h : round < 0 ∨ R < 1 ∨ 1099511627776 / R < round
  · obtain ⟨e1, e2, e3⟩ := opE_out f s n d R round x h
    rw [e1, e2, e3]
    exact gr_late nd fa sk ji dr R A len c L fr Q f s n d round k w hk hm h
  · exact gr_fine nd fa sk ji dr R A len c L fr Q f s n d round k x sl w hk hm hx hS (by omega) (by omega) (by omega)

/-- Both Opens answer alike. -/
theorem opens_both (nd fa sk ji dr R : Int) (A : Option Addr) (len c : Nat) (L : Value) (fr : Int) (Q : Value) (f s n d id : Int) (round slot : Int) (sl : List Sl) (hm : len ≤ 9223372036854775807) (hl : sl.length = len) : ∃ a b e : Int,
    (∀ w, SlotsAt w A len sl → Calls Tryd.prog 36 #[.agg (planC nd fa sk ji dr R (.slice A len c) L fr Q), clk f s n d, .int .i64 round, .int .i64 slot] w (GrPost w a b e)) ∧
    (∀ w, SlotsAt w A len sl → Calls Tryd.prog 37 #[.agg (gdC nd fa sk ji dr R (.slice A len c) L fr Q f s n d id), .int .i64 round, .int .i64 slot] w (GoPost w a b e)) := by
  by_cases h : slot < 0 ∨ (len : Int) ≤ slot
  · exact ⟨0, 0, 7, fun w _ => gr_none nd fa sk ji dr R A len c L fr Q f s n d round slot w hm h, fun w _ => go_none nd fa sk ji dr R A len c L fr Q f s n d id round slot w h⟩
  · obtain ⟨k, rfl⟩ : ∃ k : Nat, slot = k := ⟨slot.toNat, by omega⟩
    have hk : k < len := by omega
    have hx : sl[k]? = some sl[k] := List.getElem?_eq_getElem (by omega)
    exact ⟨_, _, _, fun w hS => gr_at nd fa sk ji dr R A len c L fr Q f s n d round k _ sl w hk hm hx hS, fun w hS => go_at nd fa sk ji dr R A len c L fr Q f s n d id round k _ sl w hk hm hx hS⟩
end Go.Proofs.YtgdljdhibknjnabDoor
