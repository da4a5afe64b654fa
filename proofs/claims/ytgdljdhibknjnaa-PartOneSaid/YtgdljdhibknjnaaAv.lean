/- An error as a value: an Errno, or an At around one; no condition. -/
import Derived.Test.YtgdljdhibknjnaaLib
namespace Go.Proofs.Ytgdljdhibknjnaa
open Go.RowKit

/-- An error e at a place (-1: none). -/
def AtV (w : World) (v : Value) (e pl : Int) : Prop := (pl = -1 ∧ v = .iface 110 (.int .i64 e)) ∨ ∃ g, v = .iface 119 (.pointer (some ⟨g, 0, none⟩)) ∧ Blk w g 121 #[.int .i64 e, .int .i64 pl]
theorem AtV.bare (w : World) (e : Int) : AtV w (.iface 110 (.int .i64 e)) e (-1) := .inl ⟨rfl, rfl⟩
theorem AtV.at_ {w : World} {g : Nat} {e pl : Int} (h : Blk w g 121 #[.int .i64 e, .int .i64 pl]) : AtV w (.iface 119 (.pointer (some ⟨g, 0, none⟩))) e pl := .inr ⟨g, rfl, h⟩
theorem AtV.iface {w : World} {v : Value} {e pl : Int} (h : AtV w v e pl) : ∃ t u, v = .iface t u := by
  rcases h with ⟨_, rfl⟩ | ⟨g, rfl, _⟩
  · exact ⟨_, _, rfl⟩
  · exact ⟨_, _, rfl⟩
theorem AtV.below {w w' : World} {v : Value} {e pl : Int} (h : AtV w v e pl) (hB : Below w.heap.size w w') : AtV w' v e pl := by
  rcases h with h | ⟨g, h, hb⟩
  · exact .inl h
  · exact .inr ⟨g, h, hb.below hB hb.lt⟩
end Go.Proofs.Ytgdljdhibknjnaa
