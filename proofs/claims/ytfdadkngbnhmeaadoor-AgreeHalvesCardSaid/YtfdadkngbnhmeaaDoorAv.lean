/- An error as a value: an Errno, or an At around one; no condition. -/
import Derived.Test.YtfdadkngbnhmeaaDoorLib
namespace Go.Proofs.YtfdadkngbnhmeaaDoor
open Go.RowKit

/-- An error e at a place (-1: none). -/
def AtV (w : World) (v : Value) (e pl : Int) : Prop := (pl = -1 ∧ v = .iface 28 (.int .i64 e)) ∨ ∃ g, v = .iface 95 (.pointer (some ⟨g, 0, none⟩)) ∧ Blk w g 97 #[.int .i64 e, .int .i64 pl]
theorem AtV.bare (w : World) (e : Int) : AtV w (.iface 28 (.int .i64 e)) e (-1) := .inl ⟨rfl, rfl⟩
theorem AtV.at_ {w : World} {g : Nat} {e pl : Int} (h : Blk w g 97 #[.int .i64 e, .int .i64 pl]) : AtV w (.iface 95 (.pointer (some ⟨g, 0, none⟩))) e pl := .inr ⟨g, rfl, h⟩
theorem AtV.iface {w : World} {v : Value} {e pl : Int} (h : AtV w v e pl) : ∃ t u, v = .iface t u := by
  rcases h with ⟨_, rfl⟩ | ⟨g, rfl, _⟩
  · exact ⟨_, _, rfl⟩
  · exact ⟨_, _, rfl⟩
theorem AtV.below {w w' : World} {v : Value} {e pl : Int} (h : AtV w v e pl) (hB : Below w.heap.size w w') : AtV w' v e pl := by
  rcases h with h | ⟨g, h, hb⟩
  · exact .inl h
  · exact .inr ⟨g, h, hb.below hB hb.lt⟩
theorem Blk.cells10 {w : World} {g : Nat} {t : TypeId} {a0 a1 a2 a3 a4 a5 a6 a7 a8 a9 : Value} (h : Blk w g t #[a0, a1, a2, a3, a4, a5, a6, a7, a8, a9]) :
    w.cell? ⟨g, 0, none⟩ = some a0 ∧ w.cell? ⟨g, 1, none⟩ = some a1 ∧ w.cell? ⟨g, 2, none⟩ = some a2 ∧ w.cell? ⟨g, 3, none⟩ = some a3 ∧ w.cell? ⟨g, 4, none⟩ = some a4 ∧ w.cell? ⟨g, 5, none⟩ = some a5 ∧ w.cell? ⟨g, 6, none⟩ = some a6 ∧ w.cell? ⟨g, 7, none⟩ = some a7 ∧
    w.cell? ⟨g, 8, none⟩ = some a8 ∧ w.cell? ⟨g, 9, none⟩ = some a9 :=
  ⟨by simpa using h.cell 0, by simpa using h.cell 1, by simpa using h.cell 2, by simpa using h.cell 3, by simpa using h.cell 4, by simpa using h.cell 5, by simpa using h.cell 6, by simpa using h.cell 7, by simpa using h.cell 8, by simpa using h.cell 9⟩
end Go.Proofs.YtfdadkngbnhmeaaDoor
