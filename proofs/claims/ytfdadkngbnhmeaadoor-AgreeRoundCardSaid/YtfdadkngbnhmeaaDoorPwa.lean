/- Windows in memory; no condition. -/
import Derived.Test.YtfdadkngbnhmeaaDoorPt
import Derived.Test.YtfdadkngbnhmeaaDoorLib
namespace Go.Proofs.YtfdadkngbnhmeaaDoor
open Go.RowKit

abbrev wnV (w : Wn) : Value := .agg #[.int .i64 w.p, .int .i64 w.f, .int .i64 w.t]
/-- The first n windows of a slice lie in memory. -/
def WinsAt (W : World) (A : Option Addr) (n : Nat) (ws : List Wn) : Prop := ∀ j, j < n → ∃ b off, A = some ⟨b, off, none⟩ ∧ ∃ w, ws[j]? = some w ∧ W.cell? ⟨b, off + j * 3, none⟩ = some (.int .i64 w.p) ∧ W.cell? ⟨b, off + j * 3 + 1, none⟩ = some (.int .i64 w.f) ∧ W.cell? ⟨b, off + j * 3 + 2, none⟩ = some (.int .i64 w.t)
theorem WinsAt.below {w W : World} {A : Option Addr} {n : Nat} {ws : List Wn} (h : WinsAt w A n ws) (hB : Below w.heap.size w W) : WinsAt W A n ws := by
  intro j hj
  obtain ⟨b, off, hA, y, hy, c0, c1, c2⟩ := h j hj
  have hb := World.block_lt_of_cell? _ _ c0
  exact ⟨b, off, hA, y, hy, (hB.cell (p := ⟨b, off + j * 3, none⟩) hb).trans c0, (hB.cell (p := ⟨b, off + j * 3 + 1, none⟩) hb).trans c1, (hB.cell (p := ⟨b, off + j * 3 + 2, none⟩) hb).trans c2⟩
end Go.Proofs.YtfdadkngbnhmeaaDoor
