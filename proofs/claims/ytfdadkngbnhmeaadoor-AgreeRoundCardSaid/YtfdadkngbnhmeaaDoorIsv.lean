/- metronomelaw.is at an error at a place; condition: errors.errorType holds what start-up lays there. -/
import Derived.Test.YtfdadkngbnhmeaaDoorEp
import Derived.Test.YtfdadkngbnhmeaaDoorAv
namespace Go.Proofs.YtfdadkngbnhmeaaDoor
open Go.RowKit

/-- metronomelaw.is at an error at a place. -/
theorem is_atV (v : Value) (e pl : Int) (w : World) (hg : ErrT w) (hv : AtV w v e pl) (h0 : e ≠ 0) : Calls Tryd.prog 9 #[v, .agg #[.int .i64 e, .int .i64 pl]] w fun r w' => r = .returned (.bool true) ∧ Below w.heap.size w w' := by
  rcases hv with ⟨rfl, rfl⟩ | ⟨g, rfl, hb⟩
  · have h := is_errV e e (-1) w hg
    unfold errV at h
    rw [if_neg h0] at h
    exact h.mono fun r w' ⟨a, b⟩ => ⟨by rw [a]; simp, b⟩
  · exact (is_at e pl g e pl w hg hb).mono fun r w' ⟨a, b⟩ => ⟨by rw [a]; simp, b⟩
theorem is_fine (w : World) (hg : ErrT w) : Calls Tryd.prog 9 #[.nilIface, .agg #[.int .i64 0, .int .i64 (-1)]] w fun r w' => r = .returned (.bool true) ∧ Below w.heap.size w w' := by
  have h := is_errV 0 0 (-1) w hg
  unfold errV at h
  rw [if_pos rfl] at h
  exact h.mono fun r w' ⟨a, b⟩ => ⟨by rw [a]; simp, b⟩
end Go.Proofs.YtfdadkngbnhmeaaDoor
