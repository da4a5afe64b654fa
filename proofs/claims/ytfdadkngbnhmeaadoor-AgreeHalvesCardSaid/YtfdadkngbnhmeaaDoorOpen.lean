/- Arguments that are structs of numbers, taken apart; no condition. -/
import Derived.Test.YtfdadkngbnhmeaaDoorLaw
import Derived.Lib.SmallJoins
namespace Go.Proofs.YtfdadkngbnhmeaaDoor
open Go.ChangeShapes Go.WideShapes Go.ChangeAt Go.RowKit Go.Joins
variable {H : Type} {enc : TypeId × Value → H}

theorem cellsInt : Tryd.prog.cellsOf 3 = 1 := by kernel_rfl
/-- The first n numbers of a slice lie in memory. -/
def IntsAt (W : World) (A : Option Addr) (n : Nat) (zs : List Int) : Prop := ∀ j, j < n → ∃ b off, A = some ⟨b, off, none⟩ ∧ W.cell? ⟨b, off + j, none⟩ = some (.int .i64 (zs.getD j 0))
set_option maxRecDepth 100000 in
theorem open_intsl {W : World} {r : Reach} {B b0 : Nat} {v : Value} {d : DataW H} {p : List MemPlace} (hv : Value.okWide Tryd.prog W r b0 40 v)
    (h : DataW.Trod enc Tryd.prog W B (fun _ => true) true 40 v d p) :
    ∃ (A : Option Addr) (len cap : Nat) (zs : List Int), v = .slice A len cap ∧ len ≤ 9223372036854775807 ∧ IntsAt W A len zs ∧ ∀ j, -9223372036854775808 ≤ zs.getD j 0 ∧ zs.getD j 0 ≤ 9223372036854775807 := by
  obtain ⟨a0, len, cap, rfl⟩ := okWide_slice Tryd.underlying40 hv
  obtain ⟨fuel, hf⟩ := h
  rcases open_ints Tryd.underlying40 Tryd.underlying3 cellsInt hf with ⟨hcs, hx⟩ | ⟨a, len', cap', zs, hcs, _, hl, hm, hz, hx, hcell, hwz⟩
  · simp [Value.cells] at hcs
    obtain ⟨rfl, rfl, rfl⟩ := hcs
    exact ⟨none, 0, 0, [], rfl, by omega, fun j hj => by omega, fun j => by simp⟩
  · simp [Value.cells] at hcs
    obtain ⟨rfl, rfl, rfl⟩ := hcs
    simp only [if_true] at hz
    refine ⟨_, _, _, zs, rfl, by unfold maxLen at hm; omega, fun j hj => ?_, fun j => ?_⟩
    · obtain ⟨b, off, rfl, hc⟩ := ints_at hcell (by omega)
      exact ⟨b, off, rfl, hc j (by omega)⟩
    · by_cases hj : j < zs.length
      · have hm := hwz zs[j] (List.getElem_mem hj)
        have e : zs.getD j 0 = zs[j] := by simp [List.getD, List.getElem?_eq_getElem hj]
        rw [e]
        have := bounds_i64 hm
        exact this
      · have e : zs.getD j 0 = 0 := by simp [List.getD, List.getElem?_eq_none (by omega : zs.length ≤ j)]
        rw [e]; omega
end Go.Proofs.YtfdadkngbnhmeaaDoor
