/- An argument that is a slice of bytes, taken apart; no condition. -/
import Derived.Test.YtfdadkngbnhmeaaDoorOpen
import Derived.Test.YtfdadkngbnhmeaaDoorNu
namespace Go.Proofs.YtfdadkngbnhmeaaDoor
open Go.ChangeShapes Go.WideShapes Go.ChangeAt Go.RowKit Go.Joins
variable {H : Type} {enc : TypeId × Value → H}
theorem cellsU8 : Tryd.prog.cellsOf 5 = 1 := by kernel_rfl
set_option linter.constructorNameAsVariable false in
theorem slice_lt {W : World} {r : Reach} {b0 : Nat} {b off : Nat} {n c : Nat} (hv : Value.okWide Tryd.prog W r b0 22 (.slice (some ⟨b, off, none⟩) n c)) : b < W.heap.size := by
  simp only [Value.okWide, Tryd.underlying22, Cell.okWide, Cell.ok] at hv
  obtain ⟨_, _, _, _, row, cells, hs, _⟩ := hv
  unfold World.shape? at hs
  rcases Nat.lt_or_ge b W.heap.size with h | h
  · exact h
  · rw [Array.getElem?_eq_none h] at hs; cases hs
set_option maxRecDepth 100000 in
theorem open_bytesD {W : World} {r : Reach} {B b0 : Nat} {v : Value} {d : DataW H} {p : List MemPlace} (hv : Value.okWide Tryd.prog W r b0 22 v)
    (h : DataW.Trod enc Tryd.prog W B (fun _ => true) true 22 v d p) :
    ∃ (A : Option Addr) (len cap : Nat) (l : List Nat), v = .slice A len cap ∧ len ≤ cap ∧ cap ≤ maxLen ∧ (∀ x ∈ l, x < 256) ∧ l.length = len ∧ BsAt W A l ∧ (∀ b off, A = some ⟨b, off, none⟩ → b < W.heap.size) := by
  obtain ⟨a0, len, cap, rfl⟩ := okWide_slice Tryd.underlying22 hv
  obtain ⟨fuel, hf⟩ := h
  rcases open_ints Tryd.underlying22 Tryd.underlying5 cellsU8 hf with ⟨hcs, hx⟩ | ⟨a, len', cap', zs, hcs, _, hl, hm, hz, hx, hcell, hwz⟩
  · simp [Value.cells] at hcs
    obtain ⟨rfl, rfl, rfl⟩ := hcs
    exact ⟨none, 0, 0, [], rfl, by omega, by simp [maxLen], by simp, rfl, fun j hj => by simp at hj, fun b off e => by cases e⟩
  · simp [Value.cells] at hcs
    obtain ⟨rfl, rfl, rfl⟩ := hcs
    simp only [if_true] at hz
    have hb : ∀ j, j < len → 0 ≤ zs.getD j 0 ∧ zs.getD j 0 ≤ 255 := by
      intro j hj
      have e : zs.getD j 0 = zs[j] := by simp [List.getD, List.getElem?_eq_getElem (by omega : j < zs.length)]
      rw [e]
      exact bounds_u8 (hwz zs[j] (List.getElem_mem (by omega)))
    refine ⟨_, _, _, (List.range len).map (fun j => (zs.getD j 0).toNat), rfl, by omega, hm, ?_, by simp, fun j hj0 => ?_, fun b off e => by cases e; exact slice_lt hv⟩
    · intro x hx
      obtain ⟨j, hj, rfl⟩ := List.mem_map.1 hx
      have := hb j (List.mem_range.1 hj)
      omega
    · have hj : j < len := by simpa using hj0
      obtain ⟨b, off, rfl, hc⟩ := ints_at hcell (by omega)
      refine ⟨b, off, rfl, ?_⟩
      rw [hc j (by omega)]
      have e : ((List.range len).map (fun j => (zs.getD j 0).toNat)).getD j 0 = (zs.getD j 0).toNat := by simp [List.getD, List.getElem?_map, List.getElem?_range hj]
      rw [e]
      have := hb j hj
      congr 2; omega
end Go.Proofs.YtfdadkngbnhmeaaDoor
