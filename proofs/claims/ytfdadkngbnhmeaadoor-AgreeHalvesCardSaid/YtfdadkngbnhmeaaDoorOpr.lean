/- An argument that is a slice of slices of numbers, taken apart; no condition. -/
import Derived.Test.YtfdadkngbnhmeaaDoorOpen
import Derived.Test.YtfdadkngbnhmeaaDoorRd
import Derived.Deep.Matrix
namespace Go.Proofs.YtfdadkngbnhmeaaDoor
open Go Go.ChangeShapes Go.WideShapes Go.ChangeAt Go.RowKit Go.Joins
variable {H : Type} {enc : TypeId × Value → H}
theorem add_none {w : World} {a : Addr} {v : Value} (h : w.cell? (a.add 0) = some v) : ∃ b off, a = ⟨b, off, none⟩ := by
  obtain ⟨b, off, sp⟩ := a
  cases sp with
  | none => exact ⟨b, off, rfl⟩
  | some s =>
    exfalso
    unfold Addr.add World.cell? at h
    simp at h
    split at h <;> cases h
theorem add_at (b off j : Nat) : (⟨b, off, none⟩ : Addr).add j = ⟨b, off + j, none⟩ := by
  unfold Addr.add
  split
  · rename_i h; subst h; rfl
  · rfl
theorem isl_of2 {W : World} {A : Option Addr} {n : Nat} {zs : List Int} (h : IntsAt W A n zs) : IsL W A ((List.range n).map fun j => zs.getD j 0) := fun j hj => by
  have hj2 : j < n := by simpa using hj
  obtain ⟨b, off, e, hc⟩ := h j hj2
  refine ⟨b, off, e, ?_⟩
  rw [hc]
  simp [List.getD, hj2]
theorem cellsSl : Tryd.prog.cellsOf 40 = 1 := by kernel_rfl
set_option maxRecDepth 100000 in
theorem open_rowsI {W : World} {r : Reach} {B b0 : Nat} {v : Value} {d : DataW H} {p : List MemPlace} (hv : Value.okWide Tryd.prog W r b0 47 v)
    (h : DataW.Trod enc Tryd.prog W B (fun _ => true) true 47 v d p) :
    ∃ (A : Option Addr) (len cap : Nat) (rs : List (List Int)), v = .slice A len cap ∧ rs.length = len ∧ RowsAt W A rs := by
  obtain ⟨a0, len, cap, rfl⟩ := okWide_slice Tryd.underlying47 hv
  obtain ⟨fuel, hf⟩ := h
  rcases Go.Deep.open_int_rows Tryd.underlying47 Tryd.underlying40 Tryd.underlying3 cellsSl cellsInt hf with ⟨hcs, _⟩ | ⟨a, len', cap', A, L, C, Z, hcs, _, hl, hm, _, hrow⟩
  · simp [Value.cells] at hcs
    obtain ⟨rfl, rfl, rfl⟩ := hcs
    exact ⟨none, 0, 0, [], rfl, rfl, fun j hj => by simp at hj⟩
  · simp [Value.cells] at hcs
    obtain ⟨rfl, rfl, rfl⟩ := hcs
    refine ⟨_, _, _, (List.range len).map fun r => (Z r).take (L r), rfl, by simp, fun j hj0 => ?_⟩
    have hj : j < len := by simpa using hj0
    obtain ⟨b, off, rfl⟩ := add_none (hrow 0 (by omega)).1
    obtain ⟨h1, h2, h3, h4, h5, h6, h7⟩ := hrow j (by omega)
    have e : ((List.range len).map fun r => (Z r).take (L r)).getD j [] = (Z j).take (L j) := by simp [List.getD, hj]
    have el : ((Z j).take (L j)).length = L j := by simp; omega
    rw [add_at] at h1
    refine ⟨b, off, A j, C j, rfl, by rw [e, el]; exact h1, ?_⟩
    rw [e]
    intro i hi
    rw [el] at hi
    cases hA : A j with
    | none => have := h6 hA; omega
    | some a' =>
      obtain ⟨_, h8⟩ := h7 a' hA
      obtain ⟨b', off', rfl⟩ := add_none (h8 0 (by omega))
      have h9 := h8 i (by omega)
      rw [add_at] at h9
      refine ⟨b', off', rfl, ?_⟩
      rw [h9]
      simp [List.getD, hi]
end Go.Proofs.YtfdadkngbnhmeaaDoor
