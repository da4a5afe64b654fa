/- Arguments that are structs of numbers, taken apart; no condition. -/
import Derived.Test.YtgdljdhibknjnabDoorLaw
import Derived.Lib.SmallJoins
namespace Go.Proofs.YtgdljdhibknjnabDoor
open Go.ChangeShapes Go.WideShapes Go.ChangeAt Go.RowKit Go.Joins
variable {H : Type} {enc : TypeId × Value → H}
theorem cells36 : Tryd.prog.cellsOf 23 = 4 := by kernel_rfl
set_option maxRecDepth 100000 in
theorem open_clk {W : World} {b : Nat} {sp : Nat → Bool} {r : Reach} {B : Nat} {hd : Bool} {v : Value} {d : DataW H} {p : List MemPlace}
    (h : DataW.Trod enc Tryd.prog W b sp hd 23 v d p) (hv : Value.okWide Tryd.prog W r B 23 v) : ∃ f s n d : Int, v = .agg #[.int .i64 f, .int .i64 s, .int .i64 n, .int .i64 d] := by
  obtain ⟨c0, c1, c2, c3, y0, y1, y2, y3, m, rfl, rfl, rfl, hy0, hy1, hy2, hy3⟩ := open_agg4 Tryd.underlying23 (by kernel_rfl) cells36 hv h
  obtain ⟨a, e0, _, _⟩ := DataW.trod_int Tryd.underlying3 hy0
  obtain ⟨b, e1, _, _⟩ := DataW.trod_int Tryd.underlying3 hy1
  obtain ⟨c, e2, _, _⟩ := DataW.trod_int Tryd.underlying3 hy2
  obtain ⟨d, e3, _, _⟩ := DataW.trod_int Tryd.underlying3 hy3
  simp at e0 e1 e2 e3
  subst e0 e1 e2 e3
  exact ⟨a, b, c, d, rfl⟩

theorem cellsInt : Tryd.prog.cellsOf 3 = 1 := by kernel_rfl
/-- The first n numbers of a slice lie in memory. -/
def IntsAt (W : World) (A : Option Addr) (n : Nat) (zs : List Int) : Prop := ∀ j, j < n → ∃ b off, A = some ⟨b, off, none⟩ ∧ W.cell? ⟨b, off + j, none⟩ = some (.int .i64 (zs.getD j 0))
set_option maxRecDepth 100000 in
theorem open_intsl {W : World} {r : Reach} {B b0 : Nat} {v : Value} {d : DataW H} {p : List MemPlace} (hv : Value.okWide Tryd.prog W r b0 124 v)
    (h : DataW.Trod enc Tryd.prog W B (fun _ => true) true 124 v d p) :
    ∃ (A : Option Addr) (len cap : Nat) (zs : List Int), v = .slice A len cap ∧ len ≤ 9223372036854775807 ∧ IntsAt W A len zs ∧ ∀ j, -9223372036854775808 ≤ zs.getD j 0 ∧ zs.getD j 0 ≤ 9223372036854775807 := by
  obtain ⟨a0, len, cap, rfl⟩ := okWide_slice Tryd.underlying124 hv
  obtain ⟨fuel, hf⟩ := h
  rcases open_ints Tryd.underlying124 Tryd.underlying3 cellsInt hf with ⟨hcs, hx⟩ | ⟨a, len', cap', zs, hcs, _, hl, hm, hz, hx, hcell, hwz⟩
  · simp [Value.cells] at hcs
    obtain ⟨rfl, rfl, rfl⟩ := hcs
    exact ⟨none, 0, 0, [], rfl, by omega, fun j hj => by omega, fun j => by simp⟩
  · simp [Value.cells] at hcs
    obtain ⟨rfl, rfl, rfl⟩ := hcs
    simp only [if_true] at hz
    refine ⟨_, _, _, zs, rfl, by unfold maxLen at hm; omega, fun j hj => ?_, fun j => ?_⟩
    · obtain ⟨b, off, rfl, hc⟩ := ints_at hcell (by omega)
      exact ⟨b, off, rfl, hc j (by omega)⟩
    · by_cases hj : j < zs.length
      · have hm := hwz zs[j] (List.getElem_mem hj)
        have e : zs.getD j 0 = zs[j] := by simp [List.getD, List.getElem?_eq_getElem hj]
        rw [e]
        have := bounds_i64 hm
        exact this
      · have e : zs.getD j 0 = 0 := by simp [List.getD, List.getElem?_eq_none (by omega : zs.length ≤ j)]
        rw [e]; omega
end Go.Proofs.YtgdljdhibknjnabDoor
