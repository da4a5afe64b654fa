/- Arguments that are slices of what is said (a link, and a round), taken apart; no condition. -/
import Derived.Test.YtdogdlnaacimpaaGreatDoorM21
import Derived.Test.YtdogdlnaacimpaaGreatDoorM22
set_option linter.unusedVariables false
set_option linter.unusedSimpArgs false
namespace Go.Proofs.YtdogdlnaacimpaaGreatDoor
open Go Go.ChangeShapes Go.WideShapes Go.ChangeAt Go.RowKit Go.Joins Go.Deep
theorem cSay : Tryz.prog.cellsOf 46 = 5 := by kernel_rfl
theorem list5 {α : Type} {l : List α} (h : l.length = 5) : ∃ a b c d e, l = [a, b, c, d, e] := by
  match l, h with
  | [a, b, c, d, e], _ => exact ⟨a, b, c, d, e, rfl⟩
section
variable {H : Type} {enc : TypeId × Value → H} {W : World} {b0 : Nat} {hd : Bool}
/-- The cells of what is said. -/
theorem trod_say {fuel : Nat} {cs : List Value} {x : DataW H × List MemPlace} (h : DataW.trod enc Tryz.prog W b0 (fun _ => true) hd fuel 46 cs = some x) : ∃ (k : Int) (a : RnX W), cs = .int .i64 k :: a.cells := by
  obtain ⟨xs, n, _, _, hl, hxl, hg⟩ := DataW.trod_struct Tryz.underlying46 h
  obtain ⟨c0, c1, c2, c3, c4, rfl⟩ := list5 (hl.trans cSay)
  obtain ⟨x0, x1, rfl⟩ := list2 hxl
  have g0 := hg 0 _ rfl
  have g1 := hg 1 _ rfl
  simp [cInt, cRound] at g0 g1
  obtain ⟨a, e0, _⟩ := DataW.trod_int Tryz.underlying3 g0
  obtain ⟨r, e1⟩ := trod_round g1
  simp at e0
  exact ⟨a, r, by rw [e0, e1]⟩
set_option maxRecDepth 100000 in
/-- A slice of what is said, as an argument. -/
theorem open_says {v : Value} {d : DataW H} {p : List MemPlace} {r : Reach} {B : Nat} (h : DataW.Trod enc Tryz.prog W b0 (fun _ => true) hd 43 v d p) (hv : Value.okWide Tryz.prog W r B 43 v) :
    ∃ (A : Option Addr) (cap : Nat) (l : List (Int × Rn)), v = .slice A l.length cap ∧ l.length ≤ 9223372036854775807 ∧ SaAt W A l := by
  obtain ⟨a0, len, cap, rfl⟩ := okWide_slice Tryz.underlying43 hv
  obtain ⟨fuel, hf⟩ := h
  obtain ⟨A, len, cap, l, e1, e2, e3, e4, e5⟩ := open_rows (fun w : Int × RnX W => .int .i64 w.1 :: w.2.cells) Tryz.underlying43 cSay (by decide) (fun fuel cs y hy => by obtain ⟨k, a, e⟩ := trod_say hy; exact ⟨(k, a), e⟩) (fun _ => rfl) hf
  refine ⟨A, cap, l.map (fun w => (w.1, w.2.r)), by rw [List.length_map, e4]; exact e1, by rw [List.length_map]; unfold maxLen at e3; omega, fun j x hj => ?_⟩
  rw [List.getElem?_map, Option.map_eq_some_iff] at hj
  obtain ⟨y, hy, rfl⟩ := hj
  obtain ⟨b, off, hA, a, ha, hcell⟩ := e5 j (by have := (List.getElem?_eq_some_iff.1 hy).1; omega)
  rw [hy] at ha
  cases ha
  exact ⟨b, off, hA, hcell 0 (by decide), y.2.A1, y.2.c1, y.2.A2, y.2.c2, y.2.A3, y.2.c3, y.2.A4, y.2.c4, hcell 1 (by decide), hcell 2 (by decide), hcell 3 (by decide), hcell 4 (by decide), y.2.h1, y.2.h2, y.2.h3, y.2.h4, y.2.m1, y.2.m2, y.2.m3, y.2.m4⟩
end
end Go.Proofs.YtdogdlnaacimpaaGreatDoor
