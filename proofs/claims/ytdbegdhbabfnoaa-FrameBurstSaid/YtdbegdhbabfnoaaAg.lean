/- Arguments that are frames (a struct of five numbers and a text), taken apart; no condition. -/
import Derived.Test.YtdbegdhbabfnoaaLaw
import Derived.Lib.SmallJoins
namespace Go.Proofs.Ytdbegdhbabfnoaa
open Go.ChangeShapes Go.WideShapes Go.ChangeAt Go.RowKit Go.Joins Go.Deep Go.WideElems Go.Maps
section
variable {H : Type} {enc : TypeId × Value → H} {P : Program} {w : World} {base : Nat} {spare : Nat → Bool} {held : Bool}
theorem array6 {α : Type} {cs : Array α} (h : cs.size = 6) : ∃ c0 c1 c2 c3 c4 c5, cs = #[c0, c1, c2, c3, c4, c5] := by
  obtain ⟨l⟩ := cs
  match l, h with
  | [c0, c1, c2, c3, c4, c5], _ => exact ⟨c0, c1, c2, c3, c4, c5, rfl⟩
theorem open_agg6 {r : Reach} {b0 : Nat} {t : TypeId} {f0 f1 f2 f3 f4 f5 : Field} {v : Value} {d : DataW H} {p : List MemPlace} (hs : P.underlying t = some (.struct #[f0, f1, f2, f3, f4, f5])) (hone : oneCellFields P #[f0, f1, f2, f3, f4, f5] = true) (hC : P.cellsOf t = 6)
    (hv : Value.okWide P w r b0 t v) (h : DataW.Trod enc P w base spare held t v d p) :
    ∃ (v0 v1 v2 v3 v4 v5 : Value) (y0 y1 y2 y3 y4 y5 : DataW H × List MemPlace) (n : Nat), v = .agg #[v0, v1, v2, v3, v4, v5] ∧ d = .agg [y0.1, y1.1, y2.1, y3.1, y4.1, y5.1] ∧ p = y0.2 ++ (y1.2 ++ (y2.2 ++ (y3.2 ++ (y4.2 ++ y5.2)))) ∧
      DataW.trod enc P w base spare held n f0.type [v0] = some y0 ∧ DataW.trod enc P w base spare held n f1.type [v1] = some y1 ∧ DataW.trod enc P w base spare held n f2.type [v2] = some y2 ∧ DataW.trod enc P w base spare held n f3.type [v3] = some y3 ∧ DataW.trod enc P w base spare held n f4.type [v4] = some y4 ∧ DataW.trod enc P w base spare held n f5.type [v5] = some y5 := by
  obtain ⟨cs, rfl, hsz⟩ := okWide_struct hs hv
  obtain ⟨c0, c1, c2, c3, c4, c5, rfl⟩ := array6 (hsz.trans hC)
  obtain ⟨fuel, hf⟩ := h
  obtain ⟨xs, n, _, hx, _, hlen, hg⟩ := DataW.trod_struct hs hf
  match xs, hlen with
  | [y0, y1, y2, y3, y4, y5], _ =>
    simp only [Prod.mk.injEq, List.map_cons, List.map_nil, List.flatMap_cons, List.flatMap_nil, List.append_nil] at hx
    refine ⟨c0, c1, c2, c3, c4, c5, y0, y1, y2, y3, y4, y5, n, rfl, hx.1, hx.2, ?_, ?_, ?_, ?_, ?_, ?_⟩
    · have h0 := hg 0 f0 rfl
      obtain ⟨o0, k0⟩ := hone_of hone 0 f0 rfl
      simpa [Value.cells, o0, k0] using h0
    · have h0 := hg 1 f1 rfl
      obtain ⟨o0, k0⟩ := hone_of hone 1 f1 rfl
      simpa [Value.cells, o0, k0] using h0
    · have h0 := hg 2 f2 rfl
      obtain ⟨o0, k0⟩ := hone_of hone 2 f2 rfl
      simpa [Value.cells, o0, k0] using h0
    · have h0 := hg 3 f3 rfl
      obtain ⟨o0, k0⟩ := hone_of hone 3 f3 rfl
      simpa [Value.cells, o0, k0] using h0
    · have h0 := hg 4 f4 rfl
      obtain ⟨o0, k0⟩ := hone_of hone 4 f4 rfl
      simpa [Value.cells, o0, k0] using h0
    · have h0 := hg 5 f5 rfl
      obtain ⟨o0, k0⟩ := hone_of hone 5 f5 rfl
      simpa [Value.cells, o0, k0] using h0
theorem array9 {α : Type} {cs : Array α} (h : cs.size = 9) : ∃ c0 c1 c2 c3 c4 c5 c6 c7 c8, cs = #[c0, c1, c2, c3, c4, c5, c6, c7, c8] := by
  obtain ⟨l⟩ := cs
  match l, h with
  | [c0, c1, c2, c3, c4, c5, c6, c7, c8], _ => exact ⟨c0, c1, c2, c3, c4, c5, c6, c7, c8, rfl⟩
theorem open_agg9 {r : Reach} {b0 : Nat} {t : TypeId} {f0 f1 f2 f3 f4 f5 f6 f7 f8 : Field} {v : Value} {d : DataW H} {p : List MemPlace} (hs : P.underlying t = some (.struct #[f0, f1, f2, f3, f4, f5, f6, f7, f8])) (hone : oneCellFields P #[f0, f1, f2, f3, f4, f5, f6, f7, f8] = true) (hC : P.cellsOf t = 9)
    (hv : Value.okWide P w r b0 t v) (h : DataW.Trod enc P w base spare held t v d p) :
    ∃ (v0 v1 v2 v3 v4 v5 v6 v7 v8 : Value) (y0 y1 y2 y3 y4 y5 y6 y7 y8 : DataW H × List MemPlace) (n : Nat), v = .agg #[v0, v1, v2, v3, v4, v5, v6, v7, v8] ∧ d = .agg [y0.1, y1.1, y2.1, y3.1, y4.1, y5.1, y6.1, y7.1, y8.1] ∧ p = y0.2 ++ (y1.2 ++ (y2.2 ++ (y3.2 ++ (y4.2 ++ (y5.2 ++ (y6.2 ++ (y7.2 ++ y8.2))))))) ∧
      DataW.trod enc P w base spare held n f0.type [v0] = some y0 ∧ DataW.trod enc P w base spare held n f1.type [v1] = some y1 ∧ DataW.trod enc P w base spare held n f2.type [v2] = some y2 ∧ DataW.trod enc P w base spare held n f3.type [v3] = some y3 ∧ DataW.trod enc P w base spare held n f4.type [v4] = some y4 ∧ DataW.trod enc P w base spare held n f5.type [v5] = some y5 ∧ DataW.trod enc P w base spare held n f6.type [v6] = some y6 ∧ DataW.trod enc P w base spare held n f7.type [v7] = some y7 ∧ DataW.trod enc P w base spare held n f8.type [v8] = some y8 := by
  obtain ⟨cs, rfl, hsz⟩ := okWide_struct hs hv
  obtain ⟨c0, c1, c2, c3, c4, c5, c6, c7, c8, rfl⟩ := array9 (hsz.trans hC)
  obtain ⟨fuel, hf⟩ := h
  obtain ⟨xs, n, _, hx, _, hlen, hg⟩ := DataW.trod_struct hs hf
  match xs, hlen with
  | [y0, y1, y2, y3, y4, y5, y6, y7, y8], _ =>
    simp only [Prod.mk.injEq, List.map_cons, List.map_nil, List.flatMap_cons, List.flatMap_nil, List.append_nil] at hx
    refine ⟨c0, c1, c2, c3, c4, c5, c6, c7, c8, y0, y1, y2, y3, y4, y5, y6, y7, y8, n, rfl, hx.1, hx.2, ?_, ?_, ?_, ?_, ?_, ?_, ?_, ?_, ?_⟩
    · have h0 := hg 0 f0 rfl
      obtain ⟨o0, k0⟩ := hone_of hone 0 f0 rfl
      simpa [Value.cells, o0, k0] using h0
    · have h0 := hg 1 f1 rfl
      obtain ⟨o0, k0⟩ := hone_of hone 1 f1 rfl
      simpa [Value.cells, o0, k0] using h0
    · have h0 := hg 2 f2 rfl
      obtain ⟨o0, k0⟩ := hone_of hone 2 f2 rfl
      simpa [Value.cells, o0, k0] using h0
    · have h0 := hg 3 f3 rfl
      obtain ⟨o0, k0⟩ := hone_of hone 3 f3 rfl
      simpa [Value.cells, o0, k0] using h0
    · have h0 := hg 4 f4 rfl
      obtain ⟨o0, k0⟩ := hone_of hone 4 f4 rfl
      simpa [Value.cells, o0, k0] using h0
    · have h0 := hg 5 f5 rfl
      obtain ⟨o0, k0⟩ := hone_of hone 5 f5 rfl
      simpa [Value.cells, o0, k0] using h0
    · have h0 := hg 6 f6 rfl
      obtain ⟨o0, k0⟩ := hone_of hone 6 f6 rfl
      simpa [Value.cells, o0, k0] using h0
    · have h0 := hg 7 f7 rfl
      obtain ⟨o0, k0⟩ := hone_of hone 7 f7 rfl
      simpa [Value.cells, o0, k0] using h0
    · have h0 := hg 8 f8 rfl
      obtain ⟨o0, k0⟩ := hone_of hone 8 f8 rfl
      simpa [Value.cells, o0, k0] using h0
end
variable {H : Type} {enc : TypeId × Value → H}
theorem cellsFrame : Try.prog.cellsOf 23 = 6 := by kernel_rfl
set_option maxRecDepth 100000 in
theorem open_frame {W : World} {b : Nat} {sp : Nat → Bool} {r : Reach} {B : Nat} {hd : Bool} {v : Value} {d : DataW H} {p : List MemPlace}
    (h : DataW.Trod enc Try.prog W b sp hd 23 v d p) (hv : Value.okWide Try.prog W r B 23 v) :
    ∃ (nd sl mb lk sq : Int) (t : ByteArray), v = .agg #[.int .i64 nd, .int .i64 sl, .int .i64 mb, .int .i64 lk, .int .i64 sq, .string t] ∧ t.size ≤ maxLen := by
  obtain ⟨c0, c1, c2, c3, c4, c5, y0, y1, y2, y3, y4, y5, m, rfl, rfl, rfl, hy0, hy1, hy2, hy3, hy4, hy5⟩ := open_agg6 Try.underlying23 (by kernel_rfl) cellsFrame hv h
  obtain ⟨a, e0, _, _⟩ := DataW.trod_int Try.underlying3 hy0
  obtain ⟨b, e1, _, _⟩ := DataW.trod_int Try.underlying3 hy1
  obtain ⟨c, e2, _, _⟩ := DataW.trod_int Try.underlying3 hy2
  obtain ⟨d, e3, _, _⟩ := DataW.trod_int Try.underlying3 hy3
  obtain ⟨e, e4, _, _⟩ := DataW.trod_int Try.underlying3 hy4
  obtain ⟨t, e5, _, ht⟩ := DataW.trod_string Try.underlying9 hy5
  simp at e0 e1 e2 e3 e4 e5
  subst e0 e1 e2 e3 e4 e5
  exact ⟨a, b, c, d, e, t, rfl, ht⟩
end Go.Proofs.Ytdbegdhbabfnoaa
