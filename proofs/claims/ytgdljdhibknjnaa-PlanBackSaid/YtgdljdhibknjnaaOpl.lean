/- Arguments that are plans, taken apart; no condition. -/
import Derived.Test.YtgdljdhibknjnaaSl
import Derived.Test.YtgdljdhibknjnaaOpen
import Derived.Test.YtgdljdhibknjnaaOpensp
import Derived.Test.YtgdljdhibknjnaaGo
import Derived.Lib.SmallJoins
namespace Go.Proofs.Ytgdljdhibknjnaa
open Go.ChangeShapes Go.WideShapes Go.ChangeAt Go.RowKit Go.Joins Go.Deep Go.WideElems Go.Maps
section
variable {H : Type} {enc : TypeId × Value → H} {P : Program} {w : World} {base : Nat} {spare : Nat → Bool} {held : Bool}
theorem array10 {α : Type} {cs : Array α} (h : cs.size = 10) : ∃ c0 c1 c2 c3 c4 c5 c6 c7 c8 c9, cs = #[c0, c1, c2, c3, c4, c5, c6, c7, c8, c9] := by
  obtain ⟨l⟩ := cs
  match l, h with
  | [c0, c1, c2, c3, c4, c5, c6, c7, c8, c9], _ => exact ⟨c0, c1, c2, c3, c4, c5, c6, c7, c8, c9, rfl⟩
theorem open_agg10 {r : Reach} {b0 : Nat} {t : TypeId} {f0 f1 f2 f3 f4 f5 f6 f7 f8 f9 : Field} {v : Value} {d : DataW H} {p : List MemPlace} (hs : P.underlying t = some (.struct #[f0, f1, f2, f3, f4, f5, f6, f7, f8, f9])) (hone : oneCellFields P #[f0, f1, f2, f3, f4, f5, f6, f7, f8, f9] = true) (hC : P.cellsOf t = 10)
    (hv : Value.okWide P w r b0 t v) (h : DataW.Trod enc P w base spare held t v d p) :
    ∃ (v0 v1 v2 v3 v4 v5 v6 v7 v8 v9 : Value) (y0 y1 y2 y3 y4 y5 y6 y7 y8 y9 : DataW H × List MemPlace) (n : Nat), v = .agg #[v0, v1, v2, v3, v4, v5, v6, v7, v8, v9] ∧ d = .agg [y0.1, y1.1, y2.1, y3.1, y4.1, y5.1, y6.1, y7.1, y8.1, y9.1] ∧ p = y0.2 ++ (y1.2 ++ (y2.2 ++ (y3.2 ++ (y4.2 ++ (y5.2 ++ (y6.2 ++ (y7.2 ++ (y8.2 ++ y9.2)))))))) ∧
      DataW.trod enc P w base spare held n f0.type [v0] = some y0 ∧ DataW.trod enc P w base spare held n f1.type [v1] = some y1 ∧ DataW.trod enc P w base spare held n f2.type [v2] = some y2 ∧ DataW.trod enc P w base spare held n f3.type [v3] = some y3 ∧ DataW.trod enc P w base spare held n f4.type [v4] = some y4 ∧ DataW.trod enc P w base spare held n f5.type [v5] = some y5 ∧ DataW.trod enc P w base spare held n f6.type [v6] = some y6 ∧ DataW.trod enc P w base spare held n f7.type [v7] = some y7 ∧ DataW.trod enc P w base spare held n f8.type [v8] = some y8 ∧ DataW.trod enc P w base spare held n f9.type [v9] = some y9 := by
  obtain ⟨cs, rfl, hsz⟩ := okWide_struct hs hv
  obtain ⟨c0, c1, c2, c3, c4, c5, c6, c7, c8, c9, rfl⟩ := array10 (hsz.trans hC)
  obtain ⟨fuel, hf⟩ := h
  obtain ⟨xs, n, _, hx, _, hlen, hg⟩ := DataW.trod_struct hs hf
  match xs, hlen with
  | [y0, y1, y2, y3, y4, y5, y6, y7, y8, y9], _ =>
    simp only [Prod.mk.injEq, List.map_cons, List.map_nil, List.flatMap_cons, List.flatMap_nil, List.append_nil] at hx
    refine ⟨c0, c1, c2, c3, c4, c5, c6, c7, c8, c9, y0, y1, y2, y3, y4, y5, y6, y7, y8, y9, n, rfl, hx.1, hx.2, ?_, ?_, ?_, ?_, ?_, ?_, ?_, ?_, ?_, ?_⟩
    · have h0 := hg 0 f0 rfl
      obtain ⟨o0, k0⟩ := hone_of hone 0 f0 rfl
      simpa [Value.cells, o0, k0] using h0
    · have h0 := hg 1 f1 rfl
      obtain ⟨o0, k0⟩ := hone_of hone 1 f1 rfl
      simpa [Value.cells, o0, k0] using h0
    · have h0 := hg 2 f2 rfl
      obtain ⟨o0, k0⟩ := hone_of hone 2 f2 rfl
      simpa [Value.cells, o0, k0] using h0
    · have h0 := hg 3 f3 rfl
      obtain ⟨o0, k0⟩ := hone_of hone 3 f3 rfl
      simpa [Value.cells, o0, k0] using h0
    · have h0 := hg 4 f4 rfl
      obtain ⟨o0, k0⟩ := hone_of hone 4 f4 rfl
      simpa [Value.cells, o0, k0] using h0
    · have h0 := hg 5 f5 rfl
      obtain ⟨o0, k0⟩ := hone_of hone 5 f5 rfl
      simpa [Value.cells, o0, k0] using h0
    · have h0 := hg 6 f6 rfl
      obtain ⟨o0, k0⟩ := hone_of hone 6 f6 rfl
      simpa [Value.cells, o0, k0] using h0
    · have h0 := hg 7 f7 rfl
      obtain ⟨o0, k0⟩ := hone_of hone 7 f7 rfl
      simpa [Value.cells, o0, k0] using h0
    · have h0 := hg 8 f8 rfl
      obtain ⟨o0, k0⟩ := hone_of hone 8 f8 rfl
      simpa [Value.cells, o0, k0] using h0
    · have h0 := hg 9 f9 rfl
      obtain ⟨o0, k0⟩ := hone_of hone 9 f9 rfl
      simpa [Value.cells, o0, k0] using h0
end
variable {H : Type} {enc : TypeId × Value → H}
/-- A number of 64 bits. -/
def i64b (z : Int) : Prop := -9223372036854775808 ≤ z ∧ z ≤ 9223372036854775807
theorem wf64 {n : Int} (h : (Lit.int .i64 n).wf = true) : i64b n := by
  simp only [Lit.wf, Bool.and_eq_true, decide_eq_true_eq] at h
  exact ⟨h.1, h.2⟩
theorem cellsPlan : Try.prog.cellsOf 86 = 10 := by kernel_rfl
set_option maxRecDepth 100000 in
set_option maxHeartbeats 1000000 in
/-- A plan, as an argument. -/
theorem open_plan {W : World} {r : Reach} {B : Nat} {hd : Bool} {v : Value} {d : DataW H} {p : List MemPlace}
    (h : DataW.Trod enc Try.prog W B (fun _ => true) hd 86 v d p) {B2 : Nat} (hv : Value.okWide Try.prog W r B2 86 v) :
    ∃ (nd fa sk ji dr R : Int) (A : Option Addr) (len c : Nat) (sl : List Sl) (AL : Option Addr) (ll cl : Nat) (lk : List Lk) (fr : Int) (AQ : Option Addr) (lq cq : Nat) (wn : List Wn),
      v = .agg (planC nd fa sk ji dr R (.slice A len c) (.slice AL ll cl) fr (.slice AQ lq cq)) ∧ sl.length = len ∧ SlotsAt W A len sl ∧ lk.length = ll ∧ LinksAt W AL ll lk ∧ wn.length = lq ∧ WinsAt W AQ lq wn ∧ len ≤ maxLen ∧ ll ≤ maxLen ∧ lq ≤ maxLen ∧
      i64b nd ∧ i64b fa ∧ i64b sk ∧ i64b ji ∧ i64b dr ∧ i64b R ∧ i64b fr := by
  obtain ⟨c0, c1, c2, c3, c4, c5, c6, c7, c8, c9, y0, y1, y2, y3, y4, y5, y6, y7, y8, y9, m, rfl, rfl, rfl, hy0, hy1, hy2, hy3, hy4, hy5, hy6, hy7, hy8, hy9⟩ := open_agg10 Try.underlying86 (by kernel_rfl) cellsPlan hv h
  obtain ⟨a, e0, _, b0⟩ := DataW.trod_int Try.underlying3 hy0
  obtain ⟨b, e1, _, b1⟩ := DataW.trod_int Try.underlying3 hy1
  obtain ⟨c, e2, _, b2⟩ := DataW.trod_int Try.underlying3 hy2
  obtain ⟨d, e3, _, b3⟩ := DataW.trod_int Try.underlying3 hy3
  obtain ⟨e, e4, _, b4⟩ := DataW.trod_int Try.underlying3 hy4
  obtain ⟨f, e5, _, b5⟩ := DataW.trod_int Try.underlying3 hy5
  obtain ⟨A, len, cp, sl, e6, s1, s2, s3, s4⟩ := open_slots rfl hy6
  obtain ⟨AL, ll, cl, lk, e7, l1, l2, l3, l4⟩ := open_links rfl hy7
  obtain ⟨g, e8, _, b8⟩ := DataW.trod_int Try.underlying3 hy8
  obtain ⟨AQ, lq, cq, wn, e9, q1, q2, q3, q4⟩ := open_wins rfl hy9
  simp at e0 e1 e2 e3 e4 e5 e8
  subst e0 e1 e2 e3 e4 e5 e6 e7 e8 e9
  refine ⟨a, b, c, d, e, f, A, len, cp, sl, AL, ll, cl, lk, g, AQ, lq, cq, wn, rfl, s3, s4, l3, l4, q3, q4, by omega, by omega, by omega, wf64 b0, wf64 b1, wf64 b2, wf64 b3, wf64 b4, wf64 b5, wf64 b8⟩
end Go.Proofs.Ytgdljdhibknjnaa
