/- What is heard, as an argument taken apart: three numbers, the last of 64 bits; no condition. -/
import Derived.Test.YtgdljdhibknjnabDoorOx
namespace Go.Proofs.YtgdljdhibknjnabDoor
open Go.ChangeShapes Go.WideShapes Go.ChangeAt Go.RowKit Go.Deep
theorem wf64b {n : Int} (h : (Lit.int .i64 n).wf = true) : -9223372036854775808 ≤ n ∧ n ≤ 9223372036854775807 := by
  simp only [Lit.wf, Bool.and_eq_true, decide_eq_true_eq] at h
  exact ⟨h.1, h.2⟩
def HeardsAt (W : World) (A : Option Addr) (n : Nat) (ws : List Wn) : Prop := ∀ j, j < n → ∃ b off, A = some ⟨b, off, none⟩ ∧ ∃ w : Wn, ws[j]? = some w ∧ (-9223372036854775808 ≤ w.t ∧ w.t ≤ 9223372036854775807) ∧ W.cell? ⟨b, off + j * 3, none⟩ = some (.int .i64 w.p) ∧ W.cell? ⟨b, off + j * 3 + 1, none⟩ = some (.int .i64 w.f) ∧ W.cell? ⟨b, off + j * 3 + 2, none⟩ = some (.int .i64 w.t)
theorem HeardsAt.below {w W : World} {A : Option Addr} {n : Nat} {ws : List Wn} (h : HeardsAt w A n ws) (hB : Below w.heap.size w W) : HeardsAt W A n ws := by
  intro j hj
  obtain ⟨b, off, hA, y, hy, hd, c0, c1, c2⟩ := h j hj
  have hb := World.block_lt_of_cell? _ _ c0
  exact ⟨b, off, hA, y, hy, hd, (hB.cell (p := ⟨b, off + j * 3, none⟩) hb).trans c0, (hB.cell (p := ⟨b, off + j * 3 + 1, none⟩) hb).trans c1, (hB.cell (p := ⟨b, off + j * 3 + 2, none⟩) hb).trans c2⟩
section
variable {H : Type} {enc : TypeId × Value → H} {W : World} {b0 : Nat} {sp : Nat → Bool} {hd : Bool}
theorem trod_iiw {t0 fuel : Nat} {cs : List Value} {x : DataW H × List MemPlace} {f0 f1 f2 : Field} (hs : Tryd.prog.underlying t0 = some (.struct #[f0, f1, f2])) (hC : Tryd.prog.cellsOf t0 = 3) (h0 : f0.type = 3 ∧ f0.offset = 0) (h1 : f1.type = 3 ∧ f1.offset = 1) (h2 : f2.type = 3 ∧ f2.offset = 2)
    (h : DataW.trod enc Tryd.prog W b0 sp hd fuel t0 cs = some x) : ∃ (a b c : Int), cs = [.int .i64 a, .int .i64 b, .int .i64 c] ∧ -9223372036854775808 ≤ c ∧ c ≤ 9223372036854775807 := by
  obtain ⟨xs, n, _, _, hl, hxl, hg⟩ := DataW.trod_struct hs h
  obtain ⟨c0, c1, c2, rfl⟩ := list3 (hl.trans hC)
  obtain ⟨x0, x1, x2, rfl⟩ := list3 hxl
  have g0 := hg 0 _ rfl
  have g1 := hg 1 _ rfl
  have g2 := hg 2 _ rfl
  simp [cInt, h0.1, h0.2, h1.1, h1.2, h2.1, h2.2] at g0 g1 g2
  obtain ⟨a, e0, _⟩ := DataW.trod_int Tryd.underlying3 g0
  obtain ⟨b, e1, _⟩ := DataW.trod_int Tryd.underlying3 g1
  obtain ⟨c, e2, _, hw⟩ := DataW.trod_int Tryd.underlying3 g2
  simp at e0 e1 e2
  exact ⟨a, b, c, by rw [e0, e1, e2], (wf64b hw).1, (wf64b hw).2⟩
set_option maxRecDepth 100000 in
theorem open_heards {t e : TypeId} {f0 f1 f2 : Field} {v : Value} {d : DataW H} {p : List MemPlace} {r : Reach} {B : Nat} (ht : Tryd.prog.underlying t = some (.slice e)) (hs : Tryd.prog.underlying e = some (.struct #[f0, f1, f2])) (hC : Tryd.prog.cellsOf e = 3) (h0 : f0.type = 3 ∧ f0.offset = 0) (h1 : f1.type = 3 ∧ f1.offset = 1) (h2 : f2.type = 3 ∧ f2.offset = 2)
    (h : DataW.Trod enc Tryd.prog W b0 (fun _ => true) hd t v d p) (hv : Value.okWide Tryd.prog W r B t v) :
    ∃ (A : Option Addr) (len cap : Nat) (l : List Wn), v = .slice A len cap ∧ len ≤ cap ∧ cap ≤ maxLen ∧ l.length = len ∧ HeardsAt W A len l := by
  obtain ⟨a0, len, cap, rfl⟩ := okWide_slice ht hv
  obtain ⟨fuel, hf⟩ := h
  haveI : Inhabited { a : Wn // -9223372036854775808 ≤ a.t ∧ a.t ≤ 9223372036854775807 } := ⟨⟨⟨0, 0, 0⟩, by decide⟩⟩
  obtain ⟨A, len, cap, l, e1, e2, e3, e4, e5⟩ := open_rows (fun w : { a : Wn // -9223372036854775808 ≤ a.t ∧ a.t ≤ 9223372036854775807 } => [.int .i64 w.1.p, .int .i64 w.1.f, .int .i64 w.1.t]) ht hC (by decide) (fun fuel cs y hy => by obtain ⟨a, b, c, e, hw1, hw2⟩ := trod_iiw hs hC h0 h1 h2 hy; exact ⟨⟨⟨a, b, c⟩, ⟨hw1, hw2⟩⟩, e⟩) (fun _ => rfl) hf
  refine ⟨A, len, cap, l.map (·.1), e1, e2, e3, by simpa using e4, fun j hj => ?_⟩
  obtain ⟨b, off, hA, a, ha, hcell⟩ := e5 j hj
  exact ⟨b, off, hA, a.1, by simp [ha], a.2, hcell 0 (by decide), hcell 1 (by decide), hcell 2 (by decide)⟩
end
end Go.Proofs.YtgdljdhibknjnabDoor
