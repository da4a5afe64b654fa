/- Arguments that are slices of structs of two numbers and a text, or of three numbers, taken apart; no condition. -/
import Derived.Test.YtgdljdhibknjnabDoorLaw
import Derived.Test.YtgdljdhibknjnabDoorSl
import Derived.Deep.Slices
namespace Go.Proofs.YtgdljdhibknjnabDoor
open Go.ChangeShapes Go.WideShapes Go.ChangeAt Go.RowKit Go.Deep
/-- What is asked: of which kind, a number, a text. -/
structure Ask where
  k : Int
  n : Int
  d : ByteArray
instance : Inhabited Ask := ⟨⟨0, 0, ⟨#[]⟩⟩⟩
/-- The first n of a slice lie in memory. -/
def AsksAt (W : World) (A : Option Addr) (n : Nat) (ws : List Ask) : Prop := ∀ j, j < n → ∃ b off, A = some ⟨b, off, none⟩ ∧ ∃ w, ws[j]? = some w ∧ w.d.size ≤ maxLen ∧ W.cell? ⟨b, off + j * 3, none⟩ = some (.int .i64 w.k) ∧ W.cell? ⟨b, off + j * 3 + 1, none⟩ = some (.int .i64 w.n) ∧ W.cell? ⟨b, off + j * 3 + 2, none⟩ = some (.string w.d)
theorem AsksAt.below {w W : World} {A : Option Addr} {n : Nat} {ws : List Ask} (h : AsksAt w A n ws) (hB : Below w.heap.size w W) : AsksAt W A n ws := by
  intro j hj
  obtain ⟨b, off, hA, y, hy, hd, c0, c1, c2⟩ := h j hj
  have hb := World.block_lt_of_cell? _ _ c0
  exact ⟨b, off, hA, y, hy, hd, (hB.cell (p := ⟨b, off + j * 3, none⟩) hb).trans c0, (hB.cell (p := ⟨b, off + j * 3 + 1, none⟩) hb).trans c1, (hB.cell (p := ⟨b, off + j * 3 + 2, none⟩) hb).trans c2⟩
section
variable {H : Type} {enc : TypeId × Value → H} {W : World} {b0 : Nat} {sp : Nat → Bool} {hd : Bool}
theorem trod_iis {t0 fuel : Nat} {cs : List Value} {x : DataW H × List MemPlace} {f0 f1 f2 : Field} (hs : Tryd.prog.underlying t0 = some (.struct #[f0, f1, f2])) (hC : Tryd.prog.cellsOf t0 = 3) (h0 : f0.type = 3 ∧ f0.offset = 0) (h1 : f1.type = 3 ∧ f1.offset = 1) (h2 : f2.type = 9 ∧ f2.offset = 2)
    (h : DataW.trod enc Tryd.prog W b0 sp hd fuel t0 cs = some x) : ∃ (a b : Int) (s : ByteArray), cs = [.int .i64 a, .int .i64 b, .string s] ∧ s.size ≤ maxLen := by
  have cStr : Tryd.prog.cellsOf 9 = 1 := by kernel_rfl
  obtain ⟨xs, n, _, _, hl, hxl, hg⟩ := DataW.trod_struct hs h
  obtain ⟨c0, c1, c2, rfl⟩ := list3 (hl.trans hC)
  obtain ⟨x0, x1, x2, rfl⟩ := list3 hxl
  have g0 := hg 0 _ rfl
  have g1 := hg 1 _ rfl
  have g2 := hg 2 _ rfl
  simp [cInt, cStr, h0.1, h0.2, h1.1, h1.2, h2.1, h2.2] at g0 g1 g2
  obtain ⟨a, e0, _⟩ := DataW.trod_int Tryd.underlying3 g0
  obtain ⟨b, e1, _⟩ := DataW.trod_int Tryd.underlying3 g1
  obtain ⟨s, e2, _, hs⟩ := DataW.trod_string Tryd.underlying9 g2
  simp at e0 e1 e2
  exact ⟨a, b, s, by rw [e0, e1, e2], hs⟩
theorem trod_iii {t0 fuel : Nat} {cs : List Value} {x : DataW H × List MemPlace} {f0 f1 f2 : Field} (hs : Tryd.prog.underlying t0 = some (.struct #[f0, f1, f2])) (hC : Tryd.prog.cellsOf t0 = 3) (h0 : f0.type = 3 ∧ f0.offset = 0) (h1 : f1.type = 3 ∧ f1.offset = 1) (h2 : f2.type = 3 ∧ f2.offset = 2)
    (h : DataW.trod enc Tryd.prog W b0 sp hd fuel t0 cs = some x) : ∃ (a b c : Int), cs = [.int .i64 a, .int .i64 b, .int .i64 c] := by
  obtain ⟨xs, n, _, _, hl, hxl, hg⟩ := DataW.trod_struct hs h
  obtain ⟨c0, c1, c2, rfl⟩ := list3 (hl.trans hC)
  obtain ⟨x0, x1, x2, rfl⟩ := list3 hxl
  have g0 := hg 0 _ rfl
  have g1 := hg 1 _ rfl
  have g2 := hg 2 _ rfl
  simp [cInt, h0.1, h0.2, h1.1, h1.2, h2.1, h2.2] at g0 g1 g2
  obtain ⟨a, e0, _⟩ := DataW.trod_int Tryd.underlying3 g0
  obtain ⟨b, e1, _⟩ := DataW.trod_int Tryd.underlying3 g1
  obtain ⟨c, e2, _⟩ := DataW.trod_int Tryd.underlying3 g2
  simp at e0 e1 e2
  exact ⟨a, b, c, by rw [e0, e1, e2]⟩
set_option maxRecDepth 100000 in
/-- A slice of such, as an argument: two numbers and a text. -/
theorem open_asks {t e : TypeId} {f0 f1 f2 : Field} {v : Value} {d : DataW H} {p : List MemPlace} {r : Reach} {B : Nat} (ht : Tryd.prog.underlying t = some (.slice e)) (hs : Tryd.prog.underlying e = some (.struct #[f0, f1, f2])) (hC : Tryd.prog.cellsOf e = 3) (h0 : f0.type = 3 ∧ f0.offset = 0) (h1 : f1.type = 3 ∧ f1.offset = 1) (h2 : f2.type = 9 ∧ f2.offset = 2)
    (h : DataW.Trod enc Tryd.prog W b0 (fun _ => true) hd t v d p) (hv : Value.okWide Tryd.prog W r B t v) :
    ∃ (A : Option Addr) (len cap : Nat) (l : List Ask), v = .slice A len cap ∧ len ≤ cap ∧ cap ≤ maxLen ∧ l.length = len ∧ AsksAt W A len l := by
  obtain ⟨a0, len, cap, rfl⟩ := okWide_slice ht hv
  obtain ⟨fuel, hf⟩ := h
  haveI : Inhabited { a : Ask // a.d.size ≤ maxLen } := ⟨⟨⟨0, 0, ⟨#[]⟩⟩, by simp [ByteArray.size]⟩⟩
  obtain ⟨A, len, cap, l, e1, e2, e3, e4, e5⟩ := open_rows (fun w : { a : Ask // a.d.size ≤ maxLen } => [.int .i64 w.1.k, .int .i64 w.1.n, .string w.1.d]) ht hC (by decide) (fun fuel cs y hy => by obtain ⟨a, b, s, e, hs⟩ := trod_iis hs hC h0 h1 h2 hy; exact ⟨⟨⟨a, b, s⟩, hs⟩, e⟩) (fun _ => rfl) hf
  refine ⟨A, len, cap, l.map (·.1), e1, e2, e3, by simpa using e4, fun j hj => ?_⟩
  obtain ⟨b, off, hA, a, ha, hcell⟩ := e5 j hj
  exact ⟨b, off, hA, a.1, by simp [ha], a.2, hcell 0 (by decide), hcell 1 (by decide), hcell 2 (by decide)⟩
set_option maxRecDepth 100000 in
/-- Three numbers. -/
theorem open_iiis {t e : TypeId} {f0 f1 f2 : Field} {v : Value} {d : DataW H} {p : List MemPlace} {r : Reach} {B : Nat} (ht : Tryd.prog.underlying t = some (.slice e)) (hs : Tryd.prog.underlying e = some (.struct #[f0, f1, f2])) (hC : Tryd.prog.cellsOf e = 3) (h0 : f0.type = 3 ∧ f0.offset = 0) (h1 : f1.type = 3 ∧ f1.offset = 1) (h2 : f2.type = 3 ∧ f2.offset = 2)
    (h : DataW.Trod enc Tryd.prog W b0 (fun _ => true) hd t v d p) (hv : Value.okWide Tryd.prog W r B t v) :
    ∃ (A : Option Addr) (len cap : Nat) (l : List Wn), v = .slice A len cap ∧ len ≤ cap ∧ cap ≤ maxLen ∧ l.length = len ∧ WinsAt W A len l := by
  obtain ⟨a0, len, cap, rfl⟩ := okWide_slice ht hv
  obtain ⟨fuel, hf⟩ := h
  haveI : Inhabited Wn := ⟨⟨0, 0, 0⟩⟩
  obtain ⟨A, len, cap, l, e1, e2, e3, e4, e5⟩ := open_rows (fun w : Wn => [.int .i64 w.p, .int .i64 w.f, .int .i64 w.t]) ht hC (by decide) (fun fuel cs y hy => by obtain ⟨a, b, c, e⟩ := trod_iii hs hC h0 h1 h2 hy; exact ⟨⟨a, b, c⟩, e⟩) (fun _ => rfl) hf
  refine ⟨A, len, cap, l, e1, e2, e3, e4, fun j hj => ?_⟩
  obtain ⟨b, off, hA, a, ha, hcell⟩ := e5 j hj
  exact ⟨b, off, hA, a, ha, hcell 0 (by decide), hcell 1 (by decide), hcell 2 (by decide)⟩
end
end Go.Proofs.YtgdljdhibknjnabDoor
