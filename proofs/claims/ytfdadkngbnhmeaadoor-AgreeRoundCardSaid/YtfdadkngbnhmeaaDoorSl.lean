/- Arguments that are slices of windows, slots and links, taken apart; no condition. -/
import Derived.Test.YtfdadkngbnhmeaaDoorLaw
import Derived.Test.YtfdadkngbnhmeaaDoorPwa
import Derived.Test.YtfdadkngbnhmeaaDoorCk
import Derived.Deep.Slices
namespace Go.Proofs.YtfdadkngbnhmeaaDoor
open Go.ChangeShapes Go.WideShapes Go.ChangeAt Go.RowKit Go.Deep
/-- The first n slots of a slice lie in memory. -/
def SlotsAt (W : World) (A : Option Addr) (n : Nat) (ws : List Sl) : Prop := ∀ j, j < n → ∃ b off, A = some ⟨b, off, none⟩ ∧ ∃ w, ws[j]? = some w ∧ W.cell? ⟨b, off + j * 3, none⟩ = some (.int .i64 w.n) ∧ W.cell? ⟨b, off + j * 3 + 1, none⟩ = some (.int .i64 w.f) ∧ W.cell? ⟨b, off + j * 3 + 2, none⟩ = some (.int .i64 w.t)
/-- The first n links of a slice lie in memory. -/
def LinksAt (W : World) (A : Option Addr) (n : Nat) (ws : List Lk) : Prop := ∀ j, j < n → ∃ b off, A = some ⟨b, off, none⟩ ∧ ∃ w, ws[j]? = some w ∧ W.cell? ⟨b, off + j * 4, none⟩ = some (.int .i64 w.f) ∧ W.cell? ⟨b, off + j * 4 + 1, none⟩ = some (.int .i64 w.t) ∧ W.cell? ⟨b, off + j * 4 + 2, none⟩ = some (.int .i64 w.b) ∧ W.cell? ⟨b, off + j * 4 + 3, none⟩ = some (.int .i64 w.q)
theorem SlotsAt.below {w W : World} {A : Option Addr} {n : Nat} {ws : List Sl} (h : SlotsAt w A n ws) (hB : Below w.heap.size w W) : SlotsAt W A n ws := by
  intro j hj
  obtain ⟨b, off, hA, y, hy, c0, c1, c2⟩ := h j hj
  have hb := World.block_lt_of_cell? _ _ c0
  exact ⟨b, off, hA, y, hy, (hB.cell (p := ⟨b, off + j * 3, none⟩) hb).trans c0, (hB.cell (p := ⟨b, off + j * 3 + 1, none⟩) hb).trans c1, (hB.cell (p := ⟨b, off + j * 3 + 2, none⟩) hb).trans c2⟩
theorem LinksAt.below {w W : World} {A : Option Addr} {n : Nat} {ws : List Lk} (h : LinksAt w A n ws) (hB : Below w.heap.size w W) : LinksAt W A n ws := by
  intro j hj
  obtain ⟨b, off, hA, y, hy, c0, c1, c2, c3⟩ := h j hj
  have hb := World.block_lt_of_cell? _ _ c0
  exact ⟨b, off, hA, y, hy, (hB.cell (p := ⟨b, off + j * 4, none⟩) hb).trans c0, (hB.cell (p := ⟨b, off + j * 4 + 1, none⟩) hb).trans c1, (hB.cell (p := ⟨b, off + j * 4 + 2, none⟩) hb).trans c2, (hB.cell (p := ⟨b, off + j * 4 + 3, none⟩) hb).trans c3⟩

theorem list2 {α : Type} {l : List α} (h : l.length = 2) : ∃ a b, l = [a, b] := by match l, h with | [a, b], _ => exact ⟨a, b, rfl⟩
theorem list3 {α : Type} {l : List α} (h : l.length = 3) : ∃ a b c, l = [a, b, c] := by match l, h with | [a, b, c], _ => exact ⟨a, b, c, rfl⟩
theorem list4 {α : Type} {l : List α} (h : l.length = 4) : ∃ a b c d, l = [a, b, c, d] := by match l, h with | [a, b, c, d], _ => exact ⟨a, b, c, d, rfl⟩
theorem cInt : Tryd.prog.cellsOf 3 = 1 := by kernel_rfl
theorem cSpan : Tryd.prog.cellsOf 64 = 2 := by kernel_rfl
theorem cWin : Tryd.prog.cellsOf 70 = 3 := by kernel_rfl
theorem cSlot : Tryd.prog.cellsOf 66 = 3 := by kernel_rfl
theorem cLink : Tryd.prog.cellsOf 68 = 4 := by kernel_rfl
section
variable {H : Type} {enc : TypeId × Value → H} {W : World} {b0 : Nat} {sp : Nat → Bool} {hd : Bool}
theorem trod_span {fuel : Nat} {cs : List Value} {x : DataW H × List MemPlace} (h : DataW.trod enc Tryd.prog W b0 sp hd fuel 64 cs = some x) : ∃ f t : Int, cs = [.int .i64 f, .int .i64 t] := by
  obtain ⟨xs, n, _, _, hl, hxl, hg⟩ := DataW.trod_struct Tryd.underlying64 h
  obtain ⟨c0, c1, rfl⟩ := list2 (hl.trans cSpan)
  obtain ⟨x0, x1, rfl⟩ := list2 hxl
  have g0 := hg 0 _ rfl
  have g1 := hg 1 _ rfl
  simp [cInt] at g0 g1
  obtain ⟨a, e0, _⟩ := DataW.trod_int Tryd.underlying3 g0
  obtain ⟨b, e1, _⟩ := DataW.trod_int Tryd.underlying3 g1
  simp at e0 e1
  exact ⟨a, b, by rw [e0, e1]⟩
theorem trod_win {fuel : Nat} {cs : List Value} {x : DataW H × List MemPlace} (h : DataW.trod enc Tryd.prog W b0 sp hd fuel 70 cs = some x) : ∃ p f t : Int, cs = [.int .i64 p, .int .i64 f, .int .i64 t] := by
  obtain ⟨xs, n, _, _, hl, hxl, hg⟩ := DataW.trod_struct Tryd.underlying70 h
  obtain ⟨c0, c1, c2, rfl⟩ := list3 (hl.trans cWin)
  obtain ⟨x0, x1, rfl⟩ := list2 hxl
  have g0 := hg 0 _ rfl
  have g1 := hg 1 _ rfl
  simp [cInt, cSpan] at g0 g1
  obtain ⟨a, e0, _⟩ := DataW.trod_int Tryd.underlying3 g0
  obtain ⟨b, c, e1⟩ := trod_span g1
  simp at e0 e1
  exact ⟨a, b, c, by rw [e0, e1.1, e1.2]⟩
theorem trod_slot {fuel : Nat} {cs : List Value} {x : DataW H × List MemPlace} (h : DataW.trod enc Tryd.prog W b0 sp hd fuel 66 cs = some x) : ∃ p f t : Int, cs = [.int .i64 p, .int .i64 f, .int .i64 t] := by
  obtain ⟨xs, n, _, _, hl, hxl, hg⟩ := DataW.trod_struct Tryd.underlying66 h
  obtain ⟨c0, c1, c2, rfl⟩ := list3 (hl.trans cSlot)
  obtain ⟨x0, x1, rfl⟩ := list2 hxl
  have g0 := hg 0 _ rfl
  have g1 := hg 1 _ rfl
  simp [cInt, cSpan] at g0 g1
  obtain ⟨a, e0, _⟩ := DataW.trod_int Tryd.underlying3 g0
  obtain ⟨b, c, e1⟩ := trod_span g1
  simp at e0 e1
  exact ⟨a, b, c, by rw [e0, e1.1, e1.2]⟩
theorem trod_link {fuel : Nat} {cs : List Value} {x : DataW H × List MemPlace} (h : DataW.trod enc Tryd.prog W b0 sp hd fuel 68 cs = some x) : ∃ p f t q : Int, cs = [.int .i64 p, .int .i64 f, .int .i64 t, .int .i64 q] := by
  obtain ⟨xs, n, _, _, hl, hxl, hg⟩ := DataW.trod_struct Tryd.underlying68 h
  obtain ⟨c0, c1, c2, c3, rfl⟩ := list4 (hl.trans cLink)
  obtain ⟨x0, x1, x2, x3, rfl⟩ := list4 hxl
  have g0 := hg 0 _ rfl
  have g1 := hg 1 _ rfl
  have g2 := hg 2 _ rfl
  have g3 := hg 3 _ rfl
  simp [cInt] at g0 g1 g2 g3
  obtain ⟨a, e0, _⟩ := DataW.trod_int Tryd.underlying3 g0
  obtain ⟨b, e1, _⟩ := DataW.trod_int Tryd.underlying3 g1
  obtain ⟨c, e2, _⟩ := DataW.trod_int Tryd.underlying3 g2
  obtain ⟨d, e3, _⟩ := DataW.trod_int Tryd.underlying3 g3
  simp at e0 e1 e2 e3
  exact ⟨a, b, c, d, by rw [e0, e1, e2, e3]⟩

/-- Rows of a slice's cells, whatever each row's form. -/
theorem open_rows {t e : TypeId} {sz : Nat} {fuel : Nat} {v : Value} {x : DataW H × List MemPlace} {α : Type} [Inhabited α] (cellsA : α → List Value) (ht : Tryd.prog.underlying t = some (.slice e)) (hsz : Tryd.prog.cellsOf e = sz) (hpos : 0 < sz)
    (he : ∀ (fuel : Nat) (cs : List Value) (y : DataW H × List MemPlace), DataW.trod enc Tryd.prog W b0 (fun _ => true) hd fuel e cs = some y → ∃ a : α, cs = cellsA a)
    (hc : ∀ a : α, (cellsA a).length = sz)
    (h : DataW.trod enc Tryd.prog W b0 (fun _ => true) hd fuel t [v] = some x) :
    ∃ (A : Option Addr) (len cap : Nat) (l : List α), v = .slice A len cap ∧ len ≤ cap ∧ cap ≤ maxLen ∧ l.length = len ∧ ∀ j, j < len → ∃ b off, A = some ⟨b, off, none⟩ ∧ ∃ a, l[j]? = some a ∧ ∀ i, i < sz → W.cell? ⟨b, off + j * sz + i, none⟩ = (cellsA a)[i]? := by
  rcases open_slice ht h with ⟨h0, _⟩ | ⟨a, len, cap, m, n, D, Pl, hcs, _, hl, hm, hmm, _, hi⟩
  · simp at h0
    exact ⟨none, 0, 0, [], h0, Nat.le_refl _, by simp [maxLen], rfl, fun j hj => by omega⟩
  · simp at hcs
    have hlm : len ≤ m := by rw [hmm]; simpa using hl
    clear hmm
    have hrow : ∀ j, j < len → ∃ r : α, ∀ i, i < sz → W.cell? (a.add (j * sz + i)) = (cellsA r)[i]? := by
      intro j hj
      obtain ⟨cs', hc', ht'⟩ := hi j (by omega)
      obtain ⟨r, hr⟩ := he n cs' _ ht'
      subst hr
      rw [hsz] at hc'
      obtain ⟨_, _, hat⟩ := World.cells?_some hc'
      exact ⟨r, fun i hi2 => by rw [← add_add]; exact hat i hi2⟩
    obtain ⟨F, hF⟩ := choose_lt hrow
    refine ⟨some a, len, cap, (List.range len).map F, hcs, hl, hm, by simp, fun j hj => ?_⟩
    obtain ⟨b, off, spot⟩ := a
    have hcell := hF 0 (by omega) 0 hpos
    have h1 : ((cellsA (F 0))[0]?).isSome = true := by
      rw [List.getElem?_eq_getElem (by rw [hc]; exact hpos)]; rfl
    obtain ⟨u, hu⟩ := Option.isSome_iff_exists.1 h1
    rw [hu] at hcell
    have hspot : spot = none := by simpa [Addr.add] using World.cell?_spot hcell
    subst hspot
    refine ⟨b, off, rfl, F j, by simp [hj], fun i hi2 => ?_⟩
    rw [← hF j hj i hi2, Go.WideShapes.add_plain, Nat.add_assoc]

theorem open_wins {t0 fuel : Nat} {v : Value} {x : DataW H × List MemPlace} (ht : t0 = 25) (h : DataW.trod enc Tryd.prog W b0 (fun _ => true) hd fuel t0 [v] = some x) :
    ∃ (A : Option Addr) (len cap : Nat) (l : List Wn), v = .slice A len cap ∧ len ≤ cap ∧ cap ≤ maxLen ∧ l.length = len ∧ WinsAt W A len l := by
  subst ht
  haveI : Inhabited Wn := ⟨⟨0, 0, 0⟩⟩
  obtain ⟨A, len, cap, l, e1, e2, e3, e4, e5⟩ := open_rows (fun w : Wn => [.int .i64 w.p, .int .i64 w.f, .int .i64 w.t]) Tryd.underlying25 cWin (by decide) (fun fuel cs y hy => by obtain ⟨p, f, t, e⟩ := trod_win hy; exact ⟨⟨p, f, t⟩, e⟩) (fun _ => rfl) h
  refine ⟨A, len, cap, l, e1, e2, e3, e4, fun j hj => ?_⟩
  obtain ⟨b, off, hA, a, ha, hcell⟩ := e5 j hj
  exact ⟨b, off, hA, a, ha, hcell 0 (by decide), hcell 1 (by decide), hcell 2 (by decide)⟩
theorem open_slots {t0 fuel : Nat} {v : Value} {x : DataW H × List MemPlace} (ht : t0 = 23) (h : DataW.trod enc Tryd.prog W b0 (fun _ => true) hd fuel t0 [v] = some x) :
    ∃ (A : Option Addr) (len cap : Nat) (l : List Sl), v = .slice A len cap ∧ len ≤ cap ∧ cap ≤ maxLen ∧ l.length = len ∧ SlotsAt W A len l := by
  subst ht
  haveI : Inhabited Sl := ⟨⟨0, 0, 0⟩⟩
  obtain ⟨A, len, cap, l, e1, e2, e3, e4, e5⟩ := open_rows (fun w : Sl => [.int .i64 w.n, .int .i64 w.f, .int .i64 w.t]) Tryd.underlying23 cSlot (by decide) (fun fuel cs y hy => by obtain ⟨p, f, t, e⟩ := trod_slot hy; exact ⟨⟨p, f, t⟩, e⟩) (fun _ => rfl) h
  refine ⟨A, len, cap, l, e1, e2, e3, e4, fun j hj => ?_⟩
  obtain ⟨b, off, hA, a, ha, hcell⟩ := e5 j hj
  exact ⟨b, off, hA, a, ha, hcell 0 (by decide), hcell 1 (by decide), hcell 2 (by decide)⟩
theorem open_links {t0 fuel : Nat} {v : Value} {x : DataW H × List MemPlace} (ht : t0 = 24) (h : DataW.trod enc Tryd.prog W b0 (fun _ => true) hd fuel t0 [v] = some x) :
    ∃ (A : Option Addr) (len cap : Nat) (l : List Lk), v = .slice A len cap ∧ len ≤ cap ∧ cap ≤ maxLen ∧ l.length = len ∧ LinksAt W A len l := by
  subst ht
  haveI : Inhabited Lk := ⟨⟨0, 0, 0, 0⟩⟩
  obtain ⟨A, len, cap, l, e1, e2, e3, e4, e5⟩ := open_rows (fun w : Lk => [.int .i64 w.f, .int .i64 w.t, .int .i64 w.b, .int .i64 w.q]) Tryd.underlying24 cLink (by decide) (fun fuel cs y hy => by obtain ⟨p, f, t, q, e⟩ := trod_link hy; exact ⟨⟨p, f, t, q⟩, e⟩) (fun _ => rfl) h
  refine ⟨A, len, cap, l, e1, e2, e3, e4, fun j hj => ?_⟩
  obtain ⟨b, off, hA, a, ha, hcell⟩ := e5 j hj
  exact ⟨b, off, hA, a, ha, hcell 0 (by decide), hcell 1 (by decide), hcell 2 (by decide), hcell 3 (by decide)⟩
set_option maxRecDepth 100000 in
/-- A slice of windows, as an argument. -/
theorem open_winsT {v : Value} {d : DataW H} {p : List MemPlace} {r : Reach} {B : Nat} (h : DataW.Trod enc Tryd.prog W b0 (fun _ => true) hd 25 v d p) (hv : Value.okWide Tryd.prog W r B 25 v) :
    ∃ (A : Option Addr) (len cap : Nat) (l : List Wn), v = .slice A len cap ∧ len ≤ cap ∧ cap ≤ maxLen ∧ l.length = len ∧ WinsAt W A len l := by
  obtain ⟨a0, len, cap, rfl⟩ := okWide_slice Tryd.underlying25 hv
  obtain ⟨fuel, hf⟩ := h
  exact open_wins rfl hf
end
end Go.Proofs.YtfdadkngbnhmeaaDoor
