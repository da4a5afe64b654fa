/- Arguments that are slices of rounds, and of what holds a round, taken apart; no condition. -/
import Derived.Test.YtdogdlnaacimpaaGreatDoorP02
import Derived.Test.YtdogdlnaacimpaaGreatDoorP21
import Derived.Test.YtdogdlnaacimpaaGreatDoorP41
import Derived.Test.YtdogdlnaacimpaaGreatDoorP19
import Derived.Test.YtdogdlnaacimpaaGreatDoorP23
import Derived.SizedLaws
import Derived.Test.YtdogdlnaacimpaaGreatDoorCards
import Derived.Test.YtdogdlnaacimpaaGreatDoorTie
import Derived.SevenTiedAt
import Derived.ChangeVars
import Derived.JoinedOf
import Derived.RowKit
import Derived.RowKitTokens
import Derived.LaidLaws
import Derived.LaidHandle
import Derived.Stop.Joined
import Derived.Lib.SmallJoins
set_option linter.unusedVariables false
set_option linter.unusedSimpArgs false
namespace Go.Proofs.YtdogdlnaacimpaaGreatDoor
section
open Go Go.ChangeShapes Go.WideShapes Go.ChangeAt Go.RowKit Go.Joins Go.Deep
/-- A round and where its lists lie. -/
structure RnX (W : World) where
 r : Rn
 A1 : Option Addr
 c1 : Nat
 A2 : Option Addr
 c2 : Nat
 A3 : Option Addr
 c3 : Nat
 A4 : Option Addr
 c4 : Nat
 h1 : LossAt W A1 r.ls
 h2 : RgAt W A2 r.rg
 h3 : IsL W A3 r.dr
 h4 : IsL W A4 r.md
 m1 : r.ls.length ≤ 9223372036854775807
 m2 : r.rg.length ≤ 9223372036854775807
 m3 : r.dr.length ≤ 9223372036854775807
 m4 : r.md.length ≤ 9223372036854775807
instance (W : World) : Inhabited (RnX W) := ⟨⟨⟨[], [], [], []⟩, none, 0, none, 0, none, 0, none, 0, fun j x h => by simp at h, fun j x h => by simp at h, fun j h => by simp at h, fun j h => by simp at h, by simp, by simp, by simp, by simp⟩⟩
def RnX.cells {W : World} (x : RnX W) : List Value := [.slice x.A1 x.r.ls.length x.c1, .slice x.A2 x.r.rg.length x.c2, .slice x.A3 x.r.dr.length x.c3, .slice x.A4 x.r.md.length x.c4]
theorem cLoss : Tryz.prog.cellsOf 71 = 3 := by kernel_rfl
theorem cRdg : Tryz.prog.cellsOf 74 = 3 := by kernel_rfl
theorem cRound : Tryz.prog.cellsOf 35 = 4 := by kernel_rfl
theorem cSI : Tryz.prog.cellsOf 27 = 1 := by kernel_rfl
theorem cSLo : Tryz.prog.cellsOf 32 = 1 := by kernel_rfl
theorem cSRd : Tryz.prog.cellsOf 33 = 1 := by kernel_rfl
section
variable {H : Type} {enc : TypeId × Value → H} {W : World} {b0 : Nat} {hd : Bool}
theorem trod_loss {fuel : Nat} {cs : List Value} {x : DataW H × List MemPlace} {sp : Nat → Bool} (h : DataW.trod enc Tryz.prog W b0 sp hd fuel 71 cs = some x) : ∃ p f t : Int, cs = [.int .i64 p, .int .i64 f, .int .i64 t] := by
 obtain ⟨xs, n, _, _, hl, hxl, hg⟩ := DataW.trod_struct Tryz.underlying71 h
 obtain ⟨c0, c1, c2, rfl⟩ := list3 (hl.trans cLoss)
 obtain ⟨x0, x1, x2, rfl⟩ := list3 hxl
 have g0 := hg 0 _ rfl
 have g1 := hg 1 _ rfl
 have g2 := hg 2 _ rfl
 simp [cInt] at g0 g1 g2
 obtain ⟨a, e0, _⟩ := DataW.trod_int Tryz.underlying3 g0
 obtain ⟨b, e1, _⟩ := DataW.trod_int Tryz.underlying3 g1
 obtain ⟨c, e2, _⟩ := DataW.trod_int Tryz.underlying3 g2
 simp at e0 e1 e2
 exact ⟨a, b, c, by rw [e0, e1, e2]⟩
theorem trod_rdg {fuel : Nat} {cs : List Value} {x : DataW H × List MemPlace} {sp : Nat → Bool} (h : DataW.trod enc Tryz.prog W b0 sp hd fuel 74 cs = some x) : ∃ p f t : Int, cs = [.int .i64 p, .int .i64 f, .int .i64 t] := by
 obtain ⟨xs, n, _, _, hl, hxl, hg⟩ := DataW.trod_struct Tryz.underlying74 h
 obtain ⟨c0, c1, c2, rfl⟩ := list3 (hl.trans cRdg)
 obtain ⟨x0, x1, x2, rfl⟩ := list3 hxl
 have g0 := hg 0 _ rfl
 have g1 := hg 1 _ rfl
 have g2 := hg 2 _ rfl
 simp [cInt] at g0 g1 g2
 obtain ⟨a, e0, _⟩ := DataW.trod_int Tryz.underlying3 g0
 obtain ⟨b, e1, _⟩ := DataW.trod_int Tryz.underlying3 g1
 obtain ⟨c, e2, _⟩ := DataW.trod_int Tryz.underlying3 g2
 simp at e0 e1 e2
 exact ⟨a, b, c, by rw [e0, e1, e2]⟩
theorem open_losses {t0 fuel : Nat} {v : Value} {x : DataW H × List MemPlace} (ht : t0 = 32) (h : DataW.trod enc Tryz.prog W b0 (fun _ => true) hd fuel t0 [v] = some x) :
 ∃ (A : Option Addr) (cap : Nat) (l : List Ls), v = .slice A l.length cap ∧ l.length ≤ 9223372036854775807 ∧ LossAt W A l := by
 subst ht
 haveI : Inhabited Ls := ⟨⟨0, 0, 0⟩⟩
 obtain ⟨A, len, cap, l, e1, e2, e3, e4, e5⟩ := open_rows (fun w : Ls => [.int .i64 w.s, .int .i64 w.c, .int .i64 w.t]) Tryz.underlying32 cLoss (by decide) (fun fuel cs y hy => by obtain ⟨p, f, t, e⟩ := trod_loss hy; exact ⟨⟨p, f, t⟩, e⟩) (fun _ => rfl) h
 refine ⟨A, cap, l, by rw [e4]; exact e1, by unfold maxLen at e3; omega, fun j x hj => ?_⟩
 obtain ⟨b, off, hA, a, ha, hcell⟩ := e5 j (by have := (List.getElem?_eq_some_iff.1 hj).1; omega)
 rw [hj] at ha
 cases ha
 exact ⟨b, off, hA, hcell 0 (by decide), hcell 1 (by decide), hcell 2 (by decide)⟩
theorem open_rdgs {t0 fuel : Nat} {v : Value} {x : DataW H × List MemPlace} (ht : t0 = 33) (h : DataW.trod enc Tryz.prog W b0 (fun _ => true) hd fuel t0 [v] = some x) :
 ∃ (A : Option Addr) (cap : Nat) (l : List Rg), v = .slice A l.length cap ∧ l.length ≤ 9223372036854775807 ∧ RgAt W A l := by
 subst ht
 haveI : Inhabited Rg := ⟨⟨0, 0, 0⟩⟩
 obtain ⟨A, len, cap, l, e1, e2, e3, e4, e5⟩ := open_rows (fun w : Rg => [.int .i64 w.n, .int .i64 w.o, .int .i64 w.i]) Tryz.underlying33 cRdg (by decide) (fun fuel cs y hy => by obtain ⟨p, f, t, e⟩ := trod_rdg hy; exact ⟨⟨p, f, t⟩, e⟩) (fun _ => rfl) h
 refine ⟨A, cap, l, by rw [e4]; exact e1, by unfold maxLen at e3; omega, fun j x hj => ?_⟩
 obtain ⟨b, off, hA, a, ha, hcell⟩ := e5 j (by have := (List.getElem?_eq_some_iff.1 hj).1; omega)
 rw [hj] at ha
 cases ha
 exact ⟨b, off, hA, hcell 0 (by decide), hcell 1 (by decide), hcell 2 (by decide)⟩
theorem open_intsL {t0 fuel : Nat} {v : Value} {x : DataW H × List MemPlace} (ht : t0 = 27) (h : DataW.trod enc Tryz.prog W b0 (fun _ => true) hd fuel t0 [v] = some x) :
 ∃ (A : Option Addr) (cap : Nat) (l : List Int), v = .slice A l.length cap ∧ l.length ≤ 9223372036854775807 ∧ IsL W A l := by
 subst ht
 obtain ⟨A, len, cap, l, e1, e2, e3, e4, e5⟩ := open_rows (fun w : Int => [.int .i64 w]) Tryz.underlying27 cInt (by decide) (fun fuel cs y hy => by obtain ⟨a, e0, _⟩ := DataW.trod_int Tryz.underlying3 hy; exact ⟨a, e0⟩) (fun _ => rfl) h
 refine ⟨A, cap, l, by rw [e4]; exact e1, by unfold maxLen at e3; omega, fun j hj => ?_⟩
 obtain ⟨b, off, hA, a, ha, hcell⟩ := e5 j (by omega)
 have := hcell 0 (by decide)
 rw [Nat.mul_one, Nat.add_zero] at this
 refine ⟨b, off, hA, ?_⟩
 rw [this, List.getD_eq_getElem?_getD, ha]
 rfl
end
end
section
open Go Go.ChangeShapes Go.WideShapes Go.ChangeAt Go.RowKit Go.Joins Go.Deep
section
variable {H : Type} {enc : TypeId × Value → H} {W : World} {b0 : Nat} {hd : Bool}
abbrev ReachD (t : TypeId) (d : DataW H) : Prop := (d.weights Tryz.prog t).all (· ≤ reachBytes) = true
theorem weightsAll_in {e : TypeId} : ∀ {l : List (DataW H)} {d : DataW H}, d ∈ l → ∀ n ∈ d.weights Tryz.prog e, n ∈ DataW.weightsAll Tryz.prog e l
 | d' :: r, d, hd, n, hn => by
  simp only [DataW.weightsAll, List.mem_append]
  rcases List.mem_cons.1 hd with rfl | h
  ·exact Or.inl hn
  ·exact Or.inr (weightsAll_in h n hn)
theorem reach_part {t : TypeId} {fs : Array Field} {parts : List (DataW H)} (hu : Tryz.prog.underlying t = some (.struct fs)) (hw : ReachD t (DataW.agg parts)) {i : Nat} {f : Field} {d : DataW H} (hf : fs[i]? = some f) (hp : parts[i]? = some d) : ReachD f.type d := by
 refine List.all_eq_true.2 fun n hn => ?_
 refine List.all_eq_true.1 hw n ?_
 simp only [DataW.weights, hu]
 exact DataW.weights_mem_each (j := i) (by rw [List.getElem?_map, Array.getElem?_toList, hf]; rfl) hp n hn
theorem reach_elem {t e : TypeId} {elems spare : List (DataW H)} (hu : Tryz.prog.underlying t = some (.slice e)) (hw : ReachD t (DataW.slice elems spare)) {d : DataW H} (hd : d ∈ elems) : ReachD e d := by
 refine List.all_eq_true.2 fun n hn => ?_
 refine List.all_eq_true.1 hw n ?_
 simp only [DataW.weights, hu, List.mem_cons, List.mem_append]
 exact Or.inr (Or.inl (weightsAll_in hd n hn))
theorem reach_len {t e : TypeId} {fuel : Nat} {v : Value} {x : DataW H × List MemPlace} (ht : Tryz.prog.underlying t = some (.slice e)) (h : DataW.trod enc Tryz.prog W b0 (fun _ => true) hd fuel t [v] = some x) (hw : ReachD t x.1) {A : Option Addr} {n c : Nat} (hv : v = .slice A n c) : n * Tryz.prog.bytesOf e ≤ reachBytes := by
 rcases open_slice ht h with ⟨h0, _⟩ | ⟨a, len, cap, m, n', D, Pl, hcs, _, hl, hm, hmm, hx, hi⟩
 ·simp [hv] at h0
  rw [h0.2.1]
  simp
 ·simp [hv] at hcs
  obtain ⟨rfl, rfl, rfl⟩ := hcs
  rw [hx] at hw
  have := List.all_eq_true.1 hw ((((List.range n).map D).length + ((List.range (m - n)).map fun j => D (n + j)).length) * Tryz.prog.bytesOf e) (by simp only [DataW.weights, ht, List.mem_cons, true_or])
  have h2 := of_decide_eq_true this
  simp only [List.length_map, List.length_range] at h2
  exact Nat.le_trans (Nat.mul_le_mul_right _ (Nat.le_add_right _ _)) h2
/-- Rows of a slice's cells, whatever each row's form, each within the reach. -/
theorem open_rowsW {t e : TypeId} {sz : Nat} {fuel : Nat} {v : Value} {x : DataW H × List MemPlace} {α : Type} [Inhabited α] (cellsA : α → List Value) (ht : Tryz.prog.underlying t = some (.slice e)) (hsz : Tryz.prog.cellsOf e = sz) (hpos : 0 < sz)
 (he : ∀ (fuel : Nat) (cs : List Value) (y : DataW H × List MemPlace), DataW.trod enc Tryz.prog W b0 (fun _ => true) hd fuel e cs = some y → ReachD e y.1 → ∃ a : α, cs = cellsA a)
 (hc : ∀ a : α, (cellsA a).length = sz)
 (h : DataW.trod enc Tryz.prog W b0 (fun _ => true) hd fuel t [v] = some x) (hw : ReachD t x.1) :
 ∃ (A : Option Addr) (len cap : Nat) (l : List α), v = .slice A len cap ∧ len ≤ cap ∧ cap ≤ maxLen ∧ l.length = len ∧ ∀ j, j < len → ∃ b off, A = some ⟨b, off, none⟩ ∧ ∃ a, l[j]? = some a ∧ ∀ i, i < sz → W.cell? ⟨b, off + j * sz + i, none⟩ = (cellsA a)[i]? := by
 rcases open_slice ht h with ⟨h0, _⟩ | ⟨a, len, cap, m, n, D, Pl, hcs, _, hl, hm, hmm, hx, hi⟩
 ·simp at h0
  exact ⟨none, 0, 0, [], h0, Nat.le_refl _, by simp [maxLen], rfl, fun j hj => by omega⟩
 ·simp at hcs
  have hlm : len ≤ m := by rw [hmm]; simpa using hl
  clear hmm
  rw [hx] at hw
  have hrow : ∀ j, j < len → ∃ r : α, ∀ i, i < sz → W.cell? (a.add (j * sz + i)) = (cellsA r)[i]? := by
   intro j hj
   obtain ⟨cs', hc', ht'⟩ := hi j (by omega)
   obtain ⟨r, hr⟩ := he n cs' _ ht' (reach_elem ht hw (List.mem_map.2 ⟨j, List.mem_range.2 hj, rfl⟩))
   subst hr
   rw [hsz] at hc'
   obtain ⟨_, _, hat⟩ := World.cells?_some hc'
   exact ⟨r, fun i hi2 => by rw [← add_add]; exact hat i hi2⟩
  obtain ⟨F, hF⟩ := choose_lt hrow
  refine ⟨some a, len, cap, (List.range len).map F, hcs, hl, hm, by simp, fun j hj => ?_⟩
  obtain ⟨b, off, spot⟩ := a
  have hcell := hF 0 (by omega) 0 hpos
  have h1 : ((cellsA (F 0))[0]?).isSome = true := by
   rw [List.getElem?_eq_getElem (by rw [hc]; exact hpos)]; rfl
  obtain ⟨u, hu⟩ := Option.isSome_iff_exists.1 h1
  rw [hu] at hcell
  have hspot : spot = none := by simpa [Addr.add] using World.cell?_spot hcell
  subst hspot
  refine ⟨b, off, rfl, F j, by simp [hj], fun i hi2 => ?_⟩
  rw [← hF j hj i hi2, Go.WideShapes.add_plain, Nat.add_assoc]
theorem bLoss : Tryz.prog.bytesOf 71 = 24 := by kernel_rfl
theorem bRdg : Tryz.prog.bytesOf 74 = 24 := by kernel_rfl
theorem bInt : Tryz.prog.bytesOf 3 = 8 := by kernel_rfl
theorem cStep : Tryz.prog.cellsOf 67 = 8 := by kernel_rfl
/-- A round and where its lists lie, none longer than memory. -/
structure RnY (W : World) where
 x : RnX W
 k1 : x.r.ls.length ≤ 140737488355328
 k2 : x.r.rg.length ≤ 140737488355328
 k3 : x.r.dr.length ≤ 140737488355328
 k4 : x.r.md.length ≤ 140737488355328
theorem trod_roundW {fuel : Nat} {cs : List Value} {x : DataW H × List MemPlace} (h : DataW.trod enc Tryz.prog W b0 (fun _ => true) hd fuel 35 cs = some x) (hw : ReachD 35 x.1) : ∃ a : RnY W, cs = a.x.cells := by
 obtain ⟨xs, n, _, hxe, hl, hxl, hg⟩ := DataW.trod_struct Tryz.underlying35 h
 obtain ⟨c0, c1, c2, c3, rfl⟩ := list4 (hl.trans cRound)
 obtain ⟨x0, x1, x2, x3, rfl⟩ := list4 hxl
 rw [hxe] at hw
 have w0 := reach_part Tryz.underlying35 hw (i := 0) rfl rfl
 have w1 := reach_part Tryz.underlying35 hw (i := 1) rfl rfl
 have w2 := reach_part Tryz.underlying35 hw (i := 2) rfl rfl
 have w3 := reach_part Tryz.underlying35 hw (i := 3) rfl rfl
 have g0 := hg 0 _ rfl
 have g1 := hg 1 _ rfl
 have g2 := hg 2 _ rfl
 have g3 := hg 3 _ rfl
 simp [cSI, cSLo, cSRd] at g0 g1 g2 g3
 obtain ⟨A1, k1, l1, e1, n1, f1⟩ := open_losses rfl g0
 obtain ⟨A2, k2, l2, e2, n2, f2⟩ := open_rdgs rfl g1
 obtain ⟨A3, k3, l3, e3, n3, f3⟩ := open_intsL rfl g2
 obtain ⟨A4, k4, l4, e4, n4, f4⟩ := open_intsL rfl g3
 have r0 := reach_len Tryz.underlying32 g0 w0 e1
 have r1 := reach_len Tryz.underlying33 g1 w1 e2
 have r2 := reach_len Tryz.underlying27 g2 w2 e3
 have r3 := reach_len Tryz.underlying27 g3 w3 e4
 rw [bLoss] at r0
 rw [bRdg] at r1
 rw [bInt] at r2 r3
 unfold reachBytes at r0 r1 r2 r3
 exact ⟨⟨⟨⟨l1, l2, l3, l4⟩, A1, k1, A2, k2, A3, k3, A4, k4, f1, f2, f3, f4, n1, n2, n3, n4⟩, by show l1.length ≤ _; omega, by show l2.length ≤ _; omega, by show l3.length ≤ _; omega, by show l4.length ≤ _; omega⟩, by rw [e1, e2, e3, e4]; rfl⟩
/-- A step and where its lists lie. -/
structure StX (W : World) where
 wh : Int
 nd : Int
 lk : Int
 d : ByteArray
 r : RnY W
 kd : d.size ≤ maxLen
instance (W : World) : Inhabited (StX W) := ⟨⟨0, 0, 0, ⟨#[]⟩, ⟨default, by simp [default], by simp [default], by simp [default], by simp [default]⟩, by unfold maxLen; exact Nat.zero_le _⟩⟩
def StX.cells {W : World} (x : StX W) : List Value := [.int .i64 x.wh, .int .i64 x.nd, .int .i64 x.lk, .string x.d] ++ x.r.x.cells
theorem cStrQ : Tryz.prog.cellsOf 9 = 1 := by kernel_rfl
set_option maxRecDepth 100000 in
theorem trod_step {fuel : Nat} {cs : List Value} {x : DataW H × List MemPlace} (h : DataW.trod enc Tryz.prog W b0 (fun _ => true) hd fuel 67 cs = some x) (hw : ReachD 67 x.1) : ∃ a : StX W, cs = a.cells := by
 obtain ⟨xs, n, _, hxe, hl, hxl, hg⟩ := DataW.trod_struct Tryz.underlying67 h
 obtain ⟨c0, c1, c2, c3, c4, c5, c6, c7, rfl⟩ : ∃ c0 c1 c2 c3 c4 c5 c6 c7, cs = [c0, c1, c2, c3, c4, c5, c6, c7] := by
  have hh := hl.trans cStep
  match cs, hh with
  | [c0, c1, c2, c3, c4, c5, c6, c7], _ => exact ⟨_, _, _, _, _, _, _, _, rfl⟩
 obtain ⟨x0, x1, x2, x3, x4, rfl⟩ : ∃ x0 x1 x2 x3 x4, xs = [x0, x1, x2, x3, x4] := by
  match xs, hxl with
  | [x0, x1, x2, x3, x4], _ => exact ⟨_, _, _, _, _, rfl⟩
 rw [hxe] at hw
 have w4 := reach_part Tryz.underlying67 hw (i := 4) rfl rfl
 have g0 := hg 0 _ rfl
 have g1 := hg 1 _ rfl
 have g2 := hg 2 _ rfl
 have g3 := hg 3 _ rfl
 have g4 := hg 4 _ rfl
 simp [cInt, cStrQ, cRound] at g0 g1 g2 g3 g4
 obtain ⟨a, e0, _⟩ := DataW.trod_int Tryz.underlying3 g0
 obtain ⟨b, e1, _⟩ := DataW.trod_int Tryz.underlying3 g1
 obtain ⟨c, e2, _⟩ := DataW.trod_int Tryz.underlying3 g2
 obtain ⟨r, e4⟩ := trod_roundW g4 w4
 obtain ⟨d, e3, -, hd3⟩ := DataW.trod_string Tryz.underlying9 g3
 simp at e0 e1 e2 e3
 exact ⟨⟨a, b, c, d, r, hd3⟩, by rw [e0, e1, e2, e3]; show _ = [Value.int .i64 a, .int .i64 b, .int .i64 c, .string d] ++ r.x.cells; rw [← e4]; rfl⟩
set_option maxRecDepth 100000 in
/-- A slice of steps, as an argument. -/
theorem open_steps {v : Value} {d : DataW H} {p : List MemPlace} {r : Go.Reach} {B : Nat} (h : DataW.Trod enc Tryz.prog W b0 (fun _ => true) hd 56 v d p) (hv : Value.okWide Tryz.prog W r B 56 v) (hw : ReachD 56 d) :
 ∃ (A : Option Addr) (cap : Nat) (l : List St), v = .slice A l.length cap ∧ StsAt W A l := by
 obtain ⟨a0, len, cap, rfl⟩ := okWide_slice Tryz.underlying56 hv
 obtain ⟨fuel, hf⟩ := h
 obtain ⟨A, len, cap, l, e1, e2, e3, e4, e5⟩ := open_rowsW (fun w : StX W => w.cells) Tryz.underlying56 cStep (by decide) (fun fuel cs y hy hw => trod_step hy hw) (fun _ => rfl) hf hw
 refine ⟨A, cap, l.map (fun y => ⟨y.wh, y.nd, y.lk, y.d, y.r.x.r⟩), by rw [List.length_map, e4]; exact e1, fun j x hj => ?_⟩
 rw [List.getElem?_map, Option.map_eq_some_iff] at hj
 obtain ⟨y, hy, rfl⟩ := hj
 obtain ⟨b, off, hA, a, ha, hcell⟩ := e5 j (by have := (List.getElem?_eq_some_iff.1 hy).1; omega)
 rw [hy] at ha
 cases ha
 exact ⟨b, off, hA, y.r.x.A1, y.r.x.c1, y.r.x.A2, y.r.x.c2, y.r.x.A3, y.r.x.c3, y.r.x.A4, y.r.x.c4, hcell 0 (by decide), hcell 1 (by decide), hcell 2 (by decide), hcell 3 (by decide), hcell 4 (by decide), hcell 5 (by decide), hcell 6 (by decide), hcell 7 (by decide), y.r.x.h1, y.r.x.h2, y.r.x.h3, y.r.x.h4, y.r.k1, y.r.k2, y.r.k3, y.r.k4, y.kd⟩
set_option maxRecDepth 100000 in
/-- A slice of numbers, as an argument, with its room. -/
theorem open_intsC {v : Value} {d : DataW H} {p : List MemPlace} {r : Go.Reach} {B : Nat} (h : DataW.Trod enc Tryz.prog W b0 (fun _ => true) hd 27 v d p) (hv : Value.okWide Tryz.prog W r B 27 v) :
 ∃ (A : Option Addr) (cap : Nat) (l : List Int), v = .slice A l.length cap ∧ l.length ≤ cap ∧ IsL W A l := by
 obtain ⟨a0, len, cap, rfl⟩ := okWide_slice Tryz.underlying27 hv
 obtain ⟨fuel, hf⟩ := h
 obtain ⟨A, len, cap, l, e1, e2, e3, e4, e5⟩ := open_rows (fun w : Int => [.int .i64 w]) Tryz.underlying27 cInt (by decide) (fun fuel cs y hy => by obtain ⟨a, e0, _⟩ := DataW.trod_int Tryz.underlying3 hy; exact ⟨a, e0⟩) (fun _ => rfl) hf
 refine ⟨A, cap, l, by rw [e4]; exact e1, by omega, fun j hj => ?_⟩
 obtain ⟨b, off, hA, a, ha, hcell⟩ := e5 j (by omega)
 have := hcell 0 (by decide)
 rw [Nat.mul_one, Nat.add_zero] at this
 refine ⟨b, off, hA, ?_⟩
 rw [this, List.getD_eq_getElem?_getD, ha]
 rfl
end
end
section
open Go.ChangeShapes Go.WideShapes Go.RowKit
theorem d_et : Tryz.prog.globalNamed "errors.errorType" = some 1 := by kernel_rfl
theorem d_rt : (Tryz.prog.cutTypes.find? (·.1 == "internal/reflectlite.rtype")).map (·.2) = some 208 := by kernel_rfl
theorem d_size : Tryz.prog.types.size = 279 := by kernel_rfl
theorem d_oneRow : ((List.range 279).filter fun t => Tryz.prog.rowNamed t [101, 114, 114, 111, 114]) = [37] := by kernel_rfl
theorem d_hdl : typeHandle Tryz.prog 37 = hdl 37 := by kernel_rfl
theorem errT_of_handle {l : List (String × DataW Unit)} {W : World} (h : handlesMet Tryz.prog l W) (hm : ("errors.errorType", Rows.laid_errors_errorType) ∈ l) : ErrT W := by
 obtain ⟨name, u, ty, e1, e2, e3, e4, e5⟩ := h _ hm
 have en : name = [101, 114, 114, 111, 114] := (Option.some.inj e1).symm
 subst en
 obtain rfl := Option.some.inj (d_rt.symm.trans e2)
 have hm : ty ∈ (List.range 279).filter fun t => Tryz.prog.rowNamed t [101, 114, 114, 111, 114] := List.mem_filter.2 ⟨List.mem_range.2 (by rw [← d_size]; exact e3), e4⟩
 rw [d_oneRow] at hm
 obtain rfl := List.mem_singleton.1 hm
 rw [d_hdl] at e5
 simpa using World.var?_cell d_et e5 0
end
section
open Go.ChangeShapes Go.WideShapes Go.RowKit Go.Joins
theorem d_fine : Tryz.prog.globalNamed "metronome/metronomeref.Fine" = some 0 := by kernel_rfl
theorem d_fineT : (Tryz.prog.globals[0]?).map (·.type) = some 62 := by kernel_rfl
theorem d_fineC : Tryz.prog.cellsOf 62 = 2 := by kernel_rfl
theorem d_intC : Tryz.prog.cellsOf 3 = 1 := by kernel_rfl
theorem d_errnoC : Tryz.prog.cellsOf 39 = 1 := by kernel_rfl
set_option maxRecDepth 100000 in
theorem fine_of_laid {W : World} (h : laidMet Tryz.prog [("metronome/metronomeref.Fine", Rows.laid_metronome_metronomeref_Fine)] W) : FinT W := by
 obtain ⟨ps, ⟨g, t, cs, fuel, p, q, hg, ht, hvar, hd, _, _⟩, _⟩ := h
 obtain rfl := Option.some.inj (d_fine.symm.trans hg)
 obtain rfl := Option.some.inj (d_fineT.symm.trans ht)
 obtain ⟨xs, m, rfl, hx1, hlen, hn3, hel⟩ := DataW.trod_struct Tryz.underlying62 hd
 have h0 := hel 0 _ rfl
 have h1 := hel 1 _ rfl
 obtain ⟨l⟩ := cs
 rw [d_fineC] at hlen
 match l, hlen, xs, hn3 with
 | [c0, c1], _, [x0, x1], _ =>
  obtain ⟨a, e0, f0, _⟩ := DataW.trod_int Tryz.underlying39 h0
  obtain ⟨b, e1, f1, _⟩ := DataW.trod_int Tryz.underlying3 h1
  simp [d_intC, d_errnoC] at e0 e1
  subst e0 e1
  subst f0 f1
  simp [Rows.laid_metronome_metronomeref_Fine] at hx1
  obtain ⟨⟨rfl, rfl⟩, _⟩ := hx1
  constructor
  ·simpa using World.var?_cell hg hvar 0
  ·simpa using World.var?_cell hg hvar 1
theorem fine_of_laid2 {W : World} (h : laidMetH Tryz.prog [("errors.errorType", Rows.laid_errors_errorType), ("metronome/metronomeref.Fine", Rows.laid_metronome_metronomeref_Fine)] W) : FinT W := by
 have h' : laidMet Tryz.prog [("metronome/metronomeref.Fine", Rows.laid_metronome_metronomeref_Fine)] W ∧ handlesMet Tryz.prog [("errors.errorType", Rows.laid_errors_errorType)] W := h
 exact fine_of_laid h'.1
theorem errT_of_laid2 {W : World} (h : laidMetH Tryz.prog [("errors.errorType", Rows.laid_errors_errorType), ("metronome/metronomeref.Fine", Rows.laid_metronome_metronomeref_Fine)] W) : ErrT W := by
 have h' : laidMet Tryz.prog [("metronome/metronomeref.Fine", Rows.laid_metronome_metronomeref_Fine)] W ∧ handlesMet Tryz.prog [("errors.errorType", Rows.laid_errors_errorType)] W := h
 exact errT_of_handle h'.2 (List.mem_singleton.2 rfl)
noncomputable def laidWorld2 (os : Os) : World :=
 let w0 := World.holding Tryz.prog os ⟨#[], #[], []⟩
 { w0 with heap := (w0.heap.modify 1 fun
  | .cells _ t frozen => .cells #[.iface 208 (.agg #[hdl 37])] t frozen
  | o => o).modify 0 fun
  | .cells _ t frozen => .cells #[.int .i64 0, .int .i64 (-1)] t frozen
  | o => o }
theorem laidWorld2_met (os : Os) (args : Array Value) : laidMetH Tryz.prog [("errors.errorType", Rows.laid_errors_errorType), ("metronome/metronomeref.Fine", Rows.laid_metronome_metronomeref_Fine)] ((laidWorld2 os).forCall (fun _ _ => 0) ⟨#[], args, []⟩).memory :=
 laidMetH_of_parts (laidMet_of_run' 8 (by kernel_rfl) (by kernel_rfl)) (by kernel_rfl)
end
section
open Go.ChangeShapes Go.WideShapes Go.ChangeAt Go.RowKit Go.Joins
variable {H : Type} {enc : TypeId × Value → H}
end
section
open Go.ChangeShapes Go.WideShapes Go.ChangeAt Go.RowKit Go.Joins Go.Deep Go.WideElems Go.Maps
section
variable {H : Type} {enc : TypeId × Value → H} {P : Program} {w : World} {base : Nat} {spare : Nat → Bool} {held : Bool}
theorem array10 {α : Type} {cs : Array α} (h : cs.size = 10) : ∃ c0 c1 c2 c3 c4 c5 c6 c7 c8 c9, cs = #[c0, c1, c2, c3, c4, c5, c6, c7, c8, c9] := by
 obtain ⟨l⟩ := cs
 match l, h with
 | [c0, c1, c2, c3, c4, c5, c6, c7, c8, c9], _ => exact ⟨c0, c1, c2, c3, c4, c5, c6, c7, c8, c9, rfl⟩
theorem open_agg10 {r : Reach} {b0 : Nat} {t : TypeId} {f0 f1 f2 f3 f4 f5 f6 f7 f8 f9 : Field} {v : Value} {d : DataW H} {p : List MemPlace} (hs : P.underlying t = some (.struct #[f0, f1, f2, f3, f4, f5, f6, f7, f8, f9])) (hone : oneCellFields P #[f0, f1, f2, f3, f4, f5, f6, f7, f8, f9] = true) (hC : P.cellsOf t = 10)
 (hv : Value.okWide P w r b0 t v) (h : DataW.Trod enc P w base spare held t v d p) :
 ∃ (v0 v1 v2 v3 v4 v5 v6 v7 v8 v9 : Value) (y0 y1 y2 y3 y4 y5 y6 y7 y8 y9 : DataW H × List MemPlace) (n : Nat), v = .agg #[v0, v1, v2, v3, v4, v5, v6, v7, v8, v9] ∧ d = .agg [y0.1, y1.1, y2.1, y3.1, y4.1, y5.1, y6.1, y7.1, y8.1, y9.1] ∧ p = y0.2 ++ (y1.2 ++ (y2.2 ++ (y3.2 ++ (y4.2 ++ (y5.2 ++ (y6.2 ++ (y7.2 ++ (y8.2 ++ y9.2)))))))) ∧
  DataW.trod enc P w base spare held n f0.type [v0] = some y0 ∧ DataW.trod enc P w base spare held n f1.type [v1] = some y1 ∧ DataW.trod enc P w base spare held n f2.type [v2] = some y2 ∧ DataW.trod enc P w base spare held n f3.type [v3] = some y3 ∧ DataW.trod enc P w base spare held n f4.type [v4] = some y4 ∧ DataW.trod enc P w base spare held n f5.type [v5] = some y5 ∧ DataW.trod enc P w base spare held n f6.type [v6] = some y6 ∧ DataW.trod enc P w base spare held n f7.type [v7] = some y7 ∧ DataW.trod enc P w base spare held n f8.type [v8] = some y8 ∧ DataW.trod enc P w base spare held n f9.type [v9] = some y9 := by
 obtain ⟨cs, rfl, hsz⟩ := okWide_struct hs hv
 obtain ⟨c0, c1, c2, c3, c4, c5, c6, c7, c8, c9, rfl⟩ := array10 (hsz.trans hC)
 obtain ⟨fuel, hf⟩ := h
 obtain ⟨xs, n, _, hx, _, hlen, hg⟩ := DataW.trod_struct hs hf
 match xs, hlen with
 | [y0, y1, y2, y3, y4, y5, y6, y7, y8, y9], _ =>
  simp only [Prod.mk.injEq, List.map_cons, List.map_nil, List.flatMap_cons, List.flatMap_nil, List.append_nil] at hx
  refine ⟨c0, c1, c2, c3, c4, c5, c6, c7, c8, c9, y0, y1, y2, y3, y4, y5, y6, y7, y8, y9, n, rfl, hx.1, hx.2, ?_, ?_, ?_, ?_, ?_, ?_, ?_, ?_, ?_, ?_⟩
  ·have h0 := hg 0 f0 rfl
   obtain ⟨o0, k0⟩ := hone_of hone 0 f0 rfl
   simpa [Value.cells, o0, k0] using h0
  ·have h0 := hg 1 f1 rfl
   obtain ⟨o0, k0⟩ := hone_of hone 1 f1 rfl
   simpa [Value.cells, o0, k0] using h0
  ·have h0 := hg 2 f2 rfl
   obtain ⟨o0, k0⟩ := hone_of hone 2 f2 rfl
   simpa [Value.cells, o0, k0] using h0
  ·have h0 := hg 3 f3 rfl
   obtain ⟨o0, k0⟩ := hone_of hone 3 f3 rfl
   simpa [Value.cells, o0, k0] using h0
  ·have h0 := hg 4 f4 rfl
   obtain ⟨o0, k0⟩ := hone_of hone 4 f4 rfl
   simpa [Value.cells, o0, k0] using h0
  ·have h0 := hg 5 f5 rfl
   obtain ⟨o0, k0⟩ := hone_of hone 5 f5 rfl
   simpa [Value.cells, o0, k0] using h0
  ·have h0 := hg 6 f6 rfl
   obtain ⟨o0, k0⟩ := hone_of hone 6 f6 rfl
   simpa [Value.cells, o0, k0] using h0
  ·have h0 := hg 7 f7 rfl
   obtain ⟨o0, k0⟩ := hone_of hone 7 f7 rfl
   simpa [Value.cells, o0, k0] using h0
  ·have h0 := hg 8 f8 rfl
   obtain ⟨o0, k0⟩ := hone_of hone 8 f8 rfl
   simpa [Value.cells, o0, k0] using h0
  ·have h0 := hg 9 f9 rfl
   obtain ⟨o0, k0⟩ := hone_of hone 9 f9 rfl
   simpa [Value.cells, o0, k0] using h0
end
variable {H : Type} {enc : TypeId × Value → H}
/-- A number of 64 bits. -/
def i64b (z : Int) : Prop := -9223372036854775808 ≤ z ∧ z ≤ 9223372036854775807
theorem wf64 {n : Int} (h : (Lit.int .i64 n).wf = true) : i64b n := by
 simp only [Lit.wf, Bool.and_eq_true, decide_eq_true_eq] at h
 exact ⟨h.1, h.2⟩
theorem cellsPlan : Tryz.prog.cellsOf 26 = 10 := by kernel_rfl
set_option maxRecDepth 100000 in
set_option maxHeartbeats 1000000 in
/-- A plan, as an argument. -/
theorem open_plan {W : World} {r : Reach} {B : Nat} {hd : Bool} {v : Value} {d : DataW H} {p : List MemPlace}
 (h : DataW.Trod enc Tryz.prog W B (fun _ => true) hd 26 v d p) {B2 : Nat} (hv : Value.okWide Tryz.prog W r B2 26 v) :
 ∃ (nd fa sk ji dr R : Int) (A : Option Addr) (len c : Nat) (sl : List Sl) (AL : Option Addr) (ll cl : Nat) (lk : List Lk) (fr : Int) (AQ : Option Addr) (lq cq : Nat) (wn : List Wn),
  v = .agg (planC nd fa sk ji dr R (.slice A len c) (.slice AL ll cl) fr (.slice AQ lq cq)) ∧ sl.length = len ∧ SlotsAt W A len sl ∧ lk.length = ll ∧ LinksAt W AL ll lk ∧ wn.length = lq ∧ WinsAt W AQ lq wn ∧ len ≤ maxLen ∧ ll ≤ maxLen ∧ lq ≤ maxLen ∧
  i64b nd ∧ i64b fa ∧ i64b sk ∧ i64b ji ∧ i64b dr ∧ i64b R ∧ i64b fr := by
 obtain ⟨c0, c1, c2, c3, c4, c5, c6, c7, c8, c9, y0, y1, y2, y3, y4, y5, y6, y7, y8, y9, m, rfl, rfl, rfl, hy0, hy1, hy2, hy3, hy4, hy5, hy6, hy7, hy8, hy9⟩ := open_agg10 Tryz.underlying26 (by kernel_rfl) cellsPlan hv h
 obtain ⟨a, e0, _, b0⟩ := DataW.trod_int Tryz.underlying3 hy0
 obtain ⟨b, e1, _, b1⟩ := DataW.trod_int Tryz.underlying3 hy1
 obtain ⟨c, e2, _, b2⟩ := DataW.trod_int Tryz.underlying3 hy2
 obtain ⟨d, e3, _, b3⟩ := DataW.trod_int Tryz.underlying3 hy3
 obtain ⟨e, e4, _, b4⟩ := DataW.trod_int Tryz.underlying3 hy4
 obtain ⟨f, e5, _, b5⟩ := DataW.trod_int Tryz.underlying3 hy5
 obtain ⟨A, len, cp, sl, e6, s1, s2, s3, s4⟩ := open_slots rfl hy6
 obtain ⟨AL, ll, cl, lk, e7, l1, l2, l3, l4⟩ := open_links rfl hy7
 obtain ⟨g, e8, _, b8⟩ := DataW.trod_int Tryz.underlying3 hy8
 obtain ⟨AQ, lq, cq, wn, e9, q1, q2, q3, q4⟩ := open_wins rfl hy9
 simp at e0 e1 e2 e3 e4 e5 e8
 subst e0 e1 e2 e3 e4 e5 e6 e7 e8 e9
 refine ⟨a, b, c, d, e, f, A, len, cp, sl, AL, ll, cl, lk, g, AQ, lq, cq, wn, rfl, s3, s4, l3, l4, q3, q4, by omega, by omega, by omega, wf64 b0, wf64 b1, wf64 b2, wf64 b3, wf64 b4, wf64 b5, wf64 b8⟩
end
end Go.Proofs.YtdogdlnaacimpaaGreatDoor
