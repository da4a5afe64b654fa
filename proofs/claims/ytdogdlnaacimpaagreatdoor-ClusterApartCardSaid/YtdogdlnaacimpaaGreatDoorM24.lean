/- Arguments that are slices of what is said (a link, and a round), taken apart; no condition. -/
import Derived.Test.YtdogdlnaacimpaaGreatDoorM21
import Derived.Test.YtdogdlnaacimpaaGreatDoorM22
set_option linter.unusedVariables false
set_option linter.unusedSimpArgs false
namespace Go.Proofs.YtdogdlnaacimpaaGreatDoor
open Go Go.ChangeShapes Go.WideShapes Go.ChangeAt Go.RowKit Go.Joins Go.Deep
theorem cSay : Tryz.prog.cellsOf 46 = 5 := by kernel_rfl
theorem list5 {α : Type} {l : List α} (h : l.length = 5) : ∃ a b c d e, l = [a, b, c, d, e] := by
  match l, h with
  | [a, b, c, d, e], _ => exact ⟨a, b, c, d, e, rfl⟩
section
variable {H : Type} {enc : TypeId × Value → H} {W : World} {b0 : Nat} {hd : Bool}
/-- The cells of what is said. -/
theorem trod_say {fuel : Nat} {cs : List Value} {x : DataW H × List MemPlace} (h : DataW.trod enc Tryz.prog W b0 (fun _ => true) hd fuel 46 cs = some x) : ∃ (k : Int) (a : RnX W), cs = .int .i64 k :: a.cells := by
  obtain ⟨xs, n, _, _, hl, hxl, hg⟩ := DataW.trod_struct Tryz.underlying46 h
  obtain ⟨c0, c1, c2, c3, c4, rfl⟩ := list5 (hl.trans cSay)
  obtain ⟨x0, x1, rfl⟩ := list2 hxl
  have g0 := hg 0 _ rfl
  have g1 := hg 1 _ rfl
  simp [cInt, cRound] at g0 g1
  obtain ⟨a, e0, _⟩ := DataW.trod_int Tryz.underlying3 g0
  obtain ⟨r, e1⟩ := trod_round g1
  simp at e0
  exact ⟨a, r, by rw [e0, e1]⟩
set_option maxRecDepth 100000 in
/-- A slice of what is said, as an argument. -/
theorem open_says {v : Value} {d : DataW H} {p : List MemPlace} {r : Reach} {B : Nat} (h : DataW.Trod enc Tryz.prog W b0 (fun _ => true) hd 43 v d p) (hv : Value.okWide Tryz.prog W r B 43 v) :
    ∃ (A : Option Addr) (cap : Nat) (l : List (Int × Rn)), v = .slice A l.length cap ∧ l.length ≤ 9223372036854775807 ∧ SaAt W A l := by
  obtain ⟨a0, len, cap, rfl⟩ := okWide_slice Tryz.underlying43 hv
  obtain ⟨fuel, hf⟩ := h
  obtain ⟨A, len, cap, l, e1, e2, e3, e4, e5⟩ := open_rows (fun w : Int × RnX W => .int .i64 w.1 :: w.2.cells) Tryz.underlying43 cSay (by decide) (fun fuel cs y hy => by obtain ⟨k, a, e⟩ := trod_say hy; exact ⟨(k, a), e⟩) (fun _ => rfl) hf
  refine ⟨A, cap, l.map (fun w => (w.1, w.2.r)), by rw [List.length_map, e4]; exact e1, by rw [List.length_map]; unfold maxLen at e3; omega, fun j x hj => ?_⟩
  rw [List.getElem?_map, Option.map_eq_some_iff] at hj
  obtain ⟨y, hy, rfl⟩ := hj
  obtain ⟨b, off, hA, a, ha, hcell⟩ := e5 j (by have := (List.getElem?_eq_some_iff.1 hy).1; omega)
  rw [hy] at ha
  cases ha
  exact ⟨b, off, hA, hcell 0 (by decide), y.2.A1, y.2.c1, y.2.A2, y.2.c2, y.2.A3, y.2.c3, y.2.A4, y.2.c4, hcell 1 (by decide), hcell 2 (by decide), hcell 3 (by decide), hcell 4 (by decide), y.2.h1, y.2.h2, y.2.h3, y.2.h4, y.2.m1, y.2.m2, y.2.m3, y.2.m4⟩
end
end Go.Proofs.YtdogdlnaacimpaaGreatDoor
/- Two clusters beside each other in memory: what a step of one leaves of the other; no condition. -/
namespace Go.Proofs.YtdogdlnaacimpaaGreatDoor
open Go Go.RowKit

/-- Two clusters by one plan, apart in memory. -/
structure DuoAt (w : World) (base : Nat) (a b : Ad) (n : Cn) (p : Pl) (P : Sv3) (fy : Nat) (x y : Cl) : Prop where
  l : ClAt w base a n p P fy x
  r : ClAt w base b n p P fy y
  ne : ∀ k, Fmy (shape a n p P fy x) k → ¬ Fmy (shape b n p P fy y) k
/-- A block beside both. -/
def Bes (S T : Ix → Ob) (g : Nat) : Prop := ¬ Fmy S g ∧ ¬ Fmy T g
section
variable {w w' w0 : World} {base : Nat} {a b a1 b1 : Ad} {n : Cn} {p : Pl} {P : Sv3} {fy : Nat} {x y x1 y1 : Cl}
theorem DuoAt.new_ (h : DuoAt w base a b n p P fy x y) {g : Nat} (hg : w.heap.size ≤ g) : Bes (shape a n p P fy x) (shape b n p P fy y) g := ⟨h.l.not_new hg, h.r.not_new hg⟩
theorem DuoAt.below (h : DuoAt w base a b n p P fy x y) (hB : Below w.heap.size w w') : DuoAt w' base a b n p P fy x y := ⟨h.l.below hB, h.r.below hB, h.ne⟩
theorem DuoAt.stepL (h : DuoAt w base a b n p P fy x y) (hB : Below base w0 w) (hb : base ≤ w.heap.size) (ht : ClTo w base a n p P fy x w' x1) :
    ∃ a', a'.g = a.g ∧ DuoAt w' base a' b n p P fy x1 y ∧ Below base w0 w' ∧ w.heap.size ≤ w'.heap.size ∧ ∀ g, g < w.heap.size → Bes (shape a n p P fy x) (shape b n p P fy y) g → Bes (shape a' n p P fy x1) (shape b n p P fy y) g ∧ w'.heap[g]? = w.heap[g]? := by
  obtain ⟨a', e, hA, hK⟩ := ht
  refine ⟨a', e, ⟨hA, h.r.keepF hK.size (fun i hi hf => hK.block i hi (fun h2 => h.ne i h2 hf)), fun k hk hr => ?_⟩, hK.old h.l hB hb, hK.size, fun g hg hn => ⟨⟨hK.not hg hn.1, hn.2⟩, hK.block g hg hn.1⟩⟩
  rcases hK.fam k hk with h1 | h1
  · exact h.ne k h1 hr
  · exact h.r.not_new h1 hr
theorem DuoAt.swap (h : DuoAt w base a b n p P fy x y) : DuoAt w base b a n p P fy y x := ⟨h.r, h.l, fun k h1 h2 => h.ne k h2 h1⟩
theorem DuoAt.stepR (h : DuoAt w base a b n p P fy x y) (hB : Below base w0 w) (hb : base ≤ w.heap.size) (ht : ClTo w base b n p P fy y w' y1) :
    ∃ b', b'.g = b.g ∧ DuoAt w' base a b' n p P fy x y1 ∧ Below base w0 w' ∧ w.heap.size ≤ w'.heap.size ∧ ∀ g, g < w.heap.size → Bes (shape a n p P fy x) (shape b n p P fy y) g → Bes (shape a n p P fy x) (shape b' n p P fy y1) g ∧ w'.heap[g]? = w.heap[g]? := by
  obtain ⟨b', e, hA, hB', hs, hk⟩ := h.swap.stepL hB hb ht
  exact ⟨b', e, hA.swap, hB', hs, fun g hg hn => by have := hk g hg ⟨hn.2, hn.1⟩; exact ⟨⟨this.1.2, this.1.1⟩, this.2⟩⟩
/-- One is begun beside the other. -/
theorem DuoAt.start (h : ClAt w base a n p P fy x) (hB : Below w.heap.size w w') (h2 : ClAt w' w.heap.size b n p P fy y) (hb : base ≤ w.heap.size) : DuoAt w' base a b n p P fy x y :=
  ⟨h.below hB, h2.mono hb, fun k h1 h3 => by obtain ⟨z, hz⟩ := h1; obtain ⟨u, hu⟩ := h3; have := (h.own z k hz).2; have := (h2.own u k hu).1; omega⟩
end
/-- Both clusters at one time; the blocks that are kept beside them. -/
def DuG (w2 w : World) (ga gb : Nat) (p : Pl) (P : Sv3) (fy : Nat) (x y : Cl) (w1 : World) (bs : List Nat) : Prop := ∃ a b : Ad, a.g = ga ∧ b.g = gb ∧ DuoAt w w2.heap.size a b (fullN p) p P fy x y ∧ Below w2.heap.size w2 w ∧
  ∀ g ∈ bs, g < w.heap.size ∧ Bes (shape a (fullN p) p P fy x) (shape b (fullN p) p P fy y) g ∧ w.heap[g]? = w1.heap[g]?
section
variable {w2 w w' w1 : World} {ga gb : Nat} {p : Pl} {P : Sv3} {fy N : Nat} {x y x1 y1 : Cl} {bs : List Nat}
theorem DuG.bel (h : DuG w2 w ga gb p P fy x y w1 bs) : Below w2.heap.size w2 w := by obtain ⟨a, b, h1, h2, h3, h4, h5⟩ := h; exact h4
theorem DuG.below (h : DuG w2 w ga gb p P fy x y w1 bs) (hB : Below w.heap.size w w') : DuG w2 w' ga gb p P fy x y w1 bs := by
  obtain ⟨a, b, h1, h2, h3, h4, h5⟩ := h
  exact ⟨a, b, h1, h2, h3.below hB, h4.trans (hB.mono h4.size), fun g hg => ⟨Nat.lt_of_lt_of_le (h5 g hg).1 hB.size, (h5 g hg).2.1, (hB.block g (h5 g hg).1).trans (h5 g hg).2.2⟩⟩
theorem DuG.drop (h : DuG w2 w ga gb p P fy x y w1 bs) (w1' : World) : DuG w2 w ga gb p P fy x y w1' [] := by
  obtain ⟨a, b, h1, h2, h3, h4, h5⟩ := h
  exact ⟨a, b, h1, h2, h3, h4, fun g hg => by simp at hg⟩
/-- A block more, just made. -/
theorem DuG.more (h : DuG w2 w ga gb p P fy x y w1 bs) (o : Obj) (w1' : World) (hw : w.alloc o = w1') : DuG w2 w1' ga gb p P fy x y w1' (w.heap.size :: bs) := by
  have h' := h.below (w' := w1') (by rw [← hw]; exact (Below.refl _ _).alloc (Nat.le_refl _) o)
  obtain ⟨a, b, h1, h2, h3, h4, h5⟩ := h
  obtain ⟨a', b', e1, e2, e3, e4, e5⟩ := h'
  have hB : Below w.heap.size w w1' := by rw [← hw]; exact (Below.refl _ _).alloc (Nat.le_refl _) o
  refine ⟨a, b, h1, h2, h3.below hB, e4, fun g hg => ?_⟩
  rcases List.mem_cons.1 hg with rfl | hg
  · exact ⟨by rw [← hw]; simp, h3.new_ (Nat.le_refl _), rfl⟩
  · exact ⟨Nat.lt_of_lt_of_le (h5 g hg).1 hB.size, (h5 g hg).2.1, rfl⟩
theorem DuG.blk (h : DuG w2 w ga gb p P fy x y w1 bs) {g : Nat} (hg : g ∈ bs) {t : TypeId} {cs : Array Value} (hb : Blk w1 g t cs) : Blk w g t cs := by
  obtain ⟨a, b, h1, h2, h3, h4, h5⟩ := h
  exact ((h5 g hg).2.2).trans hb
theorem DuG.ofL {a b : Ad} (h1 : a.g = ga) (h2 : b.g = gb) (h3 : DuoAt w w2.heap.size a b (fullN p) p P fy x y) (h4 : Below w2.heap.size w2 w) (h5 : ∀ g ∈ bs, g < w.heap.size ∧ Bes (shape a (fullN p) p P fy x) (shape b (fullN p) p P fy y) g ∧ w.heap[g]? = w1.heap[g]?) (ht : ClTo w w2.heap.size a (fullN p) p P fy x w' x1) : DuG w2 w' ga gb p P fy x1 y w1 bs := by
  obtain ⟨a', e, hD, hB, hs, hK⟩ := h3.stepL h4 h4.size ht
  exact ⟨a', b, e.trans h1, h2, hD, hB, fun g hg => by
    obtain ⟨q1, q2, q3⟩ := h5 g hg
    have := hK g q1 q2
    exact ⟨Nat.lt_of_lt_of_le q1 hs, this.1, this.2.trans q3⟩⟩
theorem DuG.ofR {a b : Ad} (h1 : a.g = ga) (h2 : b.g = gb) (h3 : DuoAt w w2.heap.size a b (fullN p) p P fy x y) (h4 : Below w2.heap.size w2 w) (h5 : ∀ g ∈ bs, g < w.heap.size ∧ Bes (shape a (fullN p) p P fy x) (shape b (fullN p) p P fy y) g ∧ w.heap[g]? = w1.heap[g]?) (ht : ClTo w w2.heap.size b (fullN p) p P fy y w' y1) : DuG w2 w' ga gb p P fy x y1 w1 bs := by
  obtain ⟨b', e, hD, hB, hs, hK⟩ := h3.stepR h4 h4.size ht
  exact ⟨a, b', h1, e.trans h2, hD, hB, fun g hg => by
    obtain ⟨q1, q2, q3⟩ := h5 g hg
    have := hK g q1 q2
    exact ⟨Nat.lt_of_lt_of_le q1 hs, this.1, this.2.trans q3⟩⟩
theorem DuG.putA (h : DuG w2 w ga gb p P fy x y w1 bs) (hp : PlOk p) (hc : ClOk p N x) (k : Nat) (l : Lk) (hl : p.lk[k]? = some l) (d : ByteArray) (hd : d.size ≤ maxLen) :
    Calls Tryz.prog 12 #[.pointer (some ⟨ga, 0, none⟩), .int .i64 k, .string d] w fun e w' => e = .returned (errV (putE d.size (x.sd k).q.length l.q)) ∧ DuG w2 w' ga gb p P fy (clPut k l d x) y w1 bs := by
  obtain ⟨a, b, h1, h2, h3, h4, h5⟩ := h
  have hx := cput_any w h3.l hp hc h4.size k l hl d hd
  rw [h1] at hx
  exact hx.mono fun e w' ⟨he, ht⟩ => ⟨he, .ofL h1 h2 h3 h4 h5 ht⟩
theorem DuG.putB (h : DuG w2 w ga gb p P fy x y w1 bs) (hp : PlOk p) (hc : ClOk p N y) (k : Nat) (l : Lk) (hl : p.lk[k]? = some l) (d : ByteArray) (hd : d.size ≤ maxLen) :
    Calls Tryz.prog 12 #[.pointer (some ⟨gb, 0, none⟩), .int .i64 k, .string d] w fun e w' => e = .returned (errV (putE d.size (y.sd k).q.length l.q)) ∧ DuG w2 w' ga gb p P fy x (clPut k l d y) w1 bs := by
  obtain ⟨a, b, h1, h2, h3, h4, h5⟩ := h
  have hx := cput_any w h3.r hp hc h4.size k l hl d hd
  rw [h2] at hx
  exact hx.mono fun e w' ⟨he, ht⟩ => ⟨he, .ofR h1 h2 h3 h4 h5 ht⟩
end
/-- What a round says, as arguments. -/
def RnV (w : World) (v : Value) (r : Rn) : Prop := ∃ A1 c1 A2 c2 A3 c3 A4 c4, v = .agg #[.slice A1 r.ls.length c1, .slice A2 r.rg.length c2, .slice A3 r.dr.length c3, .slice A4 r.md.length c4] ∧ LossAt w A1 r.ls ∧ RgAt w A2 r.rg ∧ IsL w A3 r.dr ∧ IsL w A4 r.md ∧ r.ls.length ≤ 9223372036854775807 ∧ r.rg.length ≤ 9223372036854775807 ∧ r.dr.length ≤ 9223372036854775807 ∧ r.md.length ≤ 9223372036854775807
section
variable {w2 w w' w1 : World} {ga gb : Nat} {p : Pl} {fy N : Nat} {x y x1 y1 : Cl} {bs : List Nat} {A AL : Option Addr} {c cl : Nat} {q : Value}
theorem DuG.playA (h : DuG w2 w ga gb p ⟨.slice A p.sl.length c, .slice AL p.lk.length cl, q⟩ fy x y w1 bs) (hp : PlOk p) (hc : ClOk p N x) (hN : N ≤ 700000) (hr : x.rd ≤ 100) (hf : fy < 65536) (hS : SlotsAt w2 A p.sl.length p.sl) (hL : LinksAt w2 AL p.lk.length p.lk) (hE : ErrT w2) {v : Value} {r : Rn} (hv : RnV w2 v r) :
    Calls Tryz.prog 9 #[.pointer (some ⟨ga, 0, none⟩), v] w fun e w' => e = .returned (errV (playE p fy r x)) ∧ DuG w2 w' ga gb p ⟨.slice A p.sl.length c, .slice AL p.lk.length cl, q⟩ fy (playF p fy r x) y w1 bs := by
  obtain ⟨a, b, h1, h2, h3, h4, h5⟩ := h
  obtain ⟨A1, c1, A2, c2, A3, c3, A4, c4, rfl, m1, m2, m3, m4, n1, n2, n3, n4⟩ := hv
  have hx := play_any w w2 A AL c cl rfl rfl h3.l hp hc hN hr hf hS hL h4 (Nat.le_refl _) h4.size hE A1 c1 r m1 n1 A2 c2 m2 n2 A3 c3 m3 n3 A4 c4 m4 n4
  rw [h1] at hx
  exact hx.mono fun e w' ⟨he, ht⟩ => ⟨he, .ofL h1 h2 h3 h4 h5 ht⟩
theorem DuG.playB (h : DuG w2 w ga gb p ⟨.slice A p.sl.length c, .slice AL p.lk.length cl, q⟩ fy x y w1 bs) (hp : PlOk p) (hc : ClOk p N y) (hN : N ≤ 700000) (hr : y.rd ≤ 100) (hf : fy < 65536) (hS : SlotsAt w2 A p.sl.length p.sl) (hL : LinksAt w2 AL p.lk.length p.lk) (hE : ErrT w2) {v : Value} {r : Rn} (hv : RnV w2 v r) :
    Calls Tryz.prog 9 #[.pointer (some ⟨gb, 0, none⟩), v] w fun e w' => e = .returned (errV (playE p fy r y)) ∧ DuG w2 w' ga gb p ⟨.slice A p.sl.length c, .slice AL p.lk.length cl, q⟩ fy x (playF p fy r y) w1 bs := by
  obtain ⟨a, b, h1, h2, h3, h4, h5⟩ := h
  obtain ⟨A1, c1, A2, c2, A3, c3, A4, c4, rfl, m1, m2, m3, m4, n1, n2, n3, n4⟩ := hv
  have hx := play_any w w2 A AL c cl rfl rfl h3.r hp hc hN hr hf hS hL h4 (Nat.le_refl _) h4.size hE A1 c1 r m1 n1 A2 c2 m2 n2 A3 c3 m3 n3 A4 c4 m4 n4
  rw [h2] at hx
  exact hx.mono fun e w' ⟨he, ht⟩ => ⟨he, .ofR h1 h2 h3 h4 h5 ht⟩
/-- What the law keeps. -/
structure ApI (p : Pl) (N R : Nat) (node : Int) (x y : Cl) : Prop where
  okx : ClOk p N x
  oky : ClOk p N y
  rx : x.rd ≤ R
  ap : Ap p node x y
def DuS (w2 w : World) (N R ga gb : Nat) (node : Int) (p : Pl) (P : Sv3) (fy : Nat) : Prop := ∃ x y : Cl, DuG w2 w ga gb p P fy x y w [] ∧ ApI p N R node x y
theorem DuS.bel {P : Sv3} {R : Nat} {node : Int} (h : DuS w2 w N R ga gb node p P fy) : Below w2.heap.size w2 w := by obtain ⟨x, y, h1, _⟩ := h; exact h1.bel
theorem DuS.below {P : Sv3} {R : Nat} {node : Int} (h : DuS w2 w N R ga gb node p P fy) (hB : Below w.heap.size w w') : DuS w2 w' N R ga gb node p P fy := by obtain ⟨x, y, h1, h2⟩ := h; exact ⟨x, y, (h1.below hB).drop _, h2⟩
theorem DuS.recv {R : Nat} {node : Int} (h : DuS w2 w N R ga gb node p ⟨.slice A p.sl.length c, .slice AL p.lk.length cl, q⟩ fy) (hp : PlOk p) (hL : LinksAt w2 AL p.lk.length p.lk) {k i : Nat} {l : Lk} (hl : p.lk[k]? = some l) (hf : l.f = node) (hi : (i : Int) < p.nd) :
    Calls Tryz.prog 13 #[.pointer (some ⟨ga, 0, none⟩), .int .i64 i, .int .i64 k] w fun e w' => ∃ (s : ByteArray) (er : Int), (er = 0 ∨ er = 2 ∨ er = 8) ∧ e = .returned (.tuple #[.string s, errV er]) ∧ Below w2.heap.size w2 w' ∧
      Calls Tryz.prog 13 #[.pointer (some ⟨gb, 0, none⟩), .int .i64 i, .int .i64 k] w' fun e2 w'' => e2 = .returned (.tuple #[.string s, errV er]) ∧ DuS w2 w'' N R ga gb node p ⟨.slice A p.sl.length c, .slice AL p.lk.length cl, q⟩ fy := by
  obtain ⟨x, y, hG, hI⟩ := h
  obtain ⟨a, b, h1, h2, h3, h4, h5⟩ := hG
  have hx := crecv_any w w2 AL cl rfl h3.l hp hI.okx hL h4 (Nat.le_refl _) h4.size k i l hl hi
  rw [h1] at hx
  have hpr : x.pr k = y.pr k := hI.ap.pr k l hl hf
  have hy := fun (w' : World) (a' : Ad) (x' : Cl) (e1 : a'.g = ga) (hD : DuoAt w' w2.heap.size a' b (fullN p) p ⟨.slice A p.sl.length c, .slice AL p.lk.length cl, q⟩ fy x' y) (hB : Below w2.heap.size w2 w') => crecv_any w' w2 AL cl rfl hD.r hp hI.oky hL hB (Nat.le_refl _) hB.size k i l hl hi
  rw [h2] at hy
  refine hx.mono ?_
  rintro e w' (⟨hb, rfl, ht⟩ | ⟨hb, hq, rfl, ht⟩ | ⟨hb, d, r, hq, rfl, ht⟩)
  · obtain ⟨a', e1, hD, hB, -, -⟩ := h3.stepL h4 h4.size ht
    refine ⟨_, 2, .inr (.inl rfl), rfl, hB, (hy w' a' x (e1.trans h1) hD hB).mono ?_⟩
    rintro e2 w'' (⟨-, rfl, ht2⟩ | ⟨hb2, -⟩ | ⟨hb2, -⟩)
    · exact ⟨rfl, x, y, .ofR (e1.trans h1) h2 hD hB (fun g hg => by simp at hg) ht2, hI⟩
    · rw [hb] at hb2; cases hb2
    · rw [hb] at hb2; cases hb2
  · obtain ⟨a', e1, hD, hB, -, -⟩ := h3.stepL h4 h4.size ht
    refine ⟨_, 8, .inr (.inr rfl), rfl, hB, (hy w' a' x (e1.trans h1) hD hB).mono ?_⟩
    rw [hpr] at hq
    rintro e2 w'' (⟨hb2, -⟩ | ⟨-, -, rfl, ht2⟩ | ⟨-, d2, q2, hq2, -⟩)
    · rw [hb] at hb2; cases hb2
    · exact ⟨rfl, x, y, .ofR (e1.trans h1) h2 hD hB (fun g hg => by simp at hg) ht2, hI⟩
    · rw [hq] at hq2; cases hq2
  · obtain ⟨a', e1, hD, hB, -, -⟩ := h3.stepL h4 h4.size ht
    refine ⟨_, 0, .inl rfl, rfl, hB, (hy w' a' _ (e1.trans h1) hD hB).mono ?_⟩
    rw [hpr] at hq
    rintro e2 w'' (⟨hb2, -⟩ | ⟨-, hq2, -⟩ | ⟨-, d2, q2, hq2, rfl, ht2⟩)
    · rw [hb] at hb2; cases hb2
    · rw [hq] at hq2; cases hq2
    · rw [hq] at hq2
      cases hq2
      exact ⟨rfl, _, _, .ofR (e1.trans h1) h2 hD hB (fun g hg => by simp at hg) ht2, clRecv_ok0 hI.okx k i, clRecv_ok0 hI.oky k i, hI.rx, hI.ap.recv k i⟩
end
end Go.Proofs.YtdogdlnaacimpaaGreatDoor
