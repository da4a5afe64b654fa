/- Uses of ports as an argument taken apart, and both ports in memory; no condition. -/
import Derived.Test.YtgdljdhibknjnabDoorOx
import Derived.Test.YtgdljdhibknjnabDoorQa
namespace Go.Proofs.YtgdljdhibknjnabDoor
open Go.ChangeShapes Go.WideShapes Go.ChangeAt Go.RowKit Go.Deep

theorem wf64c {n : Int} (h : (Lit.int .i64 n).wf = true) : -9223372036854775808 ≤ n ∧ n ≤ 9223372036854775807 := by
  simp only [Lit.wf, Bool.and_eq_true, decide_eq_true_eq] at h
  exact ⟨h.1, h.2⟩
def UsesAt (W : World) (A : Option Addr) (n : Nat) (ws : List Ask) : Prop := ∀ j, j < n → ∃ b off, A = some ⟨b, off, none⟩ ∧ ∃ w : Ask, ws[j]? = some w ∧ (w.d.size ≤ maxLen ∧ w.n ≤ 9223372036854775807) ∧ W.cell? ⟨b, off + j * 3, none⟩ = some (.int .i64 w.k) ∧ W.cell? ⟨b, off + j * 3 + 1, none⟩ = some (.int .i64 w.n) ∧ W.cell? ⟨b, off + j * 3 + 2, none⟩ = some (.string w.d)
theorem UsesAt.below {w W : World} {A : Option Addr} {n : Nat} {ws : List Ask} (h : UsesAt w A n ws) (hB : Below w.heap.size w W) : UsesAt W A n ws := by
  intro j hj
  obtain ⟨b, off, hA, y, hy, hd, c0, c1, c2⟩ := h j hj
  have hb := World.block_lt_of_cell? _ _ c0
  exact ⟨b, off, hA, y, hy, hd, (hB.cell (p := ⟨b, off + j * 3, none⟩) hb).trans c0, (hB.cell (p := ⟨b, off + j * 3 + 1, none⟩) hb).trans c1, (hB.cell (p := ⟨b, off + j * 3 + 2, none⟩) hb).trans c2⟩
section
variable {H : Type} {enc : TypeId × Value → H} {W : World} {b0 : Nat} {sp : Nat → Bool} {hd : Bool}
theorem trod_iisw {t0 fuel : Nat} {cs : List Value} {x : DataW H × List MemPlace} {f0 f1 f2 : Field} (hs : Tryd.prog.underlying t0 = some (.struct #[f0, f1, f2])) (hC : Tryd.prog.cellsOf t0 = 3) (h0 : f0.type = 3 ∧ f0.offset = 0) (h1 : f1.type = 3 ∧ f1.offset = 1) (h2 : f2.type = 9 ∧ f2.offset = 2)
    (h : DataW.trod enc Tryd.prog W b0 sp hd fuel t0 cs = some x) : ∃ (a b : Int) (s : ByteArray), cs = [.int .i64 a, .int .i64 b, .string s] ∧ s.size ≤ maxLen ∧ b ≤ 9223372036854775807 := by
  have cStr : Tryd.prog.cellsOf 9 = 1 := by kernel_rfl
  obtain ⟨xs, n, _, _, hl, hxl, hg⟩ := DataW.trod_struct hs h
  obtain ⟨c0, c1, c2, rfl⟩ := list3 (hl.trans hC)
  obtain ⟨x0, x1, x2, rfl⟩ := list3 hxl
  have g0 := hg 0 _ rfl
  have g1 := hg 1 _ rfl
  have g2 := hg 2 _ rfl
  simp [cInt, cStr, h0.1, h0.2, h1.1, h1.2, h2.1, h2.2] at g0 g1 g2
  obtain ⟨a, e0, _⟩ := DataW.trod_int Tryd.underlying3 g0
  obtain ⟨b, e1, _, hw⟩ := DataW.trod_int Tryd.underlying3 g1
  obtain ⟨s, e2, _, hs⟩ := DataW.trod_string Tryd.underlying9 g2
  simp at e0 e1 e2
  exact ⟨a, b, s, by rw [e0, e1, e2], hs, (wf64c hw).2⟩
set_option maxRecDepth 100000 in
theorem open_uses {t e : TypeId} {f0 f1 f2 : Field} {v : Value} {d : DataW H} {p : List MemPlace} {r : Reach} {B : Nat} (ht : Tryd.prog.underlying t = some (.slice e)) (hs : Tryd.prog.underlying e = some (.struct #[f0, f1, f2])) (hC : Tryd.prog.cellsOf e = 3) (h0 : f0.type = 3 ∧ f0.offset = 0) (h1 : f1.type = 3 ∧ f1.offset = 1) (h2 : f2.type = 9 ∧ f2.offset = 2)
    (h : DataW.Trod enc Tryd.prog W b0 (fun _ => true) hd t v d p) (hv : Value.okWide Tryd.prog W r B t v) :
    ∃ (A : Option Addr) (len cap : Nat) (l : List Ask), v = .slice A len cap ∧ len ≤ cap ∧ cap ≤ maxLen ∧ l.length = len ∧ UsesAt W A len l := by
  obtain ⟨a0, len, cap, rfl⟩ := okWide_slice ht hv
  obtain ⟨fuel, hf⟩ := h
  haveI : Inhabited { a : Ask // a.d.size ≤ maxLen ∧ a.n ≤ 9223372036854775807 } := ⟨⟨⟨0, 0, ⟨#[]⟩⟩, by simp [ByteArray.size]⟩⟩
  obtain ⟨A, len, cap, l, e1, e2, e3, e4, e5⟩ := open_rows (fun w : { a : Ask // a.d.size ≤ maxLen ∧ a.n ≤ 9223372036854775807 } => [.int .i64 w.1.k, .int .i64 w.1.n, .string w.1.d]) ht hC (by decide) (fun fuel cs y hy => by obtain ⟨a, b, s, e, hs, hb⟩ := trod_iisw hs hC h0 h1 h2 hy; exact ⟨⟨⟨a, b, s⟩, ⟨hs, hb⟩⟩, e⟩) (fun _ => rfl) hf
  refine ⟨A, len, cap, l.map (·.1), e1, e2, e3, by simpa using e4, fun j hj => ?_⟩
  obtain ⟨b, off, hA, a, ha, hcell⟩ := e5 j hj
  exact ⟨b, off, hA, a.1, by simp [ha], a.2, hcell 0 (by decide), hcell 1 (by decide), hcell 2 (by decide)⟩
end

/-- Both ports in memory, and the texts that wait, once more. -/
structure PrAt (w wr : World) (keep most : Int) (g1 : Nat) (d : ByteArray) (at_ : Int) (g2 : Nat) (v1 : Value) (lost : Int) (v2 : Value) (q : List ByteArray) : Prop where
  b1 : Blk wr g1 159 (saC keep d at_)
  b2 : Blk wr g2 161 (quC most v1 lost)
  q1 : QAt wr w.heap.size 9 v1 (sv q)
  q2 : QAt wr w.heap.size 9 v2 (sv q)
  n1 : w.heap.size ≤ g1
  n2 : w.heap.size ≤ g2
  n12 : g1 ≠ g2
  o1 : ∀ k, v1.ownBlock = some k → w.heap.size ≤ k ∧ k < wr.heap.size ∧ k ≠ g1 ∧ k ≠ g2
  o2 : ∀ k, v2.ownBlock = some k → w.heap.size ≤ k ∧ k < wr.heap.size ∧ k ≠ g1 ∧ k ≠ g2 ∧ v1.ownBlock ≠ some k
  old : Below w.heap.size w wr
/-- .. while the texts that wait in the port are others. -/
structure PrH (w wr : World) (keep most : Int) (g1 : Nat) (d : ByteArray) (at_ : Int) (g2 : Nat) (v1 : Value) (lost : Int) (p : List ByteArray) (v2 : Value) (q : List ByteArray) : Prop where
  b1 : Blk wr g1 159 (saC keep d at_)
  b2 : Blk wr g2 161 (quC most v1 lost)
  q1 : QAt wr w.heap.size 9 v1 (sv p)
  q2 : QAt wr w.heap.size 9 v2 (sv q)
  n1 : w.heap.size ≤ g1
  n2 : w.heap.size ≤ g2
  n12 : g1 ≠ g2
  o1 : ∀ k, v1.ownBlock = some k → w.heap.size ≤ k ∧ k < wr.heap.size ∧ k ≠ g1 ∧ k ≠ g2
  o2 : ∀ k, v2.ownBlock = some k → w.heap.size ≤ k ∧ k < wr.heap.size ∧ k ≠ g1 ∧ k ≠ g2 ∧ v1.ownBlock ≠ some k
  old : Below w.heap.size w wr
section
variable {w w1 w2 : World} {keep most : Int} {g1 : Nat} {d : ByteArray} {at_ : Int} {g2 : Nat} {v1 : Value} {lost : Int} {v2 : Value} {p q : List ByteArray}
theorem PrAt.h (h : PrAt w w1 keep most g1 d at_ g2 v1 lost v2 q) : PrH w w1 keep most g1 d at_ g2 v1 lost q v2 q := ⟨h.b1, h.b2, h.q1, h.q2, h.n1, h.n2, h.n12, h.o1, h.o2, h.old⟩
theorem PrH.eq_ {at0 : Int} (h : PrH w w1 keep most g1 d at0 g2 v1 lost q v2 q) : PrAt w w1 keep most g1 d at0 g2 v1 lost v2 q := ⟨h.b1, h.b2, h.q1, h.q2, h.n1, h.n2, h.n12, h.o1, h.o2, h.old⟩
theorem PrH.below (h : PrH w w1 keep most g1 d at_ g2 v1 lost p v2 q) (hB : Below w1.heap.size w1 w2) : PrH w w2 keep most g1 d at_ g2 v1 lost p v2 q :=
  ⟨h.b1.below hB h.b1.lt, h.b2.below hB h.b2.lt, h.q1.below hB (Nat.le_refl _), h.q2.below hB (Nat.le_refl _), h.n1, h.n2, h.n12, fun k e => ⟨(h.o1 k e).1, Nat.lt_of_lt_of_le (h.o1 k e).2.1 hB.size, (h.o1 k e).2.2⟩, fun k e => ⟨(h.o2 k e).1, Nat.lt_of_lt_of_le (h.o2 k e).2.1 hB.size, (h.o2 k e).2.2⟩, h.old.trans (hB.mono h.old.size)⟩
theorem PrAt.below (h : PrAt w w1 keep most g1 d at_ g2 v1 lost v2 q) (hB : Below w1.heap.size w1 w2) : PrAt w w2 keep most g1 d at_ g2 v1 lost v2 q := (h.h.below hB).eq_
theorem PrAt.alloc (h : PrAt w w1 keep most g1 d at_ g2 v1 lost v2 q) (o : Obj) : PrAt w (w1.alloc o) keep most g1 d at_ g2 v1 lost v2 q := h.below ((Below.refl _ _).alloc (Nat.le_refl _) o)
theorem PrAt.drewN (h : PrAt w w1 keep most g1 d at_ g2 v1 lost v2 q) (n : Nat) : PrAt w (w1.drewN n) keep most g1 d at_ g2 v1 lost v2 q := h.below (below_drewN (Below.refl _ _) n)
/-- The sampling port is written. -/
theorem PrAt.samp {d' : ByteArray} {at' : Int} (h : PrAt w w1 keep most g1 d at_ g2 v1 lost v2 q) (hb : Blk w2 g1 159 (saC keep d' at')) (hg : w1.grownBy w2 (some g1)) : PrAt w w2 keep most g1 d' at' g2 v1 lost v2 q :=
  ⟨hb, h.b2.grown hg (fun e => h.n12 (Option.some.inj e).symm), h.q1.grown hg (.inr fun e => (h.o1 _ e).2.2.1 rfl), h.q2.grown hg (.inr fun e => (h.o2 _ e).2.2.1 rfl), h.n1, h.n2, h.n12, fun k e => ⟨(h.o1 k e).1, Nat.lt_of_lt_of_le (h.o1 k e).2.1 hg.size, (h.o1 k e).2.2⟩, fun k e => ⟨(h.o2 k e).1, Nat.lt_of_lt_of_le (h.o2 k e).2.1 hg.size, (h.o2 k e).2.2⟩,
    ⟨hg.os.trans h.old.os, hg.tape.trans h.old.tape, hg.output.trans h.old.output, Nat.le_trans h.old.size hg.size, fun i hi => (hg.block i (Nat.lt_of_lt_of_le hi h.old.size) (by have := h.n1; simp; omega)).trans (h.old.block i hi)⟩⟩
/-- The queuing port's turn. -/
theorem PrH.que {lost' : Int} {p' : List ByteArray} (h : PrH w w1 keep most g1 d at_ g2 v1 lost p v2 q) (hs : QuPost w1 w.heap.size g2 most v1 lost' p' w2) : ∃ v', PrH w w2 keep most g1 d at_ g2 v' lost' p' v2 q := by
  obtain ⟨v', hb, hq, hk, ho⟩ := hs
  have l1 := h.b1.lt
  have l2 := h.b2.lt
  have ls := h.old.size
  refine ⟨v', h.b1.kept2 hk h.n12 (fun e => (h.o1 _ e).2.2.1 rfl), hb, hq, h.q2.kept2 hk (fun e => (h.o2 _ e).2.2.2.1 rfl) (fun k e => (h.o2 k e).2.2.2.2), h.n1, h.n2, h.n12, ?_, ?_, Kept2.below h.old ls hk h.n2 (fun k e => (h.o1 k e).1)⟩
  · intro k e
    obtain ⟨hlt, hold | hnew⟩ := ho k e
    · have := h.o1 k hold
      exact ⟨this.1, hlt, this.2.2⟩
    · exact ⟨by omega, hlt, by omega, by omega⟩
  · intro k e
    obtain ⟨a, b, c, d, f⟩ := h.o2 k e
    refine ⟨a, Nat.lt_of_lt_of_le b hk.size, c, d, fun e' => ?_⟩
    obtain ⟨hlt, hold | hnew⟩ := ho k e'
    · exact f hold
    · omega
/-- What the law keeps itself: one more at the end. -/
theorem PrH.app {x : ByteArray} {g o c : Nat} (h : PrH w w1 keep most g1 d at_ g2 v1 lost p v2 q) (hq : QAt w2 w.heap.size 9 (.slice (some ⟨g, o, none⟩) ((sv q).length + 1) c) (sv q ++ [.string x])) (hg : w1.grownBy w2 v2.ownBlock) (hor : v2.ownBlock = some g ∨ w1.heap.size ≤ g) (hlt : g < w2.heap.size) : PrH w w2 keep most g1 d at_ g2 v1 lost p (.slice (some ⟨g, o, none⟩) ((sv q).length + 1) c) (q ++ [x]) := by
  have l1 := h.b1.lt
  have l2 := h.b2.lt
  have ls := h.old.size
  refine ⟨h.b1.grown hg (fun e => (h.o2 _ e.symm).2.2.1 rfl), h.b2.grown hg (fun e => (h.o2 _ e.symm).2.2.2.1 rfl), h.q1.grown hg ?_, by rw [sv_snoc]; exact hq, h.n1, h.n2, h.n12, fun k e => ⟨(h.o1 k e).1, Nat.lt_of_lt_of_le (h.o1 k e).2.1 hg.size, (h.o1 k e).2.2⟩, ?_, ?_⟩
  · cases hv : v1.ownBlock with
    | none => exact .inl rfl
    | some b => exact .inr fun e => (h.o2 b e.symm).2.2.2.2 hv
  · intro k e
    simp [Value.ownBlock] at e
    subst e
    rcases hor with e | e
    · have := h.o2 g e
      exact ⟨this.1, hlt, this.2.2⟩
    · exact ⟨by omega, hlt, by omega, by omega, fun e' => by have := (h.o1 g e').2.1; omega⟩
  · exact ⟨hg.os.trans h.old.os, hg.tape.trans h.old.tape, hg.output.trans h.old.output, Nat.le_trans h.old.size hg.size, fun i hi => (hg.block i (Nat.lt_of_lt_of_le hi ls) (fun e => by have := (h.o2 i e.symm).1; omega)).trans (h.old.block i hi)⟩
/-- .. and the first one off. -/
theorem PrH.tail {x : ByteArray} {g o n c : Nat} {ao2 : Option Addr} (h : PrH w w1 keep most g1 d at_ g2 v1 lost p (.slice (some ⟨g, o, none⟩) n c) (x :: q)) (ha : ao2 = if c = 1 then some ⟨g, o, none⟩ else some ⟨g, o + 1, none⟩) : PrH w w1 keep most g1 d at_ g2 v1 lost p (.slice ao2 (n - 1) (c - 1)) q := by
  have hq := h.q2.tail
  rw [← ha] at hq
  have ho : (Value.slice ao2 (n - 1) (c - 1)).ownBlock = some g := by rw [ha]; split <;> rfl
  exact ⟨h.b1, h.b2, h.q1, hq, h.n1, h.n2, h.n12, h.o1, fun k e => h.o2 k (by rw [ho] at e; exact e), h.old⟩
end
end Go.Proofs.YtgdljdhibknjnabDoor
