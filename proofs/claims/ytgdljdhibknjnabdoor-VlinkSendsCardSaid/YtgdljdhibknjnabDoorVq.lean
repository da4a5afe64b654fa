/- The contracts of the document's sender's methods; conditions: the sender lies in a block of its own, its texts in another one. -/
import Derived.Test.YtgdljdhibknjnabDoorVs
namespace Go.Proofs.YtgdljdhibknjnabDoor
open Go.RowKit

def rsC (bag que : Int) (v : Value) (went last nw : Int) : Array Value := #[.int .i64 bag, .int .i64 que, v, .int .i64 went, .int .i64 last, .int .i64 nw]
theorem Blk.cells6 {w : World} {g : Nat} {t : TypeId} {a0 a1 a2 a3 a4 a5 : Value} (h : Blk w g t #[a0, a1, a2, a3, a4, a5]) :
    w.cell? ⟨g, 0, none⟩ = some a0 ∧ w.cell? ⟨g, 1, none⟩ = some a1 ∧ w.cell? ⟨g, 2, none⟩ = some a2 ∧ w.cell? ⟨g, 3, none⟩ = some a3 ∧ w.cell? ⟨g, 4, none⟩ = some a4 ∧ w.cell? ⟨g, 5, none⟩ = some a5 :=
  ⟨by simpa using h.cell 0, by simpa using h.cell 1, by simpa using h.cell 2, by simpa using h.cell 3, by simpa using h.cell 4, by simpa using h.cell 5⟩
/-- What the document's sender's methods leave. -/
def RsPost (w : World) (base g : Nat) (bag que : Int) (v : Value) (went last nw : Int) (all : List ByteArray) (w' : World) : Prop :=
  ∃ v', Blk w' g 55 (rsC bag que v' went last nw) ∧ QAt w' base 9 v' (sv all) ∧ Kept2 w w' g v.ownBlock ∧ Own w w' v v'
theorem RsPost.same {w w' : World} {base g : Nat} {bag que : Int} {v : Value} {went last nw : Int} {all : List ByteArray} (hb : Blk w g 55 (rsC bag que v went last nw)) (hQ : QAt w base 9 v (sv all)) (hv : ∀ k, v.ownBlock = some k → k < w.heap.size) (hB : Below w.heap.size w w') : RsPost w base g bag que v went last nw all w' :=
  ⟨v, hb.below hB hb.lt, hQ.below hB (Nat.le_refl _), Kept2.of_below hB _ _, fun k e => ⟨Nat.lt_of_lt_of_le (hv k e) hB.size, .inl e⟩⟩

/-- Both senders in memory. -/
structure LsAt (w wr : World) (bag que : Int) (g1 : Nat) (v1 : Value) (nx la nw : Int) (q : List ByteArray) (g2 : Nat) (v2 : Value) (went : Nat) (last nw2 : Int) (all : List ByteArray) : Prop where
  b1 : Blk wr g1 149 (sdC bag que v1 nx la nw)
  b2 : Blk wr g2 55 (rsC bag que v2 went last nw2)
  q1 : QAt wr w.heap.size 9 v1 (sv q)
  q2 : QAt wr w.heap.size 9 v2 (sv all)
  n1 : w.heap.size ≤ g1
  n2 : w.heap.size ≤ g2
  n12 : g1 ≠ g2
  o1 : ∀ k, v1.ownBlock = some k → w.heap.size ≤ k ∧ k < wr.heap.size ∧ k ≠ g1 ∧ k ≠ g2
  o2 : ∀ k, v2.ownBlock = some k → w.heap.size ≤ k ∧ k < wr.heap.size ∧ k ≠ g1 ∧ k ≠ g2 ∧ v1.ownBlock ≠ some k
  old : Below w.heap.size w wr
section
variable {w w1 w2 : World} {bag que : Int} {g1 : Nat} {v1 : Value} {nx la nw : Int} {q : List ByteArray} {g2 : Nat} {v2 : Value} {went : Nat} {last nw2 : Int} {all : List ByteArray}
theorem LsAt.below (h : LsAt w w1 bag que g1 v1 nx la nw q g2 v2 went last nw2 all) (hB : Below w1.heap.size w1 w2) : LsAt w w2 bag que g1 v1 nx la nw q g2 v2 went last nw2 all :=
  ⟨h.b1.below hB h.b1.lt, h.b2.below hB h.b2.lt, h.q1.below hB (Nat.le_refl _), h.q2.below hB (Nat.le_refl _), h.n1, h.n2, h.n12, fun k e => ⟨(h.o1 k e).1, Nat.lt_of_lt_of_le (h.o1 k e).2.1 hB.size, (h.o1 k e).2.2⟩, fun k e => ⟨(h.o2 k e).1, Nat.lt_of_lt_of_le (h.o2 k e).2.1 hB.size, (h.o2 k e).2.2⟩, h.old.trans (hB.mono h.old.size)⟩
theorem LsAt.alloc (h : LsAt w w1 bag que g1 v1 nx la nw q g2 v2 went last nw2 all) (o : Obj) : LsAt w (w1.alloc o) bag que g1 v1 nx la nw q g2 v2 went last nw2 all := h.below ((Below.refl _ _).alloc (Nat.le_refl _) o)
theorem LsAt.drew (h : LsAt w w1 bag que g1 v1 nx la nw q g2 v2 went last nw2 all) : LsAt w w1.drew bag que g1 v1 nx la nw q g2 v2 went last nw2 all := h.below (below_drewN (Below.refl _ _) 1)
theorem LsAt.step1 {nx' la' nw' : Int} {q' : List ByteArray} (h : LsAt w w1 bag que g1 v1 nx la nw q g2 v2 went last nw2 all) (hs : SdPost w1 w.heap.size g1 bag que v1 nx' la' nw' q' w2) : ∃ v', LsAt w w2 bag que g1 v' nx' la' nw' q' g2 v2 went last nw2 all := by
  obtain ⟨v', hb, hq, hk, ho⟩ := hs
  have l1 := h.b1.lt
  have l2 := h.b2.lt
  have ls := h.old.size
  refine ⟨v', hb, h.b2.kept2 hk h.n12.symm (fun e => (h.o1 _ e).2.2.2 rfl), hq, h.q2.kept2 hk (fun e => (h.o2 _ e).2.2.1 rfl) (fun k e => (h.o2 k e).2.2.2.2), h.n1, h.n2, h.n12, ?_, ?_, Kept2.below h.old ls hk h.n1 (fun k e => (h.o1 k e).1)⟩
  · intro k e
    obtain ⟨hlt, hold | hnew⟩ := ho k e
    · have := h.o1 k hold
      exact ⟨this.1, hlt, this.2.2⟩
    · exact ⟨by omega, hlt, by omega, by omega⟩
  · intro k e
    obtain ⟨a, b, c, d, f⟩ := h.o2 k e
    refine ⟨a, Nat.lt_of_lt_of_le b hk.size, c, d, fun e' => ?_⟩
    obtain ⟨hlt, hold | hnew⟩ := ho k e'
    · exact f hold
    · omega
theorem LsAt.step2 {went' : Nat} {last' nw' : Int} {all' : List ByteArray} (h : LsAt w w1 bag que g1 v1 nx la nw q g2 v2 went last nw2 all) (hs : RsPost w1 w.heap.size g2 bag que v2 went' last' nw' all' w2) : ∃ v', LsAt w w2 bag que g1 v1 nx la nw q g2 v' went' last' nw' all' := by
  obtain ⟨v', hb, hq, hk, ho⟩ := hs
  have l1 := h.b1.lt
  have l2 := h.b2.lt
  have ls := h.old.size
  refine ⟨v', h.b1.kept2 hk h.n12 (fun e => (h.o2 _ e).2.2.1 rfl), hb, h.q1.kept2 hk (fun e => (h.o1 _ e).2.2.2 rfl) (fun k e e' => (h.o2 k e').2.2.2.2 e), hq, h.n1, h.n2, h.n12, ?_, ?_, Kept2.below h.old ls hk h.n2 (fun k e => (h.o2 k e).1)⟩
  · intro k e
    have := h.o1 k e
    exact ⟨this.1, Nat.lt_of_lt_of_le this.2.1 hk.size, this.2.2⟩
  · intro k e
    obtain ⟨hlt, hold | hnew⟩ := ho k e
    · have := h.o2 k hold
      exact ⟨this.1, hlt, this.2.2⟩
    · exact ⟨by omega, hlt, by omega, by omega, fun e' => by have := h.o1 k e'; omega⟩
end
end Go.Proofs.YtgdljdhibknjnabDoor
