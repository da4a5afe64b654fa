/- A sender and a receiver in memory, and metronomekeep.linked; no condition. -/
import Derived.Test.YtgdljdhibknjnaaVy
import Derived.Test.YtgdljdhibknjnaaVt
import Derived.Test.YtgdljdhibknjnaaVo
import Derived.Test.YtgdljdhibknjnaaVp
import Derived.Test.YtgdljdhibknjnaaAo
namespace Go.Proofs.Ytgdljdhibknjnaa
open Go.RowKit

theorem grown_below {w w1 w2 : World} {gr : Nat} (h : Below w.heap.size w w1) (k : w1.grownBy w2 (some gr)) (hg : w.heap.size ≤ gr) : Below w.heap.size w w2 :=
  ⟨k.os.trans h.os, k.tape.trans h.tape, k.output.trans h.output, Nat.le_trans h.size k.size, fun i hi => (k.block i (Nat.lt_of_lt_of_le hi h.size) (by simp; omega)).trans (h.block i hi)⟩
/-- Both in memory. -/
structure LkAt (w wr : World) (bag que : Int) (g1 : Nat) (v : Value) (nx la nw : Int) (q : List ByteArray) (g2 : Nat) (rc : Array Value) : Prop where
  b1 : Blk wr g1 116 (sdC bag que v nx la nw)
  q1 : QAt wr w.heap.size 9 v (sv q)
  b2 : Blk wr g2 107 rc
  n1 : w.heap.size ≤ g1
  n2 : w.heap.size ≤ g2
  n12 : g1 ≠ g2
  o1 : ∀ k, v.ownBlock = some k → w.heap.size ≤ k ∧ k < wr.heap.size ∧ k ≠ g1 ∧ k ≠ g2
  old : Below w.heap.size w wr
section
variable {w w1 w2 : World} {bag que : Int} {g1 : Nat} {v : Value} {nx la nw : Int} {q : List ByteArray} {g2 : Nat} {rc : Array Value}
theorem LkAt.below (h : LkAt w w1 bag que g1 v nx la nw q g2 rc) (hB : Below w1.heap.size w1 w2) : LkAt w w2 bag que g1 v nx la nw q g2 rc :=
  ⟨h.b1.below hB h.b1.lt, h.q1.below hB (Nat.le_refl _), h.b2.below hB h.b2.lt, h.n1, h.n2, h.n12, fun k e => ⟨(h.o1 k e).1, Nat.lt_of_lt_of_le (h.o1 k e).2.1 hB.size, (h.o1 k e).2.2⟩, h.old.trans (hB.mono h.old.size)⟩
theorem LkAt.olt (h : LkAt w w1 bag que g1 v nx la nw q g2 rc) : ∀ k, v.ownBlock = some k → k < w1.heap.size := fun k e => (h.o1 k e).2.1
theorem LkAt.og (h : LkAt w w1 bag que g1 v nx la nw q g2 rc) : v.ownBlock ≠ some g1 := fun e => (h.o1 _ e).2.2.1 rfl
theorem LkAt.alloc (h : LkAt w w1 bag que g1 v nx la nw q g2 rc) (o : Obj) : LkAt w (w1.alloc o) bag que g1 v nx la nw q g2 rc := h.below ((Below.refl _ _).alloc (Nat.le_refl _) o)
theorem LkAt.step {nx' la' nw' : Int} {q' : List ByteArray} (h : LkAt w w1 bag que g1 v nx la nw q g2 rc) (hs : SdPost w1 w.heap.size g1 bag que v nx' la' nw' q' w2) : ∃ v', LkAt w w2 bag que g1 v' nx' la' nw' q' g2 rc ∧ Own w1 w2 v v' ∧ Kept2 w1 w2 g1 v.ownBlock := by
  obtain ⟨v', hb, hq, hk, ho⟩ := hs
  have l1 := h.b1.lt
  have l2 := h.b2.lt
  have ls := h.old.size
  refine ⟨v', ⟨hb, hq, h.b2.kept2 hk h.n12.symm (fun e => (h.o1 _ e).2.2.2 rfl), h.n1, h.n2, h.n12, ?_, Kept2.below h.old ls hk h.n1 (fun k e => (h.o1 k e).1)⟩, ho, hk⟩
  intro k e
  obtain ⟨hlt, hold | hnew⟩ := ho k e
  · have := h.o1 k hold
    exact ⟨this.1, hlt, this.2.2⟩
  · exact ⟨by omega, hlt, by omega, by omega⟩
theorem LkAt.take {rc' : Array Value} (h : LkAt w w1 bag que g1 v nx la nw q g2 rc) (hb : Blk w2 g2 107 rc') (hg : w1.grownBy w2 (some g2)) : LkAt w w2 bag que g1 v nx la nw q g2 rc' :=
  ⟨h.b1.grown hg (fun e => h.n12 (Option.some.inj e)), h.q1.grown hg (.inr fun e => (h.o1 _ e).2.2.2 rfl), hb, h.n1, h.n2, h.n12, fun k e => ⟨(h.o1 k e).1, Nat.lt_of_lt_of_le (h.o1 k e).2.1 hg.size, (h.o1 k e).2.2⟩, grown_below h.old hg h.n2⟩
end
theorem blk_two {w : World} {g : Nat} {t : TypeId} {a b : Value} (h : Blk w g t #[a, b]) : w.cell? ⟨g, 0, none⟩ = some a ∧ w.cell? ⟨g, 1, none⟩ = some b := ⟨by simpa using h.cell 0, by simpa using h.cell 1⟩
theorem linked_start {w : World} {bag que : Int} {g : Nat} {w1 : World} (hB : Below w.heap.size w w1) (hg : w.heap.size ≤ g) (hb : Blk w1 g 116 (sdC bag que (.slice none 0 0) 0 (-1) 0)) :
    LkAt w (w1.alloc (.cells #[.int .i64 (-1), .int .i64 0, .int .i64 0] 107)) bag que g (.slice none 0 0) 0 (-1) 0 [] w1.heap.size #[.int .i64 (-1), .int .i64 0, .int .i64 0] :=
  ⟨hb.alloc _, QAt.nil _ _ _ _, Blk.new w1 _ _, hg, hB.size, Nat.ne_of_lt hb.lt, fun k e => by simp [Value.ownBlock] at e, hB.alloc hB.size _⟩
theorem take1 : takeSt 0 (-1) 0 0 = #[.int .i64 0, .int .i64 1, .int .i64 0] := rfl
theorem takeB1 : takeB 0 (-1) = true := rfl
theorem takeB2 : takeB 0 0 = false := rfl
set_option maxRecDepth 100000 in
set_option maxHeartbeats 4000000 in
theorem linked_any (w : World) : Calls Try.prog 32 #[] w fun e w' => e = .returned (.bool true) ∧ Below w.heap.size w w' := by
  go_enter Try.func32, Try.ntmps32
  go_wp2_with fail
  refine (newSender_ok 5 2 _ (by decide) (by decide) (by decide) (by decide)).mono ?_
  rintro e w1 ⟨g, rfl, hB, hg, hb⟩
  have HS := hide (linked_start hB hg hb)
  clear hB hg hb
  go_wp2_with fail
  refine (newReceiver_any _).mono ?_
  rintro e w2 ⟨rfl, rfl⟩
  obtain ⟨g2, hg2⟩ : ∃ g2, w1.heap.size = g2 := ⟨_, rfl⟩
  obtain ⟨w2, hw2⟩ : ∃ w2, w1.alloc (.cells #[.int .i64 (-1), .int .i64 0, .int .i64 0] 107) = w2 := ⟨_, rfl⟩
  rw [hg2, hw2] at HS
  rw [hg2, hw2]
  clear hg2 hw2
  go_wp2_with fail
  refine (sput_any g w.heap.size 5 2 (.slice none 0 0) 0 (-1) 0 [] _ ⟨#[120]⟩ 0 (hide rfl) HS.out.b1 HS.out.q1 (by exact fun k e => (HS.out.o1 k e).2.1) (by exact fun e => (HS.out.o1 _ e).2.2.1 rfl) HS.out.old.size (by decide) (by decide)).mono ?_
  rintro r w3 ⟨rfl, hs⟩
  obtain ⟨v3, hL, -, -⟩ := HS.out.step hs
  have HL3 := hide hL
  clear HS hs hL
  go_wp2_with fail
  refine (ssend_ok g w.heap.size 5 2 v3 0 (-1) 0 [] _ 9 ⟨#[120]⟩ (hide rfl) HL3.out.b1 HL3.out.q1 (by exact fun k e => (HL3.out.o1 k e).2.1) (by exact fun e => (HL3.out.o1 _ e).2.2.1 rfl) (by decide) (by decide) (by decide)).mono ?_
  rintro r w4 ⟨rfl, hs⟩
  obtain ⟨v4, hL, -, -⟩ := HL3.out.step hs
  have HL4 := hide (hL.alloc (.cells #[.int .i64 0, .string ⟨#[120]⟩] 30))
  obtain ⟨j0, j1⟩ := blk_two (Blk.new w4 30 #[.int .i64 0, .string ⟨#[120]⟩])
  have HJ := hide (Blk.new w4 30 #[.int .i64 0, .string ⟨#[120]⟩])
  have HNE : Hid (w4.heap.size ≠ g2) := hide (Nat.ne_of_gt hL.b2.lt)
  clear HL3 hs hL
  go_wp2_with fail
  refine (take_any g2 0 (-1) 0 0 ⟨#[120]⟩ _ HL4.out.b2 (by decide) (by decide) (by decide) (by decide) (by decide) (by decide)).mono ?_
  rw [take1, takeB1]
  rintro r w5 ⟨rfl, hb, hg⟩
  have HL5 := hide (HL4.out.take hb hg)
  have HJ5 := hide (HJ.out.grown hg (fun e => HNE.out (Option.some.inj e)))
  clear hb hg j0 j1 HJ HL4
  obtain ⟨j0, j1⟩ := blk_two HJ5.out
  go_wp2_with fail
  refine (take_any g2 0 0 1 0 ⟨#[120]⟩ _ HL5.out.b2 (by decide) (by decide) (by decide) (by decide) (by decide) (by decide)).mono ?_
  rw [takeB2]
  rintro r w6 ⟨rfl, hb, hg⟩
  have HL6 := hide (HL5.out.take hb hg)
  clear hb hg
  go_wp2_with fail
  go_ret
  exact ⟨rfl, HL6.out.old⟩
end Go.Proofs.Ytgdljdhibknjnaa
