/- The contract of metronomeref.NewMember, and both members in memory; no condition. -/
import Derived.Test.YtgdljdhibknjnabDoorNe
import Derived.Test.YtgdljdhibknjnabDoorNb
namespace Go.Proofs.YtgdljdhibknjnabDoor
open Go.RowKit

set_option maxRecDepth 100000 in
set_option maxHeartbeats 1000000 in
theorem rnew_bad (id n : Int) (w : World) (h : n < 1 ∨ 16 < n ∨ id < 0 ∨ n ≤ id) :
    Calls Tryd.prog 39 #[.int .i64 id, .int .i64 n] w fun e w' => e = .returned (.tuple #[.pointer none, .bool false]) ∧ w' = w := by
  by_cases hn : 1 ≤ n ∧ n ≤ 16
  · obtain ⟨N, rfl⟩ : ∃ N : Nat, n = N := ⟨n.toNat, by omega⟩
    have HV1 := hide (in_is (N : Int) 1 16 true (by simp [inB]; omega))
    have HV2 := hide (in_is id 0 ((N : Int) - 1) false (by simp only [inB, Bool.and_eq_false_iff, decide_eq_false_iff_not]; omega))
    have h1 : 1 ≤ N := by omega
    have h2 : N ≤ 16 := by omega
    clear h hn
    go_enter Tryd.func39, Tryd.ntmps39
    go_wp2_with (go_at_call 70; first | (with_reducible refine (HV1.out _).mono ?_; rintro e w' ⟨rfl, rfl⟩) | (with_reducible refine (HV2.out _).mono ?_; rintro e w' ⟨rfl, rfl⟩))
    go_ret2
    exact ⟨rfl, rfl⟩
  · have HV1 := hide (in_is n 1 16 false (by simp only [inB, Bool.and_eq_false_iff, decide_eq_false_iff_not]; omega))
    clear h hn
    go_enter Tryd.func39, Tryd.ntmps39
    go_wp2_with (go_at_call 70; with_reducible refine (HV1.out _).mono ?_; rintro e w' ⟨rfl, rfl⟩)
    go_ret2
    exact ⟨rfl, rfl⟩
theorem pow_full (n i : Nat) (h : i < n) : (2 ^ n - 1).testBit i = true := by rw [Nat.testBit_two_pow_sub_one]; simp [h]
set_option maxRecDepth 100000 in
set_option maxHeartbeats 1000000 in
theorem rnew_ok (id n : Nat) (w : World) (hi : id < n) (hn : n ≤ 16) :
    Calls Tryd.prog 39 #[.int .i64 id, .int .i64 n] w fun e w' => ∃ g gt, e = .returned (.tuple #[.pointer (some ⟨g, 0, none⟩), .bool true]) ∧ w.heap.size ≤ g ∧ w.heap.size ≤ gt ∧ g ≠ gt ∧ Blk w' g 108 (refC id n gt 1 0 false) ∧ Blk w' gt 4 (tkB n ((2 ^ n - 1).testBit ·)) ∧ Below w.heap.size w w' := by
  have HV1 := hide (in_is (n : Int) 1 16 true (by simp [inB]; omega))
  have HV2 := hide (in_is (id : Int) 0 ((n : Int) - 1) true (by simp [inB]; omega))
  have hmk := make_set n hn
  have HB0 : Hid (Blk ((w.alloc (.cells (tkB n fun _ => false) 4)).alloc (.cells (refC id n w.heap.size 1 0 false) 108)) (w.heap.size + 1) 108 (refC id n w.heap.size 1 0 false)) := hide (by simpa using Blk.new (w.alloc (.cells (tkB n fun _ => false) 4)) 108 (refC id n w.heap.size 1 0 false))
  have HT0 : Hid (Blk ((w.alloc (.cells (tkB n fun _ => false) 4)).alloc (.cells (refC id n w.heap.size 1 0 false) 108)) w.heap.size 4 (tkB n fun _ => false)) := hide ((Blk.new w _ _).alloc _)
  have HL0 : Hid (Below w.heap.size w ((w.alloc (.cells (tkB n fun _ => false) 4)).alloc (.cells (refC id n w.heap.size 1 0 false) 108))) := hide (((Below.refl _ _).alloc (Nat.le_refl _) _).alloc (by simp) _)
  obtain ⟨k0, k1, k2, k3, k4, k5⟩ := HB0.out.cells6'
  go_enter Tryd.func39, Tryd.ntmps39
  go_wp2_with (go_at_call 70; first | (with_reducible refine (HV1.out _).mono ?_; rintro e w' ⟨rfl, rfl⟩) | (with_reducible refine (HV2.out _).mono ?_; rintro e w' ⟨rfl, rfl⟩))
  clear k0 k1 k2 k3 k4 k5
  go_loopw [29] (fun i wr => ∃ k : Nat, k ≤ n ∧ i = .int .i64 k ∧ Hid (Blk wr (w.heap.size + 1) 108 (refC id n w.heap.size 1 0 false)) ∧ Hid (Blk wr w.heap.size 4 (tkB n (fun j => decide (j < k)))) ∧ Hid (Below w.heap.size w wr)) (fun i _ => n - (intOf i).toNat)
  case atStart => exact ⟨0, by omega, rfl, HB0, hide (by rw [show (fun j => decide (j < 0)) = fun (_ : Nat) => false from by funext j; simp]; exact HT0.out), HL0⟩
  case round =>
    clear HB0 HT0 HL0
    obtain ⟨k, hk, rfl, HB, HT, HL⟩ := hrel
    obtain ⟨k0, k1, k2, k3, k4, k5⟩ := HB.out.cells6'
    by_cases hlt : k < n
    · have c0 := HT.out.tk hlt
      have fc := HT.out.frozen k
      generalize decide (k < k) = t0 at c0
      have hT := HT.out.set_ k (.bool true)
      rw [tkB_set (f' := fun j => decide (j < k + 1)) k true hlt (by simp) (fun i _ hi => by
        by_cases h1 : i < k
        · simp [h1, show i < k + 1 by omega]
        · simp [h1, show ¬ i < k + 1 by omega])] at hT
      have HT2 := hide hT
      clear hT
      go_wp2_with fail
      go_roundw
      case rel => exact ⟨k + 1, by omega, by go_num, hide (HB.out.kset (by omega) k _), HT2, hide (HL.out.setCell (Nat.le_refl _) _)⟩
      case measure => simp [intOf]; omega
    · obtain rfl : n = k := by omega
      have HT3 : Hid (Blk wr w.heap.size 4 (tkB n ((2 ^ n - 1).testBit ·))) := hide (by rw [tkB_congr (f' := fun j => decide (j < n)) (fun i hi => by rw [pow_full n i hi]; simp [hi])]; exact HT.out)
      go_wp2_with fail
      go_ret2
      exact ⟨_, _, rfl, by omega, Nat.le_refl _, by omega, HB.out, HT3.out, HL.out⟩

/-- Both members in memory, alike. -/
structure MpAt (w wr : World) (id n m : Nat) (good bad : Int) (fz : Bool) (g1 g2 gt : Nat) : Prop where
  b1 : Blk wr g1 157 (nodeC id n m good bad fz)
  b2 : Blk wr g2 108 (refC id n gt good bad fz)
  bt : Blk wr gt 4 (tkB n (m.testBit ·))
  n1 : w.heap.size ≤ g1
  n2 : w.heap.size ≤ g2
  nt : w.heap.size ≤ gt
  n12 : g1 ≠ g2
  n1t : g1 ≠ gt
  n2t : g2 ≠ gt
  hm : m < 2 ^ n
  old : Below w.heap.size w wr
section
variable {w w1 w2 : World} {id n m m' : Nat} {good bad good' bad' : Int} {fz fz' : Bool} {g1 g2 gt : Nat}
theorem MpAt.below (h : MpAt w w1 id n m good bad fz g1 g2 gt) (hB : Below w1.heap.size w1 w2) : MpAt w w2 id n m good bad fz g1 g2 gt :=
  ⟨h.b1.below hB h.b1.lt, h.b2.below hB h.b2.lt, h.bt.below hB h.bt.lt, h.n1, h.n2, h.nt, h.n12, h.n1t, h.n2t, h.hm, h.old.trans (hB.mono h.old.size)⟩
theorem MpAt.alloc (h : MpAt w w1 id n m good bad fz g1 g2 gt) (o : Obj) : MpAt w (w1.alloc o) id n m good bad fz g1 g2 gt := h.below ((Below.refl _ _).alloc (Nat.le_refl _) o)
theorem MpAt.drewN (h : MpAt w w1 id n m good bad fz g1 g2 gt) (k : Nat) : MpAt w (w1.drewN k) id n m good bad fz g1 g2 gt := h.below (below_drewN (Below.refl _ _) k)
theorem MpAt.drew (h : MpAt w w1 id n m good bad fz g1 g2 gt) : MpAt w w1.drew id n m good bad fz g1 g2 gt := h.drewN 1
theorem mp_grown {w w1 w2 : World} {gr : Nat} (h : Below w.heap.size w w1) (k : w1.grownBy w2 (some gr)) (hg : w.heap.size ≤ gr) : Below w.heap.size w w2 :=
  ⟨k.os.trans h.os, k.tape.trans h.tape, k.output.trans h.output, Nat.le_trans h.size k.size, fun i hi => (k.block i (Nat.lt_of_lt_of_le hi h.size) (by simp; omega)).trans (h.block i hi)⟩
/-- The node did its part; the other one not yet. -/
structure MpHalf (w wr : World) (id n m : Nat) (good bad : Int) (fz : Bool) (m' : Nat) (good' bad' : Int) (fz' : Bool) (g1 g2 gt : Nat) : Prop where
  b1 : Blk wr g1 157 (nodeC id n m' good' bad' fz')
  b2 : Blk wr g2 108 (refC id n gt good bad fz)
  bt : Blk wr gt 4 (tkB n (m.testBit ·))
  n1 : w.heap.size ≤ g1
  n2 : w.heap.size ≤ g2
  nt : w.heap.size ≤ gt
  n12 : g1 ≠ g2
  n1t : g1 ≠ gt
  n2t : g2 ≠ gt
  old : Below w.heap.size w wr
theorem MpAt.node (h : MpAt w w1 id n m good bad fz g1 g2 gt) (hb : Blk w2 g1 157 (nodeC id n m' good' bad' fz')) (hg : w1.grownBy w2 (some g1)) : MpHalf w w2 id n m good bad fz m' good' bad' fz' g1 g2 gt :=
  ⟨hb, h.b2.grown hg (fun e => h.n12 (Option.some.inj e).symm), h.bt.grown hg (fun e => h.n1t (Option.some.inj e).symm), h.n1, h.n2, h.nt, h.n12, h.n1t, h.n2t, mp_grown h.old hg h.n1⟩
theorem MpHalf.both (h : MpHalf w w1 id n m good bad fz m' good' bad' fz' g1 g2 gt) (hp : MrPost w1 g2 gt (refC id n gt good' bad' fz') n (m'.testBit ·) w2) (hm : m' < 2 ^ n) : MpAt w w2 id n m' good' bad' fz' g1 g2 gt :=
  ⟨h.b1.kept2 hp.2.2 h.n12 (fun e => h.n1t (Option.some.inj e).symm), hp.1, hp.2.1, h.n1, h.n2, h.nt, h.n12, h.n1t, h.n2t, hm, Kept2.below h.old h.old.size hp.2.2 h.n2 (fun k e => by cases e; exact h.nt)⟩
theorem MpHalf.drew (h : MpHalf w w1 id n m good bad fz m' good' bad' fz' g1 g2 gt) : MpHalf w w1.drew id n m good bad fz m' good' bad' fz' g1 g2 gt :=
  ⟨h.b1.drew, h.b2.drew, h.bt.drew, h.n1, h.n2, h.nt, h.n12, h.n1t, h.n2t, below_drewN h.old 1⟩
/-- The other way round: the member first (Sends). -/
theorem MpAt.ref (h : MpAt w w1 id n m good bad fz g1 g2 gt) (hp : MrPost w1 g2 gt (refC id n gt good' bad' fz') n (m'.testBit ·) w2) : MpHalf w w2 id n m' good' bad' fz' m good bad fz g1 g2 gt :=
  ⟨h.b1.kept2 hp.2.2 h.n12 (fun e => h.n1t (Option.some.inj e).symm), hp.1, hp.2.1, h.n1, h.n2, h.nt, h.n12, h.n1t, h.n2t, Kept2.below h.old h.old.size hp.2.2 h.n2 (fun k e => by cases e; exact h.nt)⟩
theorem MpHalf.done (h : MpHalf w w1 id n m' good' bad' fz' m good bad fz g1 g2 gt) (hb : Blk w2 g1 157 (nodeC id n m' good' bad' fz')) (hg : w1.grownBy w2 (some g1)) (hm : m' < 2 ^ n) : MpAt w w2 id n m' good' bad' fz' g1 g2 gt :=
  ⟨hb, h.b2.grown hg (fun e => h.n12 (Option.some.inj e).symm), h.bt.grown hg (fun e => h.n1t (Option.some.inj e).symm), h.n1, h.n2, h.nt, h.n12, h.n1t, h.n2t, hm, mp_grown h.old hg h.n1⟩
end
end Go.Proofs.YtgdljdhibknjnabDoor
