/- The contracts of the methods of member.Node, whatever is asked; conditions: the node lies in a block of its own, its numbers are small. -/
import Derived.Test.YtdogdlnaacimpaaGreatDoorP22
import Derived.Test.YtdogdlnaacimpaaGreatDoorP01
import Derived.Test.YtdogdlnaacimpaaGreatDoorP02
import Derived.Test.YtdogdlnaacimpaaGreatDoorP12
import Derived.Test.YtdogdlnaacimpaaGreatDoorP13
import Derived.Test.YtdogdlnaacimpaaGreatDoorP19
import Derived.BigQuiet
import Derived.RegionTactic
import Derived.Laws.MakeOwn
import Derived.Deep.Cut
import Derived.Deep.CutRange
import Derived.Deep.CutBlock
set_option linter.unusedVariables false
set_option linter.unusedSimpArgs false
namespace Go.Proofs.YtdogdlnaacimpaaGreatDoor
section
open Go.RowKit
end
section
open Go.RowKit
theorem pow_full (n i : Nat) (h : i < n) : (2 ^ n - 1).testBit i = true := by rw [Nat.testBit_two_pow_sub_one]; simp [h]
set_option maxRecDepth 100000 in
set_option maxHeartbeats 1000000 in
theorem rnew_ok (id n : Nat) (w : World) (hi : id < n) (hn : n ≤ 16) :
 Calls Tryz.prog 46 #[.int .i64 id, .int .i64 n] w fun e w' => ∃ g gt, e = .returned (.tuple #[.pointer (some ⟨g, 0, none⟩), .bool true]) ∧ w.heap.size ≤ g ∧ w.heap.size ≤ gt ∧ g ≠ gt ∧ Blk w' g 95 (refC id n gt 1 0 false) ∧ Blk w' gt 4 (tkB n ((2 ^ n - 1).testBit ·)) ∧ Below w.heap.size w w' := by
 have HV1 := hide (in_is (n : Int) 1 16 true (by simp [inB]; omega))
 have HV2 := hide (in_is (id : Int) 0 ((n : Int) - 1) true (by simp [inB]; omega))
 have hmk := make_set n hn
 have HB0 : Hid (Blk ((w.alloc (.cells (tkB n fun _ => false) 4)).alloc (.cells (refC id n w.heap.size 1 0 false) 95)) (w.heap.size + 1) 95 (refC id n w.heap.size 1 0 false)) := hide (by simpa using Blk.new (w.alloc (.cells (tkB n fun _ => false) 4)) 95 (refC id n w.heap.size 1 0 false))
 have HT0 : Hid (Blk ((w.alloc (.cells (tkB n fun _ => false) 4)).alloc (.cells (refC id n w.heap.size 1 0 false) 95)) w.heap.size 4 (tkB n fun _ => false)) := hide ((Blk.new w _ _).alloc _)
 have HL0 : Hid (Below w.heap.size w ((w.alloc (.cells (tkB n fun _ => false) 4)).alloc (.cells (refC id n w.heap.size 1 0 false) 95))) := hide (((Below.refl _ _).alloc (Nat.le_refl _) _).alloc (by simp) _)
 obtain ⟨k0, k1, k2, k3, k4, k5⟩ := HB0.out.cells6'
 go_enter Tryz.func46, Tryz.ntmps46
 go_wp2_with (go_at_call 43; first | (with_reducible refine (HV1.out _).mono ?_; rintro e w' ⟨rfl, rfl⟩) | (with_reducible refine (HV2.out _).mono ?_; rintro e w' ⟨rfl, rfl⟩))
 clear k0 k1 k2 k3 k4 k5
 go_loopw [29] (fun i wr => ∃ k : Nat, k ≤ n ∧ i = .int .i64 k ∧ Hid (Blk wr (w.heap.size + 1) 95 (refC id n w.heap.size 1 0 false)) ∧ Hid (Blk wr w.heap.size 4 (tkB n (fun j => decide (j < k)))) ∧ Hid (Below w.heap.size w wr)) (fun i _ => n - (intOf i).toNat)
 case atStart => exact ⟨0, by omega, rfl, HB0, hide (by rw [show (fun j => decide (j < 0)) = fun (_ : Nat) => false from by funext j; simp]; exact HT0.out), HL0⟩
 case round =>
  clear HB0 HT0 HL0
  obtain ⟨k, hk, rfl, HB, HT, HL⟩ := hrel
  obtain ⟨k0, k1, k2, k3, k4, k5⟩ := HB.out.cells6'
  by_cases hlt : k < n
  ·have c0 := HT.out.tk hlt
   have fc := HT.out.frozen k
   generalize decide (k < k) = t0 at c0
   have hT := HT.out.set_ k (.bool true)
   rw [tkB_set (f' := fun j => decide (j < k + 1)) k true hlt (by simp) (fun i _ hi => by
    by_cases h1 : i < k
    ·simp [h1, show i < k + 1 by omega]
    ·simp [h1, show ¬ i < k + 1 by omega])] at hT
   have HT2 := hide hT
   clear hT
   go_wp2_with fail
   go_roundw
   case rel => exact ⟨k + 1, by omega, by go_num, hide (HB.out.kset (by omega) k _), HT2, hide (HL.out.setCell (Nat.le_refl _) _)⟩
   case measure => simp [intOf]; omega
  ·obtain rfl : n = k := by omega
   have HT3 : Hid (Blk wr w.heap.size 4 (tkB n ((2 ^ n - 1).testBit ·))) := hide (by rw [tkB_congr (f' := fun j => decide (j < n)) (fun i hi => by rw [pow_full n i hi]; simp [hi])]; exact HT.out)
   go_wp2_with fail
   go_ret2
   exact ⟨_, _, rfl, by omega, Nat.le_refl _, by omega, HB.out, HT3.out, HL.out⟩
section
variable {w w1 w2 : World} {id n m m' : Nat} {good bad good' bad' : Int} {fz fz' : Bool} {g1 g2 gt : Nat}
end
end
section
open Go.RowKit
/-- where k steps lead from n (0 to 255) -/
def stepAt (n k : Int) : Int := if n + k ≤ 255 then n + k else n + k - 255
/-- did one of the first k steps come to s? -/
def okAt (n s k : Int) : Bool := decide ((n < s ∧ s ≤ n + k ∧ s ≤ 255) ∨ (1 ≤ s ∧ s + 255 ≤ n + k))
theorem okAt_succ (n s k : Int) (hn : 0 ≤ n) (hn' : n ≤ 255) (hk : 0 ≤ k) (hk' : k ≤ 126) (hs : 0 ≤ s) (hs' : s ≤ 255) : okAt n s (k + 1) = (okAt n s k || decide (stepAt n (k + 1) = s)) := by
 rw [Bool.eq_iff_iff]; simp only [okAt, decide_eq_true_eq, Bool.or_eq_true]; unfold stepAt; split <;> omega
theorem okAt_127 (n s : Int) (hn : 0 ≤ n) (hn' : n ≤ 255) (hs : 0 ≤ s) (hs' : s ≤ 255) : okAt n s 127 = aheadB s n := by
 simp only [okAt, aheadB]; rw [Bool.eq_iff_iff]; simp only [decide_eq_true_eq]; omega
theorem stepAt_bd (n k : Int) (hn : 0 ≤ n) (hn' : n ≤ 255) (hk : 0 ≤ k) (hk' : k ≤ 127) : 0 ≤ stepAt n k ∧ stepAt n k ≤ 255 := by unfold stepAt; split <;> omega
theorem stepAt_wrap (n k : Int) (hn : 0 ≤ n) (hn' : n ≤ 255) (hk : 0 ≤ k) (hk' : k ≤ 126) (h : (stepAt n k + 1 == 256) = true) : stepAt n (k + 1) = 1 := by
 simp only [beq_iff_eq] at h; unfold stepAt at h ⊢; split <;> (split at h <;> omega)
theorem stepAt_on (n k : Int) (hn : 0 ≤ n) (hn' : n ≤ 255) (hk : 0 ≤ k) (hk' : k ≤ 126) (h : (stepAt n k + 1 == 256) = false) : stepAt n (k + 1) = stepAt n k + 1 := by
 simp only [beq_eq_false_iff_ne, ne_eq] at h; unfold stepAt at h ⊢; split <;> (split at h <;> omega)
theorem ok_stay (n s k : Int) (hn : 0 ≤ n) (hn' : n ≤ 255) (hk : 0 ≤ k) (hk' : k ≤ 126) (hs : 0 ≤ s) (hs' : s ≤ 255) (h : okAt n s k = true) : okAt n s (k + 1) = true := by
 rw [okAt_succ n s k hn hn' hk hk' hs hs', h]; rfl
theorem ok_wrap (n s k : Int) (hn : 0 ≤ n) (hn' : n ≤ 255) (hk : 0 ≤ k) (hk' : k ≤ 126) (hs : 0 ≤ s) (hs' : s ≤ 255) (h : ¬ okAt n s k = true) (h' : (stepAt n k + 1 == 256) = true) : (1 == s) = okAt n s (k + 1) := by
 rw [okAt_succ n s k hn hn' hk hk' hs hs', stepAt_wrap n k hn hn' hk hk' h', (by simpa using h : okAt n s k = false)]; rw [Bool.eq_iff_iff]; simp
theorem ok_on (n s k : Int) (hn : 0 ≤ n) (hn' : n ≤ 255) (hk : 0 ≤ k) (hk' : k ≤ 126) (hs : 0 ≤ s) (hs' : s ≤ 255) (h : ¬ okAt n s k = true) (h' : (stepAt n k + 1 == 256) = false) : (stepAt n k + 1 == s) = okAt n s (k + 1) := by
 rw [okAt_succ n s k hn hn' hk hk' hs hs', stepAt_on n k hn hn' hk hk' h', (by simpa using h : okAt n s k = false)]; rw [Bool.eq_iff_iff]; simp
theorem vint {a b : Int} (h : a = b) : Value.int .i64 a = .int .i64 b := by rw [h]
theorem vbool {a b : Bool} (h : a = b) : Value.bool a = .bool b := by rw [h]
set_option maxRecDepth 100000 in
set_option maxHeartbeats 1000000 in
theorem rtake_any (g : Nat) (s nw c0 c1 : Int) (w : World) (hb : Blk w g 141 #[.int .i64 nw, .int .i64 c0, .int .i64 c1])
 (hn : -1 ≤ nw) (hn' : nw ≤ 255) (hc0 : 0 ≤ c0) (hc0' : c0 ≤ 1000000) (hc1 : 0 ≤ c1) (hc1' : c1 ≤ 1000000) :
 Calls Tryz.prog 53 #[.pointer (some ⟨g, 0, none⟩), .int .i64 s] w fun e w' => e = .returned (.bool (takeB s nw)) ∧ Blk w' g 141 (takeSt s nw c0 c1) ∧ w.grownBy w' (some g) := by
 have hlt := hb.lt
 have k0 := hb.cell 0
 have k1 := hb.cell 1
 have k2 := hb.cell 2
 have f0 := hb.frozen 0
 have f1 := hb.frozen 1
 have f2 := hb.frozen 2
 simp at k0 k1 k2
 by_cases a1 : inB s 0 255 = false
 ·have et : takeB s nw = false := by simp [takeB]; simp [inB] at a1; omega
  have H := hide et; clear et
  have A := hide a1; clear a1
  go_enter Tryz.func53, Tryz.ntmps53
  go_wp2_with (go_at_call 43; refine (in_any _ _ _ _).mono ?_; rw [A.out]; rintro e w' ⟨rfl, rfl⟩)
  go_ret
  refine ⟨ret_bool H.out.symm, ?_, ?_⟩
  ·rw [takeSt, H.out]; exact (hb.set_ 2 _)
  ·repeat (first | exact only_refl _ _ | refine only_drew ?_ | refine only_drewN ?_ _ | refine only_alloc ?_ _ | refine only_setCell ?_ (by simp) _)
 ·have a1 : inB s 0 255 = true := by simpa using a1
  have hs : 0 ≤ s ∧ s ≤ 255 := by simp [inB] at a1; omega
  obtain ⟨hs0, hs1⟩ := hs
  have A := hide a1; clear a1
  by_cases a3 : nw < 0
  ·have et : takeB s nw = true := by simp [takeB]; omega
   have H := hide et; clear et
   go_enter Tryz.func53, Tryz.ntmps53
   go_wp2_with (go_at_call 43; refine (in_any _ _ _ _).mono ?_; rw [A.out]; rintro e w' ⟨rfl, rfl⟩)
   go_ret
   refine ⟨ret_bool H.out.symm, ?_, ?_⟩
   ·rw [takeSt, H.out]; exact ((hb.set_ 0 _).set_ 1 _)
   ·repeat (first | exact only_refl _ _ | refine only_drew ?_ | refine only_drewN ?_ _ | refine only_alloc ?_ _ | refine only_setCell ?_ (by simp) _)
  ·have hn0 : 0 ≤ nw := by omega
   have et : takeB s nw = okAt nw s 127 := by rw [okAt_127 _ _ hn0 hn' hs0 hs1]; simp [takeB, hs0, hs1]; omega
   have H := hide et; clear et
   have e0 : okAt nw s 0 = false := by simp [okAt]; omega
   have E0 := hide e0; clear e0
   have ha0 : decide (0 ≤ nw) = true := by simp; omega
   go_enter Tryz.func53, Tryz.ntmps53
   go_wp2_with (go_at_call 43; refine (in_any _ _ _ _).mono ?_; rw [A.out]; rintro e w' ⟨rfl, rfl⟩)
   go_loop [5, 6, 21] (fun ok at_ i => ∃ k : Nat, k ≤ 127 ∧ i = .int .i64 k ∧ at_ = .int .i64 (stepAt nw k) ∧ ok = .bool (okAt nw s k)) (fun _ _ i => 127 - (intOf i).toNat)
   case atStart => exact ⟨0, by omega, rfl, by simp [stepAt]; omega, by rw [show ((0:Nat):Int) = 0 from rfl, E0.out]⟩
   case round =>
    obtain ⟨k, hk, rfl, rfl, rfl⟩ := hrel
    have sb := stepAt_bd nw k hn0 hn' (by omega) (by omega)
    obtain ⟨sb0, sb1⟩ := sb
    go_wp2
    ·exact ⟨⟨k + 1, by omega, by go_num, vint (stepAt_wrap nw k hn0 hn' (by omega) (by omega) ‹_›).symm, vbool (ok_stay nw s k hn0 hn' (by omega) (by omega) hs0 hs1 ‹_›).symm⟩, by simp [intOf]; omega⟩
    ·exact ⟨⟨k + 1, by omega, by go_num, vint (stepAt_wrap nw k hn0 hn' (by omega) (by omega) ‹_›).symm, vbool (ok_wrap nw s k hn0 hn' (by omega) (by omega) hs0 hs1 ‹_› ‹_›)⟩, by simp [intOf]; omega⟩
    ·exact ⟨⟨k + 1, by omega, by go_num, vint (stepAt_on nw k hn0 hn' (by omega) (by omega) ‹_›).symm, vbool (ok_stay nw s k hn0 hn' (by omega) (by omega) hs0 hs1 ‹_›).symm⟩, by simp [intOf]; omega⟩
    ·exact ⟨⟨k + 1, by omega, by go_num, vint (stepAt_on nw k hn0 hn' (by omega) (by omega) ‹_›).symm, vbool (ok_on nw s k hn0 hn' (by omega) (by omega) hs0 hs1 ‹_› ‹_›)⟩, by simp [intOf]; omega⟩
    all_goals
     have hk127 : k = 127 := by omega
     subst hk127
     have hE : takeB s nw = okAt nw s 127 := H.out
     go_ret
    ·have h1 : okAt nw s 127 = true := by assumption
     refine ⟨ret_bool (hE.trans h1).symm, ?_, ?_⟩
     ·rw [takeSt, hE, h1]; exact ((hb.set_ 0 _).set_ 1 _)
     ·repeat (first | exact only_refl _ _ | refine only_drew ?_ | refine only_drewN ?_ _ | refine only_alloc ?_ _ | refine only_setCell ?_ (by simp) _)
    ·have h1 : okAt nw s 127 = false := by assumption
     refine ⟨ret_bool (hE.trans h1).symm, ?_, ?_⟩
     ·rw [takeSt, hE, h1]; exact (hb.set_ 2 _)
     ·repeat (first | exact only_refl _ _ | refine only_drew ?_ | refine only_drewN ?_ _ | refine only_alloc ?_ _ | refine only_setCell ?_ (by simp) _)
end
section
open Go Go.RowKit
attribute [local irreducible] liesB putE putQ
/-- The document's cluster at one time; blocks that stay beside it. -/
def DsG (w0 w : World) (base g : Nat) (p : Pl) (P : Sv3) (fy : Nat) (c : Cl) (M : Nat) (w1 : World) (bs : List Nat) : Prop := ∃ a : Ad2, a.g = g ∧ DcAt w base a (fullN p) p P fy c M ∧ Below base w0 w ∧ base ≤ w.heap.size ∧
 ∀ b ∈ bs, b < w.heap.size ∧ ¬ Gmy (dshape base a (fullN p) p P fy c) b ∧ w.heap[b]? = w1.heap[b]?
section
variable {w0 w w' w1 : World} {base g : Nat} {p : Pl} {P : Sv3} {fy M M' : Nat} {c c' : Cl} {bs : List Nat}
theorem DsG.bel (h : DsG w0 w base g p P fy c M w1 bs) : Below base w0 w := by obtain ⟨a, h1, h2, h3, h4, h5⟩ := h; exact h3
theorem DsG.size (h : DsG w0 w base g p P fy c M w1 bs) : base ≤ w.heap.size := by obtain ⟨a, h1, h2, h3, h4, h5⟩ := h; exact h4
theorem DsG.below (h : DsG w0 w base g p P fy c M w1 bs) (hB : Below w.heap.size w w') : DsG w0 w' base g p P fy c M w1 bs := by
 obtain ⟨a, h1, h2, h3, h4, h5⟩ := h
 exact ⟨a, h1, h2.below hB, h3.trans (hB.mono h4), Nat.le_trans h4 hB.size, fun b hb => ⟨Nat.lt_of_lt_of_le (h5 b hb).1 hB.size, (h5 b hb).2.1, (hB.block b (h5 b hb).1).trans (h5 b hb).2.2⟩⟩
/-- The same blocks, as they lie now. -/
theorem DsG.now (h : DsG w0 w base g p P fy c M w1 bs) : DsG w0 w base g p P fy c M w bs := by
 obtain ⟨a, h1, h2, h3, h4, h5⟩ := h
 exact ⟨a, h1, h2, h3, h4, fun b hb => ⟨(h5 b hb).1, (h5 b hb).2.1, rfl⟩⟩
/-- A block more, made since. -/
theorem DsG.more (h : DsG w0 w base g p P fy c M w1 bs) (hB : Below w.heap.size w w') {x : Nat} (hx : w.heap.size ≤ x) (hx2 : x < w'.heap.size) : DsG w0 w' base g p P fy c M w' (x :: bs) := by
 obtain ⟨a, h1, h2, h3, h4, h5⟩ := h
 refine ⟨a, h1, h2.below hB, h3.trans (hB.mono h4), Nat.le_trans h4 hB.size, fun b hb => ?_⟩
 rcases List.mem_cons.1 hb with rfl | hb
 ·exact ⟨hx2, h2.fam.not_new hx, rfl⟩
 ·exact ⟨Nat.lt_of_lt_of_le (h5 b hb).1 hB.size, (h5 b hb).2.1, rfl⟩
theorem DsG.lt_ (h : DsG w0 w base g p P fy c M w1 bs) {b : Nat} (hb : b ∈ bs) : b < w.heap.size := by
 obtain ⟨a, h1, h2, h3, h4, h5⟩ := h
 exact (h5 b hb).1
theorem DsG.heap (h : DsG w0 w base g p P fy c M w1 bs) {b : Nat} (hb : b ∈ bs) : w.heap[b]? = w1.heap[b]? := by
 obtain ⟨a, h1, h2, h3, h4, h5⟩ := h
 exact (h5 b hb).2.2
theorem DsG.blk (h : DsG w0 w base g p P fy c M w1 bs) {b : Nat} (hb : b ∈ bs) {t : TypeId} {cs : Array Value} (hk : Blk w1 b t cs) : Blk w b t cs := (h.heap hb).trans hk
theorem DsG.ofTo {a : Ad2} (h1 : a.g = g) (h2 : DcAt w base a (fullN p) p P fy c M) (h3 : Below base w0 w) (h4 : base ≤ w.heap.size) (h5 : ∀ b ∈ bs, b < w.heap.size ∧ ¬ Gmy (dshape base a (fullN p) p P fy c) b ∧ w.heap[b]? = w1.heap[b]?) (ht : DcTo w base a (fullN p) p P fy c w' c' M') : DsG w0 w' base g p P fy c' M' w1 bs := by
 obtain ⟨a', e, hA, hK⟩ := ht
 exact ⟨a', e.trans h1, hA, hK.old h2.fam h3 h4, Nat.le_trans h4 hK.size, fun b hb => ⟨Nat.lt_of_lt_of_le (h5 b hb).1 hK.size, hK.not (h5 b hb).1 (h5 b hb).2.1, (hK.block b (h5 b hb).1 (h5 b hb).2.1).trans (h5 b hb).2.2⟩⟩
/-- The cluster's own cells. -/
theorem DsG.cells (h : DsG w0 w base g p P fy c M w1 bs) : ∃ (ck nd lk : Value) (tm pm : Nat), Blk w g 83 (rclC p P fy ck nd lk tm pm c.rd) := by
 obtain ⟨a, rfl, h2, h3, h4, h5⟩ := h
 exact ⟨_, _, _, _, _, h2.cluB⟩
theorem mm_sends (s : Mm) : s.send.m = s.m ∧ s.send.gd = sG s.gd s.bd s.fz ∧ s.send.bd = sB s.gd s.bd s.fz ∧ s.send.fz = !sendsOk s.gd s.bd s.fz := by
 unfold Mm.send sG sB sendsOk
 cases hf : s.fz
 ·by_cases h : s.gd ≤ s.bd
  ·have : ¬ s.bd < s.gd := by omega
   simp [h, this]
  ·have : s.bd < s.gd := by omega
   simp [h, this, hf]
 ·simp [hf]
theorem mm_hear (s : Mm) {id n fr : Nat} {what : Int} (h1 : fr < n) (h2 : fr ≠ id) (h3 : 0 ≤ what ∧ what ≤ 2) : (s.hear fr what).m = hM id n s.m s.fz fr what ∧ (s.hear fr what).gd = hG id n s.gd s.fz fr what ∧ (s.hear fr what).bd = hB id n s.bd s.fz fr what ∧ (s.hear fr what).fz = s.fz := by
 have hok : hOk id n s.fz (fr : Int) what = !s.fz := by
  unfold hOk
  have a1 : decide ((0 : Int) ≤ (fr : Int)) = true := decide_eq_true (by omega)
  have a2 : decide ((fr : Int) < (n : Int)) = true := decide_eq_true (by omega)
  have a3 : decide ((fr : Int) = (id : Int)) = false := decide_eq_false (by omega)
  have a4 : decide (0 ≤ what) = true := decide_eq_true h3.1
  have a5 : decide (what ≤ 2) = true := decide_eq_true h3.2
  rw [a1, a2, a3, a4, a5]
  simp
 unfold Mm.hear hM hG hB
 rw [hok]
 cases hf : s.fz
 ·by_cases e1 : what = 1
  ·subst e1; simp [hf]
  ·by_cases e2 : what = 2
   ·subst e2; simp [hf]
   ·simp [e1, e2, hf]
 ·simp [hf]
/-- A node: where it lies, and its calls. -/
theorem DsG.nod (h : DsG w0 w base g p P fy c M w1 bs) (hp : PlOk p) {N : Nat} (hc : ClOk p N c) (hN : N ≤ 1000000) (hm : ∀ i, (c.mm i).m < 2 ^ p.nd.toNat) {i : Nat} (hi : i < p.nd.toNat) : ∃ b off cp gm, w.cell? ⟨g, 12, none⟩ = some (.slice (some ⟨b, off, none⟩) p.nd.toNat cp) ∧ w.cell? ⟨b, off + i, none⟩ = some (ptrV gm) ∧
 (∀ W, Below w.heap.size w W → Calls Tryz.prog 50 #[ptrV gm] W fun e w' => e = .returned (.tuple #[.int .i64 (sendsV (c.mm i).m (c.mm i).gd (c.mm i).bd (c.mm i).fz), .bool (sendsOk (c.mm i).gd (c.mm i).bd (c.mm i).fz)]) ∧ DsG w0 w' base g p P fy { c with mm := updF c.mm i (c.mm i).send } M w1 bs) ∧
 (∀ W fr mm, Below w.heap.size w W → Calls Tryz.prog 52 #[ptrV gm, .int .i64 fr, .int .i64 mm] W fun e w' => e = .returned (.int .i64 (judgeG p.nd.toNat (c.mm i).m fr mm)) ∧ w' = W) ∧
 (∀ (W : World) (fr : Nat) (what : Int), Below w.heap.size w W → fr < p.nd.toNat → fr ≠ i → 0 ≤ what ∧ what ≤ 2 → Calls Tryz.prog 54 #[ptrV gm, .int .i64 fr, .int .i64 what] W fun e w' => e = .returned (.tuple #[]) ∧ DsG w0 w' base g p P fy { c with mm := updF c.mm i ((c.mm i).hear fr what) } M w1 bs) ∧
 (∀ W, Below w.heap.size w W → Calls Tryz.prog 28 #[ptrV gm] W fun e w' => e = .returned (.int .i64 ((c.mm i).m : Nat)) ∧ w' = W) ∧ (∀ W, Below w.heap.size w W → W.cell? ⟨gm, 5, none⟩ = some (.bool (c.mm i).fz)) := by
 obtain ⟨a, rfl, h2, h3, h4, h5⟩ := h
 have hn := hp.n16
 have hn1 := hp.n1
 obtain ⟨b, off, cp, e, hcell⟩ := h2.nodC (i := i) hi
 obtain ⟨-, -, -, -, -, -, -, -, -, k12, -⟩ := rcl_cells h2.cluB
 rw [e] at k12
 have hmm := hc.mm i
 have hG : ∀ W, Below w.heap.size w W → DcAt W base a (fullN p) p P fy c M ∧ Below base w0 W ∧ base ≤ W.heap.size ∧ ∀ b ∈ bs, b < W.heap.size ∧ ¬ Gmy (dshape base a (fullN p) p P fy c) b ∧ W.heap[b]? = w1.heap[b]? := fun W hB => ⟨h2.below hB, h3.trans (hB.mono h4), Nat.le_trans h4 hB.size, fun b hb => ⟨Nat.lt_of_lt_of_le (h5 b hb).1 hB.size, (h5 b hb).2.1, (hB.block b (h5 b hb).1).trans (h5 b hb).2.2⟩⟩
 refine ⟨b, off, cp, a.gm i, k12, hcell, fun W hB => ?_, fun W fr mm hB => ?_, fun W fr what hB hf hfi hw => ?_, fun W hB => ?_, fun W hB => ?_⟩
 ·obtain ⟨q1, q2, q3, q4⟩ := hG W hB
  obtain ⟨n1, n2, n3⟩ := q1.nodB (i := i) hi
  refine (rsends_any (a.gm i) (a.gt i) i p.nd.toNat (c.mm i).m (c.mm i).gd (c.mm i).bd (c.mm i).fz W n1 n2 n3 (by omega) (hm i)).mono ?_
  rintro e w' ⟨rfl, hr⟩
  obtain ⟨s1, s2, s3, s4⟩ := mm_sends (c.mm i)
  exact ⟨rfl, .ofTo rfl q1 q2 q3 q4 (q1.nodTo hi (c.mm i).send (by rw [s1, s2, s3, s4]; exact hr) q3)⟩
 ·obtain ⟨q1, q2, q3, q4⟩ := hG W hB
  obtain ⟨n1, n2, n3⟩ := q1.nodB (i := i) hi
  exact rjudges_any (a.gm i) (a.gt i) i p.nd.toNat (c.mm i).m (c.mm i).gd (c.mm i).bd (c.mm i).fz W fr mm n1 n2 (by omega) (by omega) (hm i)
 ·obtain ⟨q1, q2, q3, q4⟩ := hG W hB
  obtain ⟨n1, n2, n3⟩ := q1.nodB (i := i) hi
  refine (rhears_any (a.gm i) (a.gt i) i p.nd.toNat (c.mm i).m (c.mm i).gd (c.mm i).bd (c.mm i).fz W fr what n1 n2 n3 (by omega) (by omega) hmm.2.1 (by omega) hmm.2.2.2.1 (by omega)).mono ?_
  rintro e w' ⟨rfl, hr⟩
  obtain ⟨s1, s2, s3, s4⟩ := mm_hear (c.mm i) (id := i) (n := p.nd.toNat) hf hfi hw
  exact ⟨rfl, .ofTo rfl q1 q2 q3 q4 (q1.nodTo hi ((c.mm i).hear fr what) (by rw [s1, s2, s3, s4]; exact hr) q3)⟩
 ·obtain ⟨q1, q2, q3, q4⟩ := hG W hB
  obtain ⟨n1, n2, n3⟩ := q1.nodB (i := i) hi
  exact rbits_any (a.gm i) (a.gt i) i p.nd.toNat (c.mm i).m (c.mm i).gd (c.mm i).bd (c.mm i).fz W n1 n2 (by omega) (hm i)
 ·obtain ⟨q1, q2, q3, q4⟩ := hG W hB
  obtain ⟨n1, n2, n3⟩ := q1.nodB (i := i) hi
  exact n1.cell 5
end
end
section
open Go Go.RowKit
attribute [local irreducible] liesB
section
variable {w0 w w' w1 : World} {base g : Nat} {p : Pl} {P : Sv3} {fy M M' : Nat} {c c' : Cl} {bs : List Nat}
end
end
section
open Go Go.RowKit
theorem own_cellT {w : World} {base n g i : Nat} {cp : Nat} {e : TypeId} {xs : List Value} (h : w.ownsRow base e 1 (.slice (some ⟨g, 0, none⟩) n cp) n xs) (hi : i < n) : w.cell? ⟨g, i, none⟩ = xs[i]? ∧ w.frozen? ⟨g, i, none⟩ = false := by
 rcases h.2 with ⟨h1, _⟩ | ⟨g2, cap, cur, hv, hb, hg, hnc, hm, hs, ht⟩
 ·cases h1
 ·cases hv
  have hl := h.1
  refine ⟨?_, by unfold World.frozen?; simp [hg]⟩
  rw [cell_of_row w g i cur e (0, 0) hg, ← ht, List.getElem?_take]
  rw [if_pos (by omega)]
  simp
/-- Rows, of which m are there. -/
structure RwAt (w7 wr : World) (n m : Nat) (vt : Value) (G cp : Nat → Nat) (R : Nat → List Int) : Prop where
 top : wr.ownsRow w7.heap.size 27 1 vt m ((List.range m).map fun i => Value.slice (some ⟨G i, 0, none⟩) n (cp i))
 row : ∀ i, i < m → wr.ownsRow w7.heap.size 3 1 (.slice (some ⟨G i, 0, none⟩) n (cp i)) n ((R i).map (Value.int .i64))
 ne : ∀ i j, i < m → j < m → i ≠ j → G i ≠ G j
 tn : ∀ i, i < m → vt.ownBlock ≠ some (G i)
 old : Below w7.heap.size w7 wr
section
variable {w7 wr wr2 : World} {n m : Nat} {vt : Value} {G cp : Nat → Nat} {R : Nat → List Int}
theorem RwAt.start (w7 : World) (n : Nat) (R : Nat → List Int) : RwAt w7 w7 n 0 (.slice none 0 0) (fun _ => 0) (fun _ => 0) R := ⟨World.ownsRow_nil _ _ _ _, fun i h => by omega, fun i j h => by omega, fun i h => by omega, Below.refl _ _⟩
theorem RwAt.congr {R2 : Nat → List Int} (h : RwAt w7 wr n m vt G cp R) (he : ∀ i, i < m → R i = R2 i) : RwAt w7 wr n m vt G cp R2 := ⟨h.top, fun i hi => by rw [← he i hi]; exact h.row i hi, h.ne, h.tn, h.old⟩
theorem RwAt.gb (h : RwAt w7 wr n m vt G cp R) {i : Nat} (hi : i < m) : w7.heap.size ≤ G i ∧ G i < wr.heap.size := (h.row i hi).lt (G i) rfl
theorem RwAt.below (h : RwAt w7 wr n m vt G cp R) (hB : Below wr.heap.size wr wr2) : RwAt w7 wr2 n m vt G cp R :=
 ⟨own_keepR h.top hB, fun i hi => own_keepR (h.row i hi) hB, h.ne, h.tn, h.old.trans (hB.mono h.old.size)⟩
theorem RwAt.grown {vb : Option Nat} (h : RwAt w7 wr n m vt G cp R) (hg : wr.grownBy wr2 vb) (h1 : ∀ g, vb = some g → w7.heap.size ≤ g ∧ vt.ownBlock ≠ some g ∧ ∀ i, i < m → G i ≠ g) : RwAt w7 wr2 n m vt G cp R :=
 ⟨own_keepH h.top (fun g e => hg.block g (h.top.lt g e).2 (fun e2 => (h1 g e2.symm).2.1 e)), fun i hi => own_keepH (h.row i hi) (fun g e => hg.block g ((h.row i hi).lt g e).2 (fun e2 => (h1 g e2.symm).2.2 i hi (by simpa [Value.ownBlock] using e))), h.ne, h.tn,
  h.old.grown hg h.old.size (fun g e => (h1 g e).1)⟩
/-- A row more. -/
theorem RwAt.push {gi ci : Nat} {xs : List Int} {vt' : Value} (h : RwAt w7 wr n m vt G cp R) (hv : wr.ownsRow w7.heap.size 3 1 (.slice (some ⟨gi, 0, none⟩) n ci) n (xs.map (Value.int .i64))) (h1 : vt.ownBlock ≠ some gi) (h2 : ∀ i, i < m → G i ≠ gi)
 (ho : wr2.ownsRow w7.heap.size 27 1 vt' (m + 1) (((List.range m).map fun i => Value.slice (some ⟨G i, 0, none⟩) n (cp i)) ++ [.slice (some ⟨gi, 0, none⟩) n ci])) (hg : wr.grownBy wr2 vt.ownBlock) (hw : vt'.ownBlock = vt.ownBlock ∨ ∀ k, vt'.ownBlock = some k → wr.heap.size ≤ k) :
 RwAt w7 wr2 n (m + 1) vt' (updF G m gi) (updF cp m ci) (updF R m xs) := by
 have hgi := (hv.lt gi rfl).2
 refine ⟨?_, fun i hi => ?_, fun i j hi hj hne => ?_, fun i hi => ?_, h.old.grown hg h.old.size (fun g e => (h.top.lt g e).1)⟩
 ·rw [List.range_succ, List.map_append]
  have e : ((List.range m).map fun i => Value.slice (some ⟨updF G m gi i, 0, none⟩) n (updF cp m ci i)) = ((List.range m).map fun i => Value.slice (some ⟨G i, 0, none⟩) n (cp i)) := by
   apply List.map_congr_left
   intro i hi
   have := List.mem_range.1 hi
   rw [updF_ne _ _ (by omega), updF_ne _ _ (by omega)]
  rw [e]
  simpa [updF] using ho
 ·unfold updF
  by_cases e : i = m
  ·simp only [if_pos e]
   exact own_keepH hv (fun g e2 => by cases e2; exact hg.block _ hgi (fun e3 => h1 e3.symm))
  ·simp only [if_neg e]
   have him : i < m := by omega
   exact own_keepH (h.row i him) (fun g e2 => by cases e2; exact hg.block _ (h.gb him).2 (fun e3 => h.tn i him e3.symm))
 ·unfold updF
  by_cases e : i = m <;> by_cases e2 : j = m
  ·omega
  ·rw [if_pos e, if_neg e2]; exact (h2 j (by omega)).symm
  ·rw [if_neg e, if_pos e2]; exact h2 i (by omega)
  ·rw [if_neg e, if_neg e2]; exact h.ne i j (by omega) (by omega) hne
 ·unfold updF
  by_cases e : i = m
  ·rw [if_pos e]
   rcases hw with h3 | h3
   ·rw [h3]; exact h1
   ·intro e3; have := h3 _ e3; omega
  ·rw [if_neg e]
   rcases hw with h3 | h3
   ·rw [h3]; exact h.tn i (by omega)
   ·intro e3; have := h3 _ e3; have := (h.gb (i := i) (by omega)).2; omega
/-- A number turns. -/
theorem RwAt.setR (h : RwAt w7 wr n m vt G cp R) {u v : Nat} (hu : u < m) (hv : v < n) (y : Int) : RwAt w7 (wr.setCell ⟨G u, v, none⟩ (.int .i64 y)) n m vt G cp (updF R u ((R u).set v y)) := by
 refine ⟨own_keepH h.top (fun g e => Below.heap_setCell wr _ _ g (fun e2 => h.tn u hu (by rw [e, e2]))), fun i hi => ?_, h.ne, h.tn, h.old.setCell (p := ⟨G u, v, none⟩) (h.gb hu).1 _⟩
 unfold updF
 by_cases e : i = u
 ·subst e
  rw [if_pos rfl, List.map_set]
  exact own_set (h.row i hi) hv
 ·rw [if_neg e]
  exact own_keepH (h.row i hi) (fun g e2 => by cases e2; exact Below.heap_setCell wr _ _ _ (h.ne i u hi hu e))
theorem RwAt.cellT {T ct : Nat} (h : RwAt w7 wr n m (.slice (some ⟨T, 0, none⟩) m ct) G cp R) {i : Nat} (hi : i < m) : wr.cell? ⟨T, i, none⟩ = some (.slice (some ⟨G i, 0, none⟩) n (cp i)) := by
 rw [(own_cellT h.top hi).1]
 simp [hi]
theorem RwAt.rows_ {T ct : Nat} {rs : List (List Int)} (h : RwAt w7 wr n m (.slice (some ⟨T, 0, none⟩) m ct) G cp (fun j => rs.getD j [])) (hl : rs.length = m) : RowsAt wr (some ⟨T, 0, none⟩) rs := fun j hj => by
 have hr := h.row j (by omega)
 have hlen : (rs.getD j []).length = n := by have := hr.1; simpa using this
 exact ⟨T, 0, _, _, rfl, by rw [Nat.zero_add, h.cellT (by omega), hlen], isl_own0 hr hlen⟩
end
/-- The clocks of the document's cluster. -/
theorem DsG.cks {w0 w w1 : World} {base g : Nat} {p : Pl} {P : Sv3} {fy M : Nat} {c : Cl} {bs : List Nat} (h : DsG w0 w base g p P fy c M w1 bs) {n : Nat} (hn : c.ck.length = n) (h0 : 0 < n) : ∃ b off cp, b < w.heap.size ∧ ∀ W, Below w.heap.size w W → W.cell? ⟨g, 11, none⟩ = some (.slice (some ⟨b, off, none⟩) n cp) ∧ IsL W (some ⟨b, off, none⟩) c.ck := by
 obtain ⟨a, rfl, h2, h3, h4, h5⟩ := h
 have hq : QAt w base 3 a.ck (c.ck.map (Value.int .i64)) := h2.fam.at_ .nums
 obtain ⟨ao, cp, e, -⟩ := hq.shape
 rw [List.length_map, hn] at e
 rw [e] at hq
 obtain ⟨b, off, rfl, -, hlt, hc⟩ := hq.block h0
 refine ⟨b, off, cp, hlt, fun W hB => ⟨?_, fun j hj => ⟨b, off, rfl, ?_⟩⟩⟩
 ·obtain ⟨-, -, -, -, -, -, -, -, k11, -⟩ := rcl_cells (h2.below hB).cluB
  rw [e] at k11
  exact k11
 ·rw [(hB.cell (p := ⟨b, off + j, none⟩) hlt), hc j (by omega)]
  simp [hj]
end
section
open Go.RowKit
/-- metronomeref.Fine, as start-up lays it. -/
def FinT (w : World) : Prop := w.cell? ⟨0, 0, none⟩ = some (.int .i64 0) ∧ w.cell? ⟨0, 1, none⟩ = some (.int .i64 (-1))
theorem FinT.below {w w' : World} (h : FinT w) (hB : Below w.heap.size w w') : FinT w' :=
 ⟨(hB.cell (p := ⟨0, 0, none⟩) (World.block_lt_of_cell? _ _ h.1)).trans h.1, (hB.cell (p := ⟨0, 1, none⟩) (World.block_lt_of_cell? _ _ h.2)).trans h.2⟩
theorem wnE_one {fr lo : Int} {x : Wn} (h : x.t ≤ x.f) : wnE fr lo x = 1 := by unfold wnE spE; rw [if_pos h]; rfl
theorem wnE_ord {fr lo : Int} {x : Wn} (h : ¬ x.t ≤ x.f) (h1 : x.f < lo) : wnE fr lo x = 10 := by unfold wnE spE; rw [if_neg h, if_pos h1]; rfl
theorem wnE_rng {fr lo : Int} {x : Wn} (h : ¬ x.t ≤ x.f) (h1 : ¬ x.f < lo) (h2 : fr < x.t) : wnE fr lo x = 2 := by unfold wnE spE; rw [if_neg h, if_neg h1, if_pos h2]; rfl
theorem wnE_mis {fr lo : Int} {x : Wn} (h : ¬ x.t ≤ x.f) (h1 : ¬ x.f < lo) (h2 : ¬ fr < x.t) (h3 : x.p < 0 ∨ 5 < x.p) : wnE fr lo x = 7 := by unfold wnE spE; rw [if_neg h, if_neg h1, if_neg h2, if_neg (by decide), if_pos h3]
theorem wnE_ok {fr lo : Int} {x : Wn} (h : ¬ x.t ≤ x.f) (h1 : ¬ x.f < lo) (h2 : ¬ fr < x.t) (h3 : ¬ (x.p < 0 ∨ 5 < x.p)) : wnE fr lo x = 0 := by unfold wnE spE; rw [if_neg h, if_neg h1, if_neg h2, if_neg (by decide), if_neg h3]
theorem zeros_succ {fr : Int} {ws : List Wn} {k : Nat} {x : Wn} (h0 : ∀ j, j < k → (wnEs fr 0 ws)[j]? = some 0) (hx : ws[k]? = some x) (he : wnE fr (wnLo 0 ws k) x = 0) : ∀ j, j < k + 1 → (wnEs fr 0 ws)[j]? = some 0 := by
 intro j hj
 rcases Nat.lt_or_ge j k with h | h
 ·exact h0 j h
 ·obtain rfl : j = k := by omega
  rw [wnEs_at fr 0 ws j x hx, he]
/-- What windows answers. -/
def RwnPost (w : World) (fr : Int) (ws : List Wn) (r : Ending) (w' : World) : Prop := r = .returned (.tuple #[.int .i64 (firstE (wnEs fr 0 ws) 0).1, .int .i64 ((firstE (wnEs fr 0 ws) 0).2 : Nat)]) ∧ Below w.heap.size w w'
theorem RwnPost.at_ {w w' : World} {fr : Int} {ws : List Wn} {k : Nat} {x : Wn} {e : Int} (h0 : ∀ j, j < k → (wnEs fr 0 ws)[j]? = some 0) (hx : ws[k]? = some x) (he : wnE fr (wnLo 0 ws k) x = e) (h1 : e ≠ 0) (hB : Below w.heap.size w w') : RwnPost w fr ws (.returned (.tuple #[.int .i64 e, .int .i64 (k : Nat)])) w' := by
 have := firstE_at (wnEs fr 0 ws) k e h0 (by rw [wnEs_at fr 0 ws k x hx, he]) h1
 unfold RwnPost; rw [this]; exact ⟨rfl, hB⟩
theorem RwnPost.fine {w w' : World} {fr : Int} {ws : List Wn} (h0 : ∀ j, j < ws.length → (wnEs fr 0 ws)[j]? = some 0) (hB : Below w.heap.size w w') : RwnPost w fr ws (.returned (.tuple #[.int .i64 0, .int .i64 0])) w' := by
 have := firstE_none (wnEs fr 0 ws) 0 (by rw [wnEs_len]; exact h0)
 unfold RwnPost; rw [this]; exact ⟨rfl, hB⟩
set_option maxRecDepth 100000 in
set_option maxHeartbeats 4000000 in
theorem rwin_any (A : Option Addr) (n c : Nat) (fr : Int) (ws : List Wn) (w : World) (hn : n ≤ 1000) (hws : ws.length = n) (hW : WinsAt w A n ws) :
 Calls Tryz.prog 73 #[.slice A n c, .int .i64 fr] w (RwnPost w fr ws) := by
 have HW := hide hW; have HWS := hide hws; clear hW hws
 go_enter Tryz.func73, Tryz.ntmps73
 go_wp2_with fail
 go_loopw [10] (fun i wr => ∃ k : Nat, k ≤ n ∧ i = .int .i64 k ∧ Hid (∀ j, j < k → (wnEs fr 0 ws)[j]? = some 0) ∧ Hid (Below w.heap.size w wr)) (fun i _ => n - (intOf i).toNat)
 case atStart => exact ⟨0, by omega, rfl, hide (fun j hj => by omega), hide (Below.refl _ _)⟩
 case round =>
  obtain ⟨k, hk, rfl, HF, HB⟩ := hrel
  by_cases hlt : k < n
  ·have hW2 := HW.out.below HB.out
   obtain ⟨b, off, rfl, x, hx, c0, c1, c2⟩ := hW2 k hlt
   have HX := hide hx
   have HB2 := hide (HB.out.alloc HB.out.size (.cells #[.int .i64 x.p, .int .i64 x.f, .int .i64 x.t] 157))
   clear hx hW2
   by_cases h1 : x.t ≤ x.f
   ·have d1 : decide (x.t ≤ x.f) = true := decide_eq_true h1
    have HE := hide (wnE_one (fr := fr) (lo := wnLo 0 ws k) h1)
    clear h1
    go_wp2_with fail
    go_ret2
    exact RwnPost.at_ HF.out HX.out HE.out (by decide) HB2.out
   ·have d1 : decide (x.t ≤ x.f) = false := decide_eq_false h1
    cases k with
    | zero =>
     simp only [Nat.zero_mul, Nat.add_zero] at c0 c1 c2
     have HLO := hide (wnLo_zero 0 ws)
     by_cases h2 : x.f < 0
     ·have d2 : decide (x.f < 0) = true := decide_eq_true h2
      have HE := hide (wnE_ord (fr := fr) (lo := 0) h1 h2)
      clear h1 h2
      go_wp2_with fail
      go_ret2
      exact RwnPost.at_ HF.out HX.out (by rw [HLO.out]; exact HE.out) (by decide) HB2.out
     have d2 : decide (x.f < 0) = false := decide_eq_false h2
     by_cases h3 : fr < x.t
     ·have d3 : decide (fr < x.t) = true := decide_eq_true h3
      have HE := hide (wnE_rng (fr := fr) (lo := 0) h1 h2 h3)
      clear h1 h2 h3
      go_wp2_with fail
      go_quiet (fail)
      go_wp2_with fail
      go_ret2
      exact RwnPost.at_ HF.out HX.out (by rw [HLO.out]; exact HE.out) (by decide) (below_drewN HB2.out _)
     ·have d3 : decide (fr < x.t) = false := decide_eq_false h3
      cases h4 : inB x.p 0 5
      case false =>
       have HE := hide (wnE_mis (fr := fr) (lo := 0) h1 h2 h3 (by unfold inB at h4; simp at h4; omega))
       clear h1 h2 h3
       go_wp2_with fail
       go_quiet (fail)
       go_wp2_with fail
       refine (in_is x.p 0 5 false h4 _).mono ?_
       rintro e w3 ⟨rfl, rfl⟩
       go_wp2_with fail
       go_ret2
       exact RwnPost.at_ HF.out HX.out (by rw [HLO.out]; exact HE.out) (by decide) (below_drewN HB2.out _)
      case true =>
       have HE := hide (wnE_ok (fr := fr) (lo := 0) h1 h2 h3 (by unfold inB at h4; simp at h4; omega))
       clear h1 h2 h3
       go_wp2_with fail
       go_quiet (fail)
       go_wp2_with fail
       refine (in_is x.p 0 5 true h4 _).mono ?_
       rintro e w3 ⟨rfl, rfl⟩
       go_wp2_with fail
       go_roundw
       case rel => exact ⟨0 + 1, by omega, by go_num, hide (zeros_succ HF.out HX.out (by rw [HLO.out]; exact HE.out)), hide (below_drewN HB2.out _)⟩
       case measure => simp [intOf]; omega
    | succ j =>
     obtain ⟨b', off', e', y, hy, _, _, k2⟩ := (HW.out.below HB.out) j (by omega)
     cases e'
     have k2' := (World.cell?_alloc_lt wr (.cells #[.int .i64 x.p, .int .i64 x.f, .int .i64 x.t] 157) ⟨b, off + j * 3 + 2, none⟩ (World.block_lt_of_cell? _ _ k2)).trans k2
     have HLO := hide (wnLo_succ 0 ws j y hy)
     have hj1 : ((j : Int) + 1 == 0) = false := by rw [beq_eq_false_iff_ne]; omega
     have hj2 : decide ((0 : Int) < (j : Int) + 1) = true := decide_eq_true (by omega)
     have hjn : (j : Int) < (n : Int) := by omega
     clear hy
     by_cases h2 : x.f < y.t
     ·have d2 : decide (x.f < y.t) = true := decide_eq_true h2
      have HE := hide (wnE_ord (fr := fr) (lo := y.t) h1 h2)
      clear h1 h2
      go_wp2_with fail
      go_quiet (fail)
      go_wp2_with fail
      go_ret2
      exact RwnPost.at_ HF.out HX.out (by rw [HLO.out]; exact HE.out) (by decide) (below_drewN HB2.out _)
     have d2 : decide (x.f < y.t) = false := decide_eq_false h2
     by_cases h3 : fr < x.t
     ·have d3 : decide (fr < x.t) = true := decide_eq_true h3
      have HE := hide (wnE_rng (fr := fr) (lo := y.t) h1 h2 h3)
      clear h1 h2 h3
      go_wp2_with fail
      go_quiet (fail)
      go_wp2_with fail
      go_ret2
      exact RwnPost.at_ HF.out HX.out (by rw [HLO.out]; exact HE.out) (by decide) (below_drewN HB2.out _)
     ·have d3 : decide (fr < x.t) = false := decide_eq_false h3
      cases h4 : inB x.p 0 5
      case false =>
       have HE := hide (wnE_mis (fr := fr) (lo := y.t) h1 h2 h3 (by unfold inB at h4; simp at h4; omega))
       clear h1 h2 h3
       go_wp2_with fail
       go_quiet (fail)
       go_wp2_with fail
       refine (in_is x.p 0 5 false h4 _).mono ?_
       rintro e w3 ⟨rfl, rfl⟩
       go_wp2_with fail
       go_ret2
       exact RwnPost.at_ HF.out HX.out (by rw [HLO.out]; exact HE.out) (by decide) (below_drewN HB2.out _)
      case true =>
       have HE := hide (wnE_ok (fr := fr) (lo := y.t) h1 h2 h3 (by unfold inB at h4; simp at h4; omega))
       clear h1 h2 h3
       go_wp2_with fail
       go_quiet (fail)
       go_wp2_with fail
       refine (in_is x.p 0 5 true h4 _).mono ?_
       rintro e w3 ⟨rfl, rfl⟩
       go_wp2_with fail
       go_roundw
       case rel => exact ⟨j + 1 + 1, by omega, by go_num, hide (zeros_succ HF.out HX.out (by rw [HLO.out]; exact HE.out)), hide (below_drewN HB2.out _)⟩
       case measure => simp [intOf]; omega
  ·obtain rfl : n = k := by omega
   go_wp2_with fail
   go_ret2
   exact RwnPost.fine (by rw [HWS.out]; exact HF.out) HB.out
end
section
open Go Go.RowKit
theorem rowI_zero (c : List Int) (j : Nat) : rowI c j 0 = [] := rfl
theorem own_row0 {w : World} {base : Nat} (c : List Int) (j : Nat) : w.ownsRow base 3 1 (.slice none 0 0) 0 ((rowI c j 0).map (Value.int .i64)) := by
 rw [rowI_zero]
 exact World.ownsRow_nil _ _ _ _
/-- Members stay among the nodes. -/
def MmOk (p : Pl) (c : Cl) : Prop := ∀ i, (c.mm i).m < 2 ^ p.nd.toNat
theorem step_append_own2 {P : Program} {ops : Array Oper} {o : Oper} {a : Act} {w : World} {K : Act → World → Prop} {Q : Exit → Act → World → Prop} {E : Prop}
 (hg : o.guard = none) (s x : Operand) (t : TypeId) (ho : o.op = .call { callee := .builtin .append, args := #[s, x], argTypes := #[t, t] })
 (base : Nat) (e : TypeId) (i : TypeInfo) (z : Value) (size bytes : Nat) (ht : P.underlying t = some (.slice e)) (hi : P.info? e = some i) (hz : i.zero = some z)
 (hsize : i.size = size) (hby : i.bytes = bytes) (hzs : z.cells.size = size) (hsz : 0 < size)
 (v : Value) (n : Nat) (xs : List Value) (hs : a.eval s = v) (hown : w.ownsRow base e size v n xs)
 (ad : Addr) (m c : Nat) (news : List Value) (hx : a.eval x = .slice (some ad) m c) (hl : news.length = m * size) (hnews : ∀ j u, news[j]? = some u → w.cell? (ad.add j) = some u) (h1 : ∀ u ∈ news, u.oneCell' = true)
 (h63 : n + m ≤ maxLen) (hbytes : (n + m) * bytes ≤ 140737488355328) (hbase : base ≤ w.heap.size)
 (h : ∀ v' w', w'.ownsRow base e size v' (n + m) (xs ++ news) → w.grownBy w' v.ownBlock → (v'.ownBlock = v.ownBlock ∨ ∀ k, v'.ownBlock = some k → w.heap.size ≤ k) → K (a.put o.dst v') w') :
 if Region.wanted o (yielded ops a.tmps) = true then Oper.wp P o a w K Q else E := by
 have hw : Region.wanted o (yielded ops a.tmps) = true := by simp [Region.wanted, hg]
 rw [if_pos hw]
 exact wp_append_own2 w s x t ho base e i z size bytes ht hi hz hsize hby hzs hsz v n xs hs hown ad m c news hx hl hnews h1 h63 hbytes hbase h
/-- Drifts that are none. -/
theorem outK_past (p : Pl) (zs dr : List Int) {k : Nat} (hk : dr.length ≤ k) : outK p zs dr (k + 1) = outK p zs dr k := by
 unfold outK
 apply List.map_congr_left
 intro i _
 by_cases h : i < dr.length
 ·rw [if_pos ⟨by omega, h⟩, if_pos ⟨by omega, h⟩]
 ·rw [if_neg (fun hh => h hh.2), if_neg (fun hh => h hh.2)]
theorem outK_end (p : Pl) (zs dr : List Int) {k : Nat} (hk : zs.length ≤ k) : outK p zs dr k = driftF p zs dr := by
 unfold outK driftF
 apply List.map_congr_left
 intro i hi
 have hi := List.mem_range.1 hi
 by_cases h : i < dr.length
 ·rw [if_pos ⟨by omega, h⟩, if_pos h]
 ·rw [if_neg (fun hh => h hh.2), if_neg h]
theorem outK_same (p : Pl) (zs dr : List Int) {k i : Nat} (hi : i < k) (hz : i < zs.length) : (outK p zs dr k).getD i 0 = (driftF p zs dr).getD i 0 := by
 rw [outK_get p zs dr k hz, driftF_get zs dr hz]
 by_cases h : i < dr.length
 ·rw [if_pos ⟨hi, h⟩, if_pos h]
 ·rw [if_neg (fun hh => h hh.2), if_neg h]
theorem fin_below {w w' : World} (h : FinT w) (hB : Below w.heap.size w w') : FinT w' :=
 ⟨(hB.cell (p := ⟨0, 0, none⟩) (World.block_lt_of_cell? _ _ h.1)).trans h.1, (hB.cell (p := ⟨0, 1, none⟩) (World.block_lt_of_cell? _ _ h.2)).trans h.2⟩
theorem mm_hear_lt {s : Mm} {n fr : Nat} {what : Int} (h : s.m < 2 ^ n) (hf : fr < n) : (s.hear fr what).m < 2 ^ n := by
 have h1 : (2 : Nat) ^ fr < 2 ^ n := Nat.pow_lt_pow_right (by omega) hf
 unfold Mm.hear
 split
 ·exact h
 ·split
  ·exact Nat.or_lt_two_pow h h1
  ·split <;> exact clr_lt _ _ _ h
theorem MmOk.hears {p : Pl} {c : Cl} (h : MmOk p c) {from_ : Nat} (hf : from_ < p.nd.toNat) (tn slot : Nat) (fr : Option FrR) (ls : List Ls) : MmOk p (hearsF p from_ tn slot fr ls c) := by
 intro i
 rw [hearsF_ch]
 dsimp only
 rw [hearCh_mm]
 unfold updF
 split
 ·exact mm_hear_lt (h tn) hf
 ·exact h i
theorem MmOk.all {p : Pl} {c : Cl} (h : MmOk p c) {node : Nat} (hf : node < p.nd.toNat) (slot : Nat) (fr : Option FrR) (ls : List Ls) : ∀ k, MmOk p (hearAll p node slot fr ls c k)
 | 0 => by rw [hearAll_zero]; exact h
 | k + 1 => by
  by_cases e : k = node
  ·rw [hearAll_skip e]; exact h.all hf slot fr ls k
  ·rw [hearAll_step e]; exact (h.all hf slot fr ls k).hears hf k slot fr ls
theorem loads_mm (now nd : Int) : ∀ (ls : List Lk) (k : Nat) (c : Cl), (loadsF now nd ls k c).1.mm = c.mm
 | [], _, _ => rfl
 | l :: ls, k, c => by
  unfold loadsF
  split
  ·split
   ·rfl
   ·exact loads_mm now nd ls (k + 1) _
  ·exact loads_mm now nd ls (k + 1) c
theorem MmOk.send {p : Pl} {c : Cl} (h : MmOk p c) (i : Nat) : MmOk p { c with mm := updF c.mm i (c.mm i).send } := by
 intro j
 dsimp only
 unfold updF
 split
 ·rw [(mm_sends (c.mm i)).1]; exact h i
 ·exact h j
theorem MmOk.slot {p : Pl} {c : Cl} (hp : PlOk p) (h : MmOk p c) (fy : Nat) (r : Rn) (i : Nat) : MmOk p (slotF p fy r i c) := by
 cases hs : p.sl[i]? with
 | none =>
  unfold slotF
  rw [hs]
  exact h
 | some s =>
  have hsl := hp.slot i s hs
  have hn : s.n.toNat < p.nd.toNat := by omega
  unfold slotF
  rw [hs]
  dsimp only
  split
  ·refine MmOk.all ?_ hn _ _ _ _
   intro j
   rw [loads_mm]
   exact h.send s.n.toNat j
  ·exact (h.send s.n.toNat).all hn _ _ _ _
theorem MmOk.slots {p : Pl} {c : Cl} (hp : PlOk p) (h : MmOk p c) (fy : Nat) (r : Rn) : ∀ k, MmOk p (slotsF p fy r c k)
 | 0 => h
 | k + 1 => by
  show MmOk p (slotF p fy r k (slotsF p fy r c k))
  exact (h.slots hp fy r k).slot hp fy r k
/-- What the first links have done. -/
def LdOk (p : Pl) (ok : Bool) (now n : Int) (c1 c' : Cl) (k : Nat) (lk sq : Int) (d : ByteArray) : Prop :=
 (ok = false ∧ c' = c1 ∧ lk = -1 ∧ sq = 0 ∧ d = ⟨#[]⟩) ∨ (ok = true ∧ lk = -1 ∧ sq = 0 ∧ d = ⟨#[]⟩ ∧ loadsF now n p.lk 0 c1 = loadsF now n (p.lk.drop k) k c') ∨ (ok = true ∧ 0 ≤ lk ∧ loadsF now n p.lk 0 c1 = (c', (lk, sq, d)))
section
variable {p : Pl} {ok : Bool} {now n : Int} {c1 c' : Cl} {k : Nat} {lk sq : Int} {d : ByteArray}
theorem LdOk.start (p : Pl) (ok : Bool) (now n : Int) (c1 : Cl) : LdOk p ok now n c1 c1 0 (-1) 0 ⟨#[]⟩ := by
 cases ok
 ·exact .inl ⟨rfl, rfl, rfl, rfl, rfl⟩
 ·exact .inr (.inl ⟨rfl, rfl, rfl, rfl, rfl⟩)
theorem drop_cons {l : Lk} {ls : List Lk} {k : Nat} (h : ls[k]? = some l) : ls.drop k = l :: ls.drop (k + 1) := by
 obtain ⟨hk, e⟩ := List.getElem?_eq_some_iff.1 h
 rw [← e]
 exact List.drop_eq_getElem_cons hk
theorem LdOk.skip {l : Lk} (h : LdOk p ok now n c1 c' k lk sq d) (hl : p.lk[k]? = some l) (hs : ok = false ∨ 0 ≤ lk ∨ l.f ≠ n) : LdOk p ok now n c1 c' (k + 1) lk sq d := by
 rcases h with h | ⟨h1, h2, h3, h4, h5⟩ | h
 ·exact .inl h
 ·have hf : l.f ≠ n := by
   rcases hs with h | h | h
   ·rw [h1] at h; cases h
   ·omega
   ·exact h
  refine .inr (.inl ⟨h1, h2, h3, h4, ?_⟩)
  rw [h5, drop_cons hl]
  conv => lhs; unfold loadsF
  rw [if_neg hf]
 ·exact .inr (.inr h)
theorem LdOk.none_ {l : Lk} (h : LdOk p ok now n c1 c' k lk sq d) (hl : p.lk[k]? = some l) (h1 : ok = true) (h2 : lk < 0) (hf : l.f = n) (he : sdE now (c'.sd k).la (c'.sd k).nw l.b (c'.sd k).q.length ≠ 0) : LdOk p ok now n c1 { c' with sd := updF c'.sd k { c'.sd k with nw := sdN (sdE now (c'.sd k).la (c'.sd k).nw l.b (c'.sd k).q.length) now (c'.sd k).nw } } (k + 1) lk sq d := by
 rcases h with h | ⟨h1', h2', h3, h4, h5⟩ | h
 ·rw [h1] at h; cases h.1
 ·refine .inr (.inl ⟨h1', h2', h3, h4, ?_⟩)
  rw [h5, drop_cons hl]
  conv => lhs; unfold loadsF
  rw [if_pos hf, if_neg he]
 ·omega
theorem LdOk.some_ {l : Lk} (h : LdOk p ok now n c1 c' k lk sq d) (hl : p.lk[k]? = some l) (h1 : ok = true) (h2 : lk < 0) (hf : l.f = n) (he : sdE now (c'.sd k).la (c'.sd k).nw l.b (c'.sd k).q.length = 0) : LdOk p ok now n c1 { c' with sd := updF c'.sd k ⟨if (c'.sd k).nx + 1 = 256 then 1 else (c'.sd k).nx + 1, now, now, (c'.sd k).q.tail⟩ } (k + 1) (k : Int) (c'.sd k).nx ((c'.sd k).q.headD ⟨#[]⟩) := by
 rcases h with h | ⟨h1', h2', h3, h4, h5⟩ | h
 ·rw [h1] at h; cases h.1
 ·refine .inr (.inr ⟨h1', by omega, ?_⟩)
  rw [h5, drop_cons hl]
  conv => lhs; unfold loadsF
  rw [if_pos hf, if_pos he]
 ·omega
end
theorem xor_two (m a b : Nat) (h : a ≠ b) : (m ^^^ 2 ^ a) ^^^ 2 ^ b = m ^^^ (2 ^ a ||| 2 ^ b) := by
 rw [Nat.xor_assoc]
 congr 1
 apply Nat.eq_of_testBit_eq
 intro i
 simp only [Nat.testBit_xor, Nat.testBit_or, Nat.testBit_two_pow]
 by_cases e : a = i <;> by_cases e2 : b = i <;> simp [e, e2]
 omega
theorem xor_pow (m k : Nat) (hm : m < 65536) (hk : k < 16) : bits .xor .i64 (m : Int) (wrap64 (2 ^ k)) = ((m ^^^ 2 ^ k : Nat) : Int) := by
 have h1 : 2 ^ k ≤ 2 ^ 15 := Nat.pow_le_pow_right (by omega) (by omega)
 rw [pow_small k (by omega), i64_xor_nat _ _ (by omega) (by omega)]
/-- Lists at blocks that stay. -/
theorem loss_keep {w w' : World} {A : Option Addr} {ls : List Ls} (h : LossAt w A ls) (hk : ∀ x, A = some x → w'.heap[x.block]? = w.heap[x.block]?) : LossAt w' A ls := fun j x hj => by
 obtain ⟨b, off, rfl, h1, h2, h3⟩ := h j x hj
 have e := hk _ rfl
 exact ⟨b, off, rfl, (cell_heap e _).trans h1, (cell_heap e _).trans h2, (cell_heap e _).trans h3⟩
/-- Losses, one by one. -/
theorem lost_succ {ls : List Ls} {j : Nat} {x : Ls} (hx : ls[j]? = some x) (slot ch tn : Nat) : lostB (ls.take (j + 1)) slot ch tn = (lostB (ls.take j) slot ch tn || (decide (x.s = slot) && decide (x.c = ch) && bitB x.t tn)) := by
 unfold lostB
 rw [List.take_add_one, hx, List.any_append]
 simp
theorem lost_zero (ls : List Ls) (slot ch tn : Nat) : lostB (ls.take 0) slot ch tn = false := rfl
end
section
open Go Go.RowKit
/-- A block of a function's code, by its number. -/
def blockOf (n : Nat) : Code → Option Code
 | .block m c => if m == n then some (.block m c) else blockOf n c
 | .seq a b => match blockOf n a with
  | some c => some c
  | none => blockOf n b
 | .loop c => blockOf n c
 | .scope c => blockOf n c
 | .cond _ a b => match blockOf n a with
  | some c => some c
  | none => blockOf n b
 | _ => none
noncomputable def plB (n : Nat) : Code := (Tryz.f20.body.bind (blockOf n)).getD .skip
end
end Go.Proofs.YtdogdlnaacimpaaGreatDoor
