/- The contract of frame.Decode at bytes whose sum is right (a message of another length); condition: the bytes lie in memory. -/
import Derived.Test.YtideefjnlakciaaGreatDoorP04
set_option linter.unusedVariables false
set_option linter.unusedSimpArgs false
namespace Go.Proofs.YtideefjnlakciaaGreatDoor
section
open Go.RowKit
set_option maxRecDepth 100000 in
set_option maxHeartbeats 20000000 in
theorem dec_pos1 (nd sl x2 x3 lk x5 x6 b off m c : Nat) (bs : List Nat) (x y : Nat) (w : World) (hm : 5 ≤ m) (hm2 : m + 2 ≤ c) (hc : c ≤ 9223372036854775807) (hl : bs.length = m) (hlt : ∀ x ∈ bs, x < 256) (hB : BytesAt w (some ⟨b, off, none⟩) bs.length bs)
 (hx : w.cell? ⟨b, off + m, none⟩ = some (.int .u8 x)) (hy : w.cell? ⟨b, off + (m + 1), none⟩ = some (.int .u8 y)) (x1 : x < 256) (y1 : y < 256) (hs : crcS bs = x * 256 + y)
 (g0 : w.cell? ⟨b, off, none⟩ = some (.int .u8 nd)) (g1 : w.cell? ⟨b, off + 1, none⟩ = some (.int .u8 sl)) (g2 : w.cell? ⟨b, off + 2, none⟩ = some (.int .u8 x2)) (g3 : w.cell? ⟨b, off + 3, none⟩ = some (.int .u8 x3)) (g4 : w.cell? ⟨b, off + 4, none⟩ = some (.int .u8 lk)) (l0 : Hid (nd < 256)) (l1 : Hid (sl < 256)) (l2 : x2 < 256) (l3 : x3 < 256) (l4 : Hid (lk < 256)) (L : Int) (hL : Hid (L = (lk : Int) - 1))
 (g5 : 7 ≤ m → w.cell? ⟨b, off + 5, none⟩ = some (.int .u8 x5)) (g6 : 7 ≤ m → w.cell? ⟨b, off + 6, none⟩ = some (.int .u8 x6)) (_l5 : Hid (x5 < 256)) (l6 : Hid (x6 < 256))
 (xs : List Int) (hxs : xs.length = m - 7) (g7 : ∀ i, i < m - 7 → w.cell? ⟨b, off + 7 + i, none⟩ = some (.int .u8 (xs.getD i 0)))
 (ok : Bool) (hok : Hid ((if L < 0 then decide (m = 5) && fOk nd sl ((x2 * 256 + x3 : Nat) : Int) L 0 0 else decide (m = 7 + x6) && fOk nd sl ((x2 * 256 + x3 : Nat) : Int) L x5 (m - 7)) = ok)) (hcase : Hid (0 ≤ L)) (hm7 : Hid (¬ m = 7 + x6)) (v : Value) (_hv : Hid ((if L < 0 then frV nd sl ((x2 * 256 + x3 : Nat) : Int) L 0 ⟨#[]⟩ else frV nd sl ((x2 * 256 + x3 : Nat) : Int) L x5 (strOfNums xs)) = v)) :
 Calls Tryz.prog 204 #[.slice (some ⟨b, off, none⟩) (m + 2) c] w (DecPost w ok v) := by
 obtain ⟨z, hz⟩ : ∃ z : Nat, z = x * 256 + y := ⟨_, rfl⟩
 have ho := or_byte x y x1 y1
 rw [← hz] at ho hs
 obtain ⟨k, hk⟩ : ∃ k : Nat, k = crcS bs := ⟨_, rfl⟩
 rw [← hk] at hs
 have hne : ((k : Int) != (z : Int)) = false := by simp; omega
 obtain ⟨mb, hmb⟩ : ∃ z : Nat, z = x2 * 256 + x3 := ⟨_, rfl⟩
 have ho2 := or_byte x2 x3 l2 l3
 rw [← hmb] at ho2 hok
 have hS := hide (show ∀ W : World, BytesAt W (some ⟨b, off, none⟩) m bs → Calls Tryz.prog 202 #[.slice (some ⟨b, off, none⟩) m c] W fun e w' => e = .returned (.int .i64 k) ∧ W = w' by
  intro W hW; rw [hk]; subst hl; exact sum_any _ _ bs W hW hlt (by omega))
 have HB := hide (show BytesAt w (some ⟨b, off, none⟩) m bs from hl ▸ hB)
 clear hB hk hz hs hlt hl
 have h1 : decide ((m : Int) < 5) = false := by simp; omega
 have h2 : ((m + 2 : Nat) : Int) - 2 = (m : Int) := by omega
 go_enter Tryz.func204, Tryz.ntmps204
 go_wp2
 generalize hW : (World.alloc _ _) = W
 obtain ⟨hb, hB⟩ : Blk W w.heap.size 269 #[.int .i64 0, .int .i64 0, .int .i64 0, .int .i64 0, .int .i64 0, .string ⟨#[]⟩] ∧ Below w.heap.size w W := by
  subst hW
  exact ⟨(Blk.new w _ _), ((Below.refl _ _).alloc (Nat.le_refl _) _)⟩
 have hx' : W.cell? ⟨b, off + m, none⟩ = some (.int .u8 x) := by
  rw [← hx]; exact hB.cell (World.block_lt_of_cell? _ _ hx)
 have hy' : W.cell? ⟨b, off + (m + 1), none⟩ = some (.int .u8 y) := by
  rw [← hy]; exact hB.cell (World.block_lt_of_cell? _ _ hy)
 have hBA : BytesAt W (some ⟨b, off, none⟩) m bs := HB.out.below hB
 have HBA := hide hBA
 have HBl := hide hB; have Hb := hide hb
 clear hW hb hBA hB hx hy hmb
 go_quiet ((go_at_call 202; exact quiet_left (hS.out _ (by exact HBA.out))))
 generalize hW : (World.drewN _ _) = W2
 obtain ⟨hb2, hB2⟩ : Blk W2 w.heap.size 269 #[.int .i64 0, .int .i64 0, .int .i64 0, .int .i64 0, .int .i64 0, .string ⟨#[]⟩] ∧ Below w.heap.size w W2 := by
  subst hW
  exact ⟨Hb.out.drewN _, below_drewN HBl.out _⟩
 clear hW
 have e0 : W2.cell? ⟨b, off, none⟩ = some (.int .u8 nd) := by rw [← g0]; exact hB2.cell (World.block_lt_of_cell? _ _ g0)
 have e1 : W2.cell? ⟨b, off + 1, none⟩ = some (.int .u8 sl) := by rw [← g1]; exact hB2.cell (World.block_lt_of_cell? _ _ g1)
 have e2 : W2.cell? ⟨b, off + 2, none⟩ = some (.int .u8 x2) := by rw [← g2]; exact hB2.cell (World.block_lt_of_cell? _ _ g2)
 have e3 : W2.cell? ⟨b, off + 3, none⟩ = some (.int .u8 x3) := by rw [← g3]; exact hB2.cell (World.block_lt_of_cell? _ _ g3)
 have e4 : W2.cell? ⟨b, off + 4, none⟩ = some (.int .u8 lk) := by rw [← g4]; exact hB2.cell (World.block_lt_of_cell? _ _ g4)
 have E5 : Hid (7 ≤ m → W2.cell? ⟨b, off + 5, none⟩ = some (.int .u8 x5)) := hide (fun h => by rw [← g5 h]; exact hB2.cell (World.block_lt_of_cell? _ _ (g5 h)))
 have E6 : Hid (7 ≤ m → W2.cell? ⟨b, off + 6, none⟩ = some (.int .u8 x6)) := hide (fun h => by rw [← g6 h]; exact hB2.cell (World.block_lt_of_cell? _ _ (g6 h)))
 have E7 : Hid (∀ i, i < m - 7 → W2.cell? ⟨b, off + 7 + i, none⟩ = some (.int .u8 (xs.getD i 0))) := hide (fun i h => by rw [← g7 i h]; exact hB2.cell (World.block_lt_of_cell? _ _ (g7 i h)))
 clear g5 g6 g7
 have HB2 := hide hB2; have hsz := hB2.size; have Hb2 := hide hb2; clear hB2 hb2 g0 g1 g2 g3 g4
 have hbl : b < W2.heap.size := World.block_lt_of_cell? _ _ e0
 have hbn : b ≠ W2.heap.size := Nat.ne_of_lt hbl
 have hbm : W2.heap.size ≠ b := fun h => hbn h.symm
 have d0 : ∀ o j, (W2.alloc o).drew.cell? ⟨b, j, none⟩ = W2.cell? ⟨b, j, none⟩ := fun o j => World.cell?_alloc_past _ _ _ hbl
 go_wp2
 go_region
 have q0 : wrap64 (nd : Int) = nd := by have := l0.out; unfold wrap64; omega
 have q1 : wrap64 (sl : Int) = sl := by have := l1.out; unfold wrap64; omega
 have q5 : wrap64 (lk : Int) = lk := by have := l4.out; unfold wrap64; omega
 have q7 : wrap64 L = L := by have := hL.out; have := l4.out; unfold wrap64; omega
 have q6 : (lk : Int) - 1 = L := hL.out.symm
 try simp only [q0, q1, q5, q6, q7]
 clear q0 q1 q5 q6 q7
 generalize hW : (World.drew _) = W3
 obtain ⟨ha, hb3, hB3, hd3⟩ : Blk W3 W2.heap.size 269 #[.int .i64 nd, .int .i64 sl, .int .i64 mb, .int .i64 L, .int .i64 0, .string ⟨#[]⟩] ∧ Blk W3 w.heap.size 269 #[.int .i64 0, .int .i64 0, .int .i64 0, .int .i64 0, .int .i64 0, .string ⟨#[]⟩] ∧ Below w.heap.size w W3 ∧ ∀ j, W3.cell? ⟨b, j, none⟩ = W2.cell? ⟨b, j, none⟩ := by
  subst hW
  exact ⟨(Blk.new W2 _ _).drew, (Hb2.out.alloc _).drew, (HB2.out.alloc (by have := HB2.out.size; omega) _).drew, fun j => d0 _ j⟩
 clear hW d0 e0 e1 e2 e3 e4
 have HA3 := hide ha; have HBB := hide hb3; have HB3 := hide hB3; have D3 := hide hd3
 have hbw : w.heap.size ≠ W2.heap.size := by have := HB2.out.size; have := Hb2.out.lt; omega
 clear HB2 Hb2 hB3 hd3
 have hpos := hcase.out
 rw [if_neg (by omega)] at hok
 have h6 : decide (L < 0) = false := decide_eq_false (by omega)
 have h7 : decide (0 ≤ L) = true := decide_eq_true hpos
 by_cases h8 : m < 7
 ·
  obtain rfl : ok = false := by rw [← hok.out, decide_eq_false (by omega), Bool.false_and]
  obtain ⟨j0, j1, j2, j3, j4, j5, u0, u1, u2, u3, u4, u5⟩ := ha.cells6
  obtain ⟨k0, k1, k2, k3, k4, k5, f0, f1, f2, f3, f4, f5⟩ := hb3.cells6
  clear ha hb3
  have h9 : decide ((m : Int) < 7) = true := decide_eq_true (by omega)
  clear hm hm2 hc h8
  go_wp2_with fail
  have hb6 : Blk ((((((W3.setCell ⟨w.heap.size, 0, none⟩ (.int .i64 0)).setCell ⟨w.heap.size, 1, none⟩ (.int .i64 0)).setCell ⟨w.heap.size, 2, none⟩ (.int .i64 0)).setCell ⟨w.heap.size, 3, none⟩ (.int .i64 0)).setCell ⟨w.heap.size, 4, none⟩ (.int .i64 0)).setCell ⟨w.heap.size, 5, none⟩ (.string ⟨#[]⟩)) w.heap.size 269 #[.int .i64 0, .int .i64 0, .int .i64 0, .int .i64 0, .int .i64 0, .string ⟨#[]⟩] := ((((((HBB.out.set_ 0 _).set_ 1 _).set_ 2 _).set_ 3 _).set_ 4 _).set_ 5 _)
  exact bodyPost_ret (dec_results _ _ w.heap.size _ _ _ _ _ _ _ rfl rfl hb6) rfl (DecPost.bad (((((((HB3.out.setCell (Nat.le_refl _) _).setCell (Nat.le_refl _) _).setCell (Nat.le_refl _) _).setCell (Nat.le_refl _) _).setCell (Nat.le_refl _) _).setCell (Nat.le_refl _) _)))
 ·have h9 : decide ((m : Int) < 7) = false := decide_eq_false (by omega)
  have e6 : W3.cell? ⟨b, off + 6, none⟩ = some (.int .u8 x6) := by rw [D3.out]; exact E6.out (by omega)
  have h1c : decide ((6 : Int) < ((m + 2 : Nat) : Int)) = true := decide_eq_true (by omega)
  have h10 := hm7.out
  obtain rfl : ok = false := by rw [← hok.out, decide_eq_false h10, Bool.false_and]
  have h11 : ((m : Int) != wrap64 (7 + wrap64 (x6 : Int))) = true := e12 h10 l6.out
  obtain ⟨j0, j1, j2, j3, j4, j5, u0, u1, u2, u3, u4, u5⟩ := ha.cells6
  obtain ⟨k0, k1, k2, k3, k4, k5, f0, f1, f2, f3, f4, f5⟩ := hb3.cells6
  clear ha hb3
  go_wp2_with fail
  have hb6 : Blk ((((((W3.setCell ⟨w.heap.size, 0, none⟩ (.int .i64 0)).setCell ⟨w.heap.size, 1, none⟩ (.int .i64 0)).setCell ⟨w.heap.size, 2, none⟩ (.int .i64 0)).setCell ⟨w.heap.size, 3, none⟩ (.int .i64 0)).setCell ⟨w.heap.size, 4, none⟩ (.int .i64 0)).setCell ⟨w.heap.size, 5, none⟩ (.string ⟨#[]⟩)) w.heap.size 269 #[.int .i64 0, .int .i64 0, .int .i64 0, .int .i64 0, .int .i64 0, .string ⟨#[]⟩] := ((((((HBB.out.set_ 0 _).set_ 1 _).set_ 2 _).set_ 3 _).set_ 4 _).set_ 5 _)
  exact bodyPost_ret (dec_results _ _ w.heap.size _ _ _ _ _ _ _ rfl rfl hb6) rfl (DecPost.bad (((((((HB3.out.setCell (Nat.le_refl _) _).setCell (Nat.le_refl _) _).setCell (Nat.le_refl _) _).setCell (Nat.le_refl _) _).setCell (Nat.le_refl _) _).setCell (Nat.le_refl _) _)))
end
end Go.Proofs.YtideefjnlakciaaGreatDoor
