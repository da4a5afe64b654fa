/- The contract of the method Bytes of metronomeref.Frame at a frame without a message; no condition. -/
import Derived.Test.YtdbegdhbabfnoaaDoorRb
set_option linter.unusedVariables false
set_option linter.unusedSimpArgs false
namespace Go.Proofs.YtdbegdhbabfnoaaDoor
open Go.RowKit

theorem inB_nat (n lo : Nat) (h : n ≤ lo) : inB (n : Int) 0 (lo : Int) = true := by unfold inB; simp; omega

set_option maxRecDepth 100000 in
set_option maxHeartbeats 2000000 in
theorem rb_none (nd sl mb : Nat) (w : World) (h1 : nd < 16) (h2 : sl < 32) (h3 : mb < 65536) :
    Calls Tryd.prog 10 #[frV nd sl mb (-1) 0 ⟨#[]⟩] w (RbPost w (withSum (frN nd sl mb))) := by
  have hb0' := Blk.new w 24 (frC nd sl mb (-1) 0 ⟨#[]⟩)
  obtain ⟨i0, i1, i2, i3, i4, i5⟩ := blk_cells6 hb0'
  have hlt0 := hb0'.lt
  clear hb0'
  have n1 : inB (nd : Int) 0 15 = true := inB_nat nd 15 (by omega)
  have n2 : inB (sl : Int) 0 31 = true := inB_nat sl 31 (by omega)
  have n3 : inB (mb : Int) 0 65535 = true := inB_nat mb 65535 (by omega)
  have n4 : inB (-1) 0 7 = false := by decide
  obtain ⟨i0', hi, hz0, hz1, hz2⟩ := info_parts u8_info
  obtain ⟨x2, hx2⟩ : ∃ x : Nat, x = mb / 256 := ⟨_, rfl⟩
  obtain ⟨x3, hx3⟩ : ∃ x : Nat, x = mb % 256 := ⟨_, rfl⟩
  have q2 : (mb : Int) / 256 = (x2 : Int) := by omega
  have q3 : (mb : Int) % 256 = (x3 : Int) := by omega
  have hfin : withSum (frN nd sl mb) = [nd, sl, x2, x3, 0] ++ [crcS [nd, sl, x2, x3, 0] / 256, crcS [nd, sl, x2, x3, 0] % 256] := by rw [withSum, frN, hx2, hx3]
  have b2 : x2 < 256 := by omega
  have b3 : x3 < 256 := by omega
  have hlt : ∀ x ∈ [nd, sl, x2, x3, 0], x < 256 := by
    intro x hx
    simp only [List.mem_cons, List.not_mem_nil, or_false] at hx
    omega
  clear hx2 hx3
  have r0 : (nd : Int) % 256 = nd := by omega
  have r1 : (sl : Int) % 256 = sl := by omega
  have r2 : (x2 : Int) % 256 = x2 := by omega
  have r3 : (x3 : Int) % 256 = x3 := by omega
  have m1 := own_of_blk (base := w.heap.size) (n := 5) (Blk.new (w.alloc (.cells (frC nd sl mb (-1) 0 ⟨#[]⟩) 24)) 5 (bv [nd, sl, x2, x3, 0]).toArray) (by simp) rfl (by simp [maxLen])
  simp only [World.size_alloc] at m1
  have hB := hide ((((Below.refl w.heap.size w).alloc (Nat.le_refl _) (.cells (frC nd sl mb (-1) 0 ⟨#[]⟩) 24)).alloc (by simp) (.cells (bv [nd, sl, x2, x3, 0]).toArray 5)))
  have hcs := crcS_lt _ hlt
  have hBA := hide (bytesAt_of_own m1)
  have N1 := hide m1; clear m1
  have HLT := hide hlt; clear hlt
  have HF := hide hfin; clear hfin
  go_enter Tryd.func10, Tryd.ntmps10
  go_wp2_with (go_at_call 14; refine (in_any _ _ _ _).mono ?_; rintro e w' ⟨rfl, rfl⟩)
  refine (rsum_any _ 5 [nd, sl, x2, x3, 0] _ (by exact hBA.out) HLT.out (by simp)).mono ?_
  rintro e w3 ⟨rfl, rfl⟩
  generalize hc : crcS [nd, sl, x2, x3, 0] = c at *
  obtain ⟨y1, hy1⟩ : ∃ y : Nat, y = c / 256 := ⟨_, rfl⟩
  obtain ⟨y2, hy2⟩ : ∃ y : Nat, y = c % 256 := ⟨_, rfl⟩
  have p1 : (c : Int) / 256 = (y1 : Int) := by omega
  have p2 : (c : Int) % 256 = (y2 : Int) := by omega
  have c1 : y1 < 256 := by omega
  have c2 : y2 < 256 := by omega
  have p3 : (y1 : Int) % 256 = y1 := by omega
  have p4 : (y2 : Int) % 256 = y2 := by omega
  have Y : Hid (y1 = c / 256 ∧ y2 = c % 256) := ⟨hy1, hy2⟩
  have HC := hide hc
  clear hy1 hy2 hc
  go_wp2_with fail
  refine (rsum_any _ 5 [nd, sl, x2, x3, 0] _ (by exact hBA.out) HLT.out (by simp)).mono ?_
  rintro e w3 ⟨rfl, rfl⟩
  rw [HC.out]
  have n3 := N1.out.alloc (.cells (bv [y1, y2]).toArray 5)
  have n4 := news_of_blk (Blk.new ((w.alloc (.cells (frC nd sl mb (-1) 0 ⟨#[]⟩) 24)).alloc (.cells (bv [nd, sl, x2, x3, 0]).toArray 5)) 5 (bv [y1, y2]).toArray)
  simp only [World.size_alloc] at n4
  have hB3 := hB.out.alloc hB.out.size (.cells (bv [y1, y2]).toArray 5)
  have N3 := hide n3; have N4 := hide n4; have B3 := hide hB3; clear n3 n4 hB3
  go_wp2_with (first
    | (at_builtin; go_must (refine wpList_append_own _ rfl (.tmp 91) (.tmp 100) _ rfl w.heap.size 5 i0' _ 1 1 Tryd.underlying22 hi hz0 hz1 hz2 rfl (by decide) (.slice (some ⟨w.heap.size + 1, 0, none⟩) 5 5) 5 (bv [nd, sl, x2, x3, 0]) rfl (by exact N3.out) ⟨w.heap.size + 1 + 1, 0, none⟩ 2 2 (bv [y1, y2]) rfl rfl (by exact N4.out) (bv_one _) (by simp [maxLen]) (by omega) B3.out.size ?_); intro v5 w5 hown5 hg5 _; have O5 := hide hown5; have HB5 := hide (B3.out.grown hg5 B3.out.size (by intro k hk; simp [Value.ownBlock] at hk; omega)); clear hown5 hg5))
  go_ret2
  refine ⟨v5, rfl, ?_, HB5.out⟩
  obtain ⟨e1, e2⟩ := Y.out
  rw [HF.out, List.length_append, bv_app, ← e1, ← e2]
  exact O5.out
end Go.Proofs.YtdbegdhbabfnoaaDoor
