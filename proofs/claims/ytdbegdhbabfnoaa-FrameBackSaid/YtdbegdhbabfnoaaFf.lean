/- The contract of frame.Encode at a frame without a message; no condition. -/
import Derived.Test.YtdbegdhbabfnoaaFe
namespace Go.Proofs.Ytdbegdhbabfnoaa
open Go.RowKit

def frN (nd sl mb : Nat) : List Nat := [nd, sl, mb / 256, mb % 256, 0]

set_option maxRecDepth 100000 in
set_option maxHeartbeats 2000000 in
theorem enc_none (nd sl mb : Nat) (w : World) (h1 : nd < 16) (h2 : sl < 32) (h3 : mb < 65536) :
    Calls Try.prog 5 #[frV nd sl mb (-1) 0 ⟨#[]⟩] w (EncPost w (withSum (frN nd sl mb))) := by
  have hok : fOk nd sl mb (-1) 0 (⟨#[]⟩ : ByteArray).size = true := by unfold fOk; apply decide_eq_true; have : (⟨#[]⟩ : ByteArray).size = 0 := rfl; omega
  have H := hide hok; clear hok
  obtain ⟨i0, hi, hz0, hz1, hz2⟩ := info_parts u8_info
  obtain ⟨x2, hx2⟩ : ∃ x : Nat, x = mb / 256 := ⟨_, rfl⟩
  obtain ⟨x3, hx3⟩ : ∃ x : Nat, x = mb % 256 := ⟨_, rfl⟩
  have q2 : (mb : Int) / 256 = (x2 : Int) := by omega
  have q3 : IntKind.u8.wrap (mb : Int) = (x3 : Int) := by rw [IntKind.wrap_u8]; omega
  have hfin : withSum (frN nd sl mb) = [nd, sl, x2, x3, 0] ++ [crcS [nd, sl, x2, x3, 0] / 256, crcS [nd, sl, x2, x3, 0] % 256] := by rw [withSum, frN, hx2, hx3]
  have b2 : x2 < 256 := by omega
  have hlt : ∀ x ∈ [nd, sl, x2, x3, 0], x < 256 := by
    intro x hx
    simp only [List.mem_cons, List.not_mem_nil, or_false] at hx
    omega
  clear hx2 hx3
  have n1 := own_of_blk (base := w.heap.size) (n := 5) (Blk.new ((w.alloc (.cells (frC nd sl mb (-1) 0 ⟨#[]⟩) 23)).alloc (.cells (frC nd sl mb (-1) 0 ⟨#[]⟩) 23)) 5 (bv [nd, sl, x2, x3, 0]).toArray) (by simp <;> omega) rfl (by simp [maxLen])
  simp only [World.size_alloc] at n1
  have hB := hide (((((Below.refl w.heap.size w).alloc (Nat.le_refl _) (.cells (frC nd sl mb (-1) 0 ⟨#[]⟩) 23)).alloc (by simp) (.cells (frC nd sl mb (-1) 0 ⟨#[]⟩) 23)).alloc (by simp <;> omega) (.cells (bv [nd, sl, x2, x3, 0]).toArray 5)))
  have hcs := crcS_lt _ hlt
  have hBA := hide (bytesAt_of_own n1)
  have N1 := hide n1; clear n1
  have HLT := hide hlt; clear hlt
  have HF := hide hfin; clear hfin
  go_enter Try.func5, Try.ntmps5
  go_wp2_with fail
  refine (fright_any _ _ _ _ _ _ _ (Nat.zero_le _)).mono ?_
  rw [H.out]
  rintro e w' ⟨rfl, rfl⟩
  go_wp2_with fail
  refine (sum_any _ _ [nd, sl, x2, x3, 0] _ (by exact hBA.out) HLT.out (by simp)).mono ?_
  rintro e w3 ⟨rfl, rfl⟩
  generalize hc : crcS [nd, sl, x2, x3, 0] = c at *
  obtain ⟨y1, hy1⟩ : ∃ y : Nat, y = c / 256 := ⟨_, rfl⟩
  obtain ⟨y2, hy2⟩ : ∃ y : Nat, y = c % 256 := ⟨_, rfl⟩
  have p1 : (c : Int) / 256 = (y1 : Int) := by omega
  have p2 : IntKind.u8.wrap (c : Int) = (y2 : Int) := by rw [IntKind.wrap_u8]; omega
  have b1 : y1 < 256 := by omega
  have Y : Hid (y1 = c / 256 ∧ y2 = c % 256) := ⟨hy1, hy2⟩
  clear hy1 hy2
  have n3 := N1.out.alloc (.cells (bv [y1, y2]).toArray 5)
  have n4 := news_of_blk (Blk.new (((w.alloc (.cells (frC nd sl mb (-1) 0 ⟨#[]⟩) 23)).alloc (.cells (frC nd sl mb (-1) 0 ⟨#[]⟩) 23)).alloc (.cells (bv [nd, sl, x2, x3, 0]).toArray 5)) 5 (bv [y1, y2]).toArray)
  simp only [World.size_alloc] at n3 n4
  have hB3 := hB.out.alloc hB.out.size (.cells (bv [y1, y2]).toArray 5)
  have N3 := hide n3; have N4 := hide n4; have B3 := hide hB3; clear n3 n4 hB3
  go_wp2_with (first
    | (at_builtin; go_must (refine wpList_append_own _ rfl (.tmp 47) (.tmp 53) _ rfl w.heap.size 5 i0 _ 1 1 Try.underlying24 hi hz0 hz1 hz2 rfl (by decide) (.slice (some ⟨w.heap.size + 1 + 1, 0, none⟩) 5 5) 5 (bv [nd, sl, x2, x3, 0]) rfl (by exact N3.out) ⟨w.heap.size + 1 + 1 + 1, 0, none⟩ 2 2 (bv [y1, y2]) rfl rfl (by exact N4.out) (bv_one _) (by simp [maxLen]) (by omega) B3.out.size ?_); intro v5 w5 hown5 hg5 _; have O5 := hide hown5; have HB5 := hide (B3.out.grown hg5 B3.out.size (by intro k hk; simp [Value.ownBlock] at hk; omega)); clear hown5 hg5))
  go_ret2
  refine ⟨v5, rfl, ?_, HB5.out⟩
  obtain ⟨e1, e2⟩ := Y.out
  rw [HF.out, List.length_append, bv_app, ← e1, ← e2]
  exact O5.out
end Go.Proofs.Ytdbegdhbabfnoaa
