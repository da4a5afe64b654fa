/- The walk of metronomekeep.sent: a frame there and back; no condition. -/
import Derived.Test.YtdbegdhbabfnoaaFj
import Derived.Test.YtdbegdhbabfnoaaFk
import Derived.Lib.SmallJoins
set_option linter.unusedVariables false
set_option linter.unusedSimpArgs false
namespace Go.Proofs.Ytdbegdhbabfnoaa
open Go.RowKit

theorem dec_back (l : List Nat) (base g cap : Nat) (w : World) (nd sl mb lk sq : Int) (d : ByteArray) (hl : ∀ x ∈ l, x < 256) (h7 : 7 ≤ l.length) (hok : decOk l = true) (hF : decF l = ⟨nd, sl, mb, lk, sq, d⟩) (hO : OwnB w base g cap l) :
    Calls Try.prog 7 #[.slice (some ⟨g, 0, none⟩) l.length cap] w fun e w' => e = .returned (.tuple #[frV nd sl mb lk sq d, .nilIface]) ∧ Below w.heap.size w w' := by
  refine (dec_any l g 0 cap w hl h7 hO.len_le hO.cap_le hO.bytes).mono ?_
  intro e w' h
  unfold DecPost at h
  rw [hok, if_pos rfl, hF] at h
  exact h

theorem sum_fact : crcS [49, 50, 51, 52, 53, 54, 55, 56, 57] = 10673 := by decide +kernel

theorem bytes_mark (w : World) (l : List Nat) (fr : Nat × Nat) (n : Nat) (hn : n = w.heap.size) : BytesAt (w.alloc (.cells (bv l).toArray 5 fr)) (some ⟨n, 0, none⟩) l.length l := by
  intro j hj
  refine ⟨n, 0, rfl, ?_⟩
  rw [Nat.zero_add, Joins.cell_alloc_mark_at _ _ _ _ _ _ hn]
  unfold bv
  rw [List.getElem?_toArray, List.getElem?_map, List.getD, List.getElem?_eq_getElem hj]
  rfl
set_option maxRecDepth 100000 in
set_option maxHeartbeats 4000000 in
theorem sent_any (w : World) : Calls Try.prog 6 #[] w fun e w' => e = .returned (.bool true) ∧ Below w.heap.size w w' := by
  obtain ⟨l, hE, hl, h7, h49, hok, hF, _⟩ := enc_good 2 5 300 1 9 ⟨#[120]⟩ (by decide)
  have HE := hide hE; have HL := hide hl; have HOK := hide hok; have HF := hide hF; have H7 := hide h7; have H49 := hide h49
  clear hE hl hok hF h7 h49
  have hB0 := hide ((Below.refl w.heap.size w).alloc (Nat.le_refl _) (.cells #[.int .i64 2, .int .i64 5, .int .i64 300, .int .i64 1, .int .i64 9, .string ⟨#[120]⟩] 23))
  have hb0 := hide (Blk.new w 23 #[.int .i64 2, .int .i64 5, .int .i64 300, .int .i64 1, .int .i64 9, .string ⟨#[120]⟩])
  go_enter Try.func6, Try.ntmps6
  go_wp2_with fail
  refine (HE.out _).mono ?_
  intro e w2 he
  obtain ⟨g, cap, rfl, hO, hB⟩ := he.open (by have := H7.out; omega)
  have hb2 := hide (hb0.out.below hB hb0.out.lt)
  have hB2 := hide (hB0.out.trans (hB.mono hB0.out.size))
  have HO := hide hO
  clear hB hO he hB0 hb0
  go_wp2_with fail
  refine (dec_back l _ g cap w2 2 5 300 1 9 ⟨#[120]⟩ HL.out H7.out HOK.out HF.out HO.out).mono ?_
  rintro e w3 ⟨rfl, hB⟩
  have hb3 := (hb2.out.below hB hb2.out.lt).alloc (.cells #[.int .i64 2, .int .i64 5, .int .i64 300, .int .i64 1, .int .i64 9, .string ⟨#[120]⟩] 23)
  have hc3 := Blk.new w3 23 #[.int .i64 2, .int .i64 5, .int .i64 300, .int .i64 1, .int .i64 9, .string ⟨#[120]⟩]
  have hB3 := hide ((hB2.out.trans (hB.mono hB2.out.size)).alloc (Nat.le_trans hB2.out.size hB.size) (.cells #[.int .i64 2, .int .i64 5, .int .i64 300, .int .i64 1, .int .i64 9, .string ⟨#[120]⟩] 23))
  obtain ⟨j0, j1, j2, j3, j4, j5, u0, u1, u2, u3, u4, u5⟩ := hb3.cells6
  obtain ⟨k0, k1, k2, k3, k4, k5, f0, f1, f2, f3, f4, f5⟩ := hc3.cells6
  have fs := frame_same 2 5 300 1 9 ⟨#[120]⟩
  have fg := fun x y => frame_guard x y 2 5 300 1 9 ⟨#[120]⟩
  clear hB hb2 hB2 hb3 hc3 HO
  have hcv := Joins.run_convert_bytes_const_at (P := Try.prog) (w3.alloc (.cells #[.int .i64 2, .int .i64 5, .int .i64 300, .int .i64 1, .int .i64 9, .string ⟨#[120]⟩] 23)) 24 5 #[.int .u8 49, .int .u8 50, .int .u8 51, .int .u8 52, .int .u8 53, .int .u8 54, .int .u8 55, .int .u8 56, .int .u8 57] 9 9 (w3.heap.size + 1) (by simp) Try.underlying24 Try.underlying5
  go_wp2_with fail
  refine (sum_any _ 9 [49, 50, 51, 52, 53, 54, 55, 56, 57] _ (by exact bytes_mark _ [49, 50, 51, 52, 53, 54, 55, 56, 57] _ _ (by simp)) (by decide) (by decide)).mono ?_
  rintro e w4 ⟨rfl, rfl⟩
  rw [sum_fact]
  go_wp2_with fail
  go_ret
  exact ⟨rfl, hB3.out.alloc hB3.out.size _⟩
end Go.Proofs.Ytdbegdhbabfnoaa
