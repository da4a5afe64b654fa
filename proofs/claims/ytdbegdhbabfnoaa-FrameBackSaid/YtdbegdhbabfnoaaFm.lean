/- The walk of metronomekeep.FrameBack; no condition but that the text is no longer than memory. -/
import Derived.Test.YtdbegdhbabfnoaaFl
set_option linter.unusedVariables false
set_option linter.unusedSimpArgs false
namespace Go.Proofs.Ytdbegdhbabfnoaa
open Go.RowKit

set_option maxRecDepth 100000 in
set_option maxHeartbeats 4000000 in
theorem back_any (nd sl mb lk sq : Int) (d : ByteArray) (w : World) (hd : d.size ≤ 9223372036854775807) :
    Calls Try.prog 3 #[frV nd sl mb lk sq d] w fun e w' => e = .returned (.bool true) ∧ Below w.heap.size w w' := by
  have hB0 := hide ((Below.refl w.heap.size w).alloc (Nat.le_refl _) (.cells (frC nd sl mb lk sq d) 23))
  have hb0' := Blk.new w 23 (frC nd sl mb lk sq d)
  have hb0 := hide hb0'
  obtain ⟨i0, i1, i2, i3, i4, i5, v0, v1, v2, v3, v4, v5⟩ := hb0'.cells6
  by_cases h100 : 100 < d.size
  · have q : decide ((100 : Int) < (d.size : Int)) = true := decide_eq_true (by omega)
    go_enter Try.func3, Try.ntmps3
    go_wp2
    go_ret
    exact ⟨rfl, hB0.out⟩
  · have q : decide ((100 : Int) < (d.size : Int)) = false := decide_eq_false (by omega)
    cases hk : fOk nd sl mb lk sq d.size
    · have HK := hide hk; clear hk h100
      go_enter Try.func3, Try.ntmps3
      go_wp2_with fail
      refine (enc_bad nd sl mb lk sq d _ hd HK.out).mono ?_
      rintro e w2 ⟨rfl, hB⟩
      have hB2 := hide (hB0.out.trans (hB.mono hB0.out.size))
      clear hB
      go_wp2_with fail
      refine (sent_any _).mono ?_
      rintro e w3 ⟨rfl, hB⟩
      have hB3 := hide (hB2.out.trans (hB.mono hB2.out.size))
      clear hB
      go_wp2_with fail
      refine (sent_any _).mono ?_
      rintro e w4 ⟨rfl, hB⟩
      have hB4 := hide (hB3.out.trans (hB.mono hB3.out.size))
      clear hB
      go_wp2_with fail
      go_ret
      exact ⟨rfl, hB4.out⟩
    · obtain ⟨l, hE, hl, h7, h49, hok, hF, _⟩ := enc_good nd sl mb lk sq d hk
      have HE := hide hE; have HL := hide hl; have HOK := hide hok; have HF := hide hF; have H7 := hide h7; have H49 := hide h49
      clear hE hl hok hF h7 h49 hk h100
      go_enter Try.func3, Try.ntmps3
      go_wp2_with fail
      refine (HE.out _).mono ?_
      intro e w2 he
      obtain ⟨g, cap, rfl, hO, hB⟩ := he.open (by have := H7.out; omega)
      have hb2 := hide (hb0.out.below hB hb0.out.lt)
      have hB2 := hide (hB0.out.trans (hB.mono hB0.out.size))
      have HO := hide hO
      clear hB hO he i0 i1 i2 i3 i4 i5 v0 v1 v2 v3 v4 v5
      go_wp2_with fail
      refine (sent_any _).mono ?_
      rintro e w3 ⟨rfl, hB⟩
      have hb3 := hide (hb2.out.below hB hb2.out.lt)
      have hB3 := hide (hB2.out.trans (hB.mono hB2.out.size))
      have HO3 := hide (HO.out.below hB HO.out.lt)
      clear hB
      go_wp2_with fail
      refine (dec_back l _ g cap w3 nd sl mb lk sq d HL.out H7.out HOK.out HF.out HO3.out).mono ?_
      rintro e w4 ⟨rfl, hB⟩
      have hb4 := (hb3.out.below hB hb3.out.lt).alloc (.cells (frC nd sl mb lk sq d) 23)
      have hc4 := Blk.new w4 23 (frC nd sl mb lk sq d)
      have hB4 := hide ((hB3.out.trans (hB.mono hB3.out.size)).alloc (Nat.le_trans hB3.out.size hB.size) (.cells (frC nd sl mb lk sq d) 23))
      obtain ⟨j0, j1, j2, j3, j4, j5, u0, u1, u2, u3, u4, u5⟩ := hb4.cells6
      obtain ⟨k0, k1, k2, k3, k4, k5, f0, f1, f2, f3, f4, f5⟩ := hc4.cells6
      have fs := frame_same nd sl mb lk sq d
      have fg := fun x y => frame_guard x y nd sl mb lk sq d
      clear hB hb2 hB2 hb3 hb4 hc4 HO HO3 hb0
      go_wp2_with fail
      go_ret
      exact ⟨rfl, hB4.out⟩
end Go.Proofs.Ytdbegdhbabfnoaa
