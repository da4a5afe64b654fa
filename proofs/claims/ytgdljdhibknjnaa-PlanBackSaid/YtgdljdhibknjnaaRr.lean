/- The contract of the method Real of metronomeref.Clock: halving finds the first time; no condition. -/
import Derived.Test.YtgdljdhibknjnaaRc
namespace Go.Proofs.Ytgdljdhibknjnaa
open Go.RowKit

theorem ret_twoI {a b c d : Int} (h : a = c) (k : b = d) : Ending.returned (.tuple #[.int .i64 a, .int .i64 b]) = .returned (.tuple #[.int .i64 c, .int .i64 d]) := by rw [h, k]

/-- The first time at which so much is shown. -/
theorem realV_spec (f s n d l : Int) (hr : rightB f s n d = true) : f ≤ realV f s n d l ∧ l ≤ Tkp.localV f s n d (realV f s n d l) ∧ ∀ t, f ≤ t → t < realV f s n d l → Tkp.localV f s n d t < l := by
  obtain ⟨r1, r2, r3, r4, r5, r6, r7, r8, r9, r10⟩ := rightB_iff hr
  unfold realV
  by_cases h : l ≤ s
  · rw [if_pos h]
    refine ⟨by omega, ?_, fun t h1 h2 => by omega⟩
    rw [Tkp.localV_eq _ _ _ _ _ r7]; simp; omega
  · rw [if_neg h]
    have hw := Tkp.wait_nonneg n d (l - s) r5 r7 (by omega)
    refine ⟨by omega, ?_, fun t h1 h2 => ?_⟩
    · rw [Tkp.localV_eq _ _ _ _ _ r7, show f + Tkp.waitV n d (l - s) - f = Tkp.waitV n d (l - s) from by omega]
      have := Tkp.wait_enough n d (l - s) r5 r7
      omega
    · rw [Tkp.localV_eq _ _ _ _ _ r7]
      have := Tkp.wait_first n d (l - s) (t - f) r5 r7 (by omega)
      omega

theorem realV_le (f s n d l t : Int) (hr : rightB f s n d = true) (h1 : f ≤ t) (h2 : l ≤ Tkp.localV f s n d t) : realV f s n d l ≤ t := by
  obtain ⟨_, _, h⟩ := realV_spec f s n d l hr
  rcases Int.lt_or_le t (realV f s n d l) with h3 | h3
  · have := h t h1 h3; omega
  · exact h3
theorem realV_lt (f s n d l t : Int) (hr : rightB f s n d = true) (_h1 : f ≤ t) (h2 : Tkp.localV f s n d t < l) : t < realV f s n d l := by
  obtain ⟨r1, r2, r3, r4, r5, r6, r7, r8, r9, r10⟩ := rightB_iff hr
  obtain ⟨h3, h4, _⟩ := realV_spec f s n d l hr
  rcases Int.lt_or_le t (realV f s n d l) with h5 | h5
  · exact h5
  · have := Tkp.localV_mono f s n d _ _ r7 r5 h5; omega

theorem realE_eq (f s n d l : Int) (hr : rightB f s n d = true) (h1 : -1099511627776 ≤ l) (h2 : l ≤ 1099511627776) : realE f s n d l = if Tkp.localV f s n d 1099511627776 < l then 2 else 0 := by
  obtain ⟨r1, r2, r3, r4, r5, r6, r7, r8, r9, r10⟩ := rightB_iff hr
  unfold realE
  rw [if_neg (by simp [hr]), if_neg (by omega)]
  by_cases h : Tkp.localV f s n d 1099511627776 < l
  · rw [if_pos h]
    have hx := realV_lt f s n d l _ hr r2 h
    unfold realV at hx
    by_cases h3 : l ≤ s
    · rw [if_pos h3] at hx; omega
    · rw [if_neg h3] at hx ⊢; rw [if_pos hx]
  · rw [if_neg h]
    have hx := realV_le f s n d l 1099511627776 hr r2 (by omega)
    unfold realV at hx
    by_cases h3 : l ≤ s
    · rw [if_pos h3]
    · rw [if_neg h3] at hx ⊢; rw [if_neg (by omega)]

structure Half (w W : World) (f s n d l lo hi : Int) : Prop where
  b : Blk w W.heap.size 92 #[.int .i64 f, .int .i64 s, .int .i64 n, .int .i64 d]
  o : Below W.heap.size W w
  h1 : f ≤ lo
  h2 : lo ≤ hi
  h3 : hi ≤ 1099511627776
  h4 : lo ≤ realV f s n d l
  h5 : realV f s n d l ≤ hi

set_option maxRecDepth 100000 in
set_option maxHeartbeats 1000000 in
theorem rreal_any (f s n d l : Int) (w : World) :
    Calls Try.prog 72 #[clk f s n d, .int .i64 l] w fun e w' => e = .returned (.tuple #[.int .i64 (realN f s n d l), .int .i64 (realE f s n d l)]) ∧ Below w.heap.size w w' := by
  have hB0 : Below w.heap.size w (w.alloc (.cells #[.int .i64 f, .int .i64 s, .int .i64 n, .int .i64 d] 92)) := (Below.refl _ _).alloc (Nat.le_refl _) _
  have n1 := Blk.new w 92 #[.int .i64 f, .int .i64 s, .int .i64 n, .int .i64 d]
  have HB0 := hide hB0; have N1 := hide n1; clear hB0 n1
  by_cases hr : rightB f s n d = false
  · rw [show realN f s n d l = 0 by simp [realN, realE, hr], show realE f s n d l = 1 by simp [realE, hr]]
    have HR := hide hr; clear hr
    go_enter Try.func72, Try.ntmps72
    go_wp2_with fail
    refine (rright_any _ _ _ _ _).mono ?_
    rw [HR.out]
    rintro e w' ⟨rfl, rfl⟩
    go_wp2_with fail
    go_ret2
    exact ⟨rfl, HB0.out.alloc (by simp) _⟩
  have hr : rightB f s n d = true := by simpa using hr
  have HR := hide hr
  by_cases h1 : inB l (-1099511627776) 1099511627776 = false
  · have h1' : l < -1099511627776 ∨ 1099511627776 < l := by simp [inB] at h1; omega
    rw [show realN f s n d l = 0 by simp [realN, realE, hr, h1'], show realE f s n d l = 2 by simp [realE, hr, h1']]
    have H1 := hide h1; clear h1 hr h1'
    go_enter Try.func72, Try.ntmps72
    go_wp2_with fail
    refine (rright_any _ _ _ _ _).mono ?_
    rw [HR.out]
    rintro e w' ⟨rfl, rfl⟩
    go_wp2_with fail
    refine (in_is _ _ _ _ H1.out _).mono ?_
    rintro e w' ⟨rfl, rfl⟩
    go_wp2_with fail
    go_ret2
    exact ⟨rfl, HB0.out.alloc (by simp) _⟩
  have h1 : inB l (-1099511627776) 1099511627776 = true := by simpa using h1
  obtain ⟨t1, t2⟩ := inB_bd h1
  have H1 := hide h1; clear h1
  obtain ⟨r1, r2, r3, r4, r5, r6, r7, r8, r9, r10⟩ := rightB_iff hr
  have n2 := N1.out.alloc (.cells #[.int .i64 f, .int .i64 s, .int .i64 n, .int .i64 d] 92)
  have N2 := hide n2; clear n2
  have hE := realE_eq f s n d l hr t1 t2
  by_cases h2 : Tkp.localV f s n d 1099511627776 < l
  · rw [if_pos h2] at hE
    rw [show realN f s n d l = 0 by simp [realN, hE], hE]
    clear hr hE
    go_enter Try.func72, Try.ntmps72
    go_wp2_with fail
    refine (rright_any _ _ _ _ _).mono ?_
    rw [HR.out]
    rintro e w' ⟨rfl, rfl⟩
    go_wp2_with fail
    refine (in_is _ _ _ _ H1.out _).mono ?_
    rintro e w' ⟨rfl, rfl⟩
    go_wp2_with fail
    refine (shows_any _ _ _ _ _ _ HR.out r2 (by omega)).mono ?_
    rintro e w2 ⟨rfl, hb⟩
    have HB := hide ((HB0.out.alloc (by simp) _).trans (hb.mono (by simp <;> omega))); clear hb
    go_wp2_with fail
    go_ret2
    exact ⟨rfl, HB.out⟩
  · rw [if_neg h2] at hE
    rw [show realN f s n d l = realV f s n d l by simp [realN, hE], hE]
    have hle := realV_le f s n d l 1099511627776 hr r2 (by omega)
    have hge := (realV_spec f s n d l hr).1
    clear hr hE
    go_enter Try.func72, Try.ntmps72
    go_wp2_with fail
    refine (rright_any _ _ _ _ _).mono ?_
    rw [HR.out]
    rintro e w' ⟨rfl, rfl⟩
    go_wp2_with fail
    refine (in_is _ _ _ _ H1.out _).mono ?_
    rintro e w' ⟨rfl, rfl⟩
    go_wp2_with fail
    refine (shows_any _ _ _ _ _ _ HR.out r2 (by omega)).mono ?_
    rintro e w2 ⟨rfl, hb⟩
    have HB := hide ((HB0.out.alloc (by simp) _).trans (hb.mono (by simp <;> omega)))
    have N3 := hide (N2.out.below hb N2.out.lt)
    clear hb
    obtain ⟨i0, i1, i2, i3⟩ := N3.out.cells4
    go_wp2_with fail
    clear i0 i1 i2 i3
    go_loopw [6, 7] (fun lo_ hi_ wr => ∃ lo hi : Int, lo_ = .int .i64 lo ∧ hi_ = .int .i64 hi ∧ Half wr w f s n d l lo hi) (fun lo_ hi_ _ => (intOf hi_ - intOf lo_).toNat)
    case atStart => exact ⟨f, 1099511627776, rfl, rfl, ⟨N3.out, HB.out, by omega, by omega, by omega, by omega, by omega⟩⟩
    case round =>
      obtain ⟨lo, hi, rfl, rfl, hH⟩ := hrel
      obtain ⟨hb1, hb2, g1, g2, g3, g4, g5⟩ := hH
      obtain ⟨i0, i1, i2, i3⟩ := hb1.cells4
      have NB := hide hb1; have OB := hide hb2; clear hb1 hb2
      by_cases hlt : lo < hi
      · by_cases hm : Tkp.localV f s n d ((lo + hi) / 2) < l
        · have hq := realV_lt f s n d l ((lo + hi) / 2) HR.out (by omega) hm
          go_wp2_with fail
          refine (shows_any _ _ _ _ _ _ HR.out (by omega) (by omega)).mono ?_
          rintro e w4 ⟨rfl, hb4⟩
          have N4 := hide (NB.out.below hb4 NB.out.lt)
          have O4 := hide (OB.out.trans (hb4.mono OB.out.size))
          clear hb4
          go_wp2_with fail
          go_roundw
          case rel => exact ⟨_, _, rfl, rfl, ⟨N4.out, O4.out, by omega, by omega, by omega, by omega, by omega⟩⟩
          case measure => simp [intOf]; omega
        · have hq := realV_le f s n d l ((lo + hi) / 2) HR.out (by omega) (by omega)
          go_wp2_with fail
          refine (shows_any _ _ _ _ _ _ HR.out (by omega) (by omega)).mono ?_
          rintro e w4 ⟨rfl, hb4⟩
          have N4 := hide (NB.out.below hb4 NB.out.lt)
          have O4 := hide (OB.out.trans (hb4.mono OB.out.size))
          clear hb4
          go_wp2_with fail
          go_roundw
          case rel => exact ⟨_, _, rfl, rfl, ⟨N4.out, O4.out, by omega, by omega, by omega, by omega, by omega⟩⟩
          case measure => simp [intOf]; omega
      · have hv : realV f s n d l = lo := by omega
        have hv := hide hv
        go_wp2_with fail
        go_ret2
        exact ⟨ret_twoI rfl rfl, OB.out⟩
end Go.Proofs.Ytgdljdhibknjnaa
