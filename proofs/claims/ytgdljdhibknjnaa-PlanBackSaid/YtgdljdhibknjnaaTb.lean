/- The walk of metronomekeep.TicksBack, and its plain law; conditions: its numbers are of 64 bits. -/
import Derived.Test.YtgdljdhibknjnaaTn
namespace Go.Proofs.Ytgdljdhibknjnaa
open Go.RowKit

set_option maxRecDepth 100000 in
set_option maxHeartbeats 1000000 in
theorem told_any (w : World) :
    Calls Try.prog 17 #[] w fun e w' => e = .returned (.bool true) ∧ Below w.heap.size w w' := by
  go_enter Try.func17, Try.ntmps17
  go_wp2_with fail
  refine (local_any _ _ _ _ _ _).mono ?_
  rw [show localN 10 100 2 1 13 = 106 by decide, show localE 10 100 2 1 13 = 0 by decide]
  rintro e w' ⟨rfl, hb⟩
  have hB := hide hb
  obtain ⟨hc, hf, hz⟩ := bcell hb
  simp only [World.size_alloc] at hc hf hz
  clear hb
  go_wp2_with fail
  refine (real_any _ _ _ _ _ _).mono ?_
  rw [show realN 10 100 2 1 105 = 13 by decide, show realE 10 100 2 1 105 = 0 by decide]
  rintro e w2 ⟨rfl, hb2⟩
  have hB2 := hide hb2
  clear hb2
  go_wp2_with fail
  go_ret
  refine ⟨rfl, ?_⟩
  exact ((Below.refl _ _).alloc (Nat.le_refl _) _).trans ((hB.out.mono (by simp)).trans (hB2.out.mono (by omega)))


/-- The plain law. -/
theorem back_first (f s n d l : Int) (h : realE f s n d l = 0) :
    (localE f s n d (realN f s n d l) = 0 → l ≤ localN f s n d (realN f s n d l)) ∧ (localE f s n d (realN f s n d l - 1) = 0 → localN f s n d (realN f s n d l - 1) < l) := by
  have hN : realN f s n d l = realV f s n d l := by
    unfold realN; rw [if_pos h]
  rw [hN]
  unfold realE at h
  by_cases hr : rightB f s n d = false
  · simp [hr] at h
  rw [if_neg hr] at h
  have hr : rightB f s n d = true := by simpa using hr
  obtain ⟨r1, r2, r3, r4, r5, r6, r7, r8, r9, r10⟩ := rightB_iff hr
  by_cases h1 : l < -1099511627776 ∨ 1099511627776 < l
  · simp [h1] at h
  constructor
  · intro he
    rw [localN, if_pos he, Tkp.localV_eq _ _ _ _ _ r7]
    unfold realV
    by_cases h2 : l ≤ s
    · rw [if_pos h2]; simp; omega
    · rw [if_neg h2]
      have := Tkp.wait_enough n d (l - s) r5 r7
      rw [show f + Tkp.waitV n d (l - s) - f = Tkp.waitV n d (l - s) from by omega]
      omega
  · intro he
    rw [localN, if_pos he, Tkp.localV_eq _ _ _ _ _ r7]
    have hf : f ≤ realV f s n d l - 1 := by
      unfold localE at he
      rw [if_neg (by simp [hr])] at he
      by_cases h3 : realV f s n d l - 1 < f ∨ 1099511627776 < realV f s n d l - 1
      · simp [h3] at he
      · omega
    unfold realV at hf ⊢
    by_cases h2 : l ≤ s
    · rw [if_pos h2] at hf; omega
    · rw [if_neg h2]
      have := Tkp.wait_first n d (l - s) (Tkp.waitV n d (l - s) - 1) r5 r7 (by omega)
      rw [show f + Tkp.waitV n d (l - s) - 1 - f = Tkp.waitV n d (l - s) - 1 from by omega]
      omega

theorem back_mono (f s n d a b : Int) (h : a ≤ b) (ha : localE f s n d a = 0) (hb : localE f s n d b = 0) : localN f s n d a ≤ localN f s n d b := by
  rw [localN, localN, if_pos ha, if_pos hb]
  have hr : rightB f s n d = true := by
    unfold localE at ha
    by_cases hr : rightB f s n d = false
    · simp [hr] at ha
    · simpa using hr
  obtain ⟨r1, r2, r3, r4, r5, r6, r7, r8, r9, r10⟩ := rightB_iff hr
  exact Tkp.localV_mono f s n d a b r7 r5 h

theorem tail_ok (f s n d a b : Int) (h : a ≤ b) (ha : localE f s n d a = 0) (hb : localE f s n d b = 0) : decide (localN f s n d a ≤ localN f s n d b) = true :=
  decide_eq_true (back_mono f s n d a b h ha hb)

set_option maxRecDepth 100000 in
set_option maxHeartbeats 4000000 in
theorem back_any (f s n d l a b : Int) (w : World) :
    Calls Try.prog 4 #[clk f s n d, .int .i64 l, .int .i64 a, .int .i64 b] w fun e w' => e = .returned (.bool true) ∧ Below w.heap.size w w' := by
  have hB := Blk.new w 36 #[.int .i64 f, .int .i64 s, .int .i64 n, .int .i64 d]
  have hb0 : Below w.heap.size w (w.alloc (.cells #[.int .i64 f, .int .i64 s, .int .i64 n, .int .i64 d] 36)) := (Below.refl _ _).alloc (Nat.le_refl _) _
  have HB := hide hB; clear hB
  have HL := hide hb0; clear hb0
  go_enter Try.func4, Try.ntmps4
  go_wp2_with fail
  refine (told_any _).mono ?_
  rintro e w1 ⟨rfl, hb1⟩
  have HB1 := hide (HB.out.below hb1 HB.out.lt)
  have HL1 := hide (HL.out.trans (hb1.mono HL.out.size))
  clear hb1
  obtain ⟨i0, i1, i2, i3⟩ := HB1.out.cells4
  go_wp2_with fail
  refine (real_any _ _ _ _ _ _).mono ?_
  rintro e w2 ⟨rfl, hb2⟩
  have HB2 := hide (HB1.out.below hb2 HB1.out.lt)
  have HL2 := hide (HL1.out.trans (hb2.mono HL1.out.size))
  clear hb2 i0 i1 i2 i3
  obtain ⟨i0, i1, i2, i3⟩ := HB2.out.cells4
  obtain ⟨v0, v1⟩ := realN_bd f s n d l
  by_cases hE : realE f s n d l = 0
  · have hP := back_first f s n d l hE
    have hE' : (realE f s n d l == 0) = true := by simp [hE]
    clear hE
    have hP := hide hP
    go_wp2_with fail
    refine (local_any _ _ _ _ _ _).mono ?_
    rintro e w3 ⟨rfl, hb3⟩
    have HB3 := hide (HB2.out.below hb3 HB2.out.lt)
    have HL3 := hide (HL2.out.trans (hb3.mono HL2.out.size))
    clear hb3 i0 i1 i2 i3
    obtain ⟨i0, i1, i2, i3⟩ := HB3.out.cells4
    by_cases hE1 : localE f s n d (realN f s n d l) = 0
    · have q1 := hP.out.1 hE1
      have hE1' : (localE f s n d (realN f s n d l) != 0) = false := by simp [hE1]
      clear hE1
      go_wp2_with fail
      refine (local_any _ _ _ _ _ _).mono ?_
      rintro e wl ⟨rfl, hb4⟩
      have HBl := hide (HB3.out.below hb4 HB3.out.lt)
      have HLl := hide (HL3.out.trans (hb4.mono HL3.out.size))
      clear hb4 i0 i1 i2 i3
      obtain ⟨i0, i1, i2, i3⟩ := HBl.out.cells4
      by_cases hE2 : localE f s n d (realN f s n d l - 1) = 0
      · have q2 := hP.out.2 hE2
        have hE2' : (localE f s n d (realN f s n d l - 1) == 0) = true := by simp [hE2]
        clear hE2
        go_wp2_with fail
        all_goals
          refine (local_any _ _ _ _ _ _).mono ?_
          rintro e w5 ⟨rfl, hb5⟩
          have HB5 := hide (HBl.out.below hb5 HBl.out.lt)
          have HL5 := hide (HLl.out.trans (hb5.mono HLl.out.size))
          clear hb5 i0 i1 i2 i3
          obtain ⟨i0, i1, i2, i3⟩ := HB5.out.cells4
          go_wp2_with fail
        all_goals
          refine (local_any _ _ _ _ _ _).mono ?_
          rintro e w6 ⟨rfl, hb6⟩
          have HL6 := hide (HL5.out.trans (hb6.mono HL5.out.size))
          clear hb6 i0 i1 i2 i3
          go_wp2_with fail
        all_goals
          go_ret
          exact ⟨ret_bool (by first | rfl | exact tail_ok f s n d _ _ (by omega) ‹_› ‹_›), HL6.out⟩
      · have hE2' : (localE f s n d (realN f s n d l - 1) == 0) = false := by simp [hE2]
        clear hE2
        go_wp2_with fail
        all_goals
          refine (local_any _ _ _ _ _ _).mono ?_
          rintro e w5 ⟨rfl, hb5⟩
          have HB5 := hide (HBl.out.below hb5 HBl.out.lt)
          have HL5 := hide (HLl.out.trans (hb5.mono HLl.out.size))
          clear hb5 i0 i1 i2 i3
          obtain ⟨i0, i1, i2, i3⟩ := HB5.out.cells4
          go_wp2_with fail
        all_goals
          refine (local_any _ _ _ _ _ _).mono ?_
          rintro e w6 ⟨rfl, hb6⟩
          have HL6 := hide (HL5.out.trans (hb6.mono HL5.out.size))
          clear hb6 i0 i1 i2 i3
          go_wp2_with fail
        all_goals
          go_ret
          exact ⟨ret_bool (by first | rfl | exact tail_ok f s n d _ _ (by omega) ‹_› ‹_›), HL6.out⟩
    · have hn : localN f s n d (realN f s n d l) = 0 := by rw [localN, if_neg hE1]
      have hn' : (localN f s n d (realN f s n d l) == 0) = true := by simp [hn]
      clear hn
      have hE1' : (localE f s n d (realN f s n d l) != 0) = true := by simp [hE1]
      clear hE1
      go_wp2_with fail
      go_ret
      exact ⟨rfl, HL3.out⟩
  · have hE' : (realE f s n d l == 0) = false := by simp [hE]
    clear hE
    have HBl := HB2
    have HLl := HL2
    go_wp2_with fail
    all_goals
      refine (local_any _ _ _ _ _ _).mono ?_
      rintro e w5 ⟨rfl, hb5⟩
      have HB5 := hide (HBl.out.below hb5 HBl.out.lt)
      have HL5 := hide (HLl.out.trans (hb5.mono HLl.out.size))
      clear hb5 i0 i1 i2 i3
      obtain ⟨i0, i1, i2, i3⟩ := HB5.out.cells4
      go_wp2_with fail
    all_goals
      refine (local_any _ _ _ _ _ _).mono ?_
      rintro e w6 ⟨rfl, hb6⟩
      have HL6 := hide (HL5.out.trans (hb6.mono HL5.out.size))
      clear hb6 i0 i1 i2 i3
      go_wp2_with fail
    all_goals
      go_ret
      exact ⟨ret_bool (by first | rfl | exact tail_ok f s n d _ _ (by omega) ‹_› ‹_›), HL6.out⟩
end Go.Proofs.Ytgdljdhibknjnaa
