/- The walks of Common of packages ticks and metronomeref, and of metronomelaw.TicksSpans; conditions: the numbers are of 64 bits. -/
import Derived.Test.YtgdljdhibknjnaaTs
namespace Go.Proofs.Ytgdljdhibknjnaa
open Go.RowKit

set_option maxHeartbeats 2000000 in
theorem rcommon_any (a b c d : Int) (w : World) :
    Calls Try.prog 58 #[spanV a b, spanV c d] w fun e w' => e = .returned (.tuple #[spanV (comA a b c d) (comB a b c d), .bool (meetB a b c d)]) ∧ Below w.heap.size w w' := by
  by_cases ac : a < c <;> by_cases db : d < b
  · by_cases ok : c < d
    · rw [show comA a b c d = c by unfold comA meetB; rw [if_pos (by simp; omega)]; omega, show comB a b c d = d by unfold comB meetB; rw [if_pos (by simp; omega)]; omega, show meetB a b c d = true by unfold meetB; simp; omega]
      go_enter Try.func58, Try.ntmps58
      go_wp2
      exact bodyPost_ret (v := .tuple #[spanV c d, .bool true]) (by simp [results, Try.results58, go_sem]) rfl ⟨rfl, by repeat (first | exact Below.refl _ _ | refine Below.alloc ?_ (by simp <;> omega) _)⟩
    · rw [show comA a b c d = 0 by unfold comA meetB; rw [if_neg (by simp; omega)], show comB a b c d = 0 by unfold comB meetB; rw [if_neg (by simp; omega)], show meetB a b c d = false by unfold meetB; simp; omega]
      go_enter Try.func58, Try.ntmps58
      go_wp2
      exact bodyPost_ret (v := .tuple #[spanV 0 0, .bool false]) (by simp [results, Try.results58, go_sem]) rfl ⟨rfl, by repeat (first | exact Below.refl _ _ | refine Below.alloc ?_ (by simp <;> omega) _)⟩
  · by_cases ok : c < b
    · rw [show comA a b c d = c by unfold comA meetB; rw [if_pos (by simp; omega)]; omega, show comB a b c d = b by unfold comB meetB; rw [if_pos (by simp; omega)]; omega, show meetB a b c d = true by unfold meetB; simp; omega]
      go_enter Try.func58, Try.ntmps58
      go_wp2
      exact bodyPost_ret (v := .tuple #[spanV c b, .bool true]) (by simp [results, Try.results58, go_sem]) rfl ⟨rfl, by repeat (first | exact Below.refl _ _ | refine Below.alloc ?_ (by simp <;> omega) _)⟩
    · rw [show comA a b c d = 0 by unfold comA meetB; rw [if_neg (by simp; omega)], show comB a b c d = 0 by unfold comB meetB; rw [if_neg (by simp; omega)], show meetB a b c d = false by unfold meetB; simp; omega]
      go_enter Try.func58, Try.ntmps58
      go_wp2
      exact bodyPost_ret (v := .tuple #[spanV 0 0, .bool false]) (by simp [results, Try.results58, go_sem]) rfl ⟨rfl, by repeat (first | exact Below.refl _ _ | refine Below.alloc ?_ (by simp <;> omega) _)⟩
  · by_cases ok : a < d
    · rw [show comA a b c d = a by unfold comA meetB; rw [if_pos (by simp; omega)]; omega, show comB a b c d = d by unfold comB meetB; rw [if_pos (by simp; omega)]; omega, show meetB a b c d = true by unfold meetB; simp; omega]
      go_enter Try.func58, Try.ntmps58
      go_wp2
      exact bodyPost_ret (v := .tuple #[spanV a d, .bool true]) (by simp [results, Try.results58, go_sem]) rfl ⟨rfl, by repeat (first | exact Below.refl _ _ | refine Below.alloc ?_ (by simp <;> omega) _)⟩
    · rw [show comA a b c d = 0 by unfold comA meetB; rw [if_neg (by simp; omega)], show comB a b c d = 0 by unfold comB meetB; rw [if_neg (by simp; omega)], show meetB a b c d = false by unfold meetB; simp; omega]
      go_enter Try.func58, Try.ntmps58
      go_wp2
      exact bodyPost_ret (v := .tuple #[spanV 0 0, .bool false]) (by simp [results, Try.results58, go_sem]) rfl ⟨rfl, by repeat (first | exact Below.refl _ _ | refine Below.alloc ?_ (by simp <;> omega) _)⟩
  · by_cases ok : a < b
    · rw [show comA a b c d = a by unfold comA meetB; rw [if_pos (by simp; omega)]; omega, show comB a b c d = b by unfold comB meetB; rw [if_pos (by simp; omega)]; omega, show meetB a b c d = true by unfold meetB; simp; omega]
      go_enter Try.func58, Try.ntmps58
      go_wp2
      exact bodyPost_ret (v := .tuple #[spanV a b, .bool true]) (by simp [results, Try.results58, go_sem]) rfl ⟨rfl, by repeat (first | exact Below.refl _ _ | refine Below.alloc ?_ (by simp <;> omega) _)⟩
    · rw [show comA a b c d = 0 by unfold comA meetB; rw [if_neg (by simp; omega)], show comB a b c d = 0 by unfold comB meetB; rw [if_neg (by simp; omega)], show meetB a b c d = false by unfold meetB; simp; omega]
      go_enter Try.func58, Try.ntmps58
      go_wp2
      exact bodyPost_ret (v := .tuple #[spanV 0 0, .bool false]) (by simp [results, Try.results58, go_sem]) rfl ⟨rfl, by repeat (first | exact Below.refl _ _ | refine Below.alloc ?_ (by simp <;> omega) _)⟩

set_option maxHeartbeats 2000000 in
theorem tcommon_any (a b c d : Int) (w : World) :
    Calls Try.prog 60 #[spanV a b, spanV c d] w fun e w' => e = .returned (spanV (comA a b c d) (comB a b c d)) ∧ Below w.heap.size w w' := by
  have hB0 : Below w.heap.size w (((w.alloc (.cells #[.int .i64 a, .int .i64 b] 88)).alloc (.cells #[.int .i64 c, .int .i64 d] 88)).alloc (.cells #[.int .i64 0, .int .i64 0] 88)) := by
    repeat (first | exact Below.refl _ _ | refine Below.alloc ?_ (by simp <;> omega) _)
  have n1 := ((Blk.new w 88 #[.int .i64 a, .int .i64 b]).alloc (.cells #[.int .i64 c, .int .i64 d] 88)).alloc (.cells #[.int .i64 0, .int .i64 0] 88)
  have n2 := (Blk.new (w.alloc (.cells #[.int .i64 a, .int .i64 b] 88)) 88 #[.int .i64 c, .int .i64 d]).alloc (.cells #[.int .i64 0, .int .i64 0] 88)
  have n3 := Blk.new ((w.alloc (.cells #[.int .i64 a, .int .i64 b] 88)).alloc (.cells #[.int .i64 c, .int .i64 d] 88)) 88 #[.int .i64 0, .int .i64 0]
  simp only [World.size_alloc] at n2 n3
  have HB0 := hide hB0; have N1 := hide n1; have N2 := hide n2; have N3 := hide n3
  clear hB0 n1 n2 n3
  by_cases hm : meetB a b c d = true
  · rw [show comA a b c d = max a c by unfold comA; rw [if_pos hm], show comB a b c d = min b d by unfold comB; rw [if_pos hm]]
    have HM := hide hm; clear hm
    by_cases ac : a < c <;> by_cases db : d < b
    · rw [show max a c = c by omega, show min b d = d by omega]
      go_enter Try.func60, Try.ntmps60
      go_wp2_with fail
      refine (meet_is _ _ _ _ _ HM.out _).mono ?_
      rintro e w' ⟨rfl, hb⟩
      obtain ⟨i0, i1, _, _⟩ := (N1.out.below hb N1.out.lt).cells2
      obtain ⟨j0, j1, _, _⟩ := (N2.out.below hb N2.out.lt).cells2
      obtain ⟨k0, k1, f0, f1⟩ := (N3.out.below hb N3.out.lt).cells2
      have hz := hb.size
      simp only [World.size_alloc] at hz
      have HB := hide (HB0.out.trans (hb.mono HB0.out.size)); clear hb
      go_wp2_with fail
      exact bodyPost_ret (v := spanV c d) (by simp [results, Try.results60, go_sem, k0, k1]) rfl ⟨rfl, (HB.out.setCell (by simp <;> omega) _).setCell (by simp <;> omega) _⟩
    · rw [show max a c = c by omega, show min b d = b by omega]
      go_enter Try.func60, Try.ntmps60
      go_wp2_with fail
      refine (meet_is _ _ _ _ _ HM.out _).mono ?_
      rintro e w' ⟨rfl, hb⟩
      obtain ⟨i0, i1, _, _⟩ := (N1.out.below hb N1.out.lt).cells2
      obtain ⟨j0, j1, _, _⟩ := (N2.out.below hb N2.out.lt).cells2
      obtain ⟨k0, k1, f0, f1⟩ := (N3.out.below hb N3.out.lt).cells2
      have hz := hb.size
      simp only [World.size_alloc] at hz
      have HB := hide (HB0.out.trans (hb.mono HB0.out.size)); clear hb
      go_wp2_with fail
      exact bodyPost_ret (v := spanV c b) (by simp [results, Try.results60, go_sem, k0, k1]) rfl ⟨rfl, (HB.out.setCell (by simp <;> omega) _).setCell (by simp <;> omega) _⟩
    · rw [show max a c = a by omega, show min b d = d by omega]
      go_enter Try.func60, Try.ntmps60
      go_wp2_with fail
      refine (meet_is _ _ _ _ _ HM.out _).mono ?_
      rintro e w' ⟨rfl, hb⟩
      obtain ⟨i0, i1, _, _⟩ := (N1.out.below hb N1.out.lt).cells2
      obtain ⟨j0, j1, _, _⟩ := (N2.out.below hb N2.out.lt).cells2
      obtain ⟨k0, k1, f0, f1⟩ := (N3.out.below hb N3.out.lt).cells2
      have hz := hb.size
      simp only [World.size_alloc] at hz
      have HB := hide (HB0.out.trans (hb.mono HB0.out.size)); clear hb
      go_wp2_with fail
      exact bodyPost_ret (v := spanV a d) (by simp [results, Try.results60, go_sem, k0, k1]) rfl ⟨rfl, (HB.out.setCell (by simp <;> omega) _).setCell (by simp <;> omega) _⟩
    · rw [show max a c = a by omega, show min b d = b by omega]
      go_enter Try.func60, Try.ntmps60
      go_wp2_with fail
      refine (meet_is _ _ _ _ _ HM.out _).mono ?_
      rintro e w' ⟨rfl, hb⟩
      obtain ⟨i0, i1, _, _⟩ := (N1.out.below hb N1.out.lt).cells2
      obtain ⟨j0, j1, _, _⟩ := (N2.out.below hb N2.out.lt).cells2
      obtain ⟨k0, k1, f0, f1⟩ := (N3.out.below hb N3.out.lt).cells2
      have hz := hb.size
      simp only [World.size_alloc] at hz
      have HB := hide (HB0.out.trans (hb.mono HB0.out.size)); clear hb
      go_wp2_with fail
      exact bodyPost_ret (v := spanV a b) (by simp [results, Try.results60, go_sem, k0, k1]) rfl ⟨rfl, (HB.out.setCell (by simp <;> omega) _).setCell (by simp <;> omega) _⟩
  · have hm : meetB a b c d = false := by simpa using hm
    rw [show comA a b c d = 0 by unfold comA; rw [hm]; rfl, show comB a b c d = 0 by unfold comB; rw [hm]; rfl]
    have HM := hide hm; clear hm
    go_enter Try.func60, Try.ntmps60
    go_wp2_with fail
    refine (meet_is _ _ _ _ _ HM.out _).mono ?_
    rintro e w' ⟨rfl, hb⟩
    obtain ⟨i0, i1, _, _⟩ := (N1.out.below hb N1.out.lt).cells2
    obtain ⟨j0, j1, _, _⟩ := (N2.out.below hb N2.out.lt).cells2
    obtain ⟨k0, k1, f0, f1⟩ := (N3.out.below hb N3.out.lt).cells2
    have hz := hb.size
    simp only [World.size_alloc] at hz
    have HB := hide (HB0.out.trans (hb.mono HB0.out.size)); clear hb
    go_wp2_with fail
    exact bodyPost_ret (v := spanV 0 0) (by simp [results, Try.results60, go_sem, k0, k1]) rfl ⟨rfl, (HB.out.setCell (by simp <;> omega) _).setCell (by simp <;> omega) _⟩
end Go.Proofs.Ytgdljdhibknjnaa
