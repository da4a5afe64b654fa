/- The contracts of the methods Right, shows and Local of metronomeref.Clock, and of metronomelaw.clock; no condition. -/
import Derived.Test.YtgdljdhibknjnabDoorTn
import Derived.Test.YtgdljdhibknjnabDoorIn
namespace Go.Proofs.YtgdljdhibknjnabDoor
open Go.RowKit

set_option maxRecDepth 100000 in
set_option maxHeartbeats 1000000 in
theorem rright_any (f s n d : Int) (w : World) :
    Calls Tryd.prog 19 #[clk f s n d] w fun e w' => e = .returned (.bool (rightB f s n d)) ∧ w.alloc (.cells #[.int .i64 f, .int .i64 s, .int .i64 n, .int .i64 d] 26) = w' := by
  by_cases hd : 1 ≤ d ∧ d ≤ 1000000
  · by_cases hn : 1 ≤ n ∧ n ≤ 1000000
    · obtain ⟨d0, d1⟩ := hd
      obtain ⟨n0, n1⟩ := hn
      go_enter Tryd.func19, Tryd.ntmps19
      go_wp2_with (go_at_call 70; refine (in_any _ _ _ _).mono ?_; rintro e w' ⟨rfl, rfl⟩)
      all_goals (go_ret; exact ⟨ret_bool (by simp only [inB, Bool.and_eq_true, decide_eq_true_eq, Bool.and_eq_false_iff, decide_eq_false_iff_not] at *; unfold rightB; symm; first | (apply decide_eq_false; omega) | (apply decide_eq_true; omega) | (apply decide_eq_decide.2; omega)), rfl⟩)
    · have hq : inB n 1 1000000 = false := by simp [inB]; omega
      go_enter Tryd.func19, Tryd.ntmps19
      go_wp2_with (go_at_call 70; refine (in_any _ _ _ _).mono ?_; rintro e w' ⟨rfl, rfl⟩)
      all_goals (go_ret; exact ⟨ret_bool (by simp only [inB, Bool.and_eq_true, decide_eq_true_eq, Bool.and_eq_false_iff, decide_eq_false_iff_not] at *; unfold rightB; symm; first | (apply decide_eq_false; omega) | (apply decide_eq_true; omega) | (apply decide_eq_decide.2; omega)), rfl⟩)
  · have hq : inB d 1 1000000 = false := by simp [inB]; omega
    go_enter Tryd.func19, Tryd.ntmps19
    go_wp2_with (go_at_call 70; refine (in_any _ _ _ _).mono ?_; rintro e w' ⟨rfl, rfl⟩)
    all_goals (go_ret; exact ⟨ret_bool (by simp only [inB, Bool.and_eq_true, decide_eq_true_eq, Bool.and_eq_false_iff, decide_eq_false_iff_not] at *; unfold rightB; symm; first | (apply decide_eq_false; omega) | (apply decide_eq_true; omega) | (apply decide_eq_decide.2; omega)), rfl⟩)

theorem clock_any (f s n d : Int) (w : World) :
    Calls Tryd.prog 14 #[clk f s n d] w fun e w' => e = .returned (clk f s n d) ∧ Below w.heap.size w w' := by
  go_enter Tryd.func14, Tryd.ntmps14
  go_wp2
  exact bodyPost_ret (v := clk f s n d) (by simp [results, Tryd.results14, go_sem]) rfl ⟨rfl, by repeat (first | exact Below.refl _ _ | refine Below.alloc ?_ (by simp <;> omega) _)⟩

set_option maxRecDepth 100000 in
set_option maxHeartbeats 1000000 in
theorem shows_any (f s n d t : Int) (w : World) (hr : rightB f s n d = true) (h1 : f ≤ t) (h2 : t ≤ 1099511627776) :
    Calls Tryd.prog 71 #[clk f s n d, .int .i64 t] w fun e w' => e = .returned (.int .i64 (Tkp.localV f s n d t)) ∧ Below w.heap.size w w' := by
  obtain ⟨r1, r2, r3, r4, r5, r6, r7, r8, r9, r10⟩ := rightB_iff hr
  obtain ⟨le, l0, l1⟩ := local_wrap f s n d t hr h1 h2
  clear hr
  have LE := hide le; clear le
  go_enter Tryd.func71, Tryd.ntmps71
  go_wp2
  go_quiet (fail)
  go_wp2
  go_quiet (fail)
  rw [LE.out]
  go_wp2
  go_ret
  exact ⟨rfl, below_drewN (below_drewN ((Below.refl _ _).alloc (Nat.le_refl _) _) _) _⟩

set_option maxRecDepth 100000 in
set_option maxHeartbeats 1000000 in
theorem rlocal_any (f s n d t : Int) (w : World) :
    Calls Tryd.prog 15 #[clk f s n d, .int .i64 t] w fun e w' => e = .returned (.tuple #[.int .i64 (localN f s n d t), .int .i64 (localE f s n d t)]) ∧ Below w.heap.size w w' := by
  have hB0 : Below w.heap.size w (w.alloc (.cells #[.int .i64 f, .int .i64 s, .int .i64 n, .int .i64 d] 26)) := (Below.refl _ _).alloc (Nat.le_refl _) _
  have n1 := Blk.new w 26 #[.int .i64 f, .int .i64 s, .int .i64 n, .int .i64 d]
  have HB0 := hide hB0; have N1 := hide n1; clear hB0 n1
  by_cases hr : rightB f s n d = false
  · rw [show localN f s n d t = 0 by simp [localN, localE, hr], show localE f s n d t = 1 by simp [localE, hr]]
    have HR := hide hr; clear hr
    go_enter Tryd.func15, Tryd.ntmps15
    go_wp2_with fail
    refine (rright_any _ _ _ _ _).mono ?_
    rw [HR.out]
    rintro e w' ⟨rfl, rfl⟩
    go_wp2_with fail
    go_ret2
    exact ⟨rfl, HB0.out.alloc (by simp) _⟩
  have hr : rightB f s n d = true := by simpa using hr
  have HR := hide hr
  by_cases h1 : inB t f 1099511627776 = false
  · have h1' : t < f ∨ 1099511627776 < t := by simp [inB] at h1; omega
    rw [show localN f s n d t = 0 by simp [localN, localE, hr, h1'], show localE f s n d t = 2 by simp [localE, hr, h1']]
    have H1 := hide h1; clear h1 hr h1'
    go_enter Tryd.func15, Tryd.ntmps15
    go_wp2_with fail
    refine (rright_any _ _ _ _ _).mono ?_
    rw [HR.out]
    rintro e w' ⟨rfl, rfl⟩
    go_wp2_with fail
    refine (in_is _ _ _ _ H1.out _).mono ?_
    rintro e w' ⟨rfl, rfl⟩
    go_wp2_with fail
    go_ret2
    exact ⟨rfl, HB0.out.alloc (by simp) _⟩
  have h1 : inB t f 1099511627776 = true := by simpa using h1
  have h1' : f ≤ t ∧ t ≤ 1099511627776 := by simpa [inB] using h1
  obtain ⟨t1, t2⟩ := h1'
  have H1 := hide h1; clear h1
  by_cases h2 : 1099511627776 < Tkp.localV f s n d t
  · have he : localE f s n d t = 2 := by simp [localE, hr, h2]
    rw [show localN f s n d t = 0 by simp [localN, he], he]
    clear hr he
    go_enter Tryd.func15, Tryd.ntmps15
    go_wp2_with fail
    refine (rright_any _ _ _ _ _).mono ?_
    rw [HR.out]
    rintro e w' ⟨rfl, rfl⟩
    go_wp2_with fail
    refine (in_is _ _ _ _ H1.out _).mono ?_
    rintro e w' ⟨rfl, rfl⟩
    go_wp2_with fail
    refine (shows_any _ _ _ _ _ _ HR.out t1 t2).mono ?_
    rintro e w2 ⟨rfl, hb⟩
    have HB := hide ((HB0.out.alloc (by simp) _).trans (hb.mono (by simp <;> omega))); clear hb
    go_wp2_with fail
    go_ret2
    exact ⟨rfl, HB.out⟩
  · have he : localE f s n d t = 0 := by simp [localE, hr, h2]; omega
    rw [show localN f s n d t = Tkp.localV f s n d t by simp [localN, he], he]
    clear hr he
    have n2 := N1.out.alloc (.cells #[.int .i64 f, .int .i64 s, .int .i64 n, .int .i64 d] 26)
    have N2 := hide n2; clear n2
    go_enter Tryd.func15, Tryd.ntmps15
    go_wp2_with fail
    refine (rright_any _ _ _ _ _).mono ?_
    rw [HR.out]
    rintro e w' ⟨rfl, rfl⟩
    go_wp2_with fail
    refine (in_is _ _ _ _ H1.out _).mono ?_
    rintro e w' ⟨rfl, rfl⟩
    go_wp2_with fail
    refine (shows_any _ _ _ _ _ _ HR.out t1 t2).mono ?_
    rintro e w2 ⟨rfl, hb⟩
    obtain ⟨i0, i1, i2, i3⟩ := (N2.out.below hb N2.out.lt).cells4
    have HB := hide ((HB0.out.alloc (by simp) _).trans (hb.mono (by simp <;> omega))); clear hb
    go_wp2_with fail
    refine (shows_any _ _ _ _ _ _ HR.out t1 t2).mono ?_
    rintro e w3 ⟨rfl, hb⟩
    have HB3 := hide (HB.out.trans (hb.mono HB.out.size)); clear hb
    go_wp2_with fail
    go_ret2
    exact ⟨rfl, HB3.out⟩
end Go.Proofs.YtgdljdhibknjnabDoor
