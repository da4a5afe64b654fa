/- The contracts of the clock's methods Local and Real of package ticks, errors and all; no condition. -/
import Derived.Test.YtgdljdhibknjnaaTr
namespace Go.Proofs.Ytgdljdhibknjnaa
open Go.RowKit

def localN (f s n d t : Int) : Int := if localE f s n d t = 0 then Tkp.localV f s n d t else 0
theorem local_any (f s n d t : Int) (w : World) :
    Calls Try.prog 19 #[clk f s n d, .int .i64 t] w fun e w' => e = .returned (.tuple #[.int .i64 (localN f s n d t), errV (localE f s n d t)]) ∧ Below w.heap.size w w' := by
  by_cases h : localE f s n d t = 0
  · refine (local_ok f s n d t w h).mono fun e w' ⟨he, hb⟩ => ⟨?_, hb⟩
    rw [he, localN, errV, if_pos h, if_pos h]
  · refine (local_bad f s n d t w h).mono fun e w' ⟨he, hb⟩ => ⟨?_, hb⟩
    rw [he, localN, errV, if_neg h, if_neg h]
def realN (f s n d t : Int) : Int := if realE f s n d t = 0 then realV f s n d t else 0
theorem real_any (f s n d t : Int) (w : World) :
    Calls Try.prog 18 #[clk f s n d, .int .i64 t] w fun e w' => e = .returned (.tuple #[.int .i64 (realN f s n d t), errV (realE f s n d t)]) ∧ Below w.heap.size w w' := by
  by_cases h : realE f s n d t = 0
  · refine (real_ok f s n d t w h).mono fun e w' ⟨he, hb⟩ => ⟨?_, hb⟩
    rw [he, realN, errV, if_pos h, if_pos h]
  · refine (real_bad f s n d t w h).mono fun e w' ⟨he, hb⟩ => ⟨?_, hb⟩
    rw [he, realN, errV, if_neg h, if_neg h]

theorem realN_bd (f s n d l : Int) : 0 ≤ realN f s n d l ∧ realN f s n d l ≤ 1099511627776 := by
  unfold realN
  by_cases h : realE f s n d l = 0
  · rw [if_pos h]
    unfold realE at h
    by_cases hr : rightB f s n d = false
    · simp [hr] at h
    rw [if_neg hr] at h
    have hr : rightB f s n d = true := by simpa using hr
    obtain ⟨r1, r2, r3, r4, r5, r6, r7, r8, r9, r10⟩ := rightB_iff hr
    by_cases h1 : l < -1099511627776 ∨ 1099511627776 < l
    · simp [h1] at h
    rw [if_neg h1] at h
    unfold realV
    by_cases h2 : l ≤ s
    · rw [if_pos h2]; omega
    · rw [if_neg h2] at h ⊢
      have := Tkp.wait_nonneg n d (l - s) r5 r7 (by omega)
      by_cases h3 : 1099511627776 < f + Tkp.waitV n d (l - s)
      · simp [h3] at h
      · omega
  · rw [if_neg h]; omega

end Go.Proofs.Ytgdljdhibknjnaa
