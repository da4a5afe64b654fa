/- The contracts of plan.within and plan.span; conditions: the numbers lie in memory. -/
import Derived.Test.YtfdadkngbnhmeaaDoorCk
import Derived.Test.YtfdadkngbnhmeaaDoorOpen
import Derived.Test.YtfdadkngbnhmeaaDoorTq
namespace Go.Proofs.YtfdadkngbnhmeaaDoor
open Go.RowKit

def outB (lo hi z : Int) : Bool := decide (z < lo) || decide (hi < z)
set_option maxRecDepth 100000 in
set_option maxHeartbeats 1000000 in
theorem wlit_any (g h : Nat) (lo hi z : Int) (b : Bool) (hb : Hid (outB lo hi z = b)) (w : World) (hx : w.cell? ⟨g, 0, none⟩ = some (.int .i64 lo)) (hy : w.cell? ⟨h, 0, none⟩ = some (.int .i64 hi)) :
    Calls Tryd.prog 54 #[.int .i64 z, .pointer (some ⟨g, 0, none⟩), .pointer (some ⟨h, 0, none⟩)] w fun e w' => e = .returned (.bool b) ∧ Below w.heap.size w w' := by
  by_cases h1 : z < lo
  · have q1 : decide (z < lo) = true := decide_eq_true h1
    have HB : Hid (b = true) := hide (by rw [← hb.out]; unfold outB; rw [q1]; rfl)
    clear hb h1
    go_enter Tryd.func54, Tryd.ntmps54
    go_wp2_with fail
    go_ret
    exact ⟨ret_bool HB.out.symm, Below.refl _ _⟩
  · have q1 : decide (z < lo) = false := decide_eq_false h1
    have HB : Hid (b = decide (hi < z)) := hide (by rw [← hb.out]; unfold outB; rw [q1]; rfl)
    clear hb h1
    go_enter Tryd.func54, Tryd.ntmps54
    go_wp2_with fail
    go_ret
    exact ⟨ret_bool HB.out.symm, Below.refl _ _⟩
/-- The first number that is out. -/
def oidx (lo hi : Int) (zs : List Int) : Nat := match zs with
  | [] => 0
  | z :: l => if outB lo hi z = true then 0 else oidx lo hi l + 1
theorem oidx_step (lo hi : Int) (zs : List Int) (k : Nat) (hk : k < zs.length) (h : k ≤ oidx lo hi zs) : if outB lo hi (zs.getD k 0) = true then oidx lo hi zs = k else k + 1 ≤ oidx lo hi zs := by
  induction zs generalizing k with
  | nil => simp at hk
  | cons z l ih =>
    unfold oidx at h ⊢
    cases k with
    | zero =>
      simp only [List.getD_cons_zero]
      by_cases hz : outB lo hi z = true
      · rw [if_pos hz, if_pos hz]
      · rw [if_neg hz, if_neg hz]; omega
    | succ k =>
      by_cases hz : outB lo hi z = true
      · rw [if_pos hz] at h; omega
      · rw [if_neg hz] at h ⊢
        have := ih k (by simpa using hk) (by omega)
        simp only [List.getD_cons_succ]
        split
        · rename_i h2; rw [if_pos h2] at this; omega
        · rename_i h2; rw [if_neg h2] at this; omega
theorem oidx_all (lo hi : Int) (zs : List Int) : decide (oidx lo hi zs < zs.length) = zs.any (outB lo hi) := by
  induction zs with
  | nil => rfl
  | cons z l ih =>
    unfold oidx
    cases hz : outB lo hi z
    · simp only [hz, List.any_cons, Bool.false_or, ← ih, List.length_cons]
      apply decide_eq_decide.2
      simp
    · simp [hz]
set_option maxRecDepth 100000 in
set_option maxHeartbeats 1000000 in
theorem windex_any (g h : Nat) (lo hi : Int) (A : Option Addr) (n c : Nat) (zs : List Int) (w : World) (hn : n ≤ 100) (hzs : zs.length = n) (hx : w.cell? ⟨g, 0, none⟩ = some (.int .i64 lo)) (hy : w.cell? ⟨h, 0, none⟩ = some (.int .i64 hi)) (hI : IntsAt w A n zs) (r : Int) (hr : Hid ((if oidx lo hi zs < n then (oidx lo hi zs : Int) else -1) = r)) :
    Calls Tryd.prog 50 #[.slice A n c, .func (.func 54) #[] #[.pointer (some ⟨g, 0, none⟩), .pointer (some ⟨h, 0, none⟩)]] w fun e w' => e = .returned (.int .i64 r) ∧ Below w.heap.size w w' := by
  have HI := hide hI; clear hI
  have hgl := World.block_lt_of_cell? _ _ hx
  have hhl := World.block_lt_of_cell? _ _ hy
  go_enter Tryd.func50, Tryd.ntmps50
  go_wp2_with fail
  go_loopw [8] (fun i wr => ∃ k : Nat, k ≤ n ∧ i = .int .i64 k ∧ k ≤ oidx lo hi zs ∧ Below w.heap.size w wr) (fun i _ => n - (intOf i).toNat)
  case atStart => exact ⟨0, by omega, rfl, by omega, Below.refl _ _⟩
  case round =>
    obtain ⟨k, hk, rfl, hki, hB⟩ := hrel
    by_cases hlt2 : k < n
    · obtain ⟨b, off, rfl, c0⟩ := HI.out k hlt2
      have hb := World.block_lt_of_cell? _ _ c0
      have k0 := (hB.cell (p := ⟨b, off + k, none⟩) hb).trans c0
      have hix := oidx_step lo hi zs k (by omega) hki
      have HX2 := hide ((hB.cell (p := ⟨g, 0, none⟩) hgl).trans hx)
      have HY2 := hide ((hB.cell (p := ⟨h, 0, none⟩) hhl).trans hy)
      have HBB := hide hB; have hsz := hB.size
      clear hB c0
      generalize zs.getD k 0 = y at hix k0
      cases hyx : outB lo hi y
      · have HO := hide hyx
        have hid : k + 1 ≤ oidx lo hi zs := by rw [if_neg (by rw [hyx]; decide)] at hix; exact hix
        have HID := hide hid; clear hid hix hyx
        go_wp2_with (go_at_call 54; refine (wlit_any g h lo hi y false HO _ (by exact HX2.out) (by exact HY2.out)).mono ?_; rintro e w3 ⟨rfl, hB3⟩; have HB3 := hide hB3; clear hB3)
        exact ⟨⟨k + 1, by omega, by go_num, HID.out, HBB.out.trans (HB3.out.mono hsz)⟩, by simp [intOf]; omega⟩
      · have HO := hide hyx
        have hid : oidx lo hi zs = k := by rw [if_pos hyx] at hix; exact hix
        have HID := hide hid; clear hid hix hyx
        go_wp2_with (go_at_call 54; refine (wlit_any g h lo hi y true HO _ (by exact HX2.out) (by exact HY2.out)).mono ?_; rintro e w3 ⟨rfl, hB3⟩; have HB3 := hide hB3; clear hB3)
        go_ret
        exact ⟨ret_int (by rw [← hr.out, HID.out, if_pos hlt2]), HBB.out.trans (HB3.out.mono hsz)⟩
    · obtain rfl : k = n := by omega
      have HBB := hide hB; clear hB
      go_wp2_with fail
      go_ret
      exact ⟨ret_int (by rw [← hr.out, if_neg (by omega)]), HBB.out⟩
set_option maxRecDepth 100000 in
set_option maxHeartbeats 1000000 in
theorem wcontains_any (g h : Nat) (lo hi : Int) (A : Option Addr) (n c : Nat) (zs : List Int) (w : World) (hn : n ≤ 100) (hzs : zs.length = n) (hx : w.cell? ⟨g, 0, none⟩ = some (.int .i64 lo)) (hy : w.cell? ⟨h, 0, none⟩ = some (.int .i64 hi)) (hI : IntsAt w A n zs) (b : Bool) (hb : Hid (zs.any (outB lo hi) = b)) :
    Calls Tryd.prog 37 #[.slice A n c, .func (.func 54) #[] #[.pointer (some ⟨g, 0, none⟩), .pointer (some ⟨h, 0, none⟩)]] w fun e w' => e = .returned (.bool b) ∧ Below w.heap.size w w' := by
  obtain ⟨r, hr⟩ : ∃ r : Int, (if oidx lo hi zs < n then (oidx lo hi zs : Int) else -1) = r := ⟨_, rfl⟩
  have q : decide (0 ≤ r) = b := by
    rw [← hb.out, ← oidx_all, hzs, ← hr]
    apply decide_eq_decide.2
    split <;> omega
  have HI := hide hI; have HR := hide hr; have HX := hide hx; have HY := hide hy
  clear hI hr hx hy
  go_enter Tryd.func37, Tryd.ntmps37
  go_wp2_with fail
  refine (windex_any g h lo hi A n c zs _ hn hzs HX.out HY.out HI.out r HR).mono ?_
  rintro e w2 ⟨rfl, hB⟩
  have HB := hide hB; clear hB
  go_wp2_with fail
  go_ret
  exact ⟨rfl, HB.out⟩
set_option maxRecDepth 100000 in
set_option maxHeartbeats 1000000 in
theorem withinS_any (lo hi : Int) (A : Option Addr) (n c : Nat) (zs : List Int) (w : World) (hn : n ≤ 100) (hzs : zs.length = n) (hI : IntsAt w A n zs) (b : Bool) (hb : Hid ((!zs.any (outB lo hi)) = b)) :
    Calls Tryd.prog 47 #[.int .i64 lo, .int .i64 hi, .slice A n c] w fun e w' => e = .returned (.bool b) ∧ Below w.heap.size w w' := by
  have hB : Below w.heap.size w ((w.alloc (.cells #[.int .i64 lo] 3)).alloc (.cells #[.int .i64 hi] 3)) := ((Below.refl _ _).alloc (Nat.le_refl _) _).alloc (by simp) _
  have hg := (Blk.new w 3 #[.int .i64 lo]).alloc (.cells #[.int .i64 hi] 3)
  have hh := Blk.new (w.alloc (.cells #[.int .i64 lo] 3)) 3 #[.int .i64 hi]
  simp only [World.size_alloc] at hh
  have hI2 : IntsAt ((w.alloc (.cells #[.int .i64 lo] 3)).alloc (.cells #[.int .i64 hi] 3)) A n zs := by
    intro j hj
    obtain ⟨b, off, hA, c0⟩ := hI j hj
    exact ⟨b, off, hA, (hB.cell (p := ⟨b, off + j, none⟩) (World.block_lt_of_cell? _ _ c0)).trans c0⟩
  have HI := hide hI2; have HB := hide hB; have HG := hide hg.cells1.1; have HH := hide hh.cells1.1
  clear hI hI2 hB hg hh
  have q : (!zs.any (outB lo hi)) = b := hb.out
  obtain ⟨x, hx⟩ : ∃ x, zs.any (outB lo hi) = x := ⟨_, rfl⟩
  rw [hx] at q
  have HX := hide hx; clear hx hb
  go_enter Tryd.func47, Tryd.ntmps47
  go_wp2_with fail
  refine (wcontains_any w.heap.size (w.heap.size + 1) lo hi A n c zs _ hn hzs HG.out HH.out HI.out x HX).mono ?_
  rintro e w2 ⟨rfl, hB⟩
  have HB2 := hide (HB.out.trans (hB.mono HB.out.size)); clear hB
  go_wp2_with fail
  go_ret
  exact ⟨rfl, HB2.out⟩
set_option maxRecDepth 100000 in
set_option maxHeartbeats 1000000 in
theorem span_any (f t lo hi : Int) (w : World) (e : Int) (he : Hid (spE f t lo hi = e)) :
    Calls Tryd.prog 48 #[spanV f t, .int .i64 lo, .int .i64 hi] w fun r w' => r = .returned (.int .i64 e) ∧ Below w.heap.size w w' := by
  have hB := hide ((Below.refl w.heap.size w).alloc (Nat.le_refl _) (.cells #[.int .i64 f, .int .i64 t] 64))
  have q := he.out
  unfold spE at q
  by_cases h1 : t ≤ f
  · have d1 : decide (t ≤ f) = true := decide_eq_true h1
    rw [if_pos h1] at q
    have Q := hide q; clear q he h1
    go_enter Tryd.func48, Tryd.ntmps48
    go_wp2_with fail
    go_ret
    exact ⟨ret_int Q.out, hB.out⟩
  · have d1 : decide (t ≤ f) = false := decide_eq_false h1
    rw [if_neg h1] at q
    by_cases h2 : f < lo
    · have d2 : decide (f < lo) = true := decide_eq_true h2
      rw [if_pos h2] at q
      have Q := hide q; clear q he h1 h2
      go_enter Tryd.func48, Tryd.ntmps48
      go_wp2_with fail
      go_ret
      exact ⟨ret_int Q.out, hB.out⟩
    · have d2 : decide (f < lo) = false := decide_eq_false h2
      rw [if_neg h2] at q
      by_cases h3 : hi < t
      · have d3 : decide (hi < t) = true := decide_eq_true h3
        rw [if_pos h3] at q
        have Q := hide q; clear q he h1 h2 h3
        go_enter Tryd.func48, Tryd.ntmps48
        go_wp2_with fail
        go_ret
        exact ⟨ret_int Q.out, hB.out⟩
      · have d3 : decide (hi < t) = false := decide_eq_false h3
        rw [if_neg h3] at q
        have Q := hide q; clear q he h1 h2 h3
        go_enter Tryd.func48, Tryd.ntmps48
        go_wp2_with fail
        go_ret
        exact ⟨ret_int Q.out, hB.out⟩
end Go.Proofs.YtfdadkngbnhmeaaDoor
