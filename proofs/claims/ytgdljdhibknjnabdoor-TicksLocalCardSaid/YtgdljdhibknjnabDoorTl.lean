/- The walks of metronomelaw.TicksReal and TicksLocal; condition: errors.errorType holds what start-up lays there. -/
import Derived.Test.YtgdljdhibknjnabDoorRr
import Derived.Test.YtgdljdhibknjnabDoorEp
import Derived.Deep.RegionHeld3
namespace Go.Proofs.YtgdljdhibknjnabDoor
open Go.RowKit

theorem bare_same (e : Int) (w : World) (hg : ErrT w) : Calls Tryd.prog 17 #[errV e, .int .i64 e] w fun r w' => r = .returned (.bool true) ∧ Below w.heap.size w w' :=
  (bare_errV e e w hg).mono fun r w' ⟨h1, h2⟩ => ⟨by rw [h1]; simp, h2⟩

set_option maxRecDepth 100000 in
set_option maxHeartbeats 2000000 in
theorem ticksReal_any (f s n d l : Int) (w : World) (hE : ErrT w) :
    Calls Tryd.prog 4 #[clk f s n d, .int .i64 l] w fun e w' => e = .returned (.bool true) ∧ Below w.heap.size w w' := by
  have hB0 := (Below.refl w.heap.size w).alloc (Nat.le_refl _) (.cells #[.int .i64 f, .int .i64 s, .int .i64 n, .int .i64 d] 23)
  have n1 := Blk.new w 23 #[.int .i64 f, .int .i64 s, .int .i64 n, .int .i64 d]
  have HE := hide hE; clear hE
  have HB0 := hide hB0; have N1 := hide n1
  clear hB0 n1
  go_enter Tryd.func4, Tryd.ntmps4
  go_wp2_with fail
  refine (clock_any _ _ _ _ _).mono ?_
  rintro e w1 ⟨rfl, hb⟩
  have N2 := hide (N1.out.below hb N1.out.lt)
  have HB1 := hide (HB0.out.trans (hb.mono HB0.out.size)); clear hb
  go_wp2_with fail
  refine (rreal_any _ _ _ _ _ _).mono ?_
  rintro e w2 ⟨rfl, hb⟩
  have N3 := hide (N2.out.below hb N2.out.lt)
  have HB2 := hide (HB1.out.trans (hb.mono HB1.out.size)); clear hb
  obtain ⟨i0, i1, i2, i3⟩ := N3.out.cells4
  go_wp2_with fail
  refine (real_any _ _ _ _ _ _).mono ?_
  rintro e w3 ⟨rfl, hb⟩
  have HB3 := hide (HB2.out.trans (hb.mono HB2.out.size)); clear hb
  clear i0 i1 i2 i3
  go_wp2_with fail
  refine (bare_same _ _ (by have hx := errT_below HE.out HB3.out; exact hx)).mono ?_
  rintro e w4 ⟨rfl, hb⟩
  have HB4 := hide (HB3.out.trans (hb.mono HB3.out.size)); clear hb
  go_wp2_with fail
  go_ret
  exact ⟨rfl, HB4.out⟩

theorem right_is (f s n d : Int) (w : World) :
    Calls Tryd.prog 18 #[clk f s n d] w fun e w' => e = .returned (.bool (rightB f s n d)) ∧ Below w.heap.size w w' :=
  (right_any f s n d w).mono fun e w' ⟨h1, h2⟩ => ⟨h1, h2 ▸ (Below.refl _ _).alloc (Nat.le_refl _) _⟩
theorem rright_is (f s n d : Int) (w : World) :
    Calls Tryd.prog 19 #[clk f s n d] w fun e w' => e = .returned (.bool (rightB f s n d)) ∧ Below w.heap.size w w' :=
  (rright_any f s n d w).mono fun e w' ⟨h1, h2⟩ => ⟨h1, h2 ▸ (Below.refl _ _).alloc (Nat.le_refl _) _⟩

set_option maxRecDepth 100000 in
set_option maxHeartbeats 2000000 in
theorem ticksLocal_any (f s n d l : Int) (w : World) (hE : ErrT w) :
    Calls Tryd.prog 3 #[clk f s n d, .int .i64 l] w fun e w' => e = .returned (.bool true) ∧ Below w.heap.size w w' := by
  have hB0 := (Below.refl w.heap.size w).alloc (Nat.le_refl _) (.cells #[.int .i64 f, .int .i64 s, .int .i64 n, .int .i64 d] 23)
  have n1 := Blk.new w 23 #[.int .i64 f, .int .i64 s, .int .i64 n, .int .i64 d]
  have HE := hide hE; clear hE
  have HB0 := hide hB0; have N1 := hide n1
  clear hB0 n1
  go_enter Tryd.func3, Tryd.ntmps3
  go_wp2_with fail
  refine (clock_any _ _ _ _ _).mono ?_
  rintro e w1 ⟨rfl, hb⟩
  have N2 := hide (N1.out.below hb N1.out.lt)
  have HB1 := hide (HB0.out.trans (hb.mono HB0.out.size)); clear hb
  go_wp2_with fail
  refine (rlocal_any _ _ _ _ _ _).mono ?_
  rintro e w2 ⟨rfl, hb⟩
  have N3 := hide (N2.out.below hb N2.out.lt)
  have HB2 := hide (HB1.out.trans (hb.mono HB1.out.size)); clear hb
  obtain ⟨i0, i1, i2, i3⟩ := N3.out.cells4
  go_wp2_with fail
  refine (local_any _ _ _ _ _ _).mono ?_
  rintro e w3 ⟨rfl, hb⟩
  have N4 := hide (N3.out.below hb N3.out.lt)
  have HB3 := hide (HB2.out.trans (hb.mono HB2.out.size)); clear hb
  clear i0 i1 i2 i3
  obtain ⟨i0, i1, i2, i3⟩ := N4.out.cells4
  go_wp2_with fail
  go_region_held3 (fun w' => w'.cell? ⟨w.heap.size, 0, none⟩ = some (.int .i64 f) ∧ w'.cell? ⟨w.heap.size, 1, none⟩ = some (.int .i64 s) ∧ w'.cell? ⟨w.heap.size, 2, none⟩ = some (.int .i64 n) ∧ w'.cell? ⟨w.heap.size, 3, none⟩ = some (.int .i64 d))
    (first | (refine ⟨?_, ?_, ?_, ?_⟩ <;> assumption) | (simp [go_sem, *]; done))
    (first
      | (go_at_call 17; refine (bare_same _ _ (by have hx := errT_below HE.out HB3.out; exact hx)).mono ?_; rintro r w4 ⟨rfl, hb4⟩; have M1 := hide (Blk.below (by exact N4.out) hb4 N4.out.lt); have MB := hide (HB3.out.trans ((below_undrew hb4).mono HB3.out.size)); clear hb4; obtain ⟨p0, p1, p2, p3⟩ := M1.out.cells4)
      | (go_at_call 18; refine (right_is _ _ _ _ _).mono ?_; rintro r w5 ⟨rfl, hb5⟩; have M2 := hide (Blk.below (by exact M1.out) hb5 M1.out.lt); have MC := hide (MB.out.trans (hb5.mono MB.out.size)); clear hb5; obtain ⟨p0, p1, p2, p3⟩ := M2.out.cells4)
      | (go_at_call 14; refine (clock_any _ _ _ _ _).mono ?_; rintro r w6 ⟨rfl, hb6⟩; have M3 := hide (Blk.below (by exact M2.out) hb6 M2.out.lt); have MD := hide (MC.out.trans (hb6.mono MC.out.size)); clear hb6; obtain ⟨p0, p1, p2, p3⟩ := M3.out.cells4)
      | (go_at_call 19; refine (rright_is _ _ _ _ _).mono ?_; rintro r w7 ⟨rfl, hb7⟩; have M4 := hide (Blk.below (by exact M3.out) hb7 M3.out.lt); have ME := hide (MD.out.trans (hb7.mono MD.out.size)); clear hb7; obtain ⟨p0, p1, p2, p3⟩ := M4.out.cells4))
  go_wp2_with fail
  go_ret
  exact ⟨rfl, ME.out⟩
end Go.Proofs.YtgdljdhibknjnabDoor
