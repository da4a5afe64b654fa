/- The walk of metronomelaw.GuardOpens; conditions: the slots lie in memory; errors.errorType holds what start-up lays there. -/
import Derived.Test.YtgdljdhibknjnabDoorGat
import Derived.Test.YtgdljdhibknjnabDoorGsm
import Derived.Test.YtgdljdhibknjnabDoorRc
import Derived.Test.YtgdljdhibknjnabDoorEp
import Derived.Deep.RegionHeld3
import Derived.Deep.Cut
import Derived.Deep.CutRange
import Derived.Deep.CutBlock
namespace Go.Proofs.YtgdljdhibknjnabDoor
open Go.RowKit

theorem bare_same2 (e : Int) (w : World) (hg : ErrT w) : Calls Tryd.prog 17 #[errV e, .int .i64 e] w fun r w' => r = .returned (.bool true) ∧ Below w.heap.size w w' :=
  (bare_errV e e w hg).mono fun r w' ⟨h1, h2⟩ => ⟨by rw [h1]; simp, h2⟩
/-- What the law keeps in memory. -/
structure GvAt (w wr : World) (G C : Array Value) (A : Option Addr) (len : Nat) (sl : List Sl) : Prop where
  g : Blk wr w.heap.size 78 G
  c : Blk wr (w.heap.size + 1) 23 C
  old : Below w.heap.size w wr
  sl0 : SlotsAt w A len sl
  e0 : ErrT w
section
variable {w w1 w2 : World} {G C : Array Value} {A : Option Addr} {len : Nat} {sl : List Sl}
theorem GvAt.slots (h : GvAt w w1 G C A len sl) : SlotsAt w1 A len sl := h.sl0.below h.old
theorem GvAt.e (h : GvAt w w1 G C A len sl) : ErrT w1 := errT_below h.e0 h.old
theorem GvAt.below (h : GvAt w w1 G C A len sl) (hB : Below w1.heap.size w1 w2) : GvAt w w2 G C A len sl :=
  ⟨h.g.below hB h.g.lt, h.c.below hB h.c.lt, h.old.trans (hB.mono h.old.size), h.sl0, h.e0⟩
theorem GvAt.set_ (h : GvAt w w1 G C A len sl) {p : Addr} (hp : w.heap.size + 1 < p.block) (u : Value) : GvAt w (w1.setCell p u) G C A len sl :=
  ⟨h.g.far (by omega) u, h.c.far (by omega) u, h.old.setCell (by omega) u, h.sl0, h.e0⟩
theorem GvAt.alloc (h : GvAt w w1 G C A len sl) (o : Obj) : GvAt w (w1.alloc o) G C A len sl := h.below ((Below.refl _ _).alloc (Nat.le_refl _) o)
theorem GvAt.drew (h : GvAt w w1 G C A len sl) : GvAt w w1.drew G C A len sl := ⟨h.g.drew, h.c.drew, below_drewN h.old 1, h.sl0, h.e0⟩
end
theorem gvS {nd fa sk ji dr R : Int} {A : Option Addr} {len c : Nat} {AL : Option Addr} {ll cl : Nat} {fr : Int} {AQ : Option Addr} {lq cq : Nat} {f s n d : Int} {sl : List Sl} {w wr : World} (h : GvAt w wr (planC nd fa sk ji dr R (.slice A len c) (.slice AL ll cl) fr (.slice AQ lq cq)) #[.int .i64 f, .int .i64 s, .int .i64 n, .int .i64 d] A len sl) : wr.cell? ⟨w.heap.size, 0, none⟩ = some (.int .i64 nd) ∧ wr.cell? ⟨w.heap.size, 1, none⟩ = some (.int .i64 fa) ∧ wr.cell? ⟨w.heap.size, 2, none⟩ = some (.int .i64 sk) ∧ wr.cell? ⟨w.heap.size, 3, none⟩ = some (.int .i64 ji) ∧ wr.cell? ⟨w.heap.size, 4, none⟩ = some (.int .i64 dr) ∧ wr.cell? ⟨w.heap.size, 5, none⟩ = some (.int .i64 R) ∧ wr.cell? ⟨w.heap.size, 6, none⟩ = some (.slice A len c) ∧ wr.cell? ⟨w.heap.size, 7, none⟩ = some (.slice AL ll cl) ∧ wr.cell? ⟨w.heap.size, 8, none⟩ = some (.int .i64 fr) ∧ wr.cell? ⟨w.heap.size, 9, none⟩ = some (.slice AQ lq cq) ∧ wr.cell? ⟨w.heap.size + 1, 0, none⟩ = some (.int .i64 f) ∧ wr.cell? ⟨w.heap.size + 1, 1, none⟩ = some (.int .i64 s) ∧ wr.cell? ⟨w.heap.size + 1, 2, none⟩ = some (.int .i64 n) ∧ wr.cell? ⟨w.heap.size + 1, 3, none⟩ = some (.int .i64 d) := by
  obtain ⟨i0, i1, i2, i3, i4, i5, i6, i7, i8, i9⟩ := h.g.cells10
  obtain ⟨j0, j1, j2, j3⟩ := h.c.cells4
  exact ⟨i0, i1, i2, i3, i4, i5, i6, i7, i8, i9, j0, j1, j2, j3⟩

section
variable (nd fa sk ji dr R : Int) (A : Option Addr) (len c : Nat) (AL : Option Addr) (ll cl : Nat) (fr : Int) (AQ : Option Addr) (lq cq : Nat) (f s n d : Int)
set_option maxRecDepth 100000 in
set_option maxHeartbeats 8000000 in
theorem gopens_law (round slot : Int) (sl : List Sl) (w : World) (hm : len ≤ 9223372036854775807) (hsl : sl.length = len) (hS : SlotsAt w A len sl) (hE : ErrT w) :
    Calls Tryd.prog 8 #[.agg (planC nd fa sk ji dr R (.slice A len c) (.slice AL ll cl) fr (.slice AQ lq cq)), clk f s n d, .int .i64 round, .int .i64 slot] w fun e w' => e = .returned (.bool true) ∧ Below w.heap.size w w' := by
  have hP0 : GvAt w ((w.alloc (.cells (planC nd fa sk ji dr R (.slice A len c) (.slice AL ll cl) fr (.slice AQ lq cq)) 78)).alloc (.cells #[.int .i64 f, .int .i64 s, .int .i64 n, .int .i64 d] 23)) (planC nd fa sk ji dr R (.slice A len c) (.slice AL ll cl) fr (.slice AQ lq cq)) #[.int .i64 f, .int .i64 s, .int .i64 n, .int .i64 d] A len sl := by
    have hB : Below w.heap.size w ((w.alloc (.cells (planC nd fa sk ji dr R (.slice A len c) (.slice AL ll cl) fr (.slice AQ lq cq)) 78)).alloc (.cells #[.int .i64 f, .int .i64 s, .int .i64 n, .int .i64 d] 23)) := ((Below.refl _ _).alloc (Nat.le_refl _) _).alloc (by simp) _
    exact ⟨(Blk.new w _ _).alloc _, by simpa using Blk.new (w.alloc _) _ _, hB, hS, hE⟩
  have HP := hide hP0
  obtain ⟨va, vb, ve, hr, hg⟩ := opens_both nd fa sk ji dr R A len c (.slice AL ll cl) fr (.slice AQ lq cq) f s n d 0 round slot sl hm hsl
  have HQr := hide hr; have HQp := hide hg
  clear hr hg
  obtain ⟨i0, i1, i2, i3, i4, i5, i6, i7, i8, i9⟩ := hP0.g.cells10
  obtain ⟨j0, j1, j2, j3⟩ := hP0.c.cells4
  clear hP0 hS hsl hE
  cases hsm : decide (wrap64 (wrap64 ((len : Int) + (ll : Int)) + (lq : Int)) ≤ 120)
  case true =>
    have HSM := hide (small_any nd fa sk ji dr R A len c AL ll cl fr AQ lq cq true hsm); clear hsm
    go_enter Tryd.func8, Tryd.ntmps8
    go_wp2_with fail
    refine (HSM.out _).mono ?_
    rintro e w2 ⟨rfl, hB⟩
    have HP2 := hide (HP.out.below hB)
    clear hB HP i0 i1 i2 i3 i4 i5 i6 i7 i8 i9 j0 j1 j2 j3
    obtain ⟨i0, i1, i2, i3, i4, i5, i6, i7, i8, i9⟩ := HP2.out.g.cells10
    obtain ⟨j0, j1, j2, j3⟩ := HP2.out.c.cells4
    go_upto_region 3 with fail
    go_cut [9, 10] from 16 to 24 (fun p v wx => ∃ g, p = .pointer (some ⟨g, 0, none⟩) ∧ v = .int .i64 ve ∧ GvAt w wx (planC nd fa sk ji dr R (.slice A len c) (.slice AL ll cl) fr (.slice AQ lq cq)) #[.int .i64 f, .int .i64 s, .int .i64 n, .int .i64 d] A len sl ∧ Blk wx g 81 #[.int .i64 va, .int .i64 vb])
    case first =>
      go_region_held3 (fun w' => w'.cell? ⟨w.heap.size, 0, none⟩ = some (.int .i64 nd) ∧ w'.cell? ⟨w.heap.size, 1, none⟩ = some (.int .i64 fa) ∧ w'.cell? ⟨w.heap.size, 2, none⟩ = some (.int .i64 sk) ∧ w'.cell? ⟨w.heap.size, 3, none⟩ = some (.int .i64 ji) ∧ w'.cell? ⟨w.heap.size, 4, none⟩ = some (.int .i64 dr) ∧ w'.cell? ⟨w.heap.size, 5, none⟩ = some (.int .i64 R) ∧ w'.cell? ⟨w.heap.size, 6, none⟩ = some (.slice A len c) ∧ w'.cell? ⟨w.heap.size, 7, none⟩ = some (.slice AL ll cl) ∧ w'.cell? ⟨w.heap.size, 8, none⟩ = some (.int .i64 fr) ∧ w'.cell? ⟨w.heap.size, 9, none⟩ = some (.slice AQ lq cq) ∧ w'.cell? ⟨w.heap.size + 1, 0, none⟩ = some (.int .i64 f) ∧ w'.cell? ⟨w.heap.size + 1, 1, none⟩ = some (.int .i64 s) ∧ w'.cell? ⟨w.heap.size + 1, 2, none⟩ = some (.int .i64 n) ∧ w'.cell? ⟨w.heap.size + 1, 3, none⟩ = some (.int .i64 d))
        (first | exact gvS HP4.out | exact gvS ((HP4.out.set_ (by exact HP2.out.c.lt) _).set_ (by exact HP2.out.c.lt) _) | exact gvS ((HP4.out.set_ (by exact HP3.out.c.lt) _).set_ (by exact HP3.out.c.lt) _) | exact gvS (HP4.out.alloc _) | exact gvS HP3.out | exact gvS (HP3.out.alloc _) | exact gvS HP2.out | exact gvS HP2.out.drew | exact gvS (HP2.out.alloc _) | exact gvS (HP2.out.alloc _).drew)
        (first
          | (go_at_call 14; refine (clock_any f s n d _).mono ?_; rintro r w3 ⟨rfl, hb3⟩; have HP3 := hide (GvAt.below (by first | exact HP2.out.drew | exact (HP2.out.alloc _).drew) hb3); (try have N3 := hide ((Blk.new w2 81 #[.int .i64 0, .int .i64 0]).drew.below hb3 (by simp))); clear hb3; obtain ⟨i0, i1, i2, i3, i4, i5, i6, i7, i8, i9⟩ := HP3.out.g.cells10; obtain ⟨j0, j1, j2, j3⟩ := HP3.out.c.cells4)
          | (go_at_call 36; refine (HQr.out _ (by first | exact HP3.out.slots | exact (HP3.out.alloc _).slots)).mono ?_; rintro r w4 ⟨rfl, hb4⟩; have HP4 := hide (GvAt.below (by first | exact HP3.out | exact HP3.out.alloc _) hb4); (first | (have N4 := hide (N3.out.below hb4 N3.out.lt)) | (have N4 := hide ((Blk.new w3 81 #[.int .i64 0, .int .i64 0]).below hb4 (by simp))) | skip); clear hb4; (try obtain ⟨q0, q1, q2, q3⟩ := N4.out.cells2); obtain ⟨i0, i1, i2, i3, i4, i5, i6, i7, i8, i9⟩ := HP4.out.g.cells10; obtain ⟨j0, j1, j2, j3⟩ := HP4.out.c.cells4))
      all_goals (go_wp2_with fail; go_meet; case rel => first
        | exact ⟨_, rfl, rfl, HP4.out.alloc _, Blk.new w4 _ _⟩
        | exact ⟨_, rfl, rfl, (HP4.out.set_ (by exact HP2.out.c.lt) _).set_ (by exact HP2.out.c.lt) _, (N4.out.set_ 0 _).set_ 1 _⟩
        | exact ⟨_, rfl, rfl, (HP4.out.set_ (by exact HP3.out.c.lt) _).set_ (by exact HP3.out.c.lt) _, (N4.out.set_ 0 _).set_ 1 _⟩)
    case rest =>
      obtain ⟨g1, rfl, rfl, hP5, hN5⟩ := hcut
      have HP5 := hide hP5; have HN5 := hide hN5
      clear hP5 hN5 HP2 i0 i1 i2 i3 i4 i5 i6 i7 i8 i9 j0 j1 j2 j3
      obtain ⟨i0, i1, i2, i3, i4, i5, i6, i7, i8, i9⟩ := HP5.out.g.cells10
      obtain ⟨j0, j1, j2, j3⟩ := HP5.out.c.cells4
      go_wp2_with fail
      refine (HQp.out _ HP5.out.slots).mono ?_
      rintro e w6 ⟨rfl, hB⟩
      have HP6 := hide (HP5.out.below hB)
      have HN6 := hide (HN5.out.below hB HN5.out.lt)
      clear hB HP5 HN5 i0 i1 i2 i3 i4 i5 i6 i7 i8 i9 j0 j1 j2 j3
      have HN7 := hide (HN6.out.alloc (.cells #[.int .i64 va, .int .i64 vb] 81))
      have HN8 := hide (Blk.new w6 81 #[.int .i64 va, .int .i64 vb])
      have HP7 := hide (HP6.out.alloc (.cells #[.int .i64 va, .int .i64 vb] 81))
      have hsame := span_same va vb
      have hguard := span_guard
      clear HP6 HN6
      go_wp2_with fail
      refine (bare_same2 ve _ HP7.out.e).mono ?_
      rintro e w8 ⟨rfl, hB⟩
      obtain ⟨q0, q1, _, _⟩ := (HN7.out.below hB HN7.out.lt).cells2
      obtain ⟨r0, r1, _, _⟩ := (HN8.out.below hB HN8.out.lt).cells2
      have HB8 := hide (HP7.out.below hB).old
      clear hB HN7 HN8 HP7
      go_wp2_with fail
      go_ret
      exact ⟨rfl, HB8.out⟩
  case false =>
    have HSM := hide (small_any nd fa sk ji dr R A len c AL ll cl fr AQ lq cq false hsm); clear hsm
    go_enter Tryd.func8, Tryd.ntmps8
    go_wp2_with fail
    refine (HSM.out _).mono ?_
    rintro e w2 ⟨rfl, hB⟩
    have HP2 := hide (HP.out.below hB)
    clear hB HP i0 i1 i2 i3 i4 i5 i6 i7 i8 i9 j0 j1 j2 j3
    go_wp2_with fail
    go_ret
    exact ⟨rfl, HP2.out.old⟩
end
end Go.Proofs.YtgdljdhibknjnabDoor
