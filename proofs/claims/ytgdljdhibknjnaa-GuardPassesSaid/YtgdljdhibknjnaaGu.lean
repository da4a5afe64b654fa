/- The walk of metronomelaw.GuardPasses; condition: the slots lie in memory. -/
import Derived.Test.YtgdljdhibknjnaaGs
import Derived.Test.YtgdljdhibknjnaaGsm
import Derived.Deep.RegionHeld3
import Derived.Deep.Cut
import Derived.Deep.CutRange
import Derived.Deep.CutBlock
namespace Go.Proofs.Ytgdljdhibknjnaa
open Go.RowKit

/-- What the law keeps in memory. -/
structure GlAt (w wr : World) (G C S : Array Value) (A : Option Addr) (len : Nat) (sl : List Sl) : Prop where
  g : Blk wr w.heap.size 86 G
  c : Blk wr (w.heap.size + 1) 36 C
  s : Blk wr (w.heap.size + 1 + 1) 88 S
  old : Below w.heap.size w wr
  sl0 : SlotsAt w A len sl
theorem GlAt.sl {w wr : World} {G C S : Array Value} {A : Option Addr} {len : Nat} {sl : List Sl} (h : GlAt w wr G C S A len sl) : SlotsAt wr A len sl := h.sl0.below h.old
theorem GlAt.below {w w1 w2 : World} {G C S : Array Value} {A : Option Addr} {len : Nat} {sl : List Sl} (h : GlAt w w1 G C S A len sl) (hB : Below w1.heap.size w1 w2) : GlAt w w2 G C S A len sl :=
  ⟨h.g.below hB h.g.lt, h.c.below hB h.c.lt, h.s.below hB h.s.lt, h.old.trans (hB.mono h.old.size), h.sl0⟩
theorem GlAt.set_ {w w1 : World} {G C S : Array Value} {A : Option Addr} {len : Nat} {sl : List Sl} (h : GlAt w w1 G C S A len sl) {p : Addr} (hp : w.heap.size + 1 + 1 < p.block) (u : Value) : GlAt w (w1.setCell p u) G C S A len sl :=
  ⟨h.g.far (by omega) u, h.c.far (by omega) u, h.s.far (by omega) u, h.old.setCell (by omega) u, h.sl0⟩
theorem GlAt.alloc {w w1 : World} {G C S : Array Value} {A : Option Addr} {len : Nat} {sl : List Sl} (h : GlAt w w1 G C S A len sl) (o : Obj) : GlAt w (w1.alloc o) G C S A len sl := h.below ((Below.refl _ _).alloc (Nat.le_refl _) o)
theorem GlAt.drew {w w1 : World} {G C S : Array Value} {A : Option Addr} {len : Nat} {sl : List Sl} (h : GlAt w w1 G C S A len sl) : GlAt w w1.drew G C S A len sl := ⟨h.g.drew, h.c.drew, h.s.drew, below_drewN h.old 1, h.sl0⟩

theorem glS {nd fa sk ji dr R : Int} {A : Option Addr} {len c : Nat} {AL : Option Addr} {ll cl : Nat} {fr : Int} {AQ : Option Addr} {lq cq : Nat} {f s n d sa sb : Int} {sl : List Sl} {w wr : World} (h : GlAt w wr (planC nd fa sk ji dr R (.slice A len c) (.slice AL ll cl) fr (.slice AQ lq cq)) #[.int .i64 f, .int .i64 s, .int .i64 n, .int .i64 d] #[.int .i64 sa, .int .i64 sb] A len sl) : wr.cell? ⟨w.heap.size, 0, none⟩ = some (.int .i64 nd) ∧ wr.cell? ⟨w.heap.size, 1, none⟩ = some (.int .i64 fa) ∧ wr.cell? ⟨w.heap.size, 2, none⟩ = some (.int .i64 sk) ∧ wr.cell? ⟨w.heap.size, 3, none⟩ = some (.int .i64 ji) ∧ wr.cell? ⟨w.heap.size, 4, none⟩ = some (.int .i64 dr) ∧ wr.cell? ⟨w.heap.size, 5, none⟩ = some (.int .i64 R) ∧ wr.cell? ⟨w.heap.size, 6, none⟩ = some (.slice A len c) ∧ wr.cell? ⟨w.heap.size, 7, none⟩ = some (.slice AL ll cl) ∧ wr.cell? ⟨w.heap.size, 8, none⟩ = some (.int .i64 fr) ∧ wr.cell? ⟨w.heap.size, 9, none⟩ = some (.slice AQ lq cq) ∧ wr.cell? ⟨w.heap.size + 1, 0, none⟩ = some (.int .i64 f) ∧ wr.cell? ⟨w.heap.size + 1, 1, none⟩ = some (.int .i64 s) ∧ wr.cell? ⟨w.heap.size + 1, 2, none⟩ = some (.int .i64 n) ∧ wr.cell? ⟨w.heap.size + 1, 3, none⟩ = some (.int .i64 d) ∧ wr.cell? ⟨w.heap.size + 1 + 1, 0, none⟩ = some (.int .i64 sa) ∧ wr.cell? ⟨w.heap.size + 1 + 1, 1, none⟩ = some (.int .i64 sb) := by
  obtain ⟨i0, i1, i2, i3, i4, i5, i6, i7, i8, i9⟩ := h.g.cells10
  obtain ⟨j0, j1, j2, j3⟩ := h.c.cells4
  obtain ⟨k0, k1, _, _⟩ := h.s.cells2
  exact ⟨i0, i1, i2, i3, i4, i5, i6, i7, i8, i9, j0, j1, j2, j3, k0, k1⟩

section
variable (nd fa sk ji dr R : Int) (A : Option Addr) (len c : Nat) (AL : Option Addr) (ll cl : Nat) (fr : Int) (AQ : Option Addr) (lq cq : Nat) (f s n d id : Int)
set_option maxRecDepth 100000 in
set_option maxHeartbeats 8000000 in
theorem gpasses_law (sa sb frm tl : Int) (sl : List Sl) (w : World) (hm : len ≤ 9223372036854775807) (hsl : sl.length = len) (hS : SlotsAt w A len sl) (h64 : frm ≤ 9223372036854775807) (h65 : tl ≤ 9223372036854775807) (h66 : -9223372036854775808 ≤ tl) :
    Calls Try.prog 10 #[.agg (planC nd fa sk ji dr R (.slice A len c) (.slice AL ll cl) fr (.slice AQ lq cq)), clk f s n d, .int .i64 id, spanV sa sb, .int .i64 frm, .int .i64 tl] w fun e w' => e = .returned (.bool true) ∧ Below w.heap.size w w' := by
  have hP0 : GlAt w (((w.alloc (.cells (planC nd fa sk ji dr R (.slice A len c) (.slice AL ll cl) fr (.slice AQ lq cq)) 86)).alloc (.cells #[.int .i64 f, .int .i64 s, .int .i64 n, .int .i64 d] 36)).alloc (.cells #[.int .i64 sa, .int .i64 sb] 88)) (planC nd fa sk ji dr R (.slice A len c) (.slice AL ll cl) fr (.slice AQ lq cq)) #[.int .i64 f, .int .i64 s, .int .i64 n, .int .i64 d] #[.int .i64 sa, .int .i64 sb] A len sl := by
    have hB : Below w.heap.size w (((w.alloc (.cells (planC nd fa sk ji dr R (.slice A len c) (.slice AL ll cl) fr (.slice AQ lq cq)) 86)).alloc (.cells #[.int .i64 f, .int .i64 s, .int .i64 n, .int .i64 d] 36)).alloc (.cells #[.int .i64 sa, .int .i64 sb] 88)) := (((Below.refl _ _).alloc (Nat.le_refl _) _).alloc (by simp) _).alloc (by simp; omega) _
    exact ⟨((Blk.new w _ _).alloc _).alloc _, (by simpa using Blk.new (w.alloc _) _ _ : Blk _ (w.heap.size + 1) _ _).alloc _, by simpa using Blk.new ((w.alloc _).alloc _) 88 #[.int .i64 sa, .int .i64 sb], hB, hS⟩
  have HP := hide hP0
  have HQr : Hid (∀ w0 : World, SlotsAt w0 A len sl → Calls Try.prog 40 #[.agg (planC nd fa sk ji dr R (.slice A len c) (.slice AL ll cl) fr (.slice AQ lq cq)), clk f s n d, .int .i64 id, spanV sa sb, .int .i64 frm, .int .i64 tl] w0 (PaPost w0 (psR f s n d R id sa sb tl sl 50 (max frm 0)))) := hide (fun w0 h => rpass_any nd fa sk ji dr R A len c _ fr _ f s n d id sa sb frm tl sl w0 hm hsl h h64 h65 h66)
  have HQp : Hid (∀ w0 : World, SlotsAt w0 A len sl → Calls Try.prog 42 #[.agg (gdC nd fa sk ji dr R (.slice A len c) (.slice AL ll cl) fr (.slice AQ lq cq) f s n d id), spanV sa sb, .int .i64 frm, .int .i64 tl] w0 (PaPost w0 (psR f s n d R id sa sb tl sl 50 (max frm 0)))) := hide (fun w0 h => gpass_any nd fa sk ji dr R A len c _ fr _ f s n d id sa sb frm tl sl w0 hm hsl h h64 h65)
  unfold PaPost at HQr HQp
  generalize ((psR f s n d R id sa sb tl sl 50 (max frm 0)).getD (0, 0)).1 = va at HQr HQp
  generalize ((psR f s n d R id sa sb tl sl 50 (max frm 0)).getD (0, 0)).2 = vb at HQr HQp
  generalize (psR f s n d R id sa sb tl sl 50 (max frm 0)).isSome = vo at HQr HQp
  obtain ⟨i0, i1, i2, i3, i4, i5, i6, i7, i8, i9⟩ := hP0.g.cells10
  obtain ⟨j0, j1, j2, j3⟩ := hP0.c.cells4
  obtain ⟨k0, k1, _, _⟩ := hP0.s.cells2
  clear hP0 hS hsl h64 h65 h66
  cases hsm : decide (wrap64 (wrap64 ((len : Int) + (ll : Int)) + (lq : Int)) ≤ 120)
  case true =>
    have HSM := hide (small_any nd fa sk ji dr R A len c AL ll cl fr AQ lq cq true hsm); clear hsm
    go_enter Try.func10, Try.ntmps10
    go_wp2_with fail
    refine (HSM.out _).mono ?_
    rintro e w2 ⟨rfl, hB⟩
    have HP2 := hide (HP.out.below hB)
    clear hB HP i0 i1 i2 i3 i4 i5 i6 i7 i8 i9 j0 j1 j2 j3 k0 k1
    obtain ⟨i0, i1, i2, i3, i4, i5, i6, i7, i8, i9⟩ := HP2.out.g.cells10
    obtain ⟨j0, j1, j2, j3⟩ := HP2.out.c.cells4
    obtain ⟨k0, k1, _, _⟩ := HP2.out.s.cells2
    go_upto_region 3 with fail
    go_cut [13, 14] from 20 to 30 (fun p v wx => ∃ g, p = .pointer (some ⟨g, 0, none⟩) ∧ v = .bool vo ∧ GlAt w wx (planC nd fa sk ji dr R (.slice A len c) (.slice AL ll cl) fr (.slice AQ lq cq)) #[.int .i64 f, .int .i64 s, .int .i64 n, .int .i64 d] #[.int .i64 sa, .int .i64 sb] A len sl ∧ Blk wx g 88 #[.int .i64 va, .int .i64 vb])
    case first =>
      go_region_held3 (fun w' => w'.cell? ⟨w.heap.size, 0, none⟩ = some (.int .i64 nd) ∧ w'.cell? ⟨w.heap.size, 1, none⟩ = some (.int .i64 fa) ∧ w'.cell? ⟨w.heap.size, 2, none⟩ = some (.int .i64 sk) ∧ w'.cell? ⟨w.heap.size, 3, none⟩ = some (.int .i64 ji) ∧ w'.cell? ⟨w.heap.size, 4, none⟩ = some (.int .i64 dr) ∧ w'.cell? ⟨w.heap.size, 5, none⟩ = some (.int .i64 R) ∧ w'.cell? ⟨w.heap.size, 6, none⟩ = some (.slice A len c) ∧ w'.cell? ⟨w.heap.size, 7, none⟩ = some (.slice AL ll cl) ∧ w'.cell? ⟨w.heap.size, 8, none⟩ = some (.int .i64 fr) ∧ w'.cell? ⟨w.heap.size, 9, none⟩ = some (.slice AQ lq cq) ∧ w'.cell? ⟨w.heap.size + 1, 0, none⟩ = some (.int .i64 f) ∧ w'.cell? ⟨w.heap.size + 1, 1, none⟩ = some (.int .i64 s) ∧ w'.cell? ⟨w.heap.size + 1, 2, none⟩ = some (.int .i64 n) ∧ w'.cell? ⟨w.heap.size + 1, 3, none⟩ = some (.int .i64 d) ∧ w'.cell? ⟨w.heap.size + 1 + 1, 0, none⟩ = some (.int .i64 sa) ∧ w'.cell? ⟨w.heap.size + 1 + 1, 1, none⟩ = some (.int .i64 sb))
        (first | exact glS HP4.out | exact glS ((HP4.out.set_ (by exact HP2.out.s.lt) _).set_ (by exact HP2.out.s.lt) _) | exact glS ((HP4.out.set_ (by exact HP3.out.s.lt) _).set_ (by exact HP3.out.s.lt) _) | exact glS (HP4.out.alloc _) | exact glS HP3.out | exact glS (HP3.out.alloc _) | exact glS HP2.out | exact glS HP2.out.drew | exact glS (HP2.out.alloc _) | exact glS (HP2.out.alloc _).drew)
        (first
          | (go_at_call 41; refine (clock_any f s n d _).mono ?_; rintro r w3 ⟨rfl, hb3⟩; have HP3 := hide (GlAt.below (by first | exact HP2.out.drew | exact (HP2.out.alloc _).drew) hb3); (try have N3 := hide ((Blk.new w2 88 #[.int .i64 0, .int .i64 0]).drew.below hb3 (by simp))); clear hb3; obtain ⟨i0, i1, i2, i3, i4, i5, i6, i7, i8, i9⟩ := HP3.out.g.cells10; obtain ⟨j0, j1, j2, j3⟩ := HP3.out.c.cells4; obtain ⟨k0, k1, _, _⟩ := HP3.out.s.cells2)
          | (go_at_call 40; refine (HQr.out _ (by first | exact HP3.out.sl | exact (HP3.out.alloc _).sl)).mono ?_; rintro r w4 ⟨rfl, hb4⟩; have HP4 := hide (GlAt.below (by first | exact HP3.out | exact HP3.out.alloc _) hb4); (first | (have N4 := hide (N3.out.below hb4 N3.out.lt)) | (have N4 := hide ((Blk.new w3 88 #[.int .i64 0, .int .i64 0]).below hb4 (by simp))) | skip); clear hb4; (try obtain ⟨q0, q1, q2, q3⟩ := N4.out.cells2); obtain ⟨i0, i1, i2, i3, i4, i5, i6, i7, i8, i9⟩ := HP4.out.g.cells10; obtain ⟨j0, j1, j2, j3⟩ := HP4.out.c.cells4; obtain ⟨k0, k1, _, _⟩ := HP4.out.s.cells2))
      all_goals (go_wp2_with fail; go_meet; case rel => first
        | exact ⟨_, rfl, rfl, HP4.out.alloc _, Blk.new w4 _ _⟩
        | exact ⟨_, rfl, rfl, (HP4.out.set_ (by exact HP2.out.s.lt) _).set_ (by exact HP2.out.s.lt) _, (N4.out.set_ 0 _).set_ 1 _⟩
        | exact ⟨_, rfl, rfl, (HP4.out.set_ (by exact HP3.out.s.lt) _).set_ (by exact HP3.out.s.lt) _, (N4.out.set_ 0 _).set_ 1 _⟩)
    case rest =>
      obtain ⟨g1, rfl, rfl, hP5, hN5⟩ := hcut
      have HP5 := hide hP5; have HN5 := hide hN5
      clear hP5 hN5 HP2 i0 i1 i2 i3 i4 i5 i6 i7 i8 i9 j0 j1 j2 j3 k0 k1
      obtain ⟨i0, i1, i2, i3, i4, i5, i6, i7, i8, i9⟩ := HP5.out.g.cells10
      obtain ⟨j0, j1, j2, j3⟩ := HP5.out.c.cells4
      obtain ⟨k0, k1, _, _⟩ := HP5.out.s.cells2
      go_wp2_with fail
      refine (HQp.out _ HP5.out.sl).mono ?_
      rintro e w6 ⟨rfl, hB⟩
      have HP6 := hide (HP5.out.below hB)
      have HN6 := hide (HN5.out.below hB HN5.out.lt)
      clear hB HP5 HN5 i0 i1 i2 i3 i4 i5 i6 i7 i8 i9 j0 j1 j2 j3 k0 k1
      have hn7 := HN6.out.alloc (.cells #[.int .i64 va, .int .i64 vb] 88)
      obtain ⟨q0, q1, _, _⟩ := hn7.cells2
      have HB6 := hide (HP6.out.alloc (.cells #[.int .i64 va, .int .i64 vb] 88)).old
      clear hn7
      have hsame := span_same va vb
      have hguard := span_guard
      go_wp2_with fail
      go_ret
      exact ⟨rfl, HB6.out⟩
  case false =>
    have HSM := hide (small_any nd fa sk ji dr R A len c AL ll cl fr AQ lq cq false hsm); clear hsm
    go_enter Try.func10, Try.ntmps10
    go_wp2_with fail
    refine (HSM.out _).mono ?_
    rintro e w2 ⟨rfl, hB⟩
    have HP2 := hide (HP.out.below hB)
    clear hB HP i0 i1 i2 i3 i4 i5 i6 i7 i8 i9 j0 j1 j2 j3 k0 k1
    go_wp2_with fail
    go_ret
    exact ⟨rfl, HP2.out.old⟩
end
end Go.Proofs.Ytgdljdhibknjnaa
