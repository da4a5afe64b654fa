/- The walk of metronomelaw.TicksSpans; conditions: errors.errorType holds what start-up lays there. -/
import Derived.Test.YtgdljdhibknjnaaDoorTt
namespace Go.Proofs.YtgdljdhibknjnaaDoor
open Go.RowKit

theorem span_fields : (Tryd.prog.fieldsOf 23).toList = [{ name := "From", type := 3, offset := 0, embedded := false, tag := "", pkgPath := "", byteOffset := 0 }, { name := "To", type := 3, offset := 1, embedded := false, tag := "", pkgPath := "", byteOffset := 8 }] := by kernel_rfl
theorem span_eql (a b c d : Int) (w : World) : (binOp .eql 23 (.agg #[.int .i64 a, .int .i64 b]) (.agg #[.int .i64 c, .int .i64 d])).run Tryd.prog w = .ok (.bool (a == c && b == d)) w := by
  have ht : Tryd.prog.underlying 23 = some (.struct (Tryd.prog.fieldsOf 23)) := by kernel_rfl
  have hp : Tryd.prog.stoodInHeld 23 = false := by kernel_rfl
  rw [run_eql_struct, run_equalIn_agg w 9999 _ _ _ ht hp, span_fields]
  clear ht hp
  by_cases h : a = c
  · simp [Op.eqFields, h, go_sem, part]
    by_cases k : b = d <;> simp [k]
  · simp [Op.eqFields, h, go_sem, part]
theorem span_guard (x y : Operand) (a b c d : Int) (w : World) : (eqGuard .eql 23 x y (.agg #[.int .i64 a, .int .i64 b]) (.agg #[.int .i64 c, .int .i64 d])).run Tryd.prog w = .ok () w := by kernel_rfl
theorem bare_same (e : Int) (w : World) (hg : ErrT w) : Calls Tryd.prog 7 #[errV e, .int .i64 e] w fun r w' => r = .returned (.bool true) ∧ Below w.heap.size w w' :=
  (bare_errV e e w hg).mono fun r w' ⟨h1, h2⟩ => ⟨by rw [h1]; simp, h2⟩

theorem span_same (x y : Int) (w : World) : (binOp .eql 23 (.agg #[.int .i64 x, .int .i64 y]) (.agg #[.int .i64 x, .int .i64 y])).run Tryd.prog w = .ok (.bool true) w := by rw [span_eql]; simp
theorem meet_same (a b c d : Int) (w : World) :
    Calls Tryd.prog 8 #[spanV a b, spanV c d] w fun e w' => e = .returned (.bool (meetB a b c d)) ∧ Below w.heap.size w w' := meet_any a b c d w

set_option maxRecDepth 100000 in
set_option maxHeartbeats 4000000 in
theorem spans_any (a b c d : Int) (w : World) (hE : ErrT w) :
    Calls Tryd.prog 3 #[spanV a b, spanV c d] w fun e w' => e = .returned (.bool true) ∧ Below w.heap.size w w' := by
  have hB0 : Below w.heap.size w ((w.alloc (.cells #[.int .i64 a, .int .i64 b] 23)).alloc (.cells #[.int .i64 c, .int .i64 d] 23)) := by
    repeat (first | exact Below.refl _ _ | refine Below.alloc ?_ (by simp <;> omega) _)
  have n1 := ((Blk.new w 23 #[.int .i64 a, .int .i64 b]).alloc (.cells #[.int .i64 c, .int .i64 d] 23))
  have n2 := (Blk.new (w.alloc (.cells #[.int .i64 a, .int .i64 b] 23)) 23 #[.int .i64 c, .int .i64 d])
  simp only [World.size_alloc] at n2
  have HE := hide hE; clear hE
  have HB0 := hide hB0; have N1 := hide n1; have N2 := hide n2
  clear hB0 n1 n2
  go_enter Tryd.func3, Tryd.ntmps3
  go_wp2_with fail
  refine (radd_any _ _ _).mono ?_
  rintro e w' ⟨rfl, rfl⟩
  go_wp2_with fail
  refine (tadd_any _ _ _).mono ?_
  rintro e w' ⟨rfl, rfl⟩
  go_wp2_with fail
  refine (rcommon_any _ _ _ _ _).mono ?_
  rintro e w1 ⟨rfl, hb⟩
  have n1 := N1.out.below hb N1.out.lt
  have n2 := N2.out.below hb N2.out.lt
  have hE1 := errT_below (errT_below HE.out HB0.out) hb
  have hz := hb.size
  simp only [World.size_alloc] at hz
  have hB1 := HB0.out.trans (hb.mono HB0.out.size)
  have n1 := n1.alloc (.cells #[.int .i64 (comA a b c d), .int .i64 (comB a b c d)] 23)
  have n2 := n2.alloc (.cells #[.int .i64 (comA a b c d), .int .i64 (comB a b c d)] 23)
  have n3 := Blk.new w1 23 #[.int .i64 (comA a b c d), .int .i64 (comB a b c d)]
  have hE2 := errT_alloc hE1 (.cells #[.int .i64 (comA a b c d), .int .i64 (comB a b c d)] 23)
  have hB2 := hB1.alloc (by omega) (.cells #[.int .i64 (comA a b c d), .int .i64 (comB a b c d)] 23)
  have N1 := hide n1; have N2 := hide n2; have N3 := hide n3; have HE2 := hide hE2; have HB2 := hide hB2
  clear n1 n2 n3 hE1 hE2 hb hB1 hB2 HE HB0
  obtain ⟨i0, i1, _, _⟩ := N1.out.cells2
  obtain ⟨j0, j1, _, _⟩ := N2.out.cells2
  obtain ⟨k0, k1, _, _⟩ := N3.out.cells2
  have hsame := span_same (comA a b c d) (comB a b c d)
  have hguard := span_guard
  go_wp2_with fail
  go_region_held3 (fun w' => w'.cell? ⟨w.heap.size, 0, none⟩ = some (.int .i64 a) ∧ w'.cell? ⟨w.heap.size, 1, none⟩ = some (.int .i64 b) ∧ w'.cell? ⟨w.heap.size + 1, 0, none⟩ = some (.int .i64 c) ∧ w'.cell? ⟨w.heap.size + 1, 1, none⟩ = some (.int .i64 d) ∧ w'.cell? ⟨w1.heap.size, 0, none⟩ = some (.int .i64 (comA a b c d)) ∧ w'.cell? ⟨w1.heap.size, 1, none⟩ = some (.int .i64 (comB a b c d)))
    (first | (refine ⟨?_, ?_, ?_, ?_, ?_, ?_⟩ <;> assumption) | (simp [go_sem, *]; done))
    (first
      | (go_at_call 7; refine (bare_same _ _ (by exact HE2.out)).mono ?_; rintro r w2 ⟨rfl, hb2⟩; have M1 := hide (Blk.below (by exact N1.out) hb2 (by simp; omega)); have M2 := hide (Blk.below (by exact N2.out) hb2 (by simp; omega)); have M3 := hide (Blk.below (by exact N3.out) hb2 (by simp)); have MB := hide (HB2.out.trans ((below_undrew hb2).mono HB2.out.size)); clear hb2; obtain ⟨p0, p1, _, _⟩ := M1.out.cells2; obtain ⟨q0, q1, _, _⟩ := M2.out.cells2; obtain ⟨r0, r1, _, _⟩ := M3.out.cells2)
      | (go_at_call 8; refine (meet_same _ _ _ _ _).mono ?_; rintro r w3 ⟨rfl, hb3⟩; have O1 := hide (Blk.below (by exact M1.out) hb3 M1.out.lt); have O2 := hide (Blk.below (by exact M2.out) hb3 M2.out.lt); have O3 := hide (Blk.below (by exact M3.out) hb3 M3.out.lt); have OB := hide (MB.out.trans (hb3.mono MB.out.size)); clear hb3; obtain ⟨p0, p1, _, _⟩ := O1.out.cells2; obtain ⟨q0, q1, _, _⟩ := O2.out.cells2; obtain ⟨r0, r1, _, _⟩ := O3.out.cells2)
      | (go_at_call 9; refine (tcommon_any _ _ _ _ _).mono ?_; rintro r w4 ⟨rfl, hb4⟩; have P1 := hide (Blk.below (by exact O1.out) hb4 O1.out.lt); have P2 := hide (Blk.below (by exact O2.out) hb4 O2.out.lt); have P3 := hide (Blk.below (by exact O3.out) hb4 O3.out.lt); have PB := hide (OB.out.trans (hb4.mono OB.out.size)); clear hb4; obtain ⟨p0, p1, _, _⟩ := P1.out.cells2; obtain ⟨q0, q1, _, _⟩ := P2.out.cells2; obtain ⟨r0, r1, _, _⟩ := P3.out.cells2))
  go_wp2_with fail
  go_ret
  exact ⟨rfl, PB.out⟩
end Go.Proofs.YtgdljdhibknjnaaDoor
