/- The contract of metronomeref.Opens; condition: the slots lie in memory. -/
import Derived.Test.YtgdljdhibknjnabDoorGo
import Derived.Test.YtgdljdhibknjnabDoorRr
import Derived.Test.YtgdljdhibknjnabDoorQu
import Derived.BigRegion
namespace Go.Proofs.YtgdljdhibknjnabDoor
open Go.RowKit

theorem Blk.cells10 {w : World} {g : Nat} {t : TypeId} {a0 a1 a2 a3 a4 a5 a6 a7 a8 a9 : Value} (h : Blk w g t #[a0, a1, a2, a3, a4, a5, a6, a7, a8, a9]) :
    w.cell? ⟨g, 0, none⟩ = some a0 ∧ w.cell? ⟨g, 1, none⟩ = some a1 ∧ w.cell? ⟨g, 2, none⟩ = some a2 ∧ w.cell? ⟨g, 3, none⟩ = some a3 ∧ w.cell? ⟨g, 4, none⟩ = some a4 ∧ w.cell? ⟨g, 5, none⟩ = some a5 ∧ w.cell? ⟨g, 6, none⟩ = some a6 ∧ w.cell? ⟨g, 7, none⟩ = some a7 ∧
    w.cell? ⟨g, 8, none⟩ = some a8 ∧ w.cell? ⟨g, 9, none⟩ = some a9 :=
  ⟨by simpa using h.cell 0, by simpa using h.cell 1, by simpa using h.cell 2, by simpa using h.cell 3, by simpa using h.cell 4, by simpa using h.cell 5, by simpa using h.cell 6, by simpa using h.cell 7, by simpa using h.cell 8, by simpa using h.cell 9⟩
theorem int_info : (Tryd.prog.info? 3).map (fun i => (i.zero, i.size, i.bytes)) = some (some (.int .i64 0), 1, 8) := by kernel_rfl
/-- What the document's Opens answers. -/
def GrPost (w : World) (a b e : Int) (r : Ending) (w' : World) : Prop := r = .returned (.tuple #[spanV a b, .int .i64 e]) ∧ Below w.heap.size w w'
theorem GrPost.mk {w w' : World} {a b e : Int} (hB : Below w.heap.size w w') : GrPost w a b e (.returned (.tuple #[spanV a b, .int .i64 e])) w' := ⟨rfl, hB⟩
theorem gr_results (tmps : Array Value) (w : World) (g : Nat) (a b v : Value) (h2 : tmps[8]? = some (.pointer (some ⟨g, 0, none⟩))) (h3 : tmps[9]? = some v) (hb : Blk w g 81 #[a, b]) :
    (results Tryd.f36 tmps).run Tryd.prog w = .ok (.tuple #[.agg #[a, b], v]) w := by
  obtain ⟨k0, k1, _⟩ := hb.cells2
  simp [results, Tryd.results36, go_sem, h2, h3, k0, k1]

section
variable (nd fa sk ji dr R : Int) (A : Option Addr) (len c : Nat) (L : Value) (fr : Int) (Q : Value) (f s n d : Int)
set_option maxRecDepth 100000 in
set_option maxHeartbeats 2000000 in
theorem gr_none (round slot : Int) (w : World) (hm : len ≤ 9223372036854775807) (h : slot < 0 ∨ (len : Int) ≤ slot) :
    Calls Tryd.prog 36 #[.agg (planC nd fa sk ji dr R (.slice A len c) L fr Q), clk f s n d, .int .i64 round, .int .i64 slot] w (GrPost w 0 0 7) := by
  have hb := (Blk.new ((w.alloc (.cells (planC nd fa sk ji dr R (.slice A len c) L fr Q) 78)).alloc (.cells #[.int .i64 f, .int .i64 s, .int .i64 n, .int .i64 d] 26)) 81 #[.int .i64 0, .int .i64 0])
  simp only [World.size_alloc] at hb
  have HB := hide hb; clear hb
  have hB0 := hide ((((Below.refl w.heap.size w).alloc (Nat.le_refl _) (.cells (planC nd fa sk ji dr R (.slice A len c) L fr Q) 78)).alloc (by simp) (.cells #[.int .i64 f, .int .i64 s, .int .i64 n, .int .i64 d] 26)).alloc (by simp; omega) (.cells #[.int .i64 0, .int .i64 0] 81))
  have hin : inB slot 0 ((len : Int) - 1) = false := by unfold inB; rw [Bool.and_eq_false_iff]; simp; omega
  have HIN := hide hin; clear hin h
  go_enter Tryd.func36, Tryd.ntmps36
  go_wp2_with fail
  refine (in_is _ _ _ false HIN.out _).mono ?_
  rintro e w2 ⟨rfl, rfl⟩
  go_wp2_with fail
  exact bodyPost_ret (gr_results _ _ (w.heap.size + 1 + 1) _ _ _ rfl rfl HB.out) rfl (GrPost.mk hB0.out)
set_option maxRecDepth 100000 in
set_option maxHeartbeats 2000000 in
theorem gr_late (round : Int) (k : Nat) (w : World) (hk : k < len) (hm : len ≤ 9223372036854775807) (h : round < 0 ∨ R < 1 ∨ 1099511627776 / R < round) :
    Calls Tryd.prog 36 #[.agg (planC nd fa sk ji dr R (.slice A len c) L fr Q), clk f s n d, .int .i64 round, .int .i64 k] w (GrPost w 0 0 2) := by
  have hb := (Blk.new ((w.alloc (.cells (planC nd fa sk ji dr R (.slice A len c) L fr Q) 78)).alloc (.cells #[.int .i64 f, .int .i64 s, .int .i64 n, .int .i64 d] 26)) 81 #[.int .i64 0, .int .i64 0])
  simp only [World.size_alloc] at hb
  have HB := hide hb; clear hb
  have hB0 := hide ((((Below.refl w.heap.size w).alloc (Nat.le_refl _) (.cells (planC nd fa sk ji dr R (.slice A len c) L fr Q) 78)).alloc (by simp) (.cells #[.int .i64 f, .int .i64 s, .int .i64 n, .int .i64 d] 26)).alloc (by simp; omega) (.cells #[.int .i64 0, .int .i64 0] 81))
  have HIN : Hid (inB (k : Int) 0 ((len : Int) - 1) = true) := hide (by unfold inB; simp; omega)
  by_cases h1 : R < 1
  · have d1 : decide (R < 1) = true := decide_eq_true h1
    clear h1 h
    go_enter Tryd.func36, Tryd.ntmps36
    go_wp2_with fail
    refine (in_is _ _ _ true HIN.out _).mono ?_
    rintro e w2 ⟨rfl, rfl⟩
    go_wp2_with fail
    exact bodyPost_ret (gr_results _ _ (w.heap.size + 1 + 1) _ _ _ rfl rfl HB.out) rfl (GrPost.mk hB0.out)
  · have d1 : decide (R < 1) = false := decide_eq_false h1
    obtain ⟨X, hX⟩ : ∃ X, (1099511627776 : Int) / R = X := ⟨_, rfl⟩
    have hX2 : (1099511627776 : Int).tdiv R = X := by rw [Int.tdiv_eq_ediv_of_nonneg (by decide)]; exact hX
    have hX0 : 0 ≤ X := by rw [← hX]; exact Int.ediv_nonneg (by decide) (by omega)
    have hX1 : X ≤ 1099511627776 := by rw [← hX]; exact Int.ediv_le_self _ (by decide)
    have d3 : (R == 0) = false := by simp; omega
    have HI2 : Hid (inB round 0 X = false) := hide (by unfold inB; rw [Bool.and_eq_false_iff]; simp; omega)
    clear h
    go_enter Tryd.func36, Tryd.ntmps36
    go_wp2_with fail
    refine (in_is _ _ _ true HIN.out _).mono ?_
    rintro e w2 ⟨rfl, rfl⟩
    go_wp2_with fail
    refine (in_is _ _ _ false HI2.out _).mono ?_
    rintro e w2 ⟨rfl, rfl⟩
    go_wp2_with fail
    exact bodyPost_ret (gr_results _ _ (w.heap.size + 1 + 1) _ _ _ rfl rfl HB.out) rfl (GrPost.mk hB0.out)
set_option maxRecDepth 100000 in
set_option maxHeartbeats 4000000 in
theorem gr_fine (round : Int) (k : Nat) (x : Sl) (sl : List Sl) (w : World) (hk : k < len) (hm : len ≤ 9223372036854775807) (hx : sl[k]? = some x) (hS : SlotsAt w A len sl) (h0 : 0 ≤ round) (h1 : 1 ≤ R) (h2 : round ≤ 1099511627776 / R) :
    Calls Tryd.prog 36 #[.agg (planC nd fa sk ji dr R (.slice A len c) L fr Q), clk f s n d, .int .i64 round, .int .i64 k] w (GrPost w (opA f s n d R round x) (opB f s n d R round x) (opE f s n d R round x)) := by
  obtain ⟨b, off, rfl, y, hy, c0, c1, c2⟩ := hS k hk
  rw [hx] at hy; cases hy
  have hbl := World.block_lt_of_cell? _ _ c1
  have q : (0 : Int) ≤ (k : Int) := by omega
  have q3 : (k : Int) < (len : Int) := by omega
  have HIN : Hid (inB (k : Int) 0 ((len : Int) - 1) = true) := hide (by unfold inB; simp; omega)
  have d1 : decide (R < 1) = false := decide_eq_false (by omega)
  obtain ⟨X, hX⟩ : ∃ X, (1099511627776 : Int) / R = X := ⟨_, rfl⟩
  have hX2 : (1099511627776 : Int).tdiv R = X := by rw [Int.tdiv_eq_ediv_of_nonneg (by decide)]; exact hX
  have hX0 : 0 ≤ X := by rw [← hX]; exact Int.ediv_nonneg (by decide) (by omega)
  have hX1 : X ≤ 1099511627776 := by rw [← hX]; exact Int.ediv_le_self _ (by decide)
  have HI2 : Hid (inB round 0 X = true) := hide (by unfold inB; simp; omega)
  have d3 : (R == 0) = false := by simp; omega
  obtain ⟨T, hT⟩ : ∃ T, round * R = T := ⟨_, rfl⟩
  have hT0 : 0 ≤ T := by rw [← hT]; exact Int.mul_nonneg h0 (by omega)
  have hT1 : T ≤ 1099511627776 := by
    rw [← hT]
    exact Int.le_trans (Int.mul_le_mul_of_nonneg_right h2 (by omega)) (Int.ediv_mul_le _ (by omega))
  have hE : Hid (opE f s n d R round x = if edE f s n d T x.f ≠ 0 then edE f s n d T x.f else edE f s n d T x.t) := hide (by unfold opE; rw [if_neg (by omega), hT])
  have hA : Hid (opA f s n d R round x = if opE f s n d R round x = 0 then realN f s n d (addN T x.f) else 0) := hide (by unfold opA; rw [hT])
  have hBb : Hid (opB f s n d R round x = if opE f s n d R round x = 0 then realN f s n d (addN T x.t) else 0) := hide (by unfold opB; rw [hT])
  generalize opE f s n d R round x = E at *
  generalize opA f s n d R round x = a at *
  generalize opB f s n d R round x = bb at *
  generalize x.f = xf at *
  generalize x.t = xt at *
  obtain ⟨i0, hi, hz0, hz1, hz2⟩ := info_parts int_info
  clear h2 hX c0 hx hS
  go_enter Tryd.func36, Tryd.ntmps36
  go_wp2_with fail
  refine (in_is _ _ _ true HIN.out _).mono ?_
  rintro e w2 ⟨rfl, rfl⟩
  go_wp2_with fail
  refine (in_is _ _ _ true HI2.out _).mono ?_
  rintro e w2 ⟨rfl, rfl⟩
  go_wp2_with fail
  generalize hW : (World.alloc _ _) = W
  obtain ⟨hg, hc, hr, hB, c1, c2⟩ : Blk W w.heap.size 78 (planC nd fa sk ji dr R (.slice (some ⟨b, off, none⟩) len c) L fr Q) ∧ Blk W (w.heap.size + 1) 26 #[.int .i64 f, .int .i64 s, .int .i64 n, .int .i64 d] ∧ Blk W (w.heap.size + 1 + 1) 81 #[.int .i64 0, .int .i64 0] ∧ Below w.heap.size w W ∧ W.cell? ⟨b, off + k * 3 + 1, none⟩ = some (.int .i64 xf) ∧ W.cell? ⟨b, off + k * 3 + 2, none⟩ = some (.int .i64 xt) := by
    subst hW
    have hB : Below w.heap.size w (((w.alloc (.cells (planC nd fa sk ji dr R (.slice (some ⟨b, off, none⟩) len c) L fr Q) 78)).alloc (.cells #[.int .i64 f, .int .i64 s, .int .i64 n, .int .i64 d] 26)).alloc (.cells #[.int .i64 0, .int .i64 0] 81)) := (((Below.refl _ _).alloc (Nat.le_refl _) _).alloc (by simp) _).alloc (by simp; omega) _
    exact ⟨((Blk.new w _ _).alloc _).alloc _, (by simpa using Blk.new (w.alloc _) _ _ : Blk _ (w.heap.size + 1) _ _).alloc _, by simpa using Blk.new ((w.alloc _).alloc _) 81 #[.int .i64 0, .int .i64 0], hB, (hB.cell (p := ⟨b, off + k * 3 + 1, none⟩) hbl).trans c1, (hB.cell (p := ⟨b, off + k * 3 + 2, none⟩) hbl).trans c2⟩
  clear hW
  have HG := hide hg; have HC := hide hc; have HR := hide hr; have HB := hide hB
  obtain ⟨i0', i1, i2, i3, i4, i5, i6, i7, i8, i9⟩ := hg.cells10
  have hsz := hB.size
  have hWb := hr.lt
  clear hg hc hr hB
  go_region
  go_wp2_with fail
  generalize hW : (World.drew _) = W2
  obtain ⟨hg, hc, hr, hl, hB, hsz2⟩ : Blk W2 w.heap.size 78 (planC nd fa sk ji dr R (.slice (some ⟨b, off, none⟩) len c) L fr Q) ∧ Blk W2 (w.heap.size + 1) 26 #[.int .i64 f, .int .i64 s, .int .i64 n, .int .i64 d] ∧ Blk W2 (w.heap.size + 1 + 1) 81 #[.int .i64 0, .int .i64 0] ∧ Blk W2 W.heap.size 3 #[.int .i64 xf, .int .i64 xt] ∧ Below w.heap.size w W2 ∧ W2.heap.size = W.heap.size + 1 := by
    subst hW
    exact ⟨(HG.out.alloc _).drew, (HC.out.alloc _).drew, (HR.out.alloc _).drew, (Blk.new W _ _).drew, below_drewN (HB.out.alloc hsz _) 1, by simp⟩
  clear hW HG HC HR HB i0' i1 i2 i3 i4 i5 i6 i7 i8 i9 c1 c2
  have HG := hide hg; have HC := hide hc; have HR := hide hr; have HL := hide hl; have HB := hide hB
  obtain ⟨i0', i1, i2, i3, i4, i5, i6, i7, i8, i9⟩ := hg.cells10
  obtain ⟨k0, k1, k2, k3⟩ := hc.cells4
  obtain ⟨j0, j1, _, _⟩ := hl.cells2
  obtain ⟨r0, r1, rz0, rz1⟩ := hr.cells2
  clear hg hc hr hl hB
  have HS2 := hide hsz2; clear hsz2
  refine wp_loop_rounds 3 ?_
  rw [rounds_succ]
  go_wp2_with fail
  refine (radd_any T xf _).mono ?_
  rintro e w2 ⟨rfl, rfl⟩
  obtain ⟨e1, he1⟩ : ∃ e1, e1 = addE T xf := ⟨_, rfl⟩
  obtain ⟨m1, hm1⟩ : ∃ m1, m1 = addN T xf := ⟨_, rfl⟩
  rw [← he1, ← hm1]
  have HE1 := hide he1; have HM1 := hide hm1; clear he1 hm1
  by_cases z1 : e1 = 0
  · have q4 : (e1 != 0) = false := by simp [z1]
    have Z1 := hide z1; clear z1
    go_wp2_with fail
    refine (rreal_any f s n d m1 _).mono ?_
    rintro e w2 ⟨rfl, hB⟩
    obtain ⟨e2, he2⟩ : ∃ e2, e2 = realE f s n d m1 := ⟨_, rfl⟩
    obtain ⟨t1, ht1⟩ : ∃ t1, t1 = realN f s n d m1 := ⟨_, rfl⟩
    rw [← he2, ← ht1]
    have HE2 := hide he2; have HT1 := hide ht1; clear he2 ht1
    have hg := HG.out.below hB HG.out.lt; have hc := HC.out.below hB HC.out.lt; have hr := HR.out.below hB HR.out.lt; have hl := HL.out.below hB HL.out.lt
    have hB2 := HB.out.trans (hB.mono HB.out.size)
    have hz2b := hB.size
    rw [HS2.out] at hz2b
    clear HG HR HC HL HB hB i0' i1 i2 i3 i4 i5 i6 i7 i8 i9 j0 j1 k0 k1 k2 k3 r0 r1 rz0 rz1
    have HG := hide hg; have HR := hide hr; have HC := hide hc; have HL := hide hl; have HB := hide hB2
    obtain ⟨i0', i1, i2, i3, i4, i5, i6, i7, i8, i9⟩ := hg.cells10
    obtain ⟨k0, k1, k2, k3⟩ := hc.cells4
    obtain ⟨j0, j1, _, _⟩ := hl.cells2
    obtain ⟨r0, r1, rz0, rz1⟩ := hr.cells2
    have hsz2 := hB2.size
    clear hg hr hc hl hB2
    by_cases z2 : e2 = 0
    · have q5 : (e2 != 0) = false := by simp [z2]
      have Z2 := hide z2; clear z2
      have hed : edE f s n d T xf = 0 := by rw [← Z2.out, HE2.out, HM1.out]; exact edE_real (by rw [← HE1.out]; exact Z1.out)
      have hE3 := hide (edE_last hE.out hed)
      clear hed
      have N2 := hide (Blk.new w2 3 #[.int .i64 t1]).cells1.1
      go_wp2_with (at_builtin; go_must (refine wpList_append_q _ rfl (.tmp 79) (.tmp 81) _ rfl (W.heap.size + 1) 3 i0 _ 8 Tryd.underlying124 hi hz0 hz1 hz2 rfl (.slice none 0 0) [] rfl (QAt.nil _ _ _ _) w2.heap.size 0 1 (.int .i64 t1) rfl (by exact N2.out) rfl (by simp [maxLen]) (by simp) (by simp; omega) ?_); intro g1 o1 cap1 w3 hQ hgr _ hg1 hlt1; have HQ3 := hide hQ; have HGR3 := hide hgr; clear hQ hgr)
      rw [rounds_succ]
      obtain ⟨hg, hc, hr, hl, hB⟩ : Blk w3 w.heap.size 78 (planC nd fa sk ji dr R (.slice (some ⟨b, off, none⟩) len c) L fr Q) ∧ Blk w3 (w.heap.size + 1) 26 #[.int .i64 f, .int .i64 s, .int .i64 n, .int .i64 d] ∧ Blk w3 (w.heap.size + 1 + 1) 81 #[.int .i64 0, .int .i64 0] ∧ Blk w3 W.heap.size 3 #[.int .i64 xf, .int .i64 xt] ∧ Below w.heap.size w w3 :=
        ⟨(HG.out.alloc _).grown HGR3.out (by simp [Value.ownBlock]), (HC.out.alloc _).grown HGR3.out (by simp [Value.ownBlock]), (HR.out.alloc _).grown HGR3.out (by simp [Value.ownBlock]), (HL.out.alloc _).grown HGR3.out (by simp [Value.ownBlock]), (HB.out.alloc hsz2 _).grown HGR3.out (by simp; omega) (fun j hj => by simp [Value.ownBlock] at hj)⟩
      clear HG HR HC HL HB HGR3 N2 i0' i1 i2 i3 i4 i5 i6 i7 i8 i9 j0 j1 k0 k1 k2 k3 r0 r1 rz0 rz1 q4 q5
      have HG := hide hg; have HR := hide hr; have HC := hide hc; have HL := hide hl; have HB := hide hB
      obtain ⟨i0', i1, i2, i3, i4, i5, i6, i7, i8, i9⟩ := hg.cells10
      obtain ⟨k0, k1, k2, k3⟩ := hc.cells4
      obtain ⟨j0, j1, _, _⟩ := hl.cells2
      obtain ⟨r0, r1, rz0, rz1⟩ := hr.cells2
      have hsz3 := hB.size
      have hw3 : W.heap.size < w3.heap.size := hl.lt
      clear hg hr hc hl hB
      go_wp2_with fail
      refine (radd_any T xt _).mono ?_
      rintro e w4 ⟨rfl, rfl⟩
      obtain ⟨e3, he3⟩ : ∃ e3, e3 = addE T xt := ⟨_, rfl⟩
      obtain ⟨m3, hm3⟩ : ∃ m3, m3 = addN T xt := ⟨_, rfl⟩
      rw [← he3, ← hm3]
      have HE3 := hide he3; have HM3 := hide hm3; clear he3 hm3
      by_cases z3 : e3 = 0
      · have q4 : (e3 != 0) = false := by simp [z3]
        have Z3 := hide z3; clear z3
        go_wp2_with fail
        refine (rreal_any f s n d m3 _).mono ?_
        rintro e w5 ⟨rfl, hB⟩
        obtain ⟨e4, he4⟩ : ∃ e4, e4 = realE f s n d m3 := ⟨_, rfl⟩
        obtain ⟨t3, ht3⟩ : ∃ t3, t3 = realN f s n d m3 := ⟨_, rfl⟩
        rw [← he4, ← ht3]
        have HE4 := hide he4; have HT3 := hide ht3; clear he4 ht3
        have hg := HG.out.below hB HG.out.lt; have hc := HC.out.below hB HC.out.lt; have hr := HR.out.below hB HR.out.lt; have hl := HL.out.below hB HL.out.lt
        have hB2 := HB.out.trans (hB.mono HB.out.size)
        have HQ5 := hide (HQ3.out.below hB (Nat.le_refl _))
        have hz5 : W.heap.size < w5.heap.size := hl.lt
        have hg5 : g1 < w5.heap.size := Nat.lt_of_lt_of_le hlt1 hB.size
        clear HG HR HC HL HB HQ3 hB i0' i1 i2 i3 i4 i5 i6 i7 i8 i9 j0 j1 k0 k1 k2 k3 r0 r1 rz0 rz1
        have HG := hide hg; have HR := hide hr; have HL := hide hl; have HB := hide hB2
        obtain ⟨i0', i1, i2, i3, i4, i5, i6, i7, i8, i9⟩ := hg.cells10
        obtain ⟨j0, j1, _, _⟩ := hl.cells2
        obtain ⟨r0, r1, rz0, rz1⟩ := hr.cells2
        have hsz5 := hB2.size
        clear hg hr hc hl hB2
        have hed : edE f s n d T xt = e4 := by rw [HE4.out, HM3.out]; exact edE_real (by rw [← HE3.out]; exact Z3.out)
        have hE0 := hide (show E = e4 by rw [← hed]; exact hE3.out)
        clear hed
        by_cases z4 : e4 = 0
        · have q5 : (e4 != 0) = false := by simp [z4]
          have hA0 := hide (show a = t1 by rw [hA.out, hE0.out, if_pos z4, HT1.out, HM1.out])
          have hB0 := hide (show bb = t3 by rw [hBb.out, hE0.out, if_pos z4, HT3.out, HM3.out])
          have Z4 := hide z4; clear z4
          have N2 := hide (Blk.new w5 3 #[.int .i64 t3]).cells1.1
          go_wp2_with (at_builtin; go_must (refine wpList_append_q _ rfl (.tmp 79) (.tmp 81) _ rfl (W.heap.size + 1) 3 i0 _ 8 Tryd.underlying124 hi hz0 hz1 hz2 rfl (.slice (some ⟨g1, o1, none⟩) 1 cap1) [.int .i64 t1] rfl (by exact HQ5.out.alloc _) w5.heap.size 0 1 (.int .i64 t3) rfl (by exact N2.out) rfl (by simp [maxLen]) (by simp) (by simp; omega) ?_); intro g2 o2 cap2 w6 hQ hgr _ hg2 hlt2; have HQ6 := hide hQ; have HGR6 := hide hgr; clear hQ hgr)
          rw [rounds_succ]
          obtain ⟨hr, hl, hB⟩ : Blk w6 (w.heap.size + 1 + 1) 81 #[.int .i64 0, .int .i64 0] ∧ Blk w6 W.heap.size 3 #[.int .i64 xf, .int .i64 xt] ∧ Below w.heap.size w w6 :=
            ⟨(HR.out.alloc _).grown HGR6.out (by simp [Value.ownBlock]; omega), (HL.out.alloc _).grown HGR6.out (by simp [Value.ownBlock]; omega), (HB.out.alloc hsz5 _).grown HGR6.out (by simp; omega) (fun j hj => by simp [Value.ownBlock] at hj; omega)⟩
          obtain ⟨g3, o3, e3', hb3, hlt3, hq⟩ := HQ6.out.block (by simp)
          cases e3'
          have p0 : w6.cell? ⟨g2, o2, none⟩ = some (.int .i64 t1) := by simpa using hq 0 (by simp)
          have p1 : w6.cell? ⟨g2, o2 + 1, none⟩ = some (.int .i64 t3) := by simpa using hq 1 (by simp)
          have HR := hide hr; have HB := hide hB
          obtain ⟨r0, r1, rz0, rz1⟩ := hr.cells2
          clear hr hl hB HG HL HQ5 HQ6 HGR6 N2 i0' i1 i2 i3 i4 i5 i6 i7 i8 i9 j0 j1 hq
          go_wp2_with fail
          go_region
          go_wp2_with fail
          exact bodyPost_ret (gr_results _ _ (w.heap.size + 1 + 1) _ _ _ rfl rfl ((HR.out.set_ 0 _).set_ 1 _).drew) rfl (by rw [hA0.out, hB0.out, hE0.out, Z4.out]; exact GrPost.mk (below_drewN ((HB.out.setCell (by exact Nat.le_add_right _ 2) _).setCell (by exact Nat.le_add_right _ 2) _) 1))
        · have q5 : (e4 != 0) = true := by simp [z4]
          have hA0 := hide (show a = 0 by rw [hA.out, hE0.out, if_neg z4])
          have hB0 := hide (show bb = 0 by rw [hBb.out, hE0.out, if_neg z4])
          have Z4 := hide z4; clear z4
          go_wp2_with fail
          exact bodyPost_ret (gr_results _ _ (w.heap.size + 1 + 1) _ _ _ rfl rfl ((HR.out.set_ 0 _).set_ 1 _)) rfl (by rw [hA0.out, hB0.out, hE0.out]; exact GrPost.mk ((HB.out.setCell (by exact Nat.le_add_right _ 2) _).setCell (by exact Nat.le_add_right _ 2) _))
      · have q4 : (e3 != 0) = true := by simp [z3]
        have hed : edE f s n d T xt = e3 := by rw [HE3.out]; exact edE_add (by rw [← HE3.out]; exact z3)
        have hE0 := hide (show E = e3 by rw [← hed]; exact hE3.out)
        have hA0 := hide (show a = 0 by rw [hA.out, hE0.out, if_neg z3])
        have hB0 := hide (show bb = 0 by rw [hBb.out, hE0.out, if_neg z3])
        have Z3 := hide z3; clear z3 hed
        go_wp2_with fail
        exact bodyPost_ret (gr_results _ _ (w.heap.size + 1 + 1) _ _ _ rfl rfl ((HR.out.set_ 0 _).set_ 1 _)) rfl (by rw [hA0.out, hB0.out, hE0.out]; exact GrPost.mk ((HB.out.setCell (by exact Nat.le_add_right _ 2) _).setCell (by exact Nat.le_add_right _ 2) _))
    · have q5 : (e2 != 0) = true := by simp [z2]
      have hed : edE f s n d T xf = e2 := by rw [HE2.out, HM1.out]; exact edE_real (by rw [← HE1.out]; exact Z1.out)
      have hE0 := hide (show E = e2 by rw [← hed]; exact edE_first hE.out (by rw [hed]; exact z2))
      clear hed
      have hA0 := hide (show a = 0 by rw [hA.out, hE0.out, if_neg z2])
      have hB0 := hide (show bb = 0 by rw [hBb.out, hE0.out, if_neg z2])
      have Z2 := hide z2; clear z2
      go_wp2_with fail
      exact bodyPost_ret (gr_results _ _ (w.heap.size + 1 + 1) _ _ _ rfl rfl ((HR.out.set_ 0 _).set_ 1 _)) rfl (by rw [hA0.out, hB0.out, hE0.out]; exact GrPost.mk ((HB.out.setCell (by exact Nat.le_add_right _ 2) _).setCell (by exact Nat.le_add_right _ 2) _))
  · have q4 : (e1 != 0) = true := by simp [z1]
    have hed : edE f s n d T xf = e1 := by rw [HE1.out]; exact edE_add (by rw [← HE1.out]; exact z1)
    have hE0 := hide (show E = e1 by rw [← hed]; exact edE_first hE.out (by rw [hed]; exact z1))
    clear hed
    have hA0 := hide (show a = 0 by rw [hA.out, hE0.out, if_neg z1])
    have hB0 := hide (show bb = 0 by rw [hBb.out, hE0.out, if_neg z1])
    have Z1 := hide z1; clear z1
    go_wp2_with fail
    exact bodyPost_ret (gr_results _ _ (w.heap.size + 1 + 1) _ _ _ rfl rfl ((HR.out.set_ 0 _).set_ 1 _)) rfl (by rw [hA0.out, hB0.out, hE0.out]; exact GrPost.mk ((HB.out.setCell (by exact Nat.le_add_right _ 2) _).setCell (by exact Nat.le_add_right _ 2) _))
end
end Go.Proofs.YtgdljdhibknjnabDoor
