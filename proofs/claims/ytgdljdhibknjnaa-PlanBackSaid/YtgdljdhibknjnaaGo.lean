/- The contract of guard's Opens; condition: the slots lie in memory. -/
import Derived.Test.YtgdljdhibknjnaaGp
import Derived.Test.YtgdljdhibknjnaaSl
namespace Go.Proofs.Ytgdljdhibknjnaa
open Go.RowKit

/-- A plan's cells. -/
abbrev planC (nd fa sk ji dr R : Int) (S L : Value) (fr : Int) (Q : Value) : Array Value := #[.int .i64 nd, .int .i64 fa, .int .i64 sk, .int .i64 ji, .int .i64 dr, .int .i64 R, S, L, .int .i64 fr, Q]
/-- A guard's cells. -/
abbrev gdC (nd fa sk ji dr R : Int) (S L : Value) (fr : Int) (Q : Value) (f s n d id : Int) : Array Value := #[.int .i64 nd, .int .i64 fa, .int .i64 sk, .int .i64 ji, .int .i64 dr, .int .i64 R, S, L, .int .i64 fr, Q, .int .i64 f, .int .i64 s, .int .i64 n, .int .i64 d, .int .i64 id]
theorem Blk.cells15 {w : World} {g : Nat} {t : TypeId} {a0 a1 a2 a3 a4 a5 a6 a7 a8 a9 b0 b1 b2 b3 b4 : Value} (h : Blk w g t #[a0, a1, a2, a3, a4, a5, a6, a7, a8, a9, b0, b1, b2, b3, b4]) :
    w.cell? ⟨g, 0, none⟩ = some a0 ∧ w.cell? ⟨g, 1, none⟩ = some a1 ∧ w.cell? ⟨g, 2, none⟩ = some a2 ∧ w.cell? ⟨g, 3, none⟩ = some a3 ∧ w.cell? ⟨g, 4, none⟩ = some a4 ∧ w.cell? ⟨g, 5, none⟩ = some a5 ∧ w.cell? ⟨g, 6, none⟩ = some a6 ∧ w.cell? ⟨g, 7, none⟩ = some a7 ∧
    w.cell? ⟨g, 8, none⟩ = some a8 ∧ w.cell? ⟨g, 9, none⟩ = some a9 ∧ w.cell? ⟨g, 10, none⟩ = some b0 ∧ w.cell? ⟨g, 11, none⟩ = some b1 ∧ w.cell? ⟨g, 12, none⟩ = some b2 ∧ w.cell? ⟨g, 13, none⟩ = some b3 ∧ w.cell? ⟨g, 14, none⟩ = some b4 :=
  ⟨by simpa using h.cell 0, by simpa using h.cell 1, by simpa using h.cell 2, by simpa using h.cell 3, by simpa using h.cell 4, by simpa using h.cell 5, by simpa using h.cell 6, by simpa using h.cell 7, by simpa using h.cell 8, by simpa using h.cell 9, by simpa using h.cell 10, by simpa using h.cell 11, by simpa using h.cell 12, by simpa using h.cell 13, by simpa using h.cell 14⟩

theorem edE_add {f s n d rr x : Int} (h : addE rr x ≠ 0) : edE f s n d rr x = addE rr x := by unfold edE; rw [if_pos h]
theorem edE_real {f s n d rr x : Int} (h : addE rr x = 0) : edE f s n d rr x = realE f s n d (addN rr x) := by unfold edE; rw [if_neg (fun g => g h)]
theorem edE_first {E a b : Int} (h : E = if a ≠ 0 then a else b) (ha : a ≠ 0) : E = a := by rw [h, if_pos ha]
theorem edE_last {E a b : Int} (h : E = if a ≠ 0 then a else b) (ha : a = 0) : E = b := by rw [h, if_neg (fun g => g ha)]
/-- What Opens answers. -/
def GoPost (w : World) (a b e : Int) (r : Ending) (w' : World) : Prop := r = .returned (.tuple #[spanV a b, errV e]) ∧ Below w.heap.size w w'
theorem GoPost.mk {w w' : World} {a b e : Int} {u : Value} (hu : u = errV e) (hB : Below w.heap.size w w') : GoPost w a b e (.returned (.tuple #[spanV a b, u])) w' := ⟨by rw [hu], hB⟩
theorem go_results (tmps : Array Value) (w : World) (g : Nat) (a b v : Value) (h2 : tmps[6]? = some (.pointer (some ⟨g, 0, none⟩))) (h3 : tmps[7]? = some v) (hb : Blk w g 88 #[a, b]) :
    (results Try.f59 tmps).run Try.prog w = .ok (.tuple #[.agg #[a, b], v]) w := by
  obtain ⟨k0, k1, _⟩ := hb.cells2
  simp [results, Try.results59, go_sem, h2, h3, k0, k1]

section
variable (nd fa sk ji dr R : Int) (A : Option Addr) (len c : Nat) (L : Value) (fr : Int) (Q : Value) (f s n d id : Int)
set_option maxRecDepth 100000 in
set_option maxHeartbeats 2000000 in
theorem go_none (round slot : Int) (w : World) (h : slot < 0 ∨ (len : Int) ≤ slot) :
    Calls Try.prog 59 #[.agg (gdC nd fa sk ji dr R (.slice A len c) L fr Q f s n d id), .int .i64 round, .int .i64 slot] w (GoPost w 0 0 7) := by
  have hb := (Blk.new (w.alloc (.cells (gdC nd fa sk ji dr R (.slice A len c) L fr Q f s n d id) 95)) 88 #[.int .i64 0, .int .i64 0])
  simp only [World.size_alloc] at hb
  have HB := hide hb; clear hb
  have hB0 := hide (((Below.refl w.heap.size w).alloc (Nat.le_refl _) (.cells (gdC nd fa sk ji dr R (.slice A len c) L fr Q f s n d id) 95)).alloc (by simp) (.cells #[.int .i64 0, .int .i64 0] 88))
  rcases h with h | h
  · have q : decide (slot < 0) = true := decide_eq_true h
    clear h
    go_enter Try.func59, Try.ntmps59
    go_wp2_with fail
    exact bodyPost_ret (go_results _ _ (w.heap.size + 1) _ _ _ rfl rfl HB.out) rfl (GoPost.mk rfl hB0.out)
  · by_cases h0 : slot < 0
    · have q : decide (slot < 0) = true := decide_eq_true h0
      clear h0 h
      go_enter Try.func59, Try.ntmps59
      go_wp2_with fail
      exact bodyPost_ret (go_results _ _ (w.heap.size + 1) _ _ _ rfl rfl HB.out) rfl (GoPost.mk rfl hB0.out)
    · have q : decide (slot < 0) = false := decide_eq_false h0
      have q2 : decide ((len : Int) ≤ slot) = true := decide_eq_true h
      clear h0 h
      go_enter Try.func59, Try.ntmps59
      go_wp2_with fail
      exact bodyPost_ret (go_results _ _ (w.heap.size + 1) _ _ _ rfl rfl HB.out) rfl (GoPost.mk rfl hB0.out)
set_option maxRecDepth 100000 in
set_option maxHeartbeats 2000000 in
theorem go_late (round : Int) (k : Nat) (w : World) (hk : k < len) (_hm : len ≤ 9223372036854775807) (h : round < 0 ∨ R < 1 ∨ 1099511627776 / R < round) :
    Calls Try.prog 59 #[.agg (gdC nd fa sk ji dr R (.slice A len c) L fr Q f s n d id), .int .i64 round, .int .i64 k] w (GoPost w 0 0 2) := by
  have hb := (Blk.new (w.alloc (.cells (gdC nd fa sk ji dr R (.slice A len c) L fr Q f s n d id) 95)) 88 #[.int .i64 0, .int .i64 0])
  simp only [World.size_alloc] at hb
  have HB := hide hb; clear hb
  have hB0 := hide (((Below.refl w.heap.size w).alloc (Nat.le_refl _) (.cells (gdC nd fa sk ji dr R (.slice A len c) L fr Q f s n d id) 95)).alloc (by simp) (.cells #[.int .i64 0, .int .i64 0] 88))
  have q : decide ((k : Int) < 0) = false := decide_eq_false (by omega)
  have q2 : decide ((len : Int) ≤ (k : Int)) = false := decide_eq_false (by omega)
  by_cases h0 : round < 0
  · have d0 : decide (round < 0) = true := decide_eq_true h0
    clear h0 h
    go_enter Try.func59, Try.ntmps59
    go_wp2_with fail
    exact bodyPost_ret (go_results _ _ (w.heap.size + 1) _ _ _ rfl rfl HB.out) rfl (GoPost.mk rfl hB0.out)
  · have d0 : decide (round < 0) = false := decide_eq_false h0
    by_cases h1 : R < 1
    · have d1 : decide (R < 1) = true := decide_eq_true h1
      clear h0 h1 h
      go_enter Try.func59, Try.ntmps59
      go_wp2_with fail
      exact bodyPost_ret (go_results _ _ (w.heap.size + 1) _ _ _ rfl rfl HB.out) rfl (GoPost.mk rfl hB0.out)
    · have d1 : decide (R < 1) = false := decide_eq_false h1
      have h2 : 1099511627776 / R < round := by omega
      obtain ⟨X, hX⟩ : ∃ X, (1099511627776 : Int) / R = X := ⟨_, rfl⟩
      have hX2 : (1099511627776 : Int).tdiv R = X := by rw [Int.tdiv_eq_ediv_of_nonneg (by decide)]; exact hX
      have hX0 : 0 ≤ X := by rw [← hX]; exact Int.ediv_nonneg (by decide) (by omega)
      have hX1 : X ≤ 1099511627776 := by rw [← hX]; exact Int.ediv_le_self _ (by decide)
      have d2 : decide (X < round) = true := decide_eq_true (by omega)
      have d3 : (R == 0) = false := by simp; omega
      clear h0 h h2
      go_enter Try.func59, Try.ntmps59
      go_wp2_with fail
      exact bodyPost_ret (go_results _ _ (w.heap.size + 1) _ _ _ rfl rfl HB.out) rfl (GoPost.mk rfl hB0.out)
set_option maxRecDepth 100000 in
set_option maxHeartbeats 4000000 in
theorem go_fine (round : Int) (k : Nat) (x : Sl) (sl : List Sl) (w : World) (hk : k < len) (_hm : len ≤ 9223372036854775807) (hx : sl[k]? = some x) (hS : SlotsAt w A len sl) (h0 : 0 ≤ round) (h1 : 1 ≤ R) (h2 : round ≤ 1099511627776 / R) :
    Calls Try.prog 59 #[.agg (gdC nd fa sk ji dr R (.slice A len c) L fr Q f s n d id), .int .i64 round, .int .i64 k] w (GoPost w (opA f s n d R round x) (opB f s n d R round x) (opE f s n d R round x)) := by
  obtain ⟨b, off, rfl, y, hy, c0, c1, c2⟩ := hS k hk
  rw [hx] at hy; cases hy
  have hbl := World.block_lt_of_cell? _ _ c1
  have q : decide ((k : Int) < 0) = false := decide_eq_false (by omega)
  have q2 : decide ((len : Int) ≤ (k : Int)) = false := decide_eq_false (by omega)
  have q3 : decide ((k : Int) < (len : Int)) = true := decide_eq_true (by omega)
  have d0 : decide (round < 0) = false := decide_eq_false (by omega)
  have d1 : decide (R < 1) = false := decide_eq_false (by omega)
  obtain ⟨X, hX⟩ : ∃ X, (1099511627776 : Int) / R = X := ⟨_, rfl⟩
  have hX2 : (1099511627776 : Int).tdiv R = X := by rw [Int.tdiv_eq_ediv_of_nonneg (by decide)]; exact hX
  have hX0 : 0 ≤ X := by rw [← hX]; exact Int.ediv_nonneg (by decide) (by omega)
  have hX1 : X ≤ 1099511627776 := by rw [← hX]; exact Int.ediv_le_self _ (by decide)
  have d2 : decide (X < round) = false := decide_eq_false (by omega)
  have d3 : (R == 0) = false := by simp; omega
  obtain ⟨T, hT⟩ : ∃ T, round * R = T := ⟨_, rfl⟩
  have hT0 : 0 ≤ T := by rw [← hT]; exact Int.mul_nonneg h0 (by omega)
  have hT1 : T ≤ 1099511627776 := by
    rw [← hT]
    exact Int.le_trans (Int.mul_le_mul_of_nonneg_right h2 (by omega)) (Int.ediv_mul_le _ (by omega))
  have hE : Hid (opE f s n d R round x = if edE f s n d T x.f ≠ 0 then edE f s n d T x.f else edE f s n d T x.t) := hide (by unfold opE; rw [if_neg (by omega), hT])
  have hA : Hid (opA f s n d R round x = if opE f s n d R round x = 0 then realN f s n d (addN T x.f) else 0) := hide (by unfold opA; rw [hT])
  have hBb : Hid (opB f s n d R round x = if opE f s n d R round x = 0 then realN f s n d (addN T x.t) else 0) := hide (by unfold opB; rw [hT])
  generalize opE f s n d R round x = E at *
  generalize opA f s n d R round x = a at *
  generalize opB f s n d R round x = bb at *
  generalize x.f = xf at *
  generalize x.t = xt at *
  clear h2 hX c0 hx hS
  go_enter Try.func59, Try.ntmps59
  go_wp2_with fail
  generalize hW : (World.alloc _ _) = W
  obtain ⟨hg, hr, ho, hl, hB⟩ : Blk W w.heap.size 95 (gdC nd fa sk ji dr R (.slice (some ⟨b, off, none⟩) len c) L fr Q f s n d id) ∧ Blk W (w.heap.size + 1) 88 #[.int .i64 0, .int .i64 0] ∧ Blk W (w.heap.size + 1 + 1 + 1) 73 #[.int .i64 0, .int .i64 0] ∧ Blk W (w.heap.size + 1 + 1 + 1 + 1) 3 #[.int .i64 xf, .int .i64 xt] ∧ Below w.heap.size w W := by
    subst hW
    refine ⟨((((Blk.new w _ _).alloc _).alloc _).alloc _).alloc _, (((by simpa using Blk.new (w.alloc _) _ _ : Blk _ (w.heap.size + 1) _ _).alloc _).alloc _).alloc _, (by simpa using Blk.new (((w.alloc _).alloc _).alloc _) _ _ : Blk _ (w.heap.size + 1 + 1 + 1) _ _).alloc _, by simpa using Blk.new ((((w.alloc _).alloc _).alloc _).alloc _) 3 #[.int .i64 xf, .int .i64 xt], ?_⟩
    exact (((((Below.refl _ _).alloc (Nat.le_refl _) _).alloc (by simp) _).alloc (by simp; omega) _).alloc (by simp; omega) _).alloc (by simp; omega) _
  clear hW c1 c2
  have HG := hide hg; have HR := hide hr; have HO := hide ho; have HL := hide hl; have HB := hide hB
  obtain ⟨i0, i1, i2, i3, i4, i5, i6, i7, i8, i9, i10, i11, i12, i13, i14⟩ := hg.cells15
  obtain ⟨j0, j1, _, _⟩ := hl.cells2
  obtain ⟨o0, o1, oz0, oz1⟩ := ho.cells2
  obtain ⟨r0, r1, rz0, rz1⟩ := hr.cells2
  have hsz := hB.size
  clear hg hr ho hl hB
  refine wp_loop_rounds 3 ?_
  rw [rounds_succ]
  go_wp2_with fail
  refine (tadd_any T xf _).mono ?_
  rintro e w2 ⟨rfl, rfl⟩
  obtain ⟨e1, he1⟩ : ∃ e1, e1 = addE T xf := ⟨_, rfl⟩
  obtain ⟨m1, hm1⟩ : ∃ m1, m1 = addN T xf := ⟨_, rfl⟩
  rw [← he1, ← hm1]
  have HE1 := hide he1; have HM1 := hide hm1; clear he1 hm1
  by_cases z1 : e1 = 0
  · have q4 : (e1 != 0) = false := by simp [z1]
    have Z1 := hide z1; clear z1
    go_wp2_with fail
    refine (real_any f s n d m1 _).mono ?_
    rintro e w2 ⟨rfl, hB⟩
    obtain ⟨e2, he2⟩ : ∃ e2, e2 = realE f s n d m1 := ⟨_, rfl⟩
    obtain ⟨t1, ht1⟩ : ∃ t1, t1 = realN f s n d m1 := ⟨_, rfl⟩
    rw [← he2, ← ht1]
    have HE2 := hide he2; have HT1 := hide ht1; clear he2 ht1
    have hg := HG.out.below hB HG.out.lt; have hr := HR.out.below hB HR.out.lt; have ho := HO.out.below hB HO.out.lt; have hl := HL.out.below hB HL.out.lt
    have hB2 := HB.out.trans (hB.mono HB.out.size)
    clear HG HR HO HL HB hB i0 i1 i2 i3 i4 i5 i6 i7 i8 i9 i10 i11 i12 i13 i14 j0 j1 o0 o1 oz0 oz1 r0 r1 rz0 rz1
    have HG := hide hg; have HR := hide hr; have HO := hide ho; have HL := hide hl; have HB := hide hB2
    obtain ⟨i0, i1, i2, i3, i4, i5, i6, i7, i8, i9, i10, i11, i12, i13, i14⟩ := hg.cells15
    obtain ⟨j0, j1, _, _⟩ := hl.cells2
    obtain ⟨o0, o1, oz0, oz1⟩ := ho.cells2
    obtain ⟨r0, r1, rz0, rz1⟩ := hr.cells2
    have hsz2 := hB2.size
    clear hg hr ho hl hB2
    by_cases z2 : e2 = 0
    · have q5 : (e2 != 0) = false := by simp [z2]
      have Z2 := hide z2; clear z2
      have hed : edE f s n d T xf = 0 := by rw [← Z2.out, HE2.out, HM1.out]; exact edE_real (by rw [← HE1.out]; exact Z1.out)
      have hE3 := hide (edE_last hE.out hed)
      clear hed
      go_wp2_with fail
      rw [rounds_succ]
      generalize hW : (World.setCell _ _ _) = W3
      obtain ⟨hg, hr, ho, hl, hB⟩ : Blk W3 w.heap.size 95 (gdC nd fa sk ji dr R (.slice (some ⟨b, off, none⟩) len c) L fr Q f s n d id) ∧ Blk W3 (w.heap.size + 1) 88 #[.int .i64 0, .int .i64 0] ∧ Blk W3 (w.heap.size + 1 + 1 + 1) 73 #[.int .i64 t1, .int .i64 0] ∧ Blk W3 (w.heap.size + 1 + 1 + 1 + 1) 3 #[.int .i64 xf, .int .i64 xt] ∧ Below w.heap.size w W3 := by
        subst hW
        exact ⟨HG.out.far (by simp; omega) _, HR.out.far (by simp) _, HO.out.set_ 0 _, HL.out.far (by simp) _, HB.out.setCell (by exact Nat.le_add_right _ 3) _⟩
      clear hW HG HR HO HL HB i0 i1 i2 i3 i4 i5 i6 i7 i8 i9 i10 i11 i12 i13 i14 j0 j1 o0 o1 oz0 oz1 r0 r1 rz0 rz1 q4 q5
      have HG := hide hg; have HR := hide hr; have HO := hide ho; have HL := hide hl; have HB := hide hB
      obtain ⟨i0, i1, i2, i3, i4, i5, i6, i7, i8, i9, i10, i11, i12, i13, i14⟩ := hg.cells15
      obtain ⟨j0, j1, _, _⟩ := hl.cells2
      obtain ⟨o0, o1, oz0, oz1⟩ := ho.cells2
      obtain ⟨r0, r1, rz0, rz1⟩ := hr.cells2
      have hsz3 := hB.size
      clear hg hr ho hl hB
      go_wp2_with fail
      refine (tadd_any T xt _).mono ?_
      rintro e w4 ⟨rfl, rfl⟩
      obtain ⟨e3, he3⟩ : ∃ e3, e3 = addE T xt := ⟨_, rfl⟩
      obtain ⟨m3, hm3⟩ : ∃ m3, m3 = addN T xt := ⟨_, rfl⟩
      rw [← he3, ← hm3]
      have HE3 := hide he3; have HM3 := hide hm3; clear he3 hm3
      by_cases z3 : e3 = 0
      · have q4 : (e3 != 0) = false := by simp [z3]
        have Z3 := hide z3; clear z3
        go_wp2_with fail
        refine (real_any f s n d m3 _).mono ?_
        rintro e w5 ⟨rfl, hB⟩
        obtain ⟨e4, he4⟩ : ∃ e4, e4 = realE f s n d m3 := ⟨_, rfl⟩
        obtain ⟨t3, ht3⟩ : ∃ t3, t3 = realN f s n d m3 := ⟨_, rfl⟩
        rw [← he4, ← ht3]
        have HE4 := hide he4; have HT3 := hide ht3; clear he4 ht3
        have hg := HG.out.below hB HG.out.lt; have hr := HR.out.below hB HR.out.lt; have ho := HO.out.below hB HO.out.lt; have hl := HL.out.below hB HL.out.lt
        have hB2 := HB.out.trans (hB.mono HB.out.size)
        clear HG HR HO HL HB hB i0 i1 i2 i3 i4 i5 i6 i7 i8 i9 i10 i11 i12 i13 i14 j0 j1 o0 o1 oz0 oz1 r0 r1 rz0 rz1
        have HG := hide hg; have HR := hide hr; have HO := hide ho; have HL := hide hl; have HB := hide hB2
        obtain ⟨j0, j1, _, _⟩ := hl.cells2
        obtain ⟨o0, o1, oz0, oz1⟩ := ho.cells2
        obtain ⟨r0, r1, rz0, rz1⟩ := hr.cells2
        clear hg hr ho hl hB2
        have hR2 := HR.out.far (p := ⟨w.heap.size + 1 + 1 + 1, 1, none⟩) (by simp) (.int .i64 t3)
        have hB3 := HB.out.setCell (p := ⟨w.heap.size + 1 + 1 + 1, 1, none⟩) (by exact Nat.le_add_right _ 3) (.int .i64 t3)
        have HR2 := hide hR2; have HB3 := hide hB3; clear hR2 hB3
        have hed : edE f s n d T xt = e4 := by rw [HE4.out, HM3.out]; exact edE_real (by rw [← HE3.out]; exact Z3.out)
        have hE0 := hide (show E = e4 by rw [← hed]; exact hE3.out)
        clear hed
        by_cases z4 : e4 = 0
        · have q5 : (e4 != 0) = false := by simp [z4]
          have hA0 := hide (show a = t1 by rw [hA.out, hE0.out, if_pos z4, HT1.out, HM1.out])
          have hB0 := hide (show bb = t3 by rw [hBb.out, hE0.out, if_pos z4, HT3.out, HM3.out])
          have Z4 := hide z4; clear z4
          go_wp2_with fail
          rw [rounds_succ]
          go_wp2_with fail
          exact bodyPost_ret (go_results _ _ (w.heap.size + 1) _ _ _ rfl rfl ((HR2.out.set_ 0 _).set_ 1 _)) rfl (by rw [hA0.out, hB0.out, hE0.out, Z4.out]; exact GoPost.mk rfl ((HB3.out.setCell (by exact Nat.le_succ _) _).setCell (by exact Nat.le_succ _) _))
        · have q5 : (e4 != 0) = true := by simp [z4]
          have hA0 := hide (show a = 0 by rw [hA.out, hE0.out, if_neg z4])
          have hB0 := hide (show bb = 0 by rw [hBb.out, hE0.out, if_neg z4])
          have Z4 := hide z4; clear z4
          go_wp2_with fail
          exact bodyPost_ret (go_results _ _ (w.heap.size + 1) _ _ _ rfl rfl ((HR2.out.set_ 0 _).set_ 1 _)) rfl (by rw [hA0.out, hB0.out, hE0.out]; exact GoPost.mk rfl ((HB3.out.setCell (by exact Nat.le_succ _) _).setCell (by exact Nat.le_succ _) _))
      · have q4 : (e3 != 0) = true := by simp [z3]
        have hed : edE f s n d T xt = e3 := by rw [HE3.out]; exact edE_add (by rw [← HE3.out]; exact z3)
        have hE0 := hide (show E = e3 by rw [← hed]; exact hE3.out)
        have hA0 := hide (show a = 0 by rw [hA.out, hE0.out, if_neg z3])
        have hB0 := hide (show bb = 0 by rw [hBb.out, hE0.out, if_neg z3])
        have Z3 := hide z3; clear z3 hed
        go_wp2_with fail
        exact bodyPost_ret (go_results _ _ (w.heap.size + 1) _ _ _ rfl rfl ((HR.out.set_ 0 _).set_ 1 _)) rfl (by rw [hA0.out, hB0.out, hE0.out]; exact GoPost.mk rfl ((HB.out.setCell (by exact Nat.le_succ _) _).setCell (by exact Nat.le_succ _) _))
    · have q5 : (e2 != 0) = true := by simp [z2]
      have hed : edE f s n d T xf = e2 := by rw [HE2.out, HM1.out]; exact edE_real (by rw [← HE1.out]; exact Z1.out)
      have hE0 := hide (show E = e2 by rw [← hed]; exact edE_first hE.out (by rw [hed]; exact z2))
      clear hed
      have hA0 := hide (show a = 0 by rw [hA.out, hE0.out, if_neg z2])
      have hB0 := hide (show bb = 0 by rw [hBb.out, hE0.out, if_neg z2])
      have Z2 := hide z2; clear z2
      go_wp2_with fail
      have hR2 := HR.out.far (p := ⟨w.heap.size + 1 + 1 + 1, 0, none⟩) (by simp) (.int .i64 t1)
      exact bodyPost_ret (go_results _ _ (w.heap.size + 1) _ _ _ rfl rfl ((hR2.set_ 0 _).set_ 1 _)) rfl (by rw [hA0.out, hB0.out, hE0.out]; exact GoPost.mk rfl (((HB.out.setCell (by exact Nat.le_add_right _ 3) _).setCell (by exact Nat.le_succ _) _).setCell (by exact Nat.le_succ _) _))
  · have q4 : (e1 != 0) = true := by simp [z1]
    have hed : edE f s n d T xf = e1 := by rw [HE1.out]; exact edE_add (by rw [← HE1.out]; exact z1)
    have hE0 := hide (show E = e1 by rw [← hed]; exact edE_first hE.out (by rw [hed]; exact z1))
    clear hed
    have hA0 := hide (show a = 0 by rw [hA.out, hE0.out, if_neg z1])
    have hB0 := hide (show bb = 0 by rw [hBb.out, hE0.out, if_neg z1])
    have Z1 := hide z1; clear z1
    go_wp2_with fail
    exact bodyPost_ret (go_results _ _ (w.heap.size + 1) _ _ _ rfl rfl ((HR.out.set_ 0 _).set_ 1 _)) rfl (by rw [hA0.out, hB0.out, hE0.out]; exact GoPost.mk rfl ((HB.out.setCell (by exact Nat.le_succ _) _).setCell (by exact Nat.le_succ _) _))
end
end Go.Proofs.Ytgdljdhibknjnaa
