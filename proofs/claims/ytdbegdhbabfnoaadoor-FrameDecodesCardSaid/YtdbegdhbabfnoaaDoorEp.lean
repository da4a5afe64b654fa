/- api.Tell, plain.Place, is and bare of metronomelaw at nil, at an Errno, and at an At around one; condition: errors.errorType holds what start-up lays there. -/
import Derived.Test.YtdbegdhbabfnoaaDoorEa
import Derived.Deep.QuietTactic
import Derived.BigQuiet
namespace Go.Proofs.YtdbegdhbabfnoaaDoor
open Go.RowKit

theorem errT_alloc {w : World} (h : ErrT w) (o : Obj) : ErrT (w.alloc o) := by
  have hlt := World.block_lt_of_cell? w ⟨0, 0, none⟩ h
  show World.cell? (w.alloc o) _ = _
  rw [World.cell?_alloc_lt _ _ ⟨0, 0, none⟩ hlt]; exact h
theorem errT_below {w w' : World} (h : ErrT w) (hb : Below w.heap.size w w') : ErrT w' :=
  (hb.cell (World.block_lt_of_cell? w ⟨0, 0, none⟩ h)).trans h

theorem er_isAt (a : Addr) (xT : TypeId) (w : World) : (Instr.typeAssert (.iface 50 (.pointer (some a))) xT 50 true).run Tryd.prog w = .ok (.tuple #[.pointer (some a), .bool true]) w := by kernel_rfl
theorem er_notAt (v : Value) (xT : TypeId) (w : World) : (Instr.typeAssert (.iface 25 v) xT 50 true).run Tryd.prog w = .ok (.tuple #[.pointer none, .bool false]) w := by kernel_rfl

set_option maxHeartbeats 1000000 in
theorem tell_nil (w : World) : Calls Tryd.prog 16 #[.nilIface] w fun e w' => e = .returned (.int .i64 0) ∧ w = w' := by
  go_enter Tryd.func16, Tryd.ntmps16
  go_wp2_with fail
  go_ret
  exact ⟨rfl, rfl⟩

set_option maxHeartbeats 1000000 in
theorem tell_errno (e : Int) (w : World) (hg : ErrT w) : Calls Tryd.prog 16 #[.iface 25 (.int .i64 e)] w fun r w' => r = .returned (.int .i64 e) ∧ Below w.heap.size w w' := by
  have hg1 := errT_alloc hg (.cells #[.int .i64 0] 25)
  have hG := hide hg1; clear hg1 hg
  have hN := Blk.new w 25 #[.int .i64 0]
  obtain ⟨c0, f0⟩ := hN.cells1
  have C0 := hide c0; have F0 := hide f0; clear hN c0 f0
  go_enter Tryd.func16, Tryd.ntmps16
  go_wp2_with fail
  refine (as_errno e ⟨w.heap.size, 0, none⟩ (.int .i64 0) _ (by exact hG.out) (by exact C0.out) (by exact F0.out)).mono ?_
  rintro r w' ⟨rfl, rfl⟩
  go_wp2_with fail
  go_ret
  refine ⟨rfl, ?_⟩
  exact (((((Below.refl _ _).alloc (Nat.le_refl _) _).alloc (by simp) _).alloc (by simp <;> omega) _).alloc (by simp <;> omega) _).alloc (by simp <;> omega) _

set_option maxHeartbeats 1000000 in
theorem tell_at (e pl : Int) (g : Nat) (w : World) (hg : ErrT w) (hp : Blk w g 52 #[.int .i64 e, .int .i64 pl]) : Calls Tryd.prog 16 #[.iface 50 (.pointer (some ⟨g, 0, none⟩))] w fun r w' => r = .returned (.int .i64 e) ∧ Below w.heap.size w w' := by
  have hg1 := errT_alloc hg (.cells #[.int .i64 0] 25)
  have hG := hide hg1; clear hg1 hg
  have HP := hide (hp.alloc (.cells #[.int .i64 0] 25)); clear hp
  have hN := Blk.new w 25 #[.int .i64 0]
  obtain ⟨c0, f0⟩ := hN.cells1
  have C0 := hide c0; have F0 := hide f0; clear hN c0 f0
  go_enter Tryd.func16, Tryd.ntmps16
  go_wp2_with fail
  refine (as_at e pl g ⟨w.heap.size, 0, none⟩ (.int .i64 0) _ (by exact HP.out) (by exact hG.out) (by exact C0.out) (by exact F0.out)).mono ?_
  rintro r w' ⟨rfl, rfl⟩
  go_wp2_with fail
  go_ret
  refine ⟨rfl, ?_⟩
  exact (((((Below.refl _ _).alloc (Nat.le_refl _) _).alloc (by simp) _).alloc (by simp <;> omega) _).alloc (by simp <;> omega) _).alloc (by simp <;> omega) _

set_option maxHeartbeats 1000000 in
theorem place_errno (e : Int) (w : World) (hg : ErrT w) : Calls Tryd.prog 15 #[.iface 25 (.int .i64 e)] w fun r w' => r = .returned (.tuple #[.int .i64 e, .int .i64 (-1)]) ∧ Below w.heap.size w w' := by
  have hG := hide hg; clear hg
  have nU := er_noUnwrap
  have nA := er_notAt
  go_enter Tryd.func15, Tryd.ntmps15
  go_wp2_with fail
  refine (tell_errno e _ (by exact hG.out)).mono ?_
  rintro r w' ⟨rfl, hb⟩
  have HB := hide hb; clear hb
  go_wp2_with fail
  refine wp_loop_rounds 1 ?_
  rw [rounds_succ]
  go_wp2_with fail
  go_ret2
  exact ⟨rfl, HB.out⟩

theorem place_nil (w : World) : Calls Tryd.prog 15 #[.nilIface] w fun r w' => r = .returned (.tuple #[.int .i64 0, .int .i64 (-1)]) ∧ w = w' := by
  go_enter Tryd.func15, Tryd.ntmps15
  go_wp2_with fail
  refine (tell_nil _).mono ?_
  rintro r w' ⟨rfl, rfl⟩
  go_wp2_with fail
  refine wp_loop_rounds 1 ?_
  rw [rounds_succ]
  go_wp2_with fail
  go_ret2
  exact ⟨rfl, rfl⟩

set_option maxHeartbeats 1000000 in
theorem place_at (e pl : Int) (g : Nat) (w : World) (hg : ErrT w) (hp : Blk w g 52 #[.int .i64 e, .int .i64 pl]) : Calls Tryd.prog 15 #[.iface 50 (.pointer (some ⟨g, 0, none⟩))] w fun r w' => r = .returned (.tuple #[.int .i64 e, .int .i64 pl]) ∧ Below w.heap.size w w' := by
  have hG := hide hg; clear hg
  have HP := hide hp; clear hp
  have iA := er_isAt
  go_enter Tryd.func15, Tryd.ntmps15
  go_wp2_with fail
  refine (tell_at e pl g _ (by exact hG.out) (by exact HP.out)).mono ?_
  rintro r w' ⟨rfl, hb⟩
  obtain ⟨c0, c1, _, _⟩ := (HP.out.below hb HP.out.lt).cells2
  have hl := HP.out.lt
  have hl2 := hb.size
  have HB := hide hb; clear hb
  go_wp2_with fail
  refine wp_loop_rounds 1 ?_
  rw [rounds_succ]
  go_wp2_with fail
  go_quiet (fail)
  go_wp2_with fail
  go_ret2
  exact ⟨rfl, below_drewN HB.out _⟩

theorem place_errV (e : Int) (w : World) (hg : ErrT w) : Calls Tryd.prog 15 #[errV e] w fun r w' => r = .returned (.tuple #[.int .i64 e, .int .i64 (-1)]) ∧ Below w.heap.size w w' := by
  unfold errV
  by_cases h : e = 0
  · rw [if_pos h]; subst h
    exact (place_nil w).mono fun r w' ⟨h1, h2⟩ => ⟨h1, h2 ▸ Below.refl _ _⟩
  · rw [if_neg h]
    exact place_errno e w hg

/-- metronomelaw.is at a bare error. -/
theorem is_errV (e f p : Int) (w : World) (hg : ErrT w) : Calls Tryd.prog 12 #[errV e, .agg #[.int .i64 f, .int .i64 p]] w fun r w' => r = .returned (.bool (e == f && (-1 : Int) == p)) ∧ Below w.heap.size w w' := by
  have hG := hide (errT_alloc hg (.cells #[.int .i64 f, .int .i64 p] 43)); clear hg
  have HN := hide (Blk.new w 43 #[.int .i64 f, .int .i64 p])
  have hB0 := hide ((Below.refl w.heap.size w).alloc (Nat.le_refl _) (.cells #[.int .i64 f, .int .i64 p] 43))
  go_enter Tryd.func12, Tryd.ntmps12
  go_wp2_with fail
  refine (place_errV e _ (by exact hG.out)).mono ?_
  rintro r w' ⟨rfl, hb⟩
  obtain ⟨c0, c1, _, _⟩ := (HN.out.below hb HN.out.lt).cells2
  have HB := hide (hB0.out.trans (hb.mono hB0.out.size)); clear hb
  go_wp2_with fail
  all_goals (go_ret; exact ⟨ret_bool (by simp_all), HB.out⟩)
theorem is_at (e pl : Int) (g : Nat) (f p : Int) (w : World) (hg : ErrT w) (hp : Blk w g 52 #[.int .i64 e, .int .i64 pl]) : Calls Tryd.prog 12 #[.iface 50 (.pointer (some ⟨g, 0, none⟩)), .agg #[.int .i64 f, .int .i64 p]] w fun r w' => r = .returned (.bool (e == f && pl == p)) ∧ Below w.heap.size w w' := by
  have hG := hide (errT_alloc hg (.cells #[.int .i64 f, .int .i64 p] 43)); clear hg
  have HP := hide (hp.alloc (.cells #[.int .i64 f, .int .i64 p] 43)); clear hp
  have HN := hide (Blk.new w 43 #[.int .i64 f, .int .i64 p])
  have hB0 := hide ((Below.refl w.heap.size w).alloc (Nat.le_refl _) (.cells #[.int .i64 f, .int .i64 p] 43))
  go_enter Tryd.func12, Tryd.ntmps12
  go_wp2_with fail
  refine (place_at e pl g _ (by exact hG.out) (by exact HP.out)).mono ?_
  rintro r w' ⟨rfl, hb⟩
  obtain ⟨c0, c1, _, _⟩ := (HN.out.below hb HN.out.lt).cells2
  have HB := hide (hB0.out.trans (hb.mono hB0.out.size)); clear hb
  go_wp2_with fail
  all_goals (go_ret; exact ⟨ret_bool (by simp_all), HB.out⟩)

theorem bareF (e : Int) (w : World) : Calls Tryd.prog 13 #[.int .i64 e] w fun r w' => r = .returned (.agg #[.int .i64 e, .int .i64 (-1)]) ∧ Below w.heap.size w w' := by
  go_enter Tryd.func13, Tryd.ntmps13
  go_wp2_with fail
  exact bodyPost_ret (v := .agg #[.int .i64 e, .int .i64 (-1)]) (by simp [results, Tryd.results13, go_sem]) rfl ⟨rfl, by repeat (first | exact Below.refl _ _ | refine Below.setCell ?_ (by simp) _ | refine Below.alloc ?_ (by simp) _)⟩
theorem bare_errV (e f : Int) (w : World) (hg : ErrT w) : Calls Tryd.prog 6 #[errV e, .int .i64 f] w fun r w' => r = .returned (.bool (e == f)) ∧ Below w.heap.size w w' := by
  have hG := hide hg; clear hg
  go_enter Tryd.func6, Tryd.ntmps6
  go_wp2_with fail
  refine (bareF f _).mono ?_
  rintro r w1 ⟨rfl, hb1⟩
  have HB1 := hide hb1; clear hb1
  go_wp2_with fail
  refine (is_errV e f (-1) _ (by exact errT_below hG.out HB1.out)).mono ?_
  rintro r w2 ⟨rfl, hb2⟩
  have HB2 := hide (HB1.out.trans (hb2.mono HB1.out.size)); clear hb2
  go_wp2_with fail
  go_ret
  exact ⟨ret_bool (by simp), HB2.out⟩
end Go.Proofs.YtdbegdhbabfnoaaDoor
