/- The contracts of plan.Decode's closures and of plan.rows; conditions: the reader lies in a block of its own, its bytes in memory. -/
import Derived.Test.YtfdadkngbnhmeaaDoorNu
import Derived.Test.YtfdadkngbnhmeaaDoorPlc
import Derived.Deep.RegionHeld3
namespace Go.Proofs.YtfdadkngbnhmeaaDoor
open Go.RowKit

/-- What a cell holds, whatever it is. -/
def cv (w : World) (g i : Nat) : Value := (w.cell? ⟨g, i, none⟩).getD undef
theorem cv_eq {w : World} {g i : Nat} {v : Value} (h : w.cell? ⟨g, i, none⟩ = some v) : w.cell? ⟨g, i, none⟩ = some (cv w g i) := by unfold cv; rw [h]; rfl
theorem cf3 {w : World} {g : Nat} {t : TypeId} {cs : Array Value} (h : Blk w g t cs) (hs : cs.size = 3) : w.cell? ⟨g, 0, none⟩ = some (cv w g 0) ∧ w.frozen? ⟨g, 0, none⟩ = false ∧ w.cell? ⟨g, 1, none⟩ = some (cv w g 1) ∧ w.frozen? ⟨g, 1, none⟩ = false ∧ w.cell? ⟨g, 2, none⟩ = some (cv w g 2) ∧ w.frozen? ⟨g, 2, none⟩ = false :=
  ⟨cv_eq (by rw [h.cell 0, Array.getElem?_eq_getElem (by omega)]), h.frozen 0, cv_eq (by rw [h.cell 1, Array.getElem?_eq_getElem (by omega)]), h.frozen 1, cv_eq (by rw [h.cell 2, Array.getElem?_eq_getElem (by omega)]), h.frozen 2⟩
theorem cf4 {w : World} {g : Nat} {t : TypeId} {cs : Array Value} (h : Blk w g t cs) (hs : cs.size = 4) : w.cell? ⟨g, 0, none⟩ = some (cv w g 0) ∧ w.frozen? ⟨g, 0, none⟩ = false ∧ w.cell? ⟨g, 1, none⟩ = some (cv w g 1) ∧ w.frozen? ⟨g, 1, none⟩ = false ∧ w.cell? ⟨g, 2, none⟩ = some (cv w g 2) ∧ w.frozen? ⟨g, 2, none⟩ = false ∧ w.cell? ⟨g, 3, none⟩ = some (cv w g 3) ∧ w.frozen? ⟨g, 3, none⟩ = false :=
  ⟨cv_eq (by rw [h.cell 0, Array.getElem?_eq_getElem (by omega)]), h.frozen 0, cv_eq (by rw [h.cell 1, Array.getElem?_eq_getElem (by omega)]), h.frozen 1, cv_eq (by rw [h.cell 2, Array.getElem?_eq_getElem (by omega)]), h.frozen 2, cv_eq (by rw [h.cell 3, Array.getElem?_eq_getElem (by omega)]), h.frozen 3⟩
theorem far_cell {w : World} {b : Nat} {v : Value} (h : w.cell? ⟨b, 0, none⟩ = some v) {p : Addr} (hp : b ≠ p.block) (u : Value) : (w.setCell p u).cell? ⟨b, 0, none⟩ = some v := by
  rw [← h]
  have := Below.heap_setCell w p u b hp
  unfold World.cell?; simp only [this]
theorem blk3 {w : World} {g : Nat} {t : TypeId} {a0 a1 a2 : Value} (h : Blk w g t #[a0, a1, a2]) : w.cell? ⟨g, 0, none⟩ = some a0 ∧ w.cell? ⟨g, 1, none⟩ = some a1 ∧ w.cell? ⟨g, 2, none⟩ = some a2 :=
  ⟨by simpa using h.cell 0, by simpa using h.cell 1, by simpa using h.cell 2⟩
theorem grown_cell {w w' : World} {b gr : Nat} {v : Value} (h : w.cell? ⟨b, 0, none⟩ = some v) (hg : w.grownBy w' (some gr)) (hne : b ≠ gr) : w'.cell? ⟨b, 0, none⟩ = some v := by
  rw [← h]
  have := hg.block b (World.block_lt_of_cell? _ _ h) (by simpa using hne)
  unfold World.cell?; simp only [this]

theorem rw1_results (tmps : Array Value) (w : World) (g : Nat) (a0 a1 a2 : Value) (h2 : tmps[1]? = some (.pointer (some ⟨g, 0, none⟩))) (hb : Blk w g 66 #[a0, a1, a2]) :
    (results Tryd.f28 tmps).run Tryd.prog w = .ok (.agg #[a0, a1, a2]) w := by
  obtain ⟨k0, k1, k2⟩ := blk3 hb
  simp [results, Tryd.results28, go_sem, h2, k0, k1, k2]

set_option maxRecDepth 100000 in
set_option maxHeartbeats 2000000 in
theorem clos1_any (B gp gr : Nat) (s : Rst) (w : World) (hp : w.cell? ⟨gp, 0, none⟩ = some (.pointer (some ⟨gr, 0, none⟩))) (hne : gp ≠ gr) (hR : RsAt w B gr s) (hB : B ≤ w.heap.size) :
    Calls Tryd.prog 28 #[.pointer (some ⟨gp, 0, none⟩)] w fun r w' => r = .returned (.agg #[.int .i64 ((numB s).1 : Nat), .int .i64 ((numB (numB s).2).1 : Nat), .int .i64 ((numB (numB (numB s).2).2).1 : Nat)]) ∧ RsAt w' B gr (some_ numB 3 s).2 ∧ w.grownBy w' (some gr) := by
  have hlt := World.block_lt_of_cell? _ _ hp
  have hp2 : (w.alloc (.cells #[.int .i64 0, .int .i64 0, .int .i64 0] 66)).cell? ⟨gp, 0, none⟩ = some (.pointer (some ⟨gr, 0, none⟩)) := by rw [World.cell?_alloc_lt _ _ ⟨gp, 0, none⟩ hlt]; exact hp
  have HC0 := hide hp2
  have HR0 := hide (hR.below ((Below.refl _ _).alloc (Nat.le_refl _) (.cells #[.int .i64 0, .int .i64 0, .int .i64 0] 66)))
  have HG0 := hide (only_alloc (only_refl w (some gr)) (.cells #[.int .i64 0, .int .i64 0, .int .i64 0] 66))
  have HN0 := hide (Blk.new w 66 #[.int .i64 0, .int .i64 0, .int .i64 0])
  have HC0d := hide (show (w.alloc (.cells #[.int .i64 0, .int .i64 0, .int .i64 0] 66)).drew.cell? ⟨gp, 0, none⟩ = some (.pointer (some ⟨gr, 0, none⟩)) from hp2)
  have HN0d := hide (Blk.new w 66 #[.int .i64 0, .int .i64 0, .int .i64 0]).drew
  have hgr := hR.lt
  have hgn : some w.heap.size ≠ some gr := by simp; omega
  clear hp hR
  go_enter Tryd.func28, Tryd.ntmps28
  go_wp2_with fail
  go_region_held3 (fun w' => w'.cell? ⟨gp, 0, none⟩ = some (.pointer (some ⟨gr, 0, none⟩)) ∧ w'.cell? ⟨w.heap.size, 0, none⟩ = some (cv w' w.heap.size 0) ∧ w'.frozen? ⟨w.heap.size, 0, none⟩ = false ∧ w'.cell? ⟨w.heap.size, 1, none⟩ = some (cv w' w.heap.size 1) ∧ w'.frozen? ⟨w.heap.size, 1, none⟩ = false ∧ w'.cell? ⟨w.heap.size, 2, none⟩ = some (cv w' w.heap.size 2) ∧ w'.frozen? ⟨w.heap.size, 2, none⟩ = false) (first | (with_reducible exact ⟨HC0d.out, cf3 HN0d.out rfl⟩) | (with_reducible exact ⟨HC1.out, cf3 HN1.out rfl⟩) | (with_reducible exact ⟨HC2.out, cf3 HN2.out rfl⟩) | (with_reducible exact ⟨HC3.out, cf3 HN3.out rfl⟩) | exact ⟨(far_cell (far_cell (far_cell HC3.out (p := ⟨w.heap.size, 0, none⟩) (Nat.ne_of_lt hlt) _) (p := ⟨w.heap.size, 1, none⟩) (Nat.ne_of_lt hlt) _) (p := ⟨w.heap.size, 2, none⟩) (Nat.ne_of_lt hlt) _), cf3 (((HN3.out.set_ 0 _).set_ 1 _).set_ 2 _) rfl⟩)
    (first
      | (go_at_call 26; (with_reducible refine (num_any B gr s _ ?_).mono ?_); (exact HR0.out.below (by first | exact below_drewN (Below.refl _ _) 1 | exact Below.refl _ _)); rintro r w1 ⟨rfl, h1, h2⟩; have HR1 := hide h1; have HG1 := hide (only_trans HG0.out (un_drew h2)); have HC1 := hide (grown_cell HC0.out (un_drew h2) hne); have HN1 := hide (HN0.out.grown (un_drew h2) hgn); clear h1 h2)
      | (go_at_call 26; (with_reducible refine (num_any B gr (numB s).2 _ ?_).mono ?_); (exact HR1.out); rintro r w2 ⟨rfl, h1, h2⟩; have HR2 := hide h1; have HG2 := hide (only_trans HG1.out h2); have HC2 := hide (grown_cell HC1.out h2 hne); have HN2 := hide (HN1.out.grown h2 hgn); clear h1 h2)
      | (go_at_call 26; (with_reducible refine (num_any B gr (numB (numB s).2).2 _ ?_).mono ?_); (exact HR2.out); rintro r w3 ⟨rfl, h1, h2⟩; have HR3 := hide h1; have HG3 := hide (only_trans HG2.out h2); have HC3 := hide (grown_cell HC2.out h2 hne); have HN3 := hide (HN2.out.grown h2 hgn); clear h1 h2))
  go_wp2_with fail
  exact bodyPost_ret (rw1_results _ _ w.heap.size _ _ _ rfl (((HN3.out.set_ 0 _).set_ 1 _).set_ 2 _)) rfl ⟨rfl, (((HR3.out.set_ (p := ⟨w.heap.size, 0, none⟩) hB _).set_ (p := ⟨w.heap.size, 1, none⟩) hB _).set_ (p := ⟨w.heap.size, 2, none⟩) hB _), (only_setCell (only_setCell (only_setCell HG3.out (p := ⟨w.heap.size, 0, none⟩) (.inr (Nat.le_refl _)) _) (p := ⟨w.heap.size, 1, none⟩) (.inr (Nat.le_refl _)) _) (p := ⟨w.heap.size, 2, none⟩) (.inr (Nat.le_refl _)) _)⟩

theorem rw2_results (tmps : Array Value) (w : World) (g : Nat) (a0 a1 a2 a3 : Value) (h2 : tmps[1]? = some (.pointer (some ⟨g, 0, none⟩))) (hb : Blk w g 68 #[a0, a1, a2, a3]) :
    (results Tryd.f30 tmps).run Tryd.prog w = .ok (.agg #[a0, a1, a2, a3]) w := by
  obtain ⟨k0, k1, k2, k3⟩ := hb.cells4
  simp [results, Tryd.results30, go_sem, h2, k0, k1, k2, k3]

set_option maxRecDepth 100000 in
set_option maxHeartbeats 2000000 in
theorem clos2_any (B gp gr : Nat) (s : Rst) (w : World) (hp : w.cell? ⟨gp, 0, none⟩ = some (.pointer (some ⟨gr, 0, none⟩))) (hne : gp ≠ gr) (hR : RsAt w B gr s) (hB : B ≤ w.heap.size) :
    Calls Tryd.prog 30 #[.pointer (some ⟨gp, 0, none⟩)] w fun r w' => r = .returned (.agg #[.int .i64 ((numB s).1 : Nat), .int .i64 ((numB (numB s).2).1 : Nat), .int .i64 ((numB (numB (numB s).2).2).1 : Nat), .int .i64 ((numB (numB (numB (numB s).2).2).2).1 : Nat)]) ∧ RsAt w' B gr (some_ numB 4 s).2 ∧ w.grownBy w' (some gr) := by
  have hlt := World.block_lt_of_cell? _ _ hp
  have hp2 : (w.alloc (.cells #[.int .i64 0, .int .i64 0, .int .i64 0, .int .i64 0] 68)).cell? ⟨gp, 0, none⟩ = some (.pointer (some ⟨gr, 0, none⟩)) := by rw [World.cell?_alloc_lt _ _ ⟨gp, 0, none⟩ hlt]; exact hp
  have HC0 := hide hp2
  have HR0 := hide (hR.below ((Below.refl _ _).alloc (Nat.le_refl _) (.cells #[.int .i64 0, .int .i64 0, .int .i64 0, .int .i64 0] 68)))
  have HG0 := hide (only_alloc (only_refl w (some gr)) (.cells #[.int .i64 0, .int .i64 0, .int .i64 0, .int .i64 0] 68))
  have HN0 := hide (Blk.new w 68 #[.int .i64 0, .int .i64 0, .int .i64 0, .int .i64 0])
  have HC0d := hide (show (w.alloc (.cells #[.int .i64 0, .int .i64 0, .int .i64 0, .int .i64 0] 68)).drew.cell? ⟨gp, 0, none⟩ = some (.pointer (some ⟨gr, 0, none⟩)) from hp2)
  have HN0d := hide (Blk.new w 68 #[.int .i64 0, .int .i64 0, .int .i64 0, .int .i64 0]).drew
  have hgr := hR.lt
  have hgn : some w.heap.size ≠ some gr := by simp; omega
  clear hp hR
  go_enter Tryd.func30, Tryd.ntmps30
  go_wp2_with fail
  go_region_held3 (fun w' => w'.cell? ⟨gp, 0, none⟩ = some (.pointer (some ⟨gr, 0, none⟩)) ∧ w'.cell? ⟨w.heap.size, 0, none⟩ = some (cv w' w.heap.size 0) ∧ w'.frozen? ⟨w.heap.size, 0, none⟩ = false ∧ w'.cell? ⟨w.heap.size, 1, none⟩ = some (cv w' w.heap.size 1) ∧ w'.frozen? ⟨w.heap.size, 1, none⟩ = false ∧ w'.cell? ⟨w.heap.size, 2, none⟩ = some (cv w' w.heap.size 2) ∧ w'.frozen? ⟨w.heap.size, 2, none⟩ = false ∧ w'.cell? ⟨w.heap.size, 3, none⟩ = some (cv w' w.heap.size 3) ∧ w'.frozen? ⟨w.heap.size, 3, none⟩ = false) (first | (with_reducible exact ⟨HC0d.out, cf4 HN0d.out rfl⟩) | (with_reducible exact ⟨HC1.out, cf4 HN1.out rfl⟩) | (with_reducible exact ⟨HC2.out, cf4 HN2.out rfl⟩) | (with_reducible exact ⟨HC3.out, cf4 HN3.out rfl⟩) | (with_reducible exact ⟨HC4.out, cf4 HN4.out rfl⟩) | exact ⟨(far_cell (far_cell (far_cell (far_cell HC4.out (p := ⟨w.heap.size, 0, none⟩) (Nat.ne_of_lt hlt) _) (p := ⟨w.heap.size, 1, none⟩) (Nat.ne_of_lt hlt) _) (p := ⟨w.heap.size, 2, none⟩) (Nat.ne_of_lt hlt) _) (p := ⟨w.heap.size, 3, none⟩) (Nat.ne_of_lt hlt) _), cf4 ((((HN4.out.set_ 0 _).set_ 1 _).set_ 2 _).set_ 3 _) rfl⟩)
    (first
      | (go_at_call 26; (with_reducible refine (num_any B gr s _ ?_).mono ?_); (exact HR0.out.below (by first | exact below_drewN (Below.refl _ _) 1 | exact Below.refl _ _)); rintro r w1 ⟨rfl, h1, h2⟩; have HR1 := hide h1; have HG1 := hide (only_trans HG0.out (un_drew h2)); have HC1 := hide (grown_cell HC0.out (un_drew h2) hne); have HN1 := hide (HN0.out.grown (un_drew h2) hgn); clear h1 h2)
      | (go_at_call 26; (with_reducible refine (num_any B gr (numB s).2 _ ?_).mono ?_); (exact HR1.out); rintro r w2 ⟨rfl, h1, h2⟩; have HR2 := hide h1; have HG2 := hide (only_trans HG1.out h2); have HC2 := hide (grown_cell HC1.out h2 hne); have HN2 := hide (HN1.out.grown h2 hgn); clear h1 h2)
      | (go_at_call 26; (with_reducible refine (num_any B gr (numB (numB s).2).2 _ ?_).mono ?_); (exact HR2.out); rintro r w3 ⟨rfl, h1, h2⟩; have HR3 := hide h1; have HG3 := hide (only_trans HG2.out h2); have HC3 := hide (grown_cell HC2.out h2 hne); have HN3 := hide (HN2.out.grown h2 hgn); clear h1 h2)
      | (go_at_call 26; (with_reducible refine (num_any B gr (numB (numB (numB s).2).2).2 _ ?_).mono ?_); (exact HR3.out); rintro r w4 ⟨rfl, h1, h2⟩; have HR4 := hide h1; have HG4 := hide (only_trans HG3.out h2); have HC4 := hide (grown_cell HC3.out h2 hne); have HN4 := hide (HN3.out.grown h2 hgn); clear h1 h2))
  go_wp2_with fail
  exact bodyPost_ret (rw2_results _ _ w.heap.size _ _ _ _ rfl ((((HN4.out.set_ 0 _).set_ 1 _).set_ 2 _).set_ 3 _)) rfl ⟨rfl, ((((HR4.out.set_ (p := ⟨w.heap.size, 0, none⟩) hB _).set_ (p := ⟨w.heap.size, 1, none⟩) hB _).set_ (p := ⟨w.heap.size, 2, none⟩) hB _).set_ (p := ⟨w.heap.size, 3, none⟩) hB _), (only_setCell (only_setCell (only_setCell (only_setCell HG4.out (p := ⟨w.heap.size, 0, none⟩) (.inr (Nat.le_refl _)) _) (p := ⟨w.heap.size, 1, none⟩) (.inr (Nat.le_refl _)) _) (p := ⟨w.heap.size, 2, none⟩) (.inr (Nat.le_refl _)) _) (p := ⟨w.heap.size, 3, none⟩) (.inr (Nat.le_refl _)) _)⟩

theorem rw3_results (tmps : Array Value) (w : World) (g : Nat) (a0 a1 a2 : Value) (h2 : tmps[1]? = some (.pointer (some ⟨g, 0, none⟩))) (hb : Blk w g 70 #[a0, a1, a2]) :
    (results Tryd.f32 tmps).run Tryd.prog w = .ok (.agg #[a0, a1, a2]) w := by
  obtain ⟨k0, k1, k2⟩ := blk3 hb
  simp [results, Tryd.results32, go_sem, h2, k0, k1, k2]

set_option maxRecDepth 100000 in
set_option maxHeartbeats 2000000 in
theorem clos3_any (B gp gr : Nat) (s : Rst) (w : World) (hp : w.cell? ⟨gp, 0, none⟩ = some (.pointer (some ⟨gr, 0, none⟩))) (hne : gp ≠ gr) (hR : RsAt w B gr s) (hB : B ≤ w.heap.size) :
    Calls Tryd.prog 32 #[.pointer (some ⟨gp, 0, none⟩)] w fun r w' => r = .returned (.agg #[.int .i64 ((numB s).1 : Nat), .int .i64 ((numB (numB s).2).1 : Nat), .int .i64 ((numB (numB (numB s).2).2).1 : Nat)]) ∧ RsAt w' B gr (some_ numB 3 s).2 ∧ w.grownBy w' (some gr) := by
  have hlt := World.block_lt_of_cell? _ _ hp
  have hp2 : (w.alloc (.cells #[.int .i64 0, .int .i64 0, .int .i64 0] 70)).cell? ⟨gp, 0, none⟩ = some (.pointer (some ⟨gr, 0, none⟩)) := by rw [World.cell?_alloc_lt _ _ ⟨gp, 0, none⟩ hlt]; exact hp
  have HC0 := hide hp2
  have HR0 := hide (hR.below ((Below.refl _ _).alloc (Nat.le_refl _) (.cells #[.int .i64 0, .int .i64 0, .int .i64 0] 70)))
  have HG0 := hide (only_alloc (only_refl w (some gr)) (.cells #[.int .i64 0, .int .i64 0, .int .i64 0] 70))
  have HN0 := hide (Blk.new w 70 #[.int .i64 0, .int .i64 0, .int .i64 0])
  have HC0d := hide (show (w.alloc (.cells #[.int .i64 0, .int .i64 0, .int .i64 0] 70)).drew.cell? ⟨gp, 0, none⟩ = some (.pointer (some ⟨gr, 0, none⟩)) from hp2)
  have HN0d := hide (Blk.new w 70 #[.int .i64 0, .int .i64 0, .int .i64 0]).drew
  have hgr := hR.lt
  have hgn : some w.heap.size ≠ some gr := by simp; omega
  clear hp hR
  go_enter Tryd.func32, Tryd.ntmps32
  go_wp2_with fail
  go_region_held3 (fun w' => w'.cell? ⟨gp, 0, none⟩ = some (.pointer (some ⟨gr, 0, none⟩)) ∧ w'.cell? ⟨w.heap.size, 0, none⟩ = some (cv w' w.heap.size 0) ∧ w'.frozen? ⟨w.heap.size, 0, none⟩ = false ∧ w'.cell? ⟨w.heap.size, 1, none⟩ = some (cv w' w.heap.size 1) ∧ w'.frozen? ⟨w.heap.size, 1, none⟩ = false ∧ w'.cell? ⟨w.heap.size, 2, none⟩ = some (cv w' w.heap.size 2) ∧ w'.frozen? ⟨w.heap.size, 2, none⟩ = false) (first | (with_reducible exact ⟨HC0d.out, cf3 HN0d.out rfl⟩) | (with_reducible exact ⟨HC1.out, cf3 HN1.out rfl⟩) | (with_reducible exact ⟨HC2.out, cf3 HN2.out rfl⟩) | (with_reducible exact ⟨HC3.out, cf3 HN3.out rfl⟩) | exact ⟨(far_cell (far_cell (far_cell HC3.out (p := ⟨w.heap.size, 0, none⟩) (Nat.ne_of_lt hlt) _) (p := ⟨w.heap.size, 1, none⟩) (Nat.ne_of_lt hlt) _) (p := ⟨w.heap.size, 2, none⟩) (Nat.ne_of_lt hlt) _), cf3 (((HN3.out.set_ 0 _).set_ 1 _).set_ 2 _) rfl⟩)
    (first
      | (go_at_call 26; (with_reducible refine (num_any B gr s _ ?_).mono ?_); (exact HR0.out.below (by first | exact below_drewN (Below.refl _ _) 1 | exact Below.refl _ _)); rintro r w1 ⟨rfl, h1, h2⟩; have HR1 := hide h1; have HG1 := hide (only_trans HG0.out (un_drew h2)); have HC1 := hide (grown_cell HC0.out (un_drew h2) hne); have HN1 := hide (HN0.out.grown (un_drew h2) hgn); clear h1 h2)
      | (go_at_call 26; (with_reducible refine (num_any B gr (numB s).2 _ ?_).mono ?_); (exact HR1.out); rintro r w2 ⟨rfl, h1, h2⟩; have HR2 := hide h1; have HG2 := hide (only_trans HG1.out h2); have HC2 := hide (grown_cell HC1.out h2 hne); have HN2 := hide (HN1.out.grown h2 hgn); clear h1 h2)
      | (go_at_call 26; (with_reducible refine (num_any B gr (numB (numB s).2).2 _ ?_).mono ?_); (exact HR2.out); rintro r w3 ⟨rfl, h1, h2⟩; have HR3 := hide h1; have HG3 := hide (only_trans HG2.out h2); have HC3 := hide (grown_cell HC2.out h2 hne); have HN3 := hide (HN2.out.grown h2 hgn); clear h1 h2))
  go_wp2_with fail
  exact bodyPost_ret (rw3_results _ _ w.heap.size _ _ _ rfl (((HN3.out.set_ 0 _).set_ 1 _).set_ 2 _)) rfl ⟨rfl, (((HR3.out.set_ (p := ⟨w.heap.size, 0, none⟩) hB _).set_ (p := ⟨w.heap.size, 1, none⟩) hB _).set_ (p := ⟨w.heap.size, 2, none⟩) hB _), (only_setCell (only_setCell (only_setCell HG3.out (p := ⟨w.heap.size, 0, none⟩) (.inr (Nat.le_refl _)) _) (p := ⟨w.heap.size, 1, none⟩) (.inr (Nat.le_refl _)) _) (p := ⟨w.heap.size, 2, none⟩) (.inr (Nat.le_refl _)) _)⟩
end Go.Proofs.YtfdadkngbnhmeaaDoor
