/- The results of metronomeref.Decode. -/
import Derived.Test.YtfdadkngbnhmeaaDoorRzl
namespace Go.Proofs.YtfdadkngbnhmeaaDoor
open Go.RowKit

theorem rdec_results (tmps : Array Value) (w : World) (g ge : Nat) (b0 b1 a0 a1 a2 a3 a4 a5 a6 a7 a8 a9 : Value) (h1 : tmps[2]? = some (.pointer (some ⟨g, 0, none⟩))) (h2 : tmps[3]? = some (.pointer (some ⟨ge, 0, none⟩))) (hb : Blk w g 27 #[a0, a1, a2, a3, a4, a5, a6, a7, a8, a9]) (he : Blk w ge 30 #[b0, b1]) :
    (results Tryd.f7 tmps).run Tryd.prog w = .ok (.tuple #[.agg #[a0, a1, a2, a3, a4, a5, a6, a7, a8, a9], .agg #[b0, b1]]) w := by
  obtain ⟨k0, k1, k2, k3, k4, k5, k6, k7, k8, k9⟩ := hb.cells10
  obtain ⟨j0, j1, -, -⟩ := he.cells2
  simp [results, Tryd.results7, go_sem, h1, h2, k0, k1, k2, k3, k4, k5, k6, k7, k8, k9, j0, j1]
abbrev setRd (W : World) (g : Nat) (a0 a1 a2 a3 a4 a5 a6 a7 a8 a9 b0 b1 : Value) : World := ((set10 W g a0 a1 a2 a3 a4 a5 a6 a7 a8 a9).setCell ⟨g + 1, 0, none⟩ b0).setCell ⟨g + 1, 1, none⟩ b1
theorem setRd_heap (W : World) (g i : Nat) (h1 : i ≠ g) (h2 : i ≠ g + 1) (a0 a1 a2 a3 a4 a5 a6 a7 a8 a9 b0 b1 : Value) : (setRd W g a0 a1 a2 a3 a4 a5 a6 a7 a8 a9 b0 b1).heap[i]? = W.heap[i]? :=
  (Below.heap_setCell _ ⟨g + 1, 1, none⟩ b1 i h2).trans ((Below.heap_setCell _ ⟨g + 1, 0, none⟩ b0 i h2).trans (set10_heap W g i h1 a0 a1 a2 a3 a4 a5 a6 a7 a8 a9))
theorem setRd_fin {w W : World} (hz : Blk W w.heap.size 27 planZ) (he : Blk W (w.heap.size + 1) 30 #[.int .i64 0, .int .i64 0]) (hB : Below w.heap.size w W) (a0 a1 a2 a3 a4 a5 a6 a7 a8 a9 b0 b1 : Value) :
    Blk (setRd W w.heap.size a0 a1 a2 a3 a4 a5 a6 a7 a8 a9 b0 b1) w.heap.size 27 #[a0, a1, a2, a3, a4, a5, a6, a7, a8, a9] ∧ Blk (setRd W w.heap.size a0 a1 a2 a3 a4 a5 a6 a7 a8 a9 b0 b1) (w.heap.size + 1) 30 #[b0, b1] ∧ Below w.heap.size w (setRd W w.heap.size a0 a1 a2 a3 a4 a5 a6 a7 a8 a9 b0 b1) := by
  refine ⟨((set10_blk hz a0 a1 a2 a3 a4 a5 a6 a7 a8 a9).far (by show w.heap.size ≠ w.heap.size + 1; omega) b0).far (by show w.heap.size ≠ w.heap.size + 1; omega) b1, ?_, ((set10_old hB a0 a1 a2 a3 a4 a5 a6 a7 a8 a9).setCell (by show w.heap.size ≤ w.heap.size + 1; omega) b0).setCell (by show w.heap.size ≤ w.heap.size + 1; omega) b1⟩
  have h1 : Blk (set10 W w.heap.size a0 a1 a2 a3 a4 a5 a6 a7 a8 a9) (w.heap.size + 1) 30 #[.int .i64 0, .int .i64 0] := (set10_heap W w.heap.size (w.heap.size + 1) (by omega) a0 a1 a2 a3 a4 a5 a6 a7 a8 a9).trans he
  have h2 := (h1.set_ 0 b0).set_ 1 b1
  simpa using h2
theorem rck_raw (a1 a2 a3 a4 a5 a6 f : Nat) (b1 b2 b4 : List (List Nat)) (B1 B2 B4 : Option Addr) (e1 e2 e4 : Nat) (w : World) (base1 base2 base4 : Nat) (h1 : w.ownsRow base1 66 3 (.slice B1 b1.length e1) b1.length (rc b1)) (h2 : w.ownsRow base2 68 4 (.slice B2 b2.length e2) b2.length (rc b2)) (h4 : w.ownsRow base4 70 3 (.slice B4 b4.length e4) b4.length (rc b4))
    (w1 : ∀ x ∈ b1, x.length = 3) (w2 : ∀ x ∈ b2, x.length = 4) (w4 : ∀ x ∈ b4, x.length = 3) (hF : FinT w) :
    Calls Tryd.prog 25 #[.agg #[.int .i64 (a1 : Nat), .int .i64 (a2 : Nat), .int .i64 (a3 : Nat), .int .i64 (a4 : Nat), .int .i64 (a5 : Nat), .int .i64 (a6 : Nat), .slice B1 b1.length e1, .slice B2 b2.length e2, .int .i64 (f : Nat), .slice B4 b4.length e4]] w (RckPost w (chk (plO ([a1, a2, a3, a4, a5, a6], b1, b2, f, b4)))) := by
  obtain ⟨A, c, hv, hS⟩ := slots_of h1 w1
  cases hv
  obtain ⟨A, c, hv, hL⟩ := links_of h2 w2
  cases hv
  obtain ⟨A, c, hv, hW⟩ := wins_of h4 w4
  cases hv
  exact rck_any (plO ([a1, a2, a3, a4, a5, a6], b1, b2, f, b4)) B1 b1.length e1 B2 b2.length e2 B4 b4.length e4 w (by simp [plO]) (by simp [plO]) (by simp [plO]) hS hL hW hF
theorem rd_good {w W : World} {l : List Nat} {a1 a2 a3 a4 a5 a6 f : Nat} {b1 b2 b4 : List (List Nat)} {B1 B2 B4 : Option Addr} {e1 e2 e4 base1 base2 base4 : Nat} (h1 : W.ownsRow base1 66 3 (.slice B1 b1.length e1) b1.length (rc b1)) (h2 : W.ownsRow base2 68 4 (.slice B2 b2.length e2) b2.length (rc b2)) (h4 : W.ownsRow base4 70 3 (.slice B4 b4.length e4) b4.length (rc b4))
    (w1 : ∀ x ∈ b1, x.length = 3) (w2 : ∀ x ∈ b2, x.length = 4) (w4 : ∀ x ∈ b4, x.length = 3) (hB : Below w.heap.size w W) (raw : Raw) (hr : raw = ([a1, a2, a3, a4, a5, a6], b1, b2, f, b4)) (hd : decB l = some raw) (hl : l.length ≤ 2000) (hc : (chk (plO raw)).1 = 0) :
    RdPost w l (.returned (.tuple #[.agg #[.int .i64 (a1 : Nat), .int .i64 (a2 : Nat), .int .i64 (a3 : Nat), .int .i64 (a4 : Nat), .int .i64 (a5 : Nat), .int .i64 (a6 : Nat), .slice B1 b1.length e1, .slice B2 b2.length e2, .int .i64 (f : Nat), .slice B4 b4.length e4], .agg #[.int .i64 0, .int .i64 (-1)]])) W := by
  refine ⟨hB, .inr (.inr ⟨raw, hd, hl, hc, ?_⟩)⟩
  subst hr
  obtain ⟨A, c, hv, hS⟩ := slots_of h1 w1
  cases hv
  obtain ⟨A, c, hv, hL⟩ := links_of h2 w2
  cases hv
  obtain ⟨A, c, hv, hW⟩ := wins_of h4 w4
  cases hv
  refine ⟨B1, e1, B2, e2, B4, e4, ?_, ?_, ?_, ?_⟩
  · simp [plO, planC]
  · simpa [plO] using hS
  · simpa [plO] using hL
  · simpa [plO] using hW
end Go.Proofs.YtfdadkngbnhmeaaDoor
