/- What the walk of plan.Decode needs; condition: the bytes lie in memory. -/
import Derived.Test.YtfdadkngbnhmeaaDoorRx
import Derived.Test.YtfdadkngbnhmeaaDoorPd
import Derived.Test.YtfdadkngbnhmeaaDoorPr
import Derived.Deep.Cut
import Derived.Deep.CutRange
import Derived.Deep.CutBlock
namespace Go.Proofs.YtfdadkngbnhmeaaDoor
open Go.RowKit

abbrev planZ : Array Value := #[.int .i64 0, .int .i64 0, .int .i64 0, .int .i64 0, .int .i64 0, .int .i64 0, .slice none 0 0, .slice none 0 0, .int .i64 0, .slice none 0 0]
theorem num_is (B gr : Nat) (s s' : Rst) (a : Nat) (w : World) (h : RsAt w B gr s) (e : Hid (numB s = (a, s'))) :
    Calls Tryd.prog 26 #[.pointer (some ⟨gr, 0, none⟩)] w fun r w' => r = .returned (.int .i64 (a : Nat)) ∧ RsAt w' B gr s' ∧ w.grownBy w' (some gr) :=
  (num_any B gr s w h).mono fun r w' ⟨h1, h2, h3⟩ => ⟨by rw [h1, e.out], by rw [e.out] at h2; exact h2, h3⟩
/-- What Decode keeps in memory. -/
structure DeAt (w wr : World) (s : Rst) (hp : Nat) (cs : Array Value) : Prop where
  z : Blk wr w.heap.size 27 planZ
  p : Blk wr (w.heap.size + 1 + 1) 73 #[.pointer (some ⟨w.heap.size + 1, 0, none⟩)]
  r : RsAt wr (w.heap.size + 1 + 1) (w.heap.size + 1) s
  q : Blk wr hp 27 cs
  hq : w.heap.size + 1 + 1 < hp
  old : Below w.heap.size w wr
theorem below_grown {w w1 w2 : World} {gr : Nat} (h : Below w.heap.size w w1) (k : w1.grownBy w2 (some gr)) (hg : w.heap.size ≤ gr) : Below w.heap.size w w2 :=
  ⟨k.os.trans h.os, k.tape.trans h.tape, k.output.trans h.output, Nat.le_trans h.size k.size, fun i hi => (k.block i (Nat.lt_of_lt_of_le hi h.size) (by simp; omega)).trans (h.block i hi)⟩
theorem DeAt.grown {w wr w2 : World} {s s' : Rst} {hp : Nat} {cs : Array Value} (h : DeAt w wr s hp cs) (hr : RsAt w2 (w.heap.size + 1 + 1) (w.heap.size + 1) s') (hg : wr.grownBy w2 (some (w.heap.size + 1))) : DeAt w w2 s' hp cs :=
  ⟨h.z.grown hg (by simp), h.p.grown hg (by simp), hr, h.q.grown hg (by have := h.hq; simp; omega), h.hq, below_grown h.old hg (by omega)⟩
theorem DeAt.set_ {w wr : World} {s : Rst} {hp : Nat} {cs : Array Value} (h : DeAt w wr s hp cs) (i : Nat) (u : Value) : DeAt w (wr.setCell ⟨hp, i, none⟩ u) s hp (cs.setIfInBounds i u) :=
  ⟨h.z.far (by have := h.hq; show w.heap.size ≠ hp; omega) u, h.p.far (by have := h.hq; show w.heap.size + 1 + 1 ≠ hp; omega) u, h.r.set_ (by have := h.hq; show w.heap.size + 1 + 1 ≤ hp; omega) u, h.q.set_ i u, h.hq, h.old.setCell (by have := h.hq; show w.heap.size ≤ hp; omega) u⟩
theorem planZ_set (a1 a2 a3 a4 a5 a6 v6 v7 f v9 : Value) : ((((((((((planZ.setIfInBounds 0 a1).setIfInBounds 1 a2).setIfInBounds 2 a3).setIfInBounds 3 a4).setIfInBounds 4 a5).setIfInBounds 5 a6).setIfInBounds 6 v6).setIfInBounds 7 v7).setIfInBounds 8 f).setIfInBounds 9 v9) = #[a1, a2, a3, a4, a5, a6, v6, v7, f, v9] := by simp
theorem DeAt.set10 {w wr : World} {s : Rst} {hp : Nat} (h : DeAt w wr s hp planZ) (a1 a2 a3 a4 a5 a6 v6 v7 f v9 : Value) : DeAt w ((((((((((wr.setCell ⟨hp, 0, none⟩ a1).setCell ⟨hp, 1, none⟩ a2).setCell ⟨hp, 2, none⟩ a3).setCell ⟨hp, 3, none⟩ a4).setCell ⟨hp, 4, none⟩ a5).setCell ⟨hp, 5, none⟩ a6).setCell ⟨hp, 6, none⟩ v6).setCell ⟨hp, 7, none⟩ v7).setCell ⟨hp, 8, none⟩ f).setCell ⟨hp, 9, none⟩ v9) s hp #[a1, a2, a3, a4, a5, a6, v6, v7, f, v9] := by
  rw [← planZ_set]
  exact ((((((((((h.set_ 0 _).set_ 1 _).set_ 2 _).set_ 3 _).set_ 4 _).set_ 5 _).set_ 6 _).set_ 7 _).set_ 8 _).set_ 9 _)
/-- .. while the plan may not be there yet. -/
structure DeB (w wr : World) (s : Rst) (o : Option Nat) : Prop where
  z : Blk wr w.heap.size 27 planZ
  p : Blk wr (w.heap.size + 1 + 1) 73 #[.pointer (some ⟨w.heap.size + 1, 0, none⟩)]
  r : RsAt wr (w.heap.size + 1 + 1) (w.heap.size + 1) s
  b : ∀ hp, o = some hp → Blk wr hp 27 planZ ∧ w.heap.size + 1 + 1 < hp
  old : Below w.heap.size w wr
theorem DeB.born {w wr : World} {s : Rst} (h : DeB w wr s none) : DeB w (wr.alloc (.cells planZ 27)) s (some wr.heap.size) :=
  ⟨h.z.alloc _, h.p.alloc _, h.r.below ((Below.refl _ _).alloc (Nat.le_refl _) _), fun hp e => by cases e; exact ⟨Blk.new wr _ _, h.p.lt⟩, h.old.alloc (by have := h.old.size; exact this) _⟩
theorem DeB.born0 {w wr : World} {s : Rst} (h : DeB w wr.drew s none) : DeB w (wr.drew.alloc (.cells planZ 27)) s (some wr.heap.size) := h.born
theorem DeB.born1 {w wr : World} {s : Rst} (h : DeB w wr.drew s none) : DeB w (wr.alloc (.cells planZ 27)).drew s (some wr.heap.size) :=
  have k := h.born0
  ⟨k.z, k.p, k.r.far fun _ _ _ => rfl, fun hp e => ⟨(k.b hp e).1, (k.b hp e).2⟩, ⟨k.old.os, k.old.tape, k.old.output, k.old.size, k.old.block⟩⟩
theorem DeB.step {w wr w2 : World} {s s' : Rst} {o : Option Nat} (h : DeB w wr s o) (hr : RsAt w2 (w.heap.size + 1 + 1) (w.heap.size + 1) s') (hg : wr.grownBy w2 (some (w.heap.size + 1))) : DeB w w2 s' o :=
  ⟨h.z.grown hg (by simp), h.p.grown hg (by simp), hr, fun hp e => ⟨(h.b hp e).1.grown hg (by have := (h.b hp e).2; simp; omega), (h.b hp e).2⟩, below_grown h.old hg (by omega)⟩
theorem DeB.at_ {w wr : World} {s : Rst} {hp : Nat} (h : DeB w wr s (some hp)) : DeAt w wr s hp planZ := ⟨h.z, h.p, h.r, (h.b hp rfl).1, (h.b hp rfl).2, h.old⟩
theorem DeB.new {w wr : World} {s : Rst} (h : DeB w wr s none) (cs : Array Value) : DeAt w (wr.alloc (.cells cs 27)) s wr.heap.size cs :=
  ⟨h.z.alloc _, h.p.alloc _, h.r.below ((Below.refl _ _).alloc (Nat.le_refl _) _), Blk.new wr _ _, h.p.lt, h.old.alloc h.old.size _⟩
theorem own_grown {w w' : World} {base size n gr : Nat} {e : TypeId} {v : Value} {xs : List Value} (h : w.ownsRow base e size v n xs) (hg : w.grownBy w' (some gr)) (hb : gr < base) : w'.ownsRow base e size v n xs :=
  own_keep h fun g hg' hlt => hg.block g hlt (by simp; omega)
theorem own_set {w : World} {base size n : Nat} {e : TypeId} {v : Value} {xs : List Value} (h : w.ownsRow base e size v n xs) {p : Addr} (hb : p.block < base) (u : Value) : (w.setCell p u).ownsRow base e size v n xs :=
  own_keep h fun g hg' hlt => Below.heap_setCell w p u g (by omega)
theorem rc_get {xs : List (List Nat)} {j : Nat} (hw : ∀ x ∈ xs, x.length = j) (k i : Nat) (x : List Nat) (hx : xs[k]? = some x) (hi : i < j) : (rc xs)[k * j + i]? = some (.int .i64 (x.getD i 0 : Nat)) := by
  induction xs generalizing k with
  | nil => simp at hx
  | cons y xs ih =>
    have hy : y.length = j := hw y (by simp)
    have e : rc (y :: xs) = (y.map fun (n : Nat) => Value.int .i64 (n : Int)) ++ rc xs := by simp [rc]
    rw [e]
    cases k with
    | zero =>
      simp at hx; subst hx
      rw [List.getElem?_append_left (by simp; omega)]
      simp [show i < y.length by omega]
    | succ k =>
      rw [List.getElem?_append_right (by simp [hy, Nat.succ_mul]; omega)]
      have : (k + 1) * j + i - (y.map fun (n : Nat) => Value.int .i64 (n : Int)).length = k * j + i := by simp [hy, Nat.succ_mul]; omega
      rw [this]
      exact ih (fun z hz => hw z (by simp [hz])) k (by simpa using hx)
theorem own_cell {w : World} {base size n : Nat} {e : TypeId} {v : Value} {xs : List Value} (h : w.ownsRow base e size v n xs) : ∃ A c, v = .slice A n c ∧ n ≤ c ∧ ∀ j, j < n * size → ∃ g, A = some ⟨g, 0, none⟩ ∧ w.cell? ⟨g, j, none⟩ = xs[j]? := by
  obtain ⟨hl, ⟨rfl, rfl⟩ | ⟨g, cap, cur, rfl, hg, hh, hn, hm, hs, ht⟩⟩ := h
  · exact ⟨none, 0, rfl, Nat.le_refl _, fun j hj => by omega⟩
  · refine ⟨_, cap, rfl, hn, fun j hj => ⟨g, rfl, ?_⟩⟩
    rw [cell_of_row w g j cur e (0, 0) hh, ← ht, List.getElem?_take, if_pos hj]
    simp
theorem slots_of {w : World} {base : Nat} {v : Value} {xs : List (List Nat)} (h : w.ownsRow base 66 3 v xs.length (rc xs)) (hw : ∀ x ∈ xs, x.length = 3) : ∃ A c, v = .slice A xs.length c ∧ SlotsAt w A xs.length (xs.map slO) := by
  obtain ⟨A, c, hv, _, hc⟩ := own_cell h
  refine ⟨A, c, hv, fun j hj => ?_⟩
  have hx : xs[j]? = some xs[j] := List.getElem?_eq_getElem hj
  obtain ⟨g, hA, _⟩ := hc (j * 3 + 0) (by omega)
  have cell : ∀ i, i < 3 → w.cell? ⟨g, 0 + j * 3 + i, none⟩ = some (.int .i64 (xs[j].getD i 0 : Nat)) := by
    intro i hi
    obtain ⟨g', hA', c0⟩ := hc (j * 3 + i) (by omega)
    rw [hA] at hA'; cases hA'
    rw [Nat.zero_add, c0]; exact rc_get hw j i _ hx hi
  exact ⟨g, 0, hA, slO xs[j], by simp [hx], cell 0 (by omega), cell 1 (by omega), cell 2 (by omega)⟩
theorem wins_of {w : World} {base : Nat} {v : Value} {xs : List (List Nat)} (h : w.ownsRow base 70 3 v xs.length (rc xs)) (hw : ∀ x ∈ xs, x.length = 3) : ∃ A c, v = .slice A xs.length c ∧ WinsAt w A xs.length (xs.map wnO) := by
  obtain ⟨A, c, hv, _, hc⟩ := own_cell h
  refine ⟨A, c, hv, fun j hj => ?_⟩
  have hx : xs[j]? = some xs[j] := List.getElem?_eq_getElem hj
  obtain ⟨g, hA, _⟩ := hc (j * 3 + 0) (by omega)
  have cell : ∀ i, i < 3 → w.cell? ⟨g, 0 + j * 3 + i, none⟩ = some (.int .i64 (xs[j].getD i 0 : Nat)) := by
    intro i hi
    obtain ⟨g', hA', c0⟩ := hc (j * 3 + i) (by omega)
    rw [hA] at hA'; cases hA'
    rw [Nat.zero_add, c0]; exact rc_get hw j i _ hx hi
  exact ⟨g, 0, hA, wnO xs[j], by simp [hx], cell 0 (by omega), cell 1 (by omega), cell 2 (by omega)⟩
theorem links_of {w : World} {base : Nat} {v : Value} {xs : List (List Nat)} (h : w.ownsRow base 68 4 v xs.length (rc xs)) (hw : ∀ x ∈ xs, x.length = 4) : ∃ A c, v = .slice A xs.length c ∧ LinksAt w A xs.length (xs.map lkO) := by
  obtain ⟨A, c, hv, _, hc⟩ := own_cell h
  refine ⟨A, c, hv, fun j hj => ?_⟩
  have hx : xs[j]? = some xs[j] := List.getElem?_eq_getElem hj
  obtain ⟨g, hA, _⟩ := hc (j * 4 + 0) (by omega)
  have cell : ∀ i, i < 4 → w.cell? ⟨g, 0 + j * 4 + i, none⟩ = some (.int .i64 (xs[j].getD i 0 : Nat)) := by
    intro i hi
    obtain ⟨g', hA', c0⟩ := hc (j * 4 + i) (by omega)
    rw [hA] at hA'; cases hA'
    rw [Nat.zero_add, c0]; exact rc_get hw j i _ hx hi
  exact ⟨g, 0, hA, lkO xs[j], by simp [hx], cell 0 (by omega), cell 1 (by omega), cell 2 (by omega), cell 3 (by omega)⟩
abbrev set10 (w : World) (g : Nat) (a0 a1 a2 a3 a4 a5 a6 a7 a8 a9 : Value) : World := (((((((((w.setCell ⟨g, 0, none⟩ a0).setCell ⟨g, 1, none⟩ a1).setCell ⟨g, 2, none⟩ a2).setCell ⟨g, 3, none⟩ a3).setCell ⟨g, 4, none⟩ a4).setCell ⟨g, 5, none⟩ a5).setCell ⟨g, 6, none⟩ a6).setCell ⟨g, 7, none⟩ a7).setCell ⟨g, 8, none⟩ a8).setCell ⟨g, 9, none⟩ a9
theorem set10_blk {w : World} {g : Nat} (h : Blk w g 27 planZ) (a0 a1 a2 a3 a4 a5 a6 a7 a8 a9 : Value) : Blk (set10 w g a0 a1 a2 a3 a4 a5 a6 a7 a8 a9) g 27 #[a0, a1, a2, a3, a4, a5, a6, a7, a8, a9] := by
  rw [← planZ_set]
  exact (((((((((h.set_ 0 _).set_ 1 _).set_ 2 _).set_ 3 _).set_ 4 _).set_ 5 _).set_ 6 _).set_ 7 _).set_ 8 _).set_ 9 _
theorem set10_heap (w : World) (g i : Nat) (hi : i ≠ g) (a0 a1 a2 a3 a4 a5 a6 a7 a8 a9 : Value) : (set10 w g a0 a1 a2 a3 a4 a5 a6 a7 a8 a9).heap[i]? = w.heap[i]? := by
  have k : ∀ (W : World) (j : Nat) (u : Value), (W.setCell ⟨g, j, none⟩ u).heap[i]? = W.heap[i]? := fun W j u => Below.heap_setCell W ⟨g, j, none⟩ u i hi
  rw [set10, k, k, k, k, k, k, k, k, k, k]
theorem set10_old {w W : World} (h : Below w.heap.size w W) (a0 a1 a2 a3 a4 a5 a6 a7 a8 a9 : Value) : Below w.heap.size w (set10 W w.heap.size a0 a1 a2 a3 a4 a5 a6 a7 a8 a9) := by
  have k : ∀ {W : World} (j : Nat) (u : Value), Below w.heap.size w W → Below w.heap.size w (W.setCell ⟨w.heap.size, j, none⟩ u) := fun j u h => h.setCell (Nat.le_refl _) u
  exact k 9 _ (k 8 _ (k 7 _ (k 6 _ (k 5 _ (k 4 _ (k 3 _ (k 2 _ (k 1 _ (k 0 _ h)))))))))
theorem de_results (tmps : Array Value) (w : World) (g : Nat) (v a0 a1 a2 a3 a4 a5 a6 a7 a8 a9 : Value) (h1 : tmps[2]? = some (.pointer (some ⟨g, 0, none⟩))) (h2 : tmps[3]? = some v) (hb : Blk w g 27 #[a0, a1, a2, a3, a4, a5, a6, a7, a8, a9]) :
    (results Tryd.f8 tmps).run Tryd.prog w = .ok (.tuple #[.agg #[a0, a1, a2, a3, a4, a5, a6, a7, a8, a9], v]) w := by
  obtain ⟨k0, k1, k2, k3, k4, k5, k6, k7, k8, k9⟩ := hb.cells10
  simp [results, Tryd.results8, go_sem, h1, h2, k0, k1, k2, k3, k4, k5, k6, k7, k8, k9]
theorem de_eq {l : List Nat} {s0 s1 s2 s3 s4 s5 s6 t1 t2 t3 t4 : Rst} {a1 a2 a3 a4 a5 a6 f : Nat} {b1 b2 b4 : List (List Nat)} (h0 : s0 = ⟨l, false⟩) (q1 : numB s0 = (a1, s1)) (q2 : numB s1 = (a2, s2)) (q3 : numB s2 = (a3, s3)) (q4 : numB s3 = (a4, s4)) (q5 : numB s4 = (a5, s5)) (q6 : numB s5 = (a6, s6))
    (m1 : (many_ numB 3 32 s6).1 = b1 ∧ (many_ numB 3 32 s6).2 = t1) (m2 : (many_ numB 4 8 t1).1 = b2 ∧ (many_ numB 4 8 t1).2 = t2) (m3 : (numB t2).1 = f ∧ (numB t2).2 = t3) (m4 : (many_ numB 3 32 t3).1 = b4 ∧ (many_ numB 3 32 t3).2 = t4) : dec_ numB ⟨l, false⟩ = (([a1, a2, a3, a4, a5, a6], b1, b2, f, b4), t4) := by
  have e : some_ numB 6 s0 = ([a1, a2, a3, a4, a5, a6], s6) := by simp [some_, q1, q2, q3, q4, q5, q6]
  rw [← h0]
  unfold dec_
  simp only [e, m1.1, m1.2, m2.1, m2.2, m3.1, m3.2, m4.1, m4.2]
theorem de_none {l : List Nat} {raw : Raw} {t : Rst} (h : dec_ numB ⟨l, false⟩ = (raw, t)) (h1 : t.bad = true ∨ 0 < t.l.length) : decB l = none := by
  unfold decB
  rw [h, if_pos]
  rcases h1 with h1 | h1
  · exact .inl h1
  · exact .inr fun e => by simp only at e; rw [e] at h1; simp at h1
theorem de_some {l : List Nat} {raw : Raw} {t : Rst} (h : dec_ numB ⟨l, false⟩ = (raw, t)) (h1 : t.bad = false) (h2 : t.l.length = 0) : decB l = some raw := by
  have e : t.l = [] := List.eq_nil_of_length_eq_zero h2
  have := decB_some (l := l) (by rw [h]; exact h1) (by rw [h]; exact e)
  rw [this, h]
/-- What Decode answers. -/
def DePost (w : World) (l : List Nat) (r : Ending) (w' : World) : Prop := Below w.heap.size w w' ∧
  (((decB l = none ∨ 2000 < l.length) ∧ r = .returned (.tuple #[.agg planZ, .iface 28 (.int .i64 3)])) ∨
  (∃ raw, decB l = some raw ∧ l.length ≤ 2000 ∧ (chk (plO raw)).1 ≠ 0 ∧ ∃ v, r = .returned (.tuple #[.agg planZ, v]) ∧ AtV w' v (chk (plO raw)).1 (chk (plO raw)).2) ∨
  (∃ raw, decB l = some raw ∧ l.length ≤ 2000 ∧ (chk (plO raw)).1 = 0 ∧ ∃ A c AL cl AQ cq, r = .returned (.tuple #[.agg (planC (plO raw).nd (plO raw).fa (plO raw).sk (plO raw).ji (plO raw).dr (plO raw).rd (.slice A (plO raw).sl.length c) (.slice AL (plO raw).lk.length cl) (plO raw).fr (.slice AQ (plO raw).wn.length cq)), .nilIface]) ∧
    SlotsAt w' A (plO raw).sl.length (plO raw).sl ∧ LinksAt w' AL (plO raw).lk.length (plO raw).lk ∧ WinsAt w' AQ (plO raw).wn.length (plO raw).wn))
theorem check_raw (a1 a2 a3 a4 a5 a6 f : Nat) (b1 b2 b4 : List (List Nat)) (B1 B2 B4 : Option Addr) (e1 e2 e4 : Nat) (w : World) (base1 base2 base4 : Nat) (h1 : w.ownsRow base1 66 3 (.slice B1 b1.length e1) b1.length (rc b1)) (h2 : w.ownsRow base2 68 4 (.slice B2 b2.length e2) b2.length (rc b2)) (h4 : w.ownsRow base4 70 3 (.slice B4 b4.length e4) b4.length (rc b4))
    (w1 : ∀ x ∈ b1, x.length = 3) (w2 : ∀ x ∈ b2, x.length = 4) (w4 : ∀ x ∈ b4, x.length = 3) (raw : Raw) (hr : raw = ([a1, a2, a3, a4, a5, a6], b1, b2, f, b4)) :
    Calls Tryd.prog 33 #[.agg #[.int .i64 (a1 : Nat), .int .i64 (a2 : Nat), .int .i64 (a3 : Nat), .int .i64 (a4 : Nat), .int .i64 (a5 : Nat), .int .i64 (a6 : Nat), .slice B1 b1.length e1, .slice B2 b2.length e2, .int .i64 (f : Nat), .slice B4 b4.length e4]] w (PcPost w (chk (plO raw))) := by
  subst hr
  obtain ⟨A, c, hv, hS⟩ := slots_of h1 w1
  cases hv
  obtain ⟨A, c, hv, hL⟩ := links_of h2 w2
  cases hv
  obtain ⟨A, c, hv, hW⟩ := wins_of h4 w4
  cases hv
  exact check_any (plO ([a1, a2, a3, a4, a5, a6], b1, b2, f, b4)) B1 b1.length e1 B2 b2.length e2 B4 b4.length e4 w (by simp [plO]) (by simp [plO]) (by simp [plO]) hS hL hW
theorem own_fin {w wa wb : World} {base size n : Nat} {e : TypeId} {v : Value} {xs : List Value} (h : wa.ownsRow base e size v n xs) (hB : Below wa.heap.size wa wb) (hb : w.heap.size < base) (a0 a1 a2 a3 a4 a5 a6 a7 a8 a9 : Value) : (set10 wb w.heap.size a0 a1 a2 a3 a4 a5 a6 a7 a8 a9).ownsRow base e size v n xs :=
  own_keep h fun g hg hlt => (set10_heap wb w.heap.size g (by omega) _ _ _ _ _ _ _ _ _ _).trans (hB.block g hlt)
theorem at_fin {w wb : World} {v : Value} {e pl : Int} (h : AtV wb v e pl) (hz : ∀ g, v = .iface 95 (.pointer (some ⟨g, 0, none⟩)) → g ≠ w.heap.size) (a0 a1 a2 a3 a4 a5 a6 a7 a8 a9 : Value) : AtV (set10 wb w.heap.size a0 a1 a2 a3 a4 a5 a6 a7 a8 a9) v e pl := by
  rcases h with h | ⟨g, h, hb⟩
  · exact .inl h
  · exact .inr ⟨g, h, (set10_heap wb w.heap.size g (hz g h) _ _ _ _ _ _ _ _ _ _).trans hb⟩
theorem at_ne {wb : World} {v : Value} {e pl : Int} {z : Nat} {cs : Array Value} (h : AtV wb v e pl) (hz : Blk wb z 27 cs) : ∀ g, v = .iface 95 (.pointer (some ⟨g, 0, none⟩)) → g ≠ z := by
  rintro g hv rfl
  rcases h with ⟨_, h⟩ | ⟨g', h, hb⟩
  · rw [hv] at h; cases h
  · rw [hv] at h; cases h
    unfold Blk at hb hz
    rw [hb] at hz; cases hz
theorem de_fin {w W : World} {l : List Nat} {a1 a2 a3 a4 a5 a6 f : Nat} {b1 b2 b4 : List (List Nat)} {B1 B2 B4 : Option Addr} {e1 e2 e4 base1 base2 base4 : Nat} (h1 : W.ownsRow base1 66 3 (.slice B1 b1.length e1) b1.length (rc b1)) (h2 : W.ownsRow base2 68 4 (.slice B2 b2.length e2) b2.length (rc b2)) (h4 : W.ownsRow base4 70 3 (.slice B4 b4.length e4) b4.length (rc b4))
    (w1 : ∀ x ∈ b1, x.length = 3) (w2 : ∀ x ∈ b2, x.length = 4) (w4 : ∀ x ∈ b4, x.length = 3) (hB : Below w.heap.size w W) (raw : Raw) (hr : raw = ([a1, a2, a3, a4, a5, a6], b1, b2, f, b4)) (hd : decB l = some raw) (hl : l.length ≤ 2000) (hc : (chk (plO raw)).1 = 0) :
    DePost w l (.returned (.tuple #[.agg #[.int .i64 (a1 : Nat), .int .i64 (a2 : Nat), .int .i64 (a3 : Nat), .int .i64 (a4 : Nat), .int .i64 (a5 : Nat), .int .i64 (a6 : Nat), .slice B1 b1.length e1, .slice B2 b2.length e2, .int .i64 (f : Nat), .slice B4 b4.length e4], .nilIface])) W := by
  refine ⟨hB, .inr (.inr ⟨raw, hd, hl, hc, ?_⟩)⟩
  subst hr
  obtain ⟨A, c, hv, hS⟩ := slots_of h1 w1
  cases hv
  obtain ⟨A, c, hv, hL⟩ := links_of h2 w2
  cases hv
  obtain ⟨A, c, hv, hW⟩ := wins_of h4 w4
  cases hv
  refine ⟨B1, e1, B2, e2, B4, e4, ?_, ?_, ?_, ?_⟩
  · simp [plO, planC]
  · simpa [plO] using hS
  · simpa [plO] using hL
  · simpa [plO] using hW
end Go.Proofs.YtfdadkngbnhmeaaDoor
