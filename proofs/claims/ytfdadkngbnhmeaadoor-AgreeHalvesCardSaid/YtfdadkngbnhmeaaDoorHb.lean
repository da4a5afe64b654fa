/- Rows of numbers that a call builds, each in memory of its own, and a slice of them; no condition. -/
import Derived.Test.YtfdadkngbnhmeaaDoorHa
import Derived.Test.YtfdadkngbnhmeaaDoorAo
namespace Go.Proofs.YtfdadkngbnhmeaaDoor
open Go Go.RowKit

theorem own_keepH {w w' : World} {base size n : Nat} {e : TypeId} {v : Value} {xs : List Value} (h : w.ownsRow base e size v n xs) (hk : ∀ g, v.ownBlock = some g → w'.heap[g]? = w.heap[g]?) : w'.ownsRow base e size v n xs := by
  refine ⟨h.1, ?_⟩
  rcases h.2 with h1 | ⟨g, cap, cur, rfl, hb, hg, rest⟩
  · exact .inl h1
  · exact .inr ⟨g, cap, cur, rfl, hb, (hk g rfl).trans hg, rest⟩
/-- Rows 0 to n, each in memory of its own. -/
structure Fam (w : World) (base n : Nat) (V : Nat → Value) (R : Nat → List Int) : Prop where
  own : ∀ j, j ≤ n → w.ownsRow base 3 1 (V j) (R j).length ((R j).map (Value.int .i64))
  ne : ∀ i j, i ≤ n → j ≤ n → i ≠ j → (V i).ownBlock = none ∨ (V i).ownBlock ≠ (V j).ownBlock
theorem Fam.keep {w w' : World} {base n : Nat} {V : Nat → Value} {R : Nat → List Int} (h : Fam w base n V R) (hk : ∀ g, base ≤ g → g < w.heap.size → w'.heap[g]? = w.heap[g]?) : Fam w' base n V R :=
  ⟨fun j hj => own_keepH (h.own j hj) fun g e => hk g ((h.own j hj).lt g e).1 ((h.own j hj).lt g e).2, h.ne⟩
theorem Fam.congr {w : World} {base n : Nat} {V : Nat → Value} {R R' : Nat → List Int} (h : Fam w base n V R) (e : ∀ j, j ≤ n → R j = R' j) : Fam w base n V R' :=
  ⟨fun j hj => by rw [← e j hj]; exact h.own j hj, h.ne⟩
def upd {α : Type} (V : Nat → α) (i : Nat) (v : α) : Nat → α := fun j => if j = i then v else V j
theorem Fam.push {w w8 : World} {base n i : Nat} {V : Nat → Value} {R : Nat → List Int} {v8 : Value} {x : Int} (h : Fam w base n V R) (hi : i ≤ n)
    (hown : w8.ownsRow base 3 1 v8 ((R i).length + 1) ((R i).map (Value.int .i64) ++ [.int .i64 x])) (hg : w.grownBy w8 (V i).ownBlock) (hw : v8.ownBlock = (V i).ownBlock ∨ ∀ k, v8.ownBlock = some k → w.heap.size ≤ k) :
    Fam w8 base n (upd V i v8) (upd R i (R i ++ [x])) := by
  have hlt : ∀ j, j ≤ n → ∀ k, (V j).ownBlock = some k → k < w.heap.size := fun j hj k e => ((h.own j hj).lt k e).2
  refine ⟨fun j hj => ?_, fun a b ha hb hab => ?_⟩
  · unfold upd
    by_cases e : j = i
    · rw [if_pos e, if_pos e]
      simpa using hown
    · rw [if_neg e, if_neg e]
      refine own_keepH (h.own j hj) fun g eg => hg.block g (hlt j hj g eg) ?_
      rcases h.ne j i hj hi e with h1 | h1
      · rw [h1] at eg; cases eg
      · rw [eg] at h1; exact h1
  · unfold upd
    by_cases ea : a = i
    · have eb : b ≠ i := fun e => hab (ea.trans e.symm)
      rw [if_pos ea, if_neg eb]
      rcases hw with hw | hw
      · rw [hw, ← ea]; exact h.ne a b ha hb hab
      · cases e : v8.ownBlock with
        | none => exact .inl rfl
        | some k => exact .inr fun e2 => by have := hlt b hb k e2.symm; have := hw k e; omega
    · rw [if_neg ea]
      by_cases eb : b = i
      · rw [if_pos eb]
        rcases hw with hw | hw
        · rw [hw, ← eb]; exact h.ne a b ha hb hab
        · cases e : (V a).ownBlock with
          | none => exact .inl rfl
          | some k => exact .inr fun e2 => by have := hlt a ha k e; have := hw k e2.symm; omega
      · rw [if_neg eb]; exact h.ne a b ha hb hab
/-- What the law keeps: a slice of n rows at block w7.heap.size, and a row more. -/
structure HvAt (w7 wr : World) (n : Nat) (V : Nat → Value) (R : Nat → List Int) : Prop where
  fam : Fam wr (w7.heap.size + 1) n V R
  hd : ∃ H, Blk wr w7.heap.size 40 H ∧ H.size = n ∧ ∀ j, j < n → H[j]? = some (V j)
  old : Below w7.heap.size w7 wr
section
variable {w7 wr w8 : World} {n i : Nat} {V : Nat → Value} {R : Nat → List Int} {v8 : Value} {x : Int}
theorem HvAt.sz (h : HvAt w7 wr n V R) : w7.heap.size < wr.heap.size := by obtain ⟨H, hb, _⟩ := h.hd; exact hb.lt
theorem HvAt.cell (h : HvAt w7 wr n V R) {j : Nat} (hj : j < n) : wr.cell? ⟨w7.heap.size, j, none⟩ = some (V j) := by
  obtain ⟨H, hb, _, hH⟩ := h.hd
  rw [hb.cell j, hH j hj]
theorem HvAt.frozen (h : HvAt w7 wr n V R) (j : Nat) : wr.frozen? ⟨w7.heap.size, j, none⟩ = false := by obtain ⟨H, hb, _⟩ := h.hd; exact hb.frozen j
theorem HvAt.drewN (h : HvAt w7 wr n V R) (q : Nat) : HvAt w7 (wr.drewN q) n V R := ⟨h.fam.keep fun _ _ _ => rfl, by obtain ⟨H, hb, h2⟩ := h.hd; exact ⟨H, hb.drewN q, h2⟩, below_drewN h.old q⟩
theorem HvAt.alloc (h : HvAt w7 wr n V R) (o : Obj) : HvAt w7 (wr.alloc o) n V R :=
  ⟨h.fam.keep fun g _ hl => Below.heap_alloc wr o g hl, by obtain ⟨H, hb, h2⟩ := h.hd; exact ⟨H, hb.alloc o, h2⟩, h.old.alloc (Nat.le_of_lt h.sz) o⟩
theorem HvAt.congr {R' : Nat → List Int} (h : HvAt w7 wr n V R) (e : ∀ j, j ≤ n → R j = R' j) : HvAt w7 wr n V R' := ⟨h.fam.congr e, h.hd, h.old⟩
theorem HvAt.nh (h : HvAt w7 wr n V R) (hi : i ≤ n) : some w7.heap.size ≠ (V i).ownBlock := fun e => by have := ((h.fam.own i hi).lt _ e.symm).1; omega
/-- A number more in the last row. -/
theorem HvAt.last (h : HvAt w7 wr n V R) (hown : w8.ownsRow (w7.heap.size + 1) 3 1 v8 ((R n).length + 1) ((R n).map (Value.int .i64) ++ [.int .i64 x])) (hg : wr.grownBy w8 (V n).ownBlock) (hw : v8.ownBlock = (V n).ownBlock ∨ ∀ k, v8.ownBlock = some k → wr.heap.size ≤ k) :
    HvAt w7 w8 n (upd V n v8) (upd R n (R n ++ [x])) :=
  ⟨h.fam.push (Nat.le_refl _) hown hg hw, by
    obtain ⟨H, hb, h2, h3⟩ := h.hd
    exact ⟨H, hb.grown hg (h.nh (Nat.le_refl _)), h2, fun j hj => by unfold upd; rw [if_neg (by omega)]; exact h3 j hj⟩,
   h.old.grown hg (Nat.le_of_lt h.sz) (fun k e => by have := ((h.fam.own n (Nat.le_refl _)).lt k e).1; omega)⟩
/-- A number more in row i. -/
theorem HvAt.row (h : HvAt w7 wr n V R) (hi : i < n) (hown : w8.ownsRow (w7.heap.size + 1) 3 1 v8 ((R i).length + 1) ((R i).map (Value.int .i64) ++ [.int .i64 x])) (hg : wr.grownBy w8 (V i).ownBlock) (hw : v8.ownBlock = (V i).ownBlock ∨ ∀ k, v8.ownBlock = some k → wr.heap.size ≤ k) :
    HvAt w7 (w8.setCell ⟨w7.heap.size, i, none⟩ v8) n (upd V i v8) (upd R i (R i ++ [x])) := by
  have hf := h.fam.push (Nat.le_of_lt hi) hown hg hw
  refine ⟨hf.keep fun g hb _ => Below.heap_setCell w8 _ v8 g (by show g ≠ w7.heap.size; omega), ?_, ?_⟩
  · obtain ⟨H, hb, h2, h3⟩ := h.hd
    refine ⟨H.setIfInBounds i v8, (hb.grown hg (h.nh (Nat.le_of_lt hi))).set_ i v8, by rw [Array.size_setIfInBounds]; exact h2, fun j hj => ?_⟩
    unfold upd
    by_cases e : j = i
    · subst e
      rw [if_pos rfl, Array.getElem?_setIfInBounds_self, if_pos (by omega)]
    · rw [if_neg e, Array.getElem?_setIfInBounds_ne (Ne.symm e)]
      exact h3 j hj
  · exact (h.old.grown hg (Nat.le_of_lt h.sz) (fun k e => by have := ((h.fam.own i (Nat.le_of_lt hi)).lt k e).1; omega)).setCell (Nat.le_refl _) _
end
end Go.Proofs.YtfdadkngbnhmeaaDoor
