/- What metronomekeep.AgreeHalves computes, in plain words, and that it holds; no condition. -/
import Derived.Test.YtfdadkngbnhmeaaDoorHb
import Derived.Laws.MakeOwn
namespace Go.Proofs.YtfdadkngbnhmeaaDoor
open Go Go.RowKit

def nowF (zs : List Int) (i : Nat) : Int := (pck (zs.getD i 0) 1073741824 : Int) - 536870912
def nowL (zs : List Int) (k : Nat) : List Int := (List.range k).map (nowF zs)
theorem nowL_succ (zs : List Int) (k : Nat) : nowL zs (k + 1) = nowL zs k ++ [nowF zs k] := by simp [nowL, List.range_succ]
theorem nowL_zero (zs : List Int) : nowL zs 0 = [] := rfl
theorem nowL_len (zs : List Int) (k : Nat) : (nowL zs k).length = k := by simp [nowL]
theorem nowF_bd (zs : List Int) (i : Nat) : -536870912 ≤ nowF zs i ∧ nowF zs i < 536870912 := by
  have := pck_lt (zs.getD i 0) (n := 1073741824) (by omega)
  unfold nowF; omega
theorem nowL_get (zs : List Int) {i k : Nat} (h : i < k) : (nowL zs k).getD i 0 = nowF zs i := by simp [nowL, List.getD, h]
/-- How node i reads node k. -/
def rowF (zs ls ws : List Int) (f u n i k : Nat) : Int := if k < f then (pck (atL ls (i * n + k : Nat)) 17179869184 : Int) - 8589934592 else nowF zs k - nowF zs i + ((pck (atL ws (i * n + k : Nat)) (2 * u + 1) : Int) - u)
theorem rowF_eq (zs ls ws : List Int) {f u n i k q : Nat} (hq : i * n = q) : rowF zs ls ws f u n i k = if k < f then (pck (atL ls ((q + k : Nat) : Int)) 17179869184 : Int) - 8589934592 else nowF zs k - nowF zs i + ((pck (atL ws ((q + k : Nat) : Int)) (2 * u + 1) : Int) - u) := by subst hq; rfl
theorem nowF_eq (zs : List Int) {i : Nat} {x : Int} (h : zs.getD i 0 = x) : nowF zs i = (pck x 1073741824 : Int) - 536870912 := by unfold nowF; rw [h]
theorem rowF_bd (zs ls ws : List Int) {f u n i k : Nat} (hu : u < 1000) : -8589934592 ≤ rowF zs ls ws f u n i k ∧ rowF zs ls ws f u n i k ≤ 8589934592 := by
  have h1 := pck_lt (atL ls (i * n + k : Nat)) (n := 17179869184) (by omega)
  have h2 := pck_lt (atL ws (i * n + k : Nat)) (n := 2 * u + 1) (by omega)
  have h3 := nowF_bd zs i
  have h4 := nowF_bd zs k
  unfold rowF
  split <;> omega
def rowL (zs ls ws : List Int) (f u n i k : Nat) : List Int := (List.range k).map (rowF zs ls ws f u n i)
theorem rowL_succ (zs ls ws : List Int) (f u n i k : Nat) : rowL zs ls ws f u n i (k + 1) = rowL zs ls ws f u n i k ++ [rowF zs ls ws f u n i k] := by simp [rowL, List.range_succ]
theorem rowL_len (zs ls ws : List Int) (f u n i k : Nat) : (rowL zs ls ws f u n i k).length = k := by simp [rowL]
/-- What those that are right show, of the first i. -/
def rightL (zs : List Int) (f i : Nat) : List Int := (List.range (i - f)).map fun t => nowF zs (f + t)
theorem rightL_succ (zs : List Int) {f i : Nat} (h : f ≤ i) : rightL zs f (i + 1) = rightL zs f i ++ [nowF zs i] := by
  unfold rightL
  rw [show i + 1 - f = (i - f) + 1 by omega, List.range_succ]
  simp [show f + (i - f) = i by omega]
theorem rightL_stay (zs : List Int) {f i : Nat} (h : i < f) : rightL zs f (i + 1) = rightL zs f i := by unfold rightL; rw [show i + 1 - f = 0 by omega, show i - f = 0 by omega]
theorem rightL_len (zs : List Int) (f i : Nat) : (rightL zs f i).length = i - f := by simp [rightL]
theorem rightL_get (zs : List Int) {f i t : Nat} (h : t < i - f) : (rightL zs f i).getD t 0 = nowF zs (f + t) := by simp [rightL, List.getD, h]
/-- The rows when row i holds k numbers. -/
def Rin (zs ls ws : List Int) (f u n i k : Nat) (j : Nat) : List Int := if j = n then rightL zs f i else if j < i then rowL zs ls ws f u n j n else if j = i then rowL zs ls ws f u n i k else []
theorem Rin_zero (zs ls ws : List Int) (f u n j : Nat) : Rin zs ls ws f u n 0 0 j = [] := by
  unfold Rin
  split
  · unfold rightL; simp
  · rw [if_neg (by omega)]
    split <;> simp [rowL]
theorem Rin_row (zs ls ws : List Int) {f u n i m : Nat} (hi : i < n) : Rin zs ls ws f u n i m i = rowL zs ls ws f u n i m := by
  unfold Rin
  rw [if_neg (by omega), if_neg (by omega), if_pos rfl]
theorem Rin_right (zs ls ws : List Int) {f u n i m : Nat} : Rin zs ls ws f u n i m n = rightL zs f i := by
  unfold Rin
  rw [if_pos rfl]
theorem Rin_step (zs ls ws : List Int) {f u n i m : Nat} (hi : i < n) (j : Nat) : upd (Rin zs ls ws f u n i m) i (Rin zs ls ws f u n i m i ++ [rowF zs ls ws f u n i m]) j = Rin zs ls ws f u n i (m + 1) j := by
  rw [Rin_row zs ls ws hi, ← rowL_succ]
  unfold upd
  by_cases e : j = i
  · subst e
    rw [if_pos rfl, Rin_row zs ls ws hi]
  · rw [if_neg e]
    unfold Rin
    simp only [if_neg e]
theorem Rin_next (zs ls ws : List Int) {f u n i : Nat} (_hi : i < n) (hf : f ≤ i) (j : Nat) : upd (Rin zs ls ws f u n i n) n (Rin zs ls ws f u n i n n ++ [nowF zs i]) j = Rin zs ls ws f u n (i + 1) 0 j := by
  rw [Rin_right, ← rightL_succ zs hf]
  unfold upd Rin
  by_cases e : j = n
  · rw [if_pos e, if_pos e]
  · rw [if_neg e, if_neg e, if_neg e]
    by_cases e1 : j < i
    · rw [if_pos e1, if_pos (by omega)]
    · rw [if_neg e1]
      by_cases e2 : j = i
      · rw [if_pos e2, if_pos (by omega), e2]
      · rw [if_neg e2, if_neg (by omega)]
        split <;> simp [rowL]
theorem Rin_stay (zs ls ws : List Int) {f u n i : Nat} (hf : i < f) (j : Nat) : Rin zs ls ws f u n i n j = Rin zs ls ws f u n (i + 1) 0 j := by
  unfold Rin
  by_cases e : j = n
  · rw [if_pos e, if_pos e, rightL_stay zs hf]
  · rw [if_neg e, if_neg e]
    by_cases e1 : j < i
    · rw [if_pos e1, if_pos (by omega)]
    · rw [if_neg e1]
      by_cases e2 : j = i
      · rw [if_pos e2, if_pos (by omega), e2]
      · rw [if_neg e2, if_neg (by omega)]
        split <;> simp [rowL]
theorem rows_info : (Tryd.prog.info? 40).map (fun i => (i.zero, i.size, i.bytes)) = some (some (.slice none 0 0), 1, 24) := by kernel_rfl
theorem make_rows (n : Nat) (hn : n ≤ 1000) : ∃ cs : Array Value, (∀ w : World, (Instr.makeSlice 47 (.int .i64 n) (.int .i64 n)).run Tryd.prog w = .ok (.slice (some ⟨w.heap.size, 0, none⟩) n n) (w.alloc (.cells cs 40))) ∧ cs.size = n ∧ ∀ k, k < n → cs[k]? = some (.slice none 0 0) := by
  obtain ⟨i0, hi, hz0, hz1, hz2⟩ := en_info_parts rows_info
  refine ⟨madeCells (Value.slice none 0 0).cells ((n : Int).toNat * i0.size), fun w => ?_, by rw [size_madeCells, hz1]; simp, ?_⟩
  · have := run_makeSlice (P := Tryd.prog) w 47 40 i0 (.slice none 0 0) Tryd.underlying47 hi hz0 .i64 .i64 n n (by omega) (by omega) (by rw [hz1]; simp; omega) (by rw [hz2]; simp; omega) (by omega)
    simpa using this
  · intro k hk
    rw [hz1]
    simp [madeCells, Value.cells]
    exact ⟨k, by simp [hk], by rw [Nat.mod_one]; rfl⟩
theorem HvAt.start {w7 : World} {n : Nat} {cs : Array Value} (h1 : cs.size = n) (h2 : ∀ k, k < n → cs[k]? = some (.slice none 0 0)) : HvAt w7 (w7.alloc (.cells cs 40)) n (fun _ => .slice none 0 0) (fun _ => []) :=
  ⟨⟨fun _ _ => World.ownsRow_nil _ _ _ _, fun _ _ _ _ _ => .inl rfl⟩, ⟨cs, Blk.new w7 _ _, h1, h2⟩, (Below.refl _ _).alloc (Nat.le_refl _) _⟩
theorem isl_get {w : World} {g : Nat} {zs : List Int} (h : IsL w (some ⟨g, 0, none⟩) zs) {j : Nat} (hj : j < zs.length) : w.cell? ⟨g, j, none⟩ = some (.int .i64 (zs.getD j 0)) := by
  obtain ⟨b, off, e, hc⟩ := h j hj
  cases e
  rw [Nat.zero_add] at hc
  exact hc
end Go.Proofs.YtfdadkngbnhmeaaDoor
