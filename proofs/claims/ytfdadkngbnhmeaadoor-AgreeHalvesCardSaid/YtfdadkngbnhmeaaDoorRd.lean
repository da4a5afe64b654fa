/- What agree.Round and metronomeref.Set compute, in plain words; the contracts of agree.one and metronomelaw.sameInts; conditions: the numbers lie in memory. -/
import Derived.Test.YtfdadkngbnhmeaaDoorAr
import Derived.Test.YtfdadkngbnhmeaaDoorAv
import Derived.BigQuiet
namespace Go.Proofs.YtfdadkngbnhmeaaDoor
open Go Go.RowKit

/-- What is wrong with a clock, or its row. -/
def setE (n : Nat) (f c : Int) (r : List Int) : Int := if r.length ≠ n then 1 else if outT c = true then 2 else midE r f
/-- Rows of numbers lie in memory. -/
def RowsAt (w : World) (B : Option Addr) (rs : List (List Int)) : Prop := ∀ j, j < rs.length → ∃ b off A c, B = some ⟨b, off, none⟩ ∧ w.cell? ⟨b, off + j, none⟩ = some (.slice A (rs.getD j []).length c) ∧ IsL w A (rs.getD j [])
theorem RowsAt.below {B : Nat} {w w' : World} {A : Option Addr} {rs : List (List Int)} (h : RowsAt w A rs) (hw : w.heap.size ≤ B) (hB : Below B w w') : RowsAt w' A rs := fun j hj => by
  obtain ⟨b, off, A, c, e, hc, hI⟩ := h j hj
  exact ⟨b, off, A, c, e, (hB.cell (p := ⟨b, off + j, none⟩) (Nat.lt_of_lt_of_le (World.block_lt_of_cell? _ _ hc) hw)).trans hc, hI.below hw hB⟩
/-- What all clocks show behind the first k. -/
def setL (zs : List Int) (rs : List (List Int)) (f : Int) (k : Nat) : List Int := (List.range k).map fun j => zs.getD j 0 + midV (rs.getD j []) f
theorem setL_succ (zs : List Int) (rs : List (List Int)) (f : Int) (k : Nat) : setL zs rs f (k + 1) = setL zs rs f k ++ [zs.getD k 0 + midV (rs.getD k []) f] := by simp [setL, List.range_succ]
theorem setL_len (zs : List Int) (rs : List (List Int)) (f : Int) (k : Nat) : (setL zs rs f k).length = k := by simp [setL]
theorem outT_bd {z : Int} (h : outT z = false) : -1099511627776 ≤ z ∧ z ≤ 1099511627776 := by simpa [outT] using h
theorem midN_bd {zs : List Int} {m : Nat} (h : 2 * m + 1 ≤ zs.length) (ha : zs.any outT = false) : -1099511627776 ≤ midN zs m ∧ midN zs m ≤ 1099511627776 := by
  have h1 := in_bd ha (j := m) (by omega)
  have h2 := in_bd ha (j := zs.length - 1 - m) (by omega)
  unfold midN
  omega
theorem midV_bd (zs : List Int) (f : Int) : -1099511627776 ≤ midV zs f ∧ midV zs f ≤ 1099511627776 := by
  unfold midV
  split
  · rename_i h
    unfold midE at h
    split at h
    · cases h
    · rename_i h1
      split at h
      · cases h
      · rename_i h2
        exact midN_bd (by omega) (by simpa using h2)
  · omega
theorem setE_zero {n : Nat} {f c : Int} {r : List Int} (h : setE n f c r = 0) : r.length = n ∧ outT c = false ∧ midE r f = 0 := by
  unfold setE at h
  split at h
  · cases h
  · rename_i h1
    split at h
    · cases h
    · rename_i h2
      exact ⟨by omega, by simpa using h2, h⟩
set_option maxRecDepth 100000 in
set_option maxHeartbeats 1000000 in
theorem one_any (s : Int) (A : Option Addr) (c : Nat) (r : List Int) (n : Nat) (f : Int) (w : World) (hI : IsL w A r) (hmax : r.length ≤ 100) (hf : f ≤ 9223372036854775807) :
    Calls Tryd.prog 41 #[.int .i64 s, .slice A r.length c, .int .i64 (n : Nat), .int .i64 f] w fun e w' => (∃ v, e = .returned (.tuple #[.int .i64 v, errV (setE n f s r)]) ∧ (setE n f s r = 0 → v = midV r f)) ∧ Below w.heap.size w w' := by
  have HM := hide (mid_any A c r f w hI hmax hf)
  clear hI hf hmax
  obtain ⟨l, hl⟩ : ∃ l, r.length = l := ⟨_, rfl⟩
  have HL := hide hl
  rw [hl] at HM ⊢
  clear hl
  by_cases h1 : l = n
  case neg =>
    have he : setE n f s r = 1 := by unfold setE; rw [if_pos (by rw [HL.out]; exact h1)]
    rw [he]
    have d1 : ((l : Int) != (n : Int)) = true := bne_iff_ne.2 (by omega)
    have d2 : ¬ (l : Int) = (n : Int) := by omega
    clear he HM
    go_enter Tryd.func41, Tryd.ntmps41
    go_wp2_with fail
    go_ret2
    exact ⟨⟨_, ret_two2 rfl errV_1, fun h => by cases h⟩, Below.refl _ _⟩
  case pos =>
    subst h1
    cases ho : outT s
    case true =>
      have he : setE l f s r = 2 := by unfold setE; rw [if_neg (by rw [HL.out]; simp), if_pos ho]
      rw [he]
      clear he HM
      by_cases hs : s < -1099511627776
      · have d1 : decide (s < -1099511627776) = true := decide_eq_true hs
        go_enter Tryd.func41, Tryd.ntmps41
        go_wp2_with fail
        go_ret2
        exact ⟨⟨_, ret_two2 rfl errV_2, fun h => by cases h⟩, Below.refl _ _⟩
      · have d1 : decide (s < -1099511627776) = false := decide_eq_false hs
        have d2 : decide (1099511627776 < s) = true := by unfold outT at ho; rw [d1] at ho; simpa using ho
        go_enter Tryd.func41, Tryd.ntmps41
        go_wp2_with fail
        go_ret2
        exact ⟨⟨_, ret_two2 rfl errV_2⟩, Below.refl _ _⟩
    case false =>
      have he : setE l f s r = midE r f := by unfold setE; rw [if_neg (by rw [HL.out]; simp), if_neg (by rw [ho]; simp)]
      rw [he]
      obtain ⟨b1, b2⟩ := outT_bd ho
      have d1 : decide (s < -1099511627776) = false := decide_eq_false (by omega)
      have d2 : decide (1099511627776 < s) = false := decide_eq_false (by omega)
      clear he ho b1 b2
      go_enter Tryd.func41, Tryd.ntmps41
      go_wp2_with (go_at_call 12; refine HM.out.mono ?_; rintro e w3 ⟨rfl, hB⟩; have HB := hide hB; clear hB)
      go_ret2
      exact ⟨⟨_, rfl, fun _ => rfl⟩, HB.out⟩
set_option maxRecDepth 100000 in
set_option maxHeartbeats 1000000 in
theorem same_ints (A : Option Addr) (c : Nat) (B : Option Addr) (d : Nat) (zs : List Int) (n : Nat) (w : World) (hn : zs.length = n) (hA : IsL w A zs) (hB : IsL w B zs) (hmax : n ≤ 1000) :
    Calls Tryd.prog 16 #[.slice A n c, .slice B n d] w fun e w' => e = .returned (.bool true) ∧ Below w.heap.size w w' := by
  have HA := hide hA; have HB := hide hB; have HN := hide hn
  clear hA hB hn
  go_enter Tryd.func16, Tryd.ntmps16
  go_wp2_with fail
  go_loopw [5] (fun i wr => ∃ k : Nat, k ≤ n ∧ i = .int .i64 k ∧ Hid (Below w.heap.size w wr)) (fun i _ => n - (intOf i).toNat)
  case atStart => exact ⟨0, by omega, rfl, hide (Below.refl _ _)⟩
  case round =>
    obtain ⟨k, hk, rfl, HW⟩ := hrel
    by_cases hlt : k < n
    · obtain ⟨b, off, rfl, hc⟩ := (HA.out.below (Nat.le_refl _) HW.out) k (by rw [HN.out]; exact hlt)
      obtain ⟨b2, off2, rfl, hc2⟩ := (HB.out.below (Nat.le_refl _) HW.out) k (by rw [HN.out]; exact hlt)
      obtain ⟨x, hx⟩ : ∃ x, zs.getD k 0 = x := ⟨_, rfl⟩
      rw [hx] at hc hc2
      clear hx
      go_upto_region 6 with fail
      go_quiet (fail)
      go_wp2_with fail
      go_roundw
      case rel => exact ⟨k + 1, by omega, by go_num, hide (below_drewN HW.out _)⟩
      case measure => simp [intOf]; omega
    · obtain rfl : k = n := by omega
      go_wp2_with fail
      go_ret
      exact ⟨rfl, HW.out⟩
theorem all_succ {p : Nat → Prop} {k : Nat} (h : ∀ j, j < k → p j) (hk : p k) : ∀ j, j < k + 1 → p j := fun j hj => if e : j = k then e ▸ hk else h j (by omega)
theorem own_keepR {w w' : World} {base size n : Nat} {e : TypeId} {v : Value} {xs : List Value} (h : w.ownsRow base e size v n xs) (hB : Below w.heap.size w w') : w'.ownsRow base e size v n xs := by
  refine ⟨h.1, ?_⟩
  rcases h.2 with h1 | ⟨g, cap, cur, hv, hb, hg, rest⟩
  · exact .inl h1
  · exact .inr ⟨g, cap, cur, hv, hb, (hB.block g (Array.getElem?_eq_some_iff.1 hg).1).trans hg, rest⟩
theorem news1 {w : World} {g : Nat} {t : TypeId} {x : Value} (h : Blk w g t #[x]) : ∀ j u, [x][j]? = some u → w.cell? ((⟨g, 0, none⟩ : Addr).add j) = some u := by
  intro j u hu
  cases j with
  | zero => simp at hu; subst hu; exact h.cells1.1
  | succ j => simp at hu
end Go.Proofs.YtfdadkngbnhmeaaDoor
