/- slices.Sorted(slices.Values(l)) and sort.Ints at numbers; conditions: the numbers lie in memory. -/
import Derived.Test.YtfdadkngbnhmeaaDoorShl
import Derived.Test.YtfdadkngbnhmeaaDoorSq
import Derived.Test.YtfdadkngbnhmeaaDoorLib
import Derived.Test.YtfdadkngbnhmeaaDoorAm
import Derived.Sort.OwnSortedInts
import Derived.LoopIn
import Derived.LoopNIn
import Derived.TacticsInMore
import Derived.OwnWalkIn
import Derived.RangeFuncLeaves
namespace Go.Proofs.YtfdadkngbnhmeaaDoor
open Go Go.RowKit Go.Maps Go.Sort Go.Shelf

/-- These numbers lie in memory. -/
def IsL (w : World) (A : Option Addr) (zs : List Int) : Prop := ∀ j, j < zs.length → ∃ b off, A = some ⟨b, off, none⟩ ∧ w.cell? ⟨b, off + j, none⟩ = some (.int .i64 (zs.getD j 0))
theorem IsL.below {B : Nat} {w w' : World} {A : Option Addr} {zs : List Int} (h : IsL w A zs) (hw : w.heap.size ≤ B) (hB : Below B w w') : IsL w' A zs := fun j hj => by
  obtain ⟨b, off, e, hc⟩ := h j hj
  exact ⟨b, off, e, (hB.cell (p := ⟨b, off + j, none⟩) (Nat.lt_of_lt_of_le (World.block_lt_of_cell? _ _ hc) hw)).trans hc⟩

set_option maxRecDepth 100000 in
theorem values_at (A : Option Addr) (n c : Nat) (w : World) :
    Calls Tryd.prog 40 #[.slice A n c] w fun e w' => e = .returned (.func (.func 52) #[] #[.pointer (some ⟨w.heap.size, 0, none⟩)]) ∧ w' = w.alloc (.cells #[.slice A n c] 40) := by
  go_enter Tryd.func40, Tryd.ntmps40
  go_wp2_with fail
  go_ret
  exact ⟨rfl, rfl⟩
attribute [local go_sem] Oper.semAt_some
set_option maxRecDepth 100000 in
set_option maxHeartbeats 2000000 in
theorem vals_gives (F : Fence) (n : Nat) (h : F.fn 52) (hro : F.round = none) (hn : 1 ≤ n) (Bs : Nat) (A : Option Addr) (cap : Nat) (zs : List Int) (w : World) (hmax : zs.length ≤ 9223372036854775807) (hBs : Bs < w.heap.size)
    (hc : w.cell? ⟨Bs, 0, none⟩ = some (.slice A zs.length cap)) (hI : IsL w A zs) :
    SeqGivesB F n Tryd.prog 52 #[.pointer (some ⟨Bs, 0, none⟩)] encZ (fun ys => ys = zs) zs.length w := fun l J W hW _ hBJ hY h0 => by
  have hcW : W.cell? ⟨Bs, 0, none⟩ = some (.slice A zs.length cap) := (hW.cell (p := ⟨Bs, 0, none⟩) hBs).trans hc
  show CallsIn F n Tryd.prog 52 #[.func (.yield l) #[] #[], .pointer (some ⟨Bs, 0, none⟩)] W _
  refine callsIn_of_wp Tryd.func52 rfl h ?_ hro
  simp only [Tryd.ntmps52, List.size_toArray, List.length_cons, List.length_nil, Nat.reduceAdd, Nat.reduceSub, Array.replicate_succ, Array.replicate_zero, List.push_toArray, List.append_toArray, List.nil_append, List.cons_append]
  gi_wp2
  gi_loopw [7] (fun i wr => ∃ k : Nat, k ≤ zs.length ∧ i = .int .i64 k ∧ J (zs.take k) wr) (fun i _ => zs.length - (intOf i).toNat)
  case atStart => exact ⟨0, Nat.zero_le _, rfl, by simpa using h0⟩
  case round =>
    obtain ⟨k, hk, rfl, hJs⟩ := hrel
    by_cases hlt : k < zs.length
    · obtain ⟨b, off, rfl, hcell⟩ := hI k hlt
      have hcx := ((hBJ _ _ hJs).cell (p := ⟨b, off + k, none⟩) (World.block_lt_of_cell? _ _ hcell)).trans hcell
      have hlt2 : (k : Int) < (zs.length : Int) := by omega
      have e : zs.take (k + 1) = zs.take k ++ [zs.getD k 0] := by rw [List.take_add_one]; simp [List.getD, List.getElem?_eq_getElem hlt]
      have HL := hide hlt; clear hlt
      obtain ⟨x, hx⟩ : ∃ x, zs.getD k 0 = x := ⟨_, rfl⟩
      rw [hx] at e hcx
      have HE := hide e
      obtain ⟨fn, tmps, assign, body, hy, hR⟩ := hY _ x wr hJs (by have := HL.out; simp; omega)
      clear hI hc hBJ e hx hcell
      gi_wp2
      refine hR.mono ?_
      rintro e W3 ⟨rfl, hJ3, hk3⟩
      gi_wp2
      go_roundw
      case rel => exact ⟨k + 1, by have := HL.out; omega, by simp, by rw [HE.out]; exact hJ3⟩
      case measure => simp [intOf]; omega
    · obtain rfl : k = zs.length := by omega
      gi_wp2
      go_end0
      exact ⟨⟨_, rfl⟩, _, rfl, by simpa using hJs⟩
theorem sort_in (m : Nat) : AnyZI.SortsIn Tryd.prog Tryd.srtdL_ren Fence.wide m :=
  ⟨fun blk off cap ss W hH hblk hsz => callsIn_wide.2 (AnyM.slices_Sort_int Tryd.sortL blk off cap ss W hH hblk hsz), fun p cap W => callsIn_wide.2 (AnyM.slices_Sort_int_none Tryd.sortL p cap W)⟩
/-- slices.Sorted(slices.Values(l)) -/
theorem sorted_at (A : Option Addr) (cap : Nat) (zs : List Int) (w : World) (hmax : zs.length ≤ 1000) (hI : IsL w A zs) :
    Calls Tryd.prog 39 #[.func (.func 52) #[] #[.pointer (some ⟨w.heap.size, 0, none⟩)]] (w.alloc (.cells #[.slice A zs.length cap] 40)) fun e w' => ∃ v, e = .returned v ∧
      w'.ownsRow (w.heap.size + 1) 3 1 v zs.length ((srt zs).map (Value.int .i64)) ∧ Below w.heap.size w w' := by
  refine (callsIn_wide (n := 5)).1 ?_
  have hb : Below w.heap.size w (w.alloc (.cells #[.slice A zs.length cap] 40)) := (Below.refl _ w).alloc (Nat.le_refl _) _
  have hseq := vals_gives Fence.wide 2 trivial rfl (by omega) w.heap.size A cap zs (w.alloc (.cells #[.slice A zs.length cap] 40)) (by omega) (by simp) (Blk.new w 40 #[.slice A zs.length cap]).cells1.1 (hI.below (Nat.le_refl _) hb)
  have cS := sorted_b Tryd.srtdL Fence.wide 5 trivial trivial trivial trivial rfl (by omega) (sort_in _) (enters_of Tryd.func49 (by kernel_rfl) rfl) 52 #[.pointer (some ⟨w.heap.size, 0, none⟩)] trivial (enters_of Tryd.func52 (by kernel_rfl) rfl) _ _ (by unfold maxLen; omega) (by omega) _ hseq
  refine cS.mono ?_
  rintro e w' ⟨v, ss, rfl, rfl, hrow, -, hB⟩
  refine ⟨v, rfl, ?_, hb.trans (hB.mono (by simp))⟩
  have : (w.alloc (.cells #[.slice A ss.length cap] 40)).heap.size = w.heap.size + 1 := by simp
  rw [this] at hrow
  exact hrow
theorem block_of_own {w : World} {base n : Nat} {e : TypeId} {v : Value} {xs : List Value} (h : w.ownsRow base e 1 v n xs) (hn : 0 < n) : ∃ g c cur, v = .slice (some ⟨g, 0, none⟩) n c ∧ base ≤ g ∧ w.heap[g]? = some (.cells cur e (0, 0)) ∧ n ≤ c ∧ c ≤ maxLen ∧ cur.size = c * 1 ∧ cur.toList.take (n * 1) = xs := by
  rcases h.2 with ⟨_, h0⟩ | ⟨g, c, cur, rfl, hb, hg, h1, h2, h3, h4⟩
  · omega
  · exact ⟨g, c, cur, rfl, hb, hg, h1, h2, h3, h4⟩
/-- sort.Ints at numbers of one's own -/
theorem ints_at (base : Nat) (v : Value) (zs : List Int) (w : World) (hmax : zs.length ≤ 1000) (h : w.ownsRow base 3 1 v zs.length (zs.map (Value.int .i64))) (h0 : 0 < zs.length) :
    Calls Tryd.prog 36 #[v] w fun e w' => e = .returned (.tuple #[]) ∧ w'.ownsRow base 3 1 v zs.length ((srt zs).map (Value.int .i64)) ∧ w.grownBy w' v.ownBlock := by
  obtain ⟨g, c, cur, rfl, hb, hg, h1, h2, h3, h4⟩ := block_of_own h h0
  have hH : Holds (Value.int .i64) w g 0 zs.toArray := holds_of_blockI hg (by simpa using h4)
  refine (Any.sort_Ints Tryd.intsL g 0 c zs w hH (Array.getElem?_eq_some_iff.1 hg).1 (by omega)).mono ?_
  rintro e w' ⟨rfl, nn, os, rfl⟩
  exact ⟨rfl, ownsRow_sortedI (by simp) hb hg h1 h2 h3, grownBy_sortedI _⟩
end Go.Proofs.YtfdadkngbnhmeaaDoor
