/- The contract of metronomeref.number, which calls itself; no condition. -/
import Derived.Test.YtfdadkngbnhmeaaDoorEna
import Derived.Test.YtfdadkngbnhmeaaDoorPr
import Derived.Laws.OwnMore
namespace Go.Proofs.YtfdadkngbnhmeaaDoor
open Go.RowKit

theorem rn_own {w : World} {g : Nat} {t : TypeId} {cs : List Value} (h : Blk w g t cs.toArray) {base n : Nat} (hb : base ≤ g) (hn : cs.length = n) (hm : n ≤ maxLen) : w.ownsRow base t 1 (.slice (some ⟨g, 0, none⟩) n n) n cs := by
  refine ⟨by omega, .inr ⟨g, n, cs.toArray, rfl, hb, h, Nat.le_refl _, hm, by simp [hn], ?_⟩⟩
  rw [Nat.mul_one, ← hn]; simp
theorem rn_news {w : World} {g : Nat} {t : TypeId} {cs : List Value} (h : Blk w g t cs.toArray) : ∀ j u, cs[j]? = some u → w.cell? ((⟨g, 0, none⟩ : Addr).add j) = some u := by
  intro j u hu
  have : (⟨g, 0, none⟩ : Addr).add j = ⟨g, j, none⟩ := by unfold Addr.add; split <;> simp_all
  rw [this, h.cell j]
  simpa using hu
theorem rn_keep {w w' : World} {base size n : Nat} {e : TypeId} {v : Value} {xs : List Value} (h : w.ownsRow base e size v n xs) (hk : ∀ g, base ≤ g → g < w.heap.size → w'.heap[g]? = w.heap[g]?) : w'.ownsRow base e size v n xs := by
  obtain ⟨hl, h | ⟨g, cap, cur, hv, hg, hh, r⟩⟩ := h
  · exact ⟨hl, .inl h⟩
  · exact ⟨hl, .inr ⟨g, cap, cur, hv, hg, by rw [hk g hg (Array.getElem?_eq_some_iff.1 hh).1]; exact hh, r⟩⟩
theorem rn_base {w : World} {base size n : Nat} {e : TypeId} {v : Value} {xs : List Value} (h : w.ownsRow base e size v n xs) : ∀ k, v.ownBlock = some k → base ≤ k ∧ k < w.heap.size := by
  intro k e
  obtain ⟨_, ⟨rfl, _⟩ | ⟨g, cap, cur, rfl, hg, hh, _⟩⟩ := h
  · simp [Value.ownBlock] at e
  · simp [Value.ownBlock] at e; subst e; exact ⟨hg, (Array.getElem?_eq_some_iff.1 hh).1⟩
theorem rn_up {w : World} {b b' n : Nat} {t : TypeId} {v : Value} {xs : List Value} (h : w.ownsRow b t 1 v n xs) (hb : b' ≤ b) : w.ownsRow b' t 1 v n xs :=
  ⟨h.1, h.2.imp id fun ⟨g, cap, cur, e1, e2, e3⟩ => ⟨g, cap, cur, e1, Nat.le_trans hb e2, e3⟩⟩
theorem rn_cells {w : World} {base n : Nat} {e : TypeId} {v : Value} {xs : List Value} (h : w.ownsRow base e 1 v n xs) (hn : 0 < n) : ∃ g c, v = .slice (some ⟨g, 0, none⟩) n c ∧ base ≤ g ∧ g < w.heap.size ∧ n ≤ c ∧ ∀ j u, xs[j]? = some u → w.cell? ((⟨g, 0, none⟩ : Addr).add j) = some u := by
  obtain ⟨hl, ⟨rfl, rfl⟩ | ⟨g, cap, cur, rfl, hg, hh, hn, hm, hs, ht⟩⟩ := h
  · omega
  · refine ⟨g, cap, rfl, hg, (Array.getElem?_eq_some_iff.1 hh).1, hn, fun j u hu => ?_⟩
    have : (⟨g, 0, none⟩ : Addr).add j = ⟨g, j, none⟩ := by unfold Addr.add; split <;> simp_all
    rw [this, cell_of_row w g j cur e (0, 0) hh, ← hu, ← ht]
    have hj : j < xs.length := (List.getElem?_eq_some_iff.1 hu).1
    rw [List.getElem?_take, if_pos (by omega)]
    simp
theorem rn_one (l : List Nat) : ∀ u ∈ bvN l, u.oneCell' = true := by
  intro u hu
  obtain ⟨n, _, rfl⟩ := List.mem_map.1 hu
  rfl
theorem vnum_pos (n : Nat) : 0 < (vnum n).length := by
  cases h : vnum n with
  | nil => exact absurd h (vnum_ne n)
  | cons a l => simp
theorem vnum_short (n : Nat) (h : n < 128 ^ 10) : (vnum n).length ≤ 10 := by
  exact vnum_len n 10 (by omega) h
theorem rn_below {w w1 w2 : World} {B : Nat} {row : Option Nat} (h : Below B w w1) (k : w1.grownBy w2 row) (hr : ∀ j, row = some j → B ≤ j) (hs : w.heap.size = B := by rfl) : Below B w w2 :=
  ⟨k.os.trans h.os, k.tape.trans h.tape, k.output.trans h.output, Nat.le_trans h.size k.size, fun i hi => (k.block i (by have := h.size; omega) (fun e => by have := hr i e.symm; omega)).trans (h.block i hi)⟩
/-- What number answers. -/
def RnuPost (w : World) (n : Nat) (r : Ending) (w' : World) : Prop := ∃ v, r = .returned v ∧ w'.ownsRow w.heap.size 5 1 v (vnum n).length (bvN (vnum n)) ∧ Below w.heap.size w w'
set_option maxRecDepth 100000 in
set_option maxHeartbeats 4000000 in
theorem rnum_small (n : Nat) (w : World) (h : n < 128) : Calls Tryd.prog 45 #[.int .i64 (n : Int)] w (RnuPost w n) := by
  have e1 : (n : Int) % 256 = (n : Int) := by omega
  have e2 : IntKind.u8.wrap (n : Int) = (n : Int) := by rw [IntKind.wrap_u8]; omega
  have HR : Hid (RnuPost w n (.returned (.slice (some ⟨w.heap.size, 0, none⟩) 1 1)) (w.alloc (.cells #[.int .u8 (n : Int)] 5))) := hide ⟨_, rfl, by
    rw [vnum_small h]
    exact rn_own (cs := bvN [n]) (Blk.new w _ _) (Nat.le_refl _) rfl (by decide), (Below.refl _ _).alloc (Nat.le_refl _) _⟩
  go_enter Tryd.func45, Tryd.ntmps45
  go_wp2_with fail
  go_ret
  exact HR.out
set_option maxRecDepth 100000 in
set_option maxHeartbeats 4000000 in
theorem rnum_any (n : Nat) (hn : n < 9223372036854775808) (w : World) : Calls Tryd.prog 45 #[.int .i64 (n : Int)] w (RnuPost w n) := by
  induction n using Nat.strongRecOn generalizing w with
  | _ n ih =>
    by_cases h : n < 128
    · exact rnum_small n w h
    · obtain ⟨m, hm⟩ : ∃ m, n / 128 = m := ⟨_, rfl⟩
      obtain ⟨y, hy⟩ : ∃ y, n % 128 + 128 = y := ⟨_, rfl⟩
      have HI := hide (ih m (by omega) (by omega))
      have HV : Hid (vnum n = y :: vnum m) := hide (by rw [vnum_big h, hm, hy])
      have hq : (n : Int).tdiv 128 = (m : Int) := by rw [Int.tdiv_eq_ediv_of_nonneg (by omega)]; omega
      have hq2 : (n : Int) / 128 = (m : Int) := by omega
      have hr : (n : Int).tmod 128 = ((n % 128 : Nat) : Int) := by rw [Int.tmod_eq_emod_of_nonneg (by omega)]; omega
      obtain ⟨x, hx⟩ : ∃ x, n % 128 = x := ⟨_, rfl⟩
      have hr2 : (n : Int) % 128 = (x : Int) := by omega
      have hx1 : x < 128 := by omega
      have e1 : (x : Int) % 256 = (x : Int) := by omega
      have e2 : IntKind.u8.wrap (x : Int) = (x : Int) := by rw [IntKind.wrap_u8]; omega
      have e3 : IntKind.u8.wrap ((x : Int) + 128) = (y : Int) := by rw [IntKind.wrap_u8]; omega
      have e4 : ((x : Int) + 128) % 256 = (y : Int) := by omega
      have hml : (vnum m).length ≤ 10 := vnum_short m (by omega)
      have hmp := vnum_pos m
      obtain ⟨i0, hi, hz0, hz1, hz2⟩ := en_info_parts en_u8_info
      have HB0 := hide ((Below.refl w.heap.size w).alloc (Nat.le_refl _) (.cells #[.int .u8 (y : Int)] 5))
      have HN0 := hide (Blk.new w 5 #[.int .u8 (y : Int)])
      clear ih hr hm hy hx
      go_enter Tryd.func45, Tryd.ntmps45
      go_wp2_with fail
      refine (HI.out _).mono ?_
      rintro e w2 ⟨v2, rfl, hown, hB⟩
      obtain ⟨g2, c2, rfl, hg2, -, -, hc2⟩ := rn_cells hown hmp
      have HC2 := hide hc2
      have HB2 := hide (HB0.out.trans (hB.mono HB0.out.size))
      have HO2 := hide (rn_own (base := w.heap.size) (cs := bvN [y]) (n := 1) (HN0.out.below hB HN0.out.lt) (Nat.le_refl _) rfl (by decide))
      clear hB hown hc2 HI
      go_wp2_with (at_builtin; go_must (refine wpList_append_own _ rfl (.tmp 12) (.tmp 15) _ rfl w.heap.size 5 i0 _ 1 1 Tryd.underlying22 hi hz0 hz1 hz2 rfl (by decide) (.slice (some ⟨w.heap.size, 0, none⟩) 1 1) 1 (bvN [y]) rfl (by exact HO2.out) ⟨g2, 0, none⟩ (vnum m).length c2 (bvN (vnum m)) rfl (by rw [bvN_len]; omega) (by exact HC2.out) (rn_one _) (by simp [maxLen]; omega) (by omega) (by have := HB2.out.size; omega) ?_); intro v7 w7 hown7 hg7 _; have HO7 := hide hown7; have HG7 := hide hg7; clear hown7 hg7)
      go_ret
      exact ⟨_, rfl, by rw [HV.out, List.length_cons, Nat.add_comm]; exact HO7.out, rn_below HB2.out HG7.out (fun k e => by simp [Value.ownBlock] at e; omega)⟩
end Go.Proofs.YtfdadkngbnhmeaaDoor
