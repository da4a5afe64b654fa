/- Small contracts of metronomekeep.AgreeHalves: middled, its closure, agree.Spread; conditions: the numbers lie in memory. -/
import Derived.Test.YtfdadkngbnhmeaaDoorRd
import Derived.Test.YtfdadkngbnhmeaaDoorPk
namespace Go.Proofs.YtfdadkngbnhmeaaDoor
open Go Go.RowKit

/-- metronomekeep.pick, in plain words. -/
def pck (a : Int) (n : Nat) : Nat := (a % 18446744073709551616).toNat % n
theorem pck_lt (a : Int) {n : Nat} (h : 0 < n) : pck a n < n := Nat.mod_lt _ h
theorem pck_any (a : Int) (n : Nat) (w : World) (h0 : 0 < n) (h1 : n ≤ 9223372036854775807) :
    Calls Tryd.prog 17 #[.int .i64 a, .int .i64 n] w fun e w' => e = .returned (.int .i64 (pck a n : Nat)) ∧ w = w' := pick_any a n w h0 h1
/-- The least, or the greatest, of numbers. -/
def IsTop (l : List Int) (m : Int) : Prop := (∃ j, j < l.length ∧ l.getD j 0 = m) ∧ ∀ j, j < l.length → l.getD j 0 ≤ m
def IsLow (l : List Int) (m : Int) : Prop := (∃ j, j < l.length ∧ l.getD j 0 = m) ∧ ∀ j, j < l.length → m ≤ l.getD j 0
theorem top_one {zs : List Int} {x : Int} (h : zs.getD 0 0 = x) : (∃ j, j < 1 ∧ zs.getD j 0 = x) ∧ ∀ j, j < 1 → zs.getD j 0 ≤ x :=
  ⟨⟨0, by omega, h⟩, fun j hj => by have e : j = 0 := by omega
                                    rw [e, h]
                                    exact Int.le_refl _⟩
theorem low_one {zs : List Int} {x : Int} (h : zs.getD 0 0 = x) : (∃ j, j < 1 ∧ zs.getD j 0 = x) ∧ ∀ j, j < 1 → x ≤ zs.getD j 0 :=
  ⟨⟨0, by omega, h⟩, fun j hj => by have e : j = 0 := by omega
                                    rw [e, h]
                                    exact Int.le_refl _⟩
set_option maxRecDepth 100000 in
set_option maxHeartbeats 1000000 in
theorem max_any (A : Option Addr) (c : Nat) (zs : List Int) (w : World) (hI : IsL w A zs) (h0 : 0 < zs.length) (hmax : zs.length ≤ 1000) :
    Calls Tryd.prog 43 #[.slice A zs.length c] w fun e w' => ∃ m, e = .returned (.int .i64 m) ∧ IsTop zs m ∧ w' = w := by
  obtain ⟨b, off, rfl, hc0⟩ := hI 0 h0
  have HI := hide hI; clear hI
  obtain ⟨n, hn⟩ : ∃ n, zs.length = n := ⟨_, rfl⟩
  have HN := hide hn
  rw [hn] at hmax h0 ⊢
  clear hn
  have d1 : decide ((n : Int) < 1) = false := decide_eq_false (by omega)
  obtain ⟨x0, hx0⟩ : ∃ x, zs.getD 0 0 = x := ⟨_, rfl⟩
  rw [hx0, Nat.add_zero] at hc0
  have HX0 := hide hx0; clear hx0
  go_enter Tryd.func43, Tryd.ntmps43
  go_wp2_with fail
  go_loopw [3, 4] (fun m i wr => ∃ (k : Nat) (y : Int), 1 ≤ k ∧ k ≤ n ∧ i = .int .i64 k ∧ m = .int .i64 y ∧ Hid ((∃ j, j < k ∧ zs.getD j 0 = y) ∧ ∀ j, j < k → zs.getD j 0 ≤ y) ∧ Hid (wr = w)) (fun _ i _ => n - (intOf i).toNat)
  case atStart => exact ⟨1, x0, by omega, by omega, rfl, rfl, hide (top_one HX0.out), hide rfl⟩
  case round =>
    obtain ⟨k, y, hk1, hk, rfl, rfl, HM, HW⟩ := hrel
    by_cases hlt : k < n
    · obtain ⟨b', off', e, hc⟩ := HI.out k (by rw [HN.out]; exact hlt)
      cases e
      obtain ⟨x, hx⟩ : ∃ x, zs.getD k 0 = x := ⟨_, rfl⟩
      rw [hx, ← HW.out] at hc
      have HX := hide hx; clear hx
      go_wp2_with fail
      go_roundw
      case rel => exact ⟨k + 1, max y x, by omega, by omega, by go_num, rfl, hide (by
        obtain ⟨⟨j, hj, e⟩, h2⟩ := HM.out
        refine ⟨?_, fun i hi => ?_⟩
        · rcases Int.le_total x y with h | h
          · exact ⟨j, by omega, by rw [e]; omega⟩
          · exact ⟨k, by omega, by rw [HX.out]; omega⟩
        · rcases Nat.lt_or_ge i k with h | h
          · have := h2 i h; omega
          · obtain rfl : i = k := by omega
            rw [HX.out]; omega), HW⟩
      case measure => simp [intOf]; omega
    · obtain rfl : k = n := by omega
      go_wp2_with fail
      go_ret
      exact ⟨y, rfl, ⟨by rw [HN.out]; exact HM.out.1, by rw [HN.out]; exact HM.out.2⟩, HW.out⟩
set_option maxRecDepth 100000 in
set_option maxHeartbeats 1000000 in
theorem min_any (A : Option Addr) (c : Nat) (zs : List Int) (w : World) (hI : IsL w A zs) (h0 : 0 < zs.length) (hmax : zs.length ≤ 1000) :
    Calls Tryd.prog 44 #[.slice A zs.length c] w fun e w' => ∃ m, e = .returned (.int .i64 m) ∧ IsLow zs m ∧ w' = w := by
  obtain ⟨b, off, rfl, hc0⟩ := hI 0 h0
  have HI := hide hI; clear hI
  obtain ⟨n, hn⟩ : ∃ n, zs.length = n := ⟨_, rfl⟩
  have HN := hide hn
  rw [hn] at hmax h0 ⊢
  clear hn
  have d1 : decide ((n : Int) < 1) = false := decide_eq_false (by omega)
  obtain ⟨x0, hx0⟩ : ∃ x, zs.getD 0 0 = x := ⟨_, rfl⟩
  rw [hx0, Nat.add_zero] at hc0
  have HX0 := hide hx0; clear hx0
  go_enter Tryd.func44, Tryd.ntmps44
  go_wp2_with fail
  go_loopw [3, 4] (fun m i wr => ∃ (k : Nat) (y : Int), 1 ≤ k ∧ k ≤ n ∧ i = .int .i64 k ∧ m = .int .i64 y ∧ Hid ((∃ j, j < k ∧ zs.getD j 0 = y) ∧ ∀ j, j < k → y ≤ zs.getD j 0) ∧ Hid (wr = w)) (fun _ i _ => n - (intOf i).toNat)
  case atStart => exact ⟨1, x0, by omega, by omega, rfl, rfl, hide (low_one HX0.out), hide rfl⟩
  case round =>
    obtain ⟨k, y, hk1, hk, rfl, rfl, HM, HW⟩ := hrel
    by_cases hlt : k < n
    · obtain ⟨b', off', e, hc⟩ := HI.out k (by rw [HN.out]; exact hlt)
      cases e
      obtain ⟨x, hx⟩ : ∃ x, zs.getD k 0 = x := ⟨_, rfl⟩
      rw [hx, ← HW.out] at hc
      have HX := hide hx; clear hx
      go_wp2_with fail
      go_roundw
      case rel => exact ⟨k + 1, min y x, by omega, by omega, by go_num, rfl, hide (by
        obtain ⟨⟨j, hj, e⟩, h2⟩ := HM.out
        refine ⟨?_, fun i hi => ?_⟩
        · rcases Int.le_total y x with h | h
          · exact ⟨j, by omega, by rw [e]; omega⟩
          · exact ⟨k, by omega, by rw [HX.out]; omega⟩
        · rcases Nat.lt_or_ge i k with h | h
          · have := h2 i h; omega
          · obtain rfl : i = k := by omega
            rw [HX.out]; omega), HW⟩
      case measure => simp [intOf]; omega
    · obtain rfl : k = n := by omega
      go_wp2_with fail
      go_ret
      exact ⟨y, rfl, ⟨by rw [HN.out]; exact HM.out.1, by rw [HN.out]; exact HM.out.2⟩, HW.out⟩
theorem spread_any (A : Option Addr) (c : Nat) (zs : List Int) (w : World) (hI : IsL w A zs) (h0 : 0 < zs.length) (hmax : zs.length ≤ 1000) (hb : ∀ j, j < zs.length → -1000000000000000 ≤ zs.getD j 0 ∧ zs.getD j 0 ≤ 1000000000000000) :
    Calls Tryd.prog 20 #[.slice A zs.length c] w fun e w' => ∃ a b, e = .returned (.int .i64 (a - b)) ∧ IsTop zs a ∧ IsLow zs b ∧ w' = w := by
  have HA := hide (max_any A c zs w hI h0 hmax); have HB := hide (min_any A c zs w hI h0 hmax)
  have HD := hide hb
  clear hI hb
  obtain ⟨n, hn⟩ : ∃ n, zs.length = n := ⟨_, rfl⟩
  rw [hn] at h0 HA HB HD ⊢
  have HN := hide hn
  clear hn
  have d1 : ((n : Int) == 0) = false := beq_eq_false_iff_ne.2 (by omega)
  have d2 : ¬ n = 0 := by omega
  go_enter Tryd.func20, Tryd.ntmps20
  go_wp2_with fail
  refine HA.out.mono ?_
  rintro e w1 ⟨a, rfl, ha, rfl⟩
  have HTA := hide ha; clear ha
  go_wp2_with fail
  refine HB.out.mono ?_
  rintro e w2 ⟨b, rfl, hb2, rfl⟩
  have HTB := hide hb2; clear hb2
  have hr : wrap64 (a - b) = a - b := by
    obtain ⟨⟨j, hj, e1⟩, _⟩ := HTA.out
    obtain ⟨⟨i, hi, e2⟩, _⟩ := HTB.out
    have := HD.out j (by rw [← HN.out]; exact hj)
    have := HD.out i (by rw [← HN.out]; exact hi)
    unfold wrap64; omega
  have hr2 : IntKind.i64.wrap (a - b) = a - b := by rw [IntKind.wrap_i64]; unfold wrap64 at hr; exact hr
  go_wp2_with fail
  go_ret
  exact ⟨a, b, rfl, HTA.out, HTB.out, rfl⟩
set_option maxRecDepth 100000 in
/-- at: 0 of none; else one of them -/
def atL (l : List Int) (k : Int) : Int := if l.length = 0 then 0 else l.getD (pck k l.length) 0
theorem at_any (A : Option Addr) (n c : Nat) (zs : List Int) (k : Int) (w : World) (hn : zs.length = n) (hI : IsL w A zs) (hmax : n ≤ 9223372036854775807) :
    Calls Tryd.prog 19 #[.slice A n c, .int .i64 k] w fun e w' => e = .returned (.int .i64 (atL zs k)) ∧ w = w' := by
  by_cases h0 : n = 0
  · subst h0
    have e : atL zs k = 0 := by unfold atL; rw [if_pos hn]
    rw [e]
    clear hI hn e
    go_enter Tryd.func19, Tryd.ntmps19
    go_wp2_with fail
    go_ret
    exact ⟨rfl, rfl⟩
  · have hp := pck_lt k (n := n) (by omega)
    have e : atL zs k = zs.getD (pck k n) 0 := by unfold atL; rw [if_neg (by omega), hn]
    rw [e]
    obtain ⟨b, off, rfl, hc⟩ := hI (pck k n) (by omega)
    have HP := hide (pck_any k n w (by omega) hmax)
    generalize pck k n = j at hp hc HP e
    obtain ⟨x, hx⟩ : ∃ x, zs.getD j 0 = x := ⟨_, rfl⟩
    rw [hx] at hc ⊢
    have d1 : ((n : Int) == 0) = false := beq_eq_false_iff_ne.2 (by omega)
    clear hI e hx hn
    go_enter Tryd.func19, Tryd.ntmps19
    go_wp2_with (go_at_call 17; refine HP.out.mono ?_; rintro e w3 ⟨rfl, rfl⟩)
    go_ret
    exact ⟨rfl, rfl⟩
theorem mid_four : midV [0, 10, 1000, 4] 1 = 7 ∧ midE [0, 10, 1000, 4] 1 = 0 := by
  have h : srt [0, 10, 1000, 4] = [0, 4, 10, 1000] := (srt_eq (by decide) (by decide)).symm
  have he : midE [0, 10, 1000, 4] 1 = 0 := by decide
  refine ⟨?_, he⟩
  unfold midV midN
  rw [if_pos he, h]
  decide
set_option maxRecDepth 100000 in
theorem middled_any (w : World) : Calls Tryd.prog 18 #[] w fun e w' => e = .returned (.bool true) ∧ Below w.heap.size w w' := by
  have hB : Below w.heap.size w (w.alloc (.cells #[.int .i64 0, .int .i64 10, .int .i64 1000, .int .i64 4] 3)) := (Below.refl _ _).alloc (Nat.le_refl _) _
  have hI : IsL (w.alloc (.cells #[.int .i64 0, .int .i64 10, .int .i64 1000, .int .i64 4] 3)) (some ⟨w.heap.size, 0, none⟩) [0, 10, 1000, 4] := fun j hj => by
    refine ⟨_, _, rfl, ?_⟩
    rw [Nat.zero_add, (Blk.new w 3 #[.int .i64 0, .int .i64 10, .int .i64 1000, .int .i64 4]).cell]
    match j, hj with
    | 0, _ => rfl
    | 1, _ => rfl
    | 2, _ => rfl
    | 3, _ => rfl
  have HM := hide (mid_any _ 4 [0, 10, 1000, 4] 1 _ hI (by decide) (by omega))
  rw [mid_four.1, mid_four.2] at HM
  have HB := hide hB
  clear hB hI
  go_enter Tryd.func18, Tryd.ntmps18
  go_wp2_with fail
  refine HM.out.mono ?_
  rintro e w2 ⟨rfl, hB2⟩
  have HB2 := hide (HB.out.trans (hB2.mono HB.out.size))
  clear hB2
  go_wp2_with fail
  go_ret
  exact ⟨rfl, HB2.out⟩
end Go.Proofs.YtfdadkngbnhmeaaDoor
