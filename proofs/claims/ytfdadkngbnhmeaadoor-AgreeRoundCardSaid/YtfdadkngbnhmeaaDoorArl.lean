/- The walk of metronomelaw.AgreeRound; conditions: clocks and rows lie in memory; errors.errorType and metronomeref.Fine hold what start-up lays there. -/
import Derived.Test.YtfdadkngbnhmeaaDoorRda
import Derived.Test.YtfdadkngbnhmeaaDoorRds
import Derived.Test.YtfdadkngbnhmeaaDoorIsv
namespace Go.Proofs.YtfdadkngbnhmeaaDoor
open Go Go.RowKit

theorem first_bad {p : Nat → Prop} : ∀ {n : Nat}, (¬ ∀ j, j < n → p j) → ∃ i, i < n ∧ (∀ j, j < i → p j) ∧ ¬ p i
  | 0, h => absurd (fun j hj => absurd hj (Nat.not_lt_zero j)) h
  | n + 1, h => by
    by_cases h1 : ∀ j, j < n → p j
    · by_cases h2 : p n
      · exact absurd (all_succ h1 h2) h
      · exact ⟨n, Nat.lt_succ_self n, h1, h2⟩
    · obtain ⟨i, hi, ha, hb⟩ := first_bad h1
      exact ⟨i, Nat.lt_succ_of_lt hi, ha, hb⟩
theorem first_one {p : Nat → Prop} {i k : Nat} (h1 : ∀ j, j < i → p j) (h2 : ¬ p i) (h3 : ∀ j, j < k → p j) (h4 : ¬ p k) : k = i := by
  rcases Nat.lt_trichotomy i k with h | h | h
  · exact absurd (h3 i h) h2
  · exact h.symm
  · exact absurd (h1 k h) h4
theorem isl_own {w : World} {base n : Nat} {v : Value} {zs : List Int} (h : w.ownsRow base 3 1 v n (zs.map (Value.int .i64))) (hz : zs.length = n) : ∃ A c, v = .slice A n c ∧ IsL w A zs := by
  rcases h.2 with ⟨rfl, h0⟩ | ⟨g, c, cur, rfl, _, _, _, _, _, _⟩
  · subst h0
    exact ⟨none, 0, rfl, fun j hj => by omega⟩
  · exact ⟨_, c, rfl, fun j hj => ⟨g, 0, rfl, by rw [Nat.zero_add]; exact own_get h (by omega)⟩⟩
theorem same_none (w : World) : Calls Tryd.prog 16 #[.slice none 0 0, .slice none 0 0] w fun e w' => e = .returned (.bool true) ∧ Below w.heap.size w w' :=
  same_ints none 0 none 0 [] 0 w rfl (fun j hj => by simp at hj) (fun j hj => by simp at hj) (by omega)
section
variable {A : Option Addr} {c : Nat} {B : Option Addr} {d : Nat} {zs : List Int} {rs : List (List Int)} {f : Int} {n q : Nat}
set_option maxRecDepth 100000 in
set_option maxHeartbeats 4000000 in
theorem around_law (w : World) (hn : zs.length = n) (hq : rs.length = q) (hA : IsL w A zs) (hB : RowsAt w B rs) (hf : f ≤ 9223372036854775807) (hE : ErrT w) (hF : FinT w) :
    Calls Tryd.prog 5 #[.slice A n c, .slice B q d, .int .i64 f] w fun e w' => e = .returned (.bool true) ∧ Below w.heap.size w w' := by
  by_cases h20 : 20 < n
  · have d1 : decide ((20 : Int) < (n : Int)) = true := decide_eq_true (by omega)
    clear hA hB hE hF hn hq hf
    go_enter Tryd.func5, Tryd.ntmps5
    go_wp2_with fail
    go_ret
    exact ⟨rfl, Below.refl _ _⟩
  have d1 : decide ((20 : Int) < (n : Int)) = false := decide_eq_false (by omega)
  by_cases h25 : 25 < q
  · have d2 : decide ((25 : Int) < (q : Int)) = true := decide_eq_true (by omega)
    clear hA hB hE hF hn hq hf
    go_enter Tryd.func5, Tryd.ntmps5
    go_wp2_with fail
    go_ret
    exact ⟨rfl, Below.refl _ _⟩
  have d2 : decide ((25 : Int) < (q : Int)) = false := decide_eq_false (by omega)
  have HB := hide hB; have HQ := hide hq; have HE := hide hE
  have HQ25 : Hid (q ≤ 25) := hide (by omega)
  have HST : Hid ((∀ r ∈ rs, r.length ≤ 30) → Calls Tryd.prog 14 #[.slice A n c, .slice B q d, .int .i64 f] w (SetPost w zs rs f)) := hide fun h3 => by
    have := set_any A c B d zs rs f w hA hB (by omega) (by omega) h3 hF
    rwa [hn, hq] at this
  have HRD : Hid ((∀ r ∈ rs, r.length ≤ 30) → ∀ w0, Below w.heap.size w w0 → Calls Tryd.prog 15 #[.slice A n c, .slice B q d, .int .i64 f] w0 (RoundPost w0 zs rs f)) := hide fun h3 w0 hw => by
    have := round_any A c B d zs rs f w0 (hA.below (Nat.le_refl _) hw) (hB.below (Nat.le_refl _) hw) (by omega) (by omega) h3 hf (errT_below hE hw)
    rwa [hn, hq] at this
  have HN := hide hn
  have hq25 : q ≤ 25 := by omega
  have hn20 : n ≤ 20 := by omega
  clear hA hB hE hF hn hq hf h20 h25
  go_enter Tryd.func5, Tryd.ntmps5
  go_wp2_with fail
  go_loopw [7] (fun i wr => ∃ k : Nat, k ≤ q ∧ i = .int .i64 k ∧ Hid (∀ j, j < k → (rs.getD j []).length ≤ 30) ∧ Hid (wr = w)) (fun i _ => q - (intOf i).toNat)
  case atStart => exact ⟨0, by omega, rfl, hide (fun j hj => by omega), hide rfl⟩
  case round =>
    obtain ⟨k, hk, rfl, HZ, HW⟩ := hrel
    by_cases hlt : k < q
    · obtain ⟨b, off, Ar, cr, rfl, hc, -⟩ := HB.out k (by rw [HQ.out]; exact hlt)
      rw [← HW.out] at hc
      obtain ⟨lr, hlr⟩ : ∃ lr, (rs.getD k []).length = lr := ⟨_, rfl⟩
      rw [hlr] at hc
      have HLR := hide hlr
      clear hlr
      by_cases h30 : 30 < lr
      · have d3 : decide ((30 : Int) < (lr : Int)) = true := decide_eq_true (by omega)
        go_wp2_with fail
        go_ret
        exact ⟨rfl, by rw [HW.out]; exact Below.refl _ _⟩
      · have d3 : decide ((30 : Int) < (lr : Int)) = false := decide_eq_false (by omega)
        go_wp2_with fail
        go_roundw
        case rel => exact ⟨k + 1, by omega, by go_num, hide (all_succ HZ.out (by rw [HLR.out]; omega)), HW⟩
        case measure => simp [intOf]; omega
    · obtain rfl : k = q := by omega
      have h3 : ∀ r ∈ rs, r.length ≤ 30 := fun r hr => by
        obtain ⟨j, hj, rfl⟩ := List.getElem_of_mem hr
        have := HZ.out j (by rw [← HQ.out]; exact hj)
        simpa [List.getD, List.getElem?_eq_getElem hj] using this
      have HS := hide (HST.out h3); have HR := hide (HRD.out h3)
      rw [HW.out]
      clear HST HRD h3 HZ HW HB hlt hk
      by_cases hnk : k = n
      case neg =>
        have HS2 : Hid (Calls Tryd.prog 14 #[.slice A n c, .slice B k d, .int .i64 f] w fun r w' => r = .returned (.tuple #[.slice none 0 0, .agg #[.int .i64 1, .int .i64 (-1)]]) ∧ Below w.heap.size w w') := hide (HS.out.mono fun r w' h => by
          obtain ⟨hb, ⟨_, h⟩ | ⟨h, _⟩ | ⟨h, _⟩⟩ := h
          · exact ⟨h, hb⟩
          · rw [HN.out, HQ.out] at h; exact absurd h hnk
          · rw [HN.out, HQ.out] at h; exact absurd h hnk)
        have HR2 : Hid (∀ w0, Below w.heap.size w w0 → Calls Tryd.prog 15 #[.slice A n c, .slice B k d, .int .i64 f] w0 fun r w' => r = .returned (.tuple #[.slice none 0 0, errV 1]) ∧ Below w0.heap.size w0 w') := hide fun w0 hw => (HR.out w0 hw).mono fun r w' h => by
          obtain ⟨hb, ⟨_, h⟩ | ⟨h, _⟩ | ⟨h, _⟩⟩ := h
          · exact ⟨h, hb⟩
          · rw [HN.out, HQ.out] at h; exact absurd h hnk
          · rw [HN.out, HQ.out] at h; exact absurd h hnk
        clear HS HR hnk
        go_wp2_with fail
        refine HS2.out.mono ?_
        rintro r w1 ⟨rfl, hB1⟩
        have HF1 := hide (Blk.new w1 30 #[.int .i64 1, .int .i64 (-1)])
        have HO1 := hide (hB1.alloc hB1.size (.cells #[.int .i64 1, .int .i64 (-1)] 30))
        clear hB1 HS2
        go_wp2_with fail
        refine (HR2.out _ HO1.out).mono ?_
        rintro r w2 ⟨rfl, hB2⟩
        have HF2 := hide (HF1.out.below hB2 HF1.out.lt)
        have HO2 := hide (HO1.out.trans (hB2.mono HO1.out.size))
        clear hB2 HR2 HF1 HO1
        obtain ⟨x0, x1, -, -⟩ := HF2.out.cells2
        go_wp2_with (first
          | (go_at_call 9; refine (is_errV 1 1 (-1) _ (by exact errT_below HE.out HO2.out)).mono ?_; rintro r w3 ⟨rfl, hB3⟩; have HO3 := hide (HO2.out.trans (hB3.mono HO2.out.size)); clear hB3; simp only [beq_self_eq_true, Bool.and_self])
          | (go_at_call 16; refine (same_none _).mono ?_; rintro r w4 ⟨rfl, hB4⟩; have HO4 := hide (HO3.out.trans (hB4.mono HO3.out.size)); clear hB4))
        go_ret
        exact ⟨rfl, HO4.out⟩
      case pos =>
        subst hnk
        by_cases hall : ∀ j, j < k → setE k f (zs.getD j 0) (rs.getD j []) = 0
        · have HS2 : Hid (Calls Tryd.prog 14 #[.slice A k c, .slice B k d, .int .i64 f] w fun r w' => ∃ A1 c1, r = .returned (.tuple #[.slice A1 k c1, .agg #[.int .i64 0, .int .i64 (-1)]]) ∧ IsL w' A1 (setL zs rs f k) ∧ Below w.heap.size w w') := hide (HS.out.mono fun r w' h => by
            obtain ⟨hb, h⟩ := h
            rw [HN.out, HQ.out] at h
            rcases h with ⟨h, _⟩ | ⟨_, i, hi, _, h, _⟩ | ⟨_, _, v, h, ho⟩
            · exact absurd rfl h
            · exact absurd (hall i hi) h
            · obtain ⟨A1, c1, rfl, hI⟩ := isl_own ho (setL_len zs rs f k)
              exact ⟨A1, c1, h, hI, hb⟩)
          have HR2 : Hid (∀ w0, Below w.heap.size w w0 → Calls Tryd.prog 15 #[.slice A k c, .slice B k d, .int .i64 f] w0 fun r w' => ∃ A1 c1, r = .returned (.tuple #[.slice A1 k c1, .nilIface]) ∧ IsL w' A1 (setL zs rs f k) ∧ Below w0.heap.size w0 w') := hide fun w0 hw => (HR.out w0 hw).mono fun r w' h => by
            obtain ⟨hb, h⟩ := h
            rw [HN.out, HQ.out] at h
            rcases h with ⟨h, _⟩ | ⟨_, i, hi, _, h, _⟩ | ⟨_, _, v, h, ho⟩
            · exact absurd rfl h
            · exact absurd (hall i hi) h
            · obtain ⟨A1, c1, rfl, hI⟩ := isl_own ho (setL_len zs rs f k)
              exact ⟨A1, c1, h, hI, hb⟩
          have HLL := hide (setL_len zs rs f k)
          generalize setL zs rs f k = ll at HS2 HR2 HLL
          clear HS HR hall
          go_wp2_with fail
          refine HS2.out.mono ?_
          rintro r w1 ⟨A1, c1, rfl, hI1, hB1⟩
          have HF1 := hide (Blk.new w1 30 #[.int .i64 0, .int .i64 (-1)])
          have HO1 := hide (hB1.alloc hB1.size (.cells #[.int .i64 0, .int .i64 (-1)] 30))
          have HI1 := hide (hI1.below (Nat.le_refl _) ((Below.refl _ _).alloc (Nat.le_refl _) (.cells #[.int .i64 0, .int .i64 (-1)] 30)))
          clear hB1 HS2 hI1
          go_wp2_with fail
          refine (HR2.out _ HO1.out).mono ?_
          rintro r w2 ⟨A2, c2, rfl, hI2, hB2⟩
          have HF2 := hide (HF1.out.below hB2 HF1.out.lt)
          have HO2 := hide (HO1.out.trans (hB2.mono HO1.out.size))
          have HI2 := hide (HI1.out.below (Nat.le_refl _) hB2)
          have HI3 := hide hI2
          clear hB2 HR2 HF1 HO1 hI2 HI1
          obtain ⟨x0, x1, -, -⟩ := HF2.out.cells2
          go_wp2_with (first
            | (go_at_call 9; refine (is_fine _ (by exact errT_below HE.out HO2.out)).mono ?_; rintro r w3 ⟨rfl, hB3⟩; have HO3 := hide (HO2.out.trans (hB3.mono HO2.out.size)); have HI4 := hide (HI2.out.below (Nat.le_refl _) hB3); have HI5 := hide (HI3.out.below (Nat.le_refl _) hB3); clear hB3)
            | (go_at_call 16; refine (same_ints A2 c2 A1 c1 ll k _ HLL.out HI5.out HI4.out (by omega)).mono ?_; rintro r w4 ⟨rfl, hB4⟩; have HO4 := hide (HO3.out.trans (hB4.mono HO3.out.size)); clear hB4))
          go_ret
          exact ⟨rfl, HO4.out⟩
        · obtain ⟨i, hi, hbef, hat⟩ := first_bad hall
          have HS2 : Hid (Calls Tryd.prog 14 #[.slice A k c, .slice B k d, .int .i64 f] w fun r w' => r = .returned (.tuple #[.slice none 0 0, .agg #[.int .i64 (setE k f (zs.getD i 0) (rs.getD i [])), .int .i64 (i : Nat)]]) ∧ Below w.heap.size w w') := hide (HS.out.mono fun r w' h => by
            obtain ⟨hb, h⟩ := h
            rw [HN.out, HQ.out] at h
            rcases h with ⟨h, _⟩ | ⟨_, j, hj, h3, h4, h5⟩ | ⟨_, h, _⟩
            · exact absurd rfl h
            · obtain rfl := first_one hbef hat h3 h4
              exact ⟨h5, hb⟩
            · exact absurd h hall)
          have HR2 : Hid (∀ w0, Below w.heap.size w w0 → Calls Tryd.prog 15 #[.slice A k c, .slice B k d, .int .i64 f] w0 fun r w' => ∃ v, r = .returned (.tuple #[.slice none 0 0, v]) ∧ AtV w' v (setE k f (zs.getD i 0) (rs.getD i [])) i ∧ Below w0.heap.size w0 w') := hide fun w0 hw => (HR.out w0 hw).mono fun r w' h => by
            obtain ⟨hb, h⟩ := h
            rw [HN.out, HQ.out] at h
            rcases h with ⟨h, _⟩ | ⟨_, j, hj, h3, h4, v, h5, h6⟩ | ⟨_, h, _⟩
            · exact absurd rfl h
            · obtain rfl := first_one hbef hat h3 h4
              exact ⟨v, h5, h6, hb⟩
            · exact absurd h hall
          have H0 := hide hat
          generalize setE k f (zs.getD i 0) (rs.getD i []) = se at HS2 HR2 H0
          clear HS HR hall hi hbef hat
          go_wp2_with fail
          refine HS2.out.mono ?_
          rintro r w1 ⟨rfl, hB1⟩
          have HF1 := hide (Blk.new w1 30 #[.int .i64 se, .int .i64 (i : Nat)])
          have HO1 := hide (hB1.alloc hB1.size (.cells #[.int .i64 se, .int .i64 (i : Nat)] 30))
          clear hB1 HS2
          go_wp2_with fail
          refine (HR2.out _ HO1.out).mono ?_
          rintro r w2 ⟨v, rfl, hv, hB2⟩
          have HF2 := hide (HF1.out.below hB2 HF1.out.lt)
          have HO2 := hide (HO1.out.trans (hB2.mono HO1.out.size))
          have HV := hide hv
          clear hB2 HR2 HF1 HO1 hv
          obtain ⟨x0, x1, -, -⟩ := HF2.out.cells2
          go_wp2_with (first
            | (go_at_call 9; refine (is_atV v se (i : Nat) _ (by exact errT_below HE.out HO2.out) (by exact HV.out) (by exact H0.out)).mono ?_; rintro r w3 ⟨rfl, hB3⟩; have HO3 := hide (HO2.out.trans (hB3.mono HO2.out.size)); clear hB3)
            | (go_at_call 16; refine (same_none _).mono ?_; rintro r w4 ⟨rfl, hB4⟩; have HO4 := hide (HO3.out.trans (hB4.mono HO3.out.size)); clear hB4))
          go_ret
          exact ⟨rfl, HO4.out⟩
end
end Go.Proofs.YtfdadkngbnhmeaaDoor
