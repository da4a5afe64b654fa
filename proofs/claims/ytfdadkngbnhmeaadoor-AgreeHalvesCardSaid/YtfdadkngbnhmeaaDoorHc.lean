/- The walk of metronomekeep.AgreeHalves; conditions: the numbers lie in memory; errors.errorType holds what start-up lays there. -/
import Derived.Test.YtfdadkngbnhmeaaDoorHq
import Derived.Test.YtfdadkngbnhmeaaDoorRda
import Derived.Laws.MakeOwn
namespace Go.Proofs.YtfdadkngbnhmeaaDoor
open Go Go.RowKit

theorem pck4 (a : Int) (w : World) : Calls Tryd.prog 17 #[.int .i64 a, .int .i64 4] w fun e w' => e = .returned (.int .i64 (pck a 4 : Nat)) ∧ w = w' := pck_any a 4 w (by omega) (by omega)
theorem pck1000 (a : Int) (w : World) : Calls Tryd.prog 17 #[.int .i64 a, .int .i64 1000] w fun e w' => e = .returned (.int .i64 (pck a 1000 : Nat)) ∧ w = w' := pck_any a 1000 w (by omega) (by omega)
theorem pck30 (a : Int) (w : World) : Calls Tryd.prog 17 #[.int .i64 a, .int .i64 1073741824] w fun e w' => e = .returned (.int .i64 (pck a 1073741824 : Nat)) ∧ w = w' := pck_any a 1073741824 w (by omega) (by omega)
theorem pck34 (a : Int) (w : World) : Calls Tryd.prog 17 #[.int .i64 a, .int .i64 17179869184] w fun e w' => e = .returned (.int .i64 (pck a 17179869184 : Nat)) ∧ w = w' := pck_any a 17179869184 w (by omega) (by omega)
theorem isl_drewN {w : World} {A : Option Addr} {zs : List Int} (h : IsL w A zs) (q : Nat) : IsL (w.drewN q) A zs := h
theorem at_raw {B : Option Addr} {lb cb : Nat} {ls : List Int} {j k m q : Nat} {W : World} (hq : j * k = q) (hb : q ≤ 256) (hm : m ≤ 16) (hn : ls.length = lb) (hI : IsL W B ls) (hmx : lb ≤ 9223372036854775807) :
    Calls Tryd.prog 19 #[.slice B lb cb, .int .i64 (wrap64 (wrap64 ((j : Int) * (k : Int)) + (m : Int)))] W fun e w' => e = .returned (.int .i64 (atL ls ((q + m : Nat) : Int))) ∧ W = w' := by
  have h1 : (j : Int) * (k : Int) = (q : Int) := by subst hq; exact (Int.natCast_mul j k).symm
  have h2 : wrap64 (q : Int) = (q : Int) := by unfold wrap64; omega
  have h3 : wrap64 ((q : Int) + (m : Int)) = ((q + m : Nat) : Int) := by unfold wrap64; omega
  rw [h1, h2, h3]
  exact at_any B lb cb ls _ W hn hI hmx
theorem isl_id {w : World} {A : Option Addr} {zs : List Int} (h : IsL w A zs) : IsL w A zs := h
theorem pck2u (z : Int) (u : Nat) (hu : u < 1000) (w : World) : Calls Tryd.prog 17 #[.int .i64 z, .int .i64 (2 * (u : Int) + 1)] w fun e w' => e = .returned (.int .i64 (pck z (2 * u + 1) : Nat)) ∧ w = w' := by
  have := pck_any z (2 * u + 1) w (by omega) (by omega)
  have e : ((2 * u + 1 : Nat) : Int) = 2 * (u : Int) + 1 := by omega
  rw [e] at this
  exact this
theorem upd_ne {α : Type} {V : Nat → α} {i k : Nat} {v : α} (h : k ≠ i) : upd V i v k = V k := by unfold upd; rw [if_neg h]
theorem meas_lt {m k : Nat} (h : m < k) : k - (intOf (.int .i64 ((m : Int) + 1))).toNat < k - (intOf (.int .i64 (m : Int))).toNat := by simp [intOf]; omega
theorem upd_eq {α : Type} (V : Nat → α) (i : Nat) (v : α) : upd V i v i = v := by unfold upd; rw [if_pos rfl]
theorem dec_le {a b : Nat} (h : a ≤ b) : decide ((a : Int) ≤ (b : Int)) = true := decide_eq_true (by omega)
theorem dec_nle {a b : Nat} (h : ¬ a ≤ b) : decide ((a : Int) ≤ (b : Int)) = false := decide_eq_false (by omega)
theorem isl_ownH {w : World} {base n : Nat} {v : Value} {zs : List Int} (h : w.ownsRow base 3 1 v n (zs.map (Value.int .i64))) (hz : zs.length = n) : ∃ A c, v = .slice A n c ∧ IsL w A zs := by
  rcases h.2 with ⟨rfl, h0⟩ | ⟨g, c, cur, rfl, _, _, _, _, _, _⟩
  · subst h0
    exact ⟨none, 0, rfl, fun j hj => by omega⟩
  · exact ⟨_, c, rfl, fun j hj => ⟨g, 0, rfl, by rw [Nat.zero_add]; exact own_get h (by omega)⟩⟩
theorem round_ok {gn cn hb f u k : Nat} {zs ls ws : List Int} {wr : World} (hA : IsL wr (some ⟨gn, 0, none⟩) (nowL zs k)) (hB : RowsAt wr (some ⟨hb, 0, none⟩) (rowsL zs ls ws f u k)) (hk : k ≤ 16) (h3 : 3 * f + 1 ≤ k) (hu : u < 1000) (hE : ErrT wr) :
    Calls Tryd.prog 15 #[.slice (some ⟨gn, 0, none⟩) k cn, .slice (some ⟨hb, 0, none⟩) k k, .int .i64 (f : Nat)] wr fun r w' => ∃ g c, r = .returned (.tuple #[.slice (some ⟨g, 0, none⟩) k c, .nilIface]) ∧ k ≤ c ∧ IsL w' (some ⟨g, 0, none⟩) (setL (nowL zs k) (rowsL zs ls ws f u k) (f : Int) k) ∧ Below wr.heap.size wr w' := by
  have h := round_any (some ⟨gn, 0, none⟩) cn (some ⟨hb, 0, none⟩) k (nowL zs k) (rowsL zs ls ws f u k) (f : Int) wr hA hB (by rw [nowL_len]; omega) (by rw [rowsL_len]; omega) (fun r hr => by
    obtain ⟨j, _, rfl⟩ := List.mem_map.1 hr
    rw [rowL_len]; omega) (by omega) hE
  rw [nowL_len, rowsL_len] at h
  refine h.mono fun r w' hp => ?_
  obtain ⟨hB2, hp⟩ := hp
  rw [nowL_len, rowsL_len] at hp
  have hs := halves_set zs ls ws hu h3
  rcases hp with ⟨hp, _⟩ | ⟨_, i, hi, _, hp, _⟩ | ⟨_, _, v, rfl, ho⟩
  · exact absurd rfl hp
  · exact absurd (hs i hi) hp
  · obtain ⟨g, c, cur, rfl, _, _, hc, _⟩ := block_of_own ho (by omega)
    exact ⟨g, c, rfl, hc, fun j hj => ⟨g, 0, rfl, by rw [Nat.zero_add]; exact own_get ho (by rw [setL_len] at hj; exact hj)⟩, hB2⟩
theorem ne_of_le {co k f : Nat} (h : k ≤ co) (h2 : 3 * f + 1 ≤ k) : ¬ co = f := by omega
theorem isl_drop {w : World} {g f : Nat} {zs : List Int} (h : IsL w (some ⟨g, 0, none⟩) zs) : IsL w (some ⟨g, f, none⟩) (zs.drop f) := fun j hj => by
  rw [List.length_drop] at hj
  refine ⟨g, f, rfl, ?_⟩
  rw [isl_get h (j := f + j) (by omega)]
  simp [List.getD]
theorem spread_is {A : Option Addr} {n c : Nat} {zs : List Int} {w : World} (hI : IsL w A zs) (hn : zs.length = n) (h0 : 0 < n) (hb : ∀ t, t < n → -1000000000000 ≤ zs.getD t 0 ∧ zs.getD t 0 ≤ 1000000000000) (h1 : n ≤ 1000 := by omega) :
    Calls Tryd.prog 20 #[.slice A n c] w fun e w' => ∃ a b, e = .returned (.int .i64 (a - b)) ∧ IsTop zs a ∧ IsLow zs b ∧ w' = w := by
  subst hn
  exact spread_any A c zs w hI h0 h1 (fun j hj => by have := hb j hj; omega)
theorem top_low {l : List Int} {a b : Int} (h1 : IsTop l a) (h2 : IsLow l b) : 0 ≤ a - b := by
  obtain ⟨⟨j, hj, e⟩, h⟩ := h1
  have := h2.2 j hj
  omega
theorem top_bd {l : List Int} {n : Nat} {a b M : Int} (hn : l.length = n) (hb : ∀ t, t < n → -M ≤ l.getD t 0 ∧ l.getD t 0 ≤ M) (h1 : IsTop l a) (h2 : IsLow l b) : -(2 * M) ≤ a - b ∧ a - b ≤ 2 * M := by
  obtain ⟨⟨j, hj, e⟩, _⟩ := h1
  obtain ⟨⟨i, hi, e2⟩, _⟩ := h2
  have := hb j (by omega)
  have := hb i (by omega)
  omega
theorem spread_le {is rl : List Int} {n : Nat} {a1 b1 a2 b2 u : Int} (hn : is.length = n) (hr : rl.length = n) (h1 : IsTop is a1) (h2 : IsLow is b1) (h3 : IsTop rl a2) (h4 : IsLow rl b2)
    (h : (∀ t, t < n → b2 ≤ rl.getD t 0 ∧ rl.getD t 0 ≤ a2) → ∀ s t, s < n → t < n → is.getD s 0 - is.getD t 0 ≤ (a2 - b2) / 2 + 2 * u + 1) : a1 - b1 ≤ (a2 - b2) / 2 + 2 * u + 1 := by
  obtain ⟨⟨j, hj, e⟩, _⟩ := h1
  obtain ⟨⟨i, hi, e2⟩, _⟩ := h2
  rw [← e, ← e2]
  exact h (fun t ht => ⟨h4.2 t (by omega), h3.2 t (by omega)⟩) j i (by omega) (by omega)
theorem lohi_succ {rl : List Int} {t : Nat} {lo hi y : Int} (h : ∀ s, s < t → lo ≤ rl.getD s 0 ∧ rl.getD s 0 ≤ hi) (hy : rl.getD t 0 = y) : ∀ s, s < t + 1 → min lo y ≤ rl.getD s 0 ∧ rl.getD s 0 ≤ max hi y := fun s hs => by
  by_cases e : s = t
  · rw [e, hy]; omega
  · have := h s (by omega); omega
attribute [local irreducible] pck nowF rowF atL nowL rowL rightL Rin midV midE midN srt
theorem wrap_p {p : Nat} (h : p < 17179869184) : wrap64 ((p : Int) - 8589934592) = (p : Int) - 8589934592 := by unfold wrap64; omega
theorem dec_lt {a b : Nat} (h : a < b) : decide ((a : Int) < (b : Int)) = true := decide_eq_true (by omega)
theorem dec_nlt {a b : Nat} (h : ¬ a < b) : decide ((a : Int) < (b : Int)) = false := decide_eq_false (by omega)
theorem wrap_nat {q : Nat} (h : q ≤ 256) : wrap64 (q : Int) = (q : Int) := by unfold wrap64; omega
theorem wrap_sum {q m : Nat} (h : q ≤ 256) (h2 : m ≤ 16) : wrap64 ((q : Int) + (m : Int)) = ((q + m : Nat) : Int) := by unfold wrap64; omega
set_option maxRecDepth 100000 in
set_option maxHeartbeats 8000000 in
theorem halves_law (A : Option Addr) (n c : Nat) (zs : List Int) (B : Option Addr) (lb cb : Nat) (ls : List Int) (C : Option Addr) (lc cc : Nat) (ws : List Int) (f0 u0 : Int) (w : World) (hn : zs.length = n) (hlb : ls.length = lb) (hlc : ws.length = lc)
    (hA : IsL w A zs) (hB : IsL w B ls) (hC : IsL w C ws) (hmb : lb ≤ 9223372036854775807) (hmc : lc ≤ 9223372036854775807) (hE : ErrT w) :
    Calls Tryd.prog 6 #[.slice A n c, .slice B lb cb, .slice C lc cc, .int .i64 f0, .int .i64 u0] w fun e w' => e = .returned (.bool true) ∧ Below w.heap.size w w' := by
  have HA := hide hA; have HB := hide hB; have HC := hide hC; have HE := hide hE; have HN := hide hn; have HLB := hide hlb; have HLC := hide hlc
  have HMB := hide hmb; have HMC := hide hmc
  clear hA hB hC hE hn hlb hlc hmb hmc
  have hf4 := pck_lt f0 (n := 4) (by omega)
  have hu1 := pck_lt u0 (n := 1000) (by omega)
  have HPF := hide (pck4 f0); have HPU := hide (pck1000 u0)
  obtain ⟨f, hf⟩ : ∃ f, pck f0 4 = f := ⟨_, rfl⟩
  obtain ⟨u, hu⟩ : ∃ u, pck u0 1000 = u := ⟨_, rfl⟩
  rw [hf] at HPF hf4
  rw [hu] at HPU hu1
  clear hf hu
  by_cases h16 : 16 < n
  · have d1 : decide ((16 : Int) < (n : Int)) = true := decide_eq_true (by omega)
    go_enter Tryd.func6, Tryd.ntmps6
    go_wp2_with (first
      | (go_at_call 17; (with_reducible refine (HPF.out _).mono ?_); rintro e w3 ⟨rfl, rfl⟩)
      | (go_at_call 17; (with_reducible refine (HPU.out _).mono ?_); rintro e w3 ⟨rfl, rfl⟩))
    go_ret
    exact ⟨rfl, Below.refl _ _⟩
  have d1 : decide ((16 : Int) < (n : Int)) = false := decide_eq_false (by omega)
  have hn16 : n ≤ 16 := by omega
  have w1 : wrap64 (3 * (f : Int)) = 3 * (f : Int) := by unfold wrap64; omega
  have w2 : wrap64 (3 * (f : Int) + 1) = 3 * (f : Int) + 1 := by unfold wrap64; omega
  by_cases h3 : n < 3 * f + 1
  · have d2 : decide ((n : Int) < 3 * (f : Int) + 1) = true := decide_eq_true (by omega)
    go_enter Tryd.func6, Tryd.ntmps6
    go_wp2_with (first
      | (go_at_call 17; (with_reducible refine (HPF.out _).mono ?_); rintro e w3 ⟨rfl, rfl⟩)
      | (go_at_call 17; (with_reducible refine (HPU.out _).mono ?_); rintro e w3 ⟨rfl, rfl⟩))
    go_ret
    exact ⟨rfl, Below.refl _ _⟩
  have d2 : decide ((n : Int) < 3 * (f : Int) + 1) = false := decide_eq_false (by omega)
  have HNF : Hid (3 * f + 1 ≤ n) := hide (by omega)
  clear h16 h3
  go_enter Tryd.func6, Tryd.ntmps6
  go_wp2_with (first
    | (go_at_call 17; (with_reducible refine (HPF.out _).mono ?_); rintro e w3 ⟨rfl, rfl⟩)
    | (go_at_call 17; (with_reducible refine (HPU.out _).mono ?_); rintro e w3 ⟨rfl, rfl⟩)
    | (go_at_call 18; refine (middled_any _).mono ?_; rintro e wm ⟨rfl, hBm⟩; have HM := hide hBm; clear hBm))
  clear HPF HPU w1 w2 d1 d2
  obtain ⟨i0, hi, hz0, hz1, hz2⟩ := en_info_parts ar_info
  go_loopw [12, 14] (fun v12 i wr => ∃ k : Nat, k ≤ n ∧ i = .int .i64 k ∧ Hid (wr.ownsRow w.heap.size 3 1 v12 k ((nowL zs k).map (Value.int .i64))) ∧ Hid (Below w.heap.size w wr)) (fun _ i _ => n - (intOf i).toNat)
  case atStart => exact ⟨0, by omega, rfl, hide (by rw [nowL_zero]; exact World.ownsRow_nil _ _ _ _), HM⟩
  case round =>
    obtain ⟨k, hk, rfl, HO, HW⟩ := hrel
    by_cases hlt : k < n
    · obtain ⟨b, off, rfl, hc⟩ := (HA.out.below (Nat.le_refl _) HW.out) k (by rw [HN.out]; exact hlt)
      obtain ⟨x, hx⟩ : ∃ x, zs.getD k 0 = x := ⟨_, rfl⟩
      rw [hx] at hc
      have HX := hide hx; clear hx
      have HP := hide (pck30 x)
      have hp := pck_lt x (n := 1073741824) (by omega)
      have HNW : Hid (nowF zs k = (pck x 1073741824 : Int) - 536870912) := hide (nowF_eq zs HX.out)
      generalize pck x 1073741824 = p at HP hp HNW
      have e1 : wrap64 ((p : Int) - 536870912) = (p : Int) - 536870912 := by unfold wrap64; omega
      have HO2 := hide (HO.out.alloc (.cells #[.int .i64 ((p : Int) - 536870912)] 3))
      go_wp2_with (first
        | (go_at_call 17; refine (HP.out _).mono ?_; rintro e w3 ⟨rfl, rfl⟩)
        | (at_builtin; go_must (refine wpList_append_own _ rfl (.tmp 51) (.tmp 58) _ rfl w.heap.size 3 i0 _ 1 8 Tryd.underlying40 hi hz0 hz1 hz2 rfl (by decide) u12 k ((nowL zs k).map (Value.int .i64)) rfl (by exact HO2.out) ⟨wr.heap.size, 0, none⟩ 1 1 [.int .i64 ((p : Int) - 536870912)] rfl rfl (by exact news1 (Blk.new wr 3 #[.int .i64 ((p : Int) - 536870912)])) (by intro u hu; simp at hu; subst hu; rfl) (by simp [maxLen]; omega) (by omega) (by have := HW.out.size; simp; omega) ?_); intro v8 w8 hown hg _; have HO8 := hide hown; have HG8 := hide hg; clear hown hg))
      go_roundw
      case rel => exact ⟨k + 1, by omega, by go_num, hide (by rw [nowL_succ, HNW.out]; simpa using HO8.out), hide ((HW.out.alloc HW.out.size _).grown HG8.out (by have := HW.out.size; simp; omega) (fun j e => (HO2.out.lt j e).1))⟩
      case measure => simp [intOf]; omega
    · obtain rfl : k = n := by omega
      obtain ⟨gn, cn, cur, rfl, -, hgn, q1, -, -, -⟩ := block_of_own HO.out (by have := HNF.out; omega)
      have HNL : Hid (IsL wr (some ⟨gn, 0, none⟩) (nowL zs k)) := hide fun j hj => ⟨gn, 0, rfl, by rw [Nat.zero_add]; exact own_get HO.out (by rw [nowL_len] at hj; exact hj)⟩
      clear hgn hlt hk
      obtain ⟨w7, hw7⟩ : ∃ w7, w7 = wr := ⟨_, rfl⟩
      subst hw7
      obtain ⟨cs, hmk, hcz, hcs⟩ := make_rows k (by omega)
      have HV0 : Hid (HvAt w7 (w7.alloc (.cells cs 40)) k (fun _ => .slice none 0 0) (Rin zs ls ws f u k 0 0)) := hide ((HvAt.start hcz hcs).congr fun j _ => (Rin_zero zs ls ws f u k j).symm)
      have HW7 := HW
      clear hcz hcs HM
      go_wp2_with fail
      go_loopw [13, 17] (fun v13 i wr => ∃ (j : Nat) (V : Nat → Value), j ≤ k ∧ i = .int .i64 j ∧ v13 = V k ∧ Hid (HvAt w7 wr k V (Rin zs ls ws f u k j 0))) (fun _ i _ => k - (intOf i).toNat)
      case atStart => exact ⟨0, _, by omega, rfl, rfl, HV0⟩
      case round =>
        clear HV0
        obtain ⟨j, V, hjk, rfl, rfl, HV⟩ := hrel
        by_cases hj : j < k
        · go_wp2_with fail
          go_loopw [18] (fun i2 wr => ∃ (m : Nat) (V2 : Nat → Value), m ≤ k ∧ i2 = .int .i64 m ∧ V2 k = V k ∧ Hid (HvAt w7 wr k V2 (Rin zs ls ws f u k j m))) (fun i2 _ => k - (intOf i2).toNat)
          case atStart => exact ⟨0, V, by omega, rfl, rfl, HV⟩
          case round =>
            clear HV
            obtain ⟨m, V2, hmk2, rfl, hvk, HV⟩ := hrel
            have HNLr := hide (HNL.out.below (Nat.le_refl _) HV.out.old)
            have hcj := isl_get HNLr.out (j := j) (by rw [nowL_len]; exact hj)
            rw [nowL_get zs hj] at hcj
            have hbj := nowF_bd zs j
            by_cases hm : m < k
            · have hcm := isl_get HNLr.out (j := m) (by rw [nowL_len]; exact hm)
              rw [nowL_get zs hm] at hcm
              have hbm := nowF_bd zs m
              have hxb := rowF_bd zs ls ws (f := f) (u := u) (n := k) (i := j) (k := m) hu1
              obtain ⟨q, hq⟩ : ∃ q, j * k = q := ⟨_, rfl⟩
              have hjk2 : q ≤ 256 := by rw [← hq]; exact Nat.mul_le_mul (by omega : j ≤ 16) (by omega : k ≤ 16)
              have HRF : Hid (rowF zs ls ws f u k j m = if m < f then (pck (atL ls ((q + m : Nat) : Int)) 17179869184 : Int) - 8589934592 else nowF zs m - nowF zs j + ((pck (atL ws ((q + m : Nat) : Int)) (2 * u + 1) : Int) - u)) := hide (rowF_eq zs ls ws hq)
              have HAL : Hid (∀ W, IsL W B ls → Calls Tryd.prog 19 #[.slice B lb cb, .int .i64 (wrap64 (wrap64 ((j : Int) * (k : Int)) + (m : Int)))] W fun e w' => e = .returned (.int .i64 (atL ls ((q + m : Nat) : Int))) ∧ W = w') := hide fun W hW => at_raw hq hjk2 (by omega) HLB.out hW HMB.out
              have HAW : Hid (∀ W, IsL W C ws → Calls Tryd.prog 19 #[.slice C lc cc, .int .i64 (wrap64 (wrap64 ((j : Int) * (k : Int)) + (m : Int)))] W fun e w' => e = .returned (.int .i64 (atL ws ((q + m : Nat) : Int))) ∧ W = w') := hide fun W hW => at_raw hq hjk2 (by omega) HLC.out hW HMC.out
              have HMX : Hid (m + 1 ≤ maxLen ∧ (m + 1) * 8 ≤ 140737488355328) := hide (by unfold maxLen; omega)
              have HKJ : Hid (k ≠ j) := hide (by omega)
              obtain ⟨na, hna⟩ : ∃ na, nowF zs m = na := ⟨_, rfl⟩
              obtain ⟨nb, hnb⟩ : ∃ nb, nowF zs j = nb := ⟨_, rfl⟩
              rw [hna] at hcm hbm HRF
              rw [hnb] at hcj hbj HRF
              obtain ⟨x, hx⟩ : ∃ x, rowF zs ls ws f u k j m = x := ⟨_, rfl⟩
              rw [hx] at hxb HRF
              have HX := hide hx
              clear hx hq hjk2 hna hnb
              go_upto_region 20 with fail
              go_quiet (fail)
              obtain ⟨W9, hW9⟩ : ∃ W9, W9 = wr.drewN nq := ⟨_, rfl⟩
              have HV9 : Hid (HvAt w7 W9 k V2 (Rin zs ls ws f u k j m)) := hide (by rw [hW9]; exact HV.out.drewN nq)
              rw [← hW9]
              clear hW9 hcm hcj HNLr HV
              have HLR := hide (HB.out.below (Nat.le_refl _) (HW7.out.trans (HV9.out.old.mono HW7.out.size)))
              have HLW := hide (HC.out.below (Nat.le_refl _) (HW7.out.trans (HV9.out.old.mono HW7.out.size)))
              have HVA := hide (HV9.out.alloc (.cells #[.int .i64 x] 3))
              obtain ⟨vj, hvj⟩ : ∃ vj, V2 j = vj := ⟨_, rfl⟩
              have HVJ := hide hvj
              have hcell : W9.cell? ⟨w7.heap.size, j, none⟩ = some vj := by rw [HV9.out.cell hj, hvj]
              have HO2 : Hid ((W9.alloc (.cells #[.int .i64 x] 3)).ownsRow (w7.heap.size + 1) 3 1 vj m ((rowL zs ls ws f u k j m).map (Value.int .i64))) := hide (by
                have := HVA.out.fam.own j (Nat.le_of_lt hj)
                rw [Rin_row zs ls ws hj, rowL_len, hvj] at this
                exact this)
              have HFZ : Hid (∀ (w8 : World), (W9.alloc (.cells #[.int .i64 x] 3)).grownBy w8 vj.ownBlock → w8.frozen? ⟨w7.heap.size, j, none⟩ = false ∧ ∃ u', w8.cell? ⟨w7.heap.size, j, none⟩ = some u') := hide fun w8 hg => by
                obtain ⟨H, hb, _⟩ := HVA.out.hd
                have hb8 := hb.grown hg (by have := HVA.out.nh (Nat.le_of_lt hj); rw [hvj] at this; exact this)
                have hc := HVA.out.cell hj
                rw [hb.cell j] at hc
                exact ⟨hb8.frozen j, _, (hb8.cell j).trans hc⟩
              have HSZ : Hid (w7.heap.size + 1 ≤ (W9.alloc (.cells #[.int .i64 x] 3)).heap.size) := hide (by have := HV9.out.sz; simp; omega)
              have hfz := HV9.out.frozen j
              have HVK := hide hvk
              clear hvj hvk
              by_cases hmf : m < f
              · have d1 : decide ((m : Int) < (f : Int)) = true := dec_lt hmf
                have d1n : decide (m < f) = true := decide_eq_true hmf
                rw [if_pos hmf] at HRF
                generalize atL ls ((q + m : Nat) : Int) = z at HAL HRF
                have HPP := hide (pck34 z)
                have hp := pck_lt z (n := 17179869184) (by decide)
                generalize pck z 17179869184 = p at HPP hp HRF
                obtain rfl := HRF.out
                go_wp2_with (first
                  | (go_at_call 19; (with_reducible refine (HAL.out _ (isl_id HLR.out)).mono ?_); rintro e w3 ⟨rfl, rfl⟩)
                  | (go_at_call 17; (with_reducible refine (HPP.out _).mono ?_); rintro e w3 ⟨rfl, rfl⟩)
                  | (at_builtin; go_must (refine wpList_append_own2 _ rfl (.tmp 116) (.tmp 118) _ rfl (w7.heap.size + 1) 3 i0 _ 1 8 Tryd.underlying40 hi hz0 hz1 hz2 rfl (by decide) vj m ((rowL zs ls ws f u k j m).map (Value.int .i64)) rfl (by exact HO2.out) ⟨W9.heap.size, 0, none⟩ 1 1 [.int .i64 ((p : Int) - 8589934592)] rfl rfl (by exact news1 (Blk.new W9 3 #[.int .i64 ((p : Int) - 8589934592)])) (by intro u hu; simp at hu; subst hu; rfl) HMX.out.1 HMX.out.2 (by exact HSZ.out) ?_); intro v8 w8 hown hg hwh; have HV8 := hide (HVA.out.row hj (by rw [Rin_row zs ls ws hj, rowL_len]; exact hown) (by rw [HVJ.out]; exact hg) (by rw [HVJ.out]; exact hwh)); obtain ⟨fz8, u8, hc8⟩ := HFZ.out _ hg; obtain ⟨g8, c8, cur8, rfl, -, -, -, -, -, -⟩ := block_of_own hown (Nat.succ_pos _); clear hown hg hwh))
                go_roundw
                case rel => exact ⟨m + 1, upd V2 j (.slice (some ⟨g8, 0, none⟩) (m + 1) c8), hm, by go_num, by rw [← HVK.out]; exact upd_ne HKJ.out, hide (HV8.out.congr fun t _ => by rw [← HX.out]; exact Rin_step zs ls ws hj t)⟩
                case measure => exact meas_lt hm
              · have d1 : decide ((m : Int) < (f : Int)) = false := dec_nlt hmf
                have d1n : decide (m < f) = false := decide_eq_false hmf
                rw [if_neg hmf] at HRF
                generalize atL ws ((q + m : Nat) : Int) = z at HAW HRF
                have HPP := hide (pck2u z u hu1)
                have hp := pck_lt z (n := 2 * u + 1) (Nat.succ_pos _)
                generalize pck z (2 * u + 1) = p at HPP hp HRF
                obtain rfl := HRF.out
                go_wp2_with (first
                  | (go_at_call 19; (with_reducible refine (HAW.out _ (isl_id HLW.out)).mono ?_); rintro e w3 ⟨rfl, rfl⟩)
                  | (go_at_call 17; (with_reducible refine (HPP.out _).mono ?_); rintro e w3 ⟨rfl, rfl⟩)
                  | (at_builtin; go_must (refine wpList_append_own2 _ rfl (.tmp 116) (.tmp 118) _ rfl (w7.heap.size + 1) 3 i0 _ 1 8 Tryd.underlying40 hi hz0 hz1 hz2 rfl (by decide) vj m ((rowL zs ls ws f u k j m).map (Value.int .i64)) rfl (by exact HO2.out) ⟨W9.heap.size, 0, none⟩ 1 1 [.int .i64 (na - nb + ((p : Int) - (u : Int)))] rfl rfl (by exact news1 (Blk.new W9 3 #[.int .i64 (na - nb + ((p : Int) - (u : Int)))])) (by intro u hu; simp at hu; subst hu; rfl) HMX.out.1 HMX.out.2 (by exact HSZ.out) ?_); intro v8 w8 hown hg hwh; have HV8 := hide (HVA.out.row hj (by rw [Rin_row zs ls ws hj, rowL_len]; exact hown) (by rw [HVJ.out]; exact hg) (by rw [HVJ.out]; exact hwh)); obtain ⟨fz8, u8, hc8⟩ := HFZ.out _ hg; obtain ⟨g8, c8, cur8, rfl, -, -, -, -, -, -⟩ := block_of_own hown (Nat.succ_pos _); clear hown hg hwh))
                go_roundw
                case rel => exact ⟨m + 1, upd V2 j (.slice (some ⟨g8, 0, none⟩) (m + 1) c8), hm, by go_num, by rw [← HVK.out]; exact upd_ne HKJ.out, hide (HV8.out.congr fun t _ => by rw [← HX.out]; exact Rin_step zs ls ws hj t)⟩
                case measure => exact meas_lt hm
            · obtain rfl : k = m := by omega
              have HVK := hide hvk
              obtain ⟨nb, hnb⟩ : ∃ nb, nowF zs j = nb := ⟨_, rfl⟩
              rw [hnb] at hcj
              have HNB := hide hnb
              have HMX : Hid (j - f + 1 ≤ maxLen ∧ (j - f + 1) * 8 ≤ 140737488355328) := hide (by unfold maxLen; omega)
              have HVA := hide (HV.out.alloc (.cells #[.int .i64 nb] 3))
              have HSZ : Hid (w7.heap.size + 1 ≤ (wr.alloc (.cells #[.int .i64 nb] 3)).heap.size) := hide (by have := HV.out.sz; simp; omega)
              have HO2 : Hid ((wr.alloc (.cells #[.int .i64 nb] 3)).ownsRow (w7.heap.size + 1) 3 1 (V k) (j - f) ((rightL zs f j).map (Value.int .i64))) := hide (by
                have := HVA.out.fam.own k (Nat.le_refl _)
                rw [Rin_right, rightL_len, hvk] at this
                exact this)
              clear hnb hbj hvk hm hmk2
              by_cases hjf : f ≤ j
              · have d1 : decide ((f : Int) ≤ (j : Int)) = true := dec_le hjf
                have d1n : decide (f ≤ j) = true := decide_eq_true hjf
                go_wp2_with (at_builtin; go_must (refine wpList_append_own2 _ rfl (.tmp 124) (.tmp 129) _ rfl (w7.heap.size + 1) 3 i0 _ 1 8 Tryd.underlying40 hi hz0 hz1 hz2 rfl (by decide) (V k) (j - f) ((rightL zs f j).map (Value.int .i64)) rfl (by exact HO2.out) ⟨wr.heap.size, 0, none⟩ 1 1 [.int .i64 nb] rfl rfl (by exact news1 (Blk.new wr 3 #[.int .i64 nb])) (by intro u hu; simp at hu; subst hu; rfl) HMX.out.1 HMX.out.2 (by exact HSZ.out) ?_); intro v8 w8 hown hg hwh; have HV8 := hide (HVA.out.last (by rw [Rin_right, rightL_len]; exact hown) (by rw [HVK.out]; exact hg) (by rw [HVK.out]; exact hwh)); clear hown hg hwh)
                go_roundw
                case rel => exact ⟨j + 1, upd V2 k v8, hj, by go_num, (upd_eq V2 k v8).symm, hide (HV8.out.congr fun t _ => by rw [← HNB.out]; exact Rin_next zs ls ws hj hjf t)⟩
                case measure => exact meas_lt hj
              · have d1 : decide ((f : Int) ≤ (j : Int)) = false := dec_nle hjf
                have d1n : decide (f ≤ j) = false := decide_eq_false hjf
                go_wp2_with fail
                go_roundw
                case rel => exact ⟨j + 1, V2, hj, by go_num, HVK.out.symm, hide (HV.out.congr fun t _ => Rin_stay zs ls ws (Nat.lt_of_not_le hjf) t)⟩
                case measure => exact meas_lt hj
        · obtain rfl : k = j := by omega
          have HRS := hide HV.out.rows
          have HNLr := hide (HNL.out.below (Nat.le_refl _) HV.out.old)
          have HWr := hide (HW7.out.trans (HV.out.old.mono HW7.out.size))
          have HRD := hide (round_ok (cn := cn) HNLr.out HRS.out hn16 HNF.out hu1 (errT_below HE.out HWr.out))
          obtain ⟨Ar, cr, hvr, hIr⟩ := isl_ownH (by have := HV.out.fam.own k (Nat.le_refl _); rw [Rin_right, rightL_len] at this; exact this) (rightL_len zs f k)
          have HIR := hide hIr
          have HPL := hide (fun lo hi => halves_plain zs ls ws (lo := lo) (hi := hi) hu1 HNF.out)
          have HOB := hide (fun j hj => out_bd zs ls ws (j := j) hu1 HNF.out hj)
          have HOL := hide (setL_len (nowL zs k) (rowsL zs ls ws f u k) (f : Int) k)
          have HRB : Hid (∀ t, t < k - f → -536870912 ≤ (rightL zs f k).getD t 0 ∧ (rightL zs f k).getD t 0 < 536870912) := hide (fun t ht => by rw [rightL_get zs ht]; exact nowF_bd zs _)
          have HRL := hide (rightL_len zs f k)
          rw [hvr]
          have hfk : f ≤ k := by have := HNF.out; omega
          clear hvr hIr hj hjk hmk HV HNL HO HRS HNLr q1 hi hz0 hz1 hz2
          generalize setL (nowL zs k) (rowsL zs ls ws f u k) (f : Int) k = out at HRD HPL HOB HOL
          generalize rightL zs f k = rl at HIR HPL HRB HRL
          go_wp2_with fail
          refine HRD.out.mono ?_
          rintro r w9 ⟨go, co, rfl, hco, hIo, hB9⟩
          have HB9 := hide hB9
          have hne : ¬ co = f := ne_of_le hco HNF.out
          have hfk2 : 0 < k - f := by have := HNF.out; omega
          obtain ⟨qq, hqq⟩ : ∃ qq, k - f = qq := ⟨_, rfl⟩
          have hkq : k = f + qq := by omega
          have HIS := hide (isl_drop (f := f) hIo)
          have HISL : Hid ((out.drop f).length = qq) := hide (by rw [List.length_drop, HOL.out]; exact hqq)
          have HIG : Hid (∀ t, t < qq → (out.drop f).getD t 0 = out.getD (f + t) 0) := hide (fun t _ => by simp [List.getD])
          have HIB : Hid (∀ t, t < qq → -1000000000000 ≤ (out.drop f).getD t 0 ∧ (out.drop f).getD t 0 ≤ 1000000000000) := hide (fun t ht => by rw [HIG.out t ht]; exact HOB.out (f + t) (by omega))
          rw [hqq] at HRL HRB HPL
          have HPL2 : Hid (∀ lo hi, (∀ t, t < qq → lo ≤ rl.getD t 0 ∧ rl.getD t 0 ≤ hi) → (∀ t, t < qq → lo - u ≤ (out.drop f).getD t 0 ∧ (out.drop f).getD t 0 ≤ hi + u) ∧ (∀ s t, s < qq → t < qq → (out.drop f).getD s 0 - (out.drop f).getD t 0 ≤ (hi - lo) / 2 + 2 * u + 1)) := hide (fun lo hi h => ⟨fun t ht => by rw [HIG.out t ht]; exact (HPL.out lo hi h).1 (f + t) (by omega) (by omega), fun s t hs ht => by rw [HIG.out s hs, HIG.out t ht]; exact (HPL.out lo hi h).2 (f + s) (f + t) (by omega) (by omega) (by omega) (by omega)⟩)
          have HIR2 := hide (HIR.out.below (Nat.le_refl _) hB9)
          clear HPL HIG HOB HRD hB9 hIo HIR hkq
          generalize out.drop f = is at HIS HISL HIB HPL2
          rw [hqq] at hfk2
          have HSP1 := hide (fun c => spread_is (c := c) HIS.out HISL.out hfk2 HIB.out (by omega))
          have HSP2 := hide (spread_is (c := cr) HIR2.out HRL.out hfk2 (fun t ht => by have := HRB.out t ht; omega) (by omega))
          rw [hqq]
          have HWW := hide (HWr.out.trans (HB9.out.mono HWr.out.size))
          have hq1000 : qq ≤ 16 := by omega
          clear HWr HB9 HW HW7 HA HB HC HLB HLC HMB HMC HE
          go_wp2_with (go_at_call 20; fail)
          refine (HSP1.out _).mono ?_
          rintro r wx ⟨a1, b1, rfl, hT1, hL1, rfl⟩
          have HT1 := hide hT1; have HL1 := hide hL1
          clear hT1 hL1
          obtain ⟨e1, he1⟩ : ∃ e, a1 - b1 = e := ⟨_, rfl⟩
          rw [he1]
          have HE1 := hide he1
          clear he1
          go_wp2_with (go_at_call 20; fail)
          refine HSP2.out.mono ?_
          rintro r wx ⟨a2, b2, rfl, hT2, hL2, rfl⟩
          obtain ⟨d, hd⟩ : ∃ d, a2 - b2 = d := ⟨_, rfl⟩
          have hab := top_low hT2 hL2
          have hd2 := top_bd HRL.out (M := 536870912) (fun t ht => by have := HRB.out t ht; omega) hT2 hL2
          have hle : e1 ≤ d / 2 + 2 * (u : Int) + 1 := by
            rw [← HE1.out, ← hd]
            exact spread_le HISL.out HRL.out HT1.out HL1.out hT2 hL2 (fun h => (HPL2.out b2 a2 h).2)
          have he1b := top_bd (M := 1000000000000) HISL.out HIB.out HT1.out HL1.out
          rw [HE1.out] at he1b
          rw [hd] at hab hd2 ⊢
          have HLE := hide hle
          have hnle : decide (d / 2 + 2 * (u : Int) + 1 < e1) = false := decide_eq_false (by omega)
          clear hT2 hL2 hd hle
          go_wp2_with fail
          obtain ⟨br, offr, rfl, hc0⟩ := HIR2.out 0 (by rw [HRL.out]; exact hfk2)
          obtain ⟨x0, hx0⟩ : ∃ x, rl.getD 0 0 = x := ⟨_, rfl⟩
          rw [hx0, Nat.add_zero] at hc0
          have hb0 := HRB.out 0 hfk2
          rw [hx0] at hb0
          clear hx0 HSP1 HSP2 hab hd2 he1b hnle
          go_quiet (fail)
          obtain ⟨W9, hW9⟩ : ∃ W9, W9 = wx.drewN nq := ⟨_, rfl⟩
          have HB9 : Hid (Below wx.heap.size wx W9) := hide (by rw [hW9]; exact below_drewN (Below.refl _ _) nq)
          rw [← hW9]
          clear hW9 hc0
          go_wp2_with fail
          go_loopw [23, 24, 25] (fun l h i wr => ∃ (t : Nat) (lo hi : Int), t ≤ qq ∧ i = .int .i64 t ∧ l = .int .i64 lo ∧ h = .int .i64 hi ∧ (-536870912 ≤ lo ∧ lo < 536870912) ∧ (-536870912 ≤ hi ∧ hi < 536870912) ∧ Hid (∀ s, s < t → lo ≤ rl.getD s 0 ∧ rl.getD s 0 ≤ hi) ∧ Hid (Below wx.heap.size wx wr)) (fun _ _ i _ => qq - (intOf i).toNat)
          case atStart => exact ⟨0, x0, x0, by omega, rfl, rfl, rfl, hb0, hb0, hide (fun s hs => absurd hs (Nat.not_lt_zero s)), HB9⟩
          case round =>
            obtain ⟨t, lo, hi, ht, rfl, rfl, rfl, hlo, hhi, HLH, HW9⟩ := hrel
            by_cases hlt : t < qq
            · obtain ⟨b', off', e, hc⟩ := (HIR2.out.below (Nat.le_refl _) HW9.out) t (by rw [HRL.out]; exact hlt)
              cases e
              obtain ⟨y, hy⟩ : ∃ y, rl.getD t 0 = y := ⟨_, rfl⟩
              rw [hy] at hc
              have hby := HRB.out t hlt
              rw [hy] at hby
              have HLH2 := hide (lohi_succ HLH.out hy)
              clear hy
              go_upto_region 37 with fail
              go_region
              all_goals (go_wp2_with fail; go_roundw; (case rel => exact ⟨t + 1, min lo y, max hi y, hlt, by go_num, rfl, rfl, by omega, by omega, HLH2, hide (below_drewN HW9.out 1)⟩); (case measure => exact meas_lt hlt))
            · obtain rfl : qq = t := by omega
              have HPB := hide (HPL2.out lo hi HLH.out).1
              clear HLH HPL2 HIB HRB ht hlt
              go_wp2_with fail
              go_loopw [26] (fun i wr => ∃ t : Nat, t ≤ qq ∧ i = .int .i64 t ∧ Hid (Below wx.heap.size wx wr)) (fun i _ => qq - (intOf i).toNat)
              case atStart => exact ⟨0, by omega, rfl, HW9⟩
              case round =>
                obtain ⟨t, ht, rfl, HWl⟩ := hrel
                by_cases hlt : t < qq
                · obtain ⟨b', off', e, hc⟩ := (HIS.out.below (Nat.le_refl _) HWl.out) t (by rw [HISL.out]; exact hlt)
                  cases e
                  obtain ⟨z, hz⟩ : ∃ z, is.getD t 0 = z := ⟨_, rfl⟩
                  have hpb := HPB.out t hlt
                  rw [hz] at hc hpb
                  have d1 : decide (z < lo - (u : Int) - 1) = false := decide_eq_false (by omega)
                  have d2 : decide (hi + (u : Int) < z) = false := decide_eq_false (by omega)
                  clear hz
                  go_wp2_with fail
                  go_roundw
                  case rel => exact ⟨t + 1, hlt, by go_num, HWl⟩
                  case measure => exact meas_lt hlt
                · obtain rfl : qq = t := by omega
                  go_wp2_with fail
                  go_ret
                  exact ⟨rfl, HWW.out.trans (HWl.out.mono HWW.out.size)⟩
end Go.Proofs.YtfdadkngbnhmeaaDoor
