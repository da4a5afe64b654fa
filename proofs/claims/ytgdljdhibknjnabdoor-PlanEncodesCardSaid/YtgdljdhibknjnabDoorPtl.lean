/- The walk of metronomelaw.PartTables; conditions: windows and times lie in memory; errors.errorType and metronomeref.Fine hold what start-up lays there. -/
import Derived.Test.YtgdljdhibknjnabDoorRwn
import Derived.Test.YtgdljdhibknjnabDoorSl
import Derived.Test.YtgdljdhibknjnabDoorOpen
namespace Go.Proofs.YtgdljdhibknjnabDoor
open Go.RowKit

/-- metronomelaw.is at an error at a place. -/
theorem is_atV (v : Value) (e pl : Int) (w : World) (hg : ErrT w) (hv : AtV w v e pl) (h0 : e ≠ 0) : Calls Tryd.prog 62 #[v, .agg #[.int .i64 e, .int .i64 pl]] w fun r w' => r = .returned (.bool true) ∧ Below w.heap.size w w' := by
  rcases hv with ⟨rfl, rfl⟩ | ⟨g, rfl, hb⟩
  · have h := is_errV e e (-1) w hg
    unfold errV at h
    rw [if_neg h0] at h
    exact h.mono fun r w' ⟨a, b⟩ => ⟨by rw [a]; simp, b⟩
  · exact (is_at e pl g e pl w hg hb).mono fun r w' ⟨a, b⟩ => ⟨by rw [a]; simp, b⟩
theorem is_fine (w : World) (hg : ErrT w) : Calls Tryd.prog 62 #[.nilIface, .agg #[.int .i64 0, .int .i64 (-1)]] w fun r w' => r = .returned (.bool true) ∧ Below w.heap.size w w' := by
  have h := is_errV 0 0 (-1) w hg
  unfold errV at h
  rw [if_pos rfl] at h
  exact h.mono fun r w' ⟨a, b⟩ => ⟨by rw [a]; simp, b⟩
set_option maxRecDepth 100000 in
theorem tat_out (g : Nat) (now : Int) (w : World) (h : now < 0 ∨ 1099511627776 < now) :
    Calls Tryd.prog 64 #[.pointer (some ⟨g, 0, none⟩), .int .i64 now] w fun e w' => e = .returned (.tuple #[.int .i64 0, .int .i64 0, errV 2]) ∧ Below w.heap.size w w' := by
  by_cases h1 : now < 0
  · have d1 : decide (now < 0) = true := decide_eq_true h1
    clear h h1
    go_enter Tryd.func64, Tryd.ntmps64
    go_wp2_with fail
    go_ret3
    exact ⟨rfl, by repeat (first | exact Below.refl _ _ | refine Below.alloc ?_ (by simp) _)⟩
  · have d1 : decide (now < 0) = false := decide_eq_false h1
    have d2 : decide (1099511627776 < now) = true := decide_eq_true (by omega)
    clear h h1
    go_enter Tryd.func64, Tryd.ntmps64
    go_wp2_with fail
    go_ret3
    exact ⟨rfl, by repeat (first | exact Below.refl _ _ | refine Below.alloc ?_ (by simp) _)⟩
def now_bad (t : Int) : Prop := t < 0 ∨ 1099511627776 < t
theorem bare_same2 (e : Int) (w : World) (hg : ErrT w) : Calls Tryd.prog 17 #[errV e, .int .i64 e] w fun r w' => r = .returned (.bool true) ∧ Below w.heap.size w w' :=
  (bare_errV e e w hg).mono fun r w' ⟨h1, h2⟩ => ⟨by rw [h1]; simp, h2⟩
set_option maxRecDepth 100000 in
set_option maxHeartbeats 8000000 in
theorem tables_law (fr : Int) (A : Option Addr) (n c : Nat) (ws : List Wn) (T : Option Addr) (m ct : Nat) (zs : List Int) (which : Int) (w : World) (hws : ws.length = n) (hW : WinsAt w A n ws) (hm : n ≤ 9223372036854775807) (hI : IntsAt w T m zs) (hm2 : m ≤ 9223372036854775807) (hE : ErrT w) (hF : FinT w) :
    Calls Tryd.prog 11 #[.int .i64 fr, .slice A n c, .slice T m ct, .int .i64 which] w fun e w' => e = .returned (.bool true) ∧ Below w.heap.size w w' := by
  by_cases h60 : 60 < n ∨ 60 < m
  · have hd : Hid (decide ((60 : Int) < (n : Int)) = true ∨ (decide ((60 : Int) < (n : Int)) = false ∧ decide ((60 : Int) < (m : Int)) = true)) := hide (by simp only [decide_eq_true_eq, decide_eq_false_iff_not]; omega)
    clear hws hW hI hE hF h60
    rcases hd.out with h | ⟨h, h'⟩
    all_goals
      go_enter Tryd.func11, Tryd.ntmps11
      go_wp2_with fail
      go_ret
      exact ⟨rfl, Below.refl _ _⟩
  · have n60 : n ≤ 60 := by omega
    have m60 : m ≤ 60 := by omega
    have d1 : decide ((60 : Int) < (n : Int)) = false := decide_eq_false (by omega)
    have d2 : decide ((60 : Int) < (m : Int)) = false := decide_eq_false (by omega)
    have HNW := hide (pnew_all fr A n c ws w hws hW)
    have HRW : Hid (∀ w0, Below w.heap.size w w0 → Calls Tryd.prog 61 #[.int .i64 fr, .slice A n c] w0 (RwsPost w0 fr n ws)) := hide fun w0 hB => rwins_any fr A n c ws w0 hws (hW.below hB) (hF.below hB)
    have HWS := hide hws; have HW := hide hW; have HI := hide hI; have HE := hide hE
    clear hws hW hI hE hF h60
    obtain ⟨e1, he1⟩ : ∃ e1, (newE fr n ws).1 = e1 := ⟨_, rfl⟩
    obtain ⟨p1, hp1⟩ : ∃ p1, (newE fr n ws).2 = p1 := ⟨_, rfl⟩
    have HE1 := hide he1; have HP1 := hide hp1
    clear he1 hp1
    by_cases h0 : e1 = 0
    case neg =>
      have q1 : (e1 != 0) = true := by simp [h0]
      have H0 := hide h0; clear h0
      go_enter Tryd.func11, Tryd.ntmps11
      go_wp2_with fail
      refine (HNW.out).mono ?_
      rintro e w2 hpost
      rcases hpost.2 with ⟨_, v, rfl, hv⟩ | ⟨h, _⟩
      rotate_left
      · rw [HE1.out] at h; exact absurd h H0.out
      have HB2 := hide hpost.1
      have HV := hide (show AtV w2 v e1 p1 by rw [← HE1.out, ← HP1.out]; exact hv)
      clear hpost hv
      go_wp2_with fail
      refine (HRW.out _ HB2.out).mono ?_
      rintro e w3 ⟨rfl, hB⟩
      rw [HE1.out, HP1.out]
      have HB3 := hide (HB2.out.trans (hB.mono HB2.out.size))
      have HV3 := hide ((HV.out.below hB).below ((Below.refl w3.heap.size w3).alloc (Nat.le_refl _) (.cells #[.int .i64 e1, .int .i64 p1] 129)))
      have HE3 := hide (errT_alloc (errT_below HE.out HB3.out) (.cells #[.int .i64 e1, .int .i64 p1] 129))
      have HB4 := hide (HB3.out.alloc HB3.out.size (.cells #[.int .i64 e1, .int .i64 p1] 129))
      clear hB HV HB2 HNW HRW
      go_wp2_with fail
      refine (is_atV v e1 p1 _ (by exact HE3.out) (by exact HV3.out) H0.out).mono ?_
      rintro e w5 ⟨rfl, hB⟩
      have HB5 := hide (HB4.out.trans (hB.mono HB4.out.size))
      clear hB
      go_wp2_with fail
      go_ret
      exact ⟨rfl, HB5.out⟩
    case pos =>
      subst h0
      go_enter Tryd.func11, Tryd.ntmps11
      go_wp2_with fail
      refine (HNW.out).mono ?_
      rintro e w2 hpost
      rcases hpost.2 with ⟨h, _⟩ | ⟨_, f1, f2, n32, hok, g, A2, c2, rfl, hg0, hg1, hW2⟩
      · rw [HE1.out] at h; exact absurd rfl h
      have HB2 := hide hpost.1
      have HOK := hide hok
      have HT := hide (And.intro hg0 (And.intro hg1 hW2))
      clear hpost hok hg0 hg1 hW2
      go_wp2_with fail
      refine (HRW.out _ HB2.out).mono ?_
      rintro e w3 ⟨rfl, hB⟩
      rw [HE1.out, HP1.out]
      have HB4 := hide ((HB2.out.trans (hB.mono HB2.out.size)).alloc (HB2.out.trans (hB.mono HB2.out.size)).size (.cells #[.int .i64 0, .int .i64 p1] 129))
      have HBT := hide (hB.alloc hB.size (.cells #[.int .i64 0, .int .i64 p1] 129))
      clear hB HNW HRW
      go_wp2_with fail
      go_loopw [12, 13] (fun v i wr => ∃ k : Nat, k ≤ n ∧ i = .int .i64 k ∧ v = .int .i64 (shA which (ws.take k)) ∧ Hid (Below w2.heap.size w2 wr)) (fun _ i _ => n - (intOf i).toNat)
      case atStart => exact ⟨0, by omega, rfl, rfl, HBT⟩
      case round =>
        clear HBT HB4
        obtain ⟨k, hk, rfl, rfl, HB⟩ := hrel
        have hbd := shA_bd HOK.out f2 which k (by rw [HWS.out]; exact hk)
        obtain ⟨sk, hsk⟩ : ∃ sk, shA which (ws.take k) = sk := ⟨_, rfl⟩
        rw [hsk] at hbd ⊢
        have HSK := hide hsk
        clear hsk
        have hk60 : (k : Int) ≤ 60 := by omega
        by_cases hlt : k < n
        · have HBw := hide (HB2.out.trans (HB.out.mono HB2.out.size))
          obtain ⟨b, off, rfl, y, hy, c0, c1, c2'⟩ := (HW.out.below HBw.out) k hlt
          obtain ⟨y1, y2, y3, y4, y5⟩ := wOk_at HOK.out (Int.le_refl _) k y hy
          have HSN := hide (shA_snoc which ws k y hy)
          have hk1 : (k : Int) < (n : Int) := by omega
          have hk0 : (0 : Int) ≤ (k : Int) := by omega
          clear hy HBw
          by_cases hp : y.p = which
          · have d3 : (y.p == which) = true := by simp [hp]
            have HS2 : Hid (shA which (ws.take (k + 1)) = sk + (y.t - y.f)) := hide (by rw [HSN.out, if_pos hp, HSK.out])
            clear hp
            go_wp2_with fail
            go_quiet (fail)
            go_wp2_with fail
            go_roundw
            case rel => exact ⟨k + 1, by omega, by go_num, by rw [HS2.out], hide (below_drewN HB.out _)⟩
            case measure => simp [intOf]; omega
          · have d3 : (y.p == which) = false := by rw [beq_eq_false_iff_ne]; exact hp
            have HS2 : Hid (shA which (ws.take (k + 1)) = sk) := hide (by rw [HSN.out, if_neg hp, HSK.out]; omega)
            clear hp
            go_wp2_with fail
            go_roundw
            case rel => exact ⟨k + 1, by omega, by go_num, by rw [HS2.out], HB⟩
            case measure => simp [intOf]; omega
        · obtain rfl : n = k := by omega
          have HSA : Hid (shA which ws = sk) := hide (by rw [← HSK.out, List.take_of_length_le (by rw [HWS.out]; omega)])
          clear HSK hlt hk hbd
          go_wp2_with fail
          obtain ⟨wo, rfl⟩ : ∃ wo : World, wo = wr := ⟨_, rfl⟩
          go_loopw [14] (fun i wr => ∃ k : Nat, k ≤ m ∧ i = .int .i64 k ∧ Hid (Below w2.heap.size w2 wr)) (fun i _ => m - (intOf i).toNat)
          case atStart => exact ⟨0, by omega, rfl, HB⟩
          case round =>
            clear HB
            obtain ⟨k, hk, rfl, HB⟩ := hrel
            have HBw := hide (HB2.out.trans (HB.out.mono HB2.out.size))
            obtain ⟨hg0, hg1, hW2⟩ := HT.out
            have HG0 := hide (fun (w0 : World) (h : Below w2.heap.size w2 w0) => (h.cell (p := ⟨g, 0, none⟩) (World.block_lt_of_cell? _ _ hg0)).trans hg0)
            have HG1 := hide (fun (w0 : World) (h : Below w2.heap.size w2 w0) => (h.cell (p := ⟨g, 1, none⟩) (World.block_lt_of_cell? _ _ hg1)).trans hg1)
            have HG2 := hide (fun (w0 : World) (h : Below w2.heap.size w2 w0) => hW2.below h)
            clear hg0 hg1 hW2
            by_cases hlt : k < m
            · obtain ⟨b, off, rfl, c0⟩ := HI.out k hlt
              have hb := World.block_lt_of_cell? _ _ c0
              have k0 := (HBw.out.cell (p := ⟨b, off + k, none⟩) hb).trans c0
              obtain ⟨t, ht⟩ : ∃ t, zs.getD k 0 = t := ⟨_, rfl⟩
              rw [ht] at k0
              clear c0 ht
              by_cases hr : now_bad t
              · have HR := hide hr; clear hr
                go_wp2_with fail
                refine (rat_out fr t _ _ HR.out).mono ?_
                rintro e w5 ⟨rfl, hB⟩
                have HB5 := hide (HB.out.trans (hB.mono HB.out.size))
                have k0' := ((HB2.out.trans (HB5.out.mono HB2.out.size)).cell (p := ⟨b, off + k, none⟩) hb).trans ((HBw.out.cell (p := ⟨b, off + k, none⟩) hb).symm.trans k0)
                clear hB k0
                go_wp2_with fail
                refine (tat_out g t _ HR.out).mono ?_
                rintro e w6 ⟨rfl, hB⟩
                have HB6 := hide (HB5.out.trans (hB.mono HB5.out.size))
                clear hB k0'
                go_wp2_with fail
                refine (bare_same2 2 _ (by exact errT_below HE.out (HB2.out.trans (HB6.out.mono HB2.out.size)))).mono ?_
                rintro e w7 ⟨rfl, hB⟩
                have HB7 := hide (HB6.out.trans (hB.mono HB6.out.size))
                clear hB
                go_wp2_with fail
                go_roundw
                case rel => exact ⟨k + 1, by omega, by go_num, HB7⟩
                case measure => simp [intOf]; omega
              · have t0 : 0 ≤ t := by unfold now_bad at hr; omega
                have t1 : t ≤ 1099511627776 := by unfold now_bad at hr; omega
                obtain ⟨p, hp⟩ : ∃ p, p = atP ws (t % fr) := ⟨_, rfl⟩
                obtain ⟨q, hq⟩ : ∃ q, q = atL fr ws (t % fr) := ⟨_, rfl⟩
                have HP := hide hp; have HQ := hide hq
                clear hr hp hq
                go_wp2_with fail
                refine (rat_any fr t A n c ws _ (by omega) HWS.out HOK.out f1 f2 t0 t1 (by exact HW.out.below HBw.out) p q HP HQ).mono ?_
                rintro e w5 ⟨rfl, hB⟩
                have HB5 := hide (HB.out.trans (hB.mono HB.out.size))
                have k0' := ((HB2.out.trans (HB5.out.mono HB2.out.size)).cell (p := ⟨b, off + k, none⟩) hb).trans ((HBw.out.cell (p := ⟨b, off + k, none⟩) hb).symm.trans k0)
                clear hB k0
                go_wp2_with fail
                refine (at_any g fr t A2 n c2 ws _ (by omega) HWS.out HOK.out f1 f2 t0 t1 (by exact HG0.out _ HB5.out) (by exact HG1.out _ HB5.out) (by exact HG2.out _ HB5.out) (t % fr) (hide rfl) p q HP HQ).mono ?_
                rintro e w6 ⟨rfl, hB⟩
                have HB6 := hide (HB5.out.trans (hB.mono HB5.out.size))
                clear hB k0'
                go_wp2_with fail
                refine (bare_same2 0 _ (by exact errT_below HE.out (HB2.out.trans (HB6.out.mono HB2.out.size)))).mono ?_
                rintro e w7 ⟨rfl, hB⟩
                have HB7 := hide (HB6.out.trans (hB.mono HB6.out.size))
                clear hB
                go_wp2_with fail
                go_roundw
                case rel => exact ⟨k + 1, by omega, by go_num, HB7⟩
                case measure => simp [intOf]; omega
            · go_wp2_with fail
              refine (share_any g fr which A2 n c2 ws _ (by omega) HWS.out HOK.out f2 (by exact HG0.out _ HB.out) (by exact HG1.out _ HB.out) (by exact HG2.out _ HB.out)).mono ?_
              rintro e w5 ⟨rfl, hB⟩
              rw [HSA.out]
              have HB5 := hide (HBw.out.trans (hB.mono HBw.out.size))
              clear hB
              go_wp2_with fail
              go_ret
              exact ⟨ret_bool (by simp), HB5.out⟩
end Go.Proofs.YtgdljdhibknjnabDoor
