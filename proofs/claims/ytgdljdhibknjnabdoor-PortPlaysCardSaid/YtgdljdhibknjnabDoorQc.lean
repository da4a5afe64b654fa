/- The walk of metronomelaw.PortPlays; conditions: what is asked lies in memory; errors.errorType holds what start-up lays there. -/
import Derived.Test.YtgdljdhibknjnabDoorQb
import Derived.Test.YtgdljdhibknjnabDoorEp
import Derived.Deep.RegionHeld3
import Derived.Deep.Cut
import Derived.Deep.CutRange
import Derived.Deep.CutBlock
import Derived.Deep.QuietTactic
import Derived.BigQuiet
namespace Go.Proofs.YtgdljdhibknjnabDoor
open Go.RowKit

theorem bare_eq (e : Int) (w : World) (hg : ErrT w) : Calls Tryd.prog 17 #[errV e, .int .i64 e] w fun r w' => r = .returned (.bool true) ∧ Below w.heap.size w w' :=
  (bare_errV e e w hg).mono fun r w' ⟨h1, h2⟩ => ⟨by rw [h1]; simp, h2⟩
theorem PrAt.start {w : World} (keep most : Int) : PrAt w ((w.alloc (.cells (saC keep ⟨#[]⟩ (-1)) 159)).alloc (.cells (quC most (.slice none 0 0) 0) 161)) keep most w.heap.size ⟨#[]⟩ (-1) (w.alloc (.cells (saC keep ⟨#[]⟩ (-1)) 159)).heap.size (.slice none 0 0) 0 (.slice none 0 0) [] :=
  ⟨(Blk.new w _ _).alloc _, Blk.new _ _ _, QAt.nil _ _ _ _, QAt.nil _ _ _ _, Nat.le_refl _, by simp, by simp, fun k e => by simp [Value.ownBlock] at e, fun k e => by simp [Value.ownBlock] at e, ((Below.refl _ _).alloc (Nat.le_refl _) _).alloc (by simp) _⟩
set_option maxRecDepth 100000 in
set_option maxHeartbeats 8000000 in
theorem ports_law (keep most : Int) (A : Option Addr) (len c : Nat) (l : List Ask) (hm : len ≤ 9223372036854775807) (w : World) (hA : UsesAt w A len l) (hE : ErrT w) :
    Calls Tryd.prog 10 #[.int .i64 keep, .int .i64 most, .slice A len c] w fun e w' => e = .returned (.bool true) ∧ Below w.heap.size w w' := by
  by_cases h100 : 100 < len
  · have d1 : decide ((100 : Int) < (len : Int)) = true := decide_eq_true (by omega)
    clear h100 hA hE
    go_enter Tryd.func10, Tryd.ntmps10
    go_wp2_with fail
    go_ret
    exact ⟨rfl, Below.refl _ _⟩
  · have d1 : decide ((100 : Int) < (len : Int)) = false := decide_eq_false (by omega)
    have hl100 : len ≤ 100 := by omega
    have HE := hide hE
    clear h100 hE
    by_cases hk : keep < 1 ∨ 1099511627776 < keep
    · have HK := hide hk
      have hc : Hid (decide (keep < 1) = true ∨ (decide (keep < 1) = false ∧ decide (1099511627776 < keep) = true)) := hide (by simp only [decide_eq_true_eq, decide_eq_false_iff_not]; omega)
      clear hA hk
      by_cases hq : most < 1 ∨ 16 < most
      · have HQ := hide hq
        clear hq
        rcases hc.out with h1 | ⟨h1, h2⟩
        all_goals
          clear hc
          go_enter Tryd.func10, Tryd.ntmps10
          go_wp2_with fail
          refine (newSamp_bad keep _ HK.out).mono ?_
          rintro e w2 ⟨rfl, rfl⟩
          go_wp2_with fail
          refine (newQue_bad most _ HQ.out).mono ?_
          rintro e w3 ⟨rfl, rfl⟩
          go_wp2_with fail
          refine (bare_eq 2 _ HE.out).mono ?_
          rintro e w4 ⟨rfl, hB⟩
          have HB := hide hB; clear hB
          go_wp2_with fail
          go_ret
          exact ⟨rfl, HB.out⟩
      · have q1 : 1 ≤ most := by omega
        have q2 : most ≤ 16 := by omega
        clear hq
        rcases hc.out with h1 | ⟨h1, h2⟩
        all_goals
          clear hc
          go_enter Tryd.func10, Tryd.ntmps10
          go_wp2_with fail
          refine (newSamp_bad keep _ HK.out).mono ?_
          rintro e w2 ⟨rfl, rfl⟩
          go_wp2_with fail
          refine (newQue_ok most _ q1 q2).mono ?_
          rintro e w3 ⟨rfl, hw3⟩
          have HB3 : Hid (Below w2.heap.size w2 w3) := hide (by rw [← hw3]; exact (Below.refl _ _).alloc (Nat.le_refl _) _)
          clear hw3
          go_wp2_with fail
          refine (bare_eq 2 _ (by exact errT_below HE.out HB3.out)).mono ?_
          rintro e w4 ⟨rfl, hB⟩
          have HB := hide (HB3.out.trans (hB.mono HB3.out.size)); clear hB
          go_wp2_with fail
          go_ret
          exact ⟨rfl, HB.out⟩
    · have k1 : 1 ≤ keep := by omega
      have k2 : keep ≤ 1099511627776 := by omega
      have e1 : decide (keep < 1) = false := decide_eq_false (by omega)
      have e2 : decide (1099511627776 < keep) = false := decide_eq_false (by omega)
      clear hk
      by_cases hq : most < 1 ∨ 16 < most
      · have HQ := hide hq
        have hc : Hid (decide (most < 1) = true ∨ (decide (most < 1) = false ∧ decide (16 < most) = true)) := hide (by simp only [decide_eq_true_eq, decide_eq_false_iff_not]; omega)
        clear hA hq
        rcases hc.out with h1 | ⟨h1, h2⟩
        all_goals
          clear hc
          go_enter Tryd.func10, Tryd.ntmps10
          go_wp2_with fail
          refine (newSamp_ok keep _ k1 k2).mono ?_
          rintro e w2 ⟨rfl, hw2⟩
          have HB2 : Hid (Below w.heap.size w w2) := hide (by rw [← hw2]; exact (Below.refl _ _).alloc (Nat.le_refl _) _)
          clear hw2
          go_wp2_with fail
          refine (newQue_bad most _ HQ.out).mono ?_
          rintro e w3 ⟨rfl, rfl⟩
          go_wp2_with fail
          refine (bare_eq 2 _ (by exact errT_below HE.out HB2.out)).mono ?_
          rintro e w4 ⟨rfl, hB⟩
          have HB := hide (HB2.out.trans (hB.mono HB2.out.size)); clear hB
          go_wp2_with fail
          go_ret
          exact ⟨rfl, HB.out⟩
      · have q1 : 1 ≤ most := by omega
        have q2 : most ≤ 16 := by omega
        have e3 : decide (most < 1) = false := decide_eq_false (by omega)
        have e4 : decide (16 < most) = false := decide_eq_false (by omega)
        have HA := hide hA
        clear hq hA
        go_enter Tryd.func10, Tryd.ntmps10
        go_wp2_with fail
        refine (newSamp_ok keep _ k1 k2).mono ?_
        rintro e w2 ⟨rfl, hw2⟩
        go_wp2_with fail
        refine (newQue_ok most _ q1 q2).mono ?_
        rintro e w3 ⟨rfl, hw3⟩
        have hs0 := PrAt.start (w := w) keep most
        rw [hw2, hw3] at hs0
        obtain ⟨g1, hg1⟩ : ∃ g1, w.heap.size = g1 := ⟨_, rfl⟩
        obtain ⟨g2, hg2⟩ : ∃ g2, w2.heap.size = g2 := ⟨_, rfl⟩
        have HS : Hid (PrAt w w3 keep most g1 ⟨#[]⟩ (-1) g2 (.slice none 0 0) 0 (.slice none 0 0) []) := hide (by rw [← hg1, ← hg2]; exact hs0)
        rw [hg1, hg2]
        clear hs0 hg1 hg2 hw2 hw3
        go_wp2_with fail
        go_loopw [11, 12, 13, 14, 15] (fun ga gd gn gv gi wr => ∃ (k : Nat) (a : Int) (d : ByteArray) (n : Int) (v1 : Value) (q : List ByteArray), k ≤ len ∧ gi = .int .i64 k ∧ ga = .int .i64 a ∧ gd = .string d ∧ gn = .int .i64 n ∧ Hid (-1 ≤ a ∧ a ≤ 1099511627776 ∧ 0 ≤ n ∧ n ≤ k ∧ q.length ≤ k) ∧ Hid (PrAt w wr keep most g1 d a g2 v1 n gv q)) (fun _ _ _ _ gi _ => len - (intOf gi).toNat)
        case atStart => exact ⟨0, -1, ⟨#[]⟩, 0, .slice none 0 0, [], by omega, rfl, rfl, rfl, rfl, hide (by simp), HS⟩
        case round =>
          clear HS
          obtain ⟨k, a, d, n, v1, q, hk, rfl, rfl, rfl, rfl, HBD, HP⟩ := hrel
          obtain ⟨ao2, cq2, hv2, hc2⟩ := HP.out.q2.shape
          rw [sv_len] at hv2 hc2
          subst hv2
          by_cases hlt : k < len
          · obtain ⟨b, off, rfl, x, hx, hd, c0, c1, c2⟩ := (HA.out.below HP.out.old) k hlt
            obtain ⟨xk, xn, xd⟩ := x
            dsimp only at c0 c1 c2 hd
            have HP2 := hide (HP.out.alloc (.cells #[.int .i64 xk, .int .i64 xn, .string xd] 117))
            have HN := hide (Blk.new wr 117 #[.int .i64 xk, .int .i64 xn, .string xd])
            have HD := hide hd
            have hxs : xd.size ≤ 9223372036854775807 := by have := HD.out.1; unfold maxLen at this; omega
            have HF : Hid (wr.heap.size ≠ g1 ∧ wr.heap.size ≠ g2 ∧ v1.ownBlock ≠ some wr.heap.size ∧ (Value.slice ao2 q.length cq2).ownBlock ≠ some wr.heap.size) := hide ⟨Nat.ne_of_gt HP.out.b1.lt, Nat.ne_of_gt HP.out.b2.lt, fun e => Nat.lt_irrefl _ (HP.out.o1 _ e).2.1, fun e => Nat.lt_irrefl _ (HP.out.o2 _ e).2.1⟩
            obtain ⟨W1, hW1⟩ : ∃ W1, W1 = wr.alloc (.cells #[.int .i64 xk, .int .i64 xn, .string xd] 117) := ⟨_, rfl⟩
            have HB1 : Hid (Below wr.heap.size wr W1) := hide (by rw [hW1]; exact (Below.refl _ _).alloc (Nat.le_refl _) _)
            obtain ⟨gu, hgu⟩ : ∃ gu, wr.heap.size = gu := ⟨_, rfl⟩
            rw [← hW1] at HP2 HN
            rw [hgu] at HN HF
            clear hx hd
            obtain ⟨lg, hlg⟩ : ∃ lg, decide ((40 : Int) < (xd.size : Int)) = lg := ⟨_, rfl⟩
            go_upto_region 17 with fail
            rw [← hW1]
            try rw [hgu]
            clear HP hW1 hgu c0 c1 c2 HB1
            obtain ⟨i0, i1, i2⟩ := HN.out.c3
            go_upto_block 2 with fail
            have HLG := hide hlg
            clear hlg
            go_cut [11, 12, 13, 14, 18, 19, 20, 21, 22, 23, 24, 25, 26] from 94 to 212 (fun ga gd gn gv _ _ _ _ _ _ _ _ _ wx => ∃ (a : Int) (d : ByteArray) (n : Int) (v1 : Value) (q : List ByteArray), ga = .int .i64 a ∧ gd = .string d ∧ gn = .int .i64 n ∧ Hid (-1 ≤ a ∧ a ≤ 1099511627776 ∧ 0 ≤ n ∧ n ≤ (k + 1 : Nat) ∧ q.length ≤ k + 1) ∧ Hid (PrAt w wx keep most g1 d a g2 v1 n gv q))
            case first =>
              have hbd := HBD.out
              obtain ⟨ha1, ha2, hn1, hn2, hq3⟩ := hbd
              by_cases h0 : xk = 0
              · subst h0
                cases lg
                case true =>
                  have HWE : Hid (wrE xd.size xn a = 4) := hide (by have h := of_decide_eq_true HLG.out; unfold wrE; rw [if_pos (by omega)])
                  go_wp2_with fail
                  refine (swrite_any g1 keep d xd a xn 4 _ HWE HP2.out.b1 HD.out.1).mono ?_
                  rintro r w4 ⟨rfl, hb, hg⟩
                  rw [if_neg (by decide)] at hb
                  have HP4 := hide (HP2.out.samp hb hg)
                  clear hb hg i0 i1 i2
                  go_wp2_with fail
                  refine (bare_eq 4 _ (by exact errT_below HE.out HP4.out.old)).mono ?_
                  rintro r w5 ⟨rfl, hB⟩
                  have HP5 := hide (HP4.out.below hB)
                  clear hB
                  go_wp2_with fail
                  go_meet
                  case rel => exact ⟨a, d, n, v1, q, rfl, rfl, rfl, hide (by have := HBD.out;  omega), HP5⟩
                case false =>
                  by_cases h2 : xn < 0
                  · have b1 : decide (xn < 0) = true := decide_eq_true h2
                    have HWE : Hid (wrE xd.size xn a = 2) := hide (by have h := of_decide_eq_false HLG.out; unfold wrE; rw [if_neg (by omega), if_pos (.inl h2)])
                    clear h2
                    go_wp2_with fail
                    refine (swrite_any g1 keep d xd a xn 2 _ HWE HP2.out.b1 HD.out.1).mono ?_
                    rintro r w4 ⟨rfl, hb, hg⟩
                    rw [if_neg (by decide)] at hb
                    have HP4 := hide (HP2.out.samp hb hg)
                    clear hb hg i0 i1 i2
                    go_wp2_with fail
                    refine (bare_eq 2 _ (by exact errT_below HE.out HP4.out.old)).mono ?_
                    rintro r w5 ⟨rfl, hB⟩
                    have HP5 := hide (HP4.out.below hB)
                    clear hB
                    go_wp2_with fail
                    go_meet
                    case rel => exact ⟨a, d, n, v1, q, rfl, rfl, rfl, hide (by have := HBD.out;  omega), HP5⟩
                  have b1 : decide (xn < 0) = false := decide_eq_false h2
                  by_cases h3 : 1099511627776 < xn
                  · have b2 : decide (1099511627776 < xn) = true := decide_eq_true h3
                    have HWE : Hid (wrE xd.size xn a = 2) := hide (by have h := of_decide_eq_false HLG.out; unfold wrE; rw [if_neg (by omega), if_pos (.inr h3)])
                    clear h2 h3
                    go_wp2_with fail
                    refine (swrite_any g1 keep d xd a xn 2 _ HWE HP2.out.b1 HD.out.1).mono ?_
                    rintro r w4 ⟨rfl, hb, hg⟩
                    rw [if_neg (by decide)] at hb
                    have HP4 := hide (HP2.out.samp hb hg)
                    clear hb hg i0 i1 i2
                    go_wp2_with fail
                    refine (bare_eq 2 _ (by exact errT_below HE.out HP4.out.old)).mono ?_
                    rintro r w5 ⟨rfl, hB⟩
                    have HP5 := hide (HP4.out.below hB)
                    clear hB
                    go_wp2_with fail
                    go_meet
                    case rel => exact ⟨a, d, n, v1, q, rfl, rfl, rfl, hide (by have := HBD.out;  omega), HP5⟩
                  have b2 : decide (1099511627776 < xn) = false := decide_eq_false h3
                  by_cases h4 : xn < a
                  · have b3 : decide (xn < a) = true := decide_eq_true h4
                    have HWE : Hid (wrE xd.size xn a = 10) := hide (by have h := of_decide_eq_false HLG.out; unfold wrE; rw [if_neg (by omega), if_neg (by omega), if_pos h4])
                    clear h2 h3 h4
                    go_wp2_with fail
                    refine (swrite_any g1 keep d xd a xn 10 _ HWE HP2.out.b1 HD.out.1).mono ?_
                    rintro r w4 ⟨rfl, hb, hg⟩
                    rw [if_neg (by decide)] at hb
                    have HP4 := hide (HP2.out.samp hb hg)
                    clear hb hg i0 i1 i2
                    go_wp2_with fail
                    refine (bare_eq 10 _ (by exact errT_below HE.out HP4.out.old)).mono ?_
                    rintro r w5 ⟨rfl, hB⟩
                    have HP5 := hide (HP4.out.below hB)
                    clear hB
                    go_wp2_with fail
                    go_meet
                    case rel => exact ⟨a, d, n, v1, q, rfl, rfl, rfl, hide (by have := HBD.out;  omega), HP5⟩
                  · have b3 : decide (xn < a) = false := decide_eq_false h4
                    have HWE : Hid (wrE xd.size xn a = 0) := hide (by have h := of_decide_eq_false HLG.out; unfold wrE; rw [if_neg (by omega), if_neg (by omega), if_neg h4])
                    have HXN := hide (show 0 ≤ xn ∧ xn ≤ 1099511627776 by omega)
                    clear h2 h3 h4
                    go_wp2_with fail
                    go_quiet (fail)
                    go_wp2_with fail
                    refine (swrite_any g1 keep d xd a xn 0 _ HWE (by exact (HP2.out.drewN _).b1) HD.out.1).mono ?_
                    rintro r w4 ⟨rfl, hb, hg⟩
                    rw [if_pos rfl] at hb
                    have HP4 := hide ((HP2.out.drewN _).samp hb hg)
                    clear hb hg i0 i1 i2
                    go_wp2_with fail
                    refine (bare_eq 0 _ (by exact errT_below HE.out HP4.out.old)).mono ?_
                    rintro r w5 ⟨rfl, hB⟩
                    have HP5 := hide (HP4.out.below hB)
                    clear hB
                    go_wp2_with fail
                    go_meet
                    case rel => exact ⟨xn, xd, n, v1, q, rfl, rfl, rfl, hide (by have := HBD.out; have := HXN.out;  omega), HP5⟩
              · have e0 : (xk == 0) = false := beq_eq_false_iff_ne.2 h0
                by_cases h1 : xk = 1
                · subst h1
                  clear h0
                  obtain ⟨fr, hfr⟩ : ∃ fr, decide (xn < a + keep) = fr := ⟨_, rfl⟩
                  by_cases g1h : a < 0
                  · have b1 : decide (a < 0) = true := decide_eq_true g1h
                    have HRD : Hid (rdE xn a = 8) := hide (by unfold rdE; rw [if_pos g1h])
                    have hD : rdD 8 d = ⟨#[]⟩ := rfl
                    have hFR : rdF 8 xn a keep = false := rfl
                    have HRR : Hid (∀ w0, Blk w0 g1 159 (saC keep d a) → Calls Tryd.prog 55 #[.pointer (some ⟨g1, 0, none⟩), .int .i64 xn] w0 fun r w' => r = .returned (.tuple #[.string ⟨#[]⟩, .bool false, errV 8]) ∧ ∃ n, w' = w0.drewN n) := hide (fun w0 h => by have := sread_any g1 keep d a xn 8 w0 HRD h HD.out.2; rw [hD, hFR] at this; exact this)
                    clear hD hFR g1h 
                    go_wp2_with fail
                    go_quiet (fail)
                    have HP3 := hide (HP2.out.drewN nq)
                    obtain ⟨W3, hW3⟩ : ∃ W3, W3 = W1.drewN nq := ⟨_, rfl⟩
                    rw [← hW3] at HP3 ⊢
                    have HN3 : Hid (Blk W3 gu 117 #[.int .i64 1, .int .i64 xn, .string xd]) := hide (by rw [hW3]; exact HN.out.drewN nq)
                    clear hW3 i0 i1 i2 HP2 HN hfr
                    obtain ⟨i0, i1, i2⟩ := HN3.out.c3
                    go_wp2_with fail
                    refine (HRR.out _ HP3.out.b1).mono ?_
                    rintro r w4 ⟨rfl, hw4⟩
                    have HP4 : Hid (PrAt w w4 keep most g1 d a g2 v1 n (.slice ao2 q.length cq2) q) := hide (by obtain ⟨n9, rfl⟩ := hw4; exact HP3.out.drewN n9)
                    clear hw4 i0 i1 i2 HP3
                    go_wp2_with fail
                    refine (bare_eq 8 _ (by exact errT_below HE.out HP4.out.old)).mono ?_
                    rintro r w5 ⟨rfl, hB⟩
                    have HP5 := hide (HP4.out.below hB)
                    clear hB
                    go_wp2_with fail
                    go_meet
                    case rel => exact ⟨a, d, n, v1, q, rfl, rfl, rfl, hide (by have := HBD.out;  omega), HP5⟩
                  have b1 : decide (a < 0) = false := decide_eq_false g1h
                  by_cases g2h : xn < a
                  · have b3 : decide (xn < a) = true := decide_eq_true g2h
                    have HRD : Hid (rdE xn a = 10) := hide (by unfold rdE; rw [if_neg g1h, if_pos g2h])
                    have hD : rdD 10 d = ⟨#[]⟩ := rfl
                    have hFR : rdF 10 xn a keep = false := rfl
                    have HRR : Hid (∀ w0, Blk w0 g1 159 (saC keep d a) → Calls Tryd.prog 55 #[.pointer (some ⟨g1, 0, none⟩), .int .i64 xn] w0 fun r w' => r = .returned (.tuple #[.string ⟨#[]⟩, .bool false, errV 10]) ∧ ∃ n, w' = w0.drewN n) := hide (fun w0 h => by have := sread_any g1 keep d a xn 10 w0 HRD h HD.out.2; rw [hD, hFR] at this; exact this)
                    clear hD hFR g1h g2h
                    go_wp2_with fail
                    go_quiet (fail)
                    have HP3 := hide (HP2.out.drewN nq)
                    obtain ⟨W3, hW3⟩ : ∃ W3, W3 = W1.drewN nq := ⟨_, rfl⟩
                    rw [← hW3] at HP3 ⊢
                    have HN3 : Hid (Blk W3 gu 117 #[.int .i64 1, .int .i64 xn, .string xd]) := hide (by rw [hW3]; exact HN.out.drewN nq)
                    clear hW3 i0 i1 i2 HP2 HN hfr
                    obtain ⟨i0, i1, i2⟩ := HN3.out.c3
                    go_wp2_with fail
                    refine (HRR.out _ HP3.out.b1).mono ?_
                    rintro r w4 ⟨rfl, hw4⟩
                    have HP4 : Hid (PrAt w w4 keep most g1 d a g2 v1 n (.slice ao2 q.length cq2) q) := hide (by obtain ⟨n9, rfl⟩ := hw4; exact HP3.out.drewN n9)
                    clear hw4 i0 i1 i2 HP3
                    go_wp2_with fail
                    refine (bare_eq 10 _ (by exact errT_below HE.out HP4.out.old)).mono ?_
                    rintro r w5 ⟨rfl, hB⟩
                    have HP5 := hide (HP4.out.below hB)
                    clear hB
                    go_wp2_with fail
                    go_meet
                    case rel => exact ⟨a, d, n, v1, q, rfl, rfl, rfl, hide (by have := HBD.out;  omega), HP5⟩
                  · have b3 : decide (xn < a) = false := decide_eq_false g2h
                    have HRD : Hid (rdE xn a = 0) := hide (by unfold rdE; rw [if_neg g1h, if_neg g2h])
                    have hD : rdD 0 d = d := rfl
                    have hFR : rdF 0 xn a keep = fr := by unfold rdF; rw [hfr]; rfl
                    have HRR : Hid (∀ w0, Blk w0 g1 159 (saC keep d a) → Calls Tryd.prog 55 #[.pointer (some ⟨g1, 0, none⟩), .int .i64 xn] w0 fun r w' => r = .returned (.tuple #[.string d, .bool fr, errV 0]) ∧ ∃ n, w' = w0.drewN n) := hide (fun w0 h => by have := sread_any g1 keep d a xn 0 w0 HRD h HD.out.2; rw [hD, hFR] at this; exact this)
                    clear hD hFR g1h g2h
                    go_wp2_with fail
                    go_quiet (fail)
                    have HP3 := hide (HP2.out.drewN nq)
                    obtain ⟨W3, hW3⟩ : ∃ W3, W3 = W1.drewN nq := ⟨_, rfl⟩
                    rw [← hW3] at HP3 ⊢
                    have HN3 : Hid (Blk W3 gu 117 #[.int .i64 1, .int .i64 xn, .string xd]) := hide (by rw [hW3]; exact HN.out.drewN nq)
                    clear hW3 i0 i1 i2 HP2 HN hfr
                    obtain ⟨i0, i1, i2⟩ := HN3.out.c3
                    go_wp2_with fail
                    refine (HRR.out _ HP3.out.b1).mono ?_
                    rintro r w4 ⟨rfl, hw4⟩
                    have HP4 : Hid (PrAt w w4 keep most g1 d a g2 v1 n (.slice ao2 q.length cq2) q) := hide (by obtain ⟨n9, rfl⟩ := hw4; exact HP3.out.drewN n9)
                    clear hw4 i0 i1 i2 HP3
                    go_wp2_with fail
                    refine (bare_eq 0 _ (by exact errT_below HE.out HP4.out.old)).mono ?_
                    rintro r w5 ⟨rfl, hB⟩
                    have HP5 := hide (HP4.out.below hB)
                    clear hB
                    go_wp2_with fail
                    go_meet
                    case rel => exact ⟨a, d, n, v1, q, rfl, rfl, rfl, hide (by have := HBD.out;  omega), HP5⟩
                · have e1 : (xk == 1) = false := beq_eq_false_iff_ne.2 h1
                  have hq1000 : q.length ≤ 1000 := by omega
                  by_cases h2 : xk = 2
                  · subst h2
                    clear h0 h1
                    have HH := hide HP2.out.h
                    cases lg
                    case true =>
                      have HPE : Hid (putE xd.size q.length most = 4) := hide (by have h := of_decide_eq_true HLG.out; unfold putE; rw [if_pos (by omega)])
                      go_wp2_with fail
                      refine (qsend_any g2 w.heap.size most v1 n q _ xd 4 HPE HH.out.b2 HH.out.q1 (by exact fun k e => (HH.out.o1 k e).2.1) (by exact fun e => (HH.out.o1 _ e).2.2.2 rfl) HH.out.old.size HD.out.1 hq1000 hn1 (by omega)).mono ?_
                      rintro r w4 ⟨rfl, hs⟩
                      rw [if_neg (by decide), putQ_no _ _ (by decide)] at hs
                      obtain ⟨v1n, hL⟩ := HH.out.que hs
                      have HP4 := hide hL.eq_
                      clear hs hL
                      try clear i0 i1 i2
                      go_wp2_with fail
                      refine (bare_eq 4 _ (by exact errT_below HE.out HP4.out.old)).mono ?_
                      rintro r w5 ⟨rfl, hB⟩
                      have HP5 := hide (HP4.out.below hB)
                      clear hB
                      go_wp2_with fail
                      go_meet
                      case rel => exact ⟨a, d, n, v1n, q, rfl, rfl, rfl, hide (by have := HBD.out;  omega), HP5⟩
                    case false =>
                      by_cases h3 : most ≤ (q.length : Int)
                      · have b1 : decide (most ≤ (q.length : Int)) = true := decide_eq_true h3
                        have HPE : Hid (putE xd.size q.length most = 12) := hide (by have h := of_decide_eq_false HLG.out; unfold putE; rw [if_neg (by omega), if_pos h3])
                        clear h3
                        go_wp2_with fail
                        refine (qsend_any g2 w.heap.size most v1 n q _ xd 12 HPE HH.out.b2 HH.out.q1 (by exact fun k e => (HH.out.o1 k e).2.1) (by exact fun e => (HH.out.o1 _ e).2.2.2 rfl) HH.out.old.size HD.out.1 hq1000 hn1 (by omega)).mono ?_
                        rintro r w4 ⟨rfl, hs⟩
                        rw [if_pos rfl, putQ_no _ _ (by decide)] at hs
                        obtain ⟨v1n, hL⟩ := HH.out.que hs
                        have HP4 := hide hL.eq_
                        clear hs hL
                        try clear i0 i1 i2
                        go_wp2_with fail
                        refine (bare_eq 12 _ (by exact errT_below HE.out HP4.out.old)).mono ?_
                        rintro r w5 ⟨rfl, hB⟩
                        have HP5 := hide (HP4.out.below hB)
                        clear hB
                        go_wp2_with fail
                        go_meet
                        case rel => exact ⟨a, d, n + 1, v1n, q, rfl, rfl, rfl, hide (by have := HBD.out;  omega), HP5⟩
                      · have b1 : decide (most ≤ (q.length : Int)) = false := decide_eq_false h3
                        have HPE : Hid (putE xd.size q.length most = 0) := hide (by have h := of_decide_eq_false HLG.out; unfold putE; rw [if_neg (by omega), if_neg h3])
                        clear h3
                        obtain ⟨z0, hz, hz0, hz1, hz2⟩ := vs_info_parts str_info
                        have HH1 := hide (HP2.out.alloc (.cells #[.string xd] 9)).h
                        have HNW := hide (Blk.new W1 9 #[.string xd])
                        have HN1 := hide (HN.out.alloc (.cells #[.string xd] 9))
                        go_wp2_with (at_builtin; go_must (refine wpList_append_q _ rfl (.tmp 168) (.tmp 171) _ rfl w.heap.size 9 z0 _ 16 Tryd.underlying53 hz hz0 hz1 hz2 rfl (.slice ao2 q.length cq2) (sv q) rfl (by exact HH1.out.q2) W1.heap.size 0 1 (.string xd) rfl (by exact HNW.out.cells1.1) rfl (by simp [maxLen, sv_len]; omega) (by simp [sv_len]; omega) (by exact HH1.out.old.size) ?_); intro g9 o9 cap9 w9 hQ9 hgr ho hb9 hlt9; have HH9 := hide (HH1.out.app hQ9 hgr ho hlt9); have HN9 := hide (HN1.out.grown hgr (fun e => HF.out.2.2.2 e.symm)); clear hQ9 hgr ho hb9 hlt9 i0 i1 i2; obtain ⟨i0, i1, i2⟩ := HN9.out.c3)
                        refine (qsend_any g2 w.heap.size most v1 n q _ xd 0 HPE HH9.out.b2 HH9.out.q1 (by exact fun k e => (HH9.out.o1 k e).2.1) (by exact fun e => (HH9.out.o1 _ e).2.2.2 rfl) HH9.out.old.size HD.out.1 hq1000 hn1 (by omega)).mono ?_
                        rintro r w4 ⟨rfl, hs⟩
                        rw [if_neg (by decide), putQ_zero] at hs
                        obtain ⟨v1n, hL⟩ := HH9.out.que hs
                        have HP4 := hide hL.eq_
                        clear hs hL
                        try clear i0 i1 i2
                        go_wp2_with fail
                        refine (bare_eq 0 _ (by exact errT_below HE.out HP4.out.old)).mono ?_
                        rintro r w5 ⟨rfl, hB⟩
                        have HP5 := hide (HP4.out.below hB)
                        clear hB
                        go_wp2_with fail
                        go_meet
                        case rel => exact ⟨a, d, n, v1n, q ++ [xd], rfl, rfl, rfl, hide (by have := HBD.out; simp at *; omega), HP5⟩
                  · have e2 : (xk == 2) = false := beq_eq_false_iff_ne.2 h2
                    by_cases h3 : xk = 3
                    · subst h3
                      clear h0 h1 h2
                      cases q with
                      | nil =>
                        go_wp2_with fail
                        refine (qrecv_none g2 w.heap.size most v1 n _ HP2.out.b2 HP2.out.q1).mono ?_
                        rintro r w4 ⟨rfl, rfl⟩
                        clear i0 i1 i2
                        go_wp2_with fail
                        refine (bare_eq 8 _ (by exact errT_below HE.out HP2.out.old)).mono ?_
                        rintro r w5 ⟨rfl, hB⟩
                        have HP5 := hide (HP2.out.below hB)
                        clear hB
                        go_wp2_with fail
                        go_meet
                        case rel => exact ⟨a, d, n, v1, [], rfl, rfl, rfl, hide (by have := HBD.out; simp at *; omega), HP5⟩
                      | cons x q =>
                        obtain ⟨gq, off2, hao, -, -, -⟩ := HP2.out.q2.block (by simp)
                        subst hao
                        have hcell := sd_first (n := q.length) HP2.out.q2
                        have d4 : ((q.length : Int) + 1 == 0) = false := by rw [beq_eq_false_iff_ne]; omega
                        have hc3 : q.length + 1 ≤ cq2 := hc2
                        have hq4 : q.length + 1 ≤ k := by simpa using hq3
                        clear hc2 hq3 hq1000
                        go_upto_region 54 with fail
                        go_quiet (fail)
                        have HP3 := hide (HP2.out.drewN nq)
                        obtain ⟨W3, hW3⟩ : ∃ W3, W3 = W1.drewN nq := ⟨_, rfl⟩
                        rw [← hW3] at HP3 ⊢
                        clear hW3 i0 i1 i2 HP2 HN
                        obtain ⟨ao3, hao⟩ : ∃ ao3 : Option Addr, ao3 = if cq2 = 1 then some ⟨gq, off2, none⟩ else some ⟨gq, off2 + 1, none⟩ := ⟨_, rfl⟩
                        rw [← hao]
                        have HT := hide (HP3.out.h.tail hao)
                        clear hao HP3 hcell
                        go_wp2_with fail
                        refine (qrecv_some g2 w.heap.size most v1 n q _ x HT.out.b2 HT.out.q1 (by exact fun k e => (HT.out.o1 k e).2.1) (by exact fun e => (HT.out.o1 _ e).2.2.2 rfl) (by omega)).mono ?_
                        rintro r w4 ⟨rfl, hs⟩
                        obtain ⟨v1n, hL⟩ := HT.out.que hs
                        have HP4 := hide hL.eq_
                        clear hs hL
                        go_wp2_with fail
                        refine (bare_eq 0 _ (by exact errT_below HE.out HP4.out.old)).mono ?_
                        rintro r w5 ⟨rfl, hB⟩
                        have HP5 := hide (HP4.out.below hB)
                        clear hB
                        go_wp2_with fail
                        go_meet
                        case rel => exact ⟨a, d, n, v1n, q, rfl, rfl, rfl, hide (by have := HBD.out; simp at this;  omega), HP5⟩
                    · have e3 : (xk == 3) = false := beq_eq_false_iff_ne.2 h3
                      clear h0 h1 h2 h3
                      go_wp2_with fail
                      go_meet
                      case rel => exact ⟨a, d, n, v1, q, rfl, rfl, rfl, hide (by have := HBD.out;  omega), HP2⟩
            case rest =>
              clear HP2 HN HBD i0 i1 i2 hc2
              obtain ⟨a2, d2, n2, v12, q2, rfl, rfl, rfl, HBD2, HP3⟩ := hcut
              obtain ⟨ao3, c3, hv3, hc3⟩ := HP3.out.q1.shape
              obtain ⟨ao4, c4, hv4, hc4⟩ := HP3.out.q2.shape
              rw [sv_len] at hv3 hc3 hv4 hc4
              subst hv3
              subst hv4
              have hq5 : q2.length ≤ 1000 := by have := HBD2.out; omega
              go_wp2_with fail
              refine (qmany_any g2 most n2 ao3 c3 q2.length _ hq5 HP3.out.b2).mono ?_
              rintro e w5 ⟨rfl, rfl⟩
              go_wp2_with fail
              refine (qlost_any g2 most _ n2 _ HP3.out.b2).mono ?_
              rintro e w6 ⟨rfl, rfl⟩
              go_wp2_with fail
              go_roundw
              case rel => exact ⟨k + 1, a2, d2, n2, _, q2, by omega, by go_num, rfl, rfl, rfl, HBD2, HP3⟩
              case measure => simp [intOf]; omega
          · have d2 : decide ((k : Int) < (len : Int)) = false := decide_eq_false (by omega)
            go_wp2_with fail
            go_ret
            exact ⟨rfl, HP.out.old⟩
end Go.Proofs.YtgdljdhibknjnabDoor
