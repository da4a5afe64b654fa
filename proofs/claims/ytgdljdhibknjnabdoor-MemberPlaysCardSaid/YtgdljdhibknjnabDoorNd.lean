/- The walk of metronomelaw.MemberPlays; conditions: what is heard lies in memory; errors.errorType holds what start-up lays there. -/
import Derived.Test.YtgdljdhibknjnabDoorNg
import Derived.Test.YtgdljdhibknjnabDoorNh
import Derived.Test.YtgdljdhibknjnabDoorEp
import Derived.Deep.RegionHeld3
import Derived.Deep.Cut
import Derived.Deep.CutRange
import Derived.Deep.CutBlock
import Derived.Deep.QuietTactic
namespace Go.Proofs.YtgdljdhibknjnabDoor
open Go.RowKit

theorem bare_same (e : Int) (w : World) (hg : ErrT w) : Calls Tryd.prog 17 #[errV e, .int .i64 e] w fun r w' => r = .returned (.bool true) ∧ Below w.heap.size w w' :=
  (bare_errV e e w hg).mono fun r w' ⟨h1, h2⟩ => ⟨by rw [h1]; simp, h2⟩
theorem quiet_same {P : Program} {f : FuncId} {args : Array Value} {w : World} {n : Nat} {v : Value}
    (h : Calls P f args (w.drewN n) fun e w' => e = .returned v ∧ ∃ k, w' = (w.drewN n).drewN k) : Calls P f args (w.drewN n) fun e w'' => e = .returned v ∧ ∃ m, w'' = w.drewN m :=
  h.mono fun _ _ ⟨he, k, hm⟩ => ⟨he, n + k, by rw [hm]; simp [World.drewN, Nat.add_assoc]⟩
theorem hd3 {w : World} {g : Nat} {t : TypeId} {a b c : Value} (h : Blk w g t #[a, b, c]) : w.cell? ⟨g, 0, none⟩ = some a ∧ w.cell? ⟨g, 1, none⟩ = some b ∧ w.cell? ⟨g, 2, none⟩ = some c :=
  ⟨by simpa using h.cell 0, by simpa using h.cell 1, by simpa using h.cell 2⟩
theorem MpAt.start {w w2 : World} {id n g2 gt : Nat} (hi : id < n) (h2 : (w.alloc (.cells (nodeC id n (2 ^ n - 1) 1 0 false) 157)).heap.size ≤ g2) (ht : (w.alloc (.cells (nodeC id n (2 ^ n - 1) 1 0 false) 157)).heap.size ≤ gt) (hne : g2 ≠ gt)
    (b2 : Blk w2 g2 108 (refC id n gt 1 0 false)) (bt : Blk w2 gt 4 (tkB n ((2 ^ n - 1).testBit ·))) (hB : Below (w.alloc (.cells (nodeC id n (2 ^ n - 1) 1 0 false) 157)).heap.size (w.alloc (.cells (nodeC id n (2 ^ n - 1) 1 0 false) 157)) w2) : MpAt w w2 id n (2 ^ n - 1) 1 0 false w.heap.size g2 gt := by
  have hs : (w.alloc (.cells (nodeC id n (2 ^ n - 1) 1 0 false) 157)).heap.size = w.heap.size + 1 := by simp
  have h0 := Nat.two_pow_pos n
  exact ⟨(Blk.new w _ _).below hB (by omega), b2, bt, Nat.le_refl _, by omega, by omega, by omega, by omega, hne, by omega, ((Below.refl _ _).alloc (Nat.le_refl _) _).trans (hB.mono (by omega))⟩
set_option maxRecDepth 100000 in
set_option maxHeartbeats 8000000 in
theorem plays_law (id nn : Int) (A : Option Addr) (len c : Nat) (l : List Wn) (hm : len ≤ 9223372036854775807) (w : World) (hA : HeardsAt w A len l) (hE : ErrT w) :
    Calls Tryd.prog 9 #[.int .i64 id, .int .i64 nn, .slice A len c] w fun e w' => e = .returned (.bool true) ∧ Below w.heap.size w w' := by
  by_cases h100 : 100 < len
  · have d1 : decide ((100 : Int) < (len : Int)) = true := decide_eq_true (by omega)
    clear h100 hA hE
    go_enter Tryd.func9, Tryd.ntmps9
    go_wp2_with fail
    go_ret
    exact ⟨rfl, Below.refl _ _⟩
  · have d1 : decide ((100 : Int) < (len : Int)) = false := decide_eq_false (by omega)
    by_cases hbad : nn < 1 ∨ 16 < nn ∨ id < 0 ∨ nn ≤ id
    · have HE := hide hE
      have HBAD := hide hbad
      clear hbad hA hE h100
      go_enter Tryd.func9, Tryd.ntmps9
      go_wp2_with fail
      refine (newm_bad id nn _ HBAD.out).mono ?_
      rintro e w2 ⟨rfl, hB⟩
      have HB := hide hB; clear hB
      go_wp2_with fail
      refine (rnew_bad id nn _ HBAD.out).mono ?_
      rintro e w3 ⟨rfl, rfl⟩
      go_wp2_with fail
      refine (bare_same 1 _ (by exact errT_below HE.out HB.out)).mono ?_
      rintro e w4 ⟨rfl, hB⟩
      have HB3 := hide (HB.out.trans (hB.mono HB.out.size)); clear hB
      go_wp2_with fail
      go_ret
      exact ⟨rfl, HB3.out⟩
    · obtain ⟨n, rfl⟩ : ∃ n : Nat, nn = n := ⟨nn.toNat, by omega⟩
      obtain ⟨i, rfl⟩ : ∃ i : Nat, id = i := ⟨id.toNat, by omega⟩
      have hin : i < n := by omega
      have hn : n ≤ 16 := by omega
      have h1n : 1 ≤ n := by omega
      have HA := hide hA; have HE := hide hE
      clear hbad hA hE
      go_enter Tryd.func9, Tryd.ntmps9
      go_wp2_with fail
      refine (new_in i n _ hin hn).mono ?_
      rintro e w2 ⟨rfl, hw2⟩
      go_wp2_with fail
      refine (rnew_ok i n _ hin hn).mono ?_
      rintro e w3 ⟨g2, gt, rfl, h2, ht, hne, b2, bt, hB⟩
      rw [← hw2] at h2 ht hB
      have HS := hide (MpAt.start hin h2 ht hne b2 bt hB)
      clear h2 ht hne b2 bt hB hw2
      obtain ⟨g1, hg1⟩ : ∃ g1, w.heap.size = g1 := ⟨_, rfl⟩
      have HS2 : Hid (MpAt w w3 i n (2 ^ n - 1) 1 0 false g1 g2 gt) := hide (by rw [← hg1]; exact HS.out)
      rw [hg1]
      clear HS hg1
      go_wp2_with fail
      go_loopw [11] (fun ix wr => ∃ (k m : Nat) (good bad : Int) (fz : Bool), k ≤ len ∧ ix = .int .i64 k ∧ Hid ((0 ≤ good ∧ good ≤ (k + 1 : Nat)) ∧ (0 ≤ bad ∧ bad ≤ (k + 1 : Nat))) ∧ Hid (MpAt w wr i n m good bad fz g1 g2 gt)) (fun ix _ => len - (intOf ix).toNat)
      case atStart => exact ⟨0, 2 ^ n - 1, 1, 0, false, by omega, rfl, hide (by decide), HS2⟩
      case round =>
        clear HS2
        obtain ⟨k, m, good, bad, fz, hk, rfl, HGB, HM⟩ := hrel
        by_cases hlt : k < len
        · obtain ⟨b, off, rfl, x, hx, hd, c0, c1, c2⟩ := (HA.out.below HM.out.old) k hlt
          obtain ⟨xk, xf, xs⟩ := x
          dsimp only at c0 c1 c2 hd
          have HM2 := hide (HM.out.alloc (.cells #[.int .i64 xk, .int .i64 xf, .int .i64 xs] 97))
          have HN := hide (Blk.new wr 97 #[.int .i64 xk, .int .i64 xf, .int .i64 xs])
          have HD := hide hd
          have HF : Hid (wr.heap.size ≠ g1 ∧ wr.heap.size ≠ g2 ∧ wr.heap.size ≠ gt) := hide ⟨Nat.ne_of_gt HM.out.b1.lt, Nat.ne_of_gt HM.out.b2.lt, Nat.ne_of_gt HM.out.bt.lt⟩
          clear hx hd HM
          obtain ⟨i0, i1, i2⟩ := hd3 HN.out
          go_upto_block 2 with fail
          go_cut [13, 14, 15, 16] from 58 to 120 (fun _ _ _ _ wx => ∃ (m : Nat) (good bad : Int) (fz : Bool), Hid ((0 ≤ good ∧ good ≤ (k + 1 + 1 : Nat)) ∧ (0 ≤ bad ∧ bad ≤ (k + 1 + 1 : Nat))) ∧ Hid (MpAt w wx i n m good bad fz g1 g2 gt) ∧ Hid (Blk wx wr.heap.size 97 #[.int .i64 xk, .int .i64 xf, .int .i64 xs]))
          case first =>
            have hgb : 0 ≤ good ∧ good ≤ 1000000 ∧ 0 ≤ bad ∧ bad ≤ 1000000 := by have := HGB.out; omega
            obtain ⟨q0, q1, q2, q3⟩ := hgb
            have hm6 : m < 65536 := Nat.lt_of_lt_of_le HM2.out.hm (Nat.le_trans (Nat.pow_le_pow_right (by decide) hn) (by decide))
            have HM6 := hide hm6
            clear hm6
            by_cases h0 : xk = 0
            · subst h0
              go_wp2_with fail
              refine (hears_all g1 i n m good bad fz xf xs _ HM2.out.b1 hn HM6.out q0 q1 q2 q3).mono ?_
              rintro r w3 ⟨rfl, hb, hg⟩
              have HN3 := hide (HN.out.grown hg (fun e => HF.out.1 (Option.some.inj e)))
              have HM3 := hide (HM2.out.node hb hg)
              clear hb hg i0 i1 i2
              obtain ⟨i0, i1, i2⟩ := hd3 HN3.out
              go_wp2_with fail
              refine (rhears_any g2 gt i n m good bad fz _ xf xs HM3.out.b2 HM3.out.bt HM3.out.n2t h1n hn q0 q1 q2 q3).mono ?_
              rintro r w4 ⟨rfl, hp⟩
              have HN4 := hide (HN3.out.kept2 hp.2.2 HF.out.2.1 (fun e => HF.out.2.2 (Option.some.inj e).symm))
              have HM4 := hide (HM3.out.both hp (hM_lt HM2.out.hm))
              clear hp
              go_wp2_with fail
              go_meet
              case rel => exact ⟨_, _, _, _, hide ⟨hG_bd HGB.out.1, hB_bd HGB.out.2⟩, HM4, HN4⟩
            · have e0 : (xk == 0) = false := beq_eq_false_iff_ne.2 h0
              by_cases h1 : xk = 1
              · subst h1
                clear h0
                go_wp2_with fail
                refine (rsends_any g2 gt i n m good bad fz _ HM2.out.b2 HM2.out.bt HM2.out.n2t hn HM2.out.hm).mono ?_
                rintro r w3 ⟨rfl, hp⟩
                have HN3 := hide (HN.out.kept2 hp.2.2 HF.out.2.1 (fun e => HF.out.2.2 (Option.some.inj e).symm))
                have HM3 := hide (HM2.out.ref hp)
                clear hp i0 i1 i2
                go_wp2_with fail
                refine (sends_in g1 i n m good bad fz _ HM3.out.b1).mono ?_
                rintro r w4 ⟨rfl, hb, hg⟩
                rw [sends_is] at hb
                have HN4 := hide (HN3.out.grown hg (fun e => HF.out.1 (Option.some.inj e)))
                have HM4 := hide (HM3.out.done hb hg HM2.out.hm)
                clear hb hg
                generalize sendsV m good bad fz = sv1
                generalize hso : sendsOk good bad fz = so1 at *
                go_wp2_with fail
                go_meet
                case rel => exact ⟨m, sG good bad fz, sB good bad fz, !so1, hide ⟨sG_bd HGB.out.1 (by omega), sB_bd HGB.out.2⟩, HM4, HN4⟩
              · have e1 : (xk == 1) = false := beq_eq_false_iff_ne.2 h1
                by_cases h2 : xk = 2
                · subst h2
                  clear h0 h1
                  have HIN := hide hin
                  go_upto_region 23 with fail
                  go_cut [105] from 96 to 105 (fun v wx => v = .bool false ∧ ∃ (m : Nat) (good bad : Int) (fz : Bool), Hid ((0 ≤ good ∧ good ≤ (k + 1 + 1 : Nat)) ∧ (0 ≤ bad ∧ bad ≤ (k + 1 + 1 : Nat))) ∧ Hid (MpAt w wx i n m good bad fz g1 g2 gt) ∧ Hid (Blk wx wr.heap.size 97 #[.int .i64 2, .int .i64 xf, .int .i64 xs]))
                  case first =>
                    have HBD : Hid ((0 ≤ bG (bE n fz xs) good ∧ bG (bE n fz xs) good ≤ (k + 1 + 1 : Nat)) ∧ (0 ≤ bB (bE n fz xs) bad ∧ bB (bE n fz xs) bad ≤ (k + 1 + 1 : Nat))) := hide ⟨bG_bd HGB.out.1 (by omega), bB_bd HGB.out.2⟩
                    have HBM : Hid (bM i m (bE n fz xs) xs < 2 ^ n) := hide (bM_lt HM2.out.hm HIN.out)
                    have HB1 : Hid (∀ w0, Blk w0 g1 157 (nodeC i n m good bad fz) → Calls Tryd.prog 44 #[.pointer (some ⟨g1, 0, none⟩), .int .i64 xs] w0 fun e w' => e = .returned (errV (bE n fz xs)) ∧ Blk w' g1 157 (nodeC i n (bM i m (bE n fz xs) xs) (bG (bE n fz xs) good) (bB (bE n fz xs) bad) (bF (bE n fz xs) fz)) ∧ w0.grownBy w' (some g1)) := hide (fun w0 h => nback_any g1 i n m good bad fz xs w0 h hn HIN.out)
                    have HB2 : Hid (∀ w0, Blk w0 g2 108 (refC i n gt good bad fz) → Blk w0 gt 4 (tkB n (m.testBit ·)) → g2 ≠ gt → Calls Tryd.prog 45 #[.pointer (some ⟨g2, 0, none⟩), .int .i64 xs] w0 fun e w' => e = .returned (.int .i64 (bE n fz xs)) ∧ MrPost w0 g2 gt (refC i n gt (bG (bE n fz xs) good) (bB (bE n fz xs) bad) (bF (bE n fz xs) fz)) n ((bM i m (bE n fz xs) xs).testBit ·) w') := hide (fun w0 h ht hne => rback_any g2 gt i n m good bad fz w0 xs h ht hne HIN.out hn)
                    generalize bM i m (bE n fz xs) xs = m2 at *
                    generalize bG (bE n fz xs) good = good2 at *
                    generalize bB (bE n fz xs) bad = bad2 at *
                    generalize bF (bE n fz xs) fz = fz2 at *
                    generalize bE n fz xs = e at *
                    go_region_held3 (fun w' => w'.cell? ⟨wr.heap.size, 2, none⟩ = some (.int .i64 xs)) (first | exact (hd3 HN5.out).2.2 | exact (hd3 HN4.out).2.2 | exact (hd3 HN3.out).2.2 | exact (hd3 HN.out).2.2)
                      (first
                        | (go_at_call 44; refine (HB1.out _ (by exact HM2.out.drew.b1)).mono ?_; rintro r w3 ⟨rfl, hb, hg⟩; have HN3 := hide (HN.out.drew.grown hg (fun e => HF.out.1 (Option.some.inj e))); have HM3 := hide (HM2.out.drew.node hb hg); clear hb hg)
                        | (go_at_call 45; refine (HB2.out _ (by exact HM3.out.b2) (by exact HM3.out.bt) HM3.out.n2t).mono ?_; rintro r w4 ⟨rfl, hp⟩; have HN4 := hide (HN3.out.kept2 hp.2.2 HF.out.2.1 (fun e => HF.out.2.2 (Option.some.inj e).symm)); have HM4 := hide (HM3.out.both hp HBM.out); clear hp)
                        | (go_at_call 17; refine (bare_same e _ (by exact errT_below HE.out HM4.out.old)).mono ?_; rintro r w5 ⟨rfl, hB⟩; have HM5 := hide (HM4.out.below hB); have HN5 := hide (HN4.out.below hB HN4.out.lt); clear hB))
                    go_wp2_with fail
                    go_meet
                    case rel => exact ⟨rfl, _, _, _, _, HBD, HM5, HN5⟩
                  case rest =>
                    obtain ⟨rfl, m2, good2, bad2, fz2, HGB2, HM5, HN5⟩ := hcut
                    go_wp2_with fail
                    go_meet
                    case rel => exact ⟨m2, good2, bad2, fz2, HGB2, HM5, HN5⟩
                · have e2 : (xk == 2) = false := beq_eq_false_iff_ne.2 h2
                  by_cases h3 : xk = 3
                  · subst h3
                    clear h0 h1 h2
                    obtain ⟨V, hV⟩ : ∃ V, judgeG n m xf xs = V := ⟨_, rfl⟩
                    have HJ1 : Hid (∀ w0, Blk w0 g1 157 (nodeC i n m good bad fz) → Calls Tryd.prog 46 #[.pointer (some ⟨g1, 0, none⟩), .int .i64 xf, .int .i64 xs] w0 fun e w' => e = .returned (.int .i64 V) ∧ ∃ k, w' = w0.drewN k) := hide (fun w0 h => by rw [← hV]; exact judges_all g1 i n m good bad fz xf xs w0 h hn HM2.out.hm HD.out.1 HD.out.2)
                    have HJ2 : Hid (∀ w0, Blk w0 g2 108 (refC i n gt good bad fz) → Blk w0 gt 4 (tkB n (m.testBit ·)) → Calls Tryd.prog 47 #[.pointer (some ⟨g2, 0, none⟩), .int .i64 xf, .int .i64 xs] w0 fun e w' => e = .returned (.int .i64 V) ∧ w' = w0) := hide (fun w0 h ht => by rw [← hV]; exact rjudges_any g2 gt i n m good bad fz w0 xf xs h ht h1n hn HM2.out.hm)
                    clear hV
                    go_upto_region 26 with fail
                    go_cut [120] from 108 to 120 (fun v wx => v = .bool false ∧ ∃ nq, wx = (wr.alloc (.cells #[.int .i64 3, .int .i64 xf, .int .i64 xs] 97)).drewN nq)
                    case first =>
                      go_quiet (first
                        | (go_at_call 46; with_reducible refine quiet_same (HJ1.out _ ?_); exact HM2.out.b1.drewN _)
                        | (go_at_call 47; with_reducible refine Calls.quiet_of_same (HJ2.out _ ?_ ?_); exact HM2.out.b2.drewN _; exact HM2.out.bt.drewN _))
                      go_wp2_with fail
                      go_meet
                      case rel => exact ⟨by simp, _, rfl⟩
                    case rest =>
                      obtain ⟨rfl, nq, rfl⟩ := hcut
                      go_wp2_with fail
                      go_meet
                      case rel => exact ⟨m, good, bad, fz, hide (by have := HGB.out; omega), hide (HM2.out.drewN nq), hide (HN.out.drewN nq)⟩
                  · have e3 : (xk == 3) = false := beq_eq_false_iff_ne.2 h3
                    go_wp2_with fail
                    go_meet
                    case rel => exact ⟨_, _, _, _, hide (by have := HGB.out; omega), HM2, HN⟩
          case rest =>
          clear HM2 HGB HN i0 i1 i2
          obtain ⟨m2, good2, bad2, fz2, HGB, HM, HN⟩ := hcut
          obtain ⟨i0, i1, i2⟩ := hd3 HN.out
          obtain ⟨k0, k1, k2, k3, k4, k5⟩ := HM.out.b2.cells6'
          have hm6 : m2 < 65536 := Nat.lt_of_lt_of_le HM.out.hm (Nat.le_trans (Nat.pow_le_pow_right (by decide) hn) (by decide))
          obtain ⟨V, hV⟩ : ∃ V, judgeG n m2 xf (m2 : Nat) = V := ⟨_, rfl⟩
          have HJ1 : Hid (∀ w0, Blk w0 g1 157 (nodeC i n m2 good2 bad2 fz2) → Calls Tryd.prog 46 #[.pointer (some ⟨g1, 0, none⟩), .int .i64 xf, .int .i64 (m2 : Nat)] w0 fun e w' => e = .returned (.int .i64 V) ∧ ∃ k, w' = w0.drewN k) := hide (fun w0 h => by rw [← hV]; exact judges_all g1 i n m2 good2 bad2 fz2 xf (m2 : Nat) w0 h hn HM.out.hm (by omega) (by omega))
          have HJ2 : Hid (∀ w0, Blk w0 g2 108 (refC i n gt good2 bad2 fz2) → Blk w0 gt 4 (tkB n (m2.testBit ·)) → Calls Tryd.prog 47 #[.pointer (some ⟨g2, 0, none⟩), .int .i64 xf, .int .i64 (m2 : Nat)] w0 fun e w' => e = .returned (.int .i64 V) ∧ w' = w0) := hide (fun w0 h ht => by rw [← hV]; exact rjudges_any g2 gt i n m2 good2 bad2 fz2 w0 xf (m2 : Nat) h ht h1n hn HM.out.hm)
          have HBT : Hid (∀ w0, Blk w0 g2 108 (refC i n gt good2 bad2 fz2) → Blk w0 gt 4 (tkB n (m2.testBit ·)) → Calls Tryd.prog 50 #[.pointer (some ⟨g2, 0, none⟩)] w0 fun e w' => e = .returned (.int .i64 (m2 : Nat)) ∧ w' = w0) := hide (fun w0 h ht => rbits_any g2 gt i n m2 good2 bad2 fz2 w0 h ht hn HM.out.hm)
          have HMB : Hid (∀ w0, Blk w0 g1 157 (nodeC i n m2 good2 bad2 fz2) → Calls Tryd.prog 49 #[.pointer (some ⟨g1, 0, none⟩)] w0 fun e w' => e = .returned (.int .i64 (m2 : Nat)) ∧ w' = w0) := hide (fun w0 h => members_in g1 i n m2 good2 bad2 fz2 w0 h)
          have HFZ : Hid (∀ w0, Blk w0 g1 157 (nodeC i n m2 good2 bad2 fz2) → Calls Tryd.prog 51 #[.pointer (some ⟨g1, 0, none⟩)] w0 fun e w' => e = .returned (.bool fz2) ∧ w' = w0) := hide (fun w0 h => frozen_in g1 i n m2 good2 bad2 fz2 w0 h)
          clear hV hm6
          go_wp2_with fail
          refine (ncounts_any g1 i n m2 good2 bad2 fz2 _ HM.out.b1).mono ?_
          rintro r w5 ⟨rfl, hw5⟩
          have HM5 : Hid (MpAt w w5 i n m2 good2 bad2 fz2 g1 g2 gt) := hide (by obtain ⟨q, rfl⟩ := hw5; exact HM.out.drewN q)
          have HN5 : Hid (Blk w5 wr.heap.size 97 #[.int .i64 xk, .int .i64 xf, .int .i64 xs]) := hide (by obtain ⟨q, rfl⟩ := hw5; exact HN.out.drewN q)
          clear hw5 i0 i1 i2 k0 k1 k2 k3 k4 k5 HM HN
          obtain ⟨i0, i1, i2⟩ := hd3 HN5.out
          obtain ⟨k0, k1, k2, k3, k4, k5⟩ := HM5.out.b2.cells6'
          go_upto_region 29 with fail
          go_cut [170] from 126 to 170 (fun v wx => v = .bool false ∧ ∃ nq, wx = w5.drewN nq)
          case first =>
            go_quiet (first
              | (go_at_call 49; with_reducible refine Calls.quiet_of_same (HMB.out _ ?_); exact HM5.out.b1.drewN _)
              | (go_at_call 50; with_reducible refine Calls.quiet_of_same (HBT.out _ ?_ ?_); exact HM5.out.b2.drewN _; exact HM5.out.bt.drewN _)
              | (go_at_call 51; with_reducible refine Calls.quiet_of_same (HFZ.out _ ?_); exact HM5.out.b1.drewN _)
              | (go_at_call 46; with_reducible refine quiet_same (HJ1.out _ ?_); exact HM5.out.b1.drewN _)
              | (go_at_call 47; with_reducible refine Calls.quiet_of_same (HJ2.out _ ?_ ?_); exact HM5.out.b2.drewN _; exact HM5.out.bt.drewN _))
            go_wp2_with fail
            go_meet
            case rel => exact ⟨by simp, _, rfl⟩
          case rest =>
            obtain ⟨rfl, nq2, rfl⟩ := hcut
            go_wp2_with fail
            go_roundw
            case rel => exact ⟨k + 1, m2, good2, bad2, fz2, by omega, by go_num, HGB, hide (HM5.out.drewN _)⟩
            case measure => simp [intOf]; omega
        · have d2 : decide ((k : Int) < (len : Int)) = false := decide_eq_false (by omega)
          go_wp2_with fail
          go_ret
          exact ⟨rfl, HM.out.old⟩
end Go.Proofs.YtgdljdhibknjnabDoor
