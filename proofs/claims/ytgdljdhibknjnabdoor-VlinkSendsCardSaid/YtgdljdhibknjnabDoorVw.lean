/- The walk of metronomelaw.VlinkSends; conditions: what is asked lies in memory; errors.errorType holds what start-up lays there. -/
import Derived.Test.YtgdljdhibknjnabDoorVz
import Derived.Test.YtgdljdhibknjnabDoorVy
import Derived.Test.YtgdljdhibknjnabDoorEp
import Derived.Test.YtgdljdhibknjnabDoorOx
namespace Go.Proofs.YtgdljdhibknjnabDoor
open Go.RowKit

theorem bare_is (e : Int) (w : World) (hg : ErrT w) : Calls Tryd.prog 17 #[errV e, .int .i64 e] w fun r w' => r = .returned (.bool true) ∧ Below w.heap.size w w' :=
  (bare_errV e e w hg).mono fun r w' ⟨h1, h2⟩ => ⟨by rw [h1]; simp, h2⟩
set_option maxRecDepth 100000 in
theorem smany_any (g : Nat) (ao : Option Addr) (c n : Nat) (w : World) (_hn : n ≤ 1000) (h : w.cell? ⟨g, 4, none⟩ = some (.slice ao n c)) :
    Calls Tryd.prog 30 #[.pointer (some ⟨g, 0, none⟩)] w fun e w' => e = .returned (.int .i64 n) ∧ w' = w := by
  go_enter Tryd.func30, Tryd.ntmps30
  go_wp2_with fail
  go_ret
  exact ⟨rfl, rfl⟩
/-- Both senders, and what they have to do with each other. -/
def VlAt (w wr : World) (bag que : Int) (g1 g2 k : Nat) : Prop := ∃ (v1 v2 : Value) (nx la nw last : Int) (q all : List ByteArray) (went : Nat), VsRel all went last nw q nx la ∧ LsAt w wr bag que g1 v1 nx la nw q g2 v2 went last nw all ∧ all.length ≤ k
theorem ask3 {w : World} {g : Nat} {t : TypeId} {a b c : Value} (h : Blk w g t #[a, b, c]) : w.cell? ⟨g, 0, none⟩ = some a ∧ w.cell? ⟨g, 1, none⟩ = some b ∧ w.cell? ⟨g, 2, none⟩ = some c :=
  ⟨by simpa using h.cell 0, by simpa using h.cell 1, by simpa using h.cell 2⟩
theorem VlAt.below {w w1 w2 : World} {bag que : Int} {g1 g2 k : Nat} (h : VlAt w w1 bag que g1 g2 k) (hB : Below w1.heap.size w1 w2) : VlAt w w2 bag que g1 g2 k := by
  obtain ⟨a, b, c, d, e, f, g, i, j, r, l, m⟩ := h
  exact ⟨a, b, c, d, e, f, g, i, j, r, l.below hB, m⟩
theorem sd_far {w w' : World} {base g gx : Nat} {bag que : Int} {v : Value} {nx la nw : Int} {q : List ByteArray} {t : TypeId} {cs : Array Value} (h : SdPost w base g bag que v nx la nw q w') (hb : Blk w gx t cs) (h1 : gx ≠ g) (h2 : v.ownBlock ≠ some gx) : Blk w' gx t cs := by
  obtain ⟨_, _, _, hk, _⟩ := h
  exact hb.kept2 hk h1 h2
theorem rs_far {w w' : World} {base g gx : Nat} {bag que : Int} {v : Value} {went last nw : Int} {q : List ByteArray} {t : TypeId} {cs : Array Value} (h : RsPost w base g bag que v went last nw q w') (hb : Blk w gx t cs) (h1 : gx ≠ g) (h2 : v.ownBlock ≠ some gx) : Blk w' gx t cs := by
  obtain ⟨_, _, _, hk, _⟩ := h
  exact hb.kept2 hk h1 h2
theorem putQ_len {q : List ByteArray} {d : ByteArray} {e : Int} {k : Nat} (h : q.length ≤ k) : (putQ q d e).length ≤ k + 1 := by
  unfold putQ
  split
  · simp; omega
  · omega
set_option maxRecDepth 100000 in
set_option maxHeartbeats 8000000 in
theorem sends_law (bag que : Int) (A : Option Addr) (len c : Nat) (l : List Ask) (hl : l.length = len) (hm : len ≤ 9223372036854775807) (w : World) (hA : AsksAt w A len l) (hE : ErrT w) :
    Calls Tryd.prog 6 #[.int .i64 bag, .int .i64 que, .slice A len c] w fun e w' => e = .returned (.bool true) ∧ Below w.heap.size w w' := by
  by_cases h600 : 600 < len
  · have d1 : decide ((600 : Int) < (len : Int)) = true := decide_eq_true (by omega)
    clear hl h600 hA hE
    go_enter Tryd.func6, Tryd.ntmps6
    go_wp2_with fail
    go_ret
    exact ⟨rfl, Below.refl _ _⟩
  · have d1 : decide ((600 : Int) < (len : Int)) = false := decide_eq_false (by omega)
    by_cases hbad : bag < 1 ∨ 1099511627776 < bag ∨ que < 1 ∨ 16 < que
    · have HBAD := hide hbad; have HE := hide hE
      have hdec : Hid (decide (bag < 1) = true ∨ (decide (bag < 1) = false ∧ decide (1099511627776 < bag) = true) ∨ (decide (bag < 1) = false ∧ decide (1099511627776 < bag) = false ∧ decide (que < 1) = true) ∨ (decide (bag < 1) = false ∧ decide (1099511627776 < bag) = false ∧ decide (que < 1) = false ∧ decide (16 < que) = true)) := hide (by simp only [decide_eq_true_eq, decide_eq_false_iff_not]; omega)
      clear hl hA hE hbad h600
      rcases hdec.out with h | ⟨h, h'⟩ | ⟨h, h', h''⟩ | ⟨h, h', h'', h3⟩
      all_goals
        go_enter Tryd.func6, Tryd.ntmps6
        go_wp2_with fail
        refine (newSender_bad 0 0 bag que _ HBAD.out).mono ?_
        rintro e w2 ⟨rfl, hB⟩
        have HB := hide hB; clear hB
        go_wp2_with fail
        refine (bare_is 2 _ (by exact errT_below HE.out HB.out)).mono ?_
        rintro e w3 ⟨rfl, hB⟩
        have HB3 := hide (HB.out.trans (hB.mono HB.out.size)); clear hB
        go_wp2_with fail
        go_ret
        exact ⟨rfl, HB3.out⟩
    · have b1 : 1 ≤ bag ∧ bag ≤ 1099511627776 ∧ 1 ≤ que ∧ que ≤ 16 := by omega
      obtain ⟨b1, b2, b3, b4⟩ := b1
      have d2 : decide (bag < 1) = false := decide_eq_false (by omega)
      have d3 : decide (1099511627776 < bag) = false := decide_eq_false (by omega)
      have d4 : decide (que < 1) = false := decide_eq_false (by omega)
      have d5 : decide (16 < que) = false := decide_eq_false (by omega)
      have hlen : len ≤ 600 := by omega
      have HL := hide hl; have HA := hide hA; have HE := hide hE
      clear hl hA hE hbad h600
      go_enter Tryd.func6, Tryd.ntmps6
      go_wp2_with fail
      refine (newSender_ok bag que _ b1 b2 b3 b4).mono ?_
      rintro e w2 ⟨g1, rfl, hB, hg1, hblk⟩
      have HB := hide hB; have HG1 := hide hg1; have HK := hide hblk
      clear hB hg1 hblk
      go_wp2_with fail
      have HS : Hid (VlAt w (w2.alloc (.cells #[.int .i64 bag, .int .i64 que, .slice none 0 0, .int .i64 0, .int .i64 0, .int .i64 0] 55)) bag que g1 w2.heap.size 0) := hide ⟨.slice none 0 0, .slice none 0 0, 0, -1, 0, 0, [], [], 0, VsRel.start, ⟨HK.out.alloc _, Blk.new w2 _ _, QAt.nil _ _ _ _, QAt.nil _ _ _ _, HG1.out, HB.out.size, Nat.ne_of_lt HK.out.lt, fun k e => by simp [Value.ownBlock] at e, fun k e => by simp [Value.ownBlock] at e, HB.out.alloc HB.out.size _⟩, by simp⟩
      obtain ⟨g2, hg2⟩ : ∃ g2, w2.heap.size = g2 := ⟨_, rfl⟩
      rw [hg2] at HS ⊢
      go_loopw [10] (fun i wr => ∃ k : Nat, k ≤ len ∧ i = .int .i64 k ∧ Hid (VlAt w wr bag que g1 g2 k)) (fun i _ => len - (intOf i).toNat)
      case atStart => exact ⟨0, by omega, rfl, HS⟩
      case round =>
        clear HS HK HB hg2 HG1
        obtain ⟨k, hk, rfl, hV⟩ := hrel
        by_cases hlt : k < len
        · obtain ⟨v1, v2, nx, la, nw, last, q, all, went, hR, hLs, hall⟩ := hV.out
          obtain ⟨b, off, rfl, x, hx, hd, c0, c1, c2⟩ := (HA.out.below hLs.old) k hlt
          obtain ⟨xk, xn, xd⟩ := x
          dsimp only at c0 c1 c2 hd
          have HV := hide hR; have HLS := hide (hLs.alloc (.cells #[.int .i64 xk, .int .i64 xn, .string xd] 57)); have HAL := hide hall
          have HN := hide (Blk.new wr 57 #[.int .i64 xk, .int .i64 xn, .string xd])
          have HD := hide hd
          have HF : Hid (wr.heap.size ≠ g1 ∧ wr.heap.size ≠ g2 ∧ v1.ownBlock ≠ some wr.heap.size ∧ v2.ownBlock ≠ some wr.heap.size) := hide ⟨Nat.ne_of_gt hLs.b1.lt, Nat.ne_of_gt hLs.b2.lt, fun e => Nat.lt_irrefl _ (hLs.o1 _ e).2.1, fun e => Nat.lt_irrefl _ (hLs.o2 _ e).2.1⟩
          clear hV hR hLs hall hx hd
          by_cases h0 : xk = 0
          · subst h0
            obtain ⟨e, hpe⟩ : ∃ e, putE xd.size q.length que = e := ⟨_, rfl⟩
            have HPE := hide hpe
            have HPE2 : Hid (putE xd.size (all.length - went) que = e) := hide (by rw [← HV.out.len]; exact hpe)
            have HQL := hide (show q.length ≤ 1000 by have := HV.out.len; have := HAL.out; omega)
            have HAQ := hide (show all.length ≤ 1000 by have := HAL.out; omega)
            clear hpe
            go_wp2_with fail
            go_upto_region 15 with fail
            go_cut [80] from 71 to 80 (fun v wx => v = .bool false ∧ Hid (VlAt w wx bag que g1 g2 (k + 1)))
            case first =>
              obtain ⟨i0, i1, i2⟩ := ask3 HN.out
              go_region_held3 (fun w' => w'.cell? ⟨wr.heap.size, 2, none⟩ = some (.string xd)) (first | exact (ask3 HN5.out).2.2 | exact (ask3 HN4.out).2.2 | exact (ask3 HN3.out).2.2 | exact (ask3 HN.out).2.2)
                (first
                  | (go_at_call 26; refine (sput_any g1 w.heap.size bag que v1 nx la nw q _ xd e HPE (by exact HLS.out.drew.b1) (by exact HLS.out.drew.q1) (by exact fun k e => (HLS.out.drew.o1 k e).2.1) (by exact fun e => (HLS.out.drew.o1 _ e).2.2.1 rfl) (by exact HLS.out.drew.old.size) HD.out HQL.out).mono ?_; rintro r w3 ⟨rfl, hs⟩; have HN3 := hide (sd_far hs HN.out.drew HF.out.1 HF.out.2.2.1); obtain ⟨v1', hL⟩ := HLS.out.drew.step1 hs; have HL3 := hide hL; clear hs hL)
                  | (go_at_call 27; refine (rput_any g2 w.heap.size bag que v2 went last nw all _ xd e HPE2 (by exact HL3.out.b2) (by exact HL3.out.q2) (by exact fun k e => (HL3.out.o2 k e).2.1) (by exact fun e => (HL3.out.o2 _ e).2.2.2.1 rfl) (by exact HL3.out.old.size) HD.out HAQ.out HV.out.hw).mono ?_; rintro r w4 ⟨rfl, hs⟩; have HN4 := hide (rs_far hs HN3.out HF.out.2.1 HF.out.2.2.2); obtain ⟨v2', hL⟩ := HL3.out.step2 hs; have HL4 := hide hL; clear hs hL)
                  | (go_at_call 17; refine (bare_is e _ (by exact errT_below HE.out HL4.out.old)).mono ?_; rintro r w5 ⟨rfl, hB⟩; have HL5 := hide (HL4.out.below hB); have HN5 := hide (HN4.out.below hB HN4.out.lt); clear hB))
              go_wp2_with fail
              go_meet
              case rel => exact ⟨rfl, hide ⟨_, _, _, _, _, _, _, _, _, HV.out.put xd e, HL5.out, putQ_len HAL.out⟩⟩
            case rest =>
              obtain ⟨rfl, HVL⟩ := hcut
              clear HLS HN HV HAL
              obtain ⟨v3, v4, nx3, la3, nw3, last3, q3, all3, went3, hR, hLs, hall⟩ := HVL.out
              obtain ⟨s0, s1, s2, s3, s4, s5, s6, s7⟩ := hLs.b1.cells8
              obtain ⟨r0, r1, r2, r3, r4, r5⟩ := hLs.b2.cells6
              obtain ⟨a1, cp1, hv1, hc1⟩ := hLs.q1.shape
              obtain ⟨a2, cp2, hv2, hc2⟩ := hLs.q2.shape
              rw [sv_len] at hv1 hc1 hv2 hc2
              have hal : all3.length ≤ 601 := by omega
              have hwn : went3 ≤ all3.length := hR.hw
              have hqn : (all3.length : Int) - (went3 : Int) = (q3.length : Int) := by have := hR.len; omega
              have HQN := hide hqn
              have hql : q3.length ≤ 1000 := by omega
              have HM := hide (fun w0 h => smany_any g1 a1 cp1 q3.length w0 hql h)
              subst hv1 hv2
              have HVL2 := HVL
              clear hR hLs hall hqn HVL hc1 hc2
              go_upto_region 22 with fail
              go_cut [126] from 114 to 126 (fun v wx => v = .bool false ∧ ∃ n, wx = wc.drewN n)
              case first =>
                go_quiet ((go_at_call 30; (with_reducible refine Calls.quiet_of_same (HM.out _ ?_)); exact s4))
                rw [HQN.out]
                go_wp2_with fail
                go_meet
                case rel => exact ⟨by simp, _, rfl⟩
              case rest =>
                obtain ⟨rfl, n, rfl⟩ := hcut
                go_wp2_with fail
                go_roundw
                case rel => exact ⟨k + 1, by omega, by go_num, hide (HVL2.out.below (below_drewN (Below.refl _ _) n))⟩
                case measure => simp [intOf]; omega
          · have e0 : (xk == 0) = false := by rw [beq_eq_false_iff_ne]; exact h0
            by_cases h1 : xk = 1
            · subst h1
              obtain ⟨e, hse⟩ : ∃ e, sdE xn la nw bag q.length = e := ⟨_, rfl⟩
              have HSE := hide hse
              have HRE : Hid (rsE xn last nw bag went all.length = e) := hide (by rw [HV.out.err]; exact hse)
              have HQL := hide (show q.length ≤ 1000 by have := HV.out.len; have := HAL.out; omega)
              have HAQ := hide (show all.length ≤ 1000 by have := HAL.out; omega)
              have HLA := hide (show -1 ≤ la ∧ la ≤ 1099511627776 by have h := HV.out.hl; have := HV.out.h0; rw [h]; split <;> omega)
              clear hse h0
              go_wp2_with fail
              refine (rsend_any g2 w.heap.size bag que v2 went last nw all _ xn e HRE HLS.out.b2 HLS.out.q2 (by exact fun k e => (HLS.out.o2 k e).2.1) (by exact fun e => (HLS.out.o2 _ e).2.2.2.1 rfl) HV.out.h0 ⟨b1, b2⟩ HAQ.out HV.out.hw).mono ?_
              rintro r w3 hpost
              have HPO := hide hpost; clear hpost
              by_cases he : e = 0
              · subst he
                rcases HPO.out with ⟨h, _⟩ | ⟨-, d, hd, rfl, hs⟩
                · exact absurd rfl h
                have HN3 := hide (rs_far hs HN.out HF.out.2.1 HF.out.2.2.2)
                obtain ⟨v2', hL⟩ := HLS.out.step2 hs
                have HL3 := hide hL
                obtain ⟨d', q', rfl, hd', hlt2, hnx, hR⟩ := HV.out.goes HSE.out
                obtain rfl : d' = d := by rw [hd'] at hd; exact Option.some.inj hd
                have HV3 := hide hR
                have HNX := hide hnx
                have HSE' : Hid (sdE xn la nw bag (q'.length + 1) = 0) := HSE
                have HQL' := hide (show q'.length ≤ 1000 by have := HQL.out; simp at this; omega)
                have HNB := hide (show 0 ≤ nx ∧ nx ≤ 255 by rw [hnx]; exact ordr_bd went)
                clear hs hL HPO hd hd' hlt2 hR hnx
                obtain ⟨i0, i1, i2⟩ := ask3 HN3.out
                go_wp2_with fail
                refine (ssend_ok g1 w.heap.size bag que v1 nx la nw q' _ xn d' HSE' HL3.out.b1 HL3.out.q1 (by exact fun k e => (HL3.out.o1 k e).2.1) (by exact fun e => (HL3.out.o1 _ e).2.2.1 rfl) HLA.out HNB.out HQL'.out).mono ?_
                rintro r w4 ⟨rfl, hs⟩
                have HN4 := hide (sd_far hs HN3.out HF.out.1 HF.out.2.2.1)
                obtain ⟨v1', hL⟩ := HL3.out.step1 hs
                have HL4 := hide (hL.alloc (.cells #[.int .i64 nx, .string d'] 63))
                have HN5 := hide (Blk.new w4 63 #[.int .i64 nx, .string d'])
                clear hs hL i0 i1 i2
                go_wp2_with fail
                refine (bare_is 0 _ (by exact errT_below HE.out HL4.out.old)).mono ?_
                rintro r w5 ⟨rfl, hB⟩
                have HL5 := hide (HL4.out.below hB)
                obtain ⟨j0, j1, -, -⟩ := (HN5.out.below hB HN5.out.lt).cells2
                have hnx := HNX.out
                subst hnx
                clear hB
                go_wp2_with fail
                have HVL : Hid (VlAt w w5 bag que g1 g2 (k + 1)) := hide ⟨_, _, _, _, _, _, _, _, _, HV3.out, HL5.out, Nat.le_succ_of_le HAL.out⟩
                clear HL3 HL4 HL5 HV HV3 HAL HLS HN HN3 HN4 HN5 j0 j1
                obtain ⟨v3, v4, nx3, la3, nw3, last3, q3, all3, went3, hR, hLs, hall⟩ := HVL.out
                obtain ⟨s0, s1, s2, s3, s4, s5, s6, s7⟩ := hLs.b1.cells8
                obtain ⟨r0, r1, r2, r3, r4, r5⟩ := hLs.b2.cells6
                obtain ⟨a1, cp1, hv1, hc1⟩ := hLs.q1.shape
                obtain ⟨a2, cp2, hv2, hc2⟩ := hLs.q2.shape
                rw [sv_len] at hv1 hc1 hv2 hc2
                have hal : all3.length ≤ 601 := by omega
                have hwn : went3 ≤ all3.length := hR.hw
                have hqn : (all3.length : Int) - (went3 : Int) = (q3.length : Int) := by have := hR.len; omega
                have HQN := hide hqn
                have hql : q3.length ≤ 1000 := by omega
                have HM := hide (fun w0 h => smany_any g1 a1 cp1 q3.length w0 hql h)
                subst hv1 hv2
                have HVL2 := HVL
                clear hR hLs hall hqn HVL hc1 hc2
                go_upto_region 22 with fail
                go_cut [126] from 114 to 126 (fun v wx => v = .bool false ∧ ∃ n, wx = w5.drewN n)
                case first =>
                  go_quiet ((go_at_call 30; (with_reducible refine Calls.quiet_of_same (HM.out _ ?_)); exact s4))
                  rw [HQN.out]
                  go_wp2_with fail
                  go_meet
                  case rel => exact ⟨by simp, _, rfl⟩
                case rest =>
                  obtain ⟨rfl, n, rfl⟩ := hcut
                  go_wp2_with fail
                  go_roundw
                  case rel => exact ⟨k + 1, by omega, by go_num, hide (HVL2.out.below (below_drewN (Below.refl _ _) n))⟩
                  case measure => simp [intOf]; omega
              · rcases HPO.out with ⟨-, rfl, hs⟩ | ⟨h, _⟩
                rotate_left
                · exact absurd h he
                have HN3 := hide (rs_far hs HN.out HF.out.2.1 HF.out.2.2.2)
                obtain ⟨v2', hL⟩ := HLS.out.step2 hs
                have HL3 := hide hL
                have HNE := hide he
                clear hs hL HPO he
                obtain ⟨i0, i1, i2⟩ := ask3 HN3.out
                go_wp2_with fail
                refine (ssend_bad g1 w.heap.size bag que v1 nx la nw q _ xn e HSE HNE.out HL3.out.b1 HL3.out.q1 (by exact fun k e => (HL3.out.o1 k e).2.1) (by exact fun e => (HL3.out.o1 _ e).2.2.1 rfl) HLA.out HQL.out).mono ?_
                rintro r w4 ⟨rfl, hs⟩
                have HN4 := hide (sd_far hs HN3.out HF.out.1 HF.out.2.2.1)
                obtain ⟨v1', hL⟩ := HL3.out.step1 hs
                have HL4 := hide (hL.alloc (.cells #[.int .i64 0, .string ⟨#[]⟩] 63))
                have HN5 := hide (Blk.new w4 63 #[.int .i64 0, .string ⟨#[]⟩])
                clear hs hL i0 i1 i2
                go_wp2_with fail
                refine (bare_is e _ (by exact errT_below HE.out HL4.out.old)).mono ?_
                rintro r w5 ⟨rfl, hB⟩
                have HL5 := hide (HL4.out.below hB)
                obtain ⟨j0, j1, -, -⟩ := (HN5.out.below hB HN5.out.lt).cells2
                clear hB
                go_wp2_with fail
                have HVL : Hid (VlAt w w5 bag que g1 g2 (k + 1)) := hide ⟨_, _, _, _, _, _, _, _, _, (by rw [← HSE.out]; exact HV.out.none_), HL5.out, Nat.le_succ_of_le HAL.out⟩
                clear HL3 HL4 HL5 HV HAL HLS HN HN3 HN4 HN5 j0 j1
                obtain ⟨v3, v4, nx3, la3, nw3, last3, q3, all3, went3, hR, hLs, hall⟩ := HVL.out
                obtain ⟨s0, s1, s2, s3, s4, s5, s6, s7⟩ := hLs.b1.cells8
                obtain ⟨r0, r1, r2, r3, r4, r5⟩ := hLs.b2.cells6
                obtain ⟨a1, cp1, hv1, hc1⟩ := hLs.q1.shape
                obtain ⟨a2, cp2, hv2, hc2⟩ := hLs.q2.shape
                rw [sv_len] at hv1 hc1 hv2 hc2
                have hal : all3.length ≤ 601 := by omega
                have hwn : went3 ≤ all3.length := hR.hw
                have hqn : (all3.length : Int) - (went3 : Int) = (q3.length : Int) := by have := hR.len; omega
                have HQN := hide hqn
                have hql : q3.length ≤ 1000 := by omega
                have HM := hide (fun w0 h => smany_any g1 a1 cp1 q3.length w0 hql h)
                subst hv1 hv2
                have HVL2 := HVL
                clear hR hLs hall hqn HVL hc1 hc2
                go_upto_region 22 with fail
                go_cut [126] from 114 to 126 (fun v wx => v = .bool false ∧ ∃ n, wx = w5.drewN n)
                case first =>
                  go_quiet ((go_at_call 30; (with_reducible refine Calls.quiet_of_same (HM.out _ ?_)); exact s4))
                  rw [HQN.out]
                  go_wp2_with fail
                  go_meet
                  case rel => exact ⟨by simp, _, rfl⟩
                case rest =>
                  obtain ⟨rfl, n, rfl⟩ := hcut
                  go_wp2_with fail
                  go_roundw
                  case rel => exact ⟨k + 1, by omega, by go_num, hide (HVL2.out.below (below_drewN (Below.refl _ _) n))⟩
                  case measure => simp [intOf]; omega
            · have e1 : (xk == 1) = false := by rw [beq_eq_false_iff_ne]; exact h1
              have HVL : Hid (VlAt w (wr.alloc (.cells #[.int .i64 xk, .int .i64 xn, .string xd] 57)) bag que g1 g2 (k + 1)) := hide ⟨_, _, _, _, _, _, _, _, _, HV.out, HLS.out, Nat.le_succ_of_le HAL.out⟩
              obtain ⟨W9, hW9⟩ : ∃ W9, W9 = wr.alloc (.cells #[.int .i64 xk, .int .i64 xn, .string xd] 57) := ⟨_, rfl⟩
              clear h0 h1
              go_wp2_with fail
              rw [← hW9] at HVL ⊢
              clear hW9 HV HAL HLS HN
              obtain ⟨v3, v4, nx3, la3, nw3, last3, q3, all3, went3, hR, hLs, hall⟩ := HVL.out
              obtain ⟨s0, s1, s2, s3, s4, s5, s6, s7⟩ := hLs.b1.cells8
              obtain ⟨r0, r1, r2, r3, r4, r5⟩ := hLs.b2.cells6
              obtain ⟨a1, cp1, hv1, hc1⟩ := hLs.q1.shape
              obtain ⟨a2, cp2, hv2, hc2⟩ := hLs.q2.shape
              rw [sv_len] at hv1 hc1 hv2 hc2
              have hal : all3.length ≤ 601 := by omega
              have hwn : went3 ≤ all3.length := hR.hw
              have hqn : (all3.length : Int) - (went3 : Int) = (q3.length : Int) := by have := hR.len; omega
              have HQN := hide hqn
              have hql : q3.length ≤ 1000 := by omega
              have HM := hide (fun w0 h => smany_any g1 a1 cp1 q3.length w0 hql h)
              subst hv1 hv2
              have HVL2 := HVL
              clear hR hLs hall hqn HVL hc1 hc2
              go_upto_region 22 with fail
              go_cut [126] from 114 to 126 (fun v wx => v = .bool false ∧ ∃ n, wx = W9.drewN n)
              case first =>
                go_quiet ((go_at_call 30; (with_reducible refine Calls.quiet_of_same (HM.out _ ?_)); exact s4))
                rw [HQN.out]
                go_wp2_with fail
                go_meet
                case rel => exact ⟨by simp, _, rfl⟩
              case rest =>
                obtain ⟨rfl, n, rfl⟩ := hcut
                go_wp2_with fail
                go_roundw
                case rel => exact ⟨k + 1, by omega, by go_num, hide (HVL2.out.below (below_drewN (Below.refl _ _) n))⟩
                case measure => simp [intOf]; omega
        · obtain rfl : len = k := by omega
          obtain ⟨_, _, _, _, _, _, _, _, _, _, hLs, _⟩ := hV.out
          have HO := hide hLs.old
          clear hLs hV
          go_wp2_with fail
          go_ret
          exact ⟨rfl, HO.out⟩
end Go.Proofs.YtgdljdhibknjnabDoor
