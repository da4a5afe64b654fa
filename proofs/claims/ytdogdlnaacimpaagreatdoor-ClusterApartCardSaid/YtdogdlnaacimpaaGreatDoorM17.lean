/- The contract of metronomekeep.begun; conditions: the plan and the clocks lie in memory. -/
import Derived.Test.YtdogdlnaacimpaaGreatDoorM16
import Derived.Test.YtdogdlnaacimpaaGreatDoorM13
set_option linter.unusedVariables false
set_option linter.unusedSimpArgs false
namespace Go.Proofs.YtdogdlnaacimpaaGreatDoor
open Go Go.RowKit
attribute [local irreducible] chk begF pck

theorem begF_yes {fa : Int} {fy k : Nat} (h : (begF fa fy k).1.testBit k = true) : begF fa fy (k + 1) = if fa < ((begF fa fy k).2 + 1 : Nat) then (clr (begF fa fy k).1 (2 ^ k), (begF fa fy k).2 + 1) else ((begF fa fy k).1, (begF fa fy k).2 + 1) := by
  conv => lhs; unfold begF
  rw [if_pos h]
theorem begF_no {fa : Int} {fy k : Nat} (h : (begF fa fy k).1.testBit k = false) : begF fa fy (k + 1) = begF fa fy k := by
  conv => lhs; unfold begF
  rw [if_neg (by rw [h]; decide)]
theorem begF_zero (fa : Int) (fy : Nat) : begF fa fy 0 = (fy, 0) := by unfold begF; rfl
theorem chk_ok {p : Pl} (h : (chk p).1 = 0) : chk p = (0, -1) := by
  unfold chk at h ⊢
  split
  · rename_i h1; rw [if_pos h1] at h; exact absurd h h1
  · rename_i h1
    rw [if_neg h1] at h
    split
    · rename_i h2; rw [if_pos h2] at h; exact absurd h h2
    · rename_i h2
      rw [if_neg h2] at h
      split
      · rename_i h3; rw [if_pos h3] at h; exact absurd h h3
      · rename_i h3
        rw [if_neg h3] at h
        split
        · rename_i h4; rw [if_pos h4] at h; exact absurd h h4
        · rfl
set_option maxRecDepth 100000 in
set_option maxHeartbeats 8000000 in
theorem begun_any (w : World) (p : Pl) (A : Option Addr) (c : Nat) (AL : Option Addr) (cl : Nat) (AQ : Option Addr) (cq : Nat) (s2 : SlotsAt w A p.sl.length p.sl) (l2 : LinksAt w AL p.lk.length p.lk) (q2 : WinsAt w AQ p.wn.length p.wn)
    (f0 : Int) (B : Option Addr) (cb : Nat) (ks : List Int) (hI : IsL w B ks) :
    Calls Tryz.prog 8 #[.agg (planC p.nd p.fa p.sk p.ji p.dr p.rd (.slice A p.sl.length c) (.slice AL p.lk.length cl) p.fr (.slice AQ p.wn.length cq)), .int .i64 f0, .slice B ks.length cb] w fun e w' =>
      Below w.heap.size w w' ∧ (e = .returned (.pointer none) ∨ (chk p = (0, -1) ∧ ∃ a : Ad, e = .returned (.pointer (some ⟨a.g, 0, none⟩)) ∧ ClAt w' w.heap.size a (fullN p) p ⟨.slice A p.sl.length c, .slice AL p.lk.length cl, .slice AQ p.wn.length cq⟩ (begF p.fa (pck f0 (2 ^ p.nd.toNat)) p.nd.toNat).1 (startF p (begC p ks)))) := by
  obtain ⟨w1, hw1⟩ : ∃ w1, w.alloc (.cells (planC p.nd p.fa p.sk p.ji p.dr p.rd (.slice A p.sl.length c) (.slice AL p.lk.length cl) p.fr (.slice AQ p.wn.length cq)) 26) = w1 := ⟨_, rfl⟩
  have hB1 : Below w.heap.size w w1 := by rw [← hw1]; exact (Below.refl w.heap.size w).alloc (Nat.le_refl _) _
  have hX : Blk w1 w.heap.size 26 (planC p.nd p.fa p.sk p.ji p.dr p.rd (.slice A p.sl.length c) (.slice AL p.lk.length cl) p.fr (.slice AQ p.wn.length cq)) := by rw [← hw1]; exact Blk.new w _ _
  have HCK := hide (check_any p A p.sl.length c AL p.lk.length cl AQ p.wn.length cq w1 rfl rfl rfl (hS0 s2 (Nat.le_refl _) hB1) (hL0 l2 (Nat.le_refl _) hB1) (q2.below hB1))
  have HX := hide hX; have HB1 := hide hB1; have HW1 := hide hw1; have HS2 := hide s2; have HL2 := hide l2; have HQ2 := hide q2; have HI := hide hI
  obtain ⟨x0, x1, x2, x3, x4, x5, x6, x7, x8, x9⟩ := plan_cells hX
  obtain ⟨nk, hnk⟩ : ∃ nk, ks.length = nk := ⟨_, rfl⟩
  have HNK := hide hnk
  rw [hnk]
  clear hX hB1 hw1 s2 l2 q2 hI hnk
  cases hsm : decide (100 < wrap64 (wrap64 ((p.sl.length : Int) + (p.lk.length : Int)) + (p.wn.length : Int)))
  case true =>
    go_enter Tryz.func8, Tryz.ntmps8
    go_wp2_with fail
    rw [HW1.out]
    go_ret
    exact ⟨HB1.out, .inl rfl⟩
  case false =>
    go_enter Tryz.func8, Tryz.ntmps8
    go_wp2_with fail
    rw [HW1.out]
    refine HCK.out.mono ?_
    rintro e w2 hpost
    have HPC := hide hpost; clear hpost
    have HB2 := hide (HB1.out.trans (HPC.out.1.mono HB1.out.size))
    by_cases hc0 : (chk p).1 = 0
    case neg =>
      rcases HPC.out.2 with ⟨h, _⟩ | ⟨_, v, rfl, hv⟩
      · exact absurd h hc0
      obtain ⟨t, u, rfl⟩ := hv.iface
      clear hv hc0 HPC
      go_wp2_with fail
      go_ret
      exact ⟨HB2.out, .inl rfl⟩
    case pos =>
      have hchk := chk_ok hc0
      rcases HPC.out.2 with ⟨-, rfl⟩ | ⟨h, -⟩
      rotate_left
      · exact absurd hc0 h
      have hp := PlOk.of hchk
      have HP := hide hp; have HCH := hide hchk
      have HX2 := hide (HX.out.below HPC.out.1 HX.out.lt)
      have hn16 := hp.n16
      have hn1 := hp.n1
      obtain ⟨nd, hnd⟩ : ∃ nd, p.nd.toNat = nd := ⟨_, rfl⟩
      have hnd16 : nd ≤ 16 := by omega
      have hnd1 : 0 < nd := by omega
      have hpn : p.nd = (nd : Int) := by omega
      have HND := hide hnd; have HPN := hide hpn
      have hsk := hp.sk
      obtain ⟨i0, hi, hz0, hz1, hz2⟩ := en_info_parts ar_info
      clear hc0 hchk hp HPC hn16 hn1 hnd hpn hsm x0 x1 x2 x3 x4 x5 x6 x7 x8 x9
      go_wp2_with fail
      go_loopw [7, 8] (fun v7 v8 wr => ∃ k : Nat, k ≤ nd ∧ v8 = .int .i64 k ∧ Hid (wr.ownsRow w2.heap.size 3 1 v7 k ((begK p ks k).map (Value.int .i64))) ∧ Hid (Below w2.heap.size w2 wr)) (fun _ v _ => nd - (intOf v).toNat)
      case atStart => exact ⟨0, by omega, rfl, hide (World.ownsRow_nil _ _ _ _), hide (Below.refl _ _)⟩
      case round =>
        obtain ⟨k, hk, rfl, HO, HBr⟩ := hrel
        have HXr := hide (HX2.out.below HBr.out HX2.out.lt)
        obtain ⟨x0, x1, x2, x3, x4, x5, x6, x7, x8, x9⟩ := plan_cells HXr.out
        rw [HPN.out] at x0
        by_cases hlt : k < nd
        · have HBW := hide (HB2.out.trans (HBr.out.mono HB2.out.size))
          have hbs := begK_succ p ks k
          rw [HNK.out] at hbs
          have hln := begK_len p ks k
          have HMX : Hid (k + 1 ≤ maxLen ∧ (k + 1) * 8 ≤ 140737488355328) := hide (by simp [maxLen]; omega)
          have HSZ := hide HBr.out.size
          by_cases hkn : k < nk
          · rw [if_pos hkn] at hbs
            obtain ⟨b, o, rfl, hc⟩ := (HI.out.below (Nat.le_refl _) HBW.out) k (by rw [HNK.out]; exact hkn)
            obtain ⟨xk, hxk⟩ : ∃ xk, ks.getD k 0 = xk := ⟨_, rfl⟩
            rw [hxk] at hc hbs
            have HPK := hide (fun W => pck_any xk (p.sk.toNat + 1) W (Nat.succ_pos _) (by omega))
            obtain ⟨sn, hsn⟩ : ∃ sn : Nat, p.sk.toNat = sn := ⟨_, rfl⟩
            have hskn : p.sk = (sn : Int) := by omega
            rw [hsn] at HPK hbs
            rw [hskn] at x2
            have hsn2 : sn ≤ 137438953472 := by omega
            have ew : IntKind.i64.wrap ((sn : Int) + 1) = ((sn + 1 : Nat) : Int) := by rw [IntWalk.i64_in _ (by omega)]; rfl
            obtain ⟨y, hy⟩ : ∃ y, ((pck xk (sn + 1) : Nat) : Int) = y := ⟨_, rfl⟩
            rw [hy] at hbs
            have HPK2 : Hid (∀ W, Calls Tryz.prog 14 #[.int .i64 xk, .int .i64 ((sn + 1 : Nat) : Int)] W fun e w' => e = .returned (.int .i64 y) ∧ W = w') := hide (fun W => by rw [← hy]; exact HPK.out W)
            have HBS := hide hbs
            have dk : decide ((k : Int) < (nk : Int)) = true := decide_eq_true (by omega)
            clear hbs hxk hsn hskn hy HPK
            go_wp2_with fail
            go_region_held3 (fun w' => w'.cell? ⟨b, o + k, none⟩ = some (.int .i64 xk) ∧ w'.cell? ⟨w.heap.size, 2, none⟩ = some (.int .i64 sn)) (first | exact ⟨hc, x2⟩)
              (first | (go_at_call 14; go_must (refine (HPK2.out _).mono ?_); rintro e w5 ⟨rfl, rfl⟩))
            obtain ⟨W9, hW9⟩ : ∃ W9, wr.drew = W9 := ⟨_, rfl⟩
            have HO9 : Hid ((W9.alloc (.cells #[.int .i64 y] 3)).ownsRow w2.heap.size 3 1 u7 k ((begK p ks k).map (Value.int .i64))) := hide (by rw [← hW9]; exact own_keepR HO.out (w' := (wr.drewN 1).alloc (.cells #[.int .i64 y] 3)) ((below_drewN (Below.refl _ _) 1).alloc (Nat.le_refl _) _))
            have HBr9 : Hid (Below w2.heap.size w2 W9) := hide (by rw [← hW9]; exact below_drewN HBr.out 1)
            rw [hW9]
            clear hW9 ew hc x0 x1 x2 x3 x4 x5 x6 x7 x8 x9
            go_wp2_with (at_builtin; go_must (refine wpList_append_own _ rfl (.tmp 49) (.tmp 51) _ rfl w2.heap.size 3 i0 _ 1 8 Tryz.underlying27 hi hz0 hz1 hz2 rfl (by decide) u7 k ((begK p ks k).map (Value.int .i64)) rfl (by exact HO9.out) ⟨W9.heap.size, 0, none⟩ 1 1 [.int .i64 y] rfl rfl (by exact news1 (Blk.new W9 3 #[.int .i64 y])) (by intro u hu; simp at hu; subst hu; rfl) HMX.out.1 HMX.out.2 (by have := HBr9.out.size; simp; omega) ?_); intro v8 w8 hown hg _; have HO8 := hide hown; have HG8 := hide hg; clear hown hg)
            go_roundw
            case rel => exact ⟨k + 1, by omega, by go_num, hide (by rw [HBS.out, List.map_append]; exact HO8.out), hide ((HBr9.out.alloc HBr9.out.size _).grown HG8.out (by have := HBr9.out.size; simp; omega) (fun q e => (HO9.out.lt q e).1))⟩
            case measure => simp [intOf]; omega
          · rw [if_neg hkn] at hbs
            have HBS := hide hbs
            have dk : decide ((k : Int) < (nk : Int)) = false := decide_eq_false (by omega)
            obtain ⟨W9, hW9⟩ : ∃ W9, wr = W9 := ⟨_, rfl⟩
            have HO9 : Hid ((W9.alloc (.cells #[.int .i64 0] 3)).ownsRow w2.heap.size 3 1 u7 k ((begK p ks k).map (Value.int .i64))) := hide (by rw [← hW9]; exact own_keepR HO.out (w' := wr.alloc (.cells #[.int .i64 0] 3)) ((Below.refl _ _).alloc (Nat.le_refl _) _))
            have HBr9 : Hid (Below w2.heap.size w2 W9) := hide (by rw [← hW9]; exact HBr.out)
            subst hW9
            clear hbs
            go_wp2_with (at_builtin; go_must (refine wpList_append_own _ rfl (.tmp 49) (.tmp 51) _ rfl w2.heap.size 3 i0 _ 1 8 Tryz.underlying27 hi hz0 hz1 hz2 rfl (by decide) u7 k ((begK p ks k).map (Value.int .i64)) rfl (by exact HO9.out) ⟨wr.heap.size, 0, none⟩ 1 1 [.int .i64 0] rfl rfl (by exact news1 (Blk.new wr 3 #[.int .i64 0])) (by intro u hu; simp at hu; subst hu; rfl) HMX.out.1 HMX.out.2 (by have := HBr9.out.size; simp; omega) ?_); intro v8 w8 hown hg _; have HO8 := hide hown; have HG8 := hide hg; clear hown hg)
            go_roundw
            case rel => exact ⟨k + 1, by omega, by go_num, hide (by rw [HBS.out, List.map_append]; exact HO8.out), hide ((HBr9.out.alloc HBr9.out.size _).grown HG8.out (by have := HBr9.out.size; simp; omega) (fun q e => (HO9.out.lt q e).1))⟩
            case measure => simp [intOf]; omega
        · obtain rfl : nd = k := by omega
          obtain ⟨gz, cpz, cur, rfl, -, -, hcpz, -, -, -⟩ := block_of_own HO.out (by omega)
          obtain ⟨np, hnp⟩ : ∃ np : Nat, 2 ^ nd = np := ⟨_, rfl⟩
          have hnp0 : 0 < np := by rw [← hnp]; exact Nat.two_pow_pos nd
          have hnp16 : np ≤ 65536 := by rw [← hnp]; exact Nat.pow_le_pow_right (n := 2) (by omega) hnd16
          have hsh := pow_small nd (by omega)
          rw [hnp] at hsh
          have HPK := hide (pck_any f0 np wr hnp0 (by omega))
          have HNP := hide hnp
          go_wp2_with fail
          refine HPK.out.mono ?_
          rintro e w5 ⟨rfl, rfl⟩
          obtain ⟨y, hy⟩ : ∃ y : Nat, pck f0 np = y := ⟨_, rfl⟩
          have hyl : y < 2 ^ nd := by rw [← hy, hnp]; exact pck_lt f0 hnp0
          have HY := hide hy
          rw [hy]
          clear hy hsh
          go_wp2_with fail
          go_loopw [1, 10, 11] (fun v1 v10 v11 w6 => ∃ k : Nat, k ≤ nd ∧ v11 = .int .i64 k ∧ v1 = .int .i64 ((begF p.fa y k).1 : Nat) ∧ v10 = .int .i64 ((begF p.fa y k).2 : Nat) ∧ w6 = wr) (fun _ _ v _ => nd - (intOf v).toNat)
          case atStart => exact ⟨0, by omega, rfl, by rw [begF_zero], by rw [begF_zero]; rfl, rfl⟩
          case round =>
            obtain ⟨k, hk, rfl, rfl, rfl, rfl⟩ := hrel
            have hfl := begF_lt p.fa hyl k
            rw [hnp] at hfl
            have hmn := begF_many p.fa y k
            by_cases hlt : k < nd
            · have hb1 := bit_one (begF p.fa y k).1 k (by omega)
              have hyes := begF_yes (fa := p.fa) (fy := y) (k := k)
              have hno := begF_no (fa := p.fa) (fy := y) (k := k)
              have hcl := clr_pow (begF p.fa y k).1 k (by omega) (by omega)
              obtain ⟨F, hF⟩ : ∃ F, (begF p.fa y k).1 = F := ⟨_, rfl⟩
              obtain ⟨M, hM⟩ : ∃ M, (begF p.fa y k).2 = M := ⟨_, rfl⟩
              rw [hF] at hb1 hyes hno hcl hfl
              rw [hM] at hyes hmn
              rw [hF, hM]
              have HNO := hide hno
              have HYE := hide hyes
              have HFF := hide hF; have HMM := hide hM
              clear hno hyes hF hM
              obtain ⟨b, hb⟩ : ∃ b, F.testBit k = b := ⟨_, rfl⟩
              have HB := hide hb
              rw [hb] at hb1
              clear hb
              cases b
              · rw [if_neg (by decide)] at hb1
                have HS := hide (HNO.out HB.out)
                go_wp2_with fail
                go_roundw
                case rel => exact ⟨k + 1, by omega, by go_num, by rw [HS.out, HFF.out], by rw [HS.out, HMM.out], trivial⟩
                case measure => simp [intOf]; omega
              · rw [if_pos rfl] at hb1
                have HS := hide (HYE.out HB.out)
                obtain ⟨fa, hfa⟩ : ∃ fa, p.fa = fa := ⟨_, rfl⟩
                rw [hfa] at x1 HS ⊢
                clear hfa
                by_cases hm : fa < ((M + 1 : Nat) : Int)
                · have d1 : decide (fa < (M : Int) + 1) = true := decide_eq_true (by omega)
                  rw [if_pos hm] at HS
                  go_wp2_with fail
                  go_roundw
                  case rel => exact ⟨k + 1, by omega, by go_num, by rw [HS.out], by rw [HS.out]; go_num, trivial⟩
                  case measure => simp [intOf]; omega
                · have d1 : decide (fa < (M : Int) + 1) = false := decide_eq_false (by omega)
                  rw [if_neg hm] at HS
                  go_wp2_with fail
                  go_roundw
                  case rel => exact ⟨k + 1, by omega, by go_num, by rw [HS.out], by rw [HS.out]; go_num, trivial⟩
                  case measure => simp [intOf]; omega
            · obtain rfl : nd = k := by omega
              have HBW := hide (HB2.out.trans (HBr.out.mono HB2.out.size))
              have hbc : begK p ks nd = begC p ks := by rw [← HND.out]; rfl
              have hli := (begF_liars p.fa HP.out.f0 y nd).1
              have HNW := hide (new_any wr p A c AL cl AQ cq HCH.out (hS0 HS2.out (Nat.le_refl _) HBW.out) (hL0 HL2.out (Nat.le_refl _) HBW.out) (HQ2.out.below HBW.out) (begF p.fa y nd).1 (by rw [HND.out, hnp]; exact hfl) (by rw [HND.out]; exact hli) gz 0 cpz (begC p ks) (isl_own0 (by have := HO.out; rw [hbc] at this; exact this) (by rw [begC_len, HND.out])) (by rw [begC_len, HND.out]; exact hcpz) (begC_len p ks) (begC_wild HP.out ks) (begC_apart HP.out ks _))
              rw [HND.out, HPN.out] at HNW
              have HSZW := hide HBW.out.size
              clear hbc hli
              go_wp2_with fail
              refine HNW.out.mono ?_
              rintro e w7 ⟨a, rfl, hB7, hA7⟩
              have HB7 := hide hB7; have HA7 := hide hA7
              clear hB7 hA7
              go_wp2_with fail
              go_ret
              exact ⟨HBW.out.trans (HB7.out.mono HSZW.out), .inr ⟨HCH.out, a, rfl, by rw [HND.out, HNP.out, HY.out]; exact HA7.out.mono HSZW.out⟩⟩
end Go.Proofs.YtdogdlnaacimpaaGreatDoor
