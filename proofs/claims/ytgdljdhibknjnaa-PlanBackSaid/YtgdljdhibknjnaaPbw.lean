/- The walk of metronomekeep.PlanBack, given plan.Decode's contract; conditions: slots, links and windows lie in memory. -/
import Derived.Test.YtgdljdhibknjnaaPnd
import Derived.Test.YtgdljdhibknjnaaGb
namespace Go.Proofs.Ytgdljdhibknjnaa
open Go.RowKit

theorem bs_take {w : World} {ao : Option Addr} {l : List Nat} (h : BsAt w ao l) (k : Nat) : BsAt w ao (l.take k) := by
  intro j hj
  rw [List.length_take] at hj
  obtain ⟨b, off, rfl, c0⟩ := h j (by omega)
  refine ⟨b, off, rfl, ?_⟩
  rw [c0]
  congr 3
  simp [List.getD, List.getElem?_take, show j < k by omega]
section
variable (p : Pl) (A : Option Addr) (len c : Nat) (AL : Option Addr) (ll cl : Nat) (AQ : Option Addr) (lq cq : Nat)
set_option maxRecDepth 100000 in
set_option maxHeartbeats 8000000 in
theorem pback_law (hD : DecodeOk) (cut : Int) (w : World) (s1 : p.sl.length = len) (l1 : p.lk.length = ll) (q1 : p.wn.length = lq) (s2 : SlotsAt w A len p.sl) (l2 : LinksAt w AL ll p.lk) (q2 : WinsAt w AQ lq p.wn) :
    Calls Try.prog 12 #[.agg (planC p.nd p.fa p.sk p.ji p.dr p.rd (.slice A len c) (.slice AL ll cl) p.fr (.slice AQ lq cq)), .int .i64 cut] w fun e w' => e = .returned (.bool true) ∧ Below w.heap.size w w' := by
  have HP := hide (⟨Blk.new w _ _, (Below.refl _ _).alloc (Nat.le_refl _) _⟩ : PcAt w (w.alloc (.cells (planC p.nd p.fa p.sk p.ji p.dr p.rd (.slice A len c) (.slice AL ll cl) p.fr (.slice AQ lq cq)) 86)) (planC p.nd p.fa p.sk p.ji p.dr p.rd (.slice A len c) (.slice AL ll cl) p.fr (.slice AQ lq cq)))
  have HPE : Hid (∀ w0, Below w.heap.size w w0 → Calls Try.prog 47 #[.agg (planC p.nd p.fa p.sk p.ji p.dr p.rd (.slice A len c) (.slice AL ll cl) p.fr (.slice AQ lq cq))] w0 (EoPost w0 p)) := hide fun w0 hB => encode_any p A len c AL ll cl AQ lq cq w0 s1 l1 q1 (s2.below hB) (l2.below hB) (q2.below hB)
  have S1 := hide s1; have L1 := hide l1; have Q1 := hide q1; have S2 := hide s2; have L2 := hide l2; have Q2 := hide q2; have HD := hide hD
  clear s1 l1 q1 s2 l2 q2 hD
  obtain ⟨i0, i1, i2, i3, i4, i5, i6, i7, i8, i9⟩ := HP.out.g.cells10
  cases hsm : decide (100 < wrap64 (wrap64 ((len : Int) + (ll : Int)) + (lq : Int)))
  case true =>
    go_enter Try.func12, Try.ntmps12
    go_wp2_with fail
    go_ret
    exact ⟨rfl, HP.out.old⟩
  case false =>
    by_cases h0 : (chk p).1 = 0
    · obtain ⟨_, ⟨n1, n2, n3⟩, _⟩ := chk_bounds h0
      rw [S1.out] at n1; rw [L1.out] at n2; rw [Q1.out] at n3
      have HPO : Hid (0 < (vnums (plN p)).length) := hide (pn_pos (by rw [plN_len]; omega))
      have HSH : Hid ((vnums (plN p)).length ≤ 2000) := hide (plN_short h0)
      have HPE2 : Hid (∀ w0, Below w.heap.size w w0 → Calls Try.prog 47 #[.agg (planC p.nd p.fa p.sk p.ji p.dr p.rd (.slice A len c) (.slice AL ll cl) p.fr (.slice AQ lq cq))] w0 fun r w' => ∃ v, r = .returned (.tuple #[v, .nilIface]) ∧ QAt w' (w0.heap.size + 1) 5 v (bvN (vnums (plN p))) ∧ (∀ k, v.ownBlock = some k → w0.heap.size < k ∧ k < w'.heap.size) ∧ Below w0.heap.size w0 w') := hide fun w0 hB => (HPE.out w0 hB).mono fun r w' h => by unfold EoPost at h; rw [if_pos h0] at h; exact h
      have H0 := hide h0
      obtain ⟨N, hN⟩ : ∃ N, (vnums (plN p)).length = N := ⟨_, rfl⟩
      rw [hN] at HPO HSH
      have hN1 : N ≤ 2000 := HSH.out
      have HN := hide hN
      obtain ⟨x, hx⟩ : ∃ x, (cut % 18446744073709551616).toNat % N = x := ⟨_, rfl⟩
      have hxN : x < N := by rw [← hx]; exact Nat.mod_lt _ HPO.out
      have HX := hide hx
      clear HPE h0 hN hx
      go_enter Try.func12, Try.ntmps12
      go_wp2_with fail
      refine (planned_any HD.out _).mono ?_
      rintro r w2 ⟨rfl, hB⟩
      have HP2 := hide (HP.out.below hB)
      clear hB HP i0 i1 i2 i3 i4 i5 i6 i7 i8 i9
      obtain ⟨i0, i1, i2, i3, i4, i5, i6, i7, i8, i9⟩ := HP2.out.g.cells10
      go_wp2_with fail
      refine (HPE2.out _ HP2.out.old).mono ?_
      rintro r w3 ⟨v, rfl, hq, -, hB⟩
      obtain ⟨ao, cc, rfl, -⟩ := hq.shape
      rw [bvN_len, HN.out] at hq ⊢
      obtain ⟨hbs, hba⟩ := bs_of_q hq HN.out HPO.out
      obtain ⟨hc1, hc2⟩ := q_cap hq
      have HP3 := hide (HP2.out.below hB)
      have HBS := hide hbs; have HBA := hide hba
      clear hB hq hbs hba HP2 HPE2 i0 i1 i2 i3 i4 i5 i6 i7 i8 i9
      obtain ⟨i0, i1, i2, i3, i4, i5, i6, i7, i8, i9⟩ := HP3.out.g.cells10
      go_wp2_with fail
      refine (HD.out ao N cc (vnums (plN p)) w3 HBS.out HBA.out HN.out hc1 hc2 (vnums_lt _)).mono ?_
      intro r w5 hpost
      obtain ⟨hB, B, d, BL, dl, BQ, dq, rfl, hs, hl, hq⟩ := de_back H0.out hpost
      have HP5 := hide ((HP3.out.below hB).alloc (.cells (planC p.nd p.fa p.sk p.ji p.dr p.rd (.slice B p.sl.length d) (.slice BL p.lk.length dl) p.fr (.slice BQ p.wn.length dq)) 86))
      have HQ5 := hide (Blk.new w5 86 (planC p.nd p.fa p.sk p.ji p.dr p.rd (.slice B p.sl.length d) (.slice BL p.lk.length dl) p.fr (.slice BQ p.wn.length dq)))
      have HB6 := hide ((Below.refl w5.heap.size w5).alloc (Nat.le_refl _) (.cells (planC p.nd p.fa p.sk p.ji p.dr p.rd (.slice B p.sl.length d) (.slice BL p.lk.length dl) p.fr (.slice BQ p.wn.length dq)) 86))
      have HS6 := hide (hs.below HB6.out); have HL6 := hide (hl.below HB6.out); have HW6 := hide (hq.below HB6.out)
      have HBS6 := hide (bs_take ((HBS.out.below hB).below HB6.out) x)
      have HBA6 := hide (show ∀ b off, ao = some ⟨b, off, none⟩ → b < (w5.alloc (.cells (planC p.nd p.fa p.sk p.ji p.dr p.rd (.slice B p.sl.length d) (.slice BL p.lk.length dl) p.fr (.slice BQ p.wn.length dq)) 86)).heap.size from fun b off e => Nat.lt_of_lt_of_le (HBA.out b off e) (Nat.le_trans hB.size HB6.out.size))
      have hxc : x ≤ cc := by omega
      have HXL : Hid (((vnums (plN p)).take x).length = x) := hide (by rw [List.length_take, HN.out]; omega)
      clear hB hs hl hq hpost HP3 i0 i1 i2 i3 i4 i5 i6 i7 i8 i9
      go_wp2_with fail
      refine (pick_same cut N _ HPO.out (by omega) x HX).mono ?_
      rintro r w6 ⟨rfl, rfl⟩
      go_wp2_with fail
      refine (HD.out ao x cc ((vnums (plN p)).take x) _ (by exact HBS6.out) (by exact HBA6.out) HXL.out hxc hc2 (fun y hy => vnums_lt _ y (List.mem_of_mem_take hy))).mono ?_
      intro r w8 hpost
      obtain ⟨hB, rfl⟩ := de_short H0.out (by rw [HN.out]; exact hxN) hpost
      have HP9 := hide ((HP5.out.below hB).alloc (.cells planZ 86))
      have HQ9 := hide ((HQ5.out.below hB HQ5.out.lt).alloc (.cells planZ 86))
      have HB9 := hide ((Below.refl w8.heap.size w8).alloc (Nat.le_refl _) (.cells planZ 86))
      have HS9 := hide ((HS6.out.below hB).below HB9.out); have HL9 := hide ((HL6.out.below hB).below HB9.out); have HW9 := hide ((HW6.out.below hB).below HB9.out)
      clear hB hpost HP5 HQ5 HS6 HL6 HW6 HBS6 HBA6
      obtain ⟨i0, i1, i2, i3, i4, i5, i6, i7, i8, i9⟩ := HP9.out.g.cells10
      obtain ⟨j0, j1, j2, j3, j4, j5, j6, j7, j8, j9⟩ := HQ9.out.cells10
      go_wp2_with fail
      rw [S1.out, L1.out, Q1.out]
      have hS9 := HS9.out; have hL9 := HL9.out; have hW9 := HW9.out
      rw [S1.out] at hS9; rw [L1.out] at hL9; rw [Q1.out] at hW9
      refine (same_any p A len c AL ll cl AQ lq cq B d BL dl BQ dq _ (by omega) (by omega) (by omega) (by exact S2.out.below HP9.out.old) (by exact L2.out.below HP9.out.old) (by exact Q2.out.below HP9.out.old) (by exact hS9) (by exact hL9) (by exact hW9)).mono ?_
      rintro r w10 ⟨rfl, hB⟩
      have HB10 := hide (HP9.out.old.trans (hB.mono HP9.out.old.size))
      clear hB hS9 hL9 hW9
      go_wp2_with fail
      go_ret
      exact ⟨rfl, HB10.out⟩
    · have HPE2 : Hid (∀ w0, Below w.heap.size w w0 → Calls Try.prog 47 #[.agg (planC p.nd p.fa p.sk p.ji p.dr p.rd (.slice A len c) (.slice AL ll cl) p.fr (.slice AQ lq cq))] w0 fun r w' => ∃ v, r = .returned (.tuple #[.slice none 0 0, v]) ∧ AtV w' v (chk p).1 (chk p).2 ∧ Below w0.heap.size w0 w') := hide fun w0 hB => (HPE.out w0 hB).mono fun r w' h => by unfold EoPost at h; rw [if_neg h0] at h; exact h
      clear HPE h0
      go_enter Try.func12, Try.ntmps12
      go_wp2_with fail
      refine (planned_any HD.out _).mono ?_
      rintro r w2 ⟨rfl, hB⟩
      have HP2 := hide (HP.out.below hB)
      clear hB HP i0 i1 i2 i3 i4 i5 i6 i7 i8 i9
      obtain ⟨i0, i1, i2, i3, i4, i5, i6, i7, i8, i9⟩ := HP2.out.g.cells10
      go_wp2_with fail
      refine (HPE2.out _ HP2.out.old).mono ?_
      rintro r w3 ⟨v, rfl, hv, hB⟩
      obtain ⟨ty, uu, rfl⟩ := hv.iface
      have HP3 := hide (HP2.out.below hB)
      clear hB hv i0 i1 i2 i3 i4 i5 i6 i7 i8 i9
      go_wp2_with fail
      go_ret
      exact ⟨rfl, HP3.out.old⟩
end
end Go.Proofs.Ytgdljdhibknjnaa
