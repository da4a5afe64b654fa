/- The walk of metronomelaw.PlanEncodes; conditions: slots, links and windows lie in memory; errors.errorType and metronomeref.Fine hold what start-up lays there. -/
import Derived.Test.YtgdljdhibknjnabDoorReo
import Derived.Test.YtgdljdhibknjnabDoorPcl
import Derived.Laws.BytesArg
namespace Go.Proofs.YtgdljdhibknjnabDoor
open Go.RowKit

theorem PwAt.alloc {w w1 : World} {G : Array Value} (h : PwAt w w1 G) (o : Obj) : PwAt w (w1.alloc o) G := h.below ((Below.refl _ _).alloc (Nat.le_refl _) o)
theorem pe_str {w : World} {g off n c : Nat} {l : List Nat} (hl : l.length = n) (h : ∀ j, j < n → w.cell? ⟨g, off + j, none⟩ = some (.int .u8 (l.getD j 0 : Nat))) :
    (convert 38 9 (.slice (some ⟨g, off, none⟩) n c)).run Tryd.prog w = .ok (.string (strOfNums (l.map fun (n : Nat) => (n : Int)))) w := by
  refine run_convert_bytes_arg (P := Tryd.prog) w 38 5 Tryd.underlying38 Tryd.underlying5 g off n c _ (by rw [List.length_map, hl]) (fun i hi => ?_) 9 Tryd.underlying9
  rw [h i hi]
  congr 2
  simp only [List.getD, List.getElem?_map]
  cases l[i]? <;> rfl
theorem bvN_get {L : List Nat} {j : Nat} (h : j < L.length) : (bvN L)[j]? = some (.int .u8 (L.getD j 0 : Nat)) := by simp [bvN, h]
section
variable (p : Pl) (A : Option Addr) (len c : Nat) (AL : Option Addr) (ll cl : Nat) (AQ : Option Addr) (lq cq : Nat)
set_option maxRecDepth 100000 in
set_option maxHeartbeats 8000000 in
theorem pencodes_law (w : World) (s1 : p.sl.length = len) (l1 : p.lk.length = ll) (q1 : p.wn.length = lq) (s2 : SlotsAt w A len p.sl) (l2 : LinksAt w AL ll p.lk) (q2 : WinsAt w AQ lq p.wn) (hE : ErrT w) (hF : FinT w) :
    Calls Tryd.prog 13 #[.agg (planC p.nd p.fa p.sk p.ji p.dr p.rd (.slice A len c) (.slice AL ll cl) p.fr (.slice AQ lq cq))] w fun e w' => e = .returned (.bool true) ∧ Below w.heap.size w w' := by
  have HP := hide (PwAt.new hE (planC p.nd p.fa p.sk p.ji p.dr p.rd (.slice A len c) (.slice AL ll cl) p.fr (.slice AQ lq cq)))
  have HRE : Hid (∀ w0, Below w.heap.size w w0 → Calls Tryd.prog 68 #[.agg (planC p.nd p.fa p.sk p.ji p.dr p.rd (.slice A len c) (.slice AL ll cl) p.fr (.slice AQ lq cq))] w0 (ReoPost w0 p)) := hide fun w0 hB => reo_any p A len c AL ll cl AQ lq cq w0 s1 l1 q1 (s2.below hB) (l2.below hB) (q2.below hB) (hF.below hB)
  have HPE : Hid (∀ w0, Below w.heap.size w w0 → Calls Tryd.prog 69 #[.agg (planC p.nd p.fa p.sk p.ji p.dr p.rd (.slice A len c) (.slice AL ll cl) p.fr (.slice AQ lq cq))] w0 (EoPost w0 p)) := hide fun w0 hB => encode_any p A len c AL ll cl AQ lq cq w0 s1 l1 q1 (s2.below hB) (l2.below hB) (q2.below hB)
  clear s1 l1 q1 s2 l2 q2 hE hF
  obtain ⟨i0, i1, i2, i3, i4, i5, i6, i7, i8, i9⟩ := HP.out.g.cells10
  cases hsm : decide (wrap64 (wrap64 ((len : Int) + (ll : Int)) + (lq : Int)) ≤ 120)
  case false =>
    have HSM := hide (small_any p.nd p.fa p.sk p.ji p.dr p.rd A len c AL ll cl p.fr AQ lq cq false hsm); clear hsm
    go_enter Tryd.func13, Tryd.ntmps13
    go_wp2_with fail
    refine (HSM.out _).mono ?_
    rintro r w2 ⟨rfl, hB⟩
    have HP2 := hide (HP.out.below hB)
    clear hB
    go_wp2_with fail
    go_ret
    exact ⟨rfl, HP2.out.old⟩
  case true =>
    have HSM := hide (small_any p.nd p.fa p.sk p.ji p.dr p.rd A len c AL ll cl p.fr AQ lq cq true hsm); clear hsm
    by_cases h0 : (chk p).1 = 0
    · have HPO : Hid (0 < (vnums (plN p)).length) := hide (vnums_pos (by rw [plN_len]; omega))
      have HRE2 : Hid (∀ w0, Below w.heap.size w w0 → Calls Tryd.prog 68 #[.agg (planC p.nd p.fa p.sk p.ji p.dr p.rd (.slice A len c) (.slice AL ll cl) p.fr (.slice AQ lq cq))] w0 fun r w' => ∃ v, r = .returned (.tuple #[v, .agg #[.int .i64 0, .int .i64 (-1)]]) ∧ w'.ownsRow w0.heap.size 5 1 v (vnums (plN p)).length (bvN (vnums (plN p))) ∧ Below w0.heap.size w0 w') := hide fun w0 hB => (HRE.out w0 hB).mono fun r w' h => by unfold ReoPost at h; rw [if_pos h0] at h; exact h
      have HPE2 : Hid (∀ w0, Below w.heap.size w w0 → Calls Tryd.prog 69 #[.agg (planC p.nd p.fa p.sk p.ji p.dr p.rd (.slice A len c) (.slice AL ll cl) p.fr (.slice AQ lq cq))] w0 fun r w' => ∃ v, r = .returned (.tuple #[v, .nilIface]) ∧ QAt w' (w0.heap.size + 1) 5 v (bvN (vnums (plN p))) ∧ (∀ k, v.ownBlock = some k → w0.heap.size < k ∧ k < w'.heap.size) ∧ Below w0.heap.size w0 w') := hide fun w0 hB => (HPE.out w0 hB).mono fun r w' h => by unfold EoPost at h; rw [if_pos h0] at h; exact h
      generalize vnums (plN p) = l at HPO HRE2 HPE2
      obtain ⟨N, hN⟩ : ∃ N, l.length = N := ⟨_, rfl⟩
      rw [hN] at HPO HRE2
      have HN := hide hN
      clear HRE HPE h0 hN
      go_enter Tryd.func13, Tryd.ntmps13
      go_wp2_with fail
      refine (HSM.out _).mono ?_
      rintro r w2 ⟨rfl, hB⟩
      have HP2 := hide (HP.out.below hB)
      clear hB HP i0 i1 i2 i3 i4 i5 i6 i7 i8 i9
      obtain ⟨i0, i1, i2, i3, i4, i5, i6, i7, i8, i9⟩ := HP2.out.g.cells10
      go_wp2_with fail
      refine (HRE2.out _ HP2.out.old).mono ?_
      rintro r w3 ⟨v, rfl, hown, hB⟩
      obtain ⟨g, cc, rfl, -, hg, hc⟩ := rn_at hown HPO.out
      have HC := hide hc; have HG := hide hg
      have HP3 := hide ((HP2.out.below hB).alloc (.cells #[.int .i64 0, .int .i64 (-1)] 129))
      have HN3 := hide (Blk.new w3 129 #[.int .i64 0, .int .i64 (-1)])
      have HB3 := hide ((Below.refl w3.heap.size w3).alloc (Nat.le_refl _) (.cells #[.int .i64 0, .int .i64 (-1)] 129))
      clear hB hown hc hg HP2 HRE2 i0 i1 i2 i3 i4 i5 i6 i7 i8 i9
      obtain ⟨i0, i1, i2, i3, i4, i5, i6, i7, i8, i9⟩ := HP3.out.g.cells10
      go_wp2_with fail
      refine (HPE2.out _ HP3.out.old).mono ?_
      rintro r w5 ⟨v2, rfl, hq, -, hB⟩
      obtain ⟨ao, c2, rfl, -⟩ := hq.shape
      rw [bvN_len, HN.out] at hq ⊢
      obtain ⟨g2, off2, rfl, -, hg2, hc2⟩ := hq.block HPO.out
      have HP5 := hide (HP3.out.below hB)
      have HN5 := hide (HN3.out.below hB HN3.out.lt)
      have HB5 := hide (HB3.out.trans (hB.mono (by simp)))
      have HC2 := hide hc2; have HG2 := hide hg2
      obtain ⟨k0, k1, _, _⟩ := HN5.out.cells2
      clear hB hq hc2 hg2 HP3 HN3 i0 i1 i2 i3 i4 i5 i6 i7 i8 i9
      go_wp2_with fail
      refine (is_fine _ HP5.out.e).mono ?_
      rintro r w6 ⟨rfl, hB⟩
      have HB6 := hide (HP5.out.old.trans (hB.mono HP5.out.old.size))
      have hs1 := pe_str (w := w6) (g := g) (off := 0) (c := cc) HN.out (fun j hj => by rw [Nat.zero_add, hB.cell (p := ⟨g, j, none⟩) (Nat.lt_of_lt_of_le HG.out HB5.out.size), HB5.out.cell (p := ⟨g, j, none⟩) HG.out, HC.out j hj, bvN_get (by rw [HN.out]; exact hj)])
      have hs2 := pe_str (w := w6) (g := g2) (off := off2) (c := c2) HN.out (fun j hj => by rw [hB.cell (p := ⟨g2, off2 + j, none⟩) HG2.out, HC2.out j hj, bvN_get (by rw [HN.out]; exact hj)])
      generalize strOfNums (l.map fun (n : Nat) => (n : Int)) = sx at hs1 hs2
      clear hB k0 k1
      go_wp2_with fail
      go_ret
      exact ⟨rfl, HB6.out⟩
    · have HRE2 : Hid (∀ w0, Below w.heap.size w w0 → Calls Tryd.prog 68 #[.agg (planC p.nd p.fa p.sk p.ji p.dr p.rd (.slice A len c) (.slice AL ll cl) p.fr (.slice AQ lq cq))] w0 fun r w' => r = .returned (.tuple #[.slice none 0 0, .agg #[.int .i64 (chk p).1, .int .i64 (chk p).2]]) ∧ Below w0.heap.size w0 w') := hide fun w0 hB => (HRE.out w0 hB).mono fun r w' h => by unfold ReoPost at h; rw [if_neg h0] at h; exact h
      have HPE2 : Hid (∀ w0, Below w.heap.size w w0 → Calls Tryd.prog 69 #[.agg (planC p.nd p.fa p.sk p.ji p.dr p.rd (.slice A len c) (.slice AL ll cl) p.fr (.slice AQ lq cq))] w0 fun r w' => ∃ v, r = .returned (.tuple #[.slice none 0 0, v]) ∧ AtV w' v (chk p).1 (chk p).2 ∧ Below w0.heap.size w0 w') := hide fun w0 hB => (HPE.out w0 hB).mono fun r w' h => by unfold EoPost at h; rw [if_neg h0] at h; exact h
      clear HRE HPE
      generalize (chk p).1 = ce at h0 HRE2 HPE2
      generalize (chk p).2 = cp at HRE2 HPE2
      have H0 := hide h0; clear h0
      go_enter Tryd.func13, Tryd.ntmps13
      go_wp2_with fail
      refine (HSM.out _).mono ?_
      rintro r w2 ⟨rfl, hB⟩
      have HP2 := hide (HP.out.below hB)
      clear hB HP i0 i1 i2 i3 i4 i5 i6 i7 i8 i9
      obtain ⟨i0, i1, i2, i3, i4, i5, i6, i7, i8, i9⟩ := HP2.out.g.cells10
      go_wp2_with fail
      refine (HRE2.out _ HP2.out.old).mono ?_
      rintro r w3 ⟨rfl, hB⟩
      have HP3 := hide ((HP2.out.below hB).alloc (.cells #[.int .i64 ce, .int .i64 cp] 129))
      have HN3 := hide (Blk.new w3 129 #[.int .i64 ce, .int .i64 cp])
      clear hB HP2 HRE2 i0 i1 i2 i3 i4 i5 i6 i7 i8 i9
      obtain ⟨i0, i1, i2, i3, i4, i5, i6, i7, i8, i9⟩ := HP3.out.g.cells10
      go_wp2_with fail
      refine (HPE2.out _ HP3.out.old).mono ?_
      rintro r w5 ⟨v2, rfl, hv, hB⟩
      have HV := hide hv
      obtain ⟨ty, uu, rfl⟩ := hv.iface
      have HP5 := hide (HP3.out.below hB)
      have HN5 := hide (HN3.out.below hB HN3.out.lt)
      obtain ⟨k0, k1, _, _⟩ := HN5.out.cells2
      clear hB hv HP3 HN3 i0 i1 i2 i3 i4 i5 i6 i7 i8 i9
      go_wp2_with fail
      refine (is_atV _ ce cp _ HP5.out.e HV.out H0.out).mono ?_
      rintro r w6 ⟨rfl, hB⟩
      have HB6 := hide (HP5.out.old.trans (hB.mono HP5.out.old.size))
      have hs := run_convert_bytes_nil (P := Tryd.prog) w6 38 5 Tryd.underlying38 Tryd.underlying5 0 0 9 Tryd.underlying9
      clear hB k0 k1
      go_wp2_with fail
      go_ret
      exact ⟨rfl, HB6.out⟩
end
end Go.Proofs.YtgdljdhibknjnabDoor
