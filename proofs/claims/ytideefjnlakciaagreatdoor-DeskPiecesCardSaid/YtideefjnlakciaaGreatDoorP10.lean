/- The contract of plan.Check where the whole is not wrong; conditions: slots, links and windows lie in memory. -/
import Derived.Test.YtideefjnlakciaaGreatDoorP02
set_option linter.unusedVariables false
set_option linter.unusedSimpArgs false
namespace Go.Proofs.YtideefjnlakciaaGreatDoor
section
open Go.RowKit
theorem blk_cells3 {w : World} {g : Nat} {t : TypeId} {a0 a1 a2 : Value} (h : Blk w g t #[a0, a1, a2]) : w.cell? ⟨g, 0, none⟩ = some a0 ∧ w.cell? ⟨g, 1, none⟩ = some a1 ∧ w.cell? ⟨g, 2, none⟩ = some a2 :=
 ⟨by simpa using h.cell 0, by simpa using h.cell 1, by simpa using h.cell 2⟩
theorem head_zero {p : Pl} (h : headE p = 0) : 1 ≤ p.nd ∧ p.nd ≤ 16 ∧ 0 ≤ p.fa ∧ p.fa ≤ 16 ∧ 3 * p.fa + 1 ≤ p.nd ∧ 0 ≤ p.sk ∧ p.sk ≤ 137438953472 ∧ 0 ≤ p.ji ∧ p.ji ≤ 137438953472 ∧ 0 ≤ p.dr ∧ p.dr ≤ 137438953472 ∧ 1 ≤ p.rd ∧ p.rd ≤ 137438953472 ∧ 1 ≤ p.fr ∧ p.fr ≤ 137438953472 ∧ p.sl.length ≤ 32 ∧ p.lk.length ≤ 8 ∧ p.wn.length ≤ 32 ∧ p.sk / 2 + 2 * p.ji + 1 + 2 * p.dr ≤ p.sk := by
 unfold headE at h
 split at h
 ·cases h
 ·split at h
  ·cases h
  ·split at h
   ·cases h
   ·split at h
    ·cases h
    ·omega
theorem slE_span {sk rd nd lo e : Int} {s : Sl} (h : spE s.f s.t lo (rd - sk - 1) = e) (h0 : e ≠ 0) : slE sk rd nd lo s = e := by unfold slE; rw [h, if_pos h0]
theorem slE_node {sk rd nd lo : Int} {s : Sl} (h : spE s.f s.t lo (rd - sk - 1) = 0) (h1 : outB 0 (nd - 1) s.n = true) : slE sk rd nd lo s = 7 := by
 unfold slE; rw [h, if_neg (by decide), if_pos (by have := out_true h1; omega)]
theorem slE_fine {sk rd nd lo : Int} {s : Sl} (h : spE s.f s.t lo (rd - sk - 1) = 0) (h1 : outB 0 (nd - 1) s.n = false) : slE sk rd nd lo s = 0 := by
 unfold slE; rw [h, if_neg (by decide), if_neg (by have := out_false h1; omega)]
theorem spE_zero {f t lo hi : Int} (h : spE f t lo hi = 0) : f < t ∧ lo ≤ f ∧ t ≤ hi := by
 unfold spE at h
 by_cases h1 : t ≤ f
 ·rw [if_pos h1] at h; cases h
 ·rw [if_neg h1] at h
  by_cases h2 : f < lo
  ·rw [if_pos h2] at h; cases h
  ·rw [if_neg h2] at h
   by_cases h3 : hi < t
   ·rw [if_pos h3] at h; cases h
   ·omega
theorem wnE_span {fr lo e : Int} {s : Wn} (h : spE s.f s.t lo fr = e) (h0 : e ≠ 0) : wnE fr lo s = e := by unfold wnE; rw [h, if_pos h0]
theorem wnE_part {fr lo : Int} {s : Wn} (h : spE s.f s.t lo fr = 0) (h1 : outB 0 5 s.p = true) : wnE fr lo s = 7 := by
 unfold wnE; rw [h, if_neg (by decide), if_pos (by have := out_true h1; omega)]
theorem wnE_fine {fr lo : Int} {s : Wn} (h : spE s.f s.t lo fr = 0) (h1 : outB 0 5 s.p = false) : wnE fr lo s = 0 := by
 unfold wnE; rw [h, if_neg (by decide), if_neg (by have := out_false h1; omega)]
theorem lkE_from {nd : Int} {s : Lk} (h : outB 0 (nd - 1) s.f = true) : lkE nd s = 7 := by unfold lkE; rw [if_pos (by have := out_true h; omega)]
theorem lkE_to {nd : Int} {s : Lk} (h : outB 0 (nd - 1) s.f = false) (h1 : toBad nd s = true) : lkE nd s = 1 := by unfold lkE; rw [if_neg (by have := out_false h; omega), if_pos h1]
theorem lkE_rate {nd : Int} {s : Lk} (h : outB 0 (nd - 1) s.f = false) (h1 : toBad nd s = false) (h2 : outB 1 137438953472 s.b = true ∨ outB 1 16 s.q = true) : lkE nd s = 2 := by
 unfold lkE; rw [if_neg (by have := out_false h; omega), if_neg (by rw [h1]; decide), if_pos (by rcases h2 with h2 | h2 <;> (have := out_true h2; omega))]
theorem lkE_fine {nd : Int} {s : Lk} (h : outB 0 (nd - 1) s.f = false) (h1 : toBad nd s = false) (h2 : outB 1 137438953472 s.b = false) (h3 : outB 1 16 s.q = false) : lkE nd s = 0 := by
 unfold lkE; rw [if_neg (by have := out_false h; omega), if_neg (by rw [h1]; decide), if_neg (by have := out_false h2; have := out_false h3; omega)]
theorem lt_of_shr {T N : Nat} (h : (T : Int) / 2 ^ N = 0) : T < 2 ^ N := by
 have h1 : (T : Int) / ((2 ^ N : Nat) : Int) = 0 := by push_cast; exact h
 have h2 : ((T / 2 ^ N : Nat) : Int) = 0 := by push_cast; exact h
 have h3 : T / 2 ^ N = 0 := by exact_mod_cast h2
 rcases Nat.lt_or_ge T (2 ^ N) with hlt | hge
 ·exact hlt
 ·have := Nat.div_pos hge (Nat.pow_pos (by decide : 0 < 2)); omega
theorem ge_of_shr {T N : Nat} (h : ¬ (T : Int) / 2 ^ N = 0) : 2 ^ N ≤ T := by
 rcases Nat.lt_or_ge T (2 ^ N) with hlt | hge
 ·exfalso; apply h
  have h2 : ((T / 2 ^ N : Nat) : Int) = 0 := by rw [Nat.div_eq_of_lt hlt]; rfl
  push_cast at h2; exact h2
 ·exact hge
theorem to_bad0 (nd : Int) (s : Lk) (h : s.t ≤ 0) : toBad nd s = true := by unfold toBad; simp [h]
theorem to_bad1 (nd : Int) (s : Lk) (h : 2 ^ nd.toNat ≤ s.t) : toBad nd s = true := by unfold toBad; simp [h]
theorem to_bit (nd : Int) (s : Lk) (h : 0 < s.t) (h1 : s.t < 2 ^ nd.toNat) : toBad nd s = s.t.toNat.testBit s.f.toNat := by
 unfold toBad
 have a : decide (s.t ≤ 0) = false := decide_eq_false (by omega)
 have b : decide (2 ^ nd.toNat ≤ s.t) = false := decide_eq_false (by omega)
 rw [a, b]; simp
section
variable (p : Pl) (A : Option Addr) (len c : Nat) (AL : Option Addr) (ll cl : Nat) (AQ : Option Addr) (lq cq : Nat)
set_option maxRecDepth 100000 in
set_option maxHeartbeats 8000000 in
theorem check_body (w : World) (h0 : headE p = 0) (s1 : p.sl.length = len) (l1 : p.lk.length = ll) (q1 : p.wn.length = lq) (s2 : SlotsAt w A len p.sl) (l2 : LinksAt w AL ll p.lk) (q2 : WinsAt w AQ lq p.wn) :
 Calls Tryz.prog 129 #[.agg (planC p.nd p.fa p.sk p.ji p.dr p.rd (.slice A len c) (.slice AL ll cl) p.fr (.slice AQ lq cq))] w (PcPost w (chk p)) := by
 obtain ⟨b1, b2, b3, b4, b5, b6, b7, b8, b9, b10, b11, b12, b13, b14, b15, b16, b17, b18, b19⟩ := head_zero h0
 rw [s1] at b16; rw [l1] at b17; rw [q1] at b18
 obtain ⟨N, hN⟩ : ∃ N : Nat, p.nd = N := ⟨p.nd.toNat, by omega⟩
 have O1 := hide (show outB 1 16 (N : Int) = false by unfold outB; simp; omega)
 have O2 := hide (show outB 0 16 p.fa = false by unfold outB; simp; omega)
 have O3 := hide (show (outB 0 137438953472 p.sk || outB 0 137438953472 p.ji || outB 0 137438953472 p.dr) = false by unfold outB; simp; omega)
 have O4 := hide (show (outB 1 137438953472 p.rd || outB 1 137438953472 p.fr) = false by unfold outB; simp; omega)
 have d3 : decide ((N : Int) < 3 * p.fa + 1) = false := decide_eq_false (by omega)
 have d6 : decide ((32 : Int) < (len : Int)) = false := decide_eq_false (by omega)
 have d7 : decide ((8 : Int) < (ll : Int)) = false := decide_eq_false (by omega)
 have d8 : decide ((32 : Int) < (lq : Int)) = false := decide_eq_false (by omega)
 have hq : p.sk.tdiv 2 = p.sk / 2 := Int.tdiv_eq_ediv_of_nonneg (by omega)
 have d9 : decide (p.sk < p.sk / 2 + 2 * p.ji + 1 + 2 * p.dr) = false := decide_eq_false (by omega)
 have HPL := hide (rfl : planC p.nd p.fa p.sk p.ji p.dr p.rd (.slice A len c) (.slice AL ll cl) p.fr (.slice AQ lq cq) = planC p.nd p.fa p.sk p.ji p.dr p.rd (.slice A len c) (.slice AL ll cl) p.fr (.slice AQ lq cq))
 have n1 : 1 ≤ N := by omega
 have n2 : N ≤ 16 := by omega
 rw [hN]
 have HN := hide hN; have H0 := hide h0; have S1 := hide s1; have L1 := hide l1; have Q1 := hide q1; have S2 := hide s2; have L2 := hide l2; have Q2 := hide q2
 clear HPL hN h0 s1 l1 q1 s2 l2 q2 b1 b2 b5 b19
 have hP0 : PcAt w (w.alloc (.cells (planC (N : Int) p.fa p.sk p.ji p.dr p.rd (.slice A len c) (.slice AL ll cl) p.fr (.slice AQ lq cq)) 29)) (planC (N : Int) p.fa p.sk p.ji p.dr p.rd (.slice A len c) (.slice AL ll cl) p.fr (.slice AQ lq cq)) := ⟨Blk.new w _ _, (Below.refl _ _).alloc (Nat.le_refl _) _⟩
 have HP := hide hP0
 obtain ⟨i0, i1, i2, i3, i4, i5, i6, i7, i8, i9⟩ := hP0.g.cells10
 clear hP0
 obtain ⟨C, hC⟩ : ∃ C, chk p = C := ⟨_, rfl⟩
 rw [hC]
 have HC := hide hC; clear hC
 go_enter Tryz.func129, Tryz.ntmps129
 go_wp2_with fail
 refine (win1_any 1 16 (N : Int) (w.heap.size + 1) _ (by simp) false O1).mono ?_
 rintro e w2 ⟨rfl, hB⟩
 have HP2 := hide (HP.out.below hB)
 clear hB HP i0 i1 i2 i3 i4 i5 i6 i7 i8 i9
 obtain ⟨i0, i1, i2, i3, i4, i5, i6, i7, i8, i9⟩ := HP2.out.g.cells10
 go_wp2_with fail
 refine (win1_any 0 16 p.fa (w2.heap.size) _ rfl false O2).mono ?_
 rintro e w3 ⟨rfl, hB⟩
 have HP3 := hide (HP2.out.below hB)
 clear hB HP2 i0 i1 i2 i3 i4 i5 i6 i7 i8 i9
 obtain ⟨i0, i1, i2, i3, i4, i5, i6, i7, i8, i9⟩ := HP3.out.g.cells10
 go_wp2_with fail
 refine (win3_any 0 137438953472 p.sk p.ji p.dr (w3.heap.size) _ rfl false O3).mono ?_
 rintro e w4 ⟨rfl, hB⟩
 have HP4 := hide (HP3.out.below hB)
 clear hB HP3 i0 i1 i2 i3 i4 i5 i6 i7 i8 i9
 obtain ⟨i0, i1, i2, i3, i4, i5, i6, i7, i8, i9⟩ := HP4.out.g.cells10
 go_wp2_with fail
 refine (win2_any 1 137438953472 p.rd p.fr (w4.heap.size) _ rfl false O4).mono ?_
 rintro e w5 ⟨rfl, hB⟩
 have HP5 := hide (HP4.out.below hB)
 clear hB HP4 i0 i1 i2 i3 i4 i5 i6 i7 i8 i9
 obtain ⟨i0, i1, i2, i3, i4, i5, i6, i7, i8, i9⟩ := HP5.out.g.cells10
 clear O1 O2 O3 O4 b3 b4
 go_wp2_with fail
 clear d3 d6 d7 d8 d9 hq
 go_loopw [3, 97] (fun v i wr => ∃ (k : Nat) (E : Int), k ≤ len ∧ i = .int .i64 k ∧ v = .int .i64 E ∧ -137438953473 ≤ E ∧ E ≤ 137438953472 ∧ Hid (E + p.sk + 1 = slLo p.sk 0 p.sl k ∧ slF p k) ∧ PcAt w wr (planC (N : Int) p.fa p.sk p.ji p.dr p.rd (.slice A len c) (.slice AL ll cl) p.fr (.slice AQ lq cq))) (fun _ i _ => len - (intOf i).toNat)
 case atStart => exact ⟨0, -p.sk - 1, by omega, rfl, by go_num, by omega, by omega, hide ⟨by rw [slLo_zero]; omega, fun j hj => by omega⟩, HP5.out⟩
 case round =>
  clear i0 i1 i2 i3 i4 i5 i6 i7 i8 i9 HP5
  obtain ⟨k, E, hk, rfl, rfl, e1, e2, hE, hP⟩ := hrel
  have HP := hide hP; clear hP
  obtain ⟨i0, i1, i2, i3, i4, i5, i6, i7, i8, i9⟩ := HP.out.g.cells10
  by_cases hlt : k < len
  ·obtain ⟨b, off, rfl, x, hx, c0, c1, c2⟩ := (S2.out.below HP.out.old) k hlt
   have HX := hide hx; clear hx
   obtain ⟨se, hse⟩ : ∃ se, spE x.f x.t (E + p.sk + 1) (p.rd - p.sk - 1) = se := ⟨_, rfl⟩
   have HSE := hide hse; clear hse
   have HP2 := hide (HP.out.alloc (.cells #[.int .i64 x.n, .int .i64 x.f, .int .i64 x.t] 86))
   have HB2 := hide (Blk.new wr 86 #[.int .i64 x.n, .int .i64 x.f, .int .i64 x.t])
   obtain ⟨j0, j1, j2, j3, j4, j5, j6, j7, j8, j9⟩ := HP2.out.g.cells10
   go_wp2_with fail
   refine (span_any x.f x.t (E + p.sk + 1) (p.rd - p.sk - 1) _ se HSE).mono ?_
   rintro e w6 ⟨rfl, hB⟩
   have HP6 := hide (HP2.out.below hB)
   have HB6 := hide (HB2.out.below hB HB2.out.lt)
   clear hB HP HP2 HB2 c0 c1 c2 i0 i1 i2 i3 i4 i5 i6 i7 i8 i9 j0 j1 j2 j3 j4 j5 j6 j7 j8 j9
   obtain ⟨i0, i1, i2, i3, i4, i5, i6, i7, i8, i9⟩ := HP6.out.g.cells10
   obtain ⟨c0, c1, c2⟩ := blk_cells3 HB6.out
   by_cases hs0 : se = 0
   ·subst hs0
    have HS0 := hide (spE_zero HSE.out)
    cases ho : outB 0 ((N : Int) - 1) x.n
    case true =>
     have HO := hide ho; clear ho
     go_wp2_with fail
     refine (win1_any 0 ((N : Int) - 1) x.n (w6.heap.size) _ rfl true HO).mono ?_
     rintro e w7 ⟨rfl, hB⟩
     have HP7 := hide (HP6.out.below hB)
     clear hB
     go_wp2_with fail
     go_ret
     exact PcPost.at_ (by rw [← HC.out]; exact chk_slot (H0.out) hE.out.2 HX.out (slE_node (by rw [← hE.out.1]; exact HSE.out) (by rw [HN.out]; exact HO.out)) (by decide)) (by decide) (HP7.out.alloc _).old (Blk.new _ _ _)
    case false =>
     have HO := hide ho; clear ho
     have HT : Hid (-137438953473 ≤ x.t ∧ x.t ≤ 137438953472) := hide (by have := HS0.out; omega)
     go_wp2_with fail
     refine (win1_any 0 ((N : Int) - 1) x.n (w6.heap.size) _ rfl false HO).mono ?_
     rintro e w7 ⟨rfl, hB⟩
     have HP7 := hide (HP6.out.below hB)
     have HB7 := hide (HB6.out.below hB HB6.out.lt)
     clear hB c0 c1 c2
     obtain ⟨c0, c1, c2⟩ := blk_cells3 HB7.out
     go_wp2_with fail
     go_roundw
     case rel => exact ⟨k + 1, x.t, by omega, by go_num, rfl, HT.out.1, HT.out.2, hide ⟨(slLo_succ _ _ _ _ _ HX.out).symm, slF_succ hE.out.2 HX.out (slE_fine (by rw [← hE.out.1]; exact HSE.out) (by rw [HN.out]; exact HO.out))⟩, HP7.out⟩
     case measure => simp [intOf]; omega
   ·have q2 : (se != 0) = true := by simp [hs0]
    have HS0 := hide hs0; clear hs0
    go_wp2_with fail
    go_ret
    exact PcPost.at_ (by rw [← HC.out]; exact chk_slot (H0.out) hE.out.2 HX.out (slE_span (by rw [← hE.out.1]; exact HSE.out) HS0.out) HS0.out) HS0.out (HP6.out.alloc _).old (Blk.new _ _ _)
  ·obtain rfl : len = k := by omega
   have HSL : Hid (slF p p.sl.length) := hide (by rw [S1.out]; exact hE.out.2)
   clear hE e1 e2 hlt hk
   go_wp2_with fail
   obtain ⟨wo, rfl⟩ : ∃ wo : World, wo = wr := ⟨_, rfl⟩
   go_loopw [142] (fun i wr => ∃ (k : Nat), k ≤ ll ∧ i = .int .i64 k ∧ Hid (lkF p k) ∧ PcAt w wr (planC (N : Int) p.fa p.sk p.ji p.dr p.rd (.slice A len c) (.slice AL ll cl) p.fr (.slice AQ lq cq))) (fun i _ => ll - (intOf i).toNat)
   case atStart => exact ⟨0, by omega, rfl, hide (fun j hj => by omega), HP.out⟩
   case round =>
    clear i0 i1 i2 i3 i4 i5 i6 i7 i8 i9 HP
    obtain ⟨k, hk, rfl, HLF, hP⟩ := hrel
    have HP := hide hP; clear hP
    obtain ⟨i0, i1, i2, i3, i4, i5, i6, i7, i8, i9⟩ := HP.out.g.cells10
    by_cases hlt : k < ll
    ·obtain ⟨b, off, rfl, x, hx, c0, c1, c2, c3⟩ := (L2.out.below HP.out.old) k hlt
     obtain ⟨xf, xt, xb, xq⟩ := x
     dsimp only at c0 c1 c2 c3
     have HX := hide hx; clear hx
     have HP2 := hide (HP.out.alloc (.cells #[.int .i64 xf, .int .i64 xt, .int .i64 xb, .int .i64 xq] 88))
     have HB2 := hide (Blk.new wr 88 #[.int .i64 xf, .int .i64 xt, .int .i64 xb, .int .i64 xq])
     obtain ⟨j0, j1, j2, j3, j4, j5, j6, j7, j8, j9⟩ := HP2.out.g.cells10
     cases ho : outB 0 ((N : Int) - 1) xf
     case true =>
      have HO := hide ho; clear ho
      go_wp2_with fail
      refine (win1_any 0 ((N : Int) - 1) xf (wr.heap.size + 1) _ (by simp) true HO).mono ?_
      rintro e w7 ⟨rfl, hB⟩
      have HP7 := hide (HP2.out.below hB)
      clear hB
      go_wp2_with fail
      go_ret
      exact PcPost.at_ (by rw [← HC.out]; exact chk_link H0.out HSL.out HLF.out HX.out (lkE_from (by rw [HN.out]; exact HO.out)) (by decide)) (by decide) (HP7.out.alloc _).old (Blk.new _ _ _)
     case false =>
      have HO := hide ho; clear ho
      obtain ⟨F, rfl⟩ : ∃ F : Nat, xf = F := ⟨xf.toNat, by have := out_false HO.out; omega⟩
      have hF : F < N := by have := out_false HO.out; omega
      go_wp2_with fail
      refine (win1_any 0 ((N : Int) - 1) (F : Int) (wr.heap.size + 1) _ (by simp) false HO).mono ?_
      rintro e w7 ⟨rfl, hB⟩
      have HP7 := hide (HP2.out.below hB)
      have HB7 := hide (HB2.out.below hB HB2.out.lt)
      clear hB HP HP2 HB2 c0 c1 c2 c3 i0 i1 i2 i3 i4 i5 i6 i7 i8 i9 j0 j1 j2 j3 j4 j5 j6 j7 j8 j9
      obtain ⟨i0, i1, i2, i3, i4, i5, i6, i7, i8, i9⟩ := HP7.out.g.cells10
      obtain ⟨c0, c1, c2, c3⟩ := HB7.out.cells4
      by_cases h0 : xt ≤ 0
      ·have d1 : decide (xt ≤ 0) = true := decide_eq_true h0
       have HT := hide (to_bad0 p.nd ⟨F, xt, xb, xq⟩ h0)
       clear h0
       go_wp2_with fail
       go_ret
       exact PcPost.at_ (by rw [← HC.out]; exact chk_link H0.out HSL.out HLF.out HX.out (lkE_to (by rw [HN.out]; exact HO.out) HT.out) (by decide)) (by decide) (HP7.out.alloc _).old (Blk.new _ _ _)
      ·have d1 : decide (xt ≤ 0) = false := decide_eq_false h0
       obtain ⟨T, rfl⟩ : ∃ T : Nat, xt = T := ⟨xt.toNat, by omega⟩
       have hT : 1 ≤ T := by omega
       clear h0
       by_cases h2 : (T : Int) / 2 ^ N = 0
       ·have hlt2 : T < 2 ^ N := lt_of_shr h2
        have h16 : T < 65536 := Nat.lt_of_lt_of_le hlt2 (Nat.le_trans (Nat.pow_le_pow_right (by decide) n2) (by decide))
        have HT := hide (to_bit p.nd ⟨F, T, xb, xq⟩ (by dsimp only; omega) (by dsimp only; rw [HN.out]; exact_mod_cast hlt2))
        cases hb : T.testBit F
        case true =>
         have e1 : (bits .and .i64 ((T : Int) / 2 ^ F) 1 == 1) = true := by rw [bit_one T F h16, hb]; rfl
         have HT2 : Hid (toBad p.nd ⟨F, T, xb, xq⟩ = true) := hide (by rw [HT.out]; exact hb)
         clear hb hlt2 HT
         go_wp2_with fail
         go_ret
         exact PcPost.at_ (by rw [← HC.out]; exact chk_link H0.out HSL.out HLF.out HX.out (lkE_to (by rw [HN.out]; exact HO.out) HT2.out) (by decide)) (by decide) (HP7.out.alloc _).old (Blk.new _ _ _)
        case false =>
         have e1 : (bits .and .i64 ((T : Int) / 2 ^ F) 1 == 1) = false := by rw [bit_one T F h16, hb]; rfl
         have HT2 : Hid (toBad p.nd ⟨F, T, xb, xq⟩ = false) := hide (by rw [HT.out]; exact hb)
         clear hb hlt2 HT
         cases o2 : outB 1 137438953472 xb
         case true =>
          have O2 := hide o2; clear o2
          go_wp2_with fail
          refine (win1_any 1 137438953472 xb (w7.heap.size) _ rfl true O2).mono ?_
          rintro e w8 ⟨rfl, hB⟩
          have HP8 := hide (HP7.out.below hB)
          clear hB
          go_wp2_with fail
          go_ret
          exact PcPost.at_ (by rw [← HC.out]; exact chk_link H0.out HSL.out HLF.out HX.out (lkE_rate (by rw [HN.out]; exact HO.out) HT2.out (.inl O2.out)) (by decide)) (by decide) (HP8.out.alloc _).old (Blk.new _ _ _)
         case false =>
          have O2 := hide o2; clear o2
          go_wp2_with fail
          refine (win1_any 1 137438953472 xb (w7.heap.size) _ rfl false O2).mono ?_
          rintro e w8 ⟨rfl, hB⟩
          have HP8 := hide (HP7.out.below hB)
          have HB8 := hide (HB7.out.below hB HB7.out.lt)
          clear hB HP7 HB7 c0 c1 c2 c3 i0 i1 i2 i3 i4 i5 i6 i7 i8 i9
          obtain ⟨c0, c1, c2, c3⟩ := HB8.out.cells4
          cases o3 : outB 1 16 xq
          case true =>
           have O3 := hide o3; clear o3
           go_wp2_with fail
           refine (win1_any 1 16 xq (w8.heap.size) _ rfl true O3).mono ?_
           rintro e w9 ⟨rfl, hB⟩
           have HP9 := hide (HP8.out.below hB)
           clear hB
           go_wp2_with fail
           go_ret
           exact PcPost.at_ (by rw [← HC.out]; exact chk_link H0.out HSL.out HLF.out HX.out (lkE_rate (by rw [HN.out]; exact HO.out) HT2.out (.inr O3.out)) (by decide)) (by decide) (HP9.out.alloc _).old (Blk.new _ _ _)
          case false =>
           have O3 := hide o3; clear o3
           go_wp2_with fail
           refine (win1_any 1 16 xq (w8.heap.size) _ rfl false O3).mono ?_
           rintro e w9 ⟨rfl, hB⟩
           have HP9 := hide (HP8.out.below hB)
           clear hB
           go_wp2_with fail
           go_roundw
           case rel => exact ⟨k + 1, by omega, by go_num, hide (lkF_succ HLF.out HX.out (lkE_fine (by rw [HN.out]; exact HO.out) HT2.out O2.out O3.out)), HP9.out⟩
           case measure => simp [intOf]; omega
       ·have HT := hide (to_bad1 p.nd ⟨F, T, xb, xq⟩ (by dsimp only; rw [HN.out]; exact_mod_cast ge_of_shr h2))
        go_wp2_with fail
        go_ret
        exact PcPost.at_ (by rw [← HC.out]; exact chk_link H0.out HSL.out HLF.out HX.out (lkE_to (by rw [HN.out]; exact HO.out) HT.out) (by decide)) (by decide) (HP7.out.alloc _).old (Blk.new _ _ _)
    ·obtain rfl : ll = k := by omega
     have HLL : Hid (lkF p p.lk.length) := hide (by rw [L1.out]; exact HLF.out)
     clear HLF hlt hk L2
     go_wp2_with fail
     obtain ⟨wo, rfl⟩ : ∃ wo : World, wo = wr := ⟨_, rfl⟩
     go_loopw [3, 209] (fun v i wr => ∃ (k : Nat) (E : Int), k ≤ lq ∧ i = .int .i64 k ∧ v = .int .i64 E ∧ 0 ≤ E ∧ E ≤ 137438953472 ∧ Hid (E = wnLo 0 p.wn k ∧ wnF p k) ∧ PcAt w wr (planC (N : Int) p.fa p.sk p.ji p.dr p.rd (.slice A len c) (.slice AL ll cl) p.fr (.slice AQ lq cq))) (fun _ i _ => lq - (intOf i).toNat)
     case atStart => exact ⟨0, 0, by omega, rfl, rfl, by omega, by omega, hide ⟨by rw [wnLo_zero], fun j hj => by omega⟩, HP.out⟩
     case round =>
      clear i0 i1 i2 i3 i4 i5 i6 i7 i8 i9 HP
      obtain ⟨k, E, hk, rfl, rfl, e1, e2, hE, hP⟩ := hrel
      have HP := hide hP; clear hP
      obtain ⟨i0, i1, i2, i3, i4, i5, i6, i7, i8, i9⟩ := HP.out.g.cells10
      by_cases hlt : k < lq
      ·obtain ⟨b, off, rfl, x, hx, c0, c1, c2⟩ := (Q2.out.below HP.out.old) k hlt
       have HX := hide hx; clear hx
       obtain ⟨se, hse⟩ : ∃ se, spE x.f x.t E p.fr = se := ⟨_, rfl⟩
       have HSE := hide hse; clear hse
       have HP2 := hide (HP.out.alloc (.cells #[.int .i64 x.p, .int .i64 x.f, .int .i64 x.t] 135))
       have HB2 := hide (Blk.new wr 135 #[.int .i64 x.p, .int .i64 x.f, .int .i64 x.t])
       obtain ⟨j0, j1, j2, j3, j4, j5, j6, j7, j8, j9⟩ := HP2.out.g.cells10
       go_wp2_with fail
       refine (span_any x.f x.t E p.fr _ se HSE).mono ?_
       rintro e w6 ⟨rfl, hB⟩
       have HP6 := hide (HP2.out.below hB)
       have HB6 := hide (HB2.out.below hB HB2.out.lt)
       clear hB HP HP2 HB2 c0 c1 c2 i0 i1 i2 i3 i4 i5 i6 i7 i8 i9 j0 j1 j2 j3 j4 j5 j6 j7 j8 j9
       obtain ⟨i0, i1, i2, i3, i4, i5, i6, i7, i8, i9⟩ := HP6.out.g.cells10
       obtain ⟨c0, c1, c2⟩ := blk_cells3 HB6.out
       by_cases hs0 : se = 0
       ·subst hs0
        have HS0 := hide (spE_zero HSE.out)
        cases ho : outB 0 5 x.p
        case true =>
         have HO := hide ho; clear ho
         go_wp2_with fail
         refine (win1_any 0 5 x.p (w6.heap.size) _ rfl true HO).mono ?_
         rintro e w7 ⟨rfl, hB⟩
         have HP7 := hide (HP6.out.below hB)
         clear hB
         go_wp2_with fail
         go_ret
         exact PcPost.at_ (by rw [← HC.out]; exact chk_win H0.out HSL.out HLL.out hE.out.2 HX.out (wnE_part (by rw [← hE.out.1]; exact HSE.out) HO.out) (by decide)) (by decide) (HP7.out.alloc _).old (Blk.new _ _ _)
        case false =>
         have HO := hide ho; clear ho
         have HT : Hid (0 ≤ x.t ∧ x.t ≤ 137438953472) := hide (by have := HS0.out; omega)
         go_wp2_with fail
         refine (win1_any 0 5 x.p (w6.heap.size) _ rfl false HO).mono ?_
         rintro e w7 ⟨rfl, hB⟩
         have HP7 := hide (HP6.out.below hB)
         have HB7 := hide (HB6.out.below hB HB6.out.lt)
         clear hB c0 c1 c2
         obtain ⟨c0, c1, c2⟩ := blk_cells3 HB7.out
         go_wp2_with fail
         go_roundw
         case rel => exact ⟨k + 1, x.t, by omega, by go_num, rfl, HT.out.1, HT.out.2, hide ⟨(wnLo_succ _ _ _ _ HX.out).symm, wnF_succ hE.out.2 HX.out (wnE_fine (by rw [← hE.out.1]; exact HSE.out) HO.out)⟩, HP7.out⟩
         case measure => simp [intOf]; omega
       ·have q2 : (se != 0) = true := by simp [hs0]
        have HS0 := hide hs0; clear hs0
        go_wp2_with fail
        go_ret
        exact PcPost.at_ (by rw [← HC.out]; exact chk_win H0.out HSL.out HLL.out hE.out.2 HX.out (wnE_span (by rw [← hE.out.1]; exact HSE.out) HS0.out) HS0.out) HS0.out (HP6.out.alloc _).old (Blk.new _ _ _)
      ·obtain rfl : lq = k := by omega
       have HWL : Hid (wnF p p.wn.length) := hide (by rw [Q1.out]; exact hE.out.2)
       clear hE e1 e2 hlt hk
       go_wp2_with fail
       go_ret
       exact PcPost.fine (by rw [← HC.out]; exact chk_fine H0.out HSL.out HLL.out HWL.out) HP.out.old
theorem check_any (w : World) (s1 : p.sl.length = len) (l1 : p.lk.length = ll) (q1 : p.wn.length = lq) (s2 : SlotsAt w A len p.sl) (l2 : LinksAt w AL ll p.lk) (q2 : WinsAt w AQ lq p.wn) :
 Calls Tryz.prog 129 #[.agg (planC p.nd p.fa p.sk p.ji p.dr p.rd (.slice A len c) (.slice AL ll cl) p.fr (.slice AQ lq cq))] w (PcPost w (chk p)) := by
 by_cases h0 : headE p = 0
 ·exact check_body p A len c AL ll cl AQ lq cq w h0 s1 l1 q1 s2 l2 q2
 ·exact check_head p A len c AL ll cl AQ lq cq w h0 s1 l1 q1
end
end
end Go.Proofs.YtideefjnlakciaaGreatDoor
