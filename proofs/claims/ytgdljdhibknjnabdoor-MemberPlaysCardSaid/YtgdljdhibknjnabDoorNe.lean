/- The contracts of metronomeref.NewMember, Hears, Sends, Back; conditions: the member lies in a block of its own, its set in another one. -/
import Derived.Test.YtgdljdhibknjnabDoorNc
namespace Go.Proofs.YtgdljdhibknjnabDoor
open Go.RowKit

theorem Blk.kset {w : World} {g k : Nat} {t : TypeId} {cs : Array Value} (h : Blk w k t cs) (hne : k ≠ g) (i : Nat) (u : Value) : Blk (w.setCell ⟨g, i, none⟩ u) k t cs := h.far (by exact hne) u
theorem Kept2.setB {w w' : World} {g b : Nat} (h : Kept2 w w' g (some b)) (i : Nat) (u : Value) : Kept2 w (w'.setCell ⟨b, i, none⟩ u) g (some b) :=
  ⟨h.os, h.tape, h.output, by simpa [World.setCell] using h.size, fun k hk h1 h2 => (Below.heap_setCell w' _ u k (fun e => h2 (by rw [e]))).trans (h.block k hk h1 h2)⟩
section
variable (g gt id n m : Nat) (good bad : Int) (fz : Bool)
set_option maxRecDepth 100000 in
set_option maxHeartbeats 1000000 in
theorem rsends_any (w : World) (hb : Blk w g 108 (refC id n gt good bad fz)) (ht : Blk w gt 4 (tkB n (m.testBit ·))) (hne : g ≠ gt) (hn : n ≤ 16) (hm : m < 2 ^ n) :
    Calls Tryd.prog 42 #[.pointer (some ⟨g, 0, none⟩)] w fun e w' => e = .returned (.tuple #[.int .i64 (sendsV m good bad fz), .bool (sendsOk good bad fz)]) ∧ MrPost w g gt (refC id n gt (sG good bad fz) (sB good bad fz) (!sendsOk good bad fz)) n (m.testBit ·) w' := by
  have HB := hide hb; have HT := hide ht
  obtain ⟨k0, k1, k2, k3, k4, k5⟩ := hb.cells6'
  have f3 := hb.frozen 3
  have f4 := hb.frozen 4
  have f5 := hb.frozen 5
  clear hb ht
  cases fz
  case true =>
    have e1 : sendsV m good bad true = 0 := by simp [sendsV, sendsOk]
    have e2 : sendsOk good bad true = false := by simp [sendsOk]
    have e3 : refC id n gt (sG good bad true) (sB good bad true) (!sendsOk good bad true) = refC id n gt good bad true := by simp [sG, sB, sendsOk]
    rw [e3, e1, e2]
    clear e1 e2 e3
    go_enter Tryd.func42, Tryd.ntmps42
    go_wp2
    go_ret2
    exact ⟨rfl, HB.out, HT.out, Kept2.refl _ _ _⟩
  case false =>
    by_cases h : good ≤ bad
    · have e2 : sendsOk good bad false = false := by simp [sendsOk]; omega
      have e1 : sendsV m good bad false = 0 := by unfold sendsV; rw [e2]; rfl
      have e3 : refC id n gt (sG good bad false) (sB good bad false) (!sendsOk good bad false) = refC id n gt good bad true := by simp [sG, sB, e2]
      rw [e3, e1, e2]
      clear e1 e2 e3
      have d1 : decide (good ≤ bad) = true := decide_eq_true h
      go_enter Tryd.func42, Tryd.ntmps42
      go_wp2
      go_quiet (fail)
      go_wp2
      go_ret2
      exact ⟨rfl, (HB.out.drewN _).set_ 5 _, (HT.out.drewN _).kset hne.symm _ _, ((Kept2.refl _ _ _).drewN _).set_ 5 _⟩
    · have e2 : sendsOk good bad false = true := by simp [sendsOk]; omega
      have e1 : sendsV m good bad false = m := by unfold sendsV; rw [e2]; rfl
      have e3 : refC id n gt (sG good bad false) (sB good bad false) (!sendsOk good bad false) = refC id n gt 1 0 false := by simp [sG, sB, e2]
      rw [e3, e1, e2]
      clear e1 e2 e3
      have d1 : decide (good ≤ bad) = false := decide_eq_false h
      go_enter Tryd.func42, Tryd.ntmps42
      go_wp2
      go_quiet (fail)
      go_wp2_with fail
      refine (rbits_any g gt id n m 1 0 false _ (by exact ((HB.out.drewN _).set_ 3 _).set_ 4 _) (by exact ((HT.out.drewN _).kset hne.symm _ _).kset hne.symm _ _) hn hm).mono ?_
      rintro e w2 ⟨rfl, rfl⟩
      go_wp2
      go_ret2
      exact ⟨rfl, ((HB.out.drewN _).set_ 3 _).set_ 4 _, ((HT.out.drewN _).kset hne.symm _ _).kset hne.symm _ _, (((Kept2.refl _ _ _).drewN _).set_ 3 _).set_ 4 _⟩
set_option maxRecDepth 100000 in
set_option maxHeartbeats 2000000 in
theorem rhears_any (w : World) (fr what : Int) (hb : Blk w g 108 (refC id n gt good bad fz)) (ht : Blk w gt 4 (tkB n (m.testBit ·))) (hne : g ≠ gt) (hn1 : 1 ≤ n) (hn : n ≤ 16) (g0 : 0 ≤ good) (g1 : good ≤ 1000000) (b0 : 0 ≤ bad) (b1 : bad ≤ 1000000) :
    Calls Tryd.prog 41 #[.pointer (some ⟨g, 0, none⟩), .int .i64 fr, .int .i64 what] w fun e w' => e = .returned (.tuple #[]) ∧ MrPost w g gt (refC id n gt (hG id n good fz fr what) (hB id n bad fz fr what) fz) n ((hM id n m fz fr what).testBit ·) w' := by
  have HB := hide hb; have HT := hide ht
  obtain ⟨k0, k1, k2, k3, k4, k5⟩ := hb.cells6'
  have f3 := hb.frozen 3
  have f4 := hb.frozen 4
  cases ho : hOk id n fz fr what
  case false =>
    rw [hM_no ho, hG_no ho, hB_no ho]
    clear hb ht
    cases fz
    case true =>
      clear ho
      go_enter Tryd.func41, Tryd.ntmps41
      go_wp2
      refine bodyPost_ret (results_none rfl _ _ _) rfl ⟨rfl, HB.out, HT.out, Kept2.refl _ _ _⟩
    case false =>
      obtain ⟨v1, hv1⟩ : ∃ v, inB fr 0 ((n : Int) - 1) = v := ⟨_, rfl⟩
      obtain ⟨v2, hv2⟩ : ∃ v, inB what 0 2 = v := ⟨_, rfl⟩
      have HV1 := hide (in_is fr 0 ((n : Int) - 1) v1 hv1)
      have HV2 := hide (in_is what 0 2 v2 hv2)
      have hc : Hid (v1 = false ∨ (v1 = true ∧ (fr == (id : Int)) = true) ∨ (v1 = true ∧ (fr == (id : Int)) = false ∧ v2 = false)) := hide (by
        subst hv1 hv2
        simp only [hOk, inB, Bool.not_false, Bool.true_and, Bool.and_eq_false_iff, Bool.not_eq_false', decide_eq_false_iff_not, decide_eq_true_eq, beq_iff_eq, beq_eq_false_iff_ne, Bool.and_eq_true] at ho ⊢
        omega)
      clear ho hv1 hv2
      rcases hc.out with rfl | ⟨rfl, h1⟩ | ⟨rfl, h1, rfl⟩
      all_goals
        clear hc
        go_enter Tryd.func41, Tryd.ntmps41
        go_wp2_with (go_at_call 70; first | (with_reducible refine (HV1.out _).mono ?_; rintro e w' ⟨rfl, rfl⟩) | (with_reducible refine (HV2.out _).mono ?_; rintro e w' ⟨rfl, rfl⟩))
        refine bodyPost_ret (results_none rfl _ _ _) rfl ⟨rfl, HB.out, HT.out, Kept2.refl _ _ _⟩
  case true =>
    have h : fz = false ∧ 0 ≤ fr ∧ fr < n ∧ fr ≠ id ∧ 0 ≤ what ∧ what ≤ 2 := by
      simp [hOk] at ho
      obtain ⟨⟨⟨⟨⟨a, b⟩, c⟩, d⟩, e⟩, f⟩ := ho
      exact ⟨a, b, c, d, e, f⟩
    obtain ⟨rfl, q0, q1, q2, w0, w2⟩ := h
    obtain ⟨F, rfl⟩ : ∃ F : Nat, fr = F := ⟨fr.toNat, by omega⟩
    have HV1 := hide (in_is (F : Int) 0 ((n : Int) - 1) true (by simp [inB]; omega))
    have HV2 := hide (in_is what 0 2 true (by simp [inB]; omega))
    have hid : ((F : Int) == (id : Int)) = false := beq_eq_false_iff_ne.2 q2
    have hF : F < n := by omega
    have c0 := ht.tk hF
    have fc := ht.frozen F
    generalize m.testBit F = t0 at c0
    have HFN := hide hF
    have HM : Hid (hM id n m false (F : Int) what = if what = 1 then m ||| 2 ^ F else clr m (2 ^ F)) := hide (by unfold hM; rw [ho, if_pos rfl]; rfl)
    have HG : Hid (hG id n good false (F : Int) what = if what = 1 then good + 1 else good) := hide (by unfold hG; rw [ho]; simp)
    have HBB : Hid (hB id n bad false (F : Int) what = if what = 2 then bad + 1 else bad) := hide (by unfold hB; rw [ho]; simp)
    clear hb ht ho q2
    by_cases h1 : what = 1
    · subst h1
      rw [HG.out, HBB.out, HM.out, if_pos rfl, if_neg (by decide), if_pos rfl]
      clear HM HG HBB w0 w2
      go_enter Tryd.func41, Tryd.ntmps41
      go_wp2_with (go_at_call 70; first | (with_reducible refine (HV1.out _).mono ?_; rintro e w' ⟨rfl, rfl⟩) | (with_reducible refine (HV2.out _).mono ?_; rintro e w' ⟨rfl, rfl⟩))
      go_end0
      have hT := HT.out.set_ F (.bool true)
      rw [tkB_set (f' := ((m ||| 2 ^ F).testBit ·)) F true HFN.out (or_bit_on m F) (fun i _ hi => or_bit_off hi)] at hT
      exact ⟨rfl, (HB.out.kset hne F _).set_ 3 _, hT.kset hne.symm 3 _, ((Kept2.refl _ _ _).setB F _).set_ 3 _⟩
    · have d1 : (what == 1) = false := beq_eq_false_iff_ne.2 h1
      by_cases h2 : what = 2
      · subst h2
        rw [HG.out, HBB.out, HM.out, if_neg h1, if_neg h1, if_pos rfl]
        clear HM HG HBB w0 w2 h1
        go_enter Tryd.func41, Tryd.ntmps41
        go_wp2_with (go_at_call 70; first | (with_reducible refine (HV1.out _).mono ?_; rintro e w' ⟨rfl, rfl⟩) | (with_reducible refine (HV2.out _).mono ?_; rintro e w' ⟨rfl, rfl⟩))
        go_end0
        have hT := HT.out.set_ F (.bool false)
        rw [tkB_set (f' := ((clr m (2 ^ F)).testBit ·)) F false HFN.out (clr_bit_on m F) (fun i _ hi => clr_bit_off hi)] at hT
        exact ⟨rfl, (HB.out.kset hne F _).set_ 4 _, hT.kset hne.symm 4 _, ((Kept2.refl _ _ _).setB F _).set_ 4 _⟩
      · obtain rfl : what = 0 := by omega
        rw [HG.out, HBB.out, HM.out, if_neg h1, if_neg h1, if_neg h2]
        clear HM HG HBB w0 w2 h1 h2
        go_enter Tryd.func41, Tryd.ntmps41
        go_wp2_with (go_at_call 70; first | (with_reducible refine (HV1.out _).mono ?_; rintro e w' ⟨rfl, rfl⟩) | (with_reducible refine (HV2.out _).mono ?_; rintro e w' ⟨rfl, rfl⟩))
        go_end0
        have hT := HT.out.set_ F (.bool false)
        rw [tkB_set (f' := ((clr m (2 ^ F)).testBit ·)) F false HFN.out (clr_bit_on m F) (fun i _ hi => clr_bit_off hi)] at hT
        exact ⟨rfl, HB.out.kset hne F _, hT, (Kept2.refl _ _ _).setB F _⟩
set_option maxRecDepth 100000 in
set_option maxHeartbeats 1000000 in
theorem rback_any (w : World) (mm : Int) (hb : Blk w g 108 (refC id n gt good bad fz)) (ht : Blk w gt 4 (tkB n (m.testBit ·))) (hne : g ≠ gt) (hi : id < n) (hn : n ≤ 16) :
    Calls Tryd.prog 45 #[.pointer (some ⟨g, 0, none⟩), .int .i64 mm] w fun e w' => e = .returned (.int .i64 (bE n fz mm)) ∧ MrPost w g gt (refC id n gt (bG (bE n fz mm) good) (bB (bE n fz mm) bad) (bF (bE n fz mm) fz)) n ((bM id m (bE n fz mm) mm).testBit ·) w' := by
  have HB := hide hb; have HT := hide ht
  obtain ⟨k0, k1, k2, k3, k4, k5⟩ := hb.cells6'
  have f3 := hb.frozen 3
  have f4 := hb.frozen 4
  have f5 := hb.frozen 5
  clear hb ht
  cases fz
  case false =>
    have he : bE n false mm = 6 := rfl
    rw [he]
    go_enter Tryd.func45, Tryd.ntmps45
    go_wp2
    go_ret
    exact ⟨rfl, HB.out, HT.out, Kept2.refl _ _ _⟩
  case true =>
    have hp : wrap64 (wrap64 (2 ^ n) - 1) = ((2 ^ n : Nat) : Int) - 1 := by
      have h1 : (2 : Nat) ^ n ≤ 2 ^ 16 := Nat.pow_le_pow_right (by omega) (by omega)
      have h2 : 0 < (2 : Nat) ^ n := Nat.two_pow_pos n
      rw [pow_small n (by omega)]
      generalize (2 : Nat) ^ n = x at h1 h2
      unfold wrap64
      omega
    obtain ⟨v1, hv1⟩ : ∃ v, inB mm 0 (wrap64 (wrap64 (2 ^ n) - 1)) = v := ⟨_, rfl⟩
    have HV1 := hide (in_is mm 0 (wrap64 (wrap64 (2 ^ n) - 1)) v1 hv1)
    rw [hp] at hv1
    by_cases h0 : mm < 0 ∨ (2 ^ n : Nat) ≤ mm
    · have he : bE n true mm = 1 := by unfold bE; rw [if_neg (by decide), if_pos h0]
      rw [he]
      obtain rfl : v1 = false := by rw [← hv1]; simp only [inB, Bool.and_eq_false_iff, decide_eq_false_iff_not]; omega
      clear he h0 hv1 hp
      go_enter Tryd.func45, Tryd.ntmps45
      go_wp2_with (go_at_call 70; with_reducible refine (HV1.out _).mono ?_; rintro e w' ⟨rfl, rfl⟩)
      go_ret
      exact ⟨rfl, HB.out, HT.out, Kept2.refl _ _ _⟩
    · have he : bE n true mm = 0 := by unfold bE; rw [if_neg (by decide), if_neg h0]
      rw [he]
      obtain rfl : v1 = true := by rw [← hv1]; simp only [inB, Bool.and_eq_true, decide_eq_true_eq]; omega
      obtain ⟨J, rfl⟩ : ∃ J : Nat, mm = J := ⟨mm.toNat, by omega⟩
      have hJ6 : J < 65536 := by
        have h16 : 2 ^ n ≤ 2 ^ 16 := Nat.pow_le_pow_right (by decide) hn
        omega
      have hres : refC id n gt (bG 0 good) (bB 0 bad) (bF 0 true) = refC id n gt 1 0 false := by simp [bG, bB, bF]
      have hm : bM id m 0 (J : Int) = J ||| 2 ^ id := by simp [bM]
      rw [hres, hm]
      clear he h0 hv1 hp hres hm
      have HB2 : Hid (Blk (((w.setCell ⟨g, 5, none⟩ (.bool false)).setCell ⟨g, 3, none⟩ (.int .i64 1)).setCell ⟨g, 4, none⟩ (.int .i64 0)) g 108 (refC id n gt 1 0 false)) := hide (((HB.out.set_ 5 _).set_ 3 _).set_ 4 _)
      have HT2 : Hid (Blk (((w.setCell ⟨g, 5, none⟩ (.bool false)).setCell ⟨g, 3, none⟩ (.int .i64 1)).setCell ⟨g, 4, none⟩ (.int .i64 0)) gt 4 (tkB n (m.testBit ·))) := hide (((HT.out.kset hne.symm 5 _).kset hne.symm 3 _).kset hne.symm 4 _)
      have HK2 : Hid (Kept2 w (((w.setCell ⟨g, 5, none⟩ (.bool false)).setCell ⟨g, 3, none⟩ (.int .i64 1)).setCell ⟨g, 4, none⟩ (.int .i64 0)) g (some gt)) := hide ((((Kept2.refl _ _ _).set_ 5 _).set_ 3 _).set_ 4 _)
      go_enter Tryd.func45, Tryd.ntmps45
      go_wp2_with (go_at_call 70; with_reducible refine (HV1.out _).mono ?_; rintro e w' ⟨rfl, rfl⟩)
      clear k0 k1 k2 k3 k4 k5 f3 f4 f5 HB HT
      go_loopw [34] (fun i wr => ∃ k : Nat, k ≤ n ∧ i = .int .i64 k ∧ Hid (Blk wr g 108 (refC id n gt 1 0 false)) ∧ Hid (Blk wr gt 4 (tkB n (fun j => if j < k then (J ||| 2 ^ id).testBit j else m.testBit j))) ∧ Hid (Kept2 w wr g (some gt))) (fun i _ => n - (intOf i).toNat)
      case atStart => exact ⟨0, by omega, rfl, HB2, HT2, HK2⟩
      case round =>
        clear HB2 HT2 HK2
        obtain ⟨k, hk, rfl, HB, HT, HK⟩ := hrel
        obtain ⟨k0, k1, k2, k3, k4, k5⟩ := HB.out.cells6'
        by_cases hlt : k < n
        · have c0 := HT.out.tk hlt
          have fc := HT.out.frozen k
          have h17 : k < 17 := by omega
          have HST : ∀ (w' : World) (b : Bool), Blk w' gt 4 (tkB n (fun j => if j < k then (J ||| 2 ^ id).testBit j else m.testBit j)) → (J ||| 2 ^ id).testBit k = b → Blk (w'.setCell ⟨gt, k, none⟩ (.bool b)) gt 4 (tkB n (fun j => if j < k + 1 then (J ||| 2 ^ id).testBit j else m.testBit j)) := fun w' b h hb => by
            have hT := h.set_ k (.bool b)
            rwa [tkB_set (f' := fun j => if j < k + 1 then (J ||| 2 ^ id).testBit j else m.testBit j) k b hlt (by simp [hb]) (fun i _ hi => by
              by_cases h1 : i < k
              · simp [h1, show i < k + 1 by omega]
              · simp [h1, show ¬ i < k + 1 by omega])] at hT
          have HSET := hide HST
          clear HST
          generalize (if k < k then (J ||| 2 ^ id).testBit k else m.testBit k) = t0 at c0
          have hV : ∀ b, J.testBit k = b → (J ||| 2 ^ id).testBit k = (b || decide (k = id)) := fun b hb => by
            rw [Nat.testBit_or, hb, Nat.testBit_two_pow]
            congr 1
            exact decide_eq_decide.2 ⟨fun h => h.symm, fun h => h.symm⟩
          cases hJ : J.testBit k
          case true =>
            obtain ⟨X, hX, hX0, hX1, hX2⟩ := and_on hJ6 h17 hJ
            have HV : Hid ((J ||| 2 ^ id).testBit k = true) := hide (by rw [hV true hJ]; rfl)
            clear hV hJ
            go_wp2_with fail
            go_region
            go_wp2
            go_roundw
            case rel => exact ⟨k + 1, by omega, by go_num, hide ((HB.out.kset hne k _).drew), hide (HSET.out _ _ HT.out HV.out).drew, hide ((HK.out.setB k _).drew)⟩
            case measure => simp [intOf]; omega
          case false =>
            have hX := and_off hJ6 h17 hJ
            by_cases hki : k = id
            · have HV : Hid ((J ||| 2 ^ id).testBit k = true) := hide (by rw [hV false hJ]; simp [hki])
              have e1 : ((k : Int) == (id : Int)) = true := by rw [hki]; simp
              clear hV hJ hki
              go_wp2_with fail
              go_region
              go_wp2
              go_roundw
              case rel => exact ⟨k + 1, by omega, by go_num, hide ((HB.out.kset hne k _).drew), hide (HSET.out _ _ HT.out HV.out).drew, hide ((HK.out.setB k _).drew)⟩
              case measure => simp [intOf]; omega
            · have HV : Hid ((J ||| 2 ^ id).testBit k = false) := hide (by rw [hV false hJ]; simp [hki])
              have e1 : ((k : Int) == (id : Int)) = false := beq_eq_false_iff_ne.2 (by omega)
              clear hV hJ hki
              go_wp2_with fail
              go_region
              go_wp2
              go_roundw
              case rel => exact ⟨k + 1, by omega, by go_num, hide ((HB.out.kset hne k _).drew), hide (HSET.out _ _ HT.out HV.out).drew, hide ((HK.out.setB k _).drew)⟩
              case measure => simp [intOf]; omega
        · obtain rfl : n = k := by omega
          have HT3 : Hid (Blk wr gt 4 (tkB n ((J ||| 2 ^ id).testBit ·))) := hide (by rw [tkB_congr (f' := fun j => if j < n then (J ||| 2 ^ id).testBit j else m.testBit j) (fun i hi => by simp [hi])]; exact HT.out)
          go_wp2_with fail
          go_ret
          exact ⟨rfl, HB.out, HT3.out, HK.out⟩
end
end Go.Proofs.YtgdljdhibknjnabDoor
