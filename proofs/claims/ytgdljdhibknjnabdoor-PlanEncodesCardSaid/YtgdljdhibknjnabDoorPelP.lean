/- metronomelaw.PlanEncodes returns true, whatever the plan: for every input; the card ties errors.errorType and metronomeref.Fine. -/
import Derived.Test.YtgdljdhibknjnabDoorPel
import Derived.Test.YtgdljdhibknjnabDoorDoor
import Derived.Test.YtgdljdhibknjnabDoorDor2
import Derived.Test.YtgdljdhibknjnabDoorOpl
namespace Go.Proofs.YtgdljdhibknjnabDoor
open Go.ChangeShapes Go.WideShapes Go.ChangeAt Go.RowKit 
set_option maxRecDepth 100000 in
theorem planEncodes_lifted (os : Os) (started : os.Started) (H : Type) (enc : TypeId × Value → H) :
    ReturnsInHanded {} Tryd.checked os 13 .any (fun w args => (Rows.planEncodesSpec.pre enc Tryd.prog Tryd.f13 [] false w args ∧ laidMetH Tryd.prog Rows.planEncodesRow.laid w) ∧ sizedMet enc Tryd.prog Tryd.f13 (OpenSpec.ofChange Rows.planEncodesSpec) false w args)
      (Rows.planEncodesSpec.post enc Tryd.prog Tryd.f13 false true false false) := by
  refine returnsInHanded_of_change_and (C := Tryd.checked) (X := fun w _ => laidMetH Tryd.prog Rows.planEncodesRow.laid w) (fun _ _ _ hh h => h.of_heap hh) own started (by kernel_rfl) Tryd.func13
    (ChangeSpec.witness_at (enc := enc) (C := Tryd.checked) (os := os) (X := fun w _ => laidMetH Tryd.prog Rows.planEncodesRow.laid w) false (laidWorld2 os) #[.agg #[.int .i64 0, .int .i64 0, .int .i64 0, .int .i64 0, .int .i64 0, .int .i64 0, .slice none 0 0, .slice none 0 0, .int .i64 0, .slice none 0 0]] 16 rfl (by kernel_rfl) (by kernel_rfl) (by kernel_rfl) (by kernel_rfl) (by kernel_rfl) (laidWorld2_met os _)) ?_
  intro W base args ds gs before hval0 hW hcnd hsz hL _
  have hval : ∀ (j : Nat) t v, Tryd.f13.params[j]? = some t → args[j]? = some v → Value.okWide Tryd.prog W .any base t v := hval0
  have hW' := hW
  obtain ⟨p, q, hA0, hV, rfl, hfz, hnd⟩ := hW
  have hA : DataW.TrodAll enc Tryd.prog W 0 (fun _ => true) true Tryd.f13.params.toList args.toList ds p := hA0
  rw [Tryd.params13] at hA hval
  obtain ⟨v0, vs0, d0, ds0, p0, q0, hargs, rfl, rfl, h0, r0⟩ := trodAll_cons hA
  obtain ⟨rfl, rfl, rfl⟩ := trodAll_nil r0
  obtain rfl : args = #[v0] := by cases args; simp_all
  have fin : Calls Tryd.prog 13 #[v0] W fun e w' => e = .returned (.bool true) ∧ Below W.heap.size W w' := by
    have hE := errT_of_laid2 hL
    have hF := fine_of_laid2 hL
    obtain ⟨nd, fa, sk, ji, dr, R, A, len, c, sl, AL, ll, cl, lk, fr, AQ, lq, cq, wn, rfl, s1, s2, l1, l2, q1, q2, m1, m2, m3, z0, z1, z2, z3, z4, z5, z6⟩ := open_plan h0 (hval 0 78 v0 rfl rfl)
    exact pencodes_law ⟨nd, fa, sk, ji, dr, R, sl, lk, fr, wn⟩ A len c AL ll cl AQ lq cq W s1 l1 q1 s2 l2 q2 hE hF
  refine fin.mono fun e W' ⟨he, hb⟩ => ?_
  subst he
  exact ⟨_, rfl, law_post rfl (fun ds hd => by match ds, hd with | [d0], _ => rfl) (by rw [Tryd.params13]; intro t ht; simp at ht; rcases ht with rfl <;> exact ⟨by kernel_rfl, of_decide_eq_true (by kernel_rfl)⟩) (by kernel_rfl) hW' hb⟩

theorem planEncodes_said : Rows.PlanEncodesSaid :=
  OpenClaim.holds_of_wide 13 Tryd.f13 rfl rfl rfl rfl rfl rfl rfl ⟨rfl, rfl, rfl, rfl, rfl⟩ rfl rfl rfl rfl rfl (by kernel_rfl) Tryd.func13 (by kernel_rfl)
    (of_decide_eq_true (by kernel_rfl)) (by unfold Func.isWrapper; first | (rw [if_pos (by decide +kernel)]; kernel_rfl) | (rw [if_neg (by decide +kernel)]; exact ⟨rfl, rfl⟩))
    (fun os started H enc _ => planEncodes_lifted os started H enc)
theorem planEncodes_holds : Rows.PlanEncodesCardSaid :=
  Claim7.holds_tied_plain_at .later [] _ _ _ _ planEncodes_said (fun _ h => by cases h) (by kernel_rfl) (fun _ h => by cases h) planEncodes_row_tie rfl ⟨rfl, rfl⟩ (by kernel_rfl) rfl
    (fun f fn hf hfn => by
      obtain rfl : f = 13 := Option.some.inj ((show Tryd.prog.funcNamed "metronome/metronomelaw.PlanEncodes" = some 13 by kernel_rfl).symm.trans hf) |>.symm
      obtain rfl : fn = Tryd.f13 := (Option.some.inj (Tryd.func13.symm.trans hfn)).symm
      exact ⟨by kernel_rfl, fun j t ht => by
        rw [Tryd.params13] at ht
        have hm := Array.mem_of_getElem? ht
        simp at hm
        rcases hm with rfl <;> exact (show Tryd.prog.wantsStandIn _ = false by kernel_rfl)⟩)
    (by kernel_rfl)
#print axioms planEncodes_holds
end Go.Proofs.YtgdljdhibknjnabDoor
