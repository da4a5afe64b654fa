/- The contracts of metronomeref.Order and of the document's sender's methods; conditions: the sender lies in a block of its own, its texts in another one. -/
import Derived.Test.YtgdljdhibknjnabDoorVq
import Derived.Test.YtgdljdhibknjnabDoorIn
namespace Go.Proofs.YtgdljdhibknjnabDoor
open Go.RowKit

set_option maxRecDepth 100000 in
theorem order_any (k : Nat) (w : World) (hk : k ≤ 100000) : Calls Tryd.prog 74 #[.int .i64 k] w fun e w' => e = .returned (.int .i64 (ordr k)) ∧ w' = w := by
  have HK := hide hk
  by_cases h0 : k = 0
  · subst h0
    go_enter Tryd.func74, Tryd.ntmps74
    go_wp2_with fail
    go_ret
    exact ⟨rfl, rfl⟩
  · obtain ⟨j, rfl⟩ : ∃ j, k = j + 1 := ⟨k - 1, by omega⟩
    have d1 : ((j : Int) + 1 == 0) = false := by rw [beq_eq_false_iff_ne]; omega
    have hr : ordr (j + 1) = (j : Int) % 255 + 1 := by unfold ordr; rw [if_neg h0, Nat.add_sub_cancel]; push_cast; rfl
    rw [hr]
    clear h0 hr
    have hj : j ≤ 100000 := by omega
    go_enter Tryd.func74, Tryd.ntmps74
    go_wp2_with fail
    go_ret
    exact ⟨ret_int (by simp), rfl⟩
section
variable (g base : Nat) (bag que : Int) (v : Value) (went : Nat) (last nw : Int) (all : List ByteArray)
set_option maxRecDepth 100000 in
set_option maxHeartbeats 2000000 in
theorem rput_any (w : World) (d : ByteArray) (e : Int) (he : Hid (putE d.size (all.length - went) que = e)) (hb : Blk w g 55 (rsC bag que v went last nw)) (hQ : QAt w base 9 v (sv all)) (hv : ∀ k, v.ownBlock = some k → k < w.heap.size) (hg : v.ownBlock ≠ some g) (hbase : base ≤ w.heap.size) (hd : d.size ≤ maxLen) (hq : all.length ≤ 1000) (hw : went ≤ all.length) :
    Calls Tryd.prog 27 #[.pointer (some ⟨g, 0, none⟩), .string d] w fun r w' => r = .returned (.int .i64 e) ∧ RsPost w base g bag que v went last nw (putQ all d e) w' := by
  have q1 := he.out
  unfold putE at q1
  unfold maxLen at hd
  by_cases h1 : 40 < d.size
  · have d1 : decide ((40 : Int) < (d.size : Int)) = true := decide_eq_true (by omega)
    rw [if_pos h1] at q1
    subst q1
    have HP := hide (RsPost.same hb hQ hv (Below.refl _ _))
    clear h1 he hb hQ hv hd hq hw
    go_enter Tryd.func27, Tryd.ntmps27
    go_wp2_with fail
    go_ret
    exact ⟨rfl, by rw [putQ_no _ _ (by decide)]; exact HP.out⟩
  · have d1 : decide ((40 : Int) < (d.size : Int)) = false := decide_eq_false (by omega)
    rw [if_neg h1] at q1
    obtain ⟨ao, c, hvv, hlc⟩ := hQ.shape
    obtain ⟨c0, c1, c2, c3, c4, c5⟩ := hb.cells6
    rw [sv_len] at hvv hlc
    have hdif : ((all.length - went : Nat) : Int) = (all.length : Int) - (went : Int) := by omega
    rw [hdif] at q1
    clear hdif
    by_cases h2 : que ≤ (all.length : Int) - (went : Int)
    · have d2 : decide (que ≤ (all.length : Int) - (went : Int)) = true := decide_eq_true h2
      rw [if_pos h2] at q1
      subst q1
      have HP := hide (fun w' hB => RsPost.same (w' := w') hb hQ hv hB)
      subst hvv
      clear h1 h2 he hb hQ hv hd hlc
      go_enter Tryd.func27, Tryd.ntmps27
      go_wp2_with fail
      go_quiet (fail)
      go_wp2_with fail
      go_ret
      exact ⟨rfl, by rw [putQ_no _ _ (by decide)]; exact HP.out _ (below_drewN (Below.refl _ _) _)⟩
    · have d2 : decide (que ≤ (all.length : Int) - (went : Int)) = false := decide_eq_false h2
      rw [if_neg h2] at q1
      subst q1
      subst hvv
      have HB := hide hb; have HQ := hide hQ; have HV := hide hv; have HG := hide hg; have HBA := hide hbase; have HL := hide hq
      obtain ⟨i0, hi, hz0, hz1, hz2⟩ := vs_info_parts str_info
      clear h1 h2 he hb hQ hv hd hlc hbase hg
      go_enter Tryd.func27, Tryd.ntmps27
      go_wp2_with fail
      go_quiet (fail)
      go_wp2_with (at_builtin; go_must (refine wpList_append_q _ rfl (.tmp 27) (.tmp 29) _ rfl base 9 i0 _ 16 Tryd.underlying53 hi hz0 hz1 hz2 rfl (.slice ao all.length c) (sv all) rfl (by exact (HQ.out.drewN _).alloc _) w.heap.size 0 1 (.string d) rfl (by exact (Blk.new (w.drewN _) 9 #[.string d]).cells1.1) rfl (by have := HL.out; simp [maxLen, sv_len]; omega) (by have := HL.out; simp [sv_len]; omega) (by have := HBA.out; simp; omega) ?_); intro g1 o1 cap1 w3 hQ3 hgr ho hb1 hlt1; have HQ3 := hide hQ3; have HB3 := hide (((HB.out.drewN _).alloc _).grown hgr (fun e => HG.out e.symm)); have HK3 := hide ((((Kept2.refl w g (Value.slice ao all.length c).ownBlock).drewN _).alloc _).grown_vb hgr); have HO := hide ho; have HL1 := hide hlt1; have hf := HB3.out.frozen 2; obtain ⟨_, _, e4, _, _, _⟩ := HB3.out.cells6; clear hQ3 hgr ho hb1 hlt1)
      go_ret
      have hne : (Value.slice (some ⟨g1, o1, none⟩) ((sv all).length + 1) cap1).ownBlock ≠ some g := by
        intro e
        simp [Value.ownBlock] at e
        subst e
        rcases HO.out with h | h
        · exact HG.out h
        · have := HB.out.lt; simp at h; omega
      refine ⟨rfl, _, HB3.out.set_ 2 _, ?_, HK3.out.set_ 2 _, ?_⟩
      · rw [putQ_zero, sv_snoc]
        exact QAt.far (p := ⟨g, 2, none⟩) HQ3.out hne _
      · intro k e
        simp [Value.ownBlock] at e
        subst e
        refine ⟨by simpa [World.setCell] using HL1.out, ?_⟩
        rcases HO.out with h | h
        · exact .inl h
        · right; simp at h; omega

/-- What Send leaves. -/
def RnPost (w : World) (base g : Nat) (bag que : Int) (v : Value) (went : Nat) (last nw : Int) (all : List ByteArray) (now e : Int) (r : Ending) (w' : World) : Prop :=
  (e ≠ 0 ∧ r = .returned (.tuple #[.int .i64 0, .string ⟨#[]⟩, .int .i64 e]) ∧ RsPost w base g bag que v went last (sdN e now nw) all w') ∨
  (e = 0 ∧ ∃ d, all[went]? = some d ∧ r = .returned (.tuple #[.int .i64 (ordr went), .string d, .int .i64 0]) ∧ RsPost w base g bag que v ((went + 1 : Nat) : Int) now now all w')
theorem rs_set {w w' : World} {nw2 : Int} (hb : Blk w' g 55 (rsC bag que v went last nw)) (hQ : QAt w' base 9 v (sv all)) (hk : Kept2 w w' g v.ownBlock) (hg : v.ownBlock ≠ some g) (hv : ∀ k, v.ownBlock = some k → k < w.heap.size) :
    RsPost w base g bag que v went last nw2 all (w'.setCell ⟨g, 5, none⟩ (.int .i64 nw2)) :=
  ⟨v, hb.set_ 5 _, hQ.far (p := ⟨g, 5, none⟩) hg _, hk.set_ 5 _, fun k e => ⟨Nat.lt_of_lt_of_le (hv k e) (by simpa [World.setCell] using hk.size), .inl e⟩⟩
theorem RsPost.drewN {w w' : World} (h : RsPost w base g bag que v went last nw all w') (n : Nat) : RsPost w base g bag que v went last nw all (w'.drewN n) := by
  obtain ⟨v', a, b, c, d⟩ := h
  exact ⟨v', a.drewN n, b.drewN n, c.drewN n, d⟩
set_option maxRecDepth 100000 in
set_option maxHeartbeats 2000000 in
theorem rsend_any (w : World) (now : Int) (e : Int) (he : Hid (rsE now last nw bag went all.length = e)) (hb : Blk w g 55 (rsC bag que v went last nw)) (hQ : QAt w base 9 v (sv all)) (hv : ∀ k, v.ownBlock = some k → k < w.heap.size) (hg : v.ownBlock ≠ some g) (hla : 0 ≤ last ∧ last ≤ 1099511627776) (hbag : 1 ≤ bag ∧ bag ≤ 1099511627776) (hq : all.length ≤ 1000) (hw : went ≤ all.length) :
    Calls Tryd.prog 28 #[.pointer (some ⟨g, 0, none⟩), .int .i64 now] w fun r w' =>
      RnPost w base g bag que v went last nw all now e r w' := by
  have q1 := he.out
  unfold rsE at q1
  obtain ⟨ao, c, hvv, hlc⟩ := hQ.shape
  obtain ⟨c0, c1, c2, c3, c4, c5⟩ := hb.cells6
  rw [sv_len] at hvv hlc
  by_cases h1 : now < 0 ∨ 1099511627776 < now
  · have d1 : inB now 0 1099511627776 = false := by unfold inB; simp; omega
    rw [if_pos h1] at q1
    subst q1
    have HP := hide (fun w' hB => RsPost.same (w' := w') hb hQ hv hB)
    clear h1 he hb hQ hv hq hw
    go_enter Tryd.func28, Tryd.ntmps28
    go_wp2_with fail
    refine (in_is now 0 1099511627776 false d1 _).mono ?_
    rintro e w2 ⟨rfl, rfl⟩
    go_wp2_with fail
    go_ret3
    exact Or.inl ⟨by decide, rfl, HP.out _ (Below.refl _ _)⟩
  · have d1 : inB now 0 1099511627776 = true := by unfold inB; simp; omega
    rw [if_neg h1] at q1
    have hnow : 0 ≤ now ∧ now ≤ 1099511627776 := by omega
    by_cases h2 : now < nw
    · have d2 : decide (now < nw) = true := decide_eq_true h2
      rw [if_pos h2] at q1
      subst q1
      have HP := hide (fun w' hB => RsPost.same (w' := w') hb hQ hv hB)
      clear h1 h2 he hb hQ hv hq hw
      go_enter Tryd.func28, Tryd.ntmps28
      go_wp2_with fail
      refine (in_is now 0 1099511627776 true d1 _).mono ?_
      rintro e w2 ⟨rfl, rfl⟩
      go_wp2_with fail
      go_ret3
      exact Or.inl ⟨by decide, rfl, HP.out _ (Below.refl _ _)⟩
    · have d2 : decide (now < nw) = false := decide_eq_false h2
      rw [if_neg h2] at q1
      obtain ⟨W1, hW1⟩ : ∃ W1, W1 = w.setCell ⟨g, 5, none⟩ (.int .i64 now) := ⟨_, rfl⟩
      have hB1 : Blk W1 g 55 (rsC bag que v went last now) := by rw [hW1]; exact hb.set_ 5 _
      have hQ1 : QAt W1 base 9 v (sv all) := by rw [hW1]; exact hQ.far (p := ⟨g, 5, none⟩) hg _
      have hK1 : Kept2 w W1 g v.ownBlock := by rw [hW1]; exact (Kept2.refl w g _).set_ 5 _
      have hfz := hb.frozen 5
      have HB1 := hide hB1; have HQ1 := hide hQ1; have HK1 := hide hK1; have HV := hide hv; have HG := hide hg; have HLT := hide hb.lt
      clear h1 h2 he hb hQ hv hQ1 hK1 hg
      obtain ⟨b, hbb⟩ : ∃ b : Bool, decide (went = all.length ∨ (0 < went ∧ now < last + bag)) = b := ⟨_, rfl⟩
      go_enter Tryd.func28, Tryd.ntmps28
      go_wp2_with fail
      refine (in_is now 0 1099511627776 true d1 _).mono ?_
      rintro e w2 ⟨rfl, rfl⟩
      go_wp2_with fail
      rw [← hW1]
      clear hW1 c0 c1 c2 c3 c4 c5 hfz
      obtain ⟨c0, c1, c2, c3, c4, c5⟩ := hB1.cells6
      clear hB1
      go_upto_region 6 with fail
      go_cut [49] from 20 to 49 (fun v wx => v = .bool b ∧ ∃ n, wx = W1.drewN n)
      case first =>
        subst hvv
        by_cases e1 : went = all.length
        · obtain rfl : true = b := by rw [← hbb]; simp [e1]
          have d3 : ((went : Int) == (all.length : Int)) = true := by rw [e1]; simp
          clear e1 hbb
          go_quiet (fail)
          go_wp2_with fail
          go_meet
          case rel => exact ⟨rfl, _, rfl⟩
        · have d3 : ((went : Int) == (all.length : Int)) = false := by rw [beq_eq_false_iff_ne]; omega
          by_cases e2 : 0 < went
          · have d4 : decide ((0 : Int) < (went : Int)) = true := decide_eq_true (by omega)
            have d4' : decide (0 < went) = true := decide_eq_true (by omega)
            have d5 : decide (now < last + bag) = b := by rw [← hbb]; apply decide_eq_decide.2; omega
            clear e1 e2 hbb
            go_quiet (fail)
            go_wp2_with fail
            go_meet
            case rel => exact ⟨rfl, _, rfl⟩
          · have d4 : decide ((0 : Int) < (went : Int)) = false := decide_eq_false (by omega)
            have d4' : decide (0 < went) = false := decide_eq_false (by omega)
            obtain rfl : false = b := by rw [← hbb]; symm; apply decide_eq_false; omega
            clear e1 e2 hbb
            go_quiet (fail)
            go_wp2_with fail
            go_meet
            case rel => exact ⟨rfl, _, rfl⟩
      case rest =>
        obtain ⟨rfl, nq, rfl⟩ := hcut
        have HB2 := hide (HB1.out.drewN nq); have HQ2 := hide (HQ1.out.drewN nq); have HK2 := hide (HK1.out.drewN nq)
        obtain ⟨W2, hW2⟩ : ∃ W2, W2 = W1.drewN nq := ⟨_, rfl⟩
        rw [← hW2] at HB2 HQ2 HK2 ⊢
        clear hW2 HB1 HQ1 HK1 c0 c1 c2 c3 c4 c5
        obtain ⟨c0, c1, c2, c3, c4, c5⟩ := HB2.out.cells6
        have hns : sdN 8 now nw = now := by unfold sdN; rw [if_neg (by decide)]
        cases b
        case true =>
          have hE := of_decide_eq_true hbb
          rw [if_pos hE] at q1
          subst q1
          clear hbb hE
          go_wp2_with fail
          go_ret3
          exact Or.inl ⟨by decide, rfl, by rw [hns]; exact ⟨v, HB2.out, HQ2.out, HK2.out, fun k e => ⟨Nat.lt_of_lt_of_le (HV.out k e) HK2.out.size, .inl e⟩⟩⟩
        case false =>
          have hE := of_decide_eq_false hbb
          rw [if_neg hE] at q1
          subst q1
          have hlt : went < all.length := by omega
          have hgo : all[went]? = some all[went] := List.getElem?_eq_getElem hlt
          obtain ⟨d, hd⟩ : ∃ d, all[went] = d := ⟨_, rfl⟩
          rw [hd] at hgo
          have HD := hide hgo
          clear hbb hE hns hd hgo
          subst hvv
          obtain ⟨gq, off, rfl, hbq, hlq, hcq⟩ := HQ2.out.block (by omega)
          have hcell : W2.cell? ⟨gq, off + went, none⟩ = some (.string d) := by rw [hcq went hlt]; simp [sv, HD.out]
          have HBQ := hide hbq; have HCQ := hide hcq
          have f3 := HB2.out.frozen 3; have f4 := HB2.out.frozen 4
          have hgq : g ≠ gq := by rintro rfl; exact HG.out rfl
          have hgq2 : gq ≠ g := Ne.symm hgq
          clear hbq hcq
          go_upto_region 10 with fail
          have HB3 := hide (show Blk ((W2.setCell ⟨g, 4, none⟩ (.int .i64 now)).setCell ⟨g, 3, none⟩ (.int .i64 ((went : Int) + 1))) g 55 (rsC bag que (.slice (some ⟨gq, off, none⟩) all.length c) ((went : Int) + 1) now now) from (HB2.out.set_ 4 _).set_ 3 _)
          have HQ3 := hide ((HQ2.out.far (p := ⟨g, 4, none⟩) HG.out (.int .i64 now)).far (p := ⟨g, 3, none⟩) HG.out (.int .i64 ((went : Int) + 1)))
          have HK3 := hide ((HK2.out.set_ 4 (.int .i64 now)).set_ 3 (.int .i64 ((went : Int) + 1)))
          obtain ⟨W3, hW3⟩ : ∃ W3, W3 = (W2.setCell ⟨g, 4, none⟩ (.int .i64 now)).setCell ⟨g, 3, none⟩ (.int .i64 ((went : Int) + 1)) := ⟨_, rfl⟩
          rw [← hW3] at HB3 HQ3 HK3 ⊢
          clear hW3 HB2 HQ2 HK2 c0 c1 c2 c3 c4 c5 hcell f3 f4
          obtain ⟨gq', off', e', _, _, hcq⟩ := HQ3.out.block (by omega)
          cases e'
          have hcell : W3.cell? ⟨gq, off + went, none⟩ = some (.string d) := by rw [hcq went hlt]; simp [sv, HD.out]
          obtain ⟨c0, c1, c2, c3, c4, c5⟩ := HB3.out.cells6
          have hi1 : (went : Int) < (all.length : Int) := by omega
          have hi2 : (0 : Int) ≤ (went : Int) := by omega
          have hw1 : (went : Int) + 1 - 1 = (went : Int) := by omega
          have HO := hide (fun w0 => order_any went w0 (by omega))
          clear hcq
          go_quiet ((go_at_call 74; with_reducible exact Calls.quiet_of_same (HO.out _)))
          go_wp2_with fail
          go_ret3
          exact Or.inr ⟨rfl, d, HD.out, rfl, ⟨_, HB3.out.drewN _, HQ3.out.drewN _, HK3.out.drewN _, fun k e => ⟨Nat.lt_of_lt_of_le (HV.out k e) HK3.out.size, .inl e⟩⟩⟩
end
end Go.Proofs.YtgdljdhibknjnabDoor
