/- The contract of metronomeref.windows; condition: the windows lie in memory. -/
import Derived.Test.YtfdadkngbnhmeaaDoorSl
import Derived.Laws.MakeOwn
import Derived.Test.YtfdadkngbnhmeaaDoorIn
import Derived.Test.YtfdadkngbnhmeaaDoorEp
import Derived.Deep.Cut
import Derived.Deep.CutRange
import Derived.Deep.CutBlock
namespace Go.Proofs.YtfdadkngbnhmeaaDoor
open Go.RowKit

/-- metronomeref.Fine, as start-up lays it. -/
def FinT (w : World) : Prop := w.cell? ⟨0, 0, none⟩ = some (.int .i64 0) ∧ w.cell? ⟨0, 1, none⟩ = some (.int .i64 (-1))
theorem FinT.below {w w' : World} (h : FinT w) (hB : Below w.heap.size w w') : FinT w' :=
  ⟨(hB.cell (p := ⟨0, 0, none⟩) (World.block_lt_of_cell? _ _ h.1)).trans h.1, (hB.cell (p := ⟨0, 1, none⟩) (World.block_lt_of_cell? _ _ h.2)).trans h.2⟩
theorem FinT.alloc {w : World} (h : FinT w) (o : Obj) : FinT (w.alloc o) := h.below ((Below.refl _ _).alloc (Nat.le_refl _) o)
theorem wnE_one {fr lo : Int} {x : Wn} (h : x.t ≤ x.f) : wnE fr lo x = 1 := by unfold wnE spE; rw [if_pos h]; rfl
theorem wnE_ord {fr lo : Int} {x : Wn} (h : ¬ x.t ≤ x.f) (h1 : x.f < lo) : wnE fr lo x = 10 := by unfold wnE spE; rw [if_neg h, if_pos h1]; rfl
theorem wnE_rng {fr lo : Int} {x : Wn} (h : ¬ x.t ≤ x.f) (h1 : ¬ x.f < lo) (h2 : fr < x.t) : wnE fr lo x = 2 := by unfold wnE spE; rw [if_neg h, if_neg h1, if_pos h2]; rfl
theorem wnE_mis {fr lo : Int} {x : Wn} (h : ¬ x.t ≤ x.f) (h1 : ¬ x.f < lo) (h2 : ¬ fr < x.t) (h3 : x.p < 0 ∨ 5 < x.p) : wnE fr lo x = 7 := by unfold wnE spE; rw [if_neg h, if_neg h1, if_neg h2, if_neg (by decide), if_pos h3]
theorem wnE_ok {fr lo : Int} {x : Wn} (h : ¬ x.t ≤ x.f) (h1 : ¬ x.f < lo) (h2 : ¬ fr < x.t) (h3 : ¬ (x.p < 0 ∨ 5 < x.p)) : wnE fr lo x = 0 := by unfold wnE spE; rw [if_neg h, if_neg h1, if_neg h2, if_neg (by decide), if_neg h3]
theorem zeros_succ {fr : Int} {ws : List Wn} {k : Nat} {x : Wn} (h0 : ∀ j, j < k → (wnEs fr 0 ws)[j]? = some 0) (hx : ws[k]? = some x) (he : wnE fr (wnLo 0 ws k) x = 0) : ∀ j, j < k + 1 → (wnEs fr 0 ws)[j]? = some 0 := by
  intro j hj
  rcases Nat.lt_or_ge j k with h | h
  · exact h0 j h
  · obtain rfl : j = k := by omega
    rw [wnEs_at fr 0 ws j x hx, he]
/-- What windows answers. -/
def RwnPost (w : World) (fr : Int) (ws : List Wn) (r : Ending) (w' : World) : Prop := r = .returned (.tuple #[.int .i64 (firstE (wnEs fr 0 ws) 0).1, .int .i64 ((firstE (wnEs fr 0 ws) 0).2 : Nat)]) ∧ Below w.heap.size w w'
theorem RwnPost.at_ {w w' : World} {fr : Int} {ws : List Wn} {k : Nat} {x : Wn} {e : Int} (h0 : ∀ j, j < k → (wnEs fr 0 ws)[j]? = some 0) (hx : ws[k]? = some x) (he : wnE fr (wnLo 0 ws k) x = e) (h1 : e ≠ 0) (hB : Below w.heap.size w w') : RwnPost w fr ws (.returned (.tuple #[.int .i64 e, .int .i64 (k : Nat)])) w' := by
  have := firstE_at (wnEs fr 0 ws) k e h0 (by rw [wnEs_at fr 0 ws k x hx, he]) h1
  unfold RwnPost; rw [this]; exact ⟨rfl, hB⟩
theorem RwnPost.fine {w w' : World} {fr : Int} {ws : List Wn} (h0 : ∀ j, j < ws.length → (wnEs fr 0 ws)[j]? = some 0) (hB : Below w.heap.size w w') : RwnPost w fr ws (.returned (.tuple #[.int .i64 0, .int .i64 0])) w' := by
  have := firstE_none (wnEs fr 0 ws) 0 (by rw [wnEs_len]; exact h0)
  unfold RwnPost; rw [this]; exact ⟨rfl, hB⟩
set_option maxRecDepth 100000 in
set_option maxHeartbeats 4000000 in
theorem rwin_any (A : Option Addr) (n c : Nat) (fr : Int) (ws : List Wn) (w : World) (hn : n ≤ 1000) (hws : ws.length = n) (hW : WinsAt w A n ws) :
    Calls Tryd.prog 46 #[.slice A n c, .int .i64 fr] w (RwnPost w fr ws) := by
  have HW := hide hW; have HWS := hide hws; clear hW hws
  go_enter Tryd.func46, Tryd.ntmps46
  go_wp2_with fail
  go_loopw [10] (fun i wr => ∃ k : Nat, k ≤ n ∧ i = .int .i64 k ∧ Hid (∀ j, j < k → (wnEs fr 0 ws)[j]? = some 0) ∧ Hid (Below w.heap.size w wr)) (fun i _ => n - (intOf i).toNat)
  case atStart => exact ⟨0, by omega, rfl, hide (fun j hj => by omega), hide (Below.refl _ _)⟩
  case round =>
    obtain ⟨k, hk, rfl, HF, HB⟩ := hrel
    by_cases hlt : k < n
    · have hW2 := HW.out.below HB.out
      obtain ⟨b, off, rfl, x, hx, c0, c1, c2⟩ := hW2 k hlt
      have HX := hide hx
      have HB2 := hide (HB.out.alloc HB.out.size (.cells #[.int .i64 x.p, .int .i64 x.f, .int .i64 x.t] 70))
      clear hx hW2
      by_cases h1 : x.t ≤ x.f
      · have d1 : decide (x.t ≤ x.f) = true := decide_eq_true h1
        have HE := hide (wnE_one (fr := fr) (lo := wnLo 0 ws k) h1)
        clear h1
        go_wp2_with fail
        go_ret2
        exact RwnPost.at_ HF.out HX.out HE.out (by decide) HB2.out
      · have d1 : decide (x.t ≤ x.f) = false := decide_eq_false h1
        cases k with
        | zero =>
          simp only [Nat.zero_mul, Nat.add_zero] at c0 c1 c2
          have HLO := hide (wnLo_zero 0 ws)
          by_cases h2 : x.f < 0
          · have d2 : decide (x.f < 0) = true := decide_eq_true h2
            have HE := hide (wnE_ord (fr := fr) (lo := 0) h1 h2)
            clear h1 h2
            go_wp2_with fail
            go_ret2
            exact RwnPost.at_ HF.out HX.out (by rw [HLO.out]; exact HE.out) (by decide) HB2.out
          have d2 : decide (x.f < 0) = false := decide_eq_false h2
          by_cases h3 : fr < x.t
          · have d3 : decide (fr < x.t) = true := decide_eq_true h3
            have HE := hide (wnE_rng (fr := fr) (lo := 0) h1 h2 h3)
            clear h1 h2 h3
            go_wp2_with fail
            go_quiet (fail)
            go_wp2_with fail
            go_ret2
            exact RwnPost.at_ HF.out HX.out (by rw [HLO.out]; exact HE.out) (by decide) (below_drewN HB2.out _)
          · have d3 : decide (fr < x.t) = false := decide_eq_false h3
            cases h4 : inB x.p 0 5
            case false =>
              have HE := hide (wnE_mis (fr := fr) (lo := 0) h1 h2 h3 (by unfold inB at h4; simp at h4; omega))
              clear h1 h2 h3
              go_wp2_with fail
              go_quiet (fail)
              go_wp2_with fail
              refine (in_is x.p 0 5 false h4 _).mono ?_
              rintro e w3 ⟨rfl, rfl⟩
              go_wp2_with fail
              go_ret2
              exact RwnPost.at_ HF.out HX.out (by rw [HLO.out]; exact HE.out) (by decide) (below_drewN HB2.out _)
            case true =>
              have HE := hide (wnE_ok (fr := fr) (lo := 0) h1 h2 h3 (by unfold inB at h4; simp at h4; omega))
              clear h1 h2 h3
              go_wp2_with fail
              go_quiet (fail)
              go_wp2_with fail
              refine (in_is x.p 0 5 true h4 _).mono ?_
              rintro e w3 ⟨rfl, rfl⟩
              go_wp2_with fail
              go_roundw
              case rel => exact ⟨0 + 1, by omega, by go_num, hide (zeros_succ HF.out HX.out (by rw [HLO.out]; exact HE.out)), hide (below_drewN HB2.out _)⟩
              case measure => simp [intOf]; omega
        | succ j =>
          obtain ⟨b', off', e', y, hy, _, _, k2⟩ := (HW.out.below HB.out) j (by omega)
          cases e'
          have k2' := (World.cell?_alloc_lt wr (.cells #[.int .i64 x.p, .int .i64 x.f, .int .i64 x.t] 70) ⟨b, off + j * 3 + 2, none⟩ (World.block_lt_of_cell? _ _ k2)).trans k2
          have HLO := hide (wnLo_succ 0 ws j y hy)
          have hj1 : ((j : Int) + 1 == 0) = false := by rw [beq_eq_false_iff_ne]; omega
          have hj2 : decide ((0 : Int) < (j : Int) + 1) = true := decide_eq_true (by omega)
          have hjn : (j : Int) < (n : Int) := by omega
          clear hy
          by_cases h2 : x.f < y.t
          · have d2 : decide (x.f < y.t) = true := decide_eq_true h2
            have HE := hide (wnE_ord (fr := fr) (lo := y.t) h1 h2)
            clear h1 h2
            go_wp2_with fail
            go_quiet (fail)
            go_wp2_with fail
            go_ret2
            exact RwnPost.at_ HF.out HX.out (by rw [HLO.out]; exact HE.out) (by decide) (below_drewN HB2.out _)
          have d2 : decide (x.f < y.t) = false := decide_eq_false h2
          by_cases h3 : fr < x.t
          · have d3 : decide (fr < x.t) = true := decide_eq_true h3
            have HE := hide (wnE_rng (fr := fr) (lo := y.t) h1 h2 h3)
            clear h1 h2 h3
            go_wp2_with fail
            go_quiet (fail)
            go_wp2_with fail
            go_ret2
            exact RwnPost.at_ HF.out HX.out (by rw [HLO.out]; exact HE.out) (by decide) (below_drewN HB2.out _)
          · have d3 : decide (fr < x.t) = false := decide_eq_false h3
            cases h4 : inB x.p 0 5
            case false =>
              have HE := hide (wnE_mis (fr := fr) (lo := y.t) h1 h2 h3 (by unfold inB at h4; simp at h4; omega))
              clear h1 h2 h3
              go_wp2_with fail
              go_quiet (fail)
              go_wp2_with fail
              refine (in_is x.p 0 5 false h4 _).mono ?_
              rintro e w3 ⟨rfl, rfl⟩
              go_wp2_with fail
              go_ret2
              exact RwnPost.at_ HF.out HX.out (by rw [HLO.out]; exact HE.out) (by decide) (below_drewN HB2.out _)
            case true =>
              have HE := hide (wnE_ok (fr := fr) (lo := y.t) h1 h2 h3 (by unfold inB at h4; simp at h4; omega))
              clear h1 h2 h3
              go_wp2_with fail
              go_quiet (fail)
              go_wp2_with fail
              refine (in_is x.p 0 5 true h4 _).mono ?_
              rintro e w3 ⟨rfl, rfl⟩
              go_wp2_with fail
              go_roundw
              case rel => exact ⟨j + 1 + 1, by omega, by go_num, hide (zeros_succ HF.out HX.out (by rw [HLO.out]; exact HE.out)), hide (below_drewN HB2.out _)⟩
              case measure => simp [intOf]; omega
    · obtain rfl : n = k := by omega
      go_wp2_with fail
      go_ret2
      exact RwnPost.fine (by rw [HWS.out]; exact HF.out) HB.out
end Go.Proofs.YtfdadkngbnhmeaaDoor
