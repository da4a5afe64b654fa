/- The contracts of metronomeref.windows, Windows and At; conditions: the windows lie in memory; metronomeref.Fine holds what start-up lays there. -/
import Derived.Test.YtgdljdhibknjnabDoorPn
import Derived.Test.YtgdljdhibknjnabDoorIn
import Derived.Test.YtgdljdhibknjnabDoorEp
import Derived.Deep.Cut
import Derived.Deep.CutRange
import Derived.Deep.CutBlock
namespace Go.Proofs.YtgdljdhibknjnabDoor
open Go.RowKit

/-- metronomeref.Fine, as start-up lays it. -/
def FinT (w : World) : Prop := w.cell? ⟨0, 0, none⟩ = some (.int .i64 0) ∧ w.cell? ⟨0, 1, none⟩ = some (.int .i64 (-1))
theorem FinT.below {w w' : World} (h : FinT w) (hB : Below w.heap.size w w') : FinT w' :=
  ⟨(hB.cell (p := ⟨0, 0, none⟩) (World.block_lt_of_cell? _ _ h.1)).trans h.1, (hB.cell (p := ⟨0, 1, none⟩) (World.block_lt_of_cell? _ _ h.2)).trans h.2⟩
theorem FinT.alloc {w : World} (h : FinT w) (o : Obj) : FinT (w.alloc o) := h.below ((Below.refl _ _).alloc (Nat.le_refl _) o)
theorem wnE_one {fr lo : Int} {x : Wn} (h : x.t ≤ x.f) : wnE fr lo x = 1 := by unfold wnE spE; rw [if_pos h]; rfl
theorem wnE_ord {fr lo : Int} {x : Wn} (h : ¬ x.t ≤ x.f) (h1 : x.f < lo) : wnE fr lo x = 10 := by unfold wnE spE; rw [if_neg h, if_pos h1]; rfl
theorem wnE_rng {fr lo : Int} {x : Wn} (h : ¬ x.t ≤ x.f) (h1 : ¬ x.f < lo) (h2 : fr < x.t) : wnE fr lo x = 2 := by unfold wnE spE; rw [if_neg h, if_neg h1, if_pos h2]; rfl
theorem wnE_mis {fr lo : Int} {x : Wn} (h : ¬ x.t ≤ x.f) (h1 : ¬ x.f < lo) (h2 : ¬ fr < x.t) (h3 : x.p < 0 ∨ 5 < x.p) : wnE fr lo x = 7 := by unfold wnE spE; rw [if_neg h, if_neg h1, if_neg h2, if_neg (by decide), if_pos h3]
theorem wnE_ok {fr lo : Int} {x : Wn} (h : ¬ x.t ≤ x.f) (h1 : ¬ x.f < lo) (h2 : ¬ fr < x.t) (h3 : ¬ (x.p < 0 ∨ 5 < x.p)) : wnE fr lo x = 0 := by unfold wnE spE; rw [if_neg h, if_neg h1, if_neg h2, if_neg (by decide), if_neg h3]
theorem zeros_succ {fr : Int} {ws : List Wn} {k : Nat} {x : Wn} (h0 : ∀ j, j < k → (wnEs fr 0 ws)[j]? = some 0) (hx : ws[k]? = some x) (he : wnE fr (wnLo 0 ws k) x = 0) : ∀ j, j < k + 1 → (wnEs fr 0 ws)[j]? = some 0 := by
  intro j hj
  rcases Nat.lt_or_ge j k with h | h
  · exact h0 j h
  · obtain rfl : j = k := by omega
    rw [wnEs_at fr 0 ws j x hx, he]
/-- What windows answers. -/
def RwnPost (w : World) (fr : Int) (ws : List Wn) (r : Ending) (w' : World) : Prop := r = .returned (.tuple #[.int .i64 (firstE (wnEs fr 0 ws) 0).1, .int .i64 ((firstE (wnEs fr 0 ws) 0).2 : Nat)]) ∧ Below w.heap.size w w'
theorem RwnPost.at_ {w w' : World} {fr : Int} {ws : List Wn} {k : Nat} {x : Wn} {e : Int} (h0 : ∀ j, j < k → (wnEs fr 0 ws)[j]? = some 0) (hx : ws[k]? = some x) (he : wnE fr (wnLo 0 ws k) x = e) (h1 : e ≠ 0) (hB : Below w.heap.size w w') : RwnPost w fr ws (.returned (.tuple #[.int .i64 e, .int .i64 (k : Nat)])) w' := by
  have := firstE_at (wnEs fr 0 ws) k e h0 (by rw [wnEs_at fr 0 ws k x hx, he]) h1
  unfold RwnPost; rw [this]; exact ⟨rfl, hB⟩
theorem RwnPost.fine {w w' : World} {fr : Int} {ws : List Wn} (h0 : ∀ j, j < ws.length → (wnEs fr 0 ws)[j]? = some 0) (hB : Below w.heap.size w w') : RwnPost w fr ws (.returned (.tuple #[.int .i64 0, .int .i64 0])) w' := by
  have := firstE_none (wnEs fr 0 ws) 0 (by rw [wnEs_len]; exact h0)
  unfold RwnPost; rw [this]; exact ⟨rfl, hB⟩
set_option maxRecDepth 100000 in
set_option maxHeartbeats 4000000 in
theorem rwin_any (A : Option Addr) (n c : Nat) (fr : Int) (ws : List Wn) (w : World) (hn : n ≤ 1000) (hws : ws.length = n) (hW : WinsAt w A n ws) :
    Calls Tryd.prog 77 #[.slice A n c, .int .i64 fr] w (RwnPost w fr ws) := by
  have HW := hide hW; have HWS := hide hws; clear hW hws
  go_enter Tryd.func77, Tryd.ntmps77
  go_wp2_with fail
  go_loopw [10] (fun i wr => ∃ k : Nat, k ≤ n ∧ i = .int .i64 k ∧ Hid (∀ j, j < k → (wnEs fr 0 ws)[j]? = some 0) ∧ Hid (Below w.heap.size w wr)) (fun i _ => n - (intOf i).toNat)
  case atStart => exact ⟨0, by omega, rfl, hide (fun j hj => by omega), hide (Below.refl _ _)⟩
  case round =>
    obtain ⟨k, hk, rfl, HF, HB⟩ := hrel
    by_cases hlt : k < n
    · have hW2 := HW.out.below HB.out
      obtain ⟨b, off, rfl, x, hx, c0, c1, c2⟩ := hW2 k hlt
      have HX := hide hx
      have HB2 := hide (HB.out.alloc HB.out.size (.cells #[.int .i64 x.p, .int .i64 x.f, .int .i64 x.t] 133))
      clear hx hW2
      by_cases h1 : x.t ≤ x.f
      · have d1 : decide (x.t ≤ x.f) = true := decide_eq_true h1
        have HE := hide (wnE_one (fr := fr) (lo := wnLo 0 ws k) h1)
        clear h1
        go_wp2_with fail
        go_ret2
        exact RwnPost.at_ HF.out HX.out HE.out (by decide) HB2.out
      · have d1 : decide (x.t ≤ x.f) = false := decide_eq_false h1
        cases k with
        | zero =>
          simp only [Nat.zero_mul, Nat.add_zero] at c0 c1 c2
          have HLO := hide (wnLo_zero 0 ws)
          by_cases h2 : x.f < 0
          · have d2 : decide (x.f < 0) = true := decide_eq_true h2
            have HE := hide (wnE_ord (fr := fr) (lo := 0) h1 h2)
            clear h1 h2
            go_wp2_with fail
            go_ret2
            exact RwnPost.at_ HF.out HX.out (by rw [HLO.out]; exact HE.out) (by decide) HB2.out
          have d2 : decide (x.f < 0) = false := decide_eq_false h2
          by_cases h3 : fr < x.t
          · have d3 : decide (fr < x.t) = true := decide_eq_true h3
            have HE := hide (wnE_rng (fr := fr) (lo := 0) h1 h2 h3)
            clear h1 h2 h3
            go_wp2_with fail
            go_quiet (fail)
            go_wp2_with fail
            go_ret2
            exact RwnPost.at_ HF.out HX.out (by rw [HLO.out]; exact HE.out) (by decide) (below_drewN HB2.out _)
          · have d3 : decide (fr < x.t) = false := decide_eq_false h3
            cases h4 : inB x.p 0 5
            case false =>
              have HE := hide (wnE_mis (fr := fr) (lo := 0) h1 h2 h3 (by unfold inB at h4; simp at h4; omega))
              clear h1 h2 h3
              go_wp2_with fail
              go_quiet (fail)
              go_wp2_with fail
              refine (in_is x.p 0 5 false h4 _).mono ?_
              rintro e w3 ⟨rfl, rfl⟩
              go_wp2_with fail
              go_ret2
              exact RwnPost.at_ HF.out HX.out (by rw [HLO.out]; exact HE.out) (by decide) (below_drewN HB2.out _)
            case true =>
              have HE := hide (wnE_ok (fr := fr) (lo := 0) h1 h2 h3 (by unfold inB at h4; simp at h4; omega))
              clear h1 h2 h3
              go_wp2_with fail
              go_quiet (fail)
              go_wp2_with fail
              refine (in_is x.p 0 5 true h4 _).mono ?_
              rintro e w3 ⟨rfl, rfl⟩
              go_wp2_with fail
              go_roundw
              case rel => exact ⟨0 + 1, by omega, by go_num, hide (zeros_succ HF.out HX.out (by rw [HLO.out]; exact HE.out)), hide (below_drewN HB2.out _)⟩
              case measure => simp [intOf]; omega
        | succ j =>
          obtain ⟨b', off', e', y, hy, _, _, k2⟩ := (HW.out.below HB.out) j (by omega)
          cases e'
          have k2' := (World.cell?_alloc_lt wr (.cells #[.int .i64 x.p, .int .i64 x.f, .int .i64 x.t] 133) ⟨b, off + j * 3 + 2, none⟩ (World.block_lt_of_cell? _ _ k2)).trans k2
          have HLO := hide (wnLo_succ 0 ws j y hy)
          have hj1 : ((j : Int) + 1 == 0) = false := by rw [beq_eq_false_iff_ne]; omega
          have hj2 : decide ((0 : Int) < (j : Int) + 1) = true := decide_eq_true (by omega)
          have hjn : (j : Int) < (n : Int) := by omega
          clear hy
          by_cases h2 : x.f < y.t
          · have d2 : decide (x.f < y.t) = true := decide_eq_true h2
            have HE := hide (wnE_ord (fr := fr) (lo := y.t) h1 h2)
            clear h1 h2
            go_wp2_with fail
            go_quiet (fail)
            go_wp2_with fail
            go_ret2
            exact RwnPost.at_ HF.out HX.out (by rw [HLO.out]; exact HE.out) (by decide) (below_drewN HB2.out _)
          have d2 : decide (x.f < y.t) = false := decide_eq_false h2
          by_cases h3 : fr < x.t
          · have d3 : decide (fr < x.t) = true := decide_eq_true h3
            have HE := hide (wnE_rng (fr := fr) (lo := y.t) h1 h2 h3)
            clear h1 h2 h3
            go_wp2_with fail
            go_quiet (fail)
            go_wp2_with fail
            go_ret2
            exact RwnPost.at_ HF.out HX.out (by rw [HLO.out]; exact HE.out) (by decide) (below_drewN HB2.out _)
          · have d3 : decide (fr < x.t) = false := decide_eq_false h3
            cases h4 : inB x.p 0 5
            case false =>
              have HE := hide (wnE_mis (fr := fr) (lo := y.t) h1 h2 h3 (by unfold inB at h4; simp at h4; omega))
              clear h1 h2 h3
              go_wp2_with fail
              go_quiet (fail)
              go_wp2_with fail
              refine (in_is x.p 0 5 false h4 _).mono ?_
              rintro e w3 ⟨rfl, rfl⟩
              go_wp2_with fail
              go_ret2
              exact RwnPost.at_ HF.out HX.out (by rw [HLO.out]; exact HE.out) (by decide) (below_drewN HB2.out _)
            case true =>
              have HE := hide (wnE_ok (fr := fr) (lo := y.t) h1 h2 h3 (by unfold inB at h4; simp at h4; omega))
              clear h1 h2 h3
              go_wp2_with fail
              go_quiet (fail)
              go_wp2_with fail
              refine (in_is x.p 0 5 true h4 _).mono ?_
              rintro e w3 ⟨rfl, rfl⟩
              go_wp2_with fail
              go_roundw
              case rel => exact ⟨j + 1 + 1, by omega, by go_num, hide (zeros_succ HF.out HX.out (by rw [HLO.out]; exact HE.out)), hide (below_drewN HB2.out _)⟩
              case measure => simp [intOf]; omega
    · obtain rfl : n = k := by omega
      go_wp2_with fail
      go_ret2
      exact RwnPost.fine (by rw [HWS.out]; exact HF.out) HB.out
/-- A fault in a cell. -/
theorem rwns_results (tmps : Array Value) (w : World) (g : Nat) (a b : Value) (h2 : tmps[4]? = some (.pointer (some ⟨g, 0, none⟩))) (hb : Blk w g 129 #[a, b]) :
    (results Tryd.f61 tmps).run Tryd.prog w = .ok (.agg #[a, b]) w := by
  obtain ⟨k0, k1, _⟩ := hb.cells2
  simp [results, Tryd.results61, go_sem, h2, k0, k1]
/-- What Windows answers. -/
def RwsPost (w : World) (fr : Int) (n : Nat) (ws : List Wn) (r : Ending) (w' : World) : Prop := r = .returned (.agg #[.int .i64 (newE fr n ws).1, .int .i64 (newE fr n ws).2]) ∧ Below w.heap.size w w'
set_option maxRecDepth 100000 in
set_option maxHeartbeats 4000000 in
theorem rwins_any (fr : Int) (A : Option Addr) (n c : Nat) (ws : List Wn) (w : World) (hws : ws.length = n) (hW : WinsAt w A n ws) (hF : FinT w) :
    Calls Tryd.prog 61 #[.int .i64 fr, .slice A n c] w (RwsPost w fr n ws) := by
  have HN := hide (Blk.new w 129 #[.int .i64 0, .int .i64 0])
  have HB := hide ((Below.refl w.heap.size w).alloc (Nat.le_refl _) (.cells #[.int .i64 0, .int .i64 0] 129))
  have HW := hide hW; have HWS := hide hws; have HF := hide hF
  clear hW hws hF
  cases h1 : inB fr 1 1099511627776
  case false =>
    have HE := hide (newE_frame (fr := fr) n ws (by unfold inB at h1; simp at h1; omega))
    go_enter Tryd.func61, Tryd.ntmps61
    go_wp2_with fail
    refine (in_is fr 1 1099511627776 false h1 _).mono ?_
    rintro e w2 ⟨rfl, rfl⟩
    go_wp2_with fail
    refine (bareF 2 _).mono ?_
    rintro e w3 ⟨rfl, hB⟩
    have HN3 := hide (HN.out.below hB HN.out.lt)
    have HB3 := hide (HB.out.trans (hB.mono HB.out.size))
    obtain ⟨k0, k1, f0, f1⟩ := HN3.out.cells2
    clear hB
    go_wp2_with fail
    exact bodyPost_ret (rwns_results _ _ w.heap.size _ _ rfl ((HN3.out.set_ 0 _).set_ 1 _)) rfl ⟨by rw [HE.out], (HB3.out.setCell (p := ⟨w.heap.size, 0, none⟩) (Nat.le_refl _) _).setCell (p := ⟨w.heap.size, 1, none⟩) (Nat.le_refl _) _⟩
  case true =>
    have hfr : ¬ (fr < 1 ∨ 1099511627776 < fr) := by unfold inB at h1; simp at h1; omega
    by_cases hn : 32 < n
    · have d1 : decide ((32 : Int) < (n : Int)) = true := decide_eq_true (by omega)
      have HE := hide (newE_many (fr := fr) ws hfr hn)
      clear hfr hn
      go_enter Tryd.func61, Tryd.ntmps61
      go_wp2_with fail
      refine (in_is fr 1 1099511627776 true h1 _).mono ?_
      rintro e w2 ⟨rfl, rfl⟩
      go_wp2_with fail
      refine (bareF 4 _).mono ?_
      rintro e w3 ⟨rfl, hB⟩
      have HN3 := hide (HN.out.below hB HN.out.lt)
      have HB3 := hide (HB.out.trans (hB.mono HB.out.size))
      obtain ⟨k0, k1, f0, f1⟩ := HN3.out.cells2
      clear hB
      go_wp2_with fail
      exact bodyPost_ret (rwns_results _ _ w.heap.size _ _ rfl ((HN3.out.set_ 0 _).set_ 1 _)) rfl ⟨by rw [HE.out], (HB3.out.setCell (p := ⟨w.heap.size, 0, none⟩) (Nat.le_refl _) _).setCell (p := ⟨w.heap.size, 1, none⟩) (Nat.le_refl _) _⟩
    · have d1 : decide ((32 : Int) < (n : Int)) = false := decide_eq_false (by omega)
      have hn2 : n ≤ 1000 := by omega
      obtain ⟨e1, he1⟩ : ∃ e1, (firstE (wnEs fr 0 ws) 0).1 = e1 := ⟨_, rfl⟩
      obtain ⟨i1, hi1⟩ : ∃ i1 : Nat, (firstE (wnEs fr 0 ws) 0).2 = i1 := ⟨_, rfl⟩
      have HE : Hid (newE fr n ws = if e1 ≠ 0 then (e1, (i1 : Int)) else (0, -1)) := hide (by unfold newE; rw [if_neg hfr, if_neg hn, he1, hi1])
      have HW0 : Hid (Calls Tryd.prog 77 #[.slice A n c, .int .i64 fr] (w.alloc (.cells #[.int .i64 0, .int .i64 0] 129)) fun r w' => r = .returned (.tuple #[.int .i64 e1, .int .i64 (i1 : Nat)]) ∧ Below (w.alloc (.cells #[.int .i64 0, .int .i64 0] 129)).heap.size (w.alloc (.cells #[.int .i64 0, .int .i64 0] 129)) w') := hide (by
        have h := rwin_any A n c fr ws (w.alloc (.cells #[.int .i64 0, .int .i64 0] 129)) hn2 HWS.out (HW.out.below HB.out)
        unfold RwnPost at h
        rw [he1, hi1] at h
        exact h)
      clear hfr hn he1 hi1
      go_enter Tryd.func61, Tryd.ntmps61
      go_wp2_with fail
      refine (in_is fr 1 1099511627776 true h1 _).mono ?_
      rintro e w2 ⟨rfl, rfl⟩
      go_wp2_with fail
      refine (HW0.out).mono ?_
      rintro e w3 ⟨rfl, hB⟩
      have HN3 := hide (HN.out.below hB HN.out.lt)
      have HB3 := hide (HB.out.trans (hB.mono HB.out.size))
      obtain ⟨k0, k1, f0, f1⟩ := HN3.out.cells2
      obtain ⟨g0, g1⟩ := HF.out.below HB3.out
      clear hB
      by_cases h0 : e1 = 0
      · subst h0
        go_wp2_with fail
        exact bodyPost_ret (rwns_results _ _ w.heap.size _ _ rfl ((HN3.out.set_ 0 _).set_ 1 _)) rfl ⟨by rw [HE.out]; rfl, (HB3.out.setCell (p := ⟨w.heap.size, 0, none⟩) (Nat.le_refl _) _).setCell (p := ⟨w.heap.size, 1, none⟩) (Nat.le_refl _) _⟩
      · have q1 : (e1 != 0) = true := by simp [h0]
        have HE2 : Hid (newE fr n ws = (e1, (i1 : Int))) := hide (by rw [HE.out, if_pos h0])
        clear h0
        go_wp2_with fail
        exact bodyPost_ret (rwns_results _ _ w.heap.size _ _ rfl ((HN3.out.set_ 0 _).set_ 1 _)) rfl ⟨by rw [HE2.out], (HB3.out.setCell (p := ⟨w.heap.size, 0, none⟩) (Nat.le_refl _) _).setCell (p := ⟨w.heap.size, 1, none⟩) (Nat.le_refl _) _⟩
theorem blk3w {w : World} {g : Nat} {t : TypeId} {a0 a1 a2 : Value} (h : Blk w g t #[a0, a1, a2]) : w.cell? ⟨g, 0, none⟩ = some a0 ∧ w.cell? ⟨g, 1, none⟩ = some a1 ∧ w.cell? ⟨g, 2, none⟩ = some a2 :=
  ⟨by simpa using h.cell 0, by simpa using h.cell 1, by simpa using h.cell 2⟩
theorem rfind_hit {ws : List Wn} {k : Nat} {x : Int} {y : Wn} (hy : ws[k]? = some y) (h : y.f ≤ x ∧ x ≤ y.t - 1) (hi : rfind ws x = rfind (ws.drop k) x) : rfind ws x = some y := by
  obtain ⟨hk, rfl⟩ := List.getElem?_eq_some_iff.1 hy
  rw [hi, List.drop_eq_getElem_cons hk, rfind, if_pos h]
theorem rfind_miss {ws : List Wn} {k : Nat} {x : Int} {y : Wn} (hy : ws[k]? = some y) (h : ¬ (y.f ≤ x ∧ x ≤ y.t - 1)) (hi : rfind ws x = rfind (ws.drop k) x) : rfind ws x = rfind (ws.drop (k + 1)) x := by
  obtain ⟨hk, rfl⟩ := List.getElem?_eq_some_iff.1 hy
  rw [hi, List.drop_eq_getElem_cons hk, rfind, if_neg h]
theorem rnxt_next {fr x n d : Int} {ws : List Wn} {k : Nat} {y : Wn} (hy : ws[k]? = some y) (hd : (if y.f - x < 0 then y.f - x + fr else y.f - x) = d) (hi : rnxt fr ws x (-1) = rnxt fr (ws.drop k) x n) : rnxt fr ws x (-1) = rnxt fr (ws.drop (k + 1)) x (if n < 0 ∨ d < n then d else n) := by
  obtain ⟨hk, rfl⟩ := List.getElem?_eq_some_iff.1 hy
  rw [hi, List.drop_eq_getElem_cons hk, rnxt, hd]
set_option maxRecDepth 100000 in
set_option maxHeartbeats 4000000 in
/-- metronomeref.At, out of its times. -/
theorem rat_out (fr now : Int) (v : Value) (w : World) (h : now < 0 ∨ 1099511627776 < now) :
    Calls Tryd.prog 63 #[.int .i64 fr, v, .int .i64 now] w fun e w' => e = .returned (.tuple #[.int .i64 0, .int .i64 0, .int .i64 2]) ∧ Below w.heap.size w w' := by
  have h1 : inB now 0 1099511627776 = false := by unfold inB; simp; omega
  clear h
  go_enter Tryd.func63, Tryd.ntmps63
  go_wp2_with fail
  refine (in_is now 0 1099511627776 false h1 _).mono ?_
  rintro e w2 ⟨rfl, rfl⟩
  go_wp2_with fail
  go_ret3
  exact ⟨rfl, Below.refl _ _⟩
set_option maxRecDepth 100000 in
set_option maxHeartbeats 4000000 in
theorem rat_any (fr now : Int) (A : Option Addr) (n c : Nat) (ws : List Wn) (w : World) (hn : n ≤ 100) (hws : ws.length = n) (hok : wOk fr 0 ws = true) (f1 : 1 ≤ fr) (hf : fr ≤ 1099511627776) (t0 : 0 ≤ now) (t1 : now ≤ 1099511627776)
    (hW : WinsAt w A n ws) (p q : Int) (hp : Hid (p = atP ws (now % fr))) (hq : Hid (q = atL fr ws (now % fr))) :
    Calls Tryd.prog 63 #[.int .i64 fr, .slice A n c, .int .i64 now] w fun e w' => e = .returned (.tuple #[.int .i64 p, .int .i64 q, .int .i64 0]) ∧ Below w.heap.size w w' := by
  have h1 : inB now 0 1099511627776 = true := by unfold inB; simp; omega
  obtain ⟨x, hx⟩ : ∃ x, now % fr = x := ⟨_, rfl⟩
  have hx0 : 0 ≤ x := by rw [← hx]; exact Int.emod_nonneg _ (by omega)
  have hx1 : x < fr := by rw [← hx]; exact Int.emod_lt_of_pos _ (by omega)
  have hdm := Int.mul_ediv_add_emod now fr
  have hcm : fr * (now / fr) = now / fr * fr := Int.mul_comm _ _
  rw [hcm, hx] at hdm
  have e1 : now - now / fr * fr = x := by omega
  have m0 : 0 ≤ now / fr := Int.ediv_nonneg t0 (by omega)
  have m1 : now / fr ≤ now := Int.ediv_le_self _ t0
  have m2 : 0 ≤ now / fr * fr := Int.mul_nonneg m0 (by omega)
  have m3 : now / fr * fr ≤ now := by omega
  have HRE := hide (rat_eq fr ws hok x hx0 hx1)
  have HP : Hid (p = atP ws x) := hide (by rw [← hx]; exact hp.out)
  have HQ : Hid (q = atL fr ws x) := hide (by rw [← hx]; exact hq.out)
  have HW := hide hW; have HOK := hide hok; have HWS := hide hws
  clear hW hok hx hcm hdm hp hq hws
  go_enter Tryd.func63, Tryd.ntmps63
  go_wp2_with fail
  refine (in_is now 0 1099511627776 true h1 _).mono ?_
  rintro e w2 ⟨rfl, rfl⟩
  go_wp2_with fail
  go_loopw [28] (fun i wr => ∃ k : Nat, k ≤ n ∧ i = .int .i64 k ∧ Hid (rfind ws x = rfind (ws.drop k) x) ∧ Hid (Below w.heap.size w wr)) (fun i _ => n - (intOf i).toNat)
  case atStart => exact ⟨0, by omega, rfl, hide rfl, hide (Below.refl _ _)⟩
  case round =>
    obtain ⟨k, hk, rfl, HI, HB⟩ := hrel
    by_cases hlt : k < n
    · obtain ⟨b, off, rfl, y, hy, c0, c1, c2⟩ := (HW.out.below HB.out) k hlt
      obtain ⟨y1, y2, y3, y4, y5⟩ := wOk_at HOK.out (Int.le_refl _) k y hy
      have HY := hide hy
      have HB2 := hide (HB.out.alloc HB.out.size (.cells #[.int .i64 y.p, .int .i64 y.f, .int .i64 y.t] 133))
      obtain ⟨k0, k1, k2⟩ := blk3w (Blk.new wr 133 #[.int .i64 y.p, .int .i64 y.f, .int .i64 y.t])
      clear hy
      cases h2 : inB x y.f (y.t - 1)
      case true =>
        have HR := hide (rfind_hit HY.out (by unfold inB at h2; simpa using h2) HI.out)
        have HPQ : Hid (y.p = p ∧ y.t - x = q) := hide (by
          rcases HRE.out with ⟨z, a1, a2, a3⟩ | ⟨a1, _⟩
          · rw [HR.out] at a1; cases a1; exact ⟨by rw [HP.out, a2], by rw [HQ.out, a3]⟩
          · rw [HR.out] at a1; cases a1)
        go_wp2_with fail
        refine (in_is x y.f (y.t - 1) true h2 _).mono ?_
        rintro e w3 ⟨rfl, rfl⟩
        go_wp2_with fail
        go_quiet (fail)
        go_wp2_with fail
        go_ret3
        exact ⟨by rw [← HPQ.out.1, ← HPQ.out.2]; rfl, below_drewN HB2.out _⟩
      case false =>
        have HR := hide (rfind_miss HY.out (by unfold inB at h2; simp at h2; omega) HI.out)
        go_wp2_with fail
        refine (in_is x y.f (y.t - 1) false h2 _).mono ?_
        rintro e w3 ⟨rfl, rfl⟩
        go_wp2_with fail
        go_roundw
        case rel => exact ⟨k + 1, by omega, by go_num, HR, HB2⟩
        case measure => simp [intOf]; omega
    · obtain rfl : n = k := by omega
      have HNO : Hid (p = -1 ∧ rnxt fr ws x (-1) = q) := hide (by
        have h := HI.out
        rw [List.drop_of_length_le (by rw [HWS.out]; omega)] at h
        rcases HRE.out with ⟨z, a1, _⟩ | ⟨_, a2, a3⟩
        · rw [h] at a1; cases a1
        · exact ⟨by rw [HP.out, a2], by rw [HQ.out, a3]⟩)
      clear HI HRE HP HQ hlt hk
      go_wp2_with fail
      obtain ⟨wo, rfl⟩ : ∃ wo : World, wo = wr := ⟨_, rfl⟩
      go_loopw [12, 51] (fun v i wr => ∃ (k : Nat) (nx : Int), k ≤ n ∧ i = .int .i64 k ∧ v = .int .i64 nx ∧ -1 ≤ nx ∧ nx ≤ 2199023255552 ∧ Hid (rnxt fr ws x (-1) = rnxt fr (ws.drop k) x nx) ∧ Hid (Below w.heap.size w wr)) (fun _ i _ => n - (intOf i).toNat)
      case atStart => exact ⟨0, -1, by omega, rfl, rfl, by omega, by omega, hide rfl, HB⟩
      case round =>
        obtain ⟨k, nx, hk, rfl, rfl, hn0, hn1, HI, HB3⟩ := hrel
        by_cases hlt : k < n
        · obtain ⟨b, off, rfl, y, hy, c0, c1, c2⟩ := (HW.out.below HB3.out) k hlt
          obtain ⟨y1, y2, y3, y4, y5⟩ := wOk_at HOK.out (Int.le_refl _) k y hy
          have HY := hide hy
          have HB2 := hide (HB3.out.alloc HB3.out.size (.cells #[.int .i64 y.p, .int .i64 y.f, .int .i64 y.t] 133))
          clear hy
          obtain ⟨d, hd⟩ : ∃ d, (if y.f - x < 0 then y.f - x + fr else y.f - x) = d := ⟨_, rfl⟩
          have HRN := hide (rnxt_next HY.out hd HI.out)
          have hd0 : 0 ≤ d ∧ d ≤ 2199023255552 := by rw [← hd]; split <;> omega
          by_cases h3 : y.f - x < 0
          · have d3 : decide (y.f - x < 0) = true := decide_eq_true h3
            have e3 : y.f - x + fr = d := by rw [← hd, if_pos h3]
            clear hd h3
            by_cases h4 : nx < 0 ∨ d < nx
            · rw [if_pos h4] at HRN
              have HDD : Hid (decide (nx < 0) = true ∨ (decide (nx < 0) = false ∧ decide (d < nx) = true)) := hide (by simp only [decide_eq_true_eq, decide_eq_false_iff_not]; omega)
              clear h4
              rcases HDD.out with h | ⟨h, h'⟩
              all_goals
                go_wp2_with fail
                go_roundw
                case rel => exact ⟨k + 1, d, by omega, by go_num, rfl, by omega, hd0.2, HRN, HB2⟩
                case measure => simp [intOf]; omega
            · rw [if_neg h4] at HRN
              have d4 : decide (nx < 0) = false := decide_eq_false (by omega)
              have d5 : decide (d < nx) = false := decide_eq_false (by omega)
              clear h4
              go_wp2_with fail
              go_roundw
              case rel => exact ⟨k + 1, nx, by omega, by go_num, rfl, hn0, hn1, HRN, HB2⟩
              case measure => simp [intOf]; omega
          · have d3 : decide (y.f - x < 0) = false := decide_eq_false h3
            have e3 : y.f - x = d := by rw [← hd, if_neg h3]
            have d3' : decide (d < 0) = false := decide_eq_false (by omega)
            clear hd h3
            by_cases h4 : nx < 0 ∨ d < nx
            · rw [if_pos h4] at HRN
              have HDD : Hid (decide (nx < 0) = true ∨ (decide (nx < 0) = false ∧ decide (d < nx) = true)) := hide (by simp only [decide_eq_true_eq, decide_eq_false_iff_not]; omega)
              clear h4
              rcases HDD.out with h | ⟨h, h'⟩
              all_goals
                go_wp2_with fail
                go_roundw
                case rel => exact ⟨k + 1, d, by omega, by go_num, rfl, by omega, hd0.2, HRN, HB2⟩
                case measure => simp [intOf]; omega
            · rw [if_neg h4] at HRN
              have d4 : decide (nx < 0) = false := decide_eq_false (by omega)
              have d5 : decide (d < nx) = false := decide_eq_false (by omega)
              clear h4
              go_wp2_with fail
              go_roundw
              case rel => exact ⟨k + 1, nx, by omega, by go_num, rfl, hn0, hn1, HRN, HB2⟩
              case measure => simp [intOf]; omega
        · obtain rfl : n = k := by omega
          have HQ2 : Hid (nx = q) := hide (by
            have h := HI.out
            rw [List.drop_of_length_le (by rw [HWS.out]; omega)] at h
            rw [← HNO.out.2, h]; rfl)
          go_wp2_with fail
          go_ret3
          exact ⟨by rw [HNO.out.1, ← HQ2.out]; rfl, HB3.out⟩
end Go.Proofs.YtgdljdhibknjnabDoor
