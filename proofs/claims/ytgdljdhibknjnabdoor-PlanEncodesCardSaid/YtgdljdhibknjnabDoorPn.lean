/- The contract of part.New; condition: the windows lie in memory. -/
import Derived.Test.YtgdljdhibknjnabDoorPa
import Derived.Test.YtgdljdhibknjnabDoorCk
import Derived.Test.YtgdljdhibknjnabDoorAv
namespace Go.Proofs.YtgdljdhibknjnabDoor
open Go.RowKit

theorem wnE_zero {fr lo : Int} {w : Wn} : wnE fr lo w = 0 ↔ (w.f < w.t ∧ lo ≤ w.f ∧ w.t ≤ fr ∧ 0 ≤ w.p ∧ w.p < 6) := by
  unfold wnE spE
  by_cases h1 : w.t ≤ w.f
  · simp only [if_pos h1]; simp; omega
  · by_cases h2 : w.f < lo
    · simp only [if_neg h1, if_pos h2]; simp; omega
    · by_cases h3 : fr < w.t
      · simp only [if_neg h1, if_neg h2, if_pos h3]; simp; omega
      · simp only [if_neg h1, if_neg h2, if_neg h3]
        by_cases h4 : w.p < 0 ∨ 5 < w.p
        · simp [h4]; omega
        · simp [h4]; omega
theorem wOk_zero (fr e : Int) (ws : List Wn) : (∀ j, j < ws.length → (wnEs fr e ws)[j]? = some 0) ↔ wOk fr e ws = true := by
  induction ws generalizing e with
  | nil => simp [wOk]
  | cons w l ih =>
    have hw : wOk fr e (w :: l) = true ↔ (wnE fr e w = 0 ∧ wOk fr w.t l = true) := by
      rw [wnE_zero]
      simp only [wOk, Bool.and_eq_true, decide_eq_true_eq]
      constructor
      · rintro ⟨⟨⟨⟨⟨h1, h2⟩, h3⟩, h4⟩, h5⟩, h6⟩; exact ⟨⟨h1, h2, h3, h4, h5⟩, h6⟩
      · rintro ⟨⟨h1, h2, h3, h4, h5⟩, h6⟩; exact ⟨⟨⟨⟨⟨h1, h2⟩, h3⟩, h4⟩, h5⟩, h6⟩
    rw [hw, ← ih w.t]
    constructor
    · intro h
      refine ⟨by simpa [wnEs] using h 0 (by simp), fun j hj => by simpa [wnEs] using h (j + 1) (by simp; omega)⟩
    · rintro ⟨h0, h⟩ j hj
      cases j with
      | zero => simp [wnEs, h0]
      | succ j => simpa [wnEs] using h j (by simp at hj; omega)

/-- What is wrong with a frame and its windows, and where. -/
def newE (fr : Int) (n : Nat) (ws : List Wn) : Int × Int :=
  if fr < 1 ∨ 1099511627776 < fr then (2, -1) else if 32 < n then (4, -1)
  else if (firstE (wnEs fr 0 ws) 0).1 ≠ 0 then ((firstE (wnEs fr 0 ws) 0).1, ((firstE (wnEs fr 0 ws) 0).2 : Int)) else (0, -1)
theorem newE_frame {fr : Int} (n : Nat) (ws : List Wn) (h : fr < 1 ∨ 1099511627776 < fr) : newE fr n ws = (2, -1) := by unfold newE; rw [if_pos h]
theorem newE_many {fr : Int} {n : Nat} (ws : List Wn) (h : ¬ (fr < 1 ∨ 1099511627776 < fr)) (hn : 32 < n) : newE fr n ws = (4, -1) := by unfold newE; rw [if_neg h, if_pos hn]
theorem newE_at {fr : Int} {n k : Nat} {ws : List Wn} {x : Wn} (h : ¬ (fr < 1 ∨ 1099511627776 < fr)) (hn : ¬ 32 < n) (h0 : ∀ j, j < k → (wnEs fr 0 ws)[j]? = some 0) (hx : ws[k]? = some x) (e : Int) (he : wnE fr (wnLo 0 ws k) x = e) (h1 : e ≠ 0) : newE fr n ws = (e, (k : Int)) := by
  have := firstE_at (wnEs fr 0 ws) k e h0 (by rw [wnEs_at fr 0 ws k x hx, he]) h1
  unfold newE; rw [if_neg h, if_neg hn, this, if_pos h1]
theorem newE_fine {fr : Int} {n : Nat} {ws : List Wn} (h : ¬ (fr < 1 ∨ 1099511627776 < fr)) (hn : ¬ 32 < n) (h0 : ∀ j, j < ws.length → (wnEs fr 0 ws)[j]? = some 0) : newE fr n ws = (0, -1) := by
  have := firstE_none (wnEs fr 0 ws) 0 (by rw [wnEs_len]; exact h0)
  unfold newE; rw [if_neg h, if_neg hn, this]; rfl

/-- What New answers: an error, or a table of the windows. -/
def NewPost (w : World) (fr : Int) (n : Nat) (ws : List Wn) (e : Ending) (w' : World) : Prop :=
  Below w.heap.size w w' ∧ (((newE fr n ws).1 ≠ 0 ∧ ∃ v, e = .returned (.tuple #[.pointer none, v]) ∧ AtV w' v (newE fr n ws).1 (newE fr n ws).2) ∨ ((newE fr n ws).1 = 0 ∧ 1 ≤ fr ∧ fr ≤ 1099511627776 ∧ n ≤ 32 ∧ wOk fr 0 ws = true ∧ ∃ g A c, e = .returned (.tuple #[.pointer (some ⟨g, 0, none⟩), .nilIface]) ∧
    w'.cell? ⟨g, 0, none⟩ = some (.int .i64 fr) ∧ w'.cell? ⟨g, 1, none⟩ = some (.slice A n c) ∧ WinsAt w' A n ws))
theorem NewPost.bare {w w' : World} {fr : Int} {n : Nat} {ws : List Wn} {e : Int} (he : newE fr n ws = (e, -1)) (h0 : e ≠ 0) (hB : Below w.heap.size w w') : NewPost w fr n ws (.returned (.tuple #[.pointer none, .iface 24 (.int .i64 e)])) w' :=
  ⟨hB, .inl ⟨by rw [he]; exact h0, _, rfl, by rw [he]; exact AtV.bare _ _⟩⟩
theorem NewPost.at_ {w w' : World} {fr : Int} {n g : Nat} {ws : List Wn} {e pl : Int} (he : newE fr n ws = (e, pl)) (h0 : e ≠ 0) (hB : Below w.heap.size w w') (hb : Blk w' g 163 #[.int .i64 e, .int .i64 pl]) : NewPost w fr n ws (.returned (.tuple #[.pointer none, .iface 162 (.pointer (some ⟨g, 0, none⟩))])) w' :=
  ⟨hB, .inl ⟨by rw [he]; exact h0, _, rfl, by rw [he]; exact AtV.at_ hb⟩⟩
/-- Windows as cells. -/
def wl : List Wn → List Value
  | [] => []
  | w :: l => .int .i64 w.p :: .int .i64 w.f :: .int .i64 w.t :: wl l
theorem wl_len (ws : List Wn) : (wl ws).length = ws.length * 3 := by
  induction ws with
  | nil => rfl
  | cons w l ih => simp [wl, ih]; omega
theorem wl_one (ws : List Wn) : ∀ u ∈ wl ws, u.oneCell' = true := by
  induction ws with
  | nil => intro u hu; simp [wl] at hu
  | cons w l ih =>
    intro u hu
    simp only [wl, List.mem_cons] at hu
    rcases hu with rfl | rfl | rfl | hu
    · rfl
    · rfl
    · rfl
    · exact ih u hu
theorem wl_at (ws : List Wn) (i : Nat) (w : Wn) (h : ws[i]? = some w) : (wl ws)[i * 3]? = some (.int .i64 w.p) ∧ (wl ws)[i * 3 + 1]? = some (.int .i64 w.f) ∧ (wl ws)[i * 3 + 2]? = some (.int .i64 w.t) := by
  induction ws generalizing i with
  | nil => simp at h
  | cons v l ih =>
    cases i with
    | zero => simp at h; subst h; exact ⟨rfl, rfl, rfl⟩
    | succ i =>
      obtain ⟨h1, h2, h3⟩ := ih i (by simpa using h)
      rw [show (i + 1) * 3 = i * 3 + 1 + 1 + 1 by omega]
      exact ⟨h1, h2, h3⟩
theorem wl_get (ws : List Wn) (j : Nat) (u : Value) (h : (wl ws)[j]? = some u) : ∃ i w, ws[i]? = some w ∧ i < ws.length ∧ ((j = i * 3 ∧ u = .int .i64 w.p) ∨ (j = i * 3 + 1 ∧ u = .int .i64 w.f) ∨ (j = i * 3 + 2 ∧ u = .int .i64 w.t)) := by
  have hj : j < ws.length * 3 := by rw [← wl_len]; exact (List.getElem?_eq_some_iff.1 h).1
  have hi : j / 3 < ws.length := by omega
  have hw : ws[j / 3]? = some ws[j / 3] := List.getElem?_eq_getElem hi
  obtain ⟨h1, h2, h3⟩ := wl_at ws (j / 3) _ hw
  refine ⟨j / 3, _, hw, hi, ?_⟩
  rcases (by omega : j = j / 3 * 3 ∨ j = j / 3 * 3 + 1 ∨ j = j / 3 * 3 + 2) with e | e | e
  · exact .inl ⟨e, by rw [← e, h] at h1; exact Option.some.inj h1⟩
  · exact .inr (.inl ⟨e, by rw [← e, h] at h2; exact Option.some.inj h2⟩)
  · exact .inr (.inr ⟨e, by rw [← e, h] at h3; exact Option.some.inj h3⟩)
theorem wins_news {W : World} {b off n : Nat} {ws : List Wn} (hW : WinsAt W (some ⟨b, off, none⟩) n ws) (hn : ws.length = n) : ∀ j u, (wl ws)[j]? = some u → W.cell? ((⟨b, off, none⟩ : Addr).add j) = some u := by
  intro j u h
  have hplain : (⟨b, off, none⟩ : Addr).add j = ⟨b, off + j, none⟩ := by unfold Addr.add; split <;> simp_all
  obtain ⟨i, w, hw, hi, hc⟩ := wl_get ws j u h
  obtain ⟨b', off', e, y, hy, c0, c1, c2⟩ := hW i (by omega)
  cases e
  rw [hw] at hy
  cases hy
  rw [hplain]
  rcases hc with ⟨rfl, rfl⟩ | ⟨rfl, rfl⟩ | ⟨rfl, rfl⟩
  · exact c0
  · rw [← Nat.add_assoc]; exact c1
  · rw [← Nat.add_assoc]; exact c2
theorem wins_own {w : World} {base g n cap : Nat} {t : TypeId} {ws : List Wn} (h : w.ownsRow base t 3 (.slice (some ⟨g, 0, none⟩) n cap) n (wl ws)) (hn : ws.length = n) : WinsAt w (some ⟨g, 0, none⟩) n ws := by
  intro j hj
  have hw : ws[j]? = some ws[j] := List.getElem?_eq_getElem (by omega)
  obtain ⟨h1, h2, h3⟩ := wl_at ws j _ hw
  have hplain : ∀ j, (⟨g, 0, none⟩ : Addr).add j = ⟨g, 0 + j, none⟩ := by intro j; unfold Addr.add; split <;> simp_all
  have hc := h.cells (g := g) rfl
  refine ⟨g, 0, rfl, _, hw, ?_, ?_, ?_⟩
  · rw [← hplain]; exact hc _ _ h1
  · rw [Nat.add_assoc, ← hplain]; exact hc _ _ h2
  · rw [Nat.add_assoc, ← hplain]; exact hc _ _ h3
theorem own_form3 {w : World} {base n : Nat} {t : TypeId} {v : Value} {xs : List Value} (h : w.ownsRow base t 3 v n xs) (hn : 0 < n) : ∃ g cap, v = .slice (some ⟨g, 0, none⟩) n cap ∧ g < w.heap.size := by
  rcases h.2 with ⟨_, h0⟩ | ⟨g, cap, cur, hv, hb, hg, _⟩
  · omega
  · exact ⟨g, cap, hv, (Array.getElem?_eq_some_iff.1 hg).1⟩
theorem win_info : (Tryd.prog.info? 133).map (fun i => (i.zero, i.size, i.bytes)) = some (some (.agg #[.int .i64 0, .int .i64 0, .int .i64 0]), 3, 24) := by kernel_rfl

set_option maxRecDepth 100000 in
set_option maxHeartbeats 4000000 in
theorem pnew_any (fr : Int) (A : Option Addr) (n c : Nat) (ws : List Wn) (w : World) (hn : n ≤ 32) (hws : ws.length = n) (f1 : 1 ≤ fr) (hf : fr ≤ 1099511627776) (hW : WinsAt w A n ws) :
    Calls Tryd.prog 60 #[.int .i64 fr, .slice A n c] w (NewPost w fr n ws) := by
  have HW := hide hW; clear hW
  have d1 : decide (fr < 1) = false := decide_eq_false (by omega)
  have d2 : decide ((1099511627776 : Int) < fr) = false := decide_eq_false (by omega)
  have d3 : decide ((32 : Int) < (n : Int)) = false := decide_eq_false (by omega)
  go_enter Tryd.func60, Tryd.ntmps60
  go_wp2_with fail
  go_loopw [6, 23] (fun v i wr => ∃ k : Nat, k ≤ n ∧ i = .int .i64 k ∧ v = .int .i64 (wnLo 0 ws k) ∧ Hid (∀ j, j < k → (wnEs fr 0 ws)[j]? = some 0) ∧ Below w.heap.size w wr) (fun _ i _ => n - (intOf i).toNat)
  case atStart => exact ⟨0, by omega, rfl, rfl, hide (fun j hj => by omega), Below.refl _ _⟩
  case round =>
    obtain ⟨k, hk, rfl, rfl, hok, hB⟩ := hrel
    by_cases hlt2 : k < n
    · obtain ⟨b, off, rfl, x, hx, c0, c1, c2⟩ := HW.out k hlt2
      have hb := World.block_lt_of_cell? _ _ c0
      have k0 := (hB.cell (p := ⟨b, off + k * 3, none⟩) hb).trans c0
      have k1 := (hB.cell (p := ⟨b, off + k * 3 + 1, none⟩) hb).trans c1
      have k2 := (hB.cell (p := ⟨b, off + k * 3 + 2, none⟩) hb).trans c2
      have hls := hide (wnLo_succ 0 ws k x hx)
      have hsn : Hid (wnE fr (wnLo 0 ws k) x = 0 → ∀ j, j < k + 1 → (wnEs fr 0 ws)[j]? = some 0) := hide (fun h j hj => by
        rcases Nat.lt_or_ge j k with h2 | h2
        · exact hok.out j h2
        · obtain rfl : j = k := by omega
          rw [wnEs_at fr 0 ws _ x hx, h])
      have hat : Hid (∀ e, wnE fr (wnLo 0 ws k) x = e → e ≠ 0 → newE fr n ws = (e, (k : Int))) := hide (fun e he h1 => newE_at (by omega) (by omega) hok.out hx e he h1)
      have HBB := hide hB
      have hsz := hB.size
      generalize wnLo 0 ws k = E at *
      clear hB c0 c1 c2 hx
      by_cases h1 : x.t ≤ x.f
      · have q1 : decide (x.t ≤ x.f) = true := decide_eq_true h1
        have HBad := hide (hat.out 1 (by unfold wnE spE; (repeat (first | rw [if_pos (by omega)] | rw [if_neg (by omega)]))) (by decide))
        clear h1
        go_wp2_with fail
        go_ret2
        exact NewPost.at_ HBad.out (by decide) ((HBB.out.alloc hsz _).alloc (by simp; omega) _) (by simpa using Blk.new (wr.alloc (.cells #[.int .i64 x.p, .int .i64 x.f, .int .i64 x.t] 133)) 163 #[.int .i64 1, .int .i64 k])
      have q1 : decide (x.t ≤ x.f) = false := decide_eq_false h1
      by_cases h2 : x.f < E
      · have q2 : decide (x.f < E) = true := decide_eq_true h2
        have HBad := hide (hat.out 10 (by unfold wnE spE; (repeat (first | rw [if_pos (by omega)] | rw [if_neg (by omega)]))) (by decide))
        clear h1 h2
        go_wp2_with fail
        go_ret2
        exact NewPost.at_ HBad.out (by decide) ((HBB.out.alloc hsz _).alloc (by simp; omega) _) (by simpa using Blk.new (wr.alloc (.cells #[.int .i64 x.p, .int .i64 x.f, .int .i64 x.t] 133)) 163 #[.int .i64 10, .int .i64 k])
      have q2 : decide (x.f < E) = false := decide_eq_false h2
      by_cases h3 : fr < x.t
      · have q3 : decide (fr < x.t) = true := decide_eq_true h3
        have HBad := hide (hat.out 2 (by unfold wnE spE; (repeat (first | rw [if_pos (by omega)] | rw [if_neg (by omega)]))) (by decide))
        clear h1 h2 h3
        go_wp2_with fail
        go_ret2
        exact NewPost.at_ HBad.out (by decide) ((HBB.out.alloc hsz _).alloc (by simp; omega) _) (by simpa using Blk.new (wr.alloc (.cells #[.int .i64 x.p, .int .i64 x.f, .int .i64 x.t] 133)) 163 #[.int .i64 2, .int .i64 k])
      have q3 : decide (fr < x.t) = false := decide_eq_false h3
      by_cases h4 : x.p < 0
      · have q4 : decide (x.p < 0) = true := decide_eq_true h4
        have HBad := hide (hat.out 7 (by unfold wnE spE; (repeat (first | rw [if_pos (by omega)] | rw [if_neg (by omega)]))) (by decide))
        clear h1 h2 h3 h4
        go_wp2_with fail
        go_ret2
        exact NewPost.at_ HBad.out (by decide) ((HBB.out.alloc hsz _).alloc (by simp; omega) _) (by simpa using Blk.new (wr.alloc (.cells #[.int .i64 x.p, .int .i64 x.f, .int .i64 x.t] 133)) 163 #[.int .i64 7, .int .i64 k])
      have q4 : decide (x.p < 0) = false := decide_eq_false h4
      by_cases h5 : 6 ≤ x.p
      · have q5 : decide (6 ≤ x.p) = true := decide_eq_true h5
        have HBad := hide (hat.out 7 (by unfold wnE spE; (repeat (first | rw [if_pos (by omega)] | rw [if_neg (by omega)]))) (by decide))
        clear h1 h2 h3 h4 h5
        go_wp2_with fail
        go_ret2
        exact NewPost.at_ HBad.out (by decide) ((HBB.out.alloc hsz _).alloc (by simp; omega) _) (by simpa using Blk.new (wr.alloc (.cells #[.int .i64 x.p, .int .i64 x.f, .int .i64 x.t] 133)) 163 #[.int .i64 7, .int .i64 k])
      have q5 : decide (6 ≤ x.p) = false := decide_eq_false h5
      have hgo := hide (hsn.out (wnE_zero.2 ⟨by omega, by omega, by omega, by omega, by omega⟩))
      clear h1 h2 h3 h4 h5
      go_wp2_with fail
      exact ⟨⟨k + 1, by omega, by go_num, by rw [hls.out], hgo, HBB.out.alloc hsz _⟩, by simp [intOf]; omega⟩
    · obtain rfl : k = n := by omega
      have hfine := hide (newE_fine (fr := fr) (n := k) (by omega) (by omega) (by rw [hws]; exact hok.out))
      have hok := hide ((wOk_zero fr 0 ws).1 (by rw [hws]; exact hok.out))
      have HBB := hide hB
      have hsz := hB.size
      have HWr := hide ((HW.out.below hB).below ((Below.refl wr.heap.size wr).alloc (Nat.le_refl _) (.cells #[] 133)))
      clear hB
      obtain ⟨i0, hi, hz0, hz1, hz2⟩ := info_parts win_info
      by_cases hk0 : k = 0
      · subst hk0
        have hw0 : ws = [] := List.eq_nil_of_length_eq_zero hws
        subst hw0
        have hg0 : Blk (wr.alloc (.cells #[] 133)) wr.heap.size 133 #[] := Blk.new wr _ _
        have hT := Blk.new (wr.alloc (.cells #[] 133)) 165 #[.int .i64 fr, .slice (some ⟨wr.heap.size, 0, none⟩) 0 0]
        simp only [World.size_alloc] at hT
        have hT2 := hide hT.cells2
        have hB3 := hide ((HBB.out.alloc hsz (.cells #[] 133)).alloc (by simp; omega) (.cells #[.int .i64 fr, .slice (some ⟨wr.heap.size, 0, none⟩) 0 0] 165))
        clear hT hg0
        cases A
        all_goals
          go_wp2_with fail
          go_ret2
          exact ⟨hB3.out, .inr ⟨by rw [hfine.out], f1, hf, hn, rfl, _, _, _, rfl, hT2.out.1, hT2.out.2.1, fun j hj => by omega⟩⟩
      · obtain ⟨b, off, rfl, _⟩ := HW.out 0 (by omega)
        have N1 : Hid ((wr.alloc (.cells #[] 133)).ownsRow wr.heap.size 133 3 (.slice (some ⟨wr.heap.size, 0, none⟩) 0 0) 0 []) := hide ⟨rfl, .inr ⟨wr.heap.size, 0, #[], rfl, Nat.le_refl _, Blk.new wr _ _, Nat.le_refl _, by simp [maxLen], rfl, rfl⟩⟩
        have N2 := hide (wins_news HWr.out hws)
        go_wp2_with (at_builtin; go_must (refine wpList_append_own _ rfl (.tmp 69) (.tmp 70) _ rfl wr.heap.size 133 i0 _ 3 24 Tryd.underlying76 hi hz0 hz1 hz2 rfl (by decide) (.slice (some ⟨wr.heap.size, 0, none⟩) 0 0) 0 [] rfl (by exact N1.out) ⟨b, off, none⟩ k c (wl ws) rfl (by rw [wl_len, hws]) (by exact N2.out) (wl_one ws) (by simp [maxLen]; omega) (by omega) (by simp) ?_); intro v2 w2 hown2 hg2 _; rw [Nat.zero_add, List.nil_append] at hown2; obtain ⟨g2, cap2, rfl, hgl2⟩ := own_form3 hown2 (by omega); have O2 := hide hown2; have HG2 := hide hg2; clear hown2 hg2)
        have hB2 : Below w.heap.size w w2 := (HBB.out.alloc hsz _).grown HG2.out (by simp; omega) (fun j hj => by simp [Value.ownBlock] at hj; omega)
        have hT := Blk.new w2 165 #[.int .i64 fr, .slice (some ⟨g2, 0, none⟩) k cap2]
        have hWn := hide ((wins_own O2.out hws).below ((Below.refl w2.heap.size w2).alloc (Nat.le_refl _) (.cells #[.int .i64 fr, .slice (some ⟨g2, 0, none⟩) k cap2] 165)))
        have hT2 := hide hT.cells2
        have hB3 := hide (hB2.alloc hB2.size (.cells #[.int .i64 fr, .slice (some ⟨g2, 0, none⟩) k cap2] 165))
        clear hB2 hT
        try simp only [Nat.zero_add] at *
        go_wp2_with fail
        go_ret2
        exact ⟨hB3.out, .inr ⟨by rw [hfine.out], f1, hf, hn, hok.out, _, _, _, rfl, hT2.out.1, hT2.out.2.1, hWn.out⟩⟩

set_option maxHeartbeats 1000000 in
theorem pnew_frame (fr : Int) (A : Option Addr) (n c : Nat) (ws : List Wn) (w : World) (hf : fr < 1 ∨ 1099511627776 < fr) :
    Calls Tryd.prog 60 #[.int .i64 fr, .slice A n c] w (NewPost w fr n ws) := by
  have HE := hide (newE_frame n ws hf)
  by_cases h1 : fr < 1
  · have d1 : decide (fr < 1) = true := decide_eq_true h1
    clear hf h1
    go_enter Tryd.func60, Tryd.ntmps60
    go_wp2_with fail
    go_ret2
    exact NewPost.bare HE.out (by decide) (Below.refl _ _)
  · have d1 : decide (fr < 1) = false := decide_eq_false h1
    have d2 : decide ((1099511627776 : Int) < fr) = true := decide_eq_true (by omega)
    clear hf h1
    go_enter Tryd.func60, Tryd.ntmps60
    go_wp2_with fail
    go_ret2
    exact NewPost.bare HE.out (by decide) (Below.refl _ _)
set_option maxHeartbeats 1000000 in
theorem pnew_many (fr : Int) (A : Option Addr) (n c : Nat) (ws : List Wn) (w : World) (hn : 32 < n) (f1 : 1 ≤ fr) (hf : fr ≤ 1099511627776) :
    Calls Tryd.prog 60 #[.int .i64 fr, .slice A n c] w (NewPost w fr n ws) := by
  have HE := hide (newE_many (fr := fr) ws (by omega) hn)
  have d1 : decide (fr < 1) = false := decide_eq_false (by omega)
  have d2 : decide ((1099511627776 : Int) < fr) = false := decide_eq_false (by omega)
  have d3 : decide ((32 : Int) < (n : Int)) = true := decide_eq_true (by omega)
  go_enter Tryd.func60, Tryd.ntmps60
  go_wp2_with fail
  go_ret2
  exact NewPost.bare HE.out (by decide) (Below.refl _ _)
/-- part.New, whatever the frame and the windows. -/
theorem pnew_all (fr : Int) (A : Option Addr) (n c : Nat) (ws : List Wn) (w : World) (hws : ws.length = n) (hW : WinsAt w A n ws) :
    Calls Tryd.prog 60 #[.int .i64 fr, .slice A n c] w (NewPost w fr n ws) := by
  by_cases hf : fr < 1 ∨ 1099511627776 < fr
  · exact pnew_frame fr A n c ws w hf
  · by_cases hn : 32 < n
    · exact pnew_many fr A n c ws w hn (by omega) (by omega)
    · exact pnew_any fr A n c ws w (by omega) hws (by omega) (by omega) hW
end Go.Proofs.YtgdljdhibknjnabDoor
