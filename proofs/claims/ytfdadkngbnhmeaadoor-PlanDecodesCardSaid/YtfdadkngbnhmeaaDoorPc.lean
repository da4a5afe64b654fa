/- The contract of plan.Check; conditions: slots, links and windows lie in memory. -/
import Derived.Test.YtfdadkngbnhmeaaDoorWi
import Derived.Test.YtfdadkngbnhmeaaDoorAv
import Derived.Test.YtfdadkngbnhmeaaDoorSl
import Derived.Test.YtfdadkngbnhmeaaDoorPlc
import Derived.Test.YtfdadkngbnhmeaaDoorBt
namespace Go.Proofs.YtfdadkngbnhmeaaDoor
open Go.RowKit

theorem ints1 {w : World} {g : Nat} {a : Int} (h : Blk w g 3 #[.int .i64 a]) : IntsAt w (some ⟨g, 0, none⟩) 1 [a] := by
  intro j hj
  obtain rfl : j = 0 := by omega
  exact ⟨g, 0, rfl, h.cells1.1⟩
theorem ints2 {w : World} {g : Nat} {a b : Int} (h : Blk w g 3 #[.int .i64 a, .int .i64 b]) : IntsAt w (some ⟨g, 0, none⟩) 2 [a, b] := by
  intro j hj
  refine ⟨g, 0, rfl, ?_⟩
  match j, hj with
  | 0, _ => exact h.cell 0
  | 1, _ => exact h.cell 1
theorem ints3 {w : World} {g : Nat} {a b c : Int} (h : Blk w g 3 #[.int .i64 a, .int .i64 b, .int .i64 c]) : IntsAt w (some ⟨g, 0, none⟩) 3 [a, b, c] := by
  intro j hj
  refine ⟨g, 0, rfl, ?_⟩
  match j, hj with
  | 0, _ => exact h.cell 0
  | 1, _ => exact h.cell 1
  | 2, _ => exact h.cell 2
theorem win1_any (lo hi z : Int) (g : Nat) (w : World) (hg : w.heap.size = g) (x : Bool) (hx : Hid (outB lo hi z = x)) :
    Calls Tryd.prog 47 #[.int .i64 lo, .int .i64 hi, .slice (some ⟨g, 0, none⟩) 1 1] (w.alloc (.cells #[.int .i64 z] 3)) fun e w' => e = .returned (.bool (!x)) ∧ Below w.heap.size w w' :=
  (withinS_any lo hi _ 1 1 [z] _ (by omega) rfl (ints1 (hg ▸ Blk.new w _ _)) (!x) (hide (by simp [hx.out]))).mono fun e w' ⟨h1, h2⟩ => ⟨h1, ((Below.refl _ _).alloc (Nat.le_refl _) _).trans (h2.mono (by simp))⟩
theorem win2_any (lo hi y z : Int) (g : Nat) (w : World) (hg : w.heap.size = g) (x : Bool) (hx : Hid ((outB lo hi y || outB lo hi z) = x)) :
    Calls Tryd.prog 47 #[.int .i64 lo, .int .i64 hi, .slice (some ⟨g, 0, none⟩) 2 2] (w.alloc (.cells #[.int .i64 y, .int .i64 z] 3)) fun e w' => e = .returned (.bool (!x)) ∧ Below w.heap.size w w' :=
  (withinS_any lo hi _ 2 2 [y, z] _ (by omega) rfl (ints2 (hg ▸ Blk.new w _ _)) (!x) (hide (by simp [← hx.out]))).mono fun e w' ⟨h1, h2⟩ => ⟨h1, ((Below.refl _ _).alloc (Nat.le_refl _) _).trans (h2.mono (by simp))⟩
theorem win3_any (lo hi u y z : Int) (g : Nat) (w : World) (hg : w.heap.size = g) (x : Bool) (hx : Hid ((outB lo hi u || outB lo hi y || outB lo hi z) = x)) :
    Calls Tryd.prog 47 #[.int .i64 lo, .int .i64 hi, .slice (some ⟨g, 0, none⟩) 3 3] (w.alloc (.cells #[.int .i64 u, .int .i64 y, .int .i64 z] 3)) fun e w' => e = .returned (.bool (!x)) ∧ Below w.heap.size w w' :=
  (withinS_any lo hi _ 3 3 [u, y, z] _ (by omega) rfl (ints3 (hg ▸ Blk.new w _ _)) (!x) (hide (by simp [← hx.out, Bool.or_assoc]))).mono fun e w' ⟨h1, h2⟩ => ⟨h1, ((Below.refl _ _).alloc (Nat.le_refl _) _).trans (h2.mono (by simp))⟩

theorem out_true {lo hi z : Int} (h : outB lo hi z = true) : z < lo ∨ hi < z := by unfold outB at h; simpa using h
theorem out_false {lo hi z : Int} (h : outB lo hi z = false) : lo ≤ z ∧ z ≤ hi := by unfold outB at h; simpa using h

def slF (p : Pl) (n : Nat) : Prop := ∀ j, j < n → (slEs p.sk p.rd p.nd 0 p.sl)[j]? = some 0
def lkF (p : Pl) (n : Nat) : Prop := ∀ j, j < n → (p.lk.map (lkE p.nd))[j]? = some 0
def wnF (p : Pl) (n : Nat) : Prop := ∀ j, j < n → (wnEs p.fr 0 p.wn)[j]? = some 0
theorem chk_head {p : Pl} {e : Int} (h : headE p = e) (h0 : e ≠ 0) : chk p = (e, -1) := by unfold chk; rw [h, if_pos h0]
theorem chk_slot {p : Pl} {k : Nat} {s : Sl} {e : Int} (hh : headE p = 0) (hF : slF p k) (hk : p.sl[k]? = some s) (he : slE p.sk p.rd p.nd (slLo p.sk 0 p.sl k) s = e) (h0 : e ≠ 0) : chk p = (e, (k : Int)) := by
  have := firstE_at _ k e hF (by rw [slEs_at _ _ _ _ _ _ _ hk, he]) h0
  unfold chk; rw [if_neg (fun g => g hh), this, if_pos h0]
theorem slF_none {p : Pl} (h : slF p p.sl.length) : (firstE (slEs p.sk p.rd p.nd 0 p.sl) 0).1 = 0 := by rw [firstE_none _ 0 (by rw [slEs_len]; exact h)]
theorem lkF_none {p : Pl} (h : lkF p p.lk.length) : (firstE (p.lk.map (lkE p.nd)) 0).1 = 0 := by rw [firstE_none _ 0 (by rw [List.length_map]; exact h)]
theorem wnF_none {p : Pl} (h : wnF p p.wn.length) : (firstE (wnEs p.fr 0 p.wn) 0).1 = 0 := by rw [firstE_none _ 0 (by rw [wnEs_len]; exact h)]
theorem chk_link {p : Pl} {k : Nat} {s : Lk} {e : Int} (hh : headE p = 0) (hS : slF p p.sl.length) (hF : lkF p k) (hk : p.lk[k]? = some s) (he : lkE p.nd s = e) (h0 : e ≠ 0) : chk p = (e, 1000 + (k : Int)) := by
  have := firstE_at _ k e hF (by rw [List.getElem?_map, hk]; simp [he]) h0
  unfold chk; rw [if_neg (fun g => g hh), if_neg (fun g => g (slF_none hS)), this, if_pos h0]
theorem chk_win {p : Pl} {k : Nat} {s : Wn} {e : Int} (hh : headE p = 0) (hS : slF p p.sl.length) (hL : lkF p p.lk.length) (hF : wnF p k) (hk : p.wn[k]? = some s) (he : wnE p.fr (wnLo 0 p.wn k) s = e) (h0 : e ≠ 0) : chk p = (e, 2000 + (k : Int)) := by
  have := firstE_at _ k e hF (by rw [wnEs_at _ _ _ _ _ hk, he]) h0
  unfold chk; rw [if_neg (fun g => g hh), if_neg (fun g => g (slF_none hS)), if_neg (fun g => g (lkF_none hL)), this, if_pos h0]
theorem chk_fine {p : Pl} (hh : headE p = 0) (hS : slF p p.sl.length) (hL : lkF p p.lk.length) (hW : wnF p p.wn.length) : chk p = (0, -1) := by
  unfold chk; rw [if_neg (fun g => g hh), if_neg (fun g => g (slF_none hS)), if_neg (fun g => g (lkF_none hL)), if_neg (fun g => g (wnF_none hW))]
theorem slF_succ {p : Pl} {k : Nat} {s : Sl} (hF : slF p k) (hk : p.sl[k]? = some s) (he : slE p.sk p.rd p.nd (slLo p.sk 0 p.sl k) s = 0) : slF p (k + 1) := by
  intro j hj
  rcases Nat.lt_or_ge j k with h | h
  · exact hF j h
  · obtain rfl : j = k := by omega
    rw [slEs_at _ _ _ _ _ _ _ hk, he]
theorem lkF_succ {p : Pl} {k : Nat} {s : Lk} (hF : lkF p k) (hk : p.lk[k]? = some s) (he : lkE p.nd s = 0) : lkF p (k + 1) := by
  intro j hj
  rcases Nat.lt_or_ge j k with h | h
  · exact hF j h
  · obtain rfl : j = k := by omega
    rw [List.getElem?_map, hk]; simp [he]
theorem wnF_succ {p : Pl} {k : Nat} {s : Wn} (hF : wnF p k) (hk : p.wn[k]? = some s) (he : wnE p.fr (wnLo 0 p.wn k) s = 0) : wnF p (k + 1) := by
  intro j hj
  rcases Nat.lt_or_ge j k with h | h
  · exact hF j h
  · obtain rfl : j = k := by omega
    rw [wnEs_at _ _ _ _ _ hk, he]

/-- What Check answers. -/
def PcPost (w : World) (c : Int × Int) (r : Ending) (w' : World) : Prop := Below w.heap.size w w' ∧ ((c.1 = 0 ∧ r = .returned .nilIface) ∨ (c.1 ≠ 0 ∧ ∃ v, r = .returned v ∧ AtV w' v c.1 c.2))
theorem PcPost.bare {w w' : World} {c : Int × Int} {e : Int} (hc : c = (e, -1)) (h0 : e ≠ 0) (hB : Below w.heap.size w w') : PcPost w c (.returned (.iface 28 (.int .i64 e))) w' := by rw [hc]; exact ⟨hB, .inr ⟨h0, _, rfl, AtV.bare _ _⟩⟩
theorem PcPost.at_ {w w' : World} {c : Int × Int} {e pl : Int} {g : Nat} (hc : c = (e, pl)) (h0 : e ≠ 0) (hB : Below w.heap.size w w') (hb : Blk w' g 97 #[.int .i64 e, .int .i64 pl]) : PcPost w c (.returned (.iface 95 (.pointer (some ⟨g, 0, none⟩)))) w' := by rw [hc]; exact ⟨hB, .inr ⟨h0, _, rfl, AtV.at_ hb⟩⟩
theorem PcPost.fine {w w' : World} {c : Int × Int} (hc : c = (0, -1)) (hB : Below w.heap.size w w') : PcPost w c (.returned .nilIface) w' := by rw [hc]; exact ⟨hB, .inl ⟨rfl, rfl⟩⟩
/-- What Check keeps in memory. -/
structure PcAt (w wr : World) (G : Array Value) : Prop where
  g : Blk wr w.heap.size 27 G
  old : Below w.heap.size w wr
theorem PcAt.below {w w1 w2 : World} {G : Array Value} (h : PcAt w w1 G) (hB : Below w1.heap.size w1 w2) : PcAt w w2 G := ⟨h.g.below hB h.g.lt, h.old.trans (hB.mono h.old.size)⟩
theorem PcAt.alloc {w w1 : World} {G : Array Value} (h : PcAt w w1 G) (o : Obj) : PcAt w (w1.alloc o) G := h.below ((Below.refl _ _).alloc (Nat.le_refl _) o)

section
variable (p : Pl) (A : Option Addr) (len c : Nat) (AL : Option Addr) (ll cl : Nat) (AQ : Option Addr) (lq cq : Nat)
set_option maxRecDepth 100000 in
set_option maxHeartbeats 8000000 in
/-- Check, where the whole is wrong. -/
theorem check_head (w : World) (h0 : headE p ≠ 0) (s1 : p.sl.length = len) (l1 : p.lk.length = ll) (q1 : p.wn.length = lq) :
    Calls Tryd.prog 33 #[.agg (planC p.nd p.fa p.sk p.ji p.dr p.rd (.slice A len c) (.slice AL ll cl) p.fr (.slice AQ lq cq))] w (PcPost w (chk p)) := by
  have hP0 : PcAt w (w.alloc (.cells (planC p.nd p.fa p.sk p.ji p.dr p.rd (.slice A len c) (.slice AL ll cl) p.fr (.slice AQ lq cq)) 27)) (planC p.nd p.fa p.sk p.ji p.dr p.rd (.slice A len c) (.slice AL ll cl) p.fr (.slice AQ lq cq)) := ⟨Blk.new w _ _, (Below.refl _ _).alloc (Nat.le_refl _) _⟩
  have HP := hide hP0
  obtain ⟨i0, i1, i2, i3, i4, i5, i6, i7, i8, i9⟩ := hP0.g.cells10
  clear hP0
  obtain ⟨E, hE⟩ : ∃ E, E = headE p := ⟨_, rfl⟩
  have HH := hide (chk_head hE.symm (by rw [hE]; exact h0))
  rw [← hE] at h0
  unfold headE at hE
  have HE := hide hE; clear hE
  have H0 := hide h0; clear h0
  generalize chk p = C at *
  cases o1 : outB 1 16 p.nd
  case true =>
    have O1 := hide o1
    have HN := hide (show E = 1 by rw [HE.out, if_pos (by have := out_true o1; omega)])
    clear o1
    go_enter Tryd.func33, Tryd.ntmps33
    go_wp2_with fail
    refine (win1_any 1 16 p.nd (w.heap.size + 1) _ (by simp) true O1).mono ?_
    rintro e w2 ⟨rfl, hB⟩
    have HP2 := hide (HP.out.below hB)
    clear hB HP i0 i1 i2 i3 i4 i5 i6 i7 i8 i9
    obtain ⟨i0, i1, i2, i3, i4, i5, i6, i7, i8, i9⟩ := HP2.out.g.cells10
    go_wp2_with fail
    go_ret
    exact PcPost.bare (by rw [HH.out, HN.out]) (by decide) HP2.out.old
  case false =>
    have O1 := hide o1
    have r1 := out_false o1; clear o1
    cases o2 : outB 0 16 p.fa
    case true =>
      have O2 := hide o2
      have HN := hide (show E = 1 by rw [HE.out, if_pos (by have := out_true o2; omega)])
      clear o2
      go_enter Tryd.func33, Tryd.ntmps33
      go_wp2_with fail
      refine (win1_any 1 16 p.nd (w.heap.size + 1) _ (by simp) false O1).mono ?_
      rintro e w2 ⟨rfl, hB⟩
      have HP2 := hide (HP.out.below hB)
      clear hB HP i0 i1 i2 i3 i4 i5 i6 i7 i8 i9
      obtain ⟨i0, i1, i2, i3, i4, i5, i6, i7, i8, i9⟩ := HP2.out.g.cells10
      go_wp2_with fail
      refine (win1_any 0 16 p.fa (w2.heap.size) _ rfl true O2).mono ?_
      rintro e w3 ⟨rfl, hB⟩
      have HP3 := hide (HP2.out.below hB)
      clear hB HP2 i0 i1 i2 i3 i4 i5 i6 i7 i8 i9
      obtain ⟨i0, i1, i2, i3, i4, i5, i6, i7, i8, i9⟩ := HP3.out.g.cells10
      go_wp2_with fail
      go_ret
      exact PcPost.bare (by rw [HH.out, HN.out]) (by decide) HP3.out.old
    case false =>
      have O2 := hide o2
      have r2 := out_false o2; clear o2
      by_cases h3 : p.nd < 3 * p.fa + 1
      · have HN := hide (show E = 1 by rw [HE.out, if_pos (by omega)])
        have d3 : decide (p.nd < 3 * p.fa + 1) = true := decide_eq_true h3
        clear h3
        go_enter Tryd.func33, Tryd.ntmps33
        go_wp2_with fail
        refine (win1_any 1 16 p.nd (w.heap.size + 1) _ (by simp) false O1).mono ?_
        rintro e w2 ⟨rfl, hB⟩
        have HP2 := hide (HP.out.below hB)
        clear hB HP i0 i1 i2 i3 i4 i5 i6 i7 i8 i9
        obtain ⟨i0, i1, i2, i3, i4, i5, i6, i7, i8, i9⟩ := HP2.out.g.cells10
        go_wp2_with fail
        refine (win1_any 0 16 p.fa (w2.heap.size) _ rfl false O2).mono ?_
        rintro e w3 ⟨rfl, hB⟩
        have HP3 := hide (HP2.out.below hB)
        clear hB HP2 i0 i1 i2 i3 i4 i5 i6 i7 i8 i9
        obtain ⟨i0, i1, i2, i3, i4, i5, i6, i7, i8, i9⟩ := HP3.out.g.cells10
        go_wp2_with fail
        go_ret
        exact PcPost.bare (by rw [HH.out, HN.out]) (by decide) HP3.out.old
      · have d3 : decide (p.nd < 3 * p.fa + 1) = false := decide_eq_false h3
        have HE2 := hide (show E = _ from HE.out.trans (if_neg (by omega)))
        cases o3 : (outB 0 137438953472 p.sk || outB 0 137438953472 p.ji || outB 0 137438953472 p.dr)
        case true =>
          have O3 := hide o3
          have HN := hide (show E = 2 by rw [HE2.out, if_pos (by simp only [Bool.or_eq_true] at o3; rcases o3 with (o | o) | o <;> (have := out_true o; omega))])
          clear o3 h3
          go_enter Tryd.func33, Tryd.ntmps33
          go_wp2_with fail
          refine (win1_any 1 16 p.nd (w.heap.size + 1) _ (by simp) false O1).mono ?_
          rintro e w2 ⟨rfl, hB⟩
          have HP2 := hide (HP.out.below hB)
          clear hB HP i0 i1 i2 i3 i4 i5 i6 i7 i8 i9
          obtain ⟨i0, i1, i2, i3, i4, i5, i6, i7, i8, i9⟩ := HP2.out.g.cells10
          go_wp2_with fail
          refine (win1_any 0 16 p.fa (w2.heap.size) _ rfl false O2).mono ?_
          rintro e w3 ⟨rfl, hB⟩
          have HP3 := hide (HP2.out.below hB)
          clear hB HP2 i0 i1 i2 i3 i4 i5 i6 i7 i8 i9
          obtain ⟨i0, i1, i2, i3, i4, i5, i6, i7, i8, i9⟩ := HP3.out.g.cells10
          go_wp2_with fail
          refine (win3_any 0 137438953472 p.sk p.ji p.dr (w3.heap.size) _ rfl true O3).mono ?_
          rintro e w4 ⟨rfl, hB⟩
          have HP4 := hide (HP3.out.below hB)
          clear hB HP3 i0 i1 i2 i3 i4 i5 i6 i7 i8 i9
          obtain ⟨i0, i1, i2, i3, i4, i5, i6, i7, i8, i9⟩ := HP4.out.g.cells10
          go_wp2_with fail
          go_ret
          exact PcPost.bare (by rw [HH.out, HN.out]) (by decide) HP4.out.old
        case false =>
          have O3 := hide o3
          simp only [Bool.or_eq_false_iff] at o3
          obtain ⟨⟨o3a, o3b⟩, o3c⟩ := o3
          have r3 := out_false o3a; have r4 := out_false o3b; have r5 := out_false o3c
          clear o3a o3b o3c
          cases o4 : (outB 1 137438953472 p.rd || outB 1 137438953472 p.fr)
          case true =>
            have O4 := hide o4
            have HN := hide (show E = 2 by rw [HE2.out, if_pos (by simp only [Bool.or_eq_true] at o4; rcases o4 with o | o <;> (have := out_true o; omega))])
            clear o4 h3
            go_enter Tryd.func33, Tryd.ntmps33
            go_wp2_with fail
            refine (win1_any 1 16 p.nd (w.heap.size + 1) _ (by simp) false O1).mono ?_
            rintro e w2 ⟨rfl, hB⟩
            have HP2 := hide (HP.out.below hB)
            clear hB HP i0 i1 i2 i3 i4 i5 i6 i7 i8 i9
            obtain ⟨i0, i1, i2, i3, i4, i5, i6, i7, i8, i9⟩ := HP2.out.g.cells10
            go_wp2_with fail
            refine (win1_any 0 16 p.fa (w2.heap.size) _ rfl false O2).mono ?_
            rintro e w3 ⟨rfl, hB⟩
            have HP3 := hide (HP2.out.below hB)
            clear hB HP2 i0 i1 i2 i3 i4 i5 i6 i7 i8 i9
            obtain ⟨i0, i1, i2, i3, i4, i5, i6, i7, i8, i9⟩ := HP3.out.g.cells10
            go_wp2_with fail
            refine (win3_any 0 137438953472 p.sk p.ji p.dr (w3.heap.size) _ rfl false O3).mono ?_
            rintro e w4 ⟨rfl, hB⟩
            have HP4 := hide (HP3.out.below hB)
            clear hB HP3 i0 i1 i2 i3 i4 i5 i6 i7 i8 i9
            obtain ⟨i0, i1, i2, i3, i4, i5, i6, i7, i8, i9⟩ := HP4.out.g.cells10
            go_wp2_with fail
            refine (win2_any 1 137438953472 p.rd p.fr (w4.heap.size) _ rfl true O4).mono ?_
            rintro e w5 ⟨rfl, hB⟩
            have HP5 := hide (HP4.out.below hB)
            clear hB HP4 i0 i1 i2 i3 i4 i5 i6 i7 i8 i9
            obtain ⟨i0, i1, i2, i3, i4, i5, i6, i7, i8, i9⟩ := HP5.out.g.cells10
            go_wp2_with fail
            go_ret
            exact PcPost.bare (by rw [HH.out, HN.out]) (by decide) HP5.out.old
          case false =>
            have O4 := hide o4
            simp only [Bool.or_eq_false_iff] at o4
            obtain ⟨o4a, o4b⟩ := o4
            have r6 := out_false o4a; have r7 := out_false o4b
            clear o4a o4b
            have HE3 := hide (show E = _ from HE2.out.trans (if_neg (by omega)))
            by_cases h5 : 32 < len ∨ 8 < ll ∨ 32 < lq
            · have HN := hide (show E = 4 by rw [HE3.out, if_pos (by omega)])
              clear h3
              by_cases h6 : 32 < len
              · have d6 : decide ((32 : Int) < (len : Int)) = true := decide_eq_true (by omega)
                go_enter Tryd.func33, Tryd.ntmps33
                go_wp2_with fail
                refine (win1_any 1 16 p.nd (w.heap.size + 1) _ (by simp) false O1).mono ?_
                rintro e w2 ⟨rfl, hB⟩
                have HP2 := hide (HP.out.below hB)
                clear hB HP i0 i1 i2 i3 i4 i5 i6 i7 i8 i9
                obtain ⟨i0, i1, i2, i3, i4, i5, i6, i7, i8, i9⟩ := HP2.out.g.cells10
                go_wp2_with fail
                refine (win1_any 0 16 p.fa (w2.heap.size) _ rfl false O2).mono ?_
                rintro e w3 ⟨rfl, hB⟩
                have HP3 := hide (HP2.out.below hB)
                clear hB HP2 i0 i1 i2 i3 i4 i5 i6 i7 i8 i9
                obtain ⟨i0, i1, i2, i3, i4, i5, i6, i7, i8, i9⟩ := HP3.out.g.cells10
                go_wp2_with fail
                refine (win3_any 0 137438953472 p.sk p.ji p.dr (w3.heap.size) _ rfl false O3).mono ?_
                rintro e w4 ⟨rfl, hB⟩
                have HP4 := hide (HP3.out.below hB)
                clear hB HP3 i0 i1 i2 i3 i4 i5 i6 i7 i8 i9
                obtain ⟨i0, i1, i2, i3, i4, i5, i6, i7, i8, i9⟩ := HP4.out.g.cells10
                go_wp2_with fail
                refine (win2_any 1 137438953472 p.rd p.fr (w4.heap.size) _ rfl false O4).mono ?_
                rintro e w5 ⟨rfl, hB⟩
                have HP5 := hide (HP4.out.below hB)
                clear hB HP4 i0 i1 i2 i3 i4 i5 i6 i7 i8 i9
                obtain ⟨i0, i1, i2, i3, i4, i5, i6, i7, i8, i9⟩ := HP5.out.g.cells10
                go_wp2_with fail
                go_ret
                exact PcPost.bare (by rw [HH.out, HN.out]) (by decide) HP5.out.old
              · have d6 : decide ((32 : Int) < (len : Int)) = false := decide_eq_false (by omega)
                by_cases h7 : 8 < ll
                · have d7 : decide ((8 : Int) < (ll : Int)) = true := decide_eq_true (by omega)
                  go_enter Tryd.func33, Tryd.ntmps33
                  go_wp2_with fail
                  refine (win1_any 1 16 p.nd (w.heap.size + 1) _ (by simp) false O1).mono ?_
                  rintro e w2 ⟨rfl, hB⟩
                  have HP2 := hide (HP.out.below hB)
                  clear hB HP i0 i1 i2 i3 i4 i5 i6 i7 i8 i9
                  obtain ⟨i0, i1, i2, i3, i4, i5, i6, i7, i8, i9⟩ := HP2.out.g.cells10
                  go_wp2_with fail
                  refine (win1_any 0 16 p.fa (w2.heap.size) _ rfl false O2).mono ?_
                  rintro e w3 ⟨rfl, hB⟩
                  have HP3 := hide (HP2.out.below hB)
                  clear hB HP2 i0 i1 i2 i3 i4 i5 i6 i7 i8 i9
                  obtain ⟨i0, i1, i2, i3, i4, i5, i6, i7, i8, i9⟩ := HP3.out.g.cells10
                  go_wp2_with fail
                  refine (win3_any 0 137438953472 p.sk p.ji p.dr (w3.heap.size) _ rfl false O3).mono ?_
                  rintro e w4 ⟨rfl, hB⟩
                  have HP4 := hide (HP3.out.below hB)
                  clear hB HP3 i0 i1 i2 i3 i4 i5 i6 i7 i8 i9
                  obtain ⟨i0, i1, i2, i3, i4, i5, i6, i7, i8, i9⟩ := HP4.out.g.cells10
                  go_wp2_with fail
                  refine (win2_any 1 137438953472 p.rd p.fr (w4.heap.size) _ rfl false O4).mono ?_
                  rintro e w5 ⟨rfl, hB⟩
                  have HP5 := hide (HP4.out.below hB)
                  clear hB HP4 i0 i1 i2 i3 i4 i5 i6 i7 i8 i9
                  obtain ⟨i0, i1, i2, i3, i4, i5, i6, i7, i8, i9⟩ := HP5.out.g.cells10
                  go_wp2_with fail
                  go_ret
                  exact PcPost.bare (by rw [HH.out, HN.out]) (by decide) HP5.out.old
                · have d7 : decide ((8 : Int) < (ll : Int)) = false := decide_eq_false (by omega)
                  have d8 : decide ((32 : Int) < (lq : Int)) = true := decide_eq_true (by omega)
                  go_enter Tryd.func33, Tryd.ntmps33
                  go_wp2_with fail
                  refine (win1_any 1 16 p.nd (w.heap.size + 1) _ (by simp) false O1).mono ?_
                  rintro e w2 ⟨rfl, hB⟩
                  have HP2 := hide (HP.out.below hB)
                  clear hB HP i0 i1 i2 i3 i4 i5 i6 i7 i8 i9
                  obtain ⟨i0, i1, i2, i3, i4, i5, i6, i7, i8, i9⟩ := HP2.out.g.cells10
                  go_wp2_with fail
                  refine (win1_any 0 16 p.fa (w2.heap.size) _ rfl false O2).mono ?_
                  rintro e w3 ⟨rfl, hB⟩
                  have HP3 := hide (HP2.out.below hB)
                  clear hB HP2 i0 i1 i2 i3 i4 i5 i6 i7 i8 i9
                  obtain ⟨i0, i1, i2, i3, i4, i5, i6, i7, i8, i9⟩ := HP3.out.g.cells10
                  go_wp2_with fail
                  refine (win3_any 0 137438953472 p.sk p.ji p.dr (w3.heap.size) _ rfl false O3).mono ?_
                  rintro e w4 ⟨rfl, hB⟩
                  have HP4 := hide (HP3.out.below hB)
                  clear hB HP3 i0 i1 i2 i3 i4 i5 i6 i7 i8 i9
                  obtain ⟨i0, i1, i2, i3, i4, i5, i6, i7, i8, i9⟩ := HP4.out.g.cells10
                  go_wp2_with fail
                  refine (win2_any 1 137438953472 p.rd p.fr (w4.heap.size) _ rfl false O4).mono ?_
                  rintro e w5 ⟨rfl, hB⟩
                  have HP5 := hide (HP4.out.below hB)
                  clear hB HP4 i0 i1 i2 i3 i4 i5 i6 i7 i8 i9
                  obtain ⟨i0, i1, i2, i3, i4, i5, i6, i7, i8, i9⟩ := HP5.out.g.cells10
                  go_wp2_with fail
                  go_ret
                  exact PcPost.bare (by rw [HH.out, HN.out]) (by decide) HP5.out.old
            · have HE4 := hide (show E = _ from HE3.out.trans (if_neg (by omega)))
              have d6 : decide ((32 : Int) < (len : Int)) = false := decide_eq_false (by omega)
              have d7 : decide ((8 : Int) < (ll : Int)) = false := decide_eq_false (by omega)
              have d8 : decide ((32 : Int) < (lq : Int)) = false := decide_eq_false (by omega)
              have hq : p.sk.tdiv 2 = p.sk / 2 := Int.tdiv_eq_ediv_of_nonneg (by omega)
              by_cases h9 : p.sk < p.sk / 2 + 2 * p.ji + 1 + 2 * p.dr
              · have d9 : decide (p.sk < p.sk / 2 + 2 * p.ji + 1 + 2 * p.dr) = true := decide_eq_true h9
                have HN := hide (show E = 13 by rw [HE4.out, if_pos (by omega)])
                clear h3 h5 h9
                go_enter Tryd.func33, Tryd.ntmps33
                go_wp2_with fail
                refine (win1_any 1 16 p.nd (w.heap.size + 1) _ (by simp) false O1).mono ?_
                rintro e w2 ⟨rfl, hB⟩
                have HP2 := hide (HP.out.below hB)
                clear hB HP i0 i1 i2 i3 i4 i5 i6 i7 i8 i9
                obtain ⟨i0, i1, i2, i3, i4, i5, i6, i7, i8, i9⟩ := HP2.out.g.cells10
                go_wp2_with fail
                refine (win1_any 0 16 p.fa (w2.heap.size) _ rfl false O2).mono ?_
                rintro e w3 ⟨rfl, hB⟩
                have HP3 := hide (HP2.out.below hB)
                clear hB HP2 i0 i1 i2 i3 i4 i5 i6 i7 i8 i9
                obtain ⟨i0, i1, i2, i3, i4, i5, i6, i7, i8, i9⟩ := HP3.out.g.cells10
                go_wp2_with fail
                refine (win3_any 0 137438953472 p.sk p.ji p.dr (w3.heap.size) _ rfl false O3).mono ?_
                rintro e w4 ⟨rfl, hB⟩
                have HP4 := hide (HP3.out.below hB)
                clear hB HP3 i0 i1 i2 i3 i4 i5 i6 i7 i8 i9
                obtain ⟨i0, i1, i2, i3, i4, i5, i6, i7, i8, i9⟩ := HP4.out.g.cells10
                go_wp2_with fail
                refine (win2_any 1 137438953472 p.rd p.fr (w4.heap.size) _ rfl false O4).mono ?_
                rintro e w5 ⟨rfl, hB⟩
                have HP5 := hide (HP4.out.below hB)
                clear hB HP4 i0 i1 i2 i3 i4 i5 i6 i7 i8 i9
                obtain ⟨i0, i1, i2, i3, i4, i5, i6, i7, i8, i9⟩ := HP5.out.g.cells10
                go_wp2_with fail
                go_ret
                exact PcPost.bare (by rw [HH.out, HN.out]) (by decide) HP5.out.old
              · exact absurd (by rw [HE4.out, if_neg (by omega)] : E = 0) H0.out
end
end Go.Proofs.YtfdadkngbnhmeaaDoor
