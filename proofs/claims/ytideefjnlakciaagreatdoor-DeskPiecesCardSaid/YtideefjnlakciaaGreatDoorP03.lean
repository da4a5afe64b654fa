/- The contract of plan.Check; conditions: slots, links and windows lie in memory. -/
import Derived.Test.YtideefjnlakciaaGreatDoorP02
import Derived.Test.YtideefjnlakciaaGreatDoorP01
import Derived.Laws.BitsAll
import Derived.Laws.Shifts
set_option linter.unusedVariables false
set_option linter.unusedSimpArgs false
namespace Go.Proofs.YtideefjnlakciaaGreatDoor
section
open Go.RowKit
theorem ints1 {w : World} {g : Nat} {a : Int} (h : Blk w g 3 #[.int .i64 a]) : IntsAt w (some ⟨g, 0, none⟩) 1 [a] := by
 intro j hj
 obtain rfl : j = 0 := by omega
 exact ⟨g, 0, rfl, h.cells1.1⟩
theorem ints2 {w : World} {g : Nat} {a b : Int} (h : Blk w g 3 #[.int .i64 a, .int .i64 b]) : IntsAt w (some ⟨g, 0, none⟩) 2 [a, b] := by
 intro j hj
 refine ⟨g, 0, rfl, ?_⟩
 match j, hj with
 | 0, _ => exact h.cell 0
 | 1, _ => exact h.cell 1
theorem ints3 {w : World} {g : Nat} {a b c : Int} (h : Blk w g 3 #[.int .i64 a, .int .i64 b, .int .i64 c]) : IntsAt w (some ⟨g, 0, none⟩) 3 [a, b, c] := by
 intro j hj
 refine ⟨g, 0, rfl, ?_⟩
 match j, hj with
 | 0, _ => exact h.cell 0
 | 1, _ => exact h.cell 1
 | 2, _ => exact h.cell 2
theorem win1_any (lo hi z : Int) (g : Nat) (w : World) (hg : w.heap.size = g) (x : Bool) (hx : Hid (outB lo hi z = x)) :
 Calls Tryz.prog 168 #[.int .i64 lo, .int .i64 hi, .slice (some ⟨g, 0, none⟩) 1 1] (w.alloc (.cells #[.int .i64 z] 3)) fun e w' => e = .returned (.bool (!x)) ∧ Below w.heap.size w w' :=
 (withinS_any lo hi _ 1 1 [z] _ (by omega) rfl (ints1 (hg ▸ Blk.new w _ _)) (!x) (hide (by simp [hx.out]))).mono fun e w' ⟨h1, h2⟩ => ⟨h1, ((Below.refl _ _).alloc (Nat.le_refl _) _).trans (h2.mono (by simp))⟩
theorem win2_any (lo hi y z : Int) (g : Nat) (w : World) (hg : w.heap.size = g) (x : Bool) (hx : Hid ((outB lo hi y || outB lo hi z) = x)) :
 Calls Tryz.prog 168 #[.int .i64 lo, .int .i64 hi, .slice (some ⟨g, 0, none⟩) 2 2] (w.alloc (.cells #[.int .i64 y, .int .i64 z] 3)) fun e w' => e = .returned (.bool (!x)) ∧ Below w.heap.size w w' :=
 (withinS_any lo hi _ 2 2 [y, z] _ (by omega) rfl (ints2 (hg ▸ Blk.new w _ _)) (!x) (hide (by simp [← hx.out]))).mono fun e w' ⟨h1, h2⟩ => ⟨h1, ((Below.refl _ _).alloc (Nat.le_refl _) _).trans (h2.mono (by simp))⟩
theorem win3_any (lo hi u y z : Int) (g : Nat) (w : World) (hg : w.heap.size = g) (x : Bool) (hx : Hid ((outB lo hi u || outB lo hi y || outB lo hi z) = x)) :
 Calls Tryz.prog 168 #[.int .i64 lo, .int .i64 hi, .slice (some ⟨g, 0, none⟩) 3 3] (w.alloc (.cells #[.int .i64 u, .int .i64 y, .int .i64 z] 3)) fun e w' => e = .returned (.bool (!x)) ∧ Below w.heap.size w w' :=
 (withinS_any lo hi _ 3 3 [u, y, z] _ (by omega) rfl (ints3 (hg ▸ Blk.new w _ _)) (!x) (hide (by simp [← hx.out, Bool.or_assoc]))).mono fun e w' ⟨h1, h2⟩ => ⟨h1, ((Below.refl _ _).alloc (Nat.le_refl _) _).trans (h2.mono (by simp))⟩
theorem out_true {lo hi z : Int} (h : outB lo hi z = true) : z < lo ∨ hi < z := by unfold outB at h; simpa using h
theorem out_false {lo hi z : Int} (h : outB lo hi z = false) : lo ≤ z ∧ z ≤ hi := by unfold outB at h; simpa using h
def slF (p : Pl) (n : Nat) : Prop := ∀ j, j < n → (slEs p.sk p.rd p.nd 0 p.sl)[j]? = some 0
def lkF (p : Pl) (n : Nat) : Prop := ∀ j, j < n → (p.lk.map (lkE p.nd))[j]? = some 0
def wnF (p : Pl) (n : Nat) : Prop := ∀ j, j < n → (wnEs p.fr 0 p.wn)[j]? = some 0
theorem chk_head {p : Pl} {e : Int} (h : headE p = e) (h0 : e ≠ 0) : chk p = (e, -1) := by unfold chk; rw [h, if_pos h0]
theorem chk_slot {p : Pl} {k : Nat} {s : Sl} {e : Int} (hh : headE p = 0) (hF : slF p k) (hk : p.sl[k]? = some s) (he : slE p.sk p.rd p.nd (slLo p.sk 0 p.sl k) s = e) (h0 : e ≠ 0) : chk p = (e, (k : Int)) := by
 have := firstE_at _ k e hF (by rw [slEs_at _ _ _ _ _ _ _ hk, he]) h0
 unfold chk; rw [if_neg (fun g => g hh), this, if_pos h0]
theorem slF_none {p : Pl} (h : slF p p.sl.length) : (firstE (slEs p.sk p.rd p.nd 0 p.sl) 0).1 = 0 := by rw [firstE_none _ 0 (by rw [slEs_len]; exact h)]
theorem lkF_none {p : Pl} (h : lkF p p.lk.length) : (firstE (p.lk.map (lkE p.nd)) 0).1 = 0 := by rw [firstE_none _ 0 (by rw [List.length_map]; exact h)]
theorem wnF_none {p : Pl} (h : wnF p p.wn.length) : (firstE (wnEs p.fr 0 p.wn) 0).1 = 0 := by rw [firstE_none _ 0 (by rw [wnEs_len]; exact h)]
theorem chk_link {p : Pl} {k : Nat} {s : Lk} {e : Int} (hh : headE p = 0) (hS : slF p p.sl.length) (hF : lkF p k) (hk : p.lk[k]? = some s) (he : lkE p.nd s = e) (h0 : e ≠ 0) : chk p = (e, 1000 + (k : Int)) := by
 have := firstE_at _ k e hF (by rw [List.getElem?_map, hk]; simp [he]) h0
 unfold chk; rw [if_neg (fun g => g hh), if_neg (fun g => g (slF_none hS)), this, if_pos h0]
theorem chk_win {p : Pl} {k : Nat} {s : Wn} {e : Int} (hh : headE p = 0) (hS : slF p p.sl.length) (hL : lkF p p.lk.length) (hF : wnF p k) (hk : p.wn[k]? = some s) (he : wnE p.fr (wnLo 0 p.wn k) s = e) (h0 : e ≠ 0) : chk p = (e, 2000 + (k : Int)) := by
 have := firstE_at _ k e hF (by rw [wnEs_at _ _ _ _ _ hk, he]) h0
 unfold chk; rw [if_neg (fun g => g hh), if_neg (fun g => g (slF_none hS)), if_neg (fun g => g (lkF_none hL)), this, if_pos h0]
theorem chk_fine {p : Pl} (hh : headE p = 0) (hS : slF p p.sl.length) (hL : lkF p p.lk.length) (hW : wnF p p.wn.length) : chk p = (0, -1) := by
 unfold chk; rw [if_neg (fun g => g hh), if_neg (fun g => g (slF_none hS)), if_neg (fun g => g (lkF_none hL)), if_neg (fun g => g (wnF_none hW))]
theorem slF_succ {p : Pl} {k : Nat} {s : Sl} (hF : slF p k) (hk : p.sl[k]? = some s) (he : slE p.sk p.rd p.nd (slLo p.sk 0 p.sl k) s = 0) : slF p (k + 1) := by
 intro j hj
 rcases Nat.lt_or_ge j k with h | h
 ·exact hF j h
 ·obtain rfl : j = k := by omega
  rw [slEs_at _ _ _ _ _ _ _ hk, he]
theorem lkF_succ {p : Pl} {k : Nat} {s : Lk} (hF : lkF p k) (hk : p.lk[k]? = some s) (he : lkE p.nd s = 0) : lkF p (k + 1) := by
 intro j hj
 rcases Nat.lt_or_ge j k with h | h
 ·exact hF j h
 ·obtain rfl : j = k := by omega
  rw [List.getElem?_map, hk]; simp [he]
theorem wnF_succ {p : Pl} {k : Nat} {s : Wn} (hF : wnF p k) (hk : p.wn[k]? = some s) (he : wnE p.fr (wnLo 0 p.wn k) s = 0) : wnF p (k + 1) := by
 intro j hj
 rcases Nat.lt_or_ge j k with h | h
 ·exact hF j h
 ·obtain rfl : j = k := by omega
  rw [wnEs_at _ _ _ _ _ hk, he]
/-- What Check answers. -/
def PcPost (w : World) (c : Int × Int) (r : Ending) (w' : World) : Prop := Below w.heap.size w w' ∧ ((c.1 = 0 ∧ r = .returned .nilIface) ∨ (c.1 ≠ 0 ∧ ∃ v, r = .returned v ∧ AtV w' v c.1 c.2))
theorem PcPost.bare {w w' : World} {c : Int × Int} {e : Int} (hc : c = (e, -1)) (h0 : e ≠ 0) (hB : Below w.heap.size w w') : PcPost w c (.returned (.iface 61 (.int .i64 e))) w' := by rw [hc]; exact ⟨hB, .inr ⟨h0, _, rfl, AtV.bare _ _⟩⟩
theorem PcPost.at_ {w w' : World} {c : Int × Int} {e pl : Int} {g : Nat} (hc : c = (e, pl)) (h0 : e ≠ 0) (hB : Below w.heap.size w w') (hb : Blk w' g 259 #[.int .i64 e, .int .i64 pl]) : PcPost w c (.returned (.iface 258 (.pointer (some ⟨g, 0, none⟩)))) w' := by rw [hc]; exact ⟨hB, .inr ⟨h0, _, rfl, AtV.at_ hb⟩⟩
theorem PcPost.fine {w w' : World} {c : Int × Int} (hc : c = (0, -1)) (hB : Below w.heap.size w w') : PcPost w c (.returned .nilIface) w' := by rw [hc]; exact ⟨hB, .inl ⟨rfl, rfl⟩⟩
/-- What Check keeps in memory. -/
structure PcAt (w wr : World) (G : Array Value) : Prop where
 g : Blk wr w.heap.size 29 G
 old : Below w.heap.size w wr
theorem PcAt.below {w w1 w2 : World} {G : Array Value} (h : PcAt w w1 G) (hB : Below w1.heap.size w1 w2) : PcAt w w2 G := ⟨h.g.below hB h.g.lt, h.old.trans (hB.mono h.old.size)⟩
theorem PcAt.alloc {w w1 : World} {G : Array Value} (h : PcAt w w1 G) (o : Obj) : PcAt w (w1.alloc o) G := h.below ((Below.refl _ _).alloc (Nat.le_refl _) o)
section
variable (p : Pl) (A : Option Addr) (len c : Nat) (AL : Option Addr) (ll cl : Nat) (AQ : Option Addr) (lq cq : Nat)
set_option maxRecDepth 100000 in
set_option maxHeartbeats 8000000 in
/-- Check, where the whole is wrong. -/
theorem check_head (w : World) (h0 : headE p ≠ 0) (s1 : p.sl.length = len) (l1 : p.lk.length = ll) (q1 : p.wn.length = lq) :
 Calls Tryz.prog 129 #[.agg (planC p.nd p.fa p.sk p.ji p.dr p.rd (.slice A len c) (.slice AL ll cl) p.fr (.slice AQ lq cq))] w (PcPost w (chk p)) := by
 have hP0 : PcAt w (w.alloc (.cells (planC p.nd p.fa p.sk p.ji p.dr p.rd (.slice A len c) (.slice AL ll cl) p.fr (.slice AQ lq cq)) 29)) (planC p.nd p.fa p.sk p.ji p.dr p.rd (.slice A len c) (.slice AL ll cl) p.fr (.slice AQ lq cq)) := ⟨Blk.new w _ _, (Below.refl _ _).alloc (Nat.le_refl _) _⟩
 have HP := hide hP0
 obtain ⟨i0, i1, i2, i3, i4, i5, i6, i7, i8, i9⟩ := hP0.g.cells10
 clear hP0
 obtain ⟨E, hE⟩ : ∃ E, E = headE p := ⟨_, rfl⟩
 have HH := hide (chk_head hE.symm (by rw [hE]; exact h0))
 rw [← hE] at h0
 unfold headE at hE
 have HE := hide hE; clear hE
 have H0 := hide h0; clear h0
 generalize chk p = C at *
 cases o1 : outB 1 16 p.nd
 case true =>
  have O1 := hide o1
  have HN := hide (show E = 1 by rw [HE.out, if_pos (by have := out_true o1; omega)])
  clear o1
  go_enter Tryz.func129, Tryz.ntmps129
  go_wp2_with fail
  refine (win1_any 1 16 p.nd (w.heap.size + 1) _ (by simp) true O1).mono ?_
  rintro e w2 ⟨rfl, hB⟩
  have HP2 := hide (HP.out.below hB)
  clear hB HP i0 i1 i2 i3 i4 i5 i6 i7 i8 i9
  obtain ⟨i0, i1, i2, i3, i4, i5, i6, i7, i8, i9⟩ := HP2.out.g.cells10
  go_wp2_with fail
  go_ret
  exact PcPost.bare (by rw [HH.out, HN.out]) (by decide) HP2.out.old
 case false =>
  have O1 := hide o1
  have r1 := out_false o1; clear o1
  cases o2 : outB 0 16 p.fa
  case true =>
   have O2 := hide o2
   have HN := hide (show E = 1 by rw [HE.out, if_pos (by have := out_true o2; omega)])
   clear o2
   go_enter Tryz.func129, Tryz.ntmps129
   go_wp2_with fail
   refine (win1_any 1 16 p.nd (w.heap.size + 1) _ (by simp) false O1).mono ?_
   rintro e w2 ⟨rfl, hB⟩
   have HP2 := hide (HP.out.below hB)
   clear hB HP i0 i1 i2 i3 i4 i5 i6 i7 i8 i9
   obtain ⟨i0, i1, i2, i3, i4, i5, i6, i7, i8, i9⟩ := HP2.out.g.cells10
   go_wp2_with fail
   refine (win1_any 0 16 p.fa (w2.heap.size) _ rfl true O2).mono ?_
   rintro e w3 ⟨rfl, hB⟩
   have HP3 := hide (HP2.out.below hB)
   clear hB HP2 i0 i1 i2 i3 i4 i5 i6 i7 i8 i9
   obtain ⟨i0, i1, i2, i3, i4, i5, i6, i7, i8, i9⟩ := HP3.out.g.cells10
   go_wp2_with fail
   go_ret
   exact PcPost.bare (by rw [HH.out, HN.out]) (by decide) HP3.out.old
  case false =>
   have O2 := hide o2
   have r2 := out_false o2; clear o2
   by_cases h3 : p.nd < 3 * p.fa + 1
   ·have HN := hide (show E = 1 by rw [HE.out, if_pos (by omega)])
    have d3 : decide (p.nd < 3 * p.fa + 1) = true := decide_eq_true h3
    clear h3
    go_enter Tryz.func129, Tryz.ntmps129
    go_wp2_with fail
    refine (win1_any 1 16 p.nd (w.heap.size + 1) _ (by simp) false O1).mono ?_
    rintro e w2 ⟨rfl, hB⟩
    have HP2 := hide (HP.out.below hB)
    clear hB HP i0 i1 i2 i3 i4 i5 i6 i7 i8 i9
    obtain ⟨i0, i1, i2, i3, i4, i5, i6, i7, i8, i9⟩ := HP2.out.g.cells10
    go_wp2_with fail
    refine (win1_any 0 16 p.fa (w2.heap.size) _ rfl false O2).mono ?_
    rintro e w3 ⟨rfl, hB⟩
    have HP3 := hide (HP2.out.below hB)
    clear hB HP2 i0 i1 i2 i3 i4 i5 i6 i7 i8 i9
    obtain ⟨i0, i1, i2, i3, i4, i5, i6, i7, i8, i9⟩ := HP3.out.g.cells10
    go_wp2_with fail
    go_ret
    exact PcPost.bare (by rw [HH.out, HN.out]) (by decide) HP3.out.old
   ·have d3 : decide (p.nd < 3 * p.fa + 1) = false := decide_eq_false h3
    have HE2 := hide (show E = _ from HE.out.trans (if_neg (by omega)))
    cases o3 : (outB 0 137438953472 p.sk || outB 0 137438953472 p.ji || outB 0 137438953472 p.dr)
    case true =>
     have O3 := hide o3
     have HN := hide (show E = 2 by rw [HE2.out, if_pos (by simp only [Bool.or_eq_true] at o3; rcases o3 with (o | o) | o <;> (have := out_true o; omega))])
     clear o3 h3
     go_enter Tryz.func129, Tryz.ntmps129
     go_wp2_with fail
     refine (win1_any 1 16 p.nd (w.heap.size + 1) _ (by simp) false O1).mono ?_
     rintro e w2 ⟨rfl, hB⟩
     have HP2 := hide (HP.out.below hB)
     clear hB HP i0 i1 i2 i3 i4 i5 i6 i7 i8 i9
     obtain ⟨i0, i1, i2, i3, i4, i5, i6, i7, i8, i9⟩ := HP2.out.g.cells10
     go_wp2_with fail
     refine (win1_any 0 16 p.fa (w2.heap.size) _ rfl false O2).mono ?_
     rintro e w3 ⟨rfl, hB⟩
     have HP3 := hide (HP2.out.below hB)
     clear hB HP2 i0 i1 i2 i3 i4 i5 i6 i7 i8 i9
     obtain ⟨i0, i1, i2, i3, i4, i5, i6, i7, i8, i9⟩ := HP3.out.g.cells10
     go_wp2_with fail
     refine (win3_any 0 137438953472 p.sk p.ji p.dr (w3.heap.size) _ rfl true O3).mono ?_
     rintro e w4 ⟨rfl, hB⟩
     have HP4 := hide (HP3.out.below hB)
     clear hB HP3 i0 i1 i2 i3 i4 i5 i6 i7 i8 i9
     obtain ⟨i0, i1, i2, i3, i4, i5, i6, i7, i8, i9⟩ := HP4.out.g.cells10
     go_wp2_with fail
     go_ret
     exact PcPost.bare (by rw [HH.out, HN.out]) (by decide) HP4.out.old
    case false =>
     have O3 := hide o3
     simp only [Bool.or_eq_false_iff] at o3
     obtain ⟨⟨o3a, o3b⟩, o3c⟩ := o3
     have r3 := out_false o3a; have r4 := out_false o3b; have r5 := out_false o3c
     clear o3a o3b o3c
     cases o4 : (outB 1 137438953472 p.rd || outB 1 137438953472 p.fr)
     case true =>
      have O4 := hide o4
      have HN := hide (show E = 2 by rw [HE2.out, if_pos (by simp only [Bool.or_eq_true] at o4; rcases o4 with o | o <;> (have := out_true o; omega))])
      clear o4 h3
      go_enter Tryz.func129, Tryz.ntmps129
      go_wp2_with fail
      refine (win1_any 1 16 p.nd (w.heap.size + 1) _ (by simp) false O1).mono ?_
      rintro e w2 ⟨rfl, hB⟩
      have HP2 := hide (HP.out.below hB)
      clear hB HP i0 i1 i2 i3 i4 i5 i6 i7 i8 i9
      obtain ⟨i0, i1, i2, i3, i4, i5, i6, i7, i8, i9⟩ := HP2.out.g.cells10
      go_wp2_with fail
      refine (win1_any 0 16 p.fa (w2.heap.size) _ rfl false O2).mono ?_
      rintro e w3 ⟨rfl, hB⟩
      have HP3 := hide (HP2.out.below hB)
      clear hB HP2 i0 i1 i2 i3 i4 i5 i6 i7 i8 i9
      obtain ⟨i0, i1, i2, i3, i4, i5, i6, i7, i8, i9⟩ := HP3.out.g.cells10
      go_wp2_with fail
      refine (win3_any 0 137438953472 p.sk p.ji p.dr (w3.heap.size) _ rfl false O3).mono ?_
      rintro e w4 ⟨rfl, hB⟩
      have HP4 := hide (HP3.out.below hB)
      clear hB HP3 i0 i1 i2 i3 i4 i5 i6 i7 i8 i9
      obtain ⟨i0, i1, i2, i3, i4, i5, i6, i7, i8, i9⟩ := HP4.out.g.cells10
      go_wp2_with fail
      refine (win2_any 1 137438953472 p.rd p.fr (w4.heap.size) _ rfl true O4).mono ?_
      rintro e w5 ⟨rfl, hB⟩
      have HP5 := hide (HP4.out.below hB)
      clear hB HP4 i0 i1 i2 i3 i4 i5 i6 i7 i8 i9
      obtain ⟨i0, i1, i2, i3, i4, i5, i6, i7, i8, i9⟩ := HP5.out.g.cells10
      go_wp2_with fail
      go_ret
      exact PcPost.bare (by rw [HH.out, HN.out]) (by decide) HP5.out.old
     case false =>
      have O4 := hide o4
      simp only [Bool.or_eq_false_iff] at o4
      obtain ⟨o4a, o4b⟩ := o4
      have r6 := out_false o4a; have r7 := out_false o4b
      clear o4a o4b
      have HE3 := hide (show E = _ from HE2.out.trans (if_neg (by omega)))
      by_cases h5 : 32 < len ∨ 8 < ll ∨ 32 < lq
      ·have HN := hide (show E = 4 by rw [HE3.out, if_pos (by omega)])
       clear h3
       by_cases h6 : 32 < len
       ·have d6 : decide ((32 : Int) < (len : Int)) = true := decide_eq_true (by omega)
        go_enter Tryz.func129, Tryz.ntmps129
        go_wp2_with fail
        refine (win1_any 1 16 p.nd (w.heap.size + 1) _ (by simp) false O1).mono ?_
        rintro e w2 ⟨rfl, hB⟩
        have HP2 := hide (HP.out.below hB)
        clear hB HP i0 i1 i2 i3 i4 i5 i6 i7 i8 i9
        obtain ⟨i0, i1, i2, i3, i4, i5, i6, i7, i8, i9⟩ := HP2.out.g.cells10
        go_wp2_with fail
        refine (win1_any 0 16 p.fa (w2.heap.size) _ rfl false O2).mono ?_
        rintro e w3 ⟨rfl, hB⟩
        have HP3 := hide (HP2.out.below hB)
        clear hB HP2 i0 i1 i2 i3 i4 i5 i6 i7 i8 i9
        obtain ⟨i0, i1, i2, i3, i4, i5, i6, i7, i8, i9⟩ := HP3.out.g.cells10
        go_wp2_with fail
        refine (win3_any 0 137438953472 p.sk p.ji p.dr (w3.heap.size) _ rfl false O3).mono ?_
        rintro e w4 ⟨rfl, hB⟩
        have HP4 := hide (HP3.out.below hB)
        clear hB HP3 i0 i1 i2 i3 i4 i5 i6 i7 i8 i9
        obtain ⟨i0, i1, i2, i3, i4, i5, i6, i7, i8, i9⟩ := HP4.out.g.cells10
        go_wp2_with fail
        refine (win2_any 1 137438953472 p.rd p.fr (w4.heap.size) _ rfl false O4).mono ?_
        rintro e w5 ⟨rfl, hB⟩
        have HP5 := hide (HP4.out.below hB)
        clear hB HP4 i0 i1 i2 i3 i4 i5 i6 i7 i8 i9
        obtain ⟨i0, i1, i2, i3, i4, i5, i6, i7, i8, i9⟩ := HP5.out.g.cells10
        go_wp2_with fail
        go_ret
        exact PcPost.bare (by rw [HH.out, HN.out]) (by decide) HP5.out.old
       ·have d6 : decide ((32 : Int) < (len : Int)) = false := decide_eq_false (by omega)
        by_cases h7 : 8 < ll
        ·have d7 : decide ((8 : Int) < (ll : Int)) = true := decide_eq_true (by omega)
         go_enter Tryz.func129, Tryz.ntmps129
         go_wp2_with fail
         refine (win1_any 1 16 p.nd (w.heap.size + 1) _ (by simp) false O1).mono ?_
         rintro e w2 ⟨rfl, hB⟩
         have HP2 := hide (HP.out.below hB)
         clear hB HP i0 i1 i2 i3 i4 i5 i6 i7 i8 i9
         obtain ⟨i0, i1, i2, i3, i4, i5, i6, i7, i8, i9⟩ := HP2.out.g.cells10
         go_wp2_with fail
         refine (win1_any 0 16 p.fa (w2.heap.size) _ rfl false O2).mono ?_
         rintro e w3 ⟨rfl, hB⟩
         have HP3 := hide (HP2.out.below hB)
         clear hB HP2 i0 i1 i2 i3 i4 i5 i6 i7 i8 i9
         obtain ⟨i0, i1, i2, i3, i4, i5, i6, i7, i8, i9⟩ := HP3.out.g.cells10
         go_wp2_with fail
         refine (win3_any 0 137438953472 p.sk p.ji p.dr (w3.heap.size) _ rfl false O3).mono ?_
         rintro e w4 ⟨rfl, hB⟩
         have HP4 := hide (HP3.out.below hB)
         clear hB HP3 i0 i1 i2 i3 i4 i5 i6 i7 i8 i9
         obtain ⟨i0, i1, i2, i3, i4, i5, i6, i7, i8, i9⟩ := HP4.out.g.cells10
         go_wp2_with fail
         refine (win2_any 1 137438953472 p.rd p.fr (w4.heap.size) _ rfl false O4).mono ?_
         rintro e w5 ⟨rfl, hB⟩
         have HP5 := hide (HP4.out.below hB)
         clear hB HP4 i0 i1 i2 i3 i4 i5 i6 i7 i8 i9
         obtain ⟨i0, i1, i2, i3, i4, i5, i6, i7, i8, i9⟩ := HP5.out.g.cells10
         go_wp2_with fail
         go_ret
         exact PcPost.bare (by rw [HH.out, HN.out]) (by decide) HP5.out.old
        ·have d7 : decide ((8 : Int) < (ll : Int)) = false := decide_eq_false (by omega)
         have d8 : decide ((32 : Int) < (lq : Int)) = true := decide_eq_true (by omega)
         go_enter Tryz.func129, Tryz.ntmps129
         go_wp2_with fail
         refine (win1_any 1 16 p.nd (w.heap.size + 1) _ (by simp) false O1).mono ?_
         rintro e w2 ⟨rfl, hB⟩
         have HP2 := hide (HP.out.below hB)
         clear hB HP i0 i1 i2 i3 i4 i5 i6 i7 i8 i9
         obtain ⟨i0, i1, i2, i3, i4, i5, i6, i7, i8, i9⟩ := HP2.out.g.cells10
         go_wp2_with fail
         refine (win1_any 0 16 p.fa (w2.heap.size) _ rfl false O2).mono ?_
         rintro e w3 ⟨rfl, hB⟩
         have HP3 := hide (HP2.out.below hB)
         clear hB HP2 i0 i1 i2 i3 i4 i5 i6 i7 i8 i9
         obtain ⟨i0, i1, i2, i3, i4, i5, i6, i7, i8, i9⟩ := HP3.out.g.cells10
         go_wp2_with fail
         refine (win3_any 0 137438953472 p.sk p.ji p.dr (w3.heap.size) _ rfl false O3).mono ?_
         rintro e w4 ⟨rfl, hB⟩
         have HP4 := hide (HP3.out.below hB)
         clear hB HP3 i0 i1 i2 i3 i4 i5 i6 i7 i8 i9
         obtain ⟨i0, i1, i2, i3, i4, i5, i6, i7, i8, i9⟩ := HP4.out.g.cells10
         go_wp2_with fail
         refine (win2_any 1 137438953472 p.rd p.fr (w4.heap.size) _ rfl false O4).mono ?_
         rintro e w5 ⟨rfl, hB⟩
         have HP5 := hide (HP4.out.below hB)
         clear hB HP4 i0 i1 i2 i3 i4 i5 i6 i7 i8 i9
         obtain ⟨i0, i1, i2, i3, i4, i5, i6, i7, i8, i9⟩ := HP5.out.g.cells10
         go_wp2_with fail
         go_ret
         exact PcPost.bare (by rw [HH.out, HN.out]) (by decide) HP5.out.old
      ·have HE4 := hide (show E = _ from HE3.out.trans (if_neg (by omega)))
       have d6 : decide ((32 : Int) < (len : Int)) = false := decide_eq_false (by omega)
       have d7 : decide ((8 : Int) < (ll : Int)) = false := decide_eq_false (by omega)
       have d8 : decide ((32 : Int) < (lq : Int)) = false := decide_eq_false (by omega)
       have hq : p.sk.tdiv 2 = p.sk / 2 := Int.tdiv_eq_ediv_of_nonneg (by omega)
       by_cases h9 : p.sk < p.sk / 2 + 2 * p.ji + 1 + 2 * p.dr
       ·have d9 : decide (p.sk < p.sk / 2 + 2 * p.ji + 1 + 2 * p.dr) = true := decide_eq_true h9
        have HN := hide (show E = 13 by rw [HE4.out, if_pos (by omega)])
        clear h3 h5 h9
        go_enter Tryz.func129, Tryz.ntmps129
        go_wp2_with fail
        refine (win1_any 1 16 p.nd (w.heap.size + 1) _ (by simp) false O1).mono ?_
        rintro e w2 ⟨rfl, hB⟩
        have HP2 := hide (HP.out.below hB)
        clear hB HP i0 i1 i2 i3 i4 i5 i6 i7 i8 i9
        obtain ⟨i0, i1, i2, i3, i4, i5, i6, i7, i8, i9⟩ := HP2.out.g.cells10
        go_wp2_with fail
        refine (win1_any 0 16 p.fa (w2.heap.size) _ rfl false O2).mono ?_
        rintro e w3 ⟨rfl, hB⟩
        have HP3 := hide (HP2.out.below hB)
        clear hB HP2 i0 i1 i2 i3 i4 i5 i6 i7 i8 i9
        obtain ⟨i0, i1, i2, i3, i4, i5, i6, i7, i8, i9⟩ := HP3.out.g.cells10
        go_wp2_with fail
        refine (win3_any 0 137438953472 p.sk p.ji p.dr (w3.heap.size) _ rfl false O3).mono ?_
        rintro e w4 ⟨rfl, hB⟩
        have HP4 := hide (HP3.out.below hB)
        clear hB HP3 i0 i1 i2 i3 i4 i5 i6 i7 i8 i9
        obtain ⟨i0, i1, i2, i3, i4, i5, i6, i7, i8, i9⟩ := HP4.out.g.cells10
        go_wp2_with fail
        refine (win2_any 1 137438953472 p.rd p.fr (w4.heap.size) _ rfl false O4).mono ?_
        rintro e w5 ⟨rfl, hB⟩
        have HP5 := hide (HP4.out.below hB)
        clear hB HP4 i0 i1 i2 i3 i4 i5 i6 i7 i8 i9
        obtain ⟨i0, i1, i2, i3, i4, i5, i6, i7, i8, i9⟩ := HP5.out.g.cells10
        go_wp2_with fail
        go_ret
        exact PcPost.bare (by rw [HH.out, HN.out]) (by decide) HP5.out.old
       ·exact absurd (by rw [HE4.out, if_neg (by omega)] : E = 0) H0.out
end
end
section
/-- One bit further. -/
def crcT (v : Nat) : Nat := if 32768 ≤ v then (2 * v % 65536) ^^^ 4129 else 2 * v
def crcI : Nat → Nat → Nat
 | 0, v => v
 | k + 1, v => crcT (crcI k v)
def crcB (v c : Nat) : Nat := crcI 8 (v ^^^ (c * 256))
def crcS (l : List Nat) : Nat := l.foldl crcB 65535
theorem crcT_lt (v : Nat) (h : v < 65536) : crcT v < 65536 := by
 unfold crcT; split
 ·exact Nat.xor_lt_two_pow (n := 16) (by omega) (by omega)
 ·omega
theorem crcI_lt (k v : Nat) (h : v < 65536) : crcI k v < 65536 := by
 induction k with
 | zero => exact h
 | succ k ih => exact crcT_lt _ ih
theorem crcX_lt (v c : Nat) (h : v < 65536) (hc : c < 256) : v ^^^ (c * 256) < 65536 := Nat.xor_lt_two_pow (n := 16) (by omega) (by omega)
theorem crcB_lt (v c : Nat) (h : v < 65536) (hc : c < 256) : crcB v c < 65536 := crcI_lt _ _ (crcX_lt v c h hc)
theorem crcF_lt (l : List Nat) (v : Nat) (h : v < 65536) (hl : ∀ c ∈ l, c < 256) : l.foldl crcB v < 65536 := by
 induction l generalizing v with
 | nil => exact h
 | cons c l ih =>
  rw [List.foldl_cons]
  exact ih (crcB v c) (crcB_lt _ _ h (hl c (List.mem_cons_self ..))) (fun d hd => hl d (List.mem_cons_of_mem _ hd))
theorem crcS_lt (l : List Nat) (hl : ∀ c ∈ l, c < 256) : crcS l < 65536 := crcF_lt l _ (by omega) hl
theorem crcS_snoc (l : List Nat) (k : Nat) (h : k < l.length) : crcS (l.take (k + 1)) = crcB (crcS (l.take k)) (l.getD k 0) := by
 unfold crcS
 rw [List.take_add_one, List.foldl_append]
 rw [List.getElem?_eq_getElem h]
 have e : l.getD k 0 = l[k] := by rw [List.getD, List.getElem?_eq_getElem h]; rfl
 rw [e]
 simp only [Option.toList_some, List.foldl_cons, List.foldl_nil]
end
section
open Go.RowKit
/-- The first n bytes of a slice lie in memory. -/
def BytesAt (W : World) (A : Option Addr) (n : Nat) (bs : List Nat) : Prop := ∀ j, j < n → ∃ b off, A = some ⟨b, off, none⟩ ∧ W.cell? ⟨b, off + j, none⟩ = some (.int .u8 (bs.getD j 0 : Nat))
theorem xor_byte (v x : Nat) (hv : v < 65536) (hx : x < 256) : bits .xor .u16 (v : Int) ((x : Int) * 256) = ((v ^^^ (x * 256) : Nat) : Int) := by
 rw [show ((x : Int) * 256) = ((x * 256 : Nat) : Int) by omega, u16_xor_nat v (x * 256) hv (by omega)]
theorem step_hi (z : Nat) (hz : z < 65536) (h : (((z : Int) / 32768) == 1) = true) : bits .xor .u16 (IntKind.u16.wrap ((z : Int) * 2)) 4129 = ((crcT z : Nat) : Int) := by
 have h1 : 32768 ≤ z := by simp at h; omega
 have e : IntKind.u16.wrap ((z : Int) * 2) = ((2 * z % 65536 : Nat) : Int) := by rw [IntKind.wrap_u16]; omega
 rw [e, show (4129 : Int) = ((4129 : Nat) : Int) from rfl, u16_xor_nat _ _ (by omega) (by omega), crcT, if_pos h1]
theorem step_lo (z : Nat) (hz : z < 65536) (h : (((z : Int) / 32768) == 1) = false) : IntKind.u16.wrap ((z : Int) * 2) = ((crcT z : Nat) : Int) := by
 have h1 : ¬ 32768 ≤ z := by simp at h; omega
 rw [IntKind.wrap_u16, crcT, if_neg h1]; omega
theorem v16 {a b : Int} (h : a = b) : Value.int .u16 a = .int .u16 b := by rw [h]
set_option maxRecDepth 100000 in
set_option maxHeartbeats 1000000 in
theorem sum_any (A : Option Addr) (c : Nat) (bs : List Nat) (w : World) (hc : BytesAt w A bs.length bs) (hl : ∀ x ∈ bs, x < 256) (hn : bs.length ≤ 9223372036854775807) :
 Calls Tryz.prog 202 #[.slice A bs.length c] w fun e w' => e = .returned (.int .i64 (crcS bs : Nat)) ∧ w = w' := by
 go_enter Tryz.func202, Tryz.ntmps202
 go_wp2
 go_loop [3, 9] (fun v i => ∃ k : Nat, k ≤ bs.length ∧ i = .int .i64 k ∧ v = .int .u16 (crcS (bs.take k) : Nat)) (fun _ i => bs.length - (intOf i).toNat)
 case atStart => exact ⟨0, by omega, rfl, rfl⟩
 case round =>
  obtain ⟨k, hk, rfl, rfl⟩ := hrel
  by_cases hlt : k < bs.length
  ·obtain ⟨b, off, rfl, hcell⟩ := hc k hlt
   have hv := crcS_lt (bs.take k) (fun x hx => hl x (List.mem_of_mem_take hx))
   have hs := crcS_snoc bs k hlt
   have hb : bs.getD k 0 < 256 := by
    have : bs.getD k 0 = bs[k] := by simp [List.getD, List.getElem?_eq_getElem hlt]
    rw [this]; exact hl _ (List.getElem_mem hlt)
   generalize hx : bs.getD k 0 = x at hs hb hcell
   clear hx
   have hx16 := hide (xor_byte (crcS (bs.take k)) x hv hb)
   have hv0 := crcX_lt _ _ hv hb
   have HS := hide hs; clear hs
   generalize hq : crcS (bs.take k) = q at *
   clear hq
   go_wp2
   go_loop [3, 18] (fun v i => ∃ j : Nat, j ≤ 8 ∧ i = .int .i64 j ∧ v = .int .u16 (crcI j (q ^^^ (x * 256)) : Nat)) (fun _ i => 8 - (intOf i).toNat)
   case atStart => exact ⟨0, by omega, rfl, by rw [hx16.out]; rfl⟩
   case round =>
    obtain ⟨j, hj, rfl, rfl⟩ := hrel
    have hy := crcI_lt j _ hv0
    generalize hz : crcI j (q ^^^ (x * 256)) = z at *
    have hz := hide hz
    go_wp2
    ·exact ⟨⟨j + 1, by omega, by go_num, v16 (by rw [crcI, hz.out]; exact step_hi z hy ‹_›)⟩, by simp [intOf]; omega⟩
    ·exact ⟨⟨j + 1, by omega, by go_num, v16 (by rw [crcI, hz.out]; exact step_lo z hy ‹_›)⟩, by simp [intOf]; omega⟩
    ·obtain rfl : j = 8 := by omega
     exact ⟨⟨k + 1, by omega, by go_num, by rw [HS.out, crcB, hz.out]⟩, by simp [intOf]; omega⟩
  ·obtain rfl : k = bs.length := by omega
   have hv := crcS_lt bs hl
   have ht : bs.take bs.length = bs := List.take_length
   rw [ht]
   go_wp2
   go_ret
   exact ⟨rfl, rfl⟩
end
end Go.Proofs.YtideefjnlakciaaGreatDoor
