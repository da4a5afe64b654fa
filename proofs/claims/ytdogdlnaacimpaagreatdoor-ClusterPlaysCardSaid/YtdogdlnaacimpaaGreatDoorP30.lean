/- What the end of a round leaves of the document's cluster; plain facts; conditions: none. -/
import Derived.Test.YtdogdlnaacimpaaGreatDoorP24
import Derived.Test.YtdogdlnaacimpaaGreatDoorP05
import Derived.Test.YtdogdlnaacimpaaGreatDoorP19
import Derived.Test.YtdogdlnaacimpaaGreatDoorP23
set_option linter.unusedVariables false
set_option linter.unusedSimpArgs false
namespace Go.Proofs.YtdogdlnaacimpaaGreatDoor
section
open Go Go.RowKit
section
variable {ι : Type} [DecidableEq ι] {w : World} {base : Nat} {S : ι → GO}
/-- A block that lies there, and is nobody's, is taken in. -/
theorem GFam.takeIn (h : GFam w base S) (x : ι) (o : GO) (ha : o.At w) (hf : ∀ k, k ∈ o.foot → base ≤ k ∧ k < w.heap.size ∧ ¬ Gmy S k) : GFam w base (putG S x o) := by
 refine ⟨fun y => ?_, fun y k hm => ?_, fun y z k hy hz => ?_⟩
 ·by_cases e : y = x
  ·subst e; rw [putG_self]; exact ha
  ·rw [putG_ne _ e]; exact h.at_ y
 ·by_cases e : y = x
  ·subst e; rw [putG_self] at hm; exact ⟨(hf k hm).1, (hf k hm).2.1⟩
  ·rw [putG_ne _ e] at hm; exact h.own y k hm
 ·by_cases e : y = x
  ·subst e
   rw [putG_self] at hy
   by_cases e2 : z = y
   ·exact e2.symm
   ·rw [putG_ne _ e2] at hz; exact absurd ⟨z, hz⟩ (hf k hy).2.2
  ·rw [putG_ne _ e] at hy
   by_cases e2 : z = x
   ·subst e2; rw [putG_self] at hz; exact absurd ⟨y, hy⟩ (hf k hz).2.2
   ·rw [putG_ne _ e2] at hz; exact h.sep y z k hy hz
theorem gmy_put {x : ι} {o : GO} {k : Nat} (h : Gmy (putG S x o) k) : k ∈ o.foot ∨ Gmy S k := by
 obtain ⟨y, hy⟩ := h
 by_cases e : y = x
 ·subst e; rw [putG_self] at hy; exact .inl hy
 ·rw [putG_ne _ e] at hy; exact .inr ⟨y, hy⟩
end
theorem dshape_end {a : Ad2} {n : Cn} {p : Pl} {P : Sv3} {fy : Nat} {c : Cl} {base : Nat} (v : Value) (zs : List Int) (r : Int) :
 putG (putG (putG (dshape base a n p P fy c) .nums (.arr base 3 v (zs.map (Value.int .i64)))) .clu (.blk a.g 83 ((rclC p P fy a.ck a.nd a.lk a.tm a.pm c.rd).setIfInBounds 16 (.int .i64 r)))) .clu (.blk a.g 83 (((rclC p P fy a.ck a.nd a.lk a.tm a.pm c.rd).setIfInBounds 16 (.int .i64 r)).setIfInBounds 11 v)) = dshape base { a with ck := v } n p P fy { c with ck := zs, rd := r } := by
 funext y
 cases y with
 | clu => rfl
 | nums => rw [putG_ne _ (by simp), putG_ne _ (by simp), putG_self]; rfl
 | _ => rw [putG_ne _ (by simp), putG_ne _ (by simp), putG_ne _ (by simp)]; rfl
theorem DsG.finish {w0 w w1 w2 : World} {base g b7 : Nat} {p : Pl} {P : Sv3} {fy M : Nat} {c : Cl} {bs bs' : List Nat} (h : DsG w0 w base g p P fy c M w1 bs) {gz n cp : Nat} {zs : List Int} (hg : gz ∈ bs) (ho : w.ownsRow b7 3 1 (.slice (some ⟨gz, 0, none⟩) n cp) n (zs.map (Value.int .i64))) (hb7 : base ≤ b7) {r : Int} (hr : c.rd + 1 = r) (hb : ∀ b ∈ bs', b ∈ bs ∧ b ≠ gz ∧ w1.heap[b]? = w2.heap[b]?) :
 DsG w0 ((w.setCell ⟨g, 16, none⟩ (.int .i64 r)).setCell ⟨g, 11, none⟩ (.slice (some ⟨gz, 0, none⟩) n cp)) base g p P fy { c with ck := zs, rd := r } M w2 bs' := by
 obtain ⟨a, rfl, h2, h3, h4, h5⟩ := h
 have hzl := ho.lt gz rfl
 have hgg : Gmy (dshape base a (fullN p) p P fy c) a.g := ⟨.clu, by simp [dshape, GO.blk]⟩
 have hgb : base ≤ a.g := (h2.fam.own .clu a.g (by simp [dshape, GO.blk])).1
 have f1 := h2.fam.takeIn .nums (.arr base 3 (.slice (some ⟨gz, 0, none⟩) n cp) (zs.map (Value.int .i64))) (QAt.of_own ho hb7) (fun k hk => by
  have e : k = gz := by simpa [GO.arr, Value.ownBlock, eq_comm] using hk
  rw [e]
  exact ⟨Nat.le_trans hb7 hzl.1, hzl.2, (h5 gz hg).2.1⟩)
 obtain ⟨f2, q2⟩ := f1.setBlk .clu (g := a.g) (by rw [putG_ne _ (by simp)]; rfl) 16 (.int .i64 r) h4
 obtain ⟨f3, q3⟩ := f2.setBlk .clu (putG_self _ _) 11 (.slice (some ⟨gz, 0, none⟩) n cp) (by simpa [World.setCell] using h4)
 rw [dshape_end] at f3
 refine ⟨{ a with ck := .slice (some ⟨gz, 0, none⟩) n cp }, rfl, ⟨f3, h2.rel.sd, h2.rel.al, h2.rel.tk, h2.rel.pr⟩, ?_, by simpa [World.setCell] using h4, fun b hb' => ?_⟩
 ·exact (h3.setCell (p := ⟨a.g, 16, none⟩) hgb _).setCell (p := ⟨a.g, 11, none⟩) hgb _
 ·obtain ⟨m1, m2, m3⟩ := hb b hb'
  obtain ⟨k1, k2, k3⟩ := h5 b m1
  have hne : b ≠ a.g := fun e => k2 (e ▸ hgg)
  refine ⟨by simpa [World.setCell] using k1, fun hm => ?_, ?_⟩
  ·rw [← dshape_end (P := P) (fy := fy)] at hm
   rcases gmy_put hm with e | hm
   ·simp [GO.blk] at e; exact hne e
   ·rcases gmy_put hm with e | hm
    ·simp [GO.blk] at e; exact hne e
    ·rcases gmy_put hm with e | hm
     ·exact m2 (by simpa [GO.arr, Value.ownBlock, eq_comm] using e)
     ·exact k2 hm
  ·exact (Below.heap_setCell _ _ _ _ hne).trans ((Below.heap_setCell _ _ _ _ hne).trans (k3.trans m3))
end
section
open Go Go.RowKit
/-- What Set answers. -/
def SetPost (w : World) (zs : List Int) (rs : List (List Int)) (f : Int) (r : Ending) (w' : World) : Prop := Below w.heap.size w w' ∧
 ((rs.length ≠ zs.length ∧ r = .returned (.tuple #[.slice none 0 0, .agg #[.int .i64 1, .int .i64 (-1)]])) ∨
 (rs.length = zs.length ∧ ∃ i, i < zs.length ∧ (∀ j, j < i → setE zs.length f (zs.getD j 0) (rs.getD j []) = 0) ∧ setE zs.length f (zs.getD i 0) (rs.getD i []) ≠ 0 ∧ r = .returned (.tuple #[.slice none 0 0, .agg #[.int .i64 (setE zs.length f (zs.getD i 0) (rs.getD i [])), .int .i64 (i : Nat)]])) ∨
 (rs.length = zs.length ∧ (∀ j, j < zs.length → setE zs.length f (zs.getD j 0) (rs.getD j []) = 0) ∧ ∃ v, r = .returned (.tuple #[v, .agg #[.int .i64 0, .int .i64 (-1)]]) ∧ w'.ownsRow w.heap.size 3 1 v zs.length ((setL zs rs f zs.length).map (Value.int .i64))))
theorem set_results (tmps : Array Value) (w : World) (g : Nat) (v b0 b1 : Value) (h1 : tmps[6]? = some v) (h2 : tmps[7]? = some (.pointer (some ⟨g, 0, none⟩))) (hb : Blk w g 62 #[b0, b1]) :
 (results Tryz.f49 tmps).run Tryz.prog w = .ok (.tuple #[v, .agg #[b0, b1]]) w := by
 obtain ⟨j0, j1, -, -⟩ := hb.cells2
 simp [results, Tryz.results49, go_sem, h1, h2, j0, j1]
/-- What Set keeps. -/
structure StAt (w wr : World) (e0 e1 : Value) : Prop where
 b : Blk wr w.heap.size 62 #[e0, e1]
 old : Below w.heap.size w wr
theorem StAt.below {w w1 w2 : World} {e0 e1 : Value} (h : StAt w w1 e0 e1) (hB : Below w1.heap.size w1 w2) : StAt w w2 e0 e1 := ⟨h.b.below hB h.b.lt, h.old.trans (hB.mono h.old.size)⟩
theorem StAt.alloc {w w1 : World} {e0 e1 : Value} (h : StAt w w1 e0 e1) (o : Obj) : StAt w (w1.alloc o) e0 e1 := h.below ((Below.refl _ _).alloc (Nat.le_refl _) o)
theorem StAt.set2 {w w1 : World} {e0 e1 : Value} (h : StAt w w1 e0 e1) (a b : Value) : StAt w ((w1.setCell ⟨w.heap.size, 0, none⟩ a).setCell ⟨w.heap.size, 1, none⟩ b) a b :=
 ⟨by simpa using (h.b.set_ 0 a).set_ 1 b, (h.old.setCell (Nat.le_refl _) _).setCell (Nat.le_refl _) _⟩
theorem own_base {w : World} {base base2 size n : Nat} {e : TypeId} {v : Value} {xs : List Value} (h : w.ownsRow base e size v n xs) (hb : base2 ≤ base) : w.ownsRow base2 e size v n xs := by
 refine ⟨h.1, ?_⟩
 rcases h.2 with h1 | ⟨g, cap, cur, hv, hg, rest⟩
 ·exact .inl h1
 ·exact .inr ⟨g, cap, cur, hv, Nat.le_trans hb hg, rest⟩
theorem own_set2 {w : World} {g base size n : Nat} {e : TypeId} {v : Value} {xs : List Value} (h : w.ownsRow base e size v n xs) (hb : g < base) (a b : Value) : ((w.setCell ⟨g, 0, none⟩ a).setCell ⟨g, 1, none⟩ b).ownsRow base e size v n xs := by
 refine ⟨h.1, ?_⟩
 rcases h.2 with h1 | ⟨g1, cap, cur, hv, hg, hh, rest⟩
 ·exact .inl h1
 ·exact .inr ⟨g1, cap, cur, hv, hg, ((Below.heap_setCell _ ⟨g, 1, none⟩ b g1 (by show g1 ≠ g; omega)).trans (Below.heap_setCell _ ⟨g, 0, none⟩ a g1 (by show g1 ≠ g; omega))).trans hh, rest⟩
set_option maxRecDepth 100000 in
set_option maxHeartbeats 4000000 in
theorem set_any (A : Option Addr) (c : Nat) (B : Option Addr) (d : Nat) (zs : List Int) (rs : List (List Int)) (f : Int) (w : World) (hA : IsL w A zs) (hB : RowsAt w B rs) (h1 : zs.length ≤ 20) (_h2 : rs.length ≤ 25) (h3 : ∀ r ∈ rs, r.length ≤ 30) (hF : FinT w) :
 Calls Tryz.prog 49 #[.slice A zs.length c, .slice B rs.length d, .int .i64 f] w (SetPost w zs rs f) := by
 have HA := hide hA; have HR := hide hB; have H3 := hide h3; have HF := hide hF
 have HS0 : Hid (StAt w (w.alloc (.cells #[.int .i64 0, .int .i64 0] 62)) (.int .i64 0) (.int .i64 0)) := hide ⟨Blk.new w _ _, (Below.refl _ _).alloc (Nat.le_refl _) _⟩
 clear hA hB h3 hF
 obtain ⟨n, hn⟩ : ∃ n, zs.length = n := ⟨_, rfl⟩
 obtain ⟨q, hq⟩ : ∃ q, rs.length = q := ⟨_, rfl⟩
 have HN := hide hn; have HQ := hide hq
 rw [hn, hq]
 have hn20 : n ≤ 20 := by omega
 clear hn hq h1
 by_cases hnq : q = n
 case neg =>
  have d1 : ((q : Int) != (n : Int)) = true := bne_iff_ne.2 (by omega)
  have d2 : ¬ (q : Int) = (n : Int) := by omega
  go_enter Tryz.func49, Tryz.ntmps49
  go_wp2_with fail
  refine (bareF 1 _).mono ?_
  rintro r wB ⟨rfl, hB⟩
  have HS1 := hide (HS0.out.below hB)
  clear hB
  obtain ⟨x0, x1, f0, f1⟩ := HS1.out.b.cells2
  go_wp2_with fail
  have HS2 := hide (HS1.out.set2 (.int .i64 1) (.int .i64 (-1)))
  exact bodyPost_ret (set_results _ _ w.heap.size _ _ _ rfl rfl HS2.out.b) rfl ⟨HS2.out.old, .inl ⟨by rw [HN.out, HQ.out]; exact hnq, rfl⟩⟩
 case pos =>
  subst hnq
  go_enter Tryz.func49, Tryz.ntmps49
  go_wp2_with fail
  go_loopw [8, 21] (fun v8 i wr => ∃ k : Nat, k ≤ q ∧ i = .int .i64 k ∧ Hid (∀ j, j < k → setE q f (zs.getD j 0) (rs.getD j []) = 0) ∧ Hid (wr.ownsRow (w.heap.size + 1) 3 1 v8 k ((setL zs rs f k).map (Value.int .i64))) ∧ Hid (StAt w wr (.int .i64 0) (.int .i64 0))) (fun _ i _ => q - (intOf i).toNat)
  case atStart => exact ⟨0, by omega, rfl, hide (fun j hj => by omega), hide (World.ownsRow_nil _ _ _ _), HS0⟩
  case round =>
   obtain ⟨k, hk, rfl, HZ, HO, HW⟩ := hrel
   by_cases hlt : k < q
   ·obtain ⟨b, off, Ar, cr, rfl, hc, hIr⟩ := (HR.out.below (Nat.le_refl _) HW.out.old) k (by rw [HQ.out]; exact hlt)
    obtain ⟨b2, off2, rfl, hc2⟩ := (HA.out.below (Nat.le_refl _) HW.out.old) k (by rw [HN.out]; exact hlt)
    obtain ⟨x, hx⟩ : ∃ x, zs.getD k 0 = x := ⟨_, rfl⟩
    obtain ⟨r, hr⟩ : ∃ r, rs.getD k [] = r := ⟨_, rfl⟩
    rw [hr] at hc hIr
    rw [hx] at hc2
    have hrl : r.length ≤ 30 := H3.out r (by rw [← hr]; simp [List.getD, show k < rs.length by rw [HQ.out]; exact hlt])
    have HON := hide (rmid_any Ar cr r f wr hIr (by omega))
    have HSE : Hid (setE q f (zs.getD k 0) (rs.getD k []) = if r.length ≠ q then 1 else if outT x = true then 2 else midE r f) := hide (by rw [hx, hr]; rfl)
    have HMV : Hid (zs.getD k 0 + midV (rs.getD k []) f = x + midV r f) := hide (by rw [hx, hr])
    have HBD := hide (midV_bd r f)
    obtain ⟨lr, hlr⟩ : ∃ lr, r.length = lr := ⟨_, rfl⟩
    rw [hlr] at hc HON HSE
    clear hx hr hIr hrl hlr
    generalize midE r f = me at HON HSE
    generalize midV r f = mv at HON HMV HBD
    obtain ⟨x0, x1, f0, f1⟩ := HW.out.b.cells2
    by_cases hl : lr = q
    case neg =>
     have HSX : Hid (setE q f (zs.getD k 0) (rs.getD k []) = 1) := hide (by rw [HSE.out, if_pos hl])
     have d1 : ((lr : Int) != (q : Int)) = true := bne_iff_ne.2 (by omega)
     have d2 : ¬ (lr : Int) = (q : Int) := by omega
     go_wp2_with fail
     have HS2 := hide (HW.out.set2 (.int .i64 1) (.int .i64 (k : Nat)))
     exact bodyPost_ret (set_results _ _ w.heap.size _ _ _ rfl rfl HS2.out.b) rfl ⟨HS2.out.old, .inr (.inl ⟨by rw [HN.out, HQ.out], k, by rw [HN.out]; exact hlt, by rw [HN.out]; exact HZ.out, by rw [HN.out, HSX.out]; decide, by rw [HN.out, HSX.out]; rfl⟩)⟩
    case pos =>
     subst hl
     cases ho : outT x
     case true =>
      have HSX : Hid (setE lr f (zs.getD k 0) (rs.getD k []) = 2) := hide (by rw [HSE.out, if_neg (by simp), if_pos ho])
      have HOO := hide ho; clear ho
      go_wp2_with (go_at_call 43; refine (in_out x _).mono ?_; rintro e w3 ⟨rfl, rfl⟩; rw [HOO.out])
      have HS2 := hide (HW.out.set2 (.int .i64 2) (.int .i64 (k : Nat)))
      exact bodyPost_ret (set_results _ _ w.heap.size _ _ _ rfl rfl HS2.out.b) rfl ⟨HS2.out.old, .inr (.inl ⟨by rw [HN.out, HQ.out], k, by rw [HN.out]; exact hlt, by rw [HN.out]; exact HZ.out, by rw [HN.out, HSX.out]; decide, by rw [HN.out, HSX.out]; rfl⟩)⟩
     case false =>
      have HSX : Hid (setE lr f (zs.getD k 0) (rs.getD k []) = me) := hide (by rw [HSE.out, if_neg (by simp), if_neg (by rw [ho]; simp)])
      obtain ⟨o1, o2⟩ := outT_bd ho
      have HOO := hide ho; clear ho
      by_cases he : me = 0
      ·subst he
       go_wp2_with (first
        | (go_at_call 43; refine (in_out x _).mono ?_; rintro e w3 ⟨rfl, rfl⟩; rw [HOO.out])
        | (go_at_call 74; fail))
       refine HON.out.mono ?_
       rintro e w2 ⟨rfl, hB2⟩
       obtain ⟨o3, o4⟩ := HBD.out
       have hc3 := (hB2.cell (p := ⟨b2, off2 + k, none⟩) (World.block_lt_of_cell? _ _ hc2)).trans hc2
       have HO2 := hide ((own_keepR HO.out hB2).alloc (.cells #[.int .i64 (x + mv)] 3))
       have HW2 := hide (HW.out.below hB2)
       obtain ⟨i0, hi, hz0, hz1, hz2⟩ := en_info_parts ar_info
       have e1 : wrap64 (x + mv) = x + mv := by unfold wrap64; omega
       clear hB2 x0 x1 f0 f1
       go_wp2_with (at_builtin; go_must (refine wpList_append_own _ rfl (.tmp 52) (.tmp 59) _ rfl (w.heap.size + 1) 3 i0 _ 1 8 Tryz.underlying27 hi hz0 hz1 hz2 rfl (by decide) u8 k ((setL zs rs f k).map (Value.int .i64)) rfl (by exact HO2.out) ⟨w2.heap.size, 0, none⟩ 1 1 [.int .i64 (x + mv)] rfl rfl (by exact news1 (Blk.new w2 3 #[.int .i64 (x + mv)])) (by intro u hu; simp at hu; subst hu; rfl) (by simp [maxLen]; omega) (by omega) (by have := HW2.out.b.lt; simp; omega) ?_); intro v8 w8 hown hg _; have HO8 := hide hown; have HG8 := hide hg; clear hown hg)
       go_roundw
       case rel => exact ⟨k + 1, by omega, by go_num, hide (all_succ HZ.out HSX.out), hide (by rw [setL_succ, HMV.out]; simpa using HO8.out), hide ⟨(HW2.out.alloc _).b.grown HG8.out (fun e => by have := (HO2.out.lt _ e.symm).1; omega), (HW2.out.alloc _).old.grown HG8.out (HW2.out.alloc _).old.size (fun j e => by have := (HO2.out.lt j e).1; omega)⟩⟩
       case measure => simp [intOf]; omega
      ·have HSN := hide he
       have d1 : (me != 0) = true := bne_iff_ne.2 he
       have d2 : ¬ me = 0 := he
       clear he
       go_wp2_with (first
        | (go_at_call 43; refine (in_out x _).mono ?_; rintro e w3 ⟨rfl, rfl⟩; rw [HOO.out])
        | (go_at_call 74; fail))
       refine HON.out.mono ?_
       rintro e w2 ⟨rfl, hB2⟩
       have HW2 := hide (HW.out.below hB2)
       clear hB2 x0 x1 f0 f1
       obtain ⟨x0, x1, f0, f1⟩ := HW2.out.b.cells2
       go_wp2_with fail
       have HS2 := hide (HW2.out.set2 (.int .i64 me) (.int .i64 (k : Nat)))
       exact bodyPost_ret (set_results _ _ w.heap.size _ _ _ rfl rfl HS2.out.b) rfl ⟨HS2.out.old, .inr (.inl ⟨by rw [HN.out, HQ.out], k, by rw [HN.out]; exact hlt, by rw [HN.out]; exact HZ.out, by rw [HN.out, HSX.out]; exact HSN.out, by rw [HN.out, HSX.out]; rfl⟩)⟩
   ·obtain rfl : k = q := by omega
    obtain ⟨x0, x1, f0, f1⟩ := HW.out.b.cells2
    obtain ⟨fn0, fn1⟩ := HF.out.below HW.out.old
    have n0 := World.block_lt_of_cell? w ⟨0, 0, none⟩ HF.out.1
    have n1 : w.heap.size ≠ 0 := by have : 0 < w.heap.size := n0; omega
    have n2 : (0 : Nat) ≠ w.heap.size := Ne.symm n1
    clear n0
    go_wp2_with fail
    go_region
    all_goals (go_wp2_with fail)
    have HS2 := hide (HW.out.set2 (.int .i64 0) (.int .i64 (-1)))
    have HO2 := hide (own_set2 (g := w.heap.size) HO.out (Nat.lt_succ_self _) (.int .i64 0) (.int .i64 (-1)))
    all_goals exact bodyPost_ret (set_results _ _ w.heap.size _ _ _ rfl rfl HS2.out.b.drew) rfl ⟨below_drewN HS2.out.old 1, .inr (.inr ⟨by rw [HN.out, HQ.out], by rw [HN.out]; exact HZ.out, _, rfl, by rw [HN.out]; exact own_base HO2.out (Nat.le_succ _)⟩)⟩
end
end Go.Proofs.YtdogdlnaacimpaaGreatDoor
