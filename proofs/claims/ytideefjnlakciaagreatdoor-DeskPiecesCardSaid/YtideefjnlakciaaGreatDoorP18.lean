/- The contracts of a desk's commands read; conditions: the desk and the words lie in memory. -/
import Derived.Test.YtideefjnlakciaaGreatDoorP17
import Derived.Deep.RegionHeld3
set_option linter.unusedVariables false
set_option linter.unusedSimpArgs false
namespace Go.Proofs.YtideefjnlakciaaGreatDoor
section
open Go Go.RowKit
section
variable {w0 w : World} {g k : Nat} {d : Dk} {L : Ly} {A : Option Addr} {ws : List ByteArray}
set_option maxRecDepth 100000 in
set_option maxHeartbeats 4000000 in
theorem do_read (h : CmdIn w0 w g d L k A ws) (c : Nat) : Calls Tryz.prog 60 #[.pointer (some ⟨g, 0, none⟩), .slice A ws.length c] w (DoP w0 w g L (aRead d ws)) := by
 have HN := hide (h.nums (3) (by omega) (by omega) c)
 have H := hide h
 clear h
 go_enter Tryz.func60, Tryz.ntmps60
 go_wp2_with fail
 refine HN.out.mono ?_
 rintro r w1 ⟨⟨hn, rfl⟩ | ⟨l, v, hn, rfl, hown⟩, hB1⟩
 case inl =>
  have HP := hide (H.out.bad (x := aRead d ws) (withN_none hn) hB1)
  go_wp2_with fail
  exact ⟨rfl, HP.out⟩
 obtain ⟨x0, x1, x2, gk, cp, rfl, rfl, n0, n1, n2, hgk0, hgk1⟩ := dnum3 hown ((numbersF_len hn).1 (by omega))
 have HB1 := hide hB1; have HNU := hide hn; have HO := hide hown
 clear hB1 hn hown
 cases hd : d.c with
 | none =>
  have HR := hide (ready_bad w1 (H.out.stdB HB1.out).err g none true (H.out.noCell HB1.out hd) rfl)
  have HX : Hid (aRead d ws = ⟨.error 6, d⟩) := hide ((withN_some HNU.out).trans (hasC_none hd))
  go_wp2_with fail
  refine HR.out.mono ?_
  rintro r w2 ⟨rfl, hB2⟩
  have HP := hide (H.out.bad HX.out (HB1.out.trans (hB2.mono HB1.out.size)))
  go_wp2_with fail
  exact ⟨rfl, HP.out⟩
 | some y =>
  obtain ⟨a, b, c10, hcv, hLS, hb0, hb1, hCl⟩ := H.out.clCell HB1.out hd
  have HR := hide (ready_ok w1 g _ true c10 rfl)
  have HD := hide (H.out.dk.below HB1.out)
  have HX : Hid (aRead d ws = ⟨.ok ⟨#[114, 101, 97, 100]⟩, { d with r := { d.r with rg := d.r.rg ++ [⟨x0, x1, x2⟩] } }⟩) := hide ((withN_some HNU.out).trans (hasC_some hd))
  have hgk : gk ≠ g := by have := H.out.dk.blk.lt; omega
  have c12 := HD.out.blk.cell 12
  have f12 := HD.out.blk.frozen 12
  simp at c12
  clear c10 hcv hLS hb0 hb1 hCl
  go_wp2_with fail
  refine HR.out.mono ?_
  rintro r w2 ⟨rfl, rfl⟩
  clear HR HN
  obtain ⟨vv, hvv⟩ : ∃ vv, L.v 3 = vv := ⟨_, rfl⟩
  rw [hvv] at c12
  have HVV := hide hvv
  obtain ⟨m, hm⟩ : ∃ m, d.r.rg.length = m := ⟨_, rfl⟩
  have hm6 : m ≤ 6000 := by have := H.out.ok.rg; have := H.out.hk; omega
  have hOW : w2.ownsRow w0.heap.size 174 3 vv m (rgV d.r.rg) := by
   have := HD.out.own 3 (by omega)
   rw [hvv] at this
   rw [← hm]
   exact this
  have HB0 := hide (Nat.le_trans H.out.dk.low.size HB1.out.size)
  have HO1 := hide ((own_keepB hOW (below_drewN (Below.refl _ _) 1) : w2.drew.ownsRow w0.heap.size 174 3 vv m (rgV d.r.rg)).alloc (.cells #[.int .i64 x0, .int .i64 x1, .int .i64 x2] 174))
  have HNW := hide (newsT (Blk.new w2.drew 174 #[.int .i64 x0, .int .i64 x1, .int .i64 x2]))
  have HMX : Hid (m + 1 ≤ maxLen ∧ (m + 1) * 24 ≤ 140737488355328) := hide (by simp [maxLen]; omega)
  have HSZ : Hid (w0.heap.size ≤ (w2.drew.alloc (.cells #[.int .i64 x0, .int .i64 x1, .int .i64 x2] 174)).heap.size) := hide (by have := HB0.out; simp; omega)
  obtain ⟨i0, hi, hz0, hz1, hz2⟩ := en_info_parts redC_info
  have HGE : Hid (∀ W8, (w2.drew.alloc (.cells #[.int .i64 x0, .int .i64 x1, .int .i64 x2] 174)).grownBy W8 vv.ownBlock → W8.cell? ⟨g, 12, none⟩ = some vv ∧ W8.frozen? ⟨g, 12, none⟩ = false ∧ Blk W8 g 37 (deskC d L)) := hide (fun W8 hg => by
   have hb : Blk W8 g 37 (deskC d L) := (HD.out.blk.drew.alloc _).grown hg (fun e => HD.out.off 3 (by omega) (by rw [HVV.out]; exact e.symm))
   have hc := hb.cell 12
   simp at hc
   rw [HVV.out] at hc
   exact ⟨hc, hb.frozen 12, hb⟩)
  have cA : (w2.alloc (.cells #[.int .i64 x0, .int .i64 x1, .int .i64 x2] 174)).cell? ⟨g, 12, none⟩ = some vv := by
   have hc := (HD.out.blk.alloc (.cells #[.int .i64 x0, .int .i64 x1, .int .i64 x2] 174)).cell 12
   simp at hc
   rw [HVV.out] at hc
   exact hc
  have HFIN : Hid (∀ (W8 : World) (v8 : Value), W8.ownsRow w0.heap.size 174 3 v8 (m + 1) (rgV d.r.rg ++ [.int .i64 x0, .int .i64 x1, .int .i64 x2]) → (w2.drew.alloc (.cells #[.int .i64 x0, .int .i64 x1, .int .i64 x2] 174)).grownBy W8 vv.ownBlock → (v8.ownBlock = vv.ownBlock ∨ ∀ q, v8.ownBlock = some q → (w2.drew.alloc (.cells #[.int .i64 x0, .int .i64 x1, .int .i64 x2] 174)).heap.size ≤ q) → DkTo w0 w g L (W8.setCell ⟨g, 12, none⟩ v8) { d with r := { d.r with rg := d.r.rg ++ [⟨x0, x1, x2⟩] } }) := hide (fun W8 v8 ho hg hv => by
   have hBA : Below w2.heap.size w2 (w2.drew.alloc (.cells #[.int .i64 x0, .int .i64 x1, .int .i64 x2] 174)) := (below_drewN (Below.refl _ _) 1).alloc (Nat.le_refl _) _
   have hA := HD.out.below hBA
   have hb : Blk (W8.setCell ⟨g, 12, none⟩ v8) g 37 (deskC { d with r := { d.r with rg := d.r.rg ++ [⟨x0, x1, x2⟩] } } { L with v := updF L.v 3 v8 }) := (HGE.out W8 hg).2.2.set_ 12 v8
   have hX : ∀ j, j < 6 → j ≠ 3 → rowX { d with r := { d.r with rg := d.r.rg ++ [⟨x0, x1, x2⟩] } } j = rowX d j ∧ rowL { d with r := { d.r with rg := d.r.rg ++ [⟨x0, x1, x2⟩] } } j = rowL d j := (fun j hj hne => by
    obtain rfl | rfl | rfl | rfl | rfl : j = 0 ∨ j = 1 ∨ j = 2 ∨ j = 4 ∨ j = 5 := by omega
    all_goals exact ⟨rfl, rfl⟩)
   refine DkTo.after HB1.out (DkTo.after hBA (hA.row 3 (by omega) v8 (by rw [HVV.out]; exact hg) (by rw [HVV.out]; exact hv) (only_setCell (only_refl _ _) (.inl rfl) _) ?_ hb hX rfl (.inr ⟨by omega, rfl⟩)))
   have e1 : rgV (d.r.rg ++ [(⟨x0, x1, x2⟩ : Rg)]) = rgV d.r.rg ++ [.int .i64 x0, .int .i64 x1, .int .i64 x2] := rgV_snoc _ _
   show W8.ownsRow w0.heap.size 174 3 v8 (d.r.rg ++ [(⟨x0, x1, x2⟩ : Rg)]).length (rgV (d.r.rg ++ [(⟨x0, x1, x2⟩ : Rg)]))
   rw [e1, List.length_append, hm]
   exact ho)
  have HOB : Hid (∀ q, vv.ownBlock = some q → q ≠ gk) := hide (fun q e => by
   have h1 := H.out.dk.lo (i := q) (.inr (.inl ⟨3, by omega, by rw [HVV.out]; exact e⟩))
   omega)
  obtain ⟨S9, hS9⟩ : ∃ S9 : World → Prop, (fun W => W.cell? ⟨g, 12, none⟩ = some vv ∧ W.cell? ⟨gk, 0, none⟩ = some (.int .i64 x0) ∧ W.cell? ⟨gk, 1, none⟩ = some (.int .i64 x1) ∧ W.cell? ⟨gk, 2, none⟩ = some (.int .i64 x2)) = S9 := ⟨_, rfl⟩
  have HS9 : Hid (S9 = fun W => W.cell? ⟨g, 12, none⟩ = some vv ∧ W.cell? ⟨gk, 0, none⟩ = some (.int .i64 x0) ∧ W.cell? ⟨gk, 1, none⟩ = some (.int .i64 x1) ∧ W.cell? ⟨gk, 2, none⟩ = some (.int .i64 x2)) := hide hS9.symm
  have HNQ : Hid (∀ W : World, W.heap[gk]? = w2.heap[gk]? → W.cell? ⟨gk, 0, none⟩ = some (.int .i64 x0) ∧ W.cell? ⟨gk, 1, none⟩ = some (.int .i64 x1) ∧ W.cell? ⟨gk, 2, none⟩ = some (.int .i64 x2)) := hide (fun W hq => ⟨(World.cell?_of_block (a := ⟨gk, 0, none⟩) hq).trans n0, (World.cell?_of_block (a := ⟨gk, 1, none⟩) hq).trans n1, (World.cell?_of_block (a := ⟨gk, 2, none⟩) hq).trans n2⟩)
  have HH : Hid (S9 w2.drew) := hide (by rw [HS9.out]; exact ⟨c12, HNQ.out _ rfl⟩)
  have HHA : Hid (S9 (w2.drew.alloc (.cells #[.int .i64 x0, .int .i64 x1, .int .i64 x2] 174))) := hide (by rw [HS9.out]; exact ⟨cA, HNQ.out _ (Below.heap_alloc _ _ _ hgk1)⟩)
  have HH8 : Hid (∀ W8, (w2.drew.alloc (.cells #[.int .i64 x0, .int .i64 x1, .int .i64 x2] 174)).grownBy W8 vv.ownBlock → S9 W8) := hide (fun W8 hg => by
   rw [HS9.out]
   exact ⟨(HGE.out W8 hg).1, HNQ.out _ ((hg.block gk (by simp; omega) (fun e => HOB.out gk e.symm rfl)).trans (Below.heap_alloc _ _ _ hgk1))⟩)
  clear hOW hm hvv hS9 cA
  go_wp2_with fail
  refine wp_region_noPanic ?_
  refine wp_region_L (S := S9) (L := 21) (by kernel_rfl) ?_
  clear c12 n0 n1 n2
  have hH := HH.out
  try simp only [List.size_toArray, List.length_cons, List.length_nil, Nat.reduceAdd]
  refine wpAnyL_takes (fuel := 6) (by kernel_rfl) (fun _ _ _ _ h => h) (by assumption) [0, 1, 2, 3, 4, 5, 6, 7, 8, 9, 10, 11, 12, 13, 14, 15] (by kernel_rfl) ?_
  iterate 16
   refine ⟨_, ?_, rfl, .inl ⟨by rfl, ?_⟩, ?_⟩
   rotate_left
   ·(intro w9 hSw; rw [HS9.out] at hSw; obtain ⟨q0, q1, q2, q3⟩ := hSw; go_simp <;> with_reducible rfl)
   try simp only [Act.put, List.setIfInBounds_toArray, List.set_cons_zero, List.set_cons_succ, List.getElem_toArray, List.getElem_cons_zero, List.getElem_cons_succ]
  unfold Takes
  clear hH
  have hH := HH.out
  refine wpAnyL_one (i := 16) (by kernel_rfl) rfl (fun K9 hK9 => ?_)
  try simp only [List.getElem_toArray, List.getElem_cons_zero, List.getElem_cons_succ]
  go_simp
  refine hK9.out _ _ (fun _ => HHA.out) ?_
  clear hK9 K9 hH
  try simp only [Act.put, List.setIfInBounds_toArray, List.set_cons_zero, List.set_cons_succ]
  refine wpAnyL_one (i := 17) (by kernel_rfl) rfl (fun K9 hK9 => ?_)
  try simp only [List.getElem_toArray, List.getElem_cons_zero, List.getElem_cons_succ]
  rw [if_pos (by rfl)]
  refine wp_append_own2 _ (.tmp 15) (.tmp 26) 32 rfl w0.heap.size 174 i0 _ 3 24 Tryz.underlying32 hi hz0 hz1 hz2 rfl (by decide) vv m (rgV d.r.rg) rfl (by exact HO1.out) ⟨w2.heap.size, 0, none⟩ 1 1 [.int .i64 x0, .int .i64 x1, .int .i64 x2] rfl rfl (by exact HNW.out) (one3 x0 x1 x2) HMX.out.1 HMX.out.2 (by exact HSZ.out) ?_
  intro v8 w8 hown hg hwh
  obtain ⟨A8, c8, rfl, -⟩ := own_at hown
  have HO8 := hide hown; have HG8 := hide hg; have HV8 := hide hwh
  have HS8 := hide (HH8.out w8 hg)
  have c11 := (HGE.out w8 hg).1
  have f11 := (HGE.out w8 hg).2.1
  clear hown hg hwh
  refine hK9.out _ _ (fun _ => HS8.out) ?_
  clear hK9 K9
  try simp only [Act.put, List.setIfInBounds_toArray, List.set_cons_zero, List.set_cons_succ]
  refine wpAnyL_one (i := 18) (by kernel_rfl) rfl (fun K9 hK9 => ?_)
  try simp only [List.getElem_toArray, List.getElem_cons_zero, List.getElem_cons_succ]
  go_simp
  refine hK9.out _ _ (fun _ => HS8.out) ?_
  clear hK9 K9
  try simp only [Act.put, List.setIfInBounds_toArray, List.set_cons_zero, List.set_cons_succ]
  refine wpAnyL_one (i := 19) (by kernel_rfl) rfl (fun K9 hK9 => ?_)
  try simp only [List.getElem_toArray, List.getElem_cons_zero, List.getElem_cons_succ]
  go_simp
  refine hK9.out _ _ (fun _ => HS8.out) ?_
  clear hK9 K9
  try simp only [Act.put, List.setIfInBounds_toArray, List.set_cons_zero, List.set_cons_succ]
  refine wpAnyL_one (i := 20) (by kernel_rfl) rfl (fun K9 hK9 => ?_)
  try simp only [List.getElem_toArray, List.getElem_cons_zero, List.getElem_cons_succ]
  go_simp
  refine hK9.out _ _ (fun _ => HS8.out) ?_
  clear hK9 K9
  try simp only [Act.put, List.setIfInBounds_toArray, List.set_cons_zero, List.set_cons_succ]
  refine wpAnyL_one (i := 21) (by kernel_rfl) rfl (fun K9 hK9 => ?_)
  try simp only [List.getElem_toArray, List.getElem_cons_zero, List.getElem_cons_succ]
  go_simp
  refine hK9.out _ _ (fun h9 => absurd h9 (by decide)) ?_
  clear hK9 K9
  try simp only [Act.put, List.setIfInBounds_toArray, List.set_cons_zero, List.set_cons_succ]
  refine wpAnyL_done (by kernel_rfl) ?_ _
  refine NoPanic.normal ?_
  go_wp2_with fail
  go_ret
  rw [HX.out]
  exact ⟨rfl, HFIN.out _ _ HO8.out HG8.out HV8.out⟩
end
end
section
open Go Go.RowKit
section
variable {w0 w : World} {g k : Nat} {d : Dk} {L : Ly} {A : Option Addr} {ws : List ByteArray}
theorem sltC : (Tryz.prog.info? 86).map (fun i => (i.zero, i.size, i.bytes)) = some (some (.agg #[.int .i64 0, .int .i64 0, .int .i64 0]), 3, 24) := by kernel_rfl
set_option maxRecDepth 100000 in
set_option maxHeartbeats 4000000 in
theorem do_slot (h : CmdIn w0 w g d L k A ws) (c : Nat) : Calls Tryz.prog 64 #[.pointer (some ⟨g, 0, none⟩), .slice A ws.length c] w (DoP w0 w g L (aSlot d ws)) := by
 have HN := hide (h.nums (3) (by omega) (by omega) c)
 have H := hide h
 clear h
 go_enter Tryz.func64, Tryz.ntmps64
 go_wp2_with fail
 refine HN.out.mono ?_
 rintro r w1 ⟨⟨hn, rfl⟩ | ⟨l, v, hn, rfl, hown⟩, hB1⟩
 case inl =>
  have HP := hide (H.out.bad (x := aSlot d ws) (withN_none hn) hB1)
  go_wp2_with fail
  exact ⟨rfl, HP.out⟩
 obtain ⟨x0, x1, x2, gk, cp, rfl, rfl, n0, n1, n2, hgk0, hgk1⟩ := dnum3 hown ((numbersF_len hn).1 (by omega))
 have HB1 := hide hB1; have HNU := hide hn; have HO := hide hown
 clear hB1 hn hown
 cases hd : d.c with
 | some y =>
  obtain ⟨a, b, c10, -⟩ := H.out.clCell HB1.out hd
  have HR := hide (ready_bad w1 (H.out.stdB HB1.out).err g _ false c10 rfl)
  have HX : Hid (aSlot d ws = ⟨.error 6, d⟩) := hide ((withN_some HNU.out).trans (noC_some hd))
  clear c10
  go_wp2_with fail
  refine HR.out.mono ?_
  rintro r w2 ⟨rfl, hB2⟩
  have HP := hide (H.out.bad HX.out (HB1.out.trans (hB2.mono HB1.out.size)))
  go_wp2_with fail
  exact ⟨rfl, HP.out⟩
 | none =>
  have HR := hide (ready_ok w1 g none false (H.out.noCell HB1.out hd) rfl)
  have HD := hide (H.out.dk.below HB1.out)
  have hgk : gk ≠ g := by have := H.out.dk.blk.lt; omega
  have c6 := HD.out.blk.cell 6
  have f6 := HD.out.blk.frozen 6
  simp at c6
  go_wp2_with fail
  refine HR.out.mono ?_
  rintro r w2 ⟨rfl, rfl⟩
  clear HR HN
  obtain ⟨vv, hvv⟩ : ∃ vv, L.v 0 = vv := ⟨_, rfl⟩
  obtain ⟨m, hm⟩ : ∃ m, d.p.sl.length = m := ⟨_, rfl⟩
  have hm6 : m ≤ 32 := by have := H.out.ok.sl; omega
  have hOW : w2.ownsRow w0.heap.size 86 3 vv m (slV d.p.sl) := by
   have := HD.out.own 0 (by omega)
   rw [hvv] at this
   rw [← hm]
   exact this
  obtain ⟨AV, cV, hAV, -⟩ := own_at hOW
  subst hAV
  rw [hvv] at c6
  have HVV := hide hvv
  by_cases hfull : 32 ≤ m
  ·have HX : Hid (aSlot d ws = ⟨.error 4, d⟩) := hide ((withN_some HNU.out).trans ((noC_none hd).trans (if_pos (by rw [hm]; exact hfull))))
   have d1 : decide ((32 : Int) ≤ (m : Int)) = true := decide_eq_true (by omega)
   have HMU := hide (must_errno 4 w2 (H.out.stdB HB1.out).err)
   clear hOW hm hvv hfull
   go_wp2_with fail
   refine HMU.out.mono ?_
   rintro r w3 ⟨rfl, hB3⟩
   have HP := hide (H.out.bad HX.out (HB1.out.trans (hB3.mono HB1.out.size)))
   go_wp2_with fail
   exact ⟨rfl, HP.out⟩
  have HX : Hid (aSlot d ws = ⟨.ok (itoB m), { d with p := { d.p with sl := d.p.sl ++ [⟨x0, x1, x2⟩] } }⟩) := hide ((withN_some HNU.out).trans ((noC_none hd).trans ((if_neg (by rw [hm]; exact hfull)).trans (by rw [hm]; rfl))))
  have d1 : decide ((32 : Int) ≤ (m : Int)) = false := decide_eq_false (by omega)
  have HB0 := hide (Nat.le_trans H.out.dk.low.size HB1.out.size)
  have HO1 := hide ((own_keepB hOW (below_drewN (Below.refl _ _) 1) : w2.drew.ownsRow w0.heap.size 86 3 (.slice AV m cV) m (slV d.p.sl)).alloc (.cells #[.int .i64 x0, .int .i64 x1, .int .i64 x2] 86))
  have HNW := hide (newsT (Blk.new w2.drew 86 #[.int .i64 x0, .int .i64 x1, .int .i64 x2]))
  have HMX : Hid (m + 1 ≤ maxLen ∧ (m + 1) * 24 ≤ 140737488355328) := hide (by simp [maxLen]; omega)
  have HSZ : Hid (w0.heap.size ≤ (w2.drew.alloc (.cells #[.int .i64 x0, .int .i64 x1, .int .i64 x2] 86)).heap.size) := hide (by have := HB0.out; simp; omega)
  obtain ⟨i0, hi, hz0, hz1, hz2⟩ := en_info_parts sltC
  have HGE : Hid (∀ W8, (w2.drew.alloc (.cells #[.int .i64 x0, .int .i64 x1, .int .i64 x2] 86)).grownBy W8 (Value.slice AV m cV).ownBlock → W8.cell? ⟨g, 6, none⟩ = some (.slice AV m cV) ∧ W8.frozen? ⟨g, 6, none⟩ = false ∧ Blk W8 g 37 (deskC d L)) := hide (fun W8 hg => by
   have hb : Blk W8 g 37 (deskC d L) := (HD.out.blk.drew.alloc _).grown hg (fun e => HD.out.off 0 (by omega) (by rw [HVV.out]; exact e.symm))
   have hc := hb.cell 6
   simp at hc
   rw [HVV.out] at hc
   exact ⟨hc, hb.frozen 6, hb⟩)
  have cA : (w2.alloc (.cells #[.int .i64 x0, .int .i64 x1, .int .i64 x2] 86)).cell? ⟨g, 6, none⟩ = some (.slice AV m cV) := by
   have hc := (HD.out.blk.alloc (.cells #[.int .i64 x0, .int .i64 x1, .int .i64 x2] 86)).cell 6
   simp at hc
   rw [HVV.out] at hc
   exact hc
  have HFIN : Hid (∀ (W8 : World) (v8 : Value), W8.ownsRow w0.heap.size 86 3 v8 (m + 1) (slV d.p.sl ++ [.int .i64 x0, .int .i64 x1, .int .i64 x2]) → (w2.drew.alloc (.cells #[.int .i64 x0, .int .i64 x1, .int .i64 x2] 86)).grownBy W8 (Value.slice AV m cV).ownBlock → (v8.ownBlock = (Value.slice AV m cV).ownBlock ∨ ∀ q, v8.ownBlock = some q → (w2.drew.alloc (.cells #[.int .i64 x0, .int .i64 x1, .int .i64 x2] 86)).heap.size ≤ q) → DkTo w0 w g L (W8.setCell ⟨g, 6, none⟩ v8) { d with p := { d.p with sl := d.p.sl ++ [⟨x0, x1, x2⟩] } }) := hide (fun W8 v8 ho hg hv => by
   have hBA : Below w2.heap.size w2 (w2.drew.alloc (.cells #[.int .i64 x0, .int .i64 x1, .int .i64 x2] 86)) := (below_drewN (Below.refl _ _) 1).alloc (Nat.le_refl _) _
   have hA := HD.out.below hBA
   have hb : Blk (W8.setCell ⟨g, 6, none⟩ v8) g 37 (deskC { d with p := { d.p with sl := d.p.sl ++ [⟨x0, x1, x2⟩] } } { L with v := updF L.v 0 v8 }) := (HGE.out W8 hg).2.2.set_ 6 v8
   have hX : ∀ j, j < 6 → j ≠ 0 → rowX { d with p := { d.p with sl := d.p.sl ++ [⟨x0, x1, x2⟩] } } j = rowX d j ∧ rowL { d with p := { d.p with sl := d.p.sl ++ [⟨x0, x1, x2⟩] } } j = rowL d j := (fun j hj hne => by
    obtain rfl | rfl | rfl | rfl | rfl : j = 1 ∨ j = 2 ∨ j = 3 ∨ j = 4 ∨ j = 5 := by omega
    all_goals exact ⟨rfl, rfl⟩)
   refine DkTo.after HB1.out (DkTo.after hBA (hA.row 0 (by omega) v8 (by rw [HVV.out]; exact hg) (by rw [HVV.out]; exact hv) (only_setCell (only_refl _ _) (.inl rfl) _) ?_ hb hX rfl (.inl hd)))
   have e1 : slV (d.p.sl ++ [(⟨x0, x1, x2⟩ : Sl)]) = slV d.p.sl ++ [.int .i64 x0, .int .i64 x1, .int .i64 x2] := slV_snoc _ _
   show W8.ownsRow w0.heap.size 86 3 v8 (d.p.sl ++ [(⟨x0, x1, x2⟩ : Sl)]).length (slV (d.p.sl ++ [(⟨x0, x1, x2⟩ : Sl)]))
   rw [e1, List.length_append, hm]
   exact ho)
  have HST : Hid (∀ W d2, DkTo w0 w g L W d2 → Calls Tryz.prog 21 #[.int .i64 m] W fun e w' => e = .returned (.string (itoB m)) ∧ Below W.heap.size W w') := hide (fun W d2 h => by
   obtain ⟨L2, h2, -⟩ := h
   exact itoa_any m W (H.out.std.below H.out.std.big h2.low) (by omega) (by omega))
  have e1 : wrap64 (((m : Int) + 1) - 1) = m := by unfold wrap64; omega
  have e3 : wrap64 (m : Int) = m := by unfold wrap64; omega
  have e2 : wrap64 ((((m + 1 : Nat)) : Int) - 1) = m := by unfold wrap64; omega
  have HOB : Hid (∀ q, (Value.slice AV m cV).ownBlock = some q → q ≠ gk) := hide (fun q e => by
   have h1 := H.out.dk.lo (i := q) (.inr (.inl ⟨0, by omega, by rw [HVV.out]; exact e⟩))
   omega)
  obtain ⟨S9, hS9⟩ : ∃ S9 : World → Prop, (fun W => W.cell? ⟨g, 6, none⟩ = some (.slice AV m cV) ∧ W.cell? ⟨gk, 0, none⟩ = some (.int .i64 x0) ∧ W.cell? ⟨gk, 1, none⟩ = some (.int .i64 x1) ∧ W.cell? ⟨gk, 2, none⟩ = some (.int .i64 x2)) = S9 := ⟨_, rfl⟩
  have HS9 : Hid (S9 = fun W => W.cell? ⟨g, 6, none⟩ = some (.slice AV m cV) ∧ W.cell? ⟨gk, 0, none⟩ = some (.int .i64 x0) ∧ W.cell? ⟨gk, 1, none⟩ = some (.int .i64 x1) ∧ W.cell? ⟨gk, 2, none⟩ = some (.int .i64 x2)) := hide hS9.symm
  have HNQ : Hid (∀ W : World, W.heap[gk]? = w2.heap[gk]? → W.cell? ⟨gk, 0, none⟩ = some (.int .i64 x0) ∧ W.cell? ⟨gk, 1, none⟩ = some (.int .i64 x1) ∧ W.cell? ⟨gk, 2, none⟩ = some (.int .i64 x2)) := hide (fun W hq => ⟨(World.cell?_of_block (a := ⟨gk, 0, none⟩) hq).trans n0, (World.cell?_of_block (a := ⟨gk, 1, none⟩) hq).trans n1, (World.cell?_of_block (a := ⟨gk, 2, none⟩) hq).trans n2⟩)
  have HH : Hid (S9 w2.drew) := hide (by rw [HS9.out]; exact ⟨c6, HNQ.out _ rfl⟩)
  have HHA : Hid (S9 (w2.drew.alloc (.cells #[.int .i64 x0, .int .i64 x1, .int .i64 x2] 86))) := hide (by rw [HS9.out]; exact ⟨cA, HNQ.out _ (Below.heap_alloc _ _ _ hgk1)⟩)
  have HH8 : Hid (∀ W8, (w2.drew.alloc (.cells #[.int .i64 x0, .int .i64 x1, .int .i64 x2] 86)).grownBy W8 (Value.slice AV m cV).ownBlock → S9 W8) := hide (fun W8 hg => by
   rw [HS9.out]
   exact ⟨(HGE.out W8 hg).1, HNQ.out _ ((hg.block gk (by simp; omega) (fun e => HOB.out gk e.symm rfl)).trans (Below.heap_alloc _ _ _ hgk1))⟩)
  clear hOW hm hvv hfull hm6 hS9 cA
  go_wp2_with fail
  refine wp_region_noPanic ?_
  refine wp_region_L (S := S9) (L := 22) (by kernel_rfl) ?_
  clear c6 n0 n1 n2
  have hH := HH.out
  try simp only [List.size_toArray, List.length_cons, List.length_nil, Nat.reduceAdd]
  refine wpAnyL_takes (fuel := 6) (by kernel_rfl) (fun _ _ _ _ h => h) (by assumption) [0, 1, 2, 3, 4, 5, 6, 7, 8, 9, 10, 11, 12, 13, 14, 15, 16] (by kernel_rfl) ?_
  iterate 17
   refine ⟨_, ?_, rfl, .inl ⟨by rfl, ?_⟩, ?_⟩
   rotate_left
   ·(intro w9 hSw; rw [HS9.out] at hSw; obtain ⟨q0, q1, q2, q3⟩ := hSw; go_simp <;> with_reducible rfl)
   try simp only [Act.put, List.setIfInBounds_toArray, List.set_cons_zero, List.set_cons_succ, List.getElem_toArray, List.getElem_cons_zero, List.getElem_cons_succ]
  unfold Takes
  clear hH
  have hH := HH.out
  refine wpAnyL_one (i := 17) (by kernel_rfl) rfl (fun K9 hK9 => ?_)
  try simp only [List.getElem_toArray, List.getElem_cons_zero, List.getElem_cons_succ]
  go_simp
  refine hK9.out _ _ (fun _ => HHA.out) ?_
  clear hK9 K9 hH
  try simp only [Act.put, List.setIfInBounds_toArray, List.set_cons_zero, List.set_cons_succ]
  refine wpAnyL_one (i := 18) (by kernel_rfl) rfl (fun K9 hK9 => ?_)
  try simp only [List.getElem_toArray, List.getElem_cons_zero, List.getElem_cons_succ]
  rw [if_pos (by rfl)]
  refine wp_append_own2 _ (.tmp 24) (.tmp 36) 25 rfl w0.heap.size 86 i0 _ 3 24 Tryz.underlying25 hi hz0 hz1 hz2 rfl (by decide) (.slice AV m cV) m (slV d.p.sl) rfl (by exact HO1.out) ⟨w2.heap.size, 0, none⟩ 1 1 [.int .i64 x0, .int .i64 x1, .int .i64 x2] rfl rfl (by exact HNW.out) (one3 x0 x1 x2) HMX.out.1 HMX.out.2 (by exact HSZ.out) ?_
  intro v8 w8 hown hg hwh
  obtain ⟨A8, c8, rfl, -⟩ := own_at hown
  have HO8 := hide hown; have HG8 := hide hg; have HV8 := hide hwh
  have HS8 := hide (HH8.out w8 hg)
  have c11 := (HGE.out w8 hg).1
  have f11 := (HGE.out w8 hg).2.1
  clear hown hg hwh
  refine hK9.out _ _ (fun _ => HS8.out) ?_
  clear hK9 K9
  try simp only [Act.put, List.setIfInBounds_toArray, List.set_cons_zero, List.set_cons_succ]
  refine wpAnyL_one (i := 19) (by kernel_rfl) rfl (fun K9 hK9 => ?_)
  try simp only [List.getElem_toArray, List.getElem_cons_zero, List.getElem_cons_succ]
  go_simp
  refine hK9.out _ _ (fun _ => HS8.out) ?_
  clear hK9 K9
  try simp only [Act.put, List.setIfInBounds_toArray, List.set_cons_zero, List.set_cons_succ]
  refine wpAnyL_one (i := 20) (by kernel_rfl) rfl (fun K9 hK9 => ?_)
  try simp only [List.getElem_toArray, List.getElem_cons_zero, List.getElem_cons_succ]
  go_simp
  refine hK9.out _ _ (fun _ => HS8.out) ?_
  clear hK9 K9
  try simp only [Act.put, List.setIfInBounds_toArray, List.set_cons_zero, List.set_cons_succ]
  refine wpAnyL_one (i := 21) (by kernel_rfl) rfl (fun K9 hK9 => ?_)
  try simp only [List.getElem_toArray, List.getElem_cons_zero, List.getElem_cons_succ]
  go_simp
  refine hK9.out _ _ (fun _ => HS8.out) ?_
  clear hK9 K9
  try simp only [Act.put, List.setIfInBounds_toArray, List.set_cons_zero, List.set_cons_succ]
  refine wpAnyL_one (i := 22) (by kernel_rfl) rfl (fun K9 hK9 => ?_)
  try simp only [List.getElem_toArray, List.getElem_cons_zero, List.getElem_cons_succ]
  go_simp
  refine hK9.out _ _ (fun h9 => absurd h9 (by decide)) ?_
  clear hK9 K9
  try simp only [Act.put, List.setIfInBounds_toArray, List.set_cons_zero, List.set_cons_succ]
  refine wpAnyL_done (by kernel_rfl) ?_ _
  refine NoPanic.normal ?_
  all_goals
   have HF := hide (HFIN.out _ _ HO8.out HG8.out HV8.out)
   have HI := hide (HST.out _ _ HF.out)
   go_wp2_with fail
   refine HI.out.mono ?_
   rintro r w9 ⟨rfl, hB9⟩
   have HB9 := hide hB9
   clear hB9
   go_wp2_with fail
   go_ret
   rw [HX.out]
   exact ⟨rfl, HF.out.below HB9.out⟩
end
end
section
open Go Go.RowKit
section
variable {w0 w : World} {g k : Nat} {d : Dk} {L : Ly} {A : Option Addr} {ws : List ByteArray}
theorem one4 (x y z u : Int) : ∀ v ∈ [Value.int .i64 x, .int .i64 y, .int .i64 z, .int .i64 u], v.oneCell' = true := by
 intro v hv
 simp only [List.mem_cons, List.not_mem_nil, or_false] at hv
 rcases hv with rfl | rfl | rfl | rfl <;> rfl
theorem newsF {w : World} {b : Nat} {t : TypeId} {x y z r : Value} (h : Blk w b t #[x, y, z, r]) : ∀ (j : Nat) (u : Value), [x, y, z, r][j]? = some u → w.cell? ((⟨b, 0, none⟩ : Addr).add j) = some u := by
 intro j u hu
 have e : ((⟨b, 0, none⟩ : Addr).add j) = ⟨b, j, none⟩ := by unfold Addr.add; split <;> simp_all
 rw [e, h.cell j]
 match j, hu with
 | 0, hu => exact hu
 | 1, hu => exact hu
 | 2, hu => exact hu
 | 3, hu => exact hu
theorem lnkC : (Tryz.prog.info? 88).map (fun i => (i.zero, i.size, i.bytes)) = some (some (.agg #[.int .i64 0, .int .i64 0, .int .i64 0, .int .i64 0]), 4, 32) := by kernel_rfl
set_option maxRecDepth 100000 in
set_option maxHeartbeats 4000000 in
theorem do_link (h : CmdIn w0 w g d L k A ws) (c : Nat) : Calls Tryz.prog 52 #[.pointer (some ⟨g, 0, none⟩), .slice A ws.length c] w (DoP w0 w g L (aLink d ws)) := by
 have HN := hide (h.nums (4) (by omega) (by omega) c)
 have H := hide h
 clear h
 go_enter Tryz.func52, Tryz.ntmps52
 go_wp2_with fail
 refine HN.out.mono ?_
 rintro r w1 ⟨⟨hn, rfl⟩ | ⟨l, v, hn, rfl, hown⟩, hB1⟩
 case inl =>
  have HP := hide (H.out.bad (x := aLink d ws) (withN_none hn) hB1)
  go_wp2_with fail
  exact ⟨rfl, HP.out⟩
 obtain ⟨x0, x1, x2, x3, gk, cp, rfl, rfl, n0, n1, n2, n3, hgk0, hgk1⟩ := dnum4 hown ((numbersF_len hn).1 (by omega))
 have HB1 := hide hB1; have HNU := hide hn; have HO := hide hown
 clear hB1 hn hown
 cases hd : d.c with
 | some y =>
  obtain ⟨a, b, c10, -⟩ := H.out.clCell HB1.out hd
  have HR := hide (ready_bad w1 (H.out.stdB HB1.out).err g _ false c10 rfl)
  have HX : Hid (aLink d ws = ⟨.error 6, d⟩) := hide ((withN_some HNU.out).trans (noC_some hd))
  clear c10
  go_wp2_with fail
  refine HR.out.mono ?_
  rintro r w2 ⟨rfl, hB2⟩
  have HP := hide (H.out.bad HX.out (HB1.out.trans (hB2.mono HB1.out.size)))
  go_wp2_with fail
  exact ⟨rfl, HP.out⟩
 | none =>
  have HR := hide (ready_ok w1 g none false (H.out.noCell HB1.out hd) rfl)
  have HD := hide (H.out.dk.below HB1.out)
  have hgk : gk ≠ g := by have := H.out.dk.blk.lt; omega
  have c7 := HD.out.blk.cell 7
  have f7 := HD.out.blk.frozen 7
  simp at c7
  go_wp2_with fail
  refine HR.out.mono ?_
  rintro r w2 ⟨rfl, rfl⟩
  clear HR HN
  obtain ⟨vv, hvv⟩ : ∃ vv, L.v 1 = vv := ⟨_, rfl⟩
  obtain ⟨m, hm⟩ : ∃ m, d.p.lk.length = m := ⟨_, rfl⟩
  have hm6 : m ≤ 8 := by have := H.out.ok.lk; omega
  have hOW : w2.ownsRow w0.heap.size 88 4 vv m (lkV d.p.lk) := by
   have := HD.out.own 1 (by omega)
   rw [hvv] at this
   rw [← hm]
   exact this
  obtain ⟨AV, cV, hAV, -⟩ := own_at hOW
  subst hAV
  rw [hvv] at c7
  have HVV := hide hvv
  by_cases hfull : 8 ≤ m
  ·have HX : Hid (aLink d ws = ⟨.error 4, d⟩) := hide ((withN_some HNU.out).trans ((noC_none hd).trans (if_pos (by rw [hm]; exact hfull))))
   have d1 : decide ((8 : Int) ≤ (m : Int)) = true := decide_eq_true (by omega)
   have HMU := hide (must_errno 4 w2 (H.out.stdB HB1.out).err)
   clear hOW hm hvv hfull
   go_wp2_with fail
   refine HMU.out.mono ?_
   rintro r w3 ⟨rfl, hB3⟩
   have HP := hide (H.out.bad HX.out (HB1.out.trans (hB3.mono HB1.out.size)))
   go_wp2_with fail
   exact ⟨rfl, HP.out⟩
  have HX : Hid (aLink d ws = ⟨.ok (itoB m), { d with p := { d.p with lk := d.p.lk ++ [⟨x0, x1, x2, x3⟩] } }⟩) := hide ((withN_some HNU.out).trans ((noC_none hd).trans ((if_neg (by rw [hm]; exact hfull)).trans (by rw [hm]; rfl))))
  have d1 : decide ((8 : Int) ≤ (m : Int)) = false := decide_eq_false (by omega)
  have HB0 := hide (Nat.le_trans H.out.dk.low.size HB1.out.size)
  have HO1 := hide ((own_keepB hOW (below_drewN (Below.refl _ _) 1) : w2.drew.ownsRow w0.heap.size 88 4 (.slice AV m cV) m (lkV d.p.lk)).alloc (.cells #[.int .i64 x0, .int .i64 x1, .int .i64 x2, .int .i64 x3] 88))
  have HNW := hide (newsF (Blk.new w2.drew 88 #[.int .i64 x0, .int .i64 x1, .int .i64 x2, .int .i64 x3]))
  have HMX : Hid (m + 1 ≤ maxLen ∧ (m + 1) * 32 ≤ 140737488355328) := hide (by simp [maxLen]; omega)
  have HSZ : Hid (w0.heap.size ≤ (w2.drew.alloc (.cells #[.int .i64 x0, .int .i64 x1, .int .i64 x2, .int .i64 x3] 88)).heap.size) := hide (by have := HB0.out; simp; omega)
  obtain ⟨i0, hi, hz0, hz1, hz2⟩ := en_info_parts lnkC
  have HGE : Hid (∀ W8, (w2.drew.alloc (.cells #[.int .i64 x0, .int .i64 x1, .int .i64 x2, .int .i64 x3] 88)).grownBy W8 (Value.slice AV m cV).ownBlock → W8.cell? ⟨g, 7, none⟩ = some (.slice AV m cV) ∧ W8.frozen? ⟨g, 7, none⟩ = false ∧ Blk W8 g 37 (deskC d L)) := hide (fun W8 hg => by
   have hb : Blk W8 g 37 (deskC d L) := (HD.out.blk.drew.alloc _).grown hg (fun e => HD.out.off 1 (by omega) (by rw [HVV.out]; exact e.symm))
   have hc := hb.cell 7
   simp at hc
   rw [HVV.out] at hc
   exact ⟨hc, hb.frozen 7, hb⟩)
  have cA : (w2.alloc (.cells #[.int .i64 x0, .int .i64 x1, .int .i64 x2, .int .i64 x3] 88)).cell? ⟨g, 7, none⟩ = some (.slice AV m cV) := by
   have hc := (HD.out.blk.alloc (.cells #[.int .i64 x0, .int .i64 x1, .int .i64 x2, .int .i64 x3] 88)).cell 7
   simp at hc
   rw [HVV.out] at hc
   exact hc
  have HFIN : Hid (∀ (W8 : World) (v8 : Value), W8.ownsRow w0.heap.size 88 4 v8 (m + 1) (lkV d.p.lk ++ [.int .i64 x0, .int .i64 x1, .int .i64 x2, .int .i64 x3]) → (w2.drew.alloc (.cells #[.int .i64 x0, .int .i64 x1, .int .i64 x2, .int .i64 x3] 88)).grownBy W8 (Value.slice AV m cV).ownBlock → (v8.ownBlock = (Value.slice AV m cV).ownBlock ∨ ∀ q, v8.ownBlock = some q → (w2.drew.alloc (.cells #[.int .i64 x0, .int .i64 x1, .int .i64 x2, .int .i64 x3] 88)).heap.size ≤ q) → DkTo w0 w g L (W8.setCell ⟨g, 7, none⟩ v8) { d with p := { d.p with lk := d.p.lk ++ [⟨x0, x1, x2, x3⟩] } }) := hide (fun W8 v8 ho hg hv => by
   have hBA : Below w2.heap.size w2 (w2.drew.alloc (.cells #[.int .i64 x0, .int .i64 x1, .int .i64 x2, .int .i64 x3] 88)) := (below_drewN (Below.refl _ _) 1).alloc (Nat.le_refl _) _
   have hA := HD.out.below hBA
   have hb : Blk (W8.setCell ⟨g, 7, none⟩ v8) g 37 (deskC { d with p := { d.p with lk := d.p.lk ++ [⟨x0, x1, x2, x3⟩] } } { L with v := updF L.v 1 v8 }) := (HGE.out W8 hg).2.2.set_ 7 v8
   have hX : ∀ j, j < 6 → j ≠ 1 → rowX { d with p := { d.p with lk := d.p.lk ++ [⟨x0, x1, x2, x3⟩] } } j = rowX d j ∧ rowL { d with p := { d.p with lk := d.p.lk ++ [⟨x0, x1, x2, x3⟩] } } j = rowL d j := (fun j hj hne => by
    obtain rfl | rfl | rfl | rfl | rfl : j = 0 ∨ j = 2 ∨ j = 3 ∨ j = 4 ∨ j = 5 := by omega
    all_goals exact ⟨rfl, rfl⟩)
   refine DkTo.after HB1.out (DkTo.after hBA (hA.row 1 (by omega) v8 (by rw [HVV.out]; exact hg) (by rw [HVV.out]; exact hv) (only_setCell (only_refl _ _) (.inl rfl) _) ?_ hb hX rfl (.inl hd)))
   have e1 : lkV (d.p.lk ++ [(⟨x0, x1, x2, x3⟩ : Lk)]) = lkV d.p.lk ++ [.int .i64 x0, .int .i64 x1, .int .i64 x2, .int .i64 x3] := lkV_snoc _ _
   show W8.ownsRow w0.heap.size 88 4 v8 (d.p.lk ++ [(⟨x0, x1, x2, x3⟩ : Lk)]).length (lkV (d.p.lk ++ [(⟨x0, x1, x2, x3⟩ : Lk)]))
   rw [e1, List.length_append, hm]
   exact ho)
  have HST : Hid (∀ W d2, DkTo w0 w g L W d2 → Calls Tryz.prog 21 #[.int .i64 m] W fun e w' => e = .returned (.string (itoB m)) ∧ Below W.heap.size W w') := hide (fun W d2 h => by
   obtain ⟨L2, h2, -⟩ := h
   exact itoa_any m W (H.out.std.below H.out.std.big h2.low) (by omega) (by omega))
  have e1 : wrap64 (((m : Int) + 1) - 1) = m := by unfold wrap64; omega
  have e3 : wrap64 (m : Int) = m := by unfold wrap64; omega
  have e2 : wrap64 ((((m + 1 : Nat)) : Int) - 1) = m := by unfold wrap64; omega
  have HOB : Hid (∀ q, (Value.slice AV m cV).ownBlock = some q → q ≠ gk) := hide (fun q e => by
   have h1 := H.out.dk.lo (i := q) (.inr (.inl ⟨1, by omega, by rw [HVV.out]; exact e⟩))
   omega)
  obtain ⟨S9, hS9⟩ : ∃ S9 : World → Prop, (fun W => W.cell? ⟨g, 7, none⟩ = some (.slice AV m cV) ∧ W.cell? ⟨gk, 0, none⟩ = some (.int .i64 x0) ∧ W.cell? ⟨gk, 1, none⟩ = some (.int .i64 x1) ∧ W.cell? ⟨gk, 2, none⟩ = some (.int .i64 x2) ∧ W.cell? ⟨gk, 3, none⟩ = some (.int .i64 x3)) = S9 := ⟨_, rfl⟩
  have HS9 : Hid (S9 = fun W => W.cell? ⟨g, 7, none⟩ = some (.slice AV m cV) ∧ W.cell? ⟨gk, 0, none⟩ = some (.int .i64 x0) ∧ W.cell? ⟨gk, 1, none⟩ = some (.int .i64 x1) ∧ W.cell? ⟨gk, 2, none⟩ = some (.int .i64 x2) ∧ W.cell? ⟨gk, 3, none⟩ = some (.int .i64 x3)) := hide hS9.symm
  have HNQ : Hid (∀ W : World, W.heap[gk]? = w2.heap[gk]? → W.cell? ⟨gk, 0, none⟩ = some (.int .i64 x0) ∧ W.cell? ⟨gk, 1, none⟩ = some (.int .i64 x1) ∧ W.cell? ⟨gk, 2, none⟩ = some (.int .i64 x2) ∧ W.cell? ⟨gk, 3, none⟩ = some (.int .i64 x3)) := hide (fun W hq => ⟨(World.cell?_of_block (a := ⟨gk, 0, none⟩) hq).trans n0, (World.cell?_of_block (a := ⟨gk, 1, none⟩) hq).trans n1, (World.cell?_of_block (a := ⟨gk, 2, none⟩) hq).trans n2, (World.cell?_of_block (a := ⟨gk, 3, none⟩) hq).trans n3⟩)
  have HH : Hid (S9 w2.drew) := hide (by rw [HS9.out]; exact ⟨c7, HNQ.out _ rfl⟩)
  have HHA : Hid (S9 (w2.drew.alloc (.cells #[.int .i64 x0, .int .i64 x1, .int .i64 x2, .int .i64 x3] 88))) := hide (by rw [HS9.out]; exact ⟨cA, HNQ.out _ (Below.heap_alloc _ _ _ hgk1)⟩)
  have HH8 : Hid (∀ W8, (w2.drew.alloc (.cells #[.int .i64 x0, .int .i64 x1, .int .i64 x2, .int .i64 x3] 88)).grownBy W8 (Value.slice AV m cV).ownBlock → S9 W8) := hide (fun W8 hg => by
   rw [HS9.out]
   exact ⟨(HGE.out W8 hg).1, HNQ.out _ ((hg.block gk (by simp; omega) (fun e => HOB.out gk e.symm rfl)).trans (Below.heap_alloc _ _ _ hgk1))⟩)
  clear hOW hm hvv hfull hm6 hS9 cA
  go_wp2_with fail
  refine wp_region_noPanic ?_
  refine wp_region_L (S := S9) (L := 24) (by kernel_rfl) ?_
  clear c7 n0 n1 n2 n3
  have hH := HH.out
  try simp only [List.size_toArray, List.length_cons, List.length_nil, Nat.reduceAdd]
  refine wpAnyL_takes (fuel := 6) (by kernel_rfl) (fun _ _ _ _ h => h) (by assumption) [0, 1, 2, 3, 4, 5, 6, 7, 8, 9, 10, 11, 12, 13, 14, 15, 16, 17, 18] (by kernel_rfl) ?_
  iterate 19
   refine ⟨_, ?_, rfl, .inl ⟨by rfl, ?_⟩, ?_⟩
   rotate_left
   ·(intro w9 hSw; rw [HS9.out] at hSw; obtain ⟨q0, q1, q2, q3, q4⟩ := hSw; go_simp <;> with_reducible rfl)
   try simp only [Act.put, List.setIfInBounds_toArray, List.set_cons_zero, List.set_cons_succ, List.getElem_toArray, List.getElem_cons_zero, List.getElem_cons_succ]
  unfold Takes
  clear hH
  have hH := HH.out
  refine wpAnyL_one (i := 19) (by kernel_rfl) rfl (fun K9 hK9 => ?_)
  try simp only [List.getElem_toArray, List.getElem_cons_zero, List.getElem_cons_succ]
  go_simp
  refine hK9.out _ _ (fun _ => HHA.out) ?_
  clear hK9 K9 hH
  try simp only [Act.put, List.setIfInBounds_toArray, List.set_cons_zero, List.set_cons_succ]
  refine wpAnyL_one (i := 20) (by kernel_rfl) rfl (fun K9 hK9 => ?_)
  try simp only [List.getElem_toArray, List.getElem_cons_zero, List.getElem_cons_succ]
  rw [if_pos (by rfl)]
  refine wp_append_own2 _ (.tmp 24) (.tmp 38) 26 rfl w0.heap.size 88 i0 _ 4 32 Tryz.underlying26 hi hz0 hz1 hz2 rfl (by decide) (.slice AV m cV) m (lkV d.p.lk) rfl (by exact HO1.out) ⟨w2.heap.size, 0, none⟩ 1 1 [.int .i64 x0, .int .i64 x1, .int .i64 x2, .int .i64 x3] rfl rfl (by exact HNW.out) (one4 x0 x1 x2 x3) HMX.out.1 HMX.out.2 (by exact HSZ.out) ?_
  intro v8 w8 hown hg hwh
  obtain ⟨A8, c8, rfl, -⟩ := own_at hown
  have HO8 := hide hown; have HG8 := hide hg; have HV8 := hide hwh
  have HS8 := hide (HH8.out w8 hg)
  have c11 := (HGE.out w8 hg).1
  have f11 := (HGE.out w8 hg).2.1
  clear hown hg hwh
  refine hK9.out _ _ (fun _ => HS8.out) ?_
  clear hK9 K9
  try simp only [Act.put, List.setIfInBounds_toArray, List.set_cons_zero, List.set_cons_succ]
  refine wpAnyL_one (i := 21) (by kernel_rfl) rfl (fun K9 hK9 => ?_)
  try simp only [List.getElem_toArray, List.getElem_cons_zero, List.getElem_cons_succ]
  go_simp
  refine hK9.out _ _ (fun _ => HS8.out) ?_
  clear hK9 K9
  try simp only [Act.put, List.setIfInBounds_toArray, List.set_cons_zero, List.set_cons_succ]
  refine wpAnyL_one (i := 22) (by kernel_rfl) rfl (fun K9 hK9 => ?_)
  try simp only [List.getElem_toArray, List.getElem_cons_zero, List.getElem_cons_succ]
  go_simp
  refine hK9.out _ _ (fun _ => HS8.out) ?_
  clear hK9 K9
  try simp only [Act.put, List.setIfInBounds_toArray, List.set_cons_zero, List.set_cons_succ]
  refine wpAnyL_one (i := 23) (by kernel_rfl) rfl (fun K9 hK9 => ?_)
  try simp only [List.getElem_toArray, List.getElem_cons_zero, List.getElem_cons_succ]
  go_simp
  refine hK9.out _ _ (fun _ => HS8.out) ?_
  clear hK9 K9
  try simp only [Act.put, List.setIfInBounds_toArray, List.set_cons_zero, List.set_cons_succ]
  refine wpAnyL_one (i := 24) (by kernel_rfl) rfl (fun K9 hK9 => ?_)
  try simp only [List.getElem_toArray, List.getElem_cons_zero, List.getElem_cons_succ]
  go_simp
  refine hK9.out _ _ (fun h9 => absurd h9 (by decide)) ?_
  clear hK9 K9
  try simp only [Act.put, List.setIfInBounds_toArray, List.set_cons_zero, List.set_cons_succ]
  refine wpAnyL_done (by kernel_rfl) ?_ _
  refine NoPanic.normal ?_
  all_goals
   have HF := hide (HFIN.out _ _ HO8.out HG8.out HV8.out)
   have HI := hide (HST.out _ _ HF.out)
   go_wp2_with fail
   refine HI.out.mono ?_
   rintro r w9 ⟨rfl, hB9⟩
   have HB9 := hide hB9
   clear hB9
   go_wp2_with fail
   go_ret
   rw [HX.out]
   exact ⟨rfl, HF.out.below HB9.out⟩
end
end
section
open Go Go.RowKit
section
variable {w0 w : World} {g k : Nat} {d : Dk} {L : Ly} {A : Option Addr} {ws : List ByteArray}
theorem must_erV {W : World} {v : Value} {e pl : Int} (hv : AtV W v e pl) (hg : ErrT W) : Calls Tryz.prog 25 #[v] W fun r w' => r = .panicked (wrongP e) ∧ Below W.heap.size W w' := by
 rcases hv with ⟨_, rfl⟩ | ⟨G, rfl, hb⟩
 ·exact must_errno e W hg
 ·exact must_at e pl G W hg hb
theorem orE_zero {e : Int} {o : ByteArray} (h : e = 0) : orE e o d = ⟨.ok o, d⟩ := by unfold orE; rw [if_pos h]
theorem orE_bad {e : Int} {o : ByteArray} (h : e ≠ 0) : orE e o d = ⟨.error e, d⟩ := by unfold orE; rw [if_neg h]
theorem numF_range {s : ByteArray} {x : Int} (h : numF s = some x) : -9223372036854775808 ≤ x ∧ x ≤ 9223372036854775807 := by
 unfold numF at h
 split at h
 ·rename_i k hk
  split at h
  ·cases h; exact atoi_range hk
  ·cases h
 ·cases h
theorem numsF_range : ∀ {ws : List ByteArray} {l : List Int}, numsF ws = some l → ∀ x ∈ l, -9223372036854775808 ≤ x ∧ x ≤ 9223372036854775807
 | [], l, h, x, hx => by cases h; cases hx
 | s :: ws, l, h, x, hx => by
  unfold numsF at h
  cases hk : numF s with
  | none => rw [hk] at h; cases h
  | some k =>
   rw [hk] at h
   cases hl : numsF ws with
   | none => rw [hl] at h; cases h
   | some l' =>
    rw [hl] at h
    cases h
    rcases List.mem_cons.1 hx with rfl | hx
    ·exact numF_range hk
    ·exact numsF_range hl x hx
theorem numbersF_range {n : Int} {l : List Int} (h : numbersF ws n = some l) : ∀ x ∈ l, -9223372036854775808 ≤ x ∧ x ≤ 9223372036854775807 := by
 unfold numbersF at h
 split at h
 ·cases h
 ·exact numsF_range h
theorem DkL.plan_at (h : DkL w0 w g d L) (hw : d.p.wn = []) : ∃ AS cs AL cl, L.v 0 = .slice AS d.p.sl.length cs ∧ L.v 1 = .slice AL d.p.lk.length cl ∧ SlotsAt w AS d.p.sl.length d.p.sl ∧ LinksAt w AL d.p.lk.length d.p.lk ∧ WinsAt w none 0 d.p.wn := by
 obtain ⟨AS, cs, e1, h1, -⟩ := own_slots (h.own 0 (by omega)) rfl
 obtain ⟨AL, cl, e2, h2, -⟩ := own_links (h.own 1 (by omega)) rfl
 exact ⟨AS, cs, AL, cl, e1, e2, h1, h2, fun j hj => by omega⟩
set_option maxRecDepth 100000 in
set_option maxHeartbeats 4000000 in
theorem do_bytes (h : CmdIn w0 w g d L k A ws) (c : Nat) : Calls Tryz.prog 47 #[.pointer (some ⟨g, 0, none⟩), .slice A ws.length c] w (DoP w0 w g L (aBytes d ws)) := by
 have HN := hide (h.nums (0) (by omega) (by omega) c)
 have H := hide h
 clear h
 go_enter Tryz.func47, Tryz.ntmps47
 go_wp2_with fail
 refine HN.out.mono ?_
 rintro r w1 ⟨⟨hn, rfl⟩ | ⟨l, v, hn, rfl, hown⟩, hB1⟩
 case inl =>
  have HP := hide (H.out.bad (x := aBytes d ws) (withN_none hn) hB1)
  go_wp2_with fail
  exact ⟨rfl, HP.out⟩
 have HB1 := hide hB1; have HNU := hide hn
 have HD := hide (H.out.dk.below hB1)
 obtain ⟨AS, cs, AL, cl, e6, e7, s2, l2, q2⟩ := HD.out.plan_at H.out.ok.wn
 have HEN := hide (encode_any d.p AS d.p.sl.length cs AL d.p.lk.length cl none 0 0 w1 rfl rfl (by rw [H.out.ok.wn]; rfl) s2 l2 q2)
 have c0 := HD.out.blk.cell 0
 have f0 := HD.out.blk.frozen 0
 have c1 := HD.out.blk.cell 1
 have f1 := HD.out.blk.frozen 1
 have c2 := HD.out.blk.cell 2
 have f2 := HD.out.blk.frozen 2
 have c3 := HD.out.blk.cell 3
 have f3 := HD.out.blk.frozen 3
 have c4 := HD.out.blk.cell 4
 have f4 := HD.out.blk.frozen 4
 have c5 := HD.out.blk.cell 5
 have f5 := HD.out.blk.frozen 5
 have c6 := HD.out.blk.cell 6
 have f6 := HD.out.blk.frozen 6
 have c7 := HD.out.blk.cell 7
 have f7 := HD.out.blk.frozen 7
 have c8 := HD.out.blk.cell 8
 have f8 := HD.out.blk.frozen 8
 have c9 := HD.out.blk.cell 9
 have f9 := HD.out.blk.frozen 9
 simp at c0 c1 c2 c3 c4 c5 c6 c7 c8 c9
 rw [e6] at c6
 rw [e7] at c7
 clear hB1 hn hown HN s2 l2 q2 e6 e7
 go_wp2_with fail
 refine HEN.out.mono ?_
 intro r w2 hp
 unfold EoPost at hp
 split at hp
 ·rename_i h0
  obtain ⟨v2, rfl, hQ, -, hB2⟩ := hp
  obtain ⟨ao, cp, e, -⟩ := hQ.shape
  have hlen : (bvN (vnums (plN d.p))).length = (vnums (plN d.p)).length := by simp [bvN]
  rw [hlen] at e
  subst e
  have hmax : (vnums (plN d.p)).length ≤ maxLen := by
   rcases hQ with ⟨e1, _⟩ | ⟨_, _, _, _, _, _, _, _, h5, h6, _⟩
   ·rw [← hlen, e1]; simp
   ·rw [hlen] at h5; omega
  have HB2 := hide (HB1.out.trans (hB2.mono HB1.out.size))
  have HX : Hid (aBytes d ws = ⟨.ok (itoB (vnums (plN d.p)).length), d⟩) := hide ((withN_some HNU.out).trans (orE_zero h0))
  obtain ⟨m, hm⟩ : ∃ m, (vnums (plN d.p)).length = m := ⟨_, rfl⟩
  rw [hm] at HX hmax ⊢
  have HMU := hide (must_nil w2)
  have HIT := hide (itoa_any m w2 (H.out.stdB HB2.out) (by omega) (by simp [maxLen] at hmax; omega))
  clear h0 hQ hB2 hlen hm hmax HEN
  go_wp2_with fail
  refine HMU.out.mono ?_
  rintro r w3 ⟨rfl, rfl⟩
  go_wp2_with fail
  refine HIT.out.mono ?_
  rintro r w4 ⟨rfl, hB4⟩
  have HP := hide (H.out.fine HX.out (HB2.out.trans (hB4.mono HB2.out.size)))
  clear hB4
  go_wp2_with fail
  go_ret
  exact HP.out
 ·rename_i h0
  obtain ⟨v2, rfl, hA, hB2⟩ := hp
  have HB2 := hide (HB1.out.trans (hB2.mono HB1.out.size))
  have HX : Hid (aBytes d ws = ⟨.error (chk d.p).1, d⟩) := hide ((withN_some HNU.out).trans (orE_bad h0))
  have HMU := hide (must_erV hA (H.out.stdB HB2.out).err)
  obtain ⟨tv, uv, rfl⟩ := hA.iface
  clear h0 hA hB2 HEN
  go_wp2_with fail
  refine HMU.out.mono ?_
  rintro r w3 ⟨rfl, hB3⟩
  have HP := hide (H.out.bad HX.out (HB2.out.trans (hB3.mono HB2.out.size)))
  go_wp2_with fail
  exact ⟨rfl, HP.out⟩
set_option maxRecDepth 100000 in
set_option maxHeartbeats 4000000 in
theorem do_midpoint (h : CmdIn w0 w g d L k A ws) (c : Nat) : Calls Tryz.prog 56 #[.pointer (some ⟨g, 0, none⟩), .slice A ws.length c] w (DoP w0 w g L (aMid d ws)) := by
 have HN := hide (h.nums (-1) (by omega) (by omega) c)
 have H := hide h
 clear h
 go_enter Tryz.func56, Tryz.ntmps56
 go_wp2_with fail
 refine HN.out.mono ?_
 rintro r w1 ⟨⟨hn, rfl⟩ | ⟨l, v, hn, rfl, hown⟩, hB1⟩
 case inl =>
  have HP := hide (H.out.bad (x := aMid d ws) (withN_none hn) hB1)
  go_wp2_with fail
  exact ⟨rfl, HP.out⟩
 have hl1 := (numbersF_len hn).2
 obtain ⟨gk, cp, rfl, hle, hgk0, hgk1, hc⟩ := nums_cells hown (by omega)
 match l, hl1, hn, hown, hle, hc with
 | x0 :: t, _, hn, hown, hle, hc =>
 have n0 := hc 0 x0 rfl
 have HI : Hid (IsL w1 (if cp = 1 then some ⟨gk, 0, none⟩ else some ⟨gk, 1, none⟩) t) := hide (fun j hj => by
  rw [if_neg (by rw [List.length_cons] at hle; omega)]
  refine ⟨gk, 1, rfl, ?_⟩
  have := hc (j + 1) (t.getD j 0) (by rw [List.getElem?_cons_succ, List.getElem?_eq_getElem hj, List.getD_eq_getElem?_getD, List.getElem?_eq_getElem hj]; rfl)
  rw [Nat.add_comm 1 j]
  exact this)
 have hx0 := numbersF_range hn x0 (by simp)
 have htl : t.length ≤ 50000 := by have h1 := numbersF_le hn; have h2 := H.out.wl; rw [List.length_cons] at h1; omega
 have HMI := hide (fun W (hB : Below w1.heap.size w1 W) => mid_any (if cp = 1 then some ⟨gk, 0, none⟩ else some ⟨gk, 1, none⟩) (cp - 1) t x0 W (HI.out.below (Nat.le_refl _) hB) (by omega) hx0.2)
 have HB1 := hide hB1; have HNU := hide hn
 obtain ⟨q, hq⟩ : ∃ q, t.length = q := ⟨_, rfl⟩
 have hlq : (x0 :: t).length = q + 1 := by simp [hq]
 rw [hlq] at hle ⊢
 rw [hq] at HMI htl
 have HX : Hid (aMid d ws = orE (midE t x0) (itoB (midV t x0)) d) := hide (withN_some HNU.out)
 obtain ⟨E, hE⟩ : ∃ E, midE t x0 = E := ⟨_, rfl⟩
 obtain ⟨V, hV⟩ : ∃ V, midV t x0 = V := ⟨_, rfl⟩
 have hbd := midV_bd t x0
 rw [hE, hV] at HX HMI
 rw [hV] at hbd
 have HN0 : Hid (∀ W, Below w1.heap.size w1 W → W.cell? ⟨gk, 0, none⟩ = some (.int .i64 x0)) := hide (fun W hB => (hB.cell (p := ⟨gk, 0, none⟩) hgk1).trans n0)
 have b1 : (1 : Int) ≤ ((q + 1 : Nat) : Int) := by omega
 have b2 : ((q + 1 : Nat) : Int) ≤ (cp : Int) := by omega
 have b3 : (1 : Int) ≤ (q : Int) + 1 := by omega
 have b4 : (q : Int) + 1 ≤ (cp : Int) := by omega
 have b5 : 1 ≤ q + 1 := by omega
 clear hB1 hn hown HN hc hlq hq hE hV hl1
 by_cases hcp : cp = 1
 all_goals
  simp only [hcp, if_true, if_false] at HMI
  go_wp2_with fail
  go_region_held3 (fun w' => w'.cell? ⟨gk, 0, none⟩ = some (.int .i64 x0)) (first | exact HN0.out _ (below_drewN (Below.refl _ _) 1) | exact HN0.out _ HB5.out)
   (first | (go_at_call 100; go_must (refine (HMI.out _ (below_drewN (Below.refl _ _) 1)).mono ?_); rintro r w5 ⟨rfl, hB5⟩; have HB5 := hide ((below_drewN (Below.refl w1.heap.size w1) 1).trans hB5); clear hB5))
  all_goals
   by_cases he : E = 0
   ·subst he
    have HX2 := hide (HX.out.trans (orE_zero rfl))
    have HB6 := hide (HB1.out.trans (HB5.out.mono HB1.out.size))
    have HMU := hide (must_nil w5)
    have HIT := hide (itoa_any V w5 (H.out.stdB HB6.out) (by omega) (by omega))
    have ez : errV 0 = .nilIface := rfl
    rw [ez]
    go_wp2_with fail
    refine HMU.out.mono ?_
    rintro r w6 ⟨rfl, rfl⟩
    go_wp2_with fail
    refine HIT.out.mono ?_
    rintro r w7 ⟨rfl, hB7⟩
    have HP := hide (H.out.fine HX2.out (HB6.out.trans (hB7.mono HB6.out.size)))
    clear hB7
    go_wp2_with fail
    go_ret
    exact HP.out
   ·have HX2 := hide (HX.out.trans (orE_bad he))
    have HB6 := hide (HB1.out.trans (HB5.out.mono HB1.out.size))
    have HMU := hide (must_errV E w5 (H.out.stdB HB6.out).err)
    have HE := hide he
    clear he
    go_wp2_with fail
    refine HMU.out.mono ?_
    rintro r w6 ⟨⟨h0, -⟩ | ⟨-, rfl⟩, hB6⟩
    ·exact absurd h0 HE.out
    have HP := hide (H.out.bad HX2.out (HB6.out.trans (hB6.mono HB6.out.size)))
    go_wp2_with fail
    exact ⟨rfl, HP.out⟩
end
end
section
open Go Go.RowKit
section
variable {w0 w : World} {g k : Nat} {d : Dk} {L : Ly} {A : Option Addr} {ws : List ByteArray}
theorem localN_bd (f s n d t : Int) : -1099511627776 ≤ localN f s n d t ∧ localN f s n d t ≤ 5000000000000 := by
 unfold localN
 split
 ·rename_i h
  unfold localE at h
  split at h
  ·cases h
  ·rename_i h1
   split at h
   ·cases h
   ·rename_i h2
    have hr : rightB f s n d = true := by cases e : rightB f s n d; exact absurd e h1; rfl
    have h3 := local_wrap f s n d t hr (by omega) (by omega)
    have h4 := rightB_iff hr
    omega
 ·omega
theorem dclock_any {W : World} {gk cp : Nat} {x0 x1 x2 x3 : Int} (n0 : W.cell? ⟨gk, 0, none⟩ = some (.int .i64 x0)) (n1 : W.cell? ⟨gk, 1, none⟩ = some (.int .i64 x1)) (n2 : W.cell? ⟨gk, 2, none⟩ = some (.int .i64 x2)) (n3 : W.cell? ⟨gk, 3, none⟩ = some (.int .i64 x3)) : Calls Tryz.prog 97 #[.slice (some ⟨gk, 0, none⟩) 5 cp] W fun e w' => e = .returned (clk x0 x1 x2 x3) ∧ Below W.heap.size W w' := by
 have hlt : gk < W.heap.size := World.block_lt_of_cell? _ _ n0
 have HN : Hid (∀ (o : Unit) W', Below W.heap.size W W' → W'.cell? ⟨gk, 0, none⟩ = some (.int .i64 x0) ∧ W'.cell? ⟨gk, 1, none⟩ = some (.int .i64 x1) ∧ W'.cell? ⟨gk, 2, none⟩ = some (.int .i64 x2) ∧ W'.cell? ⟨gk, 3, none⟩ = some (.int .i64 x3)) := hide (fun _ W' hB => ⟨(hB.cell (p := ⟨gk, 0, none⟩) hlt).trans n0, (hB.cell (p := ⟨gk, 1, none⟩) hlt).trans n1, (hB.cell (p := ⟨gk, 2, none⟩) hlt).trans n2, (hB.cell (p := ⟨gk, 3, none⟩) hlt).trans n3⟩)
 obtain ⟨W1, hW1⟩ : ∃ W1, W.alloc (.cells #[.int .i64 0, .int .i64 0, .int .i64 0, .int .i64 0] 166) = W1 := ⟨_, rfl⟩
 have hb1 : Below W.heap.size W W1 := by rw [← hW1]; exact (Below.refl _ _).alloc (Nat.le_refl _) _
 have hK : Blk W1 W.heap.size 166 #[.int .i64 0, .int .i64 0, .int .i64 0, .int .i64 0] := by rw [← hW1]; exact Blk.new W _ _
 have HW1 := hide hW1; have HB1 := hide hb1; have HK := hide hK
 obtain ⟨m0, m1, m2, m3⟩ := HN.out () W1 hb1
 obtain ⟨k0, k1, k2, k3⟩ := hK.cells4
 have f0 := hK.frozen 0
 have f1 := hK.frozen 1
 have f2 := hK.frozen 2
 have f3 := hK.frozen 3
 have hne : gk ≠ W.heap.size := by omega
 clear hW1 hb1 hK n0 n1 n2 n3
 go_enter Tryz.func97, Tryz.ntmps97
 go_wp2_with fail
 rw [HW1.out]
 go_region
 all_goals
  go_wp2_with fail
  refine bodyPost_ret (v := clk x0 x1 x2 x3) (by simp [results, Tryz.results97, go_sem, k0, k1, k2, k3]) rfl ⟨rfl, ?_⟩
  exact below_drewN ((((HB1.out.setCell (Nat.le_refl _) _).setCell (Nat.le_refl _) _).setCell (Nat.le_refl _) _).setCell (Nat.le_refl _) _) 1
set_option maxRecDepth 100000 in
set_option maxHeartbeats 4000000 in
theorem do_local (h : CmdIn w0 w g d L k A ws) (c : Nat) : Calls Tryz.prog 53 #[.pointer (some ⟨g, 0, none⟩), .slice A ws.length c] w (DoP w0 w g L (aLocal d ws)) := by
 have HN := hide (h.nums (5) (by omega) (by omega) c)
 have H := hide h
 clear h
 go_enter Tryz.func53, Tryz.ntmps53
 go_wp2_with fail
 refine HN.out.mono ?_
 rintro r w1 ⟨⟨hn, rfl⟩ | ⟨l, v, hn, rfl, hown⟩, hB1⟩
 case inl =>
  have HP := hide (H.out.bad (x := aLocal d ws) (withN_none hn) hB1)
  go_wp2_with fail
  exact ⟨rfl, HP.out⟩
 obtain ⟨x0, x1, x2, x3, x4, gk, cp, rfl, rfl, n0, n1, n2, n3, n4, hgk0, hgk1⟩ := dnum5 hown ((numbersF_len hn).1 (by omega))
 have HB1 := hide hB1; have HNU := hide hn; have HO := hide hown
 clear hB1 hn hown
 have HX : Hid (aLocal d ws = orE (localE x0 x1 x2 x3 x4) (itoB (localN x0 x1 x2 x3 x4)) d) := hide (withN_some HNU.out)
 have HNN : Hid (∀ W, Below w1.heap.size w1 W → W.cell? ⟨gk, 4, none⟩ = some (.int .i64 x4)) := hide (fun W hB => (hB.cell (p := ⟨gk, 4, none⟩) hgk1).trans n4)
 have HCL : Hid (∀ W, Below w1.heap.size w1 W → Calls Tryz.prog 97 #[.slice (some ⟨gk, 0, none⟩) 5 cp] W fun e w' => e = .returned (clk x0 x1 x2 x3) ∧ Below w1.heap.size w1 w') := hide (fun W hB => (dclock_any ((hB.cell (p := ⟨gk, 0, none⟩) hgk1).trans n0) ((hB.cell (p := ⟨gk, 1, none⟩) hgk1).trans n1) ((hB.cell (p := ⟨gk, 2, none⟩) hgk1).trans n2) ((hB.cell (p := ⟨gk, 3, none⟩) hgk1).trans n3)).mono (fun e w' ⟨h1, h2⟩ => ⟨h1, hB.trans (h2.mono hB.size)⟩))
 have HLO : Hid (∀ W, Below w1.heap.size w1 W → Calls Tryz.prog 98 #[clk x0 x1 x2 x3, .int .i64 x4] W fun e w' => e = .returned (.tuple #[.int .i64 (localN x0 x1 x2 x3 x4), errV (localE x0 x1 x2 x3 x4)]) ∧ Below w1.heap.size w1 w') := hide (fun W hB => (local_any x0 x1 x2 x3 x4 W).mono (fun e w' ⟨h1, h2⟩ => ⟨h1, hB.trans (h2.mono hB.size)⟩))
 have hbd := localN_bd x0 x1 x2 x3 x4
 obtain ⟨E, hE⟩ : ∃ E, localE x0 x1 x2 x3 x4 = E := ⟨_, rfl⟩
 obtain ⟨V, hV⟩ : ∃ V, localN x0 x1 x2 x3 x4 = V := ⟨_, rfl⟩
 rw [hE, hV] at HX HLO
 rw [hV] at hbd
 clear hE hV HN
 go_wp2_with fail
 go_region_held3 (fun w' => w'.cell? ⟨gk, 4, none⟩ = some (.int .i64 x4)) (first | exact HNN.out _ (below_drewN (Below.refl _ _) 1) | exact HNN.out _ HB5.out | exact HNN.out _ HB4.out)
  (first
   | (go_at_call 97; go_must (refine (HCL.out _ (below_drewN (Below.refl _ _) 1)).mono ?_); rintro r w4 ⟨rfl, hB4⟩; have HB4 := hide hB4; clear hB4)
   | (go_at_call 98; go_must (refine (HLO.out _ HB4.out).mono ?_); rintro r w5 ⟨rfl, hB5⟩; have HB5 := hide hB5; clear hB5))
 all_goals
  have HB6 := hide (HB1.out.trans (HB5.out.mono HB1.out.size))
  by_cases he : E = 0
  ·subst he
   have HX2 := hide (HX.out.trans (orE_zero rfl))
   have HMU := hide (must_nil w5)
   have HIT := hide (itoa_any V w5 (H.out.stdB HB6.out) (by omega) (by omega))
   have ez : errV 0 = .nilIface := rfl
   rw [ez]
   go_wp2_with fail
   refine HMU.out.mono ?_
   rintro r w6 ⟨rfl, rfl⟩
   go_wp2_with fail
   refine HIT.out.mono ?_
   rintro r w7 ⟨rfl, hB7⟩
   have HP := hide (H.out.fine HX2.out (HB6.out.trans (hB7.mono HB6.out.size)))
   clear hB7
   go_wp2_with fail
   go_ret
   exact HP.out
  ·have HX2 := hide (HX.out.trans (orE_bad he))
   have HMU := hide (must_errV E w5 (H.out.stdB HB6.out).err)
   have HE := hide he
   clear he
   go_wp2_with fail
   refine HMU.out.mono ?_
   rintro r w6 ⟨⟨h0, -⟩ | ⟨-, rfl⟩, hB6⟩
   ·exact absurd h0 HE.out
   have HP := hide (H.out.bad HX2.out (HB6.out.trans (hB6.mono HB6.out.size)))
   go_wp2_with fail
   exact ⟨rfl, HP.out⟩
set_option maxRecDepth 100000 in
set_option maxHeartbeats 4000000 in
theorem do_real (h : CmdIn w0 w g d L k A ws) (c : Nat) : Calls Tryz.prog 61 #[.pointer (some ⟨g, 0, none⟩), .slice A ws.length c] w (DoP w0 w g L (aReal d ws)) := by
 have HN := hide (h.nums (5) (by omega) (by omega) c)
 have H := hide h
 clear h
 go_enter Tryz.func61, Tryz.ntmps61
 go_wp2_with fail
 refine HN.out.mono ?_
 rintro r w1 ⟨⟨hn, rfl⟩ | ⟨l, v, hn, rfl, hown⟩, hB1⟩
 case inl =>
  have HP := hide (H.out.bad (x := aReal d ws) (withN_none hn) hB1)
  go_wp2_with fail
  exact ⟨rfl, HP.out⟩
 obtain ⟨x0, x1, x2, x3, x4, gk, cp, rfl, rfl, n0, n1, n2, n3, n4, hgk0, hgk1⟩ := dnum5 hown ((numbersF_len hn).1 (by omega))
 have HB1 := hide hB1; have HNU := hide hn; have HO := hide hown
 clear hB1 hn hown
 have HX : Hid (aReal d ws = orE (realE x0 x1 x2 x3 x4) (itoB (realN x0 x1 x2 x3 x4)) d) := hide (withN_some HNU.out)
 have HNN : Hid (∀ W, Below w1.heap.size w1 W → W.cell? ⟨gk, 4, none⟩ = some (.int .i64 x4)) := hide (fun W hB => (hB.cell (p := ⟨gk, 4, none⟩) hgk1).trans n4)
 have HCL : Hid (∀ W, Below w1.heap.size w1 W → Calls Tryz.prog 97 #[.slice (some ⟨gk, 0, none⟩) 5 cp] W fun e w' => e = .returned (clk x0 x1 x2 x3) ∧ Below w1.heap.size w1 w') := hide (fun W hB => (dclock_any ((hB.cell (p := ⟨gk, 0, none⟩) hgk1).trans n0) ((hB.cell (p := ⟨gk, 1, none⟩) hgk1).trans n1) ((hB.cell (p := ⟨gk, 2, none⟩) hgk1).trans n2) ((hB.cell (p := ⟨gk, 3, none⟩) hgk1).trans n3)).mono (fun e w' ⟨h1, h2⟩ => ⟨h1, hB.trans (h2.mono hB.size)⟩))
 have HLO : Hid (∀ W, Below w1.heap.size w1 W → Calls Tryz.prog 102 #[clk x0 x1 x2 x3, .int .i64 x4] W fun e w' => e = .returned (.tuple #[.int .i64 (realN x0 x1 x2 x3 x4), errV (realE x0 x1 x2 x3 x4)]) ∧ Below w1.heap.size w1 w') := hide (fun W hB => (real_any x0 x1 x2 x3 x4 W).mono (fun e w' ⟨h1, h2⟩ => ⟨h1, hB.trans (h2.mono hB.size)⟩))
 have hbd := realN_bd x0 x1 x2 x3 x4
 obtain ⟨E, hE⟩ : ∃ E, realE x0 x1 x2 x3 x4 = E := ⟨_, rfl⟩
 obtain ⟨V, hV⟩ : ∃ V, realN x0 x1 x2 x3 x4 = V := ⟨_, rfl⟩
 rw [hE, hV] at HX HLO
 rw [hV] at hbd
 clear hE hV HN
 go_wp2_with fail
 go_region_held3 (fun w' => w'.cell? ⟨gk, 4, none⟩ = some (.int .i64 x4)) (first | exact HNN.out _ (below_drewN (Below.refl _ _) 1) | exact HNN.out _ HB5.out | exact HNN.out _ HB4.out)
  (first
   | (go_at_call 97; go_must (refine (HCL.out _ (below_drewN (Below.refl _ _) 1)).mono ?_); rintro r w4 ⟨rfl, hB4⟩; have HB4 := hide hB4; clear hB4)
   | (go_at_call 102; go_must (refine (HLO.out _ HB4.out).mono ?_); rintro r w5 ⟨rfl, hB5⟩; have HB5 := hide hB5; clear hB5))
 all_goals
  have HB6 := hide (HB1.out.trans (HB5.out.mono HB1.out.size))
  by_cases he : E = 0
  ·subst he
   have HX2 := hide (HX.out.trans (orE_zero rfl))
   have HMU := hide (must_nil w5)
   have HIT := hide (itoa_any V w5 (H.out.stdB HB6.out) (by omega) (by omega))
   have ez : errV 0 = .nilIface := rfl
   rw [ez]
   go_wp2_with fail
   refine HMU.out.mono ?_
   rintro r w6 ⟨rfl, rfl⟩
   go_wp2_with fail
   refine HIT.out.mono ?_
   rintro r w7 ⟨rfl, hB7⟩
   have HP := hide (H.out.fine HX2.out (HB6.out.trans (hB7.mono HB6.out.size)))
   clear hB7
   go_wp2_with fail
   go_ret
   exact HP.out
  ·have HX2 := hide (HX.out.trans (orE_bad he))
   have HMU := hide (must_errV E w5 (H.out.stdB HB6.out).err)
   have HE := hide he
   clear he
   go_wp2_with fail
   refine HMU.out.mono ?_
   rintro r w6 ⟨⟨h0, -⟩ | ⟨-, rfl⟩, hB6⟩
   ·exact absurd h0 HE.out
   have HP := hide (H.out.bad HX2.out (HB6.out.trans (hB6.mono HB6.out.size)))
   go_wp2_with fail
   exact ⟨rfl, HP.out⟩
end
end
section
open Go Go.RowKit
section
variable {w0 w : World} {g k : Nat} {d : Dk} {L : Ly} {A : Option Addr} {ws : List ByteArray}
theorem getD_memD {l : List Int} {x : Int} (h : x ∈ l) : ∃ j, l.getD j 0 = x := by
 obtain ⟨j, hj, e⟩ := List.mem_iff_getElem.1 h
 exact ⟨j, by rw [List.getD_eq_getElem?_getD, List.getElem?_eq_getElem hj]; exact e⟩
set_option maxRecDepth 100000 in
set_option maxHeartbeats 4000000 in
theorem do_clocks (h : CmdIn w0 w g d L k A ws) (c : Nat) : Calls Tryz.prog 49 #[.pointer (some ⟨g, 0, none⟩), .slice A ws.length c] w (DoP w0 w g L (aClocks d ws)) := by
 have HN := hide (h.nums (0) (by omega) (by omega) c)
 have H := hide h
 clear h
 go_enter Tryz.func49, Tryz.ntmps49
 go_wp2_with fail
 refine HN.out.mono ?_
 rintro r w1 ⟨⟨hn, rfl⟩ | ⟨l, v, hn, rfl, hown⟩, hB1⟩
 case inl =>
  have HP := hide (H.out.bad (x := aClocks d ws) (withN_none hn) hB1)
  go_wp2_with fail
  exact ⟨rfl, HP.out⟩
 obtain ⟨Av, cv, rfl, -⟩ := own_at hown
 have HB1 := hide hB1; have HO := hide hown; have HNU := hide hn
 clear hB1 hown hn
 cases hd : d.c with
 | none =>
  have HR := hide (ready_bad w1 (H.out.stdB HB1.out).err g none true (H.out.noCell HB1.out hd) rfl)
  have HX : Hid (aClocks d ws = ⟨.error 6, d⟩) := hide ((withN_some HNU.out).trans (hasC_none hd))
  go_wp2_with fail
  refine HR.out.mono ?_
  rintro r w2 ⟨rfl, hB2⟩
  have HP := hide (H.out.bad HX.out (HB1.out.trans (hB2.mono HB1.out.size)))
  go_wp2_with fail
  exact ⟨rfl, HP.out⟩
 | some y =>
  obtain ⟨a, b, c10, hcv, hLS, hb0, hb1, hCl⟩ := H.out.clCell HB1.out hd
  have HR := hide (ready_ok w1 g _ true c10 rfl)
  have HD := hide (H.out.dk.below HB1.out)
  obtain ⟨hck, hok, hrd, hfy, hli, hprb⟩ := H.out.ok.clu y hd
  have hp := PlOk.of hck
  have hn1 := hp.n1
  have hn16 := hp.n16
  have HCK := hide (clocks_any hCl hp hok.len)
  have HX : Hid (aClocks d ws = ⟨.ok (tellB y.2.ck), d⟩) := hide ((withN_some HNU.out).trans (hasC_some hd))
  have HJ : Hid (∀ W A cp, Below w1.heap.size w1 W → IsL W A y.2.ck → Calls Tryz.prog 95 #[.slice A d.p.nd.toNat cp] W fun e w' => e = .returned (.string (tellB y.2.ck)) ∧ Below W.heap.size W w') := hide (fun W A cp hB hI => by
   have := join_any A cp y.2.ck W ((H.out.stdB HB1.out).next hB) hI (by rw [hok.len]; omega) (by rw [hok.len]; omega) (fun x hx => by
    obtain ⟨j, rfl⟩ := getD_memD hx
    have := hok.ck j
    omega)
   rw [hok.len] at this
   exact this)
  have c10' := c10
  clear hcv hLS hb0 hb1 hCl hck hok hrd hfy hli hprb hp c10'
  go_wp2_with fail
  refine HR.out.mono ?_
  rintro r w2 ⟨rfl, rfl⟩
  go_wp2_with fail
  refine HCK.out.mono ?_
  rintro r w3 ⟨⟨A3, cp3, rfl, hI3⟩, hB3⟩
  have HJ3 := hide (HJ.out w3 A3 cp3 hB3 hI3)
  have HB3 := hide (HB1.out.trans (hB3.mono HB1.out.size))
  clear hB3 hI3 c10
  go_wp2_with fail
  refine HJ3.out.mono ?_
  rintro r w4 ⟨rfl, hB4⟩
  have HP := hide (H.out.fine HX.out (HB3.out.trans (hB4.mono HB3.out.size)))
  clear hB4
  go_wp2_with fail
  go_ret
  exact HP.out
set_option maxRecDepth 100000 in
set_option maxHeartbeats 4000000 in
theorem do_spread (h : CmdIn w0 w g d L k A ws) (c : Nat) : Calls Tryz.prog 65 #[.pointer (some ⟨g, 0, none⟩), .slice A ws.length c] w (DoP w0 w g L (aSpread d ws)) := by
 have HN := hide (h.nums (0) (by omega) (by omega) c)
 have H := hide h
 clear h
 go_enter Tryz.func65, Tryz.ntmps65
 go_wp2_with fail
 refine HN.out.mono ?_
 rintro r w1 ⟨⟨hn, rfl⟩ | ⟨l, v, hn, rfl, hown⟩, hB1⟩
 case inl =>
  have HP := hide (H.out.bad (x := aSpread d ws) (withN_none hn) hB1)
  go_wp2_with fail
  exact ⟨rfl, HP.out⟩
 obtain ⟨Av, cv, rfl, -⟩ := own_at hown
 have HB1 := hide hB1; have HO := hide hown; have HNU := hide hn
 clear hB1 hown hn
 cases hd : d.c with
 | none =>
  have HR := hide (ready_bad w1 (H.out.stdB HB1.out).err g none true (H.out.noCell HB1.out hd) rfl)
  have HX : Hid (aSpread d ws = ⟨.error 6, d⟩) := hide ((withN_some HNU.out).trans (hasC_none hd))
  go_wp2_with fail
  refine HR.out.mono ?_
  rintro r w2 ⟨rfl, hB2⟩
  have HP := hide (H.out.bad HX.out (HB1.out.trans (hB2.mono HB1.out.size)))
  go_wp2_with fail
  exact ⟨rfl, HP.out⟩
 | some y =>
  obtain ⟨a, b, c10, hcv, hLS, hb0, hb1, hCl⟩ := H.out.clCell HB1.out hd
  have HR := hide (ready_ok w1 g _ true c10 rfl)
  have HD := hide (H.out.dk.below HB1.out)
  obtain ⟨hck, hok, hrd, hfy, hli, hprb⟩ := H.out.ok.clu y hd
  have hp := PlOk.of hck
  have HSP := hide (spr_any hCl hp hok.len hok.ck hfy hli)
  have HBD : Hid (∀ x z : Int, IsTop (honL y.1 y.2.ck d.p.nd.toNat) x → IsLow (honL y.1 y.2.ck d.p.nd.toNat) z → x - z = spF d.p y.1 y.2) := hide (fun x z h1 h2 => SpIs.eq ⟨x, z, rfl, h1, h2⟩)
  have HX : Hid (aSpread d ws = ⟨.ok (itoB (spF d.p y.1 y.2)), d⟩) := hide ((withN_some HNU.out).trans (hasC_some hd))
  have HRG : Hid (∀ x, IsTop (honL y.1 y.2.ck d.p.nd.toNat) x → -274877906944 ≤ x ∧ x ≤ 274877906944) := hide (fun x ⟨⟨j, hj, e⟩, _⟩ => by
   have hm : x ∈ honL y.1 y.2.ck d.p.nd.toNat := by
    rw [← e, List.getD_eq_getElem?_getD, List.getElem?_eq_getElem hj]
    exact List.getElem_mem _
   obtain ⟨q, -, -, rfl⟩ := honL_mem2 hm
   exact hok.ck q)
  have HRL : Hid (∀ x, IsLow (honL y.1 y.2.ck d.p.nd.toNat) x → -274877906944 ≤ x ∧ x ≤ 274877906944) := hide (fun x ⟨⟨j, hj, e⟩, _⟩ => by
   have hm : x ∈ honL y.1 y.2.ck d.p.nd.toNat := by
    rw [← e, List.getD_eq_getElem?_getD, List.getElem?_eq_getElem hj]
    exact List.getElem_mem _
   obtain ⟨q, -, -, rfl⟩ := honL_mem2 hm
   exact hok.ck q)
  clear hcv hLS hb0 hb1 hCl hck hok hrd hfy hli hprb hp
  go_wp2_with fail
  refine HR.out.mono ?_
  rintro r w2 ⟨rfl, rfl⟩
  go_wp2_with fail
  refine HSP.out.mono ?_
  rintro r w3 ⟨⟨x, z, rfl, h1, h2⟩, hB3⟩
  have HB3 := hide (HB1.out.trans (hB3.mono HB1.out.size))
  have r1 := HRG.out x h1
  have r2 := HRL.out z h2
  rw [HBD.out x z h1 h2]
  have r3 : spF d.p y.1 y.2 = x - z := (HBD.out x z h1 h2).symm
  have HIT := hide (itoa_any (spF d.p y.1 y.2) w3 (H.out.stdB HB3.out) (by omega) (by omega))
  clear hB3 h1 h2 c10 r1 r2 r3
  go_wp2_with fail
  refine HIT.out.mono ?_
  rintro r w4 ⟨rfl, hB4⟩
  have HP := hide (H.out.fine HX.out (HB3.out.trans (hB4.mono HB3.out.size)))
  clear hB4
  go_wp2_with fail
  go_ret
  exact HP.out
end
end
section
open Go Go.RowKit
section
variable {w0 w : World} {g k : Nat} {d : Dk} {L : Ly} {A : Option Addr} {ws : List ByteArray}
set_option maxRecDepth 100000 in
set_option maxHeartbeats 4000000 in
theorem do_members (h : CmdIn w0 w g d L k A ws) (c : Nat) : Calls Tryz.prog 55 #[.pointer (some ⟨g, 0, none⟩), .slice A ws.length c] w (DoP w0 w g L (aMembers d ws)) := by
 have HN := hide (h.nums (1) (by omega) (by omega) c)
 have H := hide h
 clear h
 go_enter Tryz.func55, Tryz.ntmps55
 go_wp2_with fail
 refine HN.out.mono ?_
 rintro r w1 ⟨⟨hn, rfl⟩ | ⟨l, v, hn, rfl, hown⟩, hB1⟩
 case inl =>
  have HP := hide (H.out.bad (x := aMembers d ws) (withN_none hn) hB1)
  go_wp2_with fail
  exact ⟨rfl, HP.out⟩
 obtain ⟨x0, gk, cp, rfl, rfl, n0, hgk0, hgk1⟩ := dnum1 hown ((numbersF_len hn).1 (by omega))
 have HB1 := hide hB1; have HNU := hide hn; have HO := hide hown
 clear hB1 hn hown
 cases hd : d.c with
 | none =>
  have HR := hide (ready_bad w1 (H.out.stdB HB1.out).err g none true (H.out.noCell HB1.out hd) rfl)
  have HX : Hid (aMembers d ws = ⟨.error 6, d⟩) := hide ((withN_some HNU.out).trans (hasC_none hd))
  go_wp2_with fail
  refine HR.out.mono ?_
  rintro r w2 ⟨rfl, hB2⟩
  have HP := hide (H.out.bad HX.out (HB1.out.trans (hB2.mono HB1.out.size)))
  go_wp2_with fail
  exact ⟨rfl, HP.out⟩
 | some y =>
  obtain ⟨a, b, c10, hcv, hLS, hb0, hb1, hCl⟩ := H.out.clCell HB1.out hd
  have HR := hide (ready_ok w1 g _ true c10 rfl)
  have HD := hide (H.out.dk.below HB1.out)
  obtain ⟨hck, hok, hrd, hfy, hli, hprb⟩ := H.out.ok.clu y hd
  have hp := PlOk.of hck
  have hn16 := hp.n16
  have HNN : Hid (∀ W, Below w1.heap.size w1 W → W.cell? ⟨g, 10, none⟩ = some (.pointer (some ⟨a.g, 0, none⟩)) ∧ W.cell? ⟨gk, 0, none⟩ = some (.int .i64 x0)) := hide (fun W hB => ⟨(hB.cell (p := ⟨g, 10, none⟩) HD.out.blk.lt).trans c10, (hB.cell (p := ⟨gk, 0, none⟩) hgk1).trans n0⟩)
  by_cases hbad : x0 < 0 ∨ d.p.nd ≤ x0
  ·have HX : Hid (aMembers d ws = ⟨.error 2, d⟩) := hide ((withN_some HNU.out).trans ((hasC_some hd).trans (if_pos hbad)))
   have HME : Hid (∀ W, Below w1.heap.size w1 W → Calls Tryz.prog 99 #[.pointer (some ⟨a.g, 0, none⟩), .int .i64 x0] W fun e w' => e = .returned (.tuple #[.int .i64 0, .bool false, errV 2]) ∧ Below w1.heap.size w1 w') := hide (fun W hB => by
    have hc := hCl.below hB
    by_cases h0 : x0 < 0
    ·exact (members_neg hc x0 h0).mono (fun e w' ⟨h1, h2⟩ => ⟨h1, by rw [h2]; exact hB⟩)
    ·exact (members_out hc x0 (by omega) (by omega)).mono (fun e w' ⟨h1, h2⟩ => ⟨h1, by rw [h2]; exact hB⟩))
   clear hcv hLS hb0 hb1 hCl hck hok hrd hfy hli hprb hp hbad
   go_wp2_with fail
   refine HR.out.mono ?_
   rintro r w2 ⟨rfl, rfl⟩
   go_wp2_with fail
   go_region_held3 (fun w' => w'.cell? ⟨g, 10, none⟩ = some (.pointer (some ⟨a.g, 0, none⟩)) ∧ w'.cell? ⟨gk, 0, none⟩ = some (.int .i64 x0)) (first | exact HNN.out _ (below_drewN (Below.refl _ _) 1) | exact HNN.out _ HB5.out)
    (first | (go_at_call 99; go_must (refine (HME.out _ (below_drewN (Below.refl _ _) 1)).mono ?_); rintro r w5 ⟨rfl, hB5⟩; have HB5 := hide hB5; clear hB5))
   all_goals
    have HB6 := hide (HB1.out.trans (HB5.out.mono HB1.out.size))
    have HMU := hide (must_errno 2 w5 (H.out.stdB HB6.out).err)
    have ez : errV 2 = .iface 61 (.int .i64 2) := rfl
    rw [ez]
    go_wp2_with fail
    refine HMU.out.mono ?_
    rintro r w6 ⟨rfl, hB6⟩
    have HP := hide (H.out.bad HX.out (HB6.out.trans (hB6.mono HB6.out.size)))
    go_wp2_with fail
    exact ⟨rfl, HP.out⟩
  ·obtain ⟨i, rfl⟩ := Int.eq_ofNat_of_zero_le (show 0 ≤ x0 by omega)
   have HX : Hid (aMembers d ws = ⟨.ok (if (y.2.mm i).fz then itoB ((y.2.mm i).m : Nat) ++ ⟨#[32, 102, 114, 111, 122, 101, 110]⟩ else itoB ((y.2.mm i).m : Nat)), d⟩) := hide ((withN_some HNU.out).trans ((hasC_some hd).trans (if_neg hbad)))
   obtain ⟨M, hM⟩ : ∃ M, (y.2.mm i).m = M := ⟨_, rfl⟩
   obtain ⟨F, hF⟩ : ∃ F, (y.2.mm i).fz = F := ⟨_, rfl⟩
   have hMb : M < 65536 := by rw [← hM]; exact (hok.mm i).1
   have HME : Hid (∀ W, Below w1.heap.size w1 W → Calls Tryz.prog 99 #[.pointer (some ⟨a.g, 0, none⟩), .int .i64 (i : Nat)] W fun e w' => e = .returned (.tuple #[.int .i64 (M : Nat), .bool F, .nilIface]) ∧ Below w1.heap.size w1 w') := hide (fun W hB => by
    have := members_of (hCl.below hB) hp i (by omega)
    rw [hM, hF] at this
    exact this.mono (fun e w' ⟨h1, h2⟩ => ⟨h1, hB.trans (h2.mono hB.size)⟩))
   rw [hM, hF] at HX
   clear hcv hLS hb0 hb1 hCl hck hok hrd hfy hli hprb hp hbad hM hF
   go_wp2_with fail
   refine HR.out.mono ?_
   rintro r w2 ⟨rfl, rfl⟩
   go_wp2_with fail
   go_region_held3 (fun w' => w'.cell? ⟨g, 10, none⟩ = some (.pointer (some ⟨a.g, 0, none⟩)) ∧ w'.cell? ⟨gk, 0, none⟩ = some (.int .i64 (i : Nat))) (first | exact HNN.out _ (below_drewN (Below.refl _ _) 1) | exact HNN.out _ HB5.out)
    (first | (go_at_call 99; go_must (refine (HME.out _ (below_drewN (Below.refl _ _) 1)).mono ?_); rintro r w5 ⟨rfl, hB5⟩; have HB5 := hide hB5; clear hB5))
   all_goals
    have HB6 := hide (HB1.out.trans (HB5.out.mono HB1.out.size))
    have HMU := hide (must_nil w5)
    have HIT := hide (itoa_any (M : Nat) w5 (H.out.stdB HB6.out) (by omega) (by omega))
    have hsz : ¬ 9223372036854775807 < (itoB (M : Nat)).size + 7 := by have := itoB_size (M : Nat) (by omega) (by omega); omega
    cases F
    all_goals
     go_wp2_with fail
     refine HMU.out.mono ?_
     rintro r w6 ⟨rfl, rfl⟩
     go_wp2_with fail
     refine HIT.out.mono ?_
     rintro r w7 ⟨rfl, hB7⟩
     have HP := hide (H.out.fine HX.out (HB6.out.trans (hB7.mono HB6.out.size)))
     clear hB7
     go_wp2_with fail
     go_ret
     exact HP.out
end
end
section
open Go Go.RowKit
section
variable {w0 w : World} {g k : Nat} {d : Dk} {L : Ly} {A : Option Addr} {ws : List ByteArray}
set_option maxRecDepth 100000 in
set_option maxHeartbeats 4000000 in
theorem do_receive (h : CmdIn w0 w g d L k A ws) (c : Nat) : Calls Tryz.prog 62 #[.pointer (some ⟨g, 0, none⟩), .slice A ws.length c] w (DoP w0 w g L (aRecv d ws)) := by
 have HN := hide (h.nums (2) (by omega) (by omega) c)
 have H := hide h
 clear h
 go_enter Tryz.func62, Tryz.ntmps62
 go_wp2_with fail
 refine HN.out.mono ?_
 rintro r w1 ⟨⟨hn, rfl⟩ | ⟨l, v, hn, rfl, hown⟩, hB1⟩
 case inl =>
  have HP := hide (H.out.bad (x := aRecv d ws) (withN_none hn) hB1)
  go_wp2_with fail
  exact ⟨rfl, HP.out⟩
 obtain ⟨x0, x1, gk, cp, rfl, rfl, n0, n1, hgk0, hgk1⟩ := dnum2 hown ((numbersF_len hn).1 (by omega))
 have HB1 := hide hB1; have HNU := hide hn; have HO := hide hown
 clear hB1 hn hown
 cases hd : d.c with
 | none =>
  have HR := hide (ready_bad w1 (H.out.stdB HB1.out).err g none true (H.out.noCell HB1.out hd) rfl)
  have HX : Hid (aRecv d ws = ⟨.error 6, d⟩) := hide ((withN_some HNU.out).trans (hasC_none hd))
  go_wp2_with fail
  refine HR.out.mono ?_
  rintro r w2 ⟨rfl, hB2⟩
  have HP := hide (H.out.bad HX.out (HB1.out.trans (hB2.mono HB1.out.size)))
  go_wp2_with fail
  exact ⟨rfl, HP.out⟩
 | some y =>
  obtain ⟨a, b, c10, hcv, hLS, hb0, hb1, hCl⟩ := H.out.clCell HB1.out hd
  have HR := hide (ready_ok w1 g _ true c10 rfl)
  have HD := hide (H.out.dk.below HB1.out)
  obtain ⟨hck, hok, hrd, hfy, hli, hprb⟩ := H.out.ok.clu y hd
  have hp := PlOk.of hck
  have hn16 := hp.n16
  obtain ⟨AS, cs, AL, cl, e6, e7, -, l2, -⟩ := HD.out.plan_at H.out.ok.wn
  have hlt : g < w1.heap.size := HD.out.blk.lt
  have HNN : Hid (∀ W : World, W.heap[g]? = w1.heap[g]? → W.heap[gk]? = w1.heap[gk]? → W.cell? ⟨g, 10, none⟩ = some (.pointer (some ⟨a.g, 0, none⟩)) ∧ W.cell? ⟨gk, 0, none⟩ = some (.int .i64 x0) ∧ W.cell? ⟨gk, 1, none⟩ = some (.int .i64 x1)) := hide (fun (W : World) h1 h2 => ⟨(World.cell?_of_block (a := ⟨g, 10, none⟩) h1).trans c10, (World.cell?_of_block (a := ⟨gk, 0, none⟩) h2).trans n0, (World.cell?_of_block (a := ⟨gk, 1, none⟩) h2).trans n1⟩)
  have hgF : ¬ Fmy (shape a (fullN d.p) d.p ⟨L.v 0, L.v 1, .slice none 0 0⟩ y.1 y.2) g := by rw [← hLS]; exact H.out.dk.offF
  have hkF : ¬ Fmy (shape a (fullN d.p) d.p ⟨L.v 0, L.v 1, .slice none 0 0⟩ y.1 y.2) gk := by
   rw [← hLS]
   intro hf
   have := (H.out.dk.lo (.inr (.inr hf))).2
   omega
  have HEND : Hid (∀ (W : World) (c' : Cl), ClTo w1 b a (fullN d.p) d.p ⟨L.v 0, L.v 1, .slice none 0 0⟩ y.1 y.2 W c' → DkTo w0 w g L W { d with c := some (y.1, c') } ∧ W.heap[g]? = w1.heap[g]? ∧ W.heap[gk]? = w1.heap[gk]? ∧ StdOk W) := hide (fun W c' ht => by
   have h1 := DkTo.after HB1.out (HD.out.clus (fy := y.1) (c := y.2) hd hLS hcv hb0 hb1 ht)
   obtain ⟨a', _, _, hk⟩ := ht
   refine ⟨h1, hk.block g hlt hgF, hk.block gk hgk1 hkF, ?_⟩
   obtain ⟨L2, h2, -⟩ := h1
   exact H.out.std.below H.out.std.big h2.low)
  have HRE : Hid (∃ (E : Int) (s : ByteArray) (c' : Cl), aRecv d ws = ⟨if E = 0 then .ok (isB s) else .error E, { d with c := some (y.1, c') }⟩ ∧ s.size ≤ 1000 ∧ (E = 0 ∨ E = 2 ∨ E = 8) ∧
   ∀ W : World, (∃ n, W = w1.drewN n) → Calls Tryz.prog 103 #[.pointer (some ⟨a.g, 0, none⟩), .int .i64 x0, .int .i64 x1] W fun e w' => e = .returned (.tuple #[.string s, errV E]) ∧ ClTo w1 b a (fullN d.p) d.p ⟨L.v 0, L.v 1, .slice none 0 0⟩ y.1 y.2 w' c') := hide (by
   have hA : aRecv d ws = (if x0 < 0 ∨ d.p.nd ≤ x0 ∨ x1 < 0 then (⟨.error 2, d⟩ : Ans) else match d.p.lk[x1.toNat]? with
    | none => ⟨.error 2, d⟩
    | some l => if bitB l.t x0.toNat = false then ⟨.error 2, d⟩ else match (y.2.pr x1.toNat x0.toNat).q with
     | [] => ⟨.error 8, d⟩
     | x :: _ => ⟨.ok (isB x), { d with c := some (y.1, clRecv x1.toNat x0.toNat y.2) }⟩) := (withN_some HNU.out).trans (hasC_some hd)
   have hself : { d with c := some (y.1, y.2) } = d := by
    have : d.c = some (y.1, y.2) := hd
    cases d
    simp only at this
    rw [this]
   have hout : ∀ n, (x0 < 0 ∨ d.p.nd ≤ x0 ∨ x1 < 0 ∨ (d.p.lk.length : Int) ≤ x1) → Calls Tryz.prog 103 #[.pointer (some ⟨a.g, 0, none⟩), .int .i64 x0, .int .i64 x1] (w1.drewN n) fun e w' => e = .returned (.tuple #[.string ⟨#[]⟩, errV 2]) ∧ ClTo w1 b a (fullN d.p) d.p ⟨L.v 0, L.v 1, .slice none 0 0⟩ y.1 y.2 w' y.2 := fun n ho => by
    have hB := below_drewN (Below.refl w1.heap.size w1) n
    exact (crecv_out (hCl.below hB) hp x0 x1 ho).mono (fun e w' ⟨h1, h2⟩ => ⟨h1, by subst h2; exact ClTo.refl hCl hB⟩)
   rw [hA]
   by_cases h0 : x0 < 0 ∨ d.p.nd ≤ x0 ∨ x1 < 0
   ·rw [if_pos h0]
    exact ⟨2, ⟨#[]⟩, y.2, by rw [hself]; rfl, by decide, .inr (.inl rfl), fun W ⟨n, e⟩ => by subst e; exact hout n (by omega)⟩
   rw [if_neg h0]
   cases hl : d.p.lk[x1.toNat]? with
   | none =>
    have : d.p.lk.length ≤ x1.toNat := List.getElem?_eq_none_iff.1 hl
    exact ⟨2, ⟨#[]⟩, y.2, by rw [hself]; rfl, by decide, .inr (.inl rfl), fun W ⟨n, e⟩ => by subst e; exact hout n (by omega)⟩
   | some l =>
    obtain ⟨i, rfl⟩ := Int.eq_ofNat_of_zero_le (show 0 ≤ x0 by omega)
    obtain ⟨kk, rfl⟩ := Int.eq_ofNat_of_zero_le (show 0 ≤ x1 by omega)
    simp only [Int.toNat_natCast] at hl ⊢
    have hrc : ∀ n, _ := fun n => crecv_gen (w1.drewN n) AL cl e7 (hCl.below (below_drewN (Below.refl w1.heap.size w1) n)) hp hok (l2.below (below_drewN (Below.refl w1.heap.size w1) n)) hb1 kk i l hl (by omega)
    have htr : ∀ n w' c', ClTo (w1.drewN n) b a (fullN d.p) d.p ⟨L.v 0, L.v 1, .slice none 0 0⟩ y.1 y.2 w' c' → ClTo w1 b a (fullN d.p) d.p ⟨L.v 0, L.v 1, .slice none 0 0⟩ y.1 y.2 w' c' := fun n w' c' h => ClTo.trans (.of_below (below_drewN (Below.refl w1.heap.size w1) n)) rfl h
    by_cases hb : bitB l.t i = false
    ·rw [if_pos hb]
     refine ⟨2, ⟨#[]⟩, y.2, by rw [hself]; rfl, by decide, .inr (.inl rfl), fun W ⟨n, e⟩ => ?_⟩
     subst e
     refine (hrc n).mono ?_
     rintro e w' (⟨_, he, ht⟩ | ⟨h, _⟩ | ⟨h, _⟩)
     ·exact ⟨he, htr n _ _ ht⟩
     ·rw [hb] at h; cases h
     ·rw [hb] at h; cases h
    ·rw [if_neg hb]
     cases hq : (y.2.pr kk i).q with
     | nil =>
      refine ⟨8, ⟨#[]⟩, y.2, by rw [hself]; rfl, by decide, .inr (.inr rfl), fun W ⟨n, e⟩ => ?_⟩
      subst e
      refine (hrc n).mono ?_
      rintro e w' (⟨h, _⟩ | ⟨_, _, he, ht⟩ | ⟨_, s, q, h, _⟩)
      ·exact absurd h hb
      ·exact ⟨he, htr n _ _ ht⟩
      ·rw [hq] at h; cases h
     | cons s q =>
      refine ⟨0, s, clRecv kk i y.2, rfl, ?_, .inl rfl, fun W ⟨n, e⟩ => ?_⟩
      ·have := hprb kk i s (by rw [hq]; simp)
       omega
      ·subst e
       refine (hrc n).mono ?_
       rintro e w' (⟨h, _⟩ | ⟨_, h, _⟩ | ⟨_, s2, q2, h, he, ht⟩)
       ·exact absurd h hb
       ·rw [hq] at h; cases h
       ·rw [hq] at h
        cases h
        exact ⟨he, htr n _ _ ht⟩)
  obtain ⟨E, s, c', hX, hs, hE, hcall⟩ := HRE.out
  have HX := hide hX; have HCA := hide hcall
  clear HRE hX hcall hcv hLS hb0 hb1 hCl hck hok hrd hfy hli hprb hp e6 e7 l2 hgF hkF
  go_wp2_with fail
  refine HR.out.mono ?_
  rintro r w2 ⟨rfl, rfl⟩
  have hsz : ¬ 9223372036854775807 < 3 + s.size := by omega
  go_wp2_with fail
  go_region_held3 (fun w' => w'.cell? ⟨g, 10, none⟩ = some (.pointer (some ⟨a.g, 0, none⟩)) ∧ w'.cell? ⟨gk, 0, none⟩ = some (.int .i64 x0) ∧ w'.cell? ⟨gk, 1, none⟩ = some (.int .i64 x1)) (first | exact HNN.out _ rfl rfl | exact HNN.out _ HT5.out.2.1 HT5.out.2.2.1)
   (first | (go_at_call 103; go_must (refine (HCA.out _ ⟨1, rfl⟩).mono ?_); rintro r w5 ⟨rfl, ht5⟩; have HT5 := hide (HEND.out w5 c' ht5); clear ht5))
  all_goals
   have HMU0 := hide (must_nil w5)
   have HMU2 := hide (must_errno 2 w5 HT5.out.2.2.2.err)
   have HMU8 := hide (must_errno 8 w5 HT5.out.2.2.2.err)
   have ez : errV 0 = .nilIface := rfl
   have ez2 : errV 2 = .iface 61 (.int .i64 2) := rfl
   have ez8 : errV 8 = .iface 61 (.int .i64 8) := rfl
   rcases hE with rfl | rfl | rfl
   ·have HP : Hid (DoP w0 w g L (aRecv d ws) (.returned (.string (isB s))) w5) := hide (by rw [HX.out]; exact ⟨rfl, HT5.out.1⟩)
    rw [ez]
    clear ez2 ez8
    go_wp2_with fail
    refine HMU0.out.mono ?_
    rintro r w6 ⟨rfl, rfl⟩
    go_wp2_with fail
    go_ret
    exact HP.out
   ·rw [ez2]
    clear ez ez8
    go_wp2_with fail
    refine HMU2.out.mono ?_
    rintro r w6 ⟨rfl, hB6⟩
    have HP : Hid (DoP w0 w g L (aRecv d ws) (.panicked (wrongP 2)) w6) := hide (by rw [HX.out]; exact ⟨rfl, HT5.out.1.below hB6⟩)
    go_wp2_with fail
    exact ⟨rfl, HP.out⟩
   ·rw [ez8]
    clear ez ez2
    go_wp2_with fail
    refine HMU8.out.mono ?_
    rintro r w6 ⟨rfl, hB6⟩
    have HP : Hid (DoP w0 w g L (aRecv d ws) (.panicked (wrongP 8)) w6) := hide (by rw [HX.out]; exact ⟨rfl, HT5.out.1.below hB6⟩)
    go_wp2_with fail
    exact ⟨rfl, HP.out⟩
end
end
section
open Go Go.RowKit
section
variable {w0 w : World} {g k : Nat} {d : Dk} {L : Ly} {A : Option Addr} {ws : List ByteArray}
set_option maxRecDepth 100000 in
set_option maxHeartbeats 4000000 in
theorem do_put (h : CmdIn w0 w g d L k A ws) (c : Nat) (hcap : ws.length ≤ c) : Calls Tryz.prog 59 #[.pointer (some ⟨g, 0, none⟩), .slice A ws.length c] w (DoP w0 w g L (aPut d ws)) := by
 by_cases hw : ws.length = 2
 case neg =>
  have H := hide h
  have HX : Hid (aPut d ws = ⟨.error 3, d⟩) := hide (if_pos hw)
  have HMU := hide (must_errno 3 w h.stdw.err)
  obtain ⟨q, hq⟩ : ∃ q, ws.length = q := ⟨_, rfl⟩
  rw [hq] at hw ⊢
  have d1 : ((q : Int) != 2) = true := bne_iff_ne.2 (by omega)
  have d2 : decide ((q : Int) = 2) = false := decide_eq_false (by omega)
  have d3 : ¬ (q : Int) = 2 := by omega
  clear h hq hcap hw
  go_enter Tryz.func59, Tryz.ntmps59
  go_wp2_with fail
  refine HMU.out.mono ?_
  rintro r w2 ⟨rfl, hB2⟩
  have HP := hide (H.out.bad HX.out hB2)
  go_wp2_with fail
  exact ⟨rfl, HP.out⟩
 obtain ⟨s0, s1, rfl⟩ := list2 hw
 have HN := hide (numbers_any A c [s0] 1 w h.stdw (fun j hj => by
  obtain rfl : j = 0 := by simpa using hj
  exact h.at_ 0 (by simp)) (by simp) (fun j => by
   match j with
   | 0 => exact h.wz 0
   | j + 1 => exact Nat.zero_le _) (by omega) (by omega))
 have H := hide h
 obtain ⟨bw, ow, rfl, hs1⟩ := h.at_ 1 (by simp)
 have hs1 : w.cell? ⟨bw, ow + 1, none⟩ = some (.string s1) := hs1
 have hbw : bw < w.heap.size := World.block_lt_of_cell? _ _ hs1
 have hz1 : s1.size ≤ 100000 := h.wz 1
 have hcw : (1 : Int) ≤ (c : Int) := by simp at hcap; omega
 have hcw2 : 1 ≤ c := by simp at hcap; omega
 have HPN : Hid (∀ f : List Int → Ans, withN d ([s0, s1].take 1) 1 f = withN d [s0] 1 f) := hide (fun f => rfl)
 clear h hw hcap
 go_enter Tryz.func59, Tryz.ntmps59
 go_wp2_with fail
 refine HN.out.mono ?_
 rintro r w1 ⟨⟨hn, rfl⟩ | ⟨l, v, hn, rfl, hown⟩, hB1⟩
 case inl =>
  have HP := hide (H.out.bad (x := aPut d [s0, s1]) ((if_neg (by simp)).trans (withN_none hn)) hB1)
  go_wp2_with fail
  exact ⟨rfl, HP.out⟩
 obtain ⟨x0, gk, cp, rfl, rfl, n0, hgk0, hgk1⟩ := dnum1 hown ((numbersF_len hn).1 (by omega))
 have HB1 := hide hB1; have HO := hide hown
 have HNU := hide (show ∀ f : List Int → Ans, withN d ([s0, s1].take 1) 1 f = f [x0] from fun f => withN_some hn)
 have hs2 := (hB1.cell (p := ⟨bw, ow + 1, none⟩) hbw).trans hs1
 clear hB1 hn hown hs1 HN
 cases hd : d.c with
 | none =>
  have HR := hide (ready_bad w1 (H.out.stdB HB1.out).err g none true (H.out.noCell HB1.out hd) rfl)
  have HX : Hid (aPut d [s0, s1] = ⟨.error 6, d⟩) := hide ((if_neg (by simp)).trans ((HNU.out _).trans (hasC_none hd)))
  go_wp2_with fail
  refine HR.out.mono ?_
  rintro r w2 ⟨rfl, hB2⟩
  have HP := hide (H.out.bad HX.out (HB1.out.trans (hB2.mono HB1.out.size)))
  go_wp2_with fail
  exact ⟨rfl, HP.out⟩
 | some y =>
  obtain ⟨a, b, c10, hcv, hLS, hb0, hb1, hCl⟩ := H.out.clCell HB1.out hd
  have HR := hide (ready_ok w1 g _ true c10 rfl)
  have HD := hide (H.out.dk.below HB1.out)
  obtain ⟨hck, hok, hrd, hfy, hli, hprb⟩ := H.out.ok.clu y hd
  have hp := PlOk.of hck
  have hlt : g < w1.heap.size := HD.out.blk.lt
  have hbw1 : bw < w1.heap.size := Nat.lt_of_lt_of_le hbw HB1.out.size
  have HNN : Hid (∀ W : World, W.heap[g]? = w1.heap[g]? → W.heap[gk]? = w1.heap[gk]? → W.heap[bw]? = w1.heap[bw]? → W.cell? ⟨g, 10, none⟩ = some (.pointer (some ⟨a.g, 0, none⟩)) ∧ W.cell? ⟨gk, 0, none⟩ = some (.int .i64 x0) ∧ W.cell? ⟨bw, ow + 1, none⟩ = some (.string s1)) := hide (fun W h1 h2 h3 => ⟨(World.cell?_of_block (a := ⟨g, 10, none⟩) h1).trans c10, (World.cell?_of_block (a := ⟨gk, 0, none⟩) h2).trans n0, (World.cell?_of_block (a := ⟨bw, ow + 1, none⟩) h3).trans hs2⟩)
  have hgF : ¬ Fmy (shape a (fullN d.p) d.p ⟨L.v 0, L.v 1, .slice none 0 0⟩ y.1 y.2) g := by rw [← hLS]; exact H.out.dk.offF
  have hkF : ¬ Fmy (shape a (fullN d.p) d.p ⟨L.v 0, L.v 1, .slice none 0 0⟩ y.1 y.2) gk := by
   rw [← hLS]
   intro hf
   have := (H.out.dk.lo (.inr (.inr hf))).2
   omega
  have hwF : ¬ Fmy (shape a (fullN d.p) d.p ⟨L.v 0, L.v 1, .slice none 0 0⟩ y.1 y.2) bw := by
   rw [← hLS]
   intro hf
   exact H.out.ao _ rfl (.inr (.inr hf))
  have HEND : Hid (∀ (W : World) (c' : Cl), ClTo w1 b a (fullN d.p) d.p ⟨L.v 0, L.v 1, .slice none 0 0⟩ y.1 y.2 W c' → DkTo w0 w g L W { d with c := some (y.1, c') } ∧ W.heap[g]? = w1.heap[g]? ∧ W.heap[gk]? = w1.heap[gk]? ∧ W.heap[bw]? = w1.heap[bw]? ∧ StdOk W) := hide (fun W c' ht => by
   have h1 := DkTo.after HB1.out (HD.out.clus (fy := y.1) (c := y.2) hd hLS hcv hb0 hb1 ht)
   obtain ⟨a', _, _, hk⟩ := ht
   refine ⟨h1, hk.block g hlt hgF, hk.block gk hgk1 hkF, hk.block bw hbw1 hwF, ?_⟩
   obtain ⟨L2, h2, -⟩ := h1
   exact H.out.std.below H.out.std.big h2.low)
  have HRE : Hid (∃ (E : Int) (c' : Cl), aPut d [s0, s1] = ⟨if E = 0 then .ok ⟨#[112, 117, 116]⟩ else .error E, { d with c := some (y.1, c') }⟩ ∧ (E = 0 ∨ E = 2 ∨ E = 4 ∨ E = 12) ∧
   ∀ W : World, (∃ n, W = w1.drewN n) → Calls Tryz.prog 101 #[.pointer (some ⟨a.g, 0, none⟩), .int .i64 x0, .string s1] W fun e w' => e = .returned (errV E) ∧ ClTo w1 b a (fullN d.p) d.p ⟨L.v 0, L.v 1, .slice none 0 0⟩ y.1 y.2 w' c') := hide (by
   have hA : aPut d [s0, s1] = (if x0 < 0 then (⟨.error 2, d⟩ : Ans) else match d.p.lk[x0.toNat]? with
    | none => ⟨.error 2, d⟩
    | some l => orE (putE s1.size (y.2.sd x0.toNat).q.length l.q) ⟨#[112, 117, 116]⟩ { d with c := some (y.1, clPut x0.toNat l s1 y.2) }) := (if_neg (by simp)).trans ((HNU.out _).trans (hasC_some hd))
   have hself : { d with c := some (y.1, y.2) } = d := by
    have : d.c = some (y.1, y.2) := hd
    cases d
    simp only at this
    rw [this]
   have hout : ∀ n, (x0 < 0 ∨ (d.p.lk.length : Int) ≤ x0) → Calls Tryz.prog 101 #[.pointer (some ⟨a.g, 0, none⟩), .int .i64 x0, .string s1] (w1.drewN n) fun e w' => e = .returned (errV 2) ∧ ClTo w1 b a (fullN d.p) d.p ⟨L.v 0, L.v 1, .slice none 0 0⟩ y.1 y.2 w' y.2 := fun n ho => by
    have hB := below_drewN (Below.refl w1.heap.size w1) n
    exact (cput_out (hCl.below hB) hp x0 ho s1).mono (fun e w' ⟨h1, h2⟩ => ⟨h1, by subst h2; exact ClTo.refl hCl hB⟩)
   rw [hA]
   by_cases h0 : x0 < 0
   ·rw [if_pos h0]
    exact ⟨2, y.2, by rw [hself]; rfl, .inr (.inl rfl), fun W ⟨n, e⟩ => by subst e; exact hout n (by omega)⟩
   rw [if_neg h0]
   cases hl : d.p.lk[x0.toNat]? with
   | none =>
    have : d.p.lk.length ≤ x0.toNat := List.getElem?_eq_none_iff.1 hl
    exact ⟨2, y.2, by rw [hself]; rfl, .inr (.inl rfl), fun W ⟨n, e⟩ => by subst e; exact hout n (by omega)⟩
   | some l =>
    obtain ⟨kk, rfl⟩ := Int.eq_ofNat_of_zero_le (show 0 ≤ x0 by omega)
    simp only [Int.toNat_natCast] at hl ⊢
    refine ⟨putE s1.size (y.2.sd kk).q.length l.q, clPut kk l s1 y.2, ?_, ?_, fun W ⟨n, e⟩ => ?_⟩
    ·unfold orE
     rfl
    ·unfold putE
     split
     ·exact .inr (.inr (.inl rfl))
     ·split
      ·exact .inr (.inr (.inr rfl))
      ·exact .inl rfl
    ·subst e
     have hB := below_drewN (Below.refl w1.heap.size w1) n
     refine (cput_any (w1.drewN n) (hCl.below hB) hp hok hb1 kk l hl s1 (by simp [maxLen]; omega)).mono (fun e w' ⟨he, ht⟩ => ⟨he, ClTo.trans (.of_below hB) rfl ht⟩))
  obtain ⟨E, c', hX, hE, hcall⟩ := HRE.out
  have HX := hide hX; have HCA := hide hcall
  clear HRE hX hcall hcv hLS hb0 hb1 hCl hck hok hrd hfy hli hprb hp hgF hkF hwF
  go_wp2_with fail
  refine HR.out.mono ?_
  rintro r w2 ⟨rfl, rfl⟩
  go_wp2_with fail
  rcases hE with rfl | hE
  ·have ez : errV 0 = .nilIface := rfl
   rw [ez] at HCA
   go_region_held3 (fun w' => w'.cell? ⟨g, 10, none⟩ = some (.pointer (some ⟨a.g, 0, none⟩)) ∧ w'.cell? ⟨gk, 0, none⟩ = some (.int .i64 x0) ∧ w'.cell? ⟨bw, ow + 1, none⟩ = some (.string s1)) (first | exact HNN.out _ rfl rfl rfl | exact HNN.out _ HT5.out.2.1 HT5.out.2.2.1 HT5.out.2.2.2.1)
    (first
     | (go_at_call 101; go_must (refine (HCA.out _ ⟨1, rfl⟩).mono ?_); rintro r w5 ⟨rfl, ht5⟩; have HT5 := hide (HEND.out w5 c' ht5); clear ht5)
     | (go_at_call 25; go_must (refine (must_nil _).mono ?_); rintro r w6 ⟨rfl, rfl⟩))
   all_goals
    have HP : Hid (DoP w0 w g L (aPut d [s0, s1]) (.returned (.string ⟨#[112, 117, 116]⟩)) w6) := hide (by rw [HX.out]; exact ⟨rfl, HT5.out.1⟩)
    go_wp2_with fail
    go_ret
    exact HP.out
  ·have he : errV E = .iface 61 (.int .i64 E) := by rcases hE with rfl | rfl | rfl <;> rfl
   have he0 : E ≠ 0 := by omega
   have HE0 := hide he0
   rw [he] at HCA
   clear he hE he0
   obtain ⟨S9, hS9⟩ : ∃ S9 : World → Prop, (fun W => W.cell? ⟨g, 10, none⟩ = some (.pointer (some ⟨a.g, 0, none⟩)) ∧ W.cell? ⟨gk, 0, none⟩ = some (.int .i64 x0) ∧ W.cell? ⟨bw, ow + 1, none⟩ = some (.string s1)) = S9 := ⟨_, rfl⟩
   have HS9 : Hid (S9 = fun W => W.cell? ⟨g, 10, none⟩ = some (.pointer (some ⟨a.g, 0, none⟩)) ∧ W.cell? ⟨gk, 0, none⟩ = some (.int .i64 x0) ∧ W.cell? ⟨bw, ow + 1, none⟩ = some (.string s1)) := hide hS9.symm
   have HH : Hid (S9 w2.drew) := hide (by rw [HS9.out]; exact HNN.out _ rfl rfl rfl)
   refine wp_region_L (S := S9) (L := 10) (by kernel_rfl) ?_
   clear c10 n0 hs2 hS9
   have hH := HH.out
   try simp only [List.size_toArray, List.length_cons, List.length_nil, Nat.reduceAdd]
   refine wpAnyL_takeM (i := 0) (v := ?va0) rfl (by kernel_rfl) (by kernel_rfl) (by kernel_rfl) (by kernel_rfl) (fun _ _ _ h => h) (Or.inl ⟨by rfl, ?ya0⟩) (by assumption) ?ra0
   case ya0 => (intro w9 _; go_simp <;> with_reducible rfl)
   try simp only [Act.put, List.setIfInBounds_toArray, List.set_cons_zero, List.set_cons_succ, List.getElem_toArray, List.getElem_cons_zero, List.getElem_cons_succ]
   refine wpAnyL_takeM (i := 1) (v := ?va1) rfl (by kernel_rfl) (by kernel_rfl) (by kernel_rfl) (by kernel_rfl) (fun _ _ _ h => h) (Or.inl ⟨by rfl, ?ya1⟩) (by assumption) ?ra1
   case ya1 => (intro w9 _; go_simp <;> with_reducible rfl)
   try simp only [Act.put, List.setIfInBounds_toArray, List.set_cons_zero, List.set_cons_succ, List.getElem_toArray, List.getElem_cons_zero, List.getElem_cons_succ]
   refine wpAnyL_takeM (i := 2) (v := ?va2) rfl (by kernel_rfl) (by kernel_rfl) (by kernel_rfl) (by kernel_rfl) (fun _ _ _ h => h) (Or.inl ⟨by rfl, ?ya2⟩) (by assumption) ?ra2
   case ya2 => (intro w9 _; go_simp <;> with_reducible rfl)
   try simp only [Act.put, List.setIfInBounds_toArray, List.set_cons_zero, List.set_cons_succ, List.getElem_toArray, List.getElem_cons_zero, List.getElem_cons_succ]
   refine wpAnyL_take (i := 3) (v := ?va3) rfl (by kernel_rfl) (by kernel_rfl) (by kernel_rfl) (by kernel_rfl) (fun _ _ _ h => h) (Or.inl ⟨by rfl, ?ya3⟩) (by assumption) ?ra3
   case ya3 => (intro w9 hSw; rw [HS9.out] at hSw; obtain ⟨q0, q1, q2⟩ := hSw; go_simp <;> with_reducible rfl)
   try simp only [Act.put, List.setIfInBounds_toArray, List.set_cons_zero, List.set_cons_succ, List.getElem_toArray, List.getElem_cons_zero, List.getElem_cons_succ]
   refine wpAnyL_takeM (i := 4) (v := ?va4) rfl (by kernel_rfl) (by kernel_rfl) (by kernel_rfl) (by kernel_rfl) (fun _ _ _ h => h) (Or.inl ⟨by rfl, ?ya4⟩) (by assumption) ?ra4
   case ya4 => (intro w9 _; go_simp <;> with_reducible rfl)
   try simp only [Act.put, List.setIfInBounds_toArray, List.set_cons_zero, List.set_cons_succ, List.getElem_toArray, List.getElem_cons_zero, List.getElem_cons_succ]
   refine wpAnyL_takeM (i := 5) (v := ?va5) rfl (by kernel_rfl) (by kernel_rfl) (by kernel_rfl) (by kernel_rfl) (fun _ _ _ h => h) (Or.inl ⟨by rfl, ?ya5⟩) (by assumption) ?ra5
   case ya5 => (intro w9 _; go_simp <;> with_reducible rfl)
   try simp only [Act.put, List.setIfInBounds_toArray, List.set_cons_zero, List.set_cons_succ, List.getElem_toArray, List.getElem_cons_zero, List.getElem_cons_succ]
   refine wpAnyL_take (i := 6) (v := ?va6) rfl (by kernel_rfl) (by kernel_rfl) (by kernel_rfl) (by kernel_rfl) (fun _ _ _ h => h) (Or.inl ⟨by rfl, ?ya6⟩) (by assumption) ?ra6
   case ya6 => (intro w9 hSw; rw [HS9.out] at hSw; obtain ⟨q0, q1, q2⟩ := hSw; go_simp <;> with_reducible rfl)
   try simp only [Act.put, List.setIfInBounds_toArray, List.set_cons_zero, List.set_cons_succ, List.getElem_toArray, List.getElem_cons_zero, List.getElem_cons_succ]
   refine wpAnyL_takeM (i := 7) (v := ?va7) rfl (by kernel_rfl) (by kernel_rfl) (by kernel_rfl) (by kernel_rfl) (fun _ _ _ h => h) (Or.inl ⟨by rfl, ?ya7⟩) (by assumption) ?ra7
   case ya7 => (intro w9 _; go_simp <;> with_reducible rfl)
   try simp only [Act.put, List.setIfInBounds_toArray, List.set_cons_zero, List.set_cons_succ, List.getElem_toArray, List.getElem_cons_zero, List.getElem_cons_succ]
   refine wpAnyL_takeM (i := 8) (v := ?va8) rfl (by kernel_rfl) (by kernel_rfl) (by kernel_rfl) (by kernel_rfl) (fun _ _ _ h => h) (Or.inl ⟨by rfl, ?ya8⟩) (by assumption) ?ra8
   case ya8 => (intro w9 _; go_simp <;> with_reducible rfl)
   try simp only [Act.put, List.setIfInBounds_toArray, List.set_cons_zero, List.set_cons_succ, List.getElem_toArray, List.getElem_cons_zero, List.getElem_cons_succ]
   refine wpAnyL_take (i := 9) (v := ?va9) rfl (by kernel_rfl) (by kernel_rfl) (by kernel_rfl) (by kernel_rfl) (fun _ _ _ h => h) (Or.inl ⟨by rfl, ?ya9⟩) (by assumption) ?ra9
   case ya9 => (intro w9 hSw; rw [HS9.out] at hSw; obtain ⟨q0, q1, q2⟩ := hSw; go_simp <;> with_reducible rfl)
   try simp only [Act.put, List.setIfInBounds_toArray, List.set_cons_zero, List.set_cons_succ, List.getElem_toArray, List.getElem_cons_zero, List.getElem_cons_succ]
   clear hH
   refine wpAnyL_one (i := 10) (by kernel_rfl) rfl (fun K9 hK9 => ?_)
   try simp only [List.getElem_toArray, List.getElem_cons_zero, List.getElem_cons_succ]
   go_simp
   refine (HCA.out _ ⟨1, rfl⟩).mono ?_
   rintro r w5 ⟨rfl, ht5⟩
   have HT5 := hide (HEND.out w5 c' ht5)
   clear ht5
   try go_simp
   refine hK9.out _ _ (fun h9 => absurd h9 (by decide)) ?_
   clear hK9 K9
   try simp only [Act.put, List.setIfInBounds_toArray, List.set_cons_zero, List.set_cons_succ]
   refine wpAnyL_one (i := 11) (by kernel_rfl) rfl (fun K9 hK9 => ?_)
   try simp only [List.getElem_toArray, List.getElem_cons_zero, List.getElem_cons_succ]
   go_simp
   refine (must_errno E _ HT5.out.2.2.2.2.err).mono ?_
   rintro r w6 ⟨rfl, hB6⟩
   have HP : Hid (DoP w0 w g L (aPut d [s0, s1]) (.panicked (wrongP E)) w6) := hide (by rw [HX.out, if_neg HE0.out]; exact ⟨rfl, HT5.out.1.below hB6⟩)
   exact ⟨rfl, HP.out⟩
end
end
section
open Go Go.RowKit
attribute [local irreducible] playF playE
section
variable {w0 w : World} {g k : Nat} {d : Dk} {L : Ly} {A : Option Addr} {ws : List ByteArray}
theorem set4 {W : World} {G : Nat} {t : TypeId} {a0 a1 a2 a3 a4 a5 a6 a7 a8 a9 a10 a11 a12 a13 a14 b11 b12 b13 b14 : Value} (h : Blk W G t #[a0, a1, a2, a3, a4, a5, a6, a7, a8, a9, a10, a11, a12, a13, a14]) : Blk (((((W.setCell ⟨G, 11, none⟩ b11).setCell ⟨G, 12, none⟩ b12).setCell ⟨G, 13, none⟩ b13).setCell ⟨G, 14, none⟩ b14)) G t #[a0, a1, a2, a3, a4, a5, a6, a7, a8, a9, a10, b11, b12, b13, b14] := by
 have h0 : Blk (W.setCell ⟨G, 11, none⟩ b11) G t #[a0, a1, a2, a3, a4, a5, a6, a7, a8, a9, a10, b11, a12, a13, a14] := h.set_ 11 b11
 have h1 : Blk ((W.setCell ⟨G, 11, none⟩ b11).setCell ⟨G, 12, none⟩ b12) G t #[a0, a1, a2, a3, a4, a5, a6, a7, a8, a9, a10, b11, b12, a13, a14] := h0.set_ 12 b12
 have h2 : Blk (((W.setCell ⟨G, 11, none⟩ b11).setCell ⟨G, 12, none⟩ b12).setCell ⟨G, 13, none⟩ b13) G t #[a0, a1, a2, a3, a4, a5, a6, a7, a8, a9, a10, b11, b12, b13, a14] := h1.set_ 13 b13
 have h3 : Blk ((((W.setCell ⟨G, 11, none⟩ b11).setCell ⟨G, 12, none⟩ b12).setCell ⟨G, 13, none⟩ b13).setCell ⟨G, 14, none⟩ b14) G t #[a0, a1, a2, a3, a4, a5, a6, a7, a8, a9, a10, b11, b12, b13, b14] := h2.set_ 14 b14
 exact h3
theorem set4G {W : World} {G : Nat} {b11 b12 b13 b14 : Value} : W.grownBy ((((W.setCell ⟨G, 11, none⟩ b11).setCell ⟨G, 12, none⟩ b12).setCell ⟨G, 13, none⟩ b13).setCell ⟨G, 14, none⟩ b14) (some G) := by
 have h0 : W.grownBy (W.setCell ⟨G, 11, none⟩ b11) (some G) := only_setCell (only_refl W (some G)) (.inl rfl) b11
 have h1 : W.grownBy ((W.setCell ⟨G, 11, none⟩ b11).setCell ⟨G, 12, none⟩ b12) (some G) := only_setCell (h0) (.inl rfl) b12
 have h2 : W.grownBy (((W.setCell ⟨G, 11, none⟩ b11).setCell ⟨G, 12, none⟩ b12).setCell ⟨G, 13, none⟩ b13) (some G) := only_setCell (h1) (.inl rfl) b13
 have h3 : W.grownBy ((((W.setCell ⟨G, 11, none⟩ b11).setCell ⟨G, 12, none⟩ b12).setCell ⟨G, 13, none⟩ b13).setCell ⟨G, 14, none⟩ b14) (some G) := only_setCell (h2) (.inl rfl) b14
 exact h3
theorem cell_same {W W' : World} {b : Nat} (e : W'.heap[b]? = W.heap[b]?) (o : Nat) : W'.cell? ⟨b, o, none⟩ = W.cell? ⟨b, o, none⟩ := World.cell?_of_block (a := ⟨b, o, none⟩) e
theorem slots_same {W W' : World} {AA : Option Addr} {n : Nat} {l : List Sl} (h : SlotsAt W AA n l) (hk : ∀ x, AA = some x → W'.heap[x.block]? = W.heap[x.block]?) : SlotsAt W' AA n l := fun j hj => by
 obtain ⟨b, off, hA, x, hx, c0, c1, c2⟩ := h j hj
 have e := hk _ hA
 exact ⟨b, off, hA, x, hx, (cell_same e _).trans c0, (cell_same e _).trans c1, (cell_same e _).trans c2⟩
theorem links_same {W W' : World} {AA : Option Addr} {n : Nat} {l : List Lk} (h : LinksAt W AA n l) (hk : ∀ x, AA = some x → W'.heap[x.block]? = W.heap[x.block]?) : LinksAt W' AA n l := fun j hj => by
 obtain ⟨b, off, hA, x, hx, c0, c1, c2, c3⟩ := h j hj
 have e := hk _ hA
 exact ⟨b, off, hA, x, hx, (cell_same e _).trans c0, (cell_same e _).trans c1, (cell_same e _).trans c2, (cell_same e _).trans c3⟩
theorem loss_same {W W' : World} {AA : Option Addr} {l : List Ls} (h : LossAt W AA l) (hk : ∀ x, AA = some x → W'.heap[x.block]? = W.heap[x.block]?) : LossAt W' AA l := fun j x hx => by
 obtain ⟨b, off, hA, c0, c1, c2⟩ := h j x hx
 have e := hk _ hA
 exact ⟨b, off, hA, (cell_same e _).trans c0, (cell_same e _).trans c1, (cell_same e _).trans c2⟩
theorem read_same {W W' : World} {AA : Option Addr} {l : List Rg} (h : RgAt W AA l) (hk : ∀ x, AA = some x → W'.heap[x.block]? = W.heap[x.block]?) : RgAt W' AA l := fun j x hx => by
 obtain ⟨b, off, hA, c0, c1, c2⟩ := h j x hx
 have e := hk _ hA
 exact ⟨b, off, hA, (cell_same e _).trans c0, (cell_same e _).trans c1, (cell_same e _).trans c2⟩
theorem isl_same {W W' : World} {AA : Option Addr} {l : List Int} (h : IsL W AA l) (hk : ∀ x, AA = some x → W'.heap[x.block]? = W.heap[x.block]?) : IsL W' AA l := fun j hj => by
 obtain ⟨b, off, hA, c0⟩ := h j hj
 have e := hk _ hA
 exact ⟨b, off, hA, (cell_same e _).trans c0⟩
theorem DkL.rows_at {W : World} (h : DkL w0 W g d L) : ∃ A1 c1 A2 c2 A3 c3 A4 c4, L.v 2 = .slice A1 d.r.ls.length c1 ∧ L.v 3 = .slice A2 d.r.rg.length c2 ∧ L.v 4 = .slice A3 d.r.dr.length c3 ∧ L.v 5 = .slice A4 d.r.md.length c4 ∧
 LossAt W A1 d.r.ls ∧ RgAt W A2 d.r.rg ∧ IsL W A3 d.r.dr ∧ IsL W A4 d.r.md := by
 obtain ⟨A1, c1, e1, h1, -⟩ := own_loss (h.own 2 (by omega)) rfl
 obtain ⟨A2, c2, e2, h2, -⟩ := own_read (h.own 3 (by omega)) rfl
 obtain ⟨A3, c3, e3, -, h3, -⟩ := own_nums (h.own 4 (by omega)) rfl
 obtain ⟨A4, c4, e4, -, h4, -⟩ := own_nums (h.own 5 (by omega)) rfl
 exact ⟨A1, c1, A2, c2, A3, c3, A4, c4, e1, e2, e3, e4, h1, h2, h3, h4⟩
theorem DkL.off_fam {W : World} (h : DkL w0 W g d L) {j n cp : Nat} {AA : Option Addr} (hj : j < 6) (e : L.v j = .slice AA n cp) : ∀ x, AA = some x → x.block < W.heap.size ∧ ¬ Fmy L.S x.block := fun x hx => by
 subst hx
 have h1 : (L.v j).ownBlock = some x.block := by rw [e]; rfl
 exact ⟨(h.lo (.inr (.inl ⟨j, hj, h1⟩))).2, h.sepF j _ hj h1⟩
set_option maxHeartbeats 1000000 in
theorem DkL.play (h : DkL w0 w g d L) (hstd : StdOk w0) (ho : DkOk k d) (hk : k ≤ 6000) {y : Nat × Cl} (hd : d.c = some y) {a : Ad} {b : Nat} (hLS : L.S = shape a (fullN d.p) d.p ⟨L.v 0, L.v 1, .slice none 0 0⟩ y.1 y.2) (hb0 : w0.heap.size ≤ b) (hb1 : b ≤ w.heap.size) (hCl : ClAt w b a (fullN d.p) d.p ⟨L.v 0, L.v 1, .slice none 0 0⟩ y.1 y.2) :
 Calls Tryz.prog 104 #[.pointer (some ⟨a.g, 0, none⟩), .agg #[L.v 2, L.v 3, L.v 4, L.v 5]] w fun e w' => e = .returned (errV (playE d.p y.1 d.r y.2)) ∧ ClTo w b a (fullN d.p) d.p ⟨L.v 0, L.v 1, .slice none 0 0⟩ y.1 y.2 w' (playF d.p y.1 d.r y.2) := by
 obtain ⟨hck, hok, hrd, hfy, hli, hprb⟩ := ho.clu y hd
 obtain ⟨AS, cs, AL, cl, e6, e7, s2, l2, -⟩ := h.plan_at ho.wn
 obtain ⟨A1, c1, A2, c2, A3, c3, A4, c4, e1, e2, e3, e4, h1, h2, h3, h4⟩ := h.rows_at
 have o0 := h.off_fam (by omega) e6
 have o1 := h.off_fam (by omega) e7
 have o2 := h.off_fam (by omega) e1
 have o3 := h.off_fam (by omega) e2
 have o4 := h.off_fam (by omega) e3
 have o5 := h.off_fam (by omega) e4
 rw [hLS] at o0 o1 o2 o3 o4 o5
 have b1 := ho.ls; have b2 := ho.rg; have b3 := ho.dr; have b4 := ho.md
 have same : ∀ {AA : Option Addr}, (∀ x, AA = some x → x.block < w.heap.size ∧ ¬ Fmy (shape a (fullN d.p) d.p ⟨L.v 0, L.v 1, .slice none 0 0⟩ y.1 y.2) x.block) → ∀ (W : World) (S : Ix → Ob), KBes w (fun i => i < w.heap.size ∧ ¬ Fmy (shape a (fullN d.p) d.p ⟨L.v 0, L.v 1, .slice none 0 0⟩ y.1 y.2) i) W S → ∀ x, AA = some x → W.heap[x.block]? = w.heap[x.block]? := fun ho W S hK x hx => (hK.2 x.block (ho x hx)).2.2
 rw [e1, e2, e3, e4]
 refine play_gen w (KBes.cls w (fun i => i < w.heap.size ∧ ¬ Fmy (shape a (fullN d.p) d.p ⟨L.v 0, L.v 1, .slice none 0 0⟩ y.1 y.2) i)) AS AL cs cl e6 e7 hCl (PlOk.of hck) hok (by omega) (by omega) hfy (fun W S hK => slots_same s2 (same o0 W S hK)) (fun W S hK => links_same l2 (same o1 W S hK)) ⟨Nat.le_refl _, fun i hi => ⟨hi.1, hi.2, rfl⟩⟩ hb1 (fun W S hK => ?_)
  A1 c1 d.r (fun W S hK => loss_same h1 (same o2 W S hK)) (by omega) A2 c2 (fun W S hK => read_same h2 (same o3 W S hK)) (by omega) A3 c3 (fun W S hK => isl_same h3 (same o4 W S hK)) (by omega) A4 c4 (fun W S hK => isl_same h4 (same o5 W S hK)) (by omega)
 have hbig := hstd.big
 have hsz := h.low.size
 have hg4 : 4 < w.heap.size := by omega
 have hnf : ¬ Fmy (shape a (fullN d.p) d.p ⟨L.v 0, L.v 1, .slice none 0 0⟩ y.1 y.2) 4 := fun ⟨x, hx⟩ => by have := (hCl.own x _ hx).1; omega
 have e := (hK.2 4 ⟨hg4, hnf⟩).2.2
 exact (World.cell?_of_block (a := ⟨4, 0, none⟩) e).trans (hstd.below hstd.big h.low).err
set_option maxRecDepth 100000 in
set_option maxHeartbeats 4000000 in
theorem do_rounds (h : CmdIn w0 w g d L k A ws) (c : Nat) : Calls Tryz.prog 63 #[.pointer (some ⟨g, 0, none⟩), .slice A ws.length c] w (DoP w0 w g L (aRound d ws)) := by
 have HN := hide (h.nums (0) (by omega) (by omega) c)
 have H := hide h
 clear h
 go_enter Tryz.func63, Tryz.ntmps63
 go_wp2_with fail
 refine HN.out.mono ?_
 rintro r w1 ⟨⟨hn, rfl⟩ | ⟨l, v, hn, rfl, hown⟩, hB1⟩
 case inl =>
  have HP := hide (H.out.bad (x := aRound d ws) (withN_none hn) hB1)
  go_wp2_with fail
  exact ⟨rfl, HP.out⟩
 obtain ⟨Av, cv, rfl, -⟩ := own_at hown
 have HB1 := hide hB1; have HO := hide hown; have HNU := hide hn
 clear hB1 hown hn
 cases hd : d.c with
 | none =>
  have HR := hide (ready_bad w1 (H.out.stdB HB1.out).err g none true (H.out.noCell HB1.out hd) rfl)
  have HX : Hid (aRound d ws = ⟨.error 6, d⟩) := hide ((withN_some HNU.out).trans (hasC_none hd))
  go_wp2_with fail
  refine HR.out.mono ?_
  rintro r w2 ⟨rfl, hB2⟩
  have HP := hide (H.out.bad HX.out (HB1.out.trans (hB2.mono HB1.out.size)))
  go_wp2_with fail
  exact ⟨rfl, HP.out⟩
 | some y =>
  obtain ⟨a, b, c10, hcv, hLS, hb0, hb1, hCl⟩ := H.out.clCell HB1.out hd
  have HR := hide (ready_ok w1 g _ true c10 rfl)
  have HD := hide (H.out.dk.below HB1.out)
  obtain ⟨hck, hok, hrd, hfy, hli, hprb⟩ := H.out.ok.clu y hd
  have hp := PlOk.of hck
  have c11 := HD.out.blk.cell 11
  have f11 := HD.out.blk.frozen 11
  have c12 := HD.out.blk.cell 12
  have f12 := HD.out.blk.frozen 12
  have c13 := HD.out.blk.cell 13
  have f13 := HD.out.blk.frozen 13
  have c14 := HD.out.blk.cell 14
  have f14 := HD.out.blk.frozen 14
  simp at c11 c12 c13 c14
  have hlt : g < w1.heap.size := HD.out.blk.lt
  obtain ⟨A1, q1, A2, q2, A3, q3, A4, q4, e1, e2, e3, e4, -⟩ := HD.out.rows_at
  obtain ⟨E, hE⟩ : ∃ E, playE d.p y.1 d.r y.2 = E := ⟨_, rfl⟩
  have HPL : Hid (∀ n, Calls Tryz.prog 104 #[.pointer (some ⟨a.g, 0, none⟩), .agg #[L.v 2, L.v 3, L.v 4, L.v 5]] (w1.drewN n) fun e w' => e = .returned (errV E) ∧ ClTo w1 b a (fullN d.p) d.p ⟨L.v 0, L.v 1, .slice none 0 0⟩ y.1 y.2 w' (playF d.p y.1 d.r y.2)) := hide (fun n => by
   have hB := below_drewN (Below.refl w1.heap.size w1) n
   have := (HD.out.below hB).play H.out.std H.out.ok H.out.hk hd hLS hb0 hb1 (hCl.below hB)
   rw [hE] at this
   exact this.mono (fun e w' ⟨he, ht⟩ => ⟨he, ClTo.trans (.of_below hB) rfl ht⟩))
  have hok2 := playF_ok hp hok y.1 d.r
  have hrd2 := play_rd d.p y.1 d.r y.2
  have hk6 := H.out.hk
  have hgF : ¬ Fmy (shape a (fullN d.p) d.p ⟨L.v 0, L.v 1, .slice none 0 0⟩ y.1 y.2) g := by rw [← hLS]; exact H.out.dk.offF
  have HEND : Hid (∀ (w5 : World), ClTo w1 b a (fullN d.p) d.p ⟨L.v 0, L.v 1, .slice none 0 0⟩ y.1 y.2 w5 (playF d.p y.1 d.r y.2) → DkTo w0 w g L w5 { d with c := some (y.1, playF d.p y.1 d.r y.2) } ∧ Blk w5 g 37 (deskC d L) ∧ StdOk w5 ∧
   DkTo w0 w g L ((((w5.setCell ⟨g, 11, none⟩ (.slice none 0 0)).setCell ⟨g, 12, none⟩ (.slice none 0 0)).setCell ⟨g, 13, none⟩ (.slice none 0 0)).setCell ⟨g, 14, none⟩ (.slice none 0 0)) { d with c := some (y.1, playF d.p y.1 d.r y.2), r := ⟨[], [], [], []⟩ } ∧ StdOk ((((w5.setCell ⟨g, 11, none⟩ (.slice none 0 0)).setCell ⟨g, 12, none⟩ (.slice none 0 0)).setCell ⟨g, 13, none⟩ (.slice none 0 0)).setCell ⟨g, 14, none⟩ (.slice none 0 0)) ∧ Calls Tryz.prog 105 #[.pointer (some ⟨a.g, 0, none⟩)] ((((w5.setCell ⟨g, 11, none⟩ (.slice none 0 0)).setCell ⟨g, 12, none⟩ (.slice none 0 0)).setCell ⟨g, 13, none⟩ (.slice none 0 0)).setCell ⟨g, 14, none⟩ (.slice none 0 0)) fun e w' => e = .returned (.int .i64 (playF d.p y.1 d.r y.2).rd) ∧ w' = ((((w5.setCell ⟨g, 11, none⟩ (.slice none 0 0)).setCell ⟨g, 12, none⟩ (.slice none 0 0)).setCell ⟨g, 13, none⟩ (.slice none 0 0)).setCell ⟨g, 14, none⟩ (.slice none 0 0))) := hide (fun w5 ht => by
   have h0 := HD.out.clus (fy := y.1) (c := y.2) hd hLS hcv hb0 hb1 ht
   have h1 := DkTo.after HB1.out h0
   obtain ⟨a', hag, hA', hk⟩ := ht
   have hgb := hk.block g hlt hgF
   have hgF5 : ¬ Fmy (shape a' (fullN d.p) d.p ⟨L.v 0, L.v 1, .slice none 0 0⟩ y.1 (playF d.p y.1 d.r y.2)) g := hk.not hlt hgF
   have hb5 : Blk w5 g 37 (deskC d L) := hgb.trans HD.out.blk
   obtain ⟨L5, h2, h3⟩ := h1
   have hs5 := H.out.std.below H.out.std.big h2.low
   have hv : deskC { d with c := some (y.1, playF d.p y.1 d.r y.2) } L5 = deskC d L := by
    have := h2.blk.symm.trans hb5
    injection this with this
    injection this
   have hv' : ∀ i : Nat, (deskC { d with c := some (y.1, playF d.p y.1 d.r y.2) } L5)[i]? = (deskC d L)[i]? := fun i => by rw [hv]
   have v0 : L5.v 0 = L.v 0 := by have := hv' 6; simpa using this
   have v1 : L5.v 1 = L.v 1 := by have := hv' 7; simpa using this
   have vc : L5.cv = L.cv := by have := hv' 10; simpa using this
   have hb6 : Blk ((((w5.setCell ⟨g, 11, none⟩ (.slice none 0 0)).setCell ⟨g, 12, none⟩ (.slice none 0 0)).setCell ⟨g, 13, none⟩ (.slice none 0 0)).setCell ⟨g, 14, none⟩ (.slice none 0 0)) g 37 (deskC { { d with c := some (y.1, playF d.p y.1 d.r y.2) } with r := ⟨[], [], [], []⟩ } { L5 with v := fun j => if j < 2 then L5.v j else .slice none 0 0 }) := set4 h2.blk
   have h4 := h2.reset set4G rfl hb6
   obtain ⟨L6, h5, h6⟩ := h4
   have hC6 : ClAt ((((w5.setCell ⟨g, 11, none⟩ (.slice none 0 0)).setCell ⟨g, 12, none⟩ (.slice none 0 0)).setCell ⟨g, 13, none⟩ (.slice none 0 0)).setCell ⟨g, 14, none⟩ (.slice none 0 0)) b a' (fullN d.p) d.p ⟨L.v 0, L.v 1, .slice none 0 0⟩ y.1 (playF d.p y.1 d.r y.2) := hA'.keepF (by simp [World.setCell]) (fun i hi hf => by
    have hne : i ≠ g := fun e => hgF5 (by rw [← e]; exact hf)
    exact (set4G (G := g)).block i hi (fun e => hne (by cases e; rfl)))
   have hR := rounds_any hC6
   rw [hag] at hR
   exact ⟨⟨L5, h2, h3⟩, hb5, hs5, ⟨L6, h5, h3.trans h6⟩, H.out.std.below H.out.std.big h5.low, hR⟩)
  have hlo : 0 ≤ (playF d.p y.1 d.r y.2).rd := hok2.rd
  have hhi : (playF d.p y.1 d.r y.2).rd ≤ 6001 := by omega
  have HXA : Hid (aRound d ws = if playE d.p y.1 d.r y.2 = 0 then ⟨.ok (itoB (playF d.p y.1 d.r y.2).rd), { d with c := some (y.1, playF d.p y.1 d.r y.2), r := ⟨[], [], [], []⟩ }⟩ else ⟨.error (playE d.p y.1 d.r y.2), { d with c := some (y.1, playF d.p y.1 d.r y.2) }⟩) := hide ((withN_some HNU.out).trans (hasC_some hd))
  rw [hE] at HXA
  generalize hX : playF d.p y.1 d.r y.2 = PF at HXA HEND HPL hlo hhi
  obtain ⟨S9, hS9⟩ : ∃ S9 : World → Prop, (fun W => W.cell? ⟨g, 10, none⟩ = some (.pointer (some ⟨a.g, 0, none⟩)) ∧ W.cell? ⟨g, 11, none⟩ = some (.slice A1 d.r.ls.length q1) ∧ W.cell? ⟨g, 12, none⟩ = some (.slice A2 d.r.rg.length q2) ∧ W.cell? ⟨g, 13, none⟩ = some (.slice A3 d.r.dr.length q3) ∧ W.cell? ⟨g, 14, none⟩ = some (.slice A4 d.r.md.length q4)) = S9 := ⟨_, rfl⟩
  have HS9 : Hid (S9 = fun W => W.cell? ⟨g, 10, none⟩ = some (.pointer (some ⟨a.g, 0, none⟩)) ∧ W.cell? ⟨g, 11, none⟩ = some (.slice A1 d.r.ls.length q1) ∧ W.cell? ⟨g, 12, none⟩ = some (.slice A2 d.r.rg.length q2) ∧ W.cell? ⟨g, 13, none⟩ = some (.slice A3 d.r.dr.length q3) ∧ W.cell? ⟨g, 14, none⟩ = some (.slice A4 d.r.md.length q4)) := hide hS9.symm
  have HC5 : Hid (∀ W, Blk W g 37 (deskC d L) → S9 W ∧ W.frozen? ⟨g, 11, none⟩ = false ∧ W.frozen? ⟨g, 12, none⟩ = false ∧ W.frozen? ⟨g, 13, none⟩ = false ∧ W.frozen? ⟨g, 14, none⟩ = false) := hide (fun W hb => by
   have k10 := hb.cell 10
   have k11 := hb.cell 11
   have k12 := hb.cell 12
   have k13 := hb.cell 13
   have k14 := hb.cell 14
   simp at k10 k11 k12 k13 k14
   rw [e1] at k11
   rw [e2] at k12
   rw [e3] at k13
   rw [e4] at k14
   rw [HS9.out]
   exact ⟨⟨by rw [k10, hcv], k11, k12, k13, k14⟩, hb.frozen 11, hb.frozen 12, hb.frozen 13, hb.frozen 14⟩)
  have HH : Hid (S9 w1.drew) := hide (HC5.out _ HD.out.blk.drew).1
  rw [e1, e2, e3, e4] at HPL
  clear hcv hLS hb0 hb1 hCl hck hok hrd hfy hli hprb hp hgF hok2 hrd2 e1 e2 e3 e4 hS9 c10 c11 c12 c13 c14 f11 f12 f13 f14 HN hX hE
  go_wp2_with fail
  refine HR.out.mono ?_
  rintro r w2 ⟨rfl, rfl⟩
  by_cases he : E = 0
  ·subst he
   have ez : errV 0 = .nilIface := rfl
   rw [ez] at HPL
   go_wp2_with fail
   refine wp_region_L (S := S9) (L := 8) (by kernel_rfl) ?_
   have hH := HH.out
   try simp only [List.size_toArray, List.length_cons, List.length_nil, Nat.reduceAdd]
   refine wpAnyL_takeM (i := 0) (v := ?va0) rfl (by kernel_rfl) (by kernel_rfl) (by kernel_rfl) (by kernel_rfl) (fun _ _ _ h => h) (Or.inl ⟨by rfl, ?ya0⟩) (by assumption) ?ra0
   case ya0 => (intro w9 _; go_simp <;> with_reducible rfl)
   try simp only [Act.put, List.setIfInBounds_toArray, List.set_cons_zero, List.set_cons_succ, List.getElem_toArray, List.getElem_cons_zero, List.getElem_cons_succ]
   refine wpAnyL_takeM (i := 1) (v := ?va1) rfl (by kernel_rfl) (by kernel_rfl) (by kernel_rfl) (by kernel_rfl) (fun _ _ _ h => h) (Or.inl ⟨by rfl, ?ya1⟩) (by assumption) ?ra1
   case ya1 => (intro w9 _; go_simp <;> with_reducible rfl)
   try simp only [Act.put, List.setIfInBounds_toArray, List.set_cons_zero, List.set_cons_succ, List.getElem_toArray, List.getElem_cons_zero, List.getElem_cons_succ]
   refine wpAnyL_takeM (i := 2) (v := ?va2) rfl (by kernel_rfl) (by kernel_rfl) (by kernel_rfl) (by kernel_rfl) (fun _ _ _ h => h) (Or.inl ⟨by rfl, ?ya2⟩) (by assumption) ?ra2
   case ya2 => (intro w9 _; go_simp <;> with_reducible rfl)
   try simp only [Act.put, List.setIfInBounds_toArray, List.set_cons_zero, List.set_cons_succ, List.getElem_toArray, List.getElem_cons_zero, List.getElem_cons_succ]
   refine wpAnyL_take (i := 3) (v := ?va3) rfl (by kernel_rfl) (by kernel_rfl) (by kernel_rfl) (by kernel_rfl) (fun _ _ _ h => h) (Or.inl ⟨by rfl, ?ya3⟩) (by assumption) ?ra3
   case ya3 => (intro w9 hSw; rw [HS9.out] at hSw; obtain ⟨q0, q1, q2, q3, q4⟩ := hSw; go_simp <;> with_reducible rfl)
   try simp only [Act.put, List.setIfInBounds_toArray, List.set_cons_zero, List.set_cons_succ, List.getElem_toArray, List.getElem_cons_zero, List.getElem_cons_succ]
   refine wpAnyL_takeM (i := 4) (v := ?va4) rfl (by kernel_rfl) (by kernel_rfl) (by kernel_rfl) (by kernel_rfl) (fun _ _ _ h => h) (Or.inl ⟨by rfl, ?ya4⟩) (by assumption) ?ra4
   case ya4 => (intro w9 _; go_simp <;> with_reducible rfl)
   try simp only [Act.put, List.setIfInBounds_toArray, List.set_cons_zero, List.set_cons_succ, List.getElem_toArray, List.getElem_cons_zero, List.getElem_cons_succ]
   refine wpAnyL_takeM (i := 5) (v := ?va5) rfl (by kernel_rfl) (by kernel_rfl) (by kernel_rfl) (by kernel_rfl) (fun _ _ _ h => h) (Or.inl ⟨by rfl, ?ya5⟩) (by assumption) ?ra5
   case ya5 => (intro w9 _; go_simp <;> with_reducible rfl)
   try simp only [Act.put, List.setIfInBounds_toArray, List.set_cons_zero, List.set_cons_succ, List.getElem_toArray, List.getElem_cons_zero, List.getElem_cons_succ]
   refine wpAnyL_takeM (i := 6) (v := ?va6) rfl (by kernel_rfl) (by kernel_rfl) (by kernel_rfl) (by kernel_rfl) (fun _ _ _ h => h) (Or.inl ⟨by rfl, ?ya6⟩) (by assumption) ?ra6
   case ya6 => (intro w9 _; go_simp <;> with_reducible rfl)
   try simp only [Act.put, List.setIfInBounds_toArray, List.set_cons_zero, List.set_cons_succ, List.getElem_toArray, List.getElem_cons_zero, List.getElem_cons_succ]
   refine wpAnyL_take (i := 7) (v := ?va7) rfl (by kernel_rfl) (by kernel_rfl) (by kernel_rfl) (by kernel_rfl) (fun _ _ _ h => h) (Or.inl ⟨by rfl, ?ya7⟩) (by assumption) ?ra7
   case ya7 => (intro w9 hSw; rw [HS9.out] at hSw; obtain ⟨q0, q1, q2, q3, q4⟩ := hSw; go_simp <;> with_reducible rfl)
   try simp only [Act.put, List.setIfInBounds_toArray, List.set_cons_zero, List.set_cons_succ, List.getElem_toArray, List.getElem_cons_zero, List.getElem_cons_succ]
   clear hH
   refine wpAnyL_one (i := 8) (by kernel_rfl) rfl (fun K9 hK9 => ?_)
   try simp only [List.getElem_toArray, List.getElem_cons_zero, List.getElem_cons_succ]
   go_simp
   refine (HPL.out 1).mono ?_
   rintro r w5 ⟨rfl, ht5⟩
   have HT5 := hide (HEND.out w5 ht5)
   clear ht5
   try go_simp
   refine hK9.out _ _ (fun h9 => absurd h9 (by decide)) ?_
   clear hK9 K9
   try simp only [Act.put, List.setIfInBounds_toArray, List.set_cons_zero, List.set_cons_succ]
   refine wpAnyL_one (i := 9) (by kernel_rfl) rfl (fun K9 hK9 => ?_)
   try simp only [List.getElem_toArray, List.getElem_cons_zero, List.getElem_cons_succ]
   go_simp
   refine (must_nil _).mono ?_
   rintro r w6 ⟨rfl, rfl⟩
   try go_simp
   refine hK9.out _ _ (fun h9 => absurd h9 (by decide)) ?_
   clear hK9 K9
   try simp only [Act.put, List.setIfInBounds_toArray, List.set_cons_zero, List.set_cons_succ]
   refine wpAnyL_done (by kernel_rfl) ?_ _
   obtain ⟨hs5, g11, g12, g13, g14⟩ := HC5.out _ HT5.out.2.1
   rw [HS9.out] at hs5
   obtain ⟨k10, k11, k12, k13, k14⟩ := hs5
   have HRO := hide HT5.out.2.2.2.2.2
   have HIT := hide (itoa_any PF.rd _ HT5.out.2.2.2.2.1 (by omega) (by omega))
   have HT4 := hide HT5.out.2.2.2.1
   clear HT5 HEND HPL
   go_wp2_with fail
   refine HRO.out.mono ?_
   rintro r w7 ⟨rfl, rfl⟩
   go_wp2_with fail
   refine HIT.out.mono ?_
   rintro r w8 ⟨rfl, hB8⟩
   have HP : Hid (DoP w0 w g L (aRound d ws) (.returned (.string (itoB PF.rd))) w8) := hide (by rw [HXA.out]; exact ⟨rfl, HT4.out.below hB8⟩)
   clear hB8
   go_wp2_with fail
   go_ret
   exact HP.out
  ·have he9 : errV E = .iface 61 (.int .i64 E) := by unfold errV; rw [if_neg he]
   have HE0 := hide he
   rw [he9] at HPL
   clear he he9
   go_wp2_with fail
   refine wp_region_L (S := S9) (L := 8) (by kernel_rfl) ?_
   have hH := HH.out
   try simp only [List.size_toArray, List.length_cons, List.length_nil, Nat.reduceAdd]
   refine wpAnyL_takeM (i := 0) (v := ?vb0) rfl (by kernel_rfl) (by kernel_rfl) (by kernel_rfl) (by kernel_rfl) (fun _ _ _ h => h) (Or.inl ⟨by rfl, ?yb0⟩) (by assumption) ?rb0
   case yb0 => (intro w9 _; go_simp <;> with_reducible rfl)
   try simp only [Act.put, List.setIfInBounds_toArray, List.set_cons_zero, List.set_cons_succ, List.getElem_toArray, List.getElem_cons_zero, List.getElem_cons_succ]
   refine wpAnyL_takeM (i := 1) (v := ?vb1) rfl (by kernel_rfl) (by kernel_rfl) (by kernel_rfl) (by kernel_rfl) (fun _ _ _ h => h) (Or.inl ⟨by rfl, ?yb1⟩) (by assumption) ?rb1
   case yb1 => (intro w9 _; go_simp <;> with_reducible rfl)
   try simp only [Act.put, List.setIfInBounds_toArray, List.set_cons_zero, List.set_cons_succ, List.getElem_toArray, List.getElem_cons_zero, List.getElem_cons_succ]
   refine wpAnyL_takeM (i := 2) (v := ?vb2) rfl (by kernel_rfl) (by kernel_rfl) (by kernel_rfl) (by kernel_rfl) (fun _ _ _ h => h) (Or.inl ⟨by rfl, ?yb2⟩) (by assumption) ?rb2
   case yb2 => (intro w9 _; go_simp <;> with_reducible rfl)
   try simp only [Act.put, List.setIfInBounds_toArray, List.set_cons_zero, List.set_cons_succ, List.getElem_toArray, List.getElem_cons_zero, List.getElem_cons_succ]
   refine wpAnyL_take (i := 3) (v := ?vb3) rfl (by kernel_rfl) (by kernel_rfl) (by kernel_rfl) (by kernel_rfl) (fun _ _ _ h => h) (Or.inl ⟨by rfl, ?yb3⟩) (by assumption) ?rb3
   case yb3 => (intro w9 hSw; rw [HS9.out] at hSw; obtain ⟨q0, q1, q2, q3, q4⟩ := hSw; go_simp <;> with_reducible rfl)
   try simp only [Act.put, List.setIfInBounds_toArray, List.set_cons_zero, List.set_cons_succ, List.getElem_toArray, List.getElem_cons_zero, List.getElem_cons_succ]
   refine wpAnyL_takeM (i := 4) (v := ?vb4) rfl (by kernel_rfl) (by kernel_rfl) (by kernel_rfl) (by kernel_rfl) (fun _ _ _ h => h) (Or.inl ⟨by rfl, ?yb4⟩) (by assumption) ?rb4
   case yb4 => (intro w9 _; go_simp <;> with_reducible rfl)
   try simp only [Act.put, List.setIfInBounds_toArray, List.set_cons_zero, List.set_cons_succ, List.getElem_toArray, List.getElem_cons_zero, List.getElem_cons_succ]
   refine wpAnyL_takeM (i := 5) (v := ?vb5) rfl (by kernel_rfl) (by kernel_rfl) (by kernel_rfl) (by kernel_rfl) (fun _ _ _ h => h) (Or.inl ⟨by rfl, ?yb5⟩) (by assumption) ?rb5
   case yb5 => (intro w9 _; go_simp <;> with_reducible rfl)
   try simp only [Act.put, List.setIfInBounds_toArray, List.set_cons_zero, List.set_cons_succ, List.getElem_toArray, List.getElem_cons_zero, List.getElem_cons_succ]
   refine wpAnyL_takeM (i := 6) (v := ?vb6) rfl (by kernel_rfl) (by kernel_rfl) (by kernel_rfl) (by kernel_rfl) (fun _ _ _ h => h) (Or.inl ⟨by rfl, ?yb6⟩) (by assumption) ?rb6
   case yb6 => (intro w9 _; go_simp <;> with_reducible rfl)
   try simp only [Act.put, List.setIfInBounds_toArray, List.set_cons_zero, List.set_cons_succ, List.getElem_toArray, List.getElem_cons_zero, List.getElem_cons_succ]
   refine wpAnyL_take (i := 7) (v := ?vb7) rfl (by kernel_rfl) (by kernel_rfl) (by kernel_rfl) (by kernel_rfl) (fun _ _ _ h => h) (Or.inl ⟨by rfl, ?yb7⟩) (by assumption) ?rb7
   case yb7 => (intro w9 hSw; rw [HS9.out] at hSw; obtain ⟨q0, q1, q2, q3, q4⟩ := hSw; go_simp <;> with_reducible rfl)
   try simp only [Act.put, List.setIfInBounds_toArray, List.set_cons_zero, List.set_cons_succ, List.getElem_toArray, List.getElem_cons_zero, List.getElem_cons_succ]
   clear hH
   refine wpAnyL_one (i := 8) (by kernel_rfl) rfl (fun K9 hK9 => ?_)
   try simp only [List.getElem_toArray, List.getElem_cons_zero, List.getElem_cons_succ]
   go_simp
   refine (HPL.out 1).mono ?_
   rintro r w5 ⟨rfl, ht5⟩
   have HT5 := hide (HEND.out w5 ht5)
   clear ht5
   try go_simp
   refine hK9.out _ _ (fun h9 => absurd h9 (by decide)) ?_
   clear hK9 K9
   try simp only [Act.put, List.setIfInBounds_toArray, List.set_cons_zero, List.set_cons_succ]
   refine wpAnyL_one (i := 9) (by kernel_rfl) rfl (fun K9 hK9 => ?_)
   try simp only [List.getElem_toArray, List.getElem_cons_zero, List.getElem_cons_succ]
   go_simp
   refine (must_errno E _ HT5.out.2.2.1.err).mono ?_
   rintro r w6 ⟨rfl, hB6⟩
   have HP : Hid (DoP w0 w g L (aRound d ws) (.panicked (wrongP E)) w6) := hide (by rw [HXA.out, if_neg HE0.out]; exact ⟨rfl, HT5.out.1.below hB6⟩)
   exact ⟨rfl, HP.out⟩
end
end
section
open Go Go.RowKit
attribute [local irreducible] startF
section
variable {w0 w : World} {g k : Nat} {d : Dk} {L : Ly} {A : Option Addr} {ws : List ByteArray}
set_option maxRecDepth 100000 in
set_option maxHeartbeats 4000000 in
theorem do_start (h : CmdIn w0 w g d L k A ws) (c : Nat) : Calls Tryz.prog 66 #[.pointer (some ⟨g, 0, none⟩), .slice A ws.length c] w (DoP w0 w g L (aStart d ws)) := by
 have HN := hide (h.nums (-1) (by omega) (by omega) c)
 have H := hide h
 clear h
 go_enter Tryz.func66, Tryz.ntmps66
 go_wp2_with fail
 refine HN.out.mono ?_
 rintro r w1 ⟨⟨hn, rfl⟩ | ⟨l, v, hn, rfl, hown⟩, hB1⟩
 case inl =>
  have HP := hide (H.out.bad (x := aStart d ws) (withN_none hn) hB1)
  go_wp2_with fail
  exact ⟨rfl, HP.out⟩
 have hl1 := (numbersF_len hn).2
 obtain ⟨gk, cp, rfl, hle, hgk0, hgk1, hc⟩ := nums_cells hown (by omega)
 match l, hl1, hn, hown, hle, hc with
 | x0 :: t, _, hn, hown, hle, hc =>
 have n0 := hc 0 x0 rfl
 have HI : Hid (IsL w1 (if cp = 1 then some ⟨gk, 0, none⟩ else some ⟨gk, 1, none⟩) t) := hide (fun j hj => by
  rw [if_neg (by rw [List.length_cons] at hle; omega)]
  refine ⟨gk, 1, rfl, ?_⟩
  have := hc (j + 1) (t.getD j 0) (by rw [List.getElem?_cons_succ, List.getElem?_eq_getElem hj, List.getD_eq_getElem?_getD, List.getElem?_eq_getElem hj]; rfl)
  rw [Nat.add_comm 1 j]
  exact this)
 have htl : t.length ≤ 50000 := by have h1 := numbersF_le hn; have h2 := H.out.wl; rw [List.length_cons] at h1; omega
 have HB1 := hide hB1; have HNU := hide hn
 obtain ⟨q, hq⟩ : ∃ q, t.length = q := ⟨_, rfl⟩
 have hlq : (x0 :: t).length = q + 1 := by simp [hq]
 rw [hlq] at hle ⊢
 clear hB1 hn hown hc hlq hl1
 have b1 : (1 : Int) ≤ ((q + 1 : Nat) : Int) := by omega
 have b2 : ((q + 1 : Nat) : Int) ≤ (cp : Int) := by omega
 have b3 : (1 : Int) ≤ (q : Int) + 1 := by omega
 have b4 : (q : Int) + 1 ≤ (cp : Int) := by omega
 have b5 : 1 ≤ q + 1 := by omega
 cases hd : d.c with
 | some y =>
  obtain ⟨a, b, c10, -⟩ := H.out.clCell HB1.out hd
  have HR := hide (ready_bad w1 (H.out.stdB HB1.out).err g _ false c10 rfl)
  have HX : Hid (aStart d ws = ⟨.error 6, d⟩) := hide ((withN_some HNU.out).trans (noC_some hd))
  clear c10
  go_wp2_with fail
  refine HR.out.mono ?_
  rintro r w2 ⟨rfl, hB2⟩
  have HP := hide (H.out.bad HX.out (HB1.out.trans (hB2.mono HB1.out.size)))
  go_wp2_with fail
  exact ⟨rfl, HP.out⟩
 | none =>
  have HR := hide (ready_ok w1 g none false (H.out.noCell HB1.out hd) rfl)
  have HD := hide (H.out.dk.below HB1.out)
  obtain ⟨AS, cs, AL, cl, e6, e7, s2, l2, q2⟩ := HD.out.plan_at H.out.ok.wn
  have q2' : WinsAt w1 none d.p.wn.length d.p.wn := by rw [H.out.ok.wn]; exact fun j hj => by simp at hj
  have hw0 : d.p.wn.length = 0 := by rw [H.out.ok.wn]; rfl
  have c0 := HD.out.blk.cell 0
  have f0 := HD.out.blk.frozen 0
  have c1 := HD.out.blk.cell 1
  have f1 := HD.out.blk.frozen 1
  have c2 := HD.out.blk.cell 2
  have f2 := HD.out.blk.frozen 2
  have c3 := HD.out.blk.cell 3
  have f3 := HD.out.blk.frozen 3
  have c4 := HD.out.blk.cell 4
  have f4 := HD.out.blk.frozen 4
  have c5 := HD.out.blk.cell 5
  have f5 := HD.out.blk.frozen 5
  have c6 := HD.out.blk.cell 6
  have f6 := HD.out.blk.frozen 6
  have c7 := HD.out.blk.cell 7
  have f7 := HD.out.blk.frozen 7
  have c8 := HD.out.blk.cell 8
  have f8 := HD.out.blk.frozen 8
  have c9 := HD.out.blk.cell 9
  have f9 := HD.out.blk.frozen 9
  have c10 := HD.out.blk.cell 10
  have f10 := HD.out.blk.frozen 10
  simp at c0 c1 c2 c3 c4 c5 c6 c7 c8 c9 c10
  rw [e6] at c6
  rw [e7] at c7
  have hlt : g < w1.heap.size := HD.out.blk.lt
  have HNN : Hid (∀ W', Below w1.heap.size w1 W' → W'.cell? ⟨g, 0, none⟩ = some (.int .i64 d.p.nd) ∧ W'.cell? ⟨g, 1, none⟩ = some (.int .i64 d.p.fa) ∧ W'.cell? ⟨g, 2, none⟩ = some (.int .i64 d.p.sk) ∧ W'.cell? ⟨g, 3, none⟩ = some (.int .i64 d.p.ji) ∧ W'.cell? ⟨g, 4, none⟩ = some (.int .i64 d.p.dr) ∧ W'.cell? ⟨g, 5, none⟩ = some (.int .i64 d.p.rd) ∧ W'.cell? ⟨g, 6, none⟩ = some (.slice AS d.p.sl.length cs) ∧ W'.cell? ⟨g, 7, none⟩ = some (.slice AL d.p.lk.length cl) ∧ W'.cell? ⟨g, 8, none⟩ = some (.int .i64 d.p.fr) ∧ W'.cell? ⟨g, 9, none⟩ = some (.slice none 0 0) ∧ W'.cell? ⟨gk, 0, none⟩ = some (.int .i64 x0)) := hide (fun W' hB => ⟨(hB.cell (p := ⟨g, 0, none⟩) hlt).trans c0, (hB.cell (p := ⟨g, 1, none⟩) hlt).trans c1, (hB.cell (p := ⟨g, 2, none⟩) hlt).trans c2, (hB.cell (p := ⟨g, 3, none⟩) hlt).trans c3, (hB.cell (p := ⟨g, 4, none⟩) hlt).trans c4, (hB.cell (p := ⟨g, 5, none⟩) hlt).trans c5, (hB.cell (p := ⟨g, 6, none⟩) hlt).trans c6, (hB.cell (p := ⟨g, 7, none⟩) hlt).trans c7, (hB.cell (p := ⟨g, 8, none⟩) hlt).trans c8, (hB.cell (p := ⟨g, 9, none⟩) hlt).trans c9, (hB.cell (p := ⟨gk, 0, none⟩) hgk1).trans n0⟩)
  have HA : Hid (aStart d ws = if newE d.p x0 t = 0 then ⟨.ok ⟨#[115, 116, 97, 114, 116]⟩, { d with c := some (x0.toNat, startF d.p t) }⟩ else ⟨.error (newE d.p x0 t), d⟩) := hide ((withN_some HNU.out).trans (noC_none hd))
  have f10' := f10
  by_cases hchk : chk d.p = (0, -1)
  case neg =>
   obtain ⟨hn1, hn2⟩ := newE_chk (f0 := x0) (zs := t) hchk
   have HX : Hid (aStart d ws = ⟨.error (chk d.p).1, d⟩) := hide (by rw [HA.out, hn1, if_neg hn2])
   have HNW : Hid (∀ B cz W, Below w1.heap.size w1 W → Calls Tryz.prog 107 #[.agg (planC d.p.nd d.p.fa d.p.sk d.p.ji d.p.dr d.p.rd (.slice AS d.p.sl.length cs) (.slice AL d.p.lk.length cl) d.p.fr (.slice none 0 0)), .int .i64 x0, .slice B q cz] W fun e w' =>
    ∃ v, e = .returned (.tuple #[.pointer none, v]) ∧ AtV w' v (chk d.p).1 (chk d.p).2 ∧ Below w1.heap.size w1 w') := hide (fun B cz W hB => by
    have := new_chk d.p AS cs AL cl none 0 x0 B q cz W hchk (s2.below hB) (l2.below hB) (q2'.below hB)
    rw [hw0] at this
    refine this.mono ?_
    rintro e w' ⟨v, he, hv | ⟨_, hv⟩, hb⟩
    ·exact absurd hv.1 (fun e => hchk (Prod.ext e hv.2.1))
    ·exact ⟨v, he, hv, hB.trans (hb.mono hB.size)⟩)
   clear HI hchk hn1 hn2 s2 l2 q2 q2' hw0 e6 e7 HA f0 f1 f2 f3 f4 f5 f6 f7 f8 f9 f10 c10 hq htl
   go_wp2_with fail
   refine HR.out.mono ?_
   rintro r w2 ⟨rfl, rfl⟩
   by_cases hcp : cp = 1
   all_goals
    go_wp2_with fail
    go_region_held3 (fun W' => W'.cell? ⟨g, 0, none⟩ = some (.int .i64 d.p.nd) ∧ W'.cell? ⟨g, 1, none⟩ = some (.int .i64 d.p.fa) ∧ W'.cell? ⟨g, 2, none⟩ = some (.int .i64 d.p.sk) ∧ W'.cell? ⟨g, 3, none⟩ = some (.int .i64 d.p.ji) ∧ W'.cell? ⟨g, 4, none⟩ = some (.int .i64 d.p.dr) ∧ W'.cell? ⟨g, 5, none⟩ = some (.int .i64 d.p.rd) ∧ W'.cell? ⟨g, 6, none⟩ = some (.slice AS d.p.sl.length cs) ∧ W'.cell? ⟨g, 7, none⟩ = some (.slice AL d.p.lk.length cl) ∧ W'.cell? ⟨g, 8, none⟩ = some (.int .i64 d.p.fr) ∧ W'.cell? ⟨g, 9, none⟩ = some (.slice none 0 0) ∧ W'.cell? ⟨gk, 0, none⟩ = some (.int .i64 x0)) (first | exact HNN.out _ (below_drewN (Below.refl _ _) 1) | exact HNN.out _ HB5.out)
     (first | (go_at_call 107; go_must (refine (HNW.out _ _ _ (below_drewN (Below.refl _ _) 1)).mono ?_); rintro r w5 ⟨v5, rfl, hv5, hB5⟩; have HB5 := hide hB5; have HV5 := hide hv5; clear hB5 hv5))
    all_goals
     have HB6 := hide (HB1.out.trans (HB5.out.mono HB1.out.size))
     have HMU := hide (must_erV HV5.out (H.out.stdB HB6.out).err)
     obtain ⟨tv, uv, rfl⟩ := HV5.out.iface
     go_wp2_with fail
     refine HMU.out.mono ?_
     rintro r w6 ⟨rfl, hB6⟩
     have HP := hide (H.out.bad HX.out (HB6.out.trans (hB6.mono HB6.out.size)))
     go_wp2_with fail
     exact ⟨rfl, HP.out⟩
  have hNI := newE_is (f0 := x0) (zs := t) hchk
  obtain ⟨E, hE⟩ : ∃ E, newE d.p x0 t = E := ⟨_, rfl⟩
  rw [hE] at hNI HA
  by_cases he : E = 0
  case neg =>
   have HX : Hid (aStart d ws = ⟨.error E, d⟩) := hide (by rw [HA.out, if_neg he])
   have he9 : errV E = .iface 61 (.int .i64 E) := by unfold errV; rw [if_neg he]
   have HNW : Hid (∀ W, Below w1.heap.size w1 W → Calls Tryz.prog 107 #[.agg (planC d.p.nd d.p.fa d.p.sk d.p.ji d.p.dr d.p.rd (.slice AS d.p.sl.length cs) (.slice AL d.p.lk.length cl) d.p.fr (.slice none 0 0)), .int .i64 x0, .slice (if cp = 1 then some ⟨gk, 0, none⟩ else some ⟨gk, 1, none⟩) q (cp - 1)] W fun e w' =>
    e = .returned (.tuple #[.pointer none, .iface 61 (.int .i64 E)]) ∧ Below w1.heap.size w1 w') := hide (fun W hB => by
    have := new_bad d.p AS cs AL cl none 0 x0 (if cp = 1 then some ⟨gk, 0, none⟩ else some ⟨gk, 1, none⟩) q (cp - 1) W hchk (s2.below hB) (l2.below hB) (q2'.below hB) t hq (HI.out.below (Nat.le_refl _) hB) (by omega) (by omega) E hNI he
    rw [hw0, he9] at this
    exact this.mono (fun e w' ⟨h1, h2⟩ => ⟨h1, hB.trans (h2.mono hB.size)⟩))
   clear HI hchk s2 l2 q2 q2' hw0 e6 e7 HA f0 f1 f2 f3 f4 f5 f6 f7 f8 f9 f10 c10 hq htl hE hNI he he9
   go_wp2_with fail
   refine HR.out.mono ?_
   rintro r w2 ⟨rfl, rfl⟩
   by_cases hcp : cp = 1
   all_goals
    simp only [hcp, if_true, if_false] at HNW
    go_wp2_with fail
    go_region_held3 (fun W' => W'.cell? ⟨g, 0, none⟩ = some (.int .i64 d.p.nd) ∧ W'.cell? ⟨g, 1, none⟩ = some (.int .i64 d.p.fa) ∧ W'.cell? ⟨g, 2, none⟩ = some (.int .i64 d.p.sk) ∧ W'.cell? ⟨g, 3, none⟩ = some (.int .i64 d.p.ji) ∧ W'.cell? ⟨g, 4, none⟩ = some (.int .i64 d.p.dr) ∧ W'.cell? ⟨g, 5, none⟩ = some (.int .i64 d.p.rd) ∧ W'.cell? ⟨g, 6, none⟩ = some (.slice AS d.p.sl.length cs) ∧ W'.cell? ⟨g, 7, none⟩ = some (.slice AL d.p.lk.length cl) ∧ W'.cell? ⟨g, 8, none⟩ = some (.int .i64 d.p.fr) ∧ W'.cell? ⟨g, 9, none⟩ = some (.slice none 0 0) ∧ W'.cell? ⟨gk, 0, none⟩ = some (.int .i64 x0)) (first | exact HNN.out _ (below_drewN (Below.refl _ _) 1) | exact HNN.out _ HB5.out)
     (first | (go_at_call 107; go_must (refine (HNW.out _ (below_drewN (Below.refl _ _) 1)).mono ?_); rintro r w5 ⟨rfl, hB5⟩; have HB5 := hide hB5; clear hB5))
    all_goals
     have HB6 := hide (HB1.out.trans (HB5.out.mono HB1.out.size))
     have HMU := hide (must_errno E w5 (H.out.stdB HB6.out).err)
     go_wp2_with fail
     refine HMU.out.mono ?_
     rintro r w6 ⟨rfl, hB6⟩
     have HP := hide (H.out.bad HX.out (HB6.out.trans (hB6.mono HB6.out.size)))
     go_wp2_with fail
     exact ⟨rfl, HP.out⟩
  subst he
  obtain ⟨⟨fy, rfl, hfy, hli⟩, hlen, hck⟩ := hNI.good
  have hp := PlOk.of hchk
  have hn1 := hp.n1
  have hcp : cp ≠ 1 := by omega
  have HX : Hid (aStart d ws = ⟨.ok ⟨#[115, 116, 97, 114, 116]⟩, { d with c := some (fy, startF d.p t) }⟩) := hide (by rw [HA.out, if_pos rfl]; rfl)
  have HNW : Hid (∀ W, Below w1.heap.size w1 W → Calls Tryz.prog 107 #[.agg (planC d.p.nd d.p.fa d.p.sk d.p.ji d.p.dr d.p.rd (.slice AS d.p.sl.length cs) (.slice AL d.p.lk.length cl) d.p.fr (.slice none 0 0)), .int .i64 (fy : Nat), .slice (some ⟨gk, 1, none⟩) q (cp - 1)] W fun e w' =>
   ∃ a : Ad, e = .returned (.tuple #[.pointer (some ⟨a.g, 0, none⟩), .nilIface]) ∧ Below w1.heap.size w1 w' ∧ DkTo w0 w g L (w'.setCell ⟨g, 10, none⟩ (ptrV a.g)) { d with c := some (fy, startF d.p t) }) := hide (fun W hB => by
   have hi := HI.out.below (Nat.le_refl _) hB
   rw [if_neg hcp] at hi
   have := new_any W d.p AS cs AL cl none 0 hchk (s2.below hB) (l2.below hB) (q2'.below hB) fy hfy hli gk 1 (cp - 1) t hi (by omega) hlen (wild_all hck.1) hck.2
   rw [hw0, ← hlen, hq] at this
   refine this.mono ?_
   rintro e w' ⟨a, he, hb, hA⟩
   refine ⟨a, he, hB.trans (hb.mono hB.size), ?_⟩
   rw [← e6, ← e7] at hA
   exact DkTo.after HB1.out (HD.out.start hd (hB.trans (hb.mono hB.size)) hB.size hA))
  have HG : Hid (∀ W, Below w1.heap.size w1 W → W.cell? ⟨g, 10, none⟩ = some L.cv ∧ W.frozen? ⟨g, 10, none⟩ = false) := hide (fun W hB => ⟨(hB.cell (p := ⟨g, 10, none⟩) hlt).trans c10, (hB.frozen (p := ⟨g, 10, none⟩) hlt).trans f10⟩)
  clear HI hchk s2 l2 q2 q2' hw0 e6 e7 HA f0 f1 f2 f3 f4 f5 f6 f7 f8 f9 f10 f10' c10 hq htl hE hNI hli hfy hlen hck hp hn1
  go_wp2_with fail
  refine HR.out.mono ?_
  rintro r w2 ⟨rfl, rfl⟩
  go_wp2_with fail
  go_region_held3 (fun W' => W'.cell? ⟨g, 0, none⟩ = some (.int .i64 d.p.nd) ∧ W'.cell? ⟨g, 1, none⟩ = some (.int .i64 d.p.fa) ∧ W'.cell? ⟨g, 2, none⟩ = some (.int .i64 d.p.sk) ∧ W'.cell? ⟨g, 3, none⟩ = some (.int .i64 d.p.ji) ∧ W'.cell? ⟨g, 4, none⟩ = some (.int .i64 d.p.dr) ∧ W'.cell? ⟨g, 5, none⟩ = some (.int .i64 d.p.rd) ∧ W'.cell? ⟨g, 6, none⟩ = some (.slice AS d.p.sl.length cs) ∧ W'.cell? ⟨g, 7, none⟩ = some (.slice AL d.p.lk.length cl) ∧ W'.cell? ⟨g, 8, none⟩ = some (.int .i64 d.p.fr) ∧ W'.cell? ⟨g, 9, none⟩ = some (.slice none 0 0) ∧ W'.cell? ⟨gk, 0, none⟩ = some (.int .i64 (fy : Nat))) (first | exact HNN.out _ (below_drewN (Below.refl _ _) 1) | exact HNN.out _ HB5.out)
   (first | (go_at_call 107; go_must (refine (HNW.out _ (below_drewN (Below.refl _ _) 1)).mono ?_); rintro r w5 ⟨a5, rfl, hB5, ht5⟩; have HB5 := hide hB5; have HT5 := hide ht5; clear hB5 ht5))
  all_goals
   have HMU := hide (must_nil w5)
   obtain ⟨g10, g10f⟩ := HG.out w5 HB5.out
   have HP : Hid (DoP w0 w g L (aStart d ws) (.returned (.string ⟨#[115, 116, 97, 114, 116]⟩)) (w5.setCell ⟨g, 10, none⟩ (ptrV a5.g))) := hide (by rw [HX.out]; exact ⟨rfl, HT5.out⟩)
   go_wp2_with fail
   refine HMU.out.mono ?_
   rintro r w6 ⟨rfl, rfl⟩
   go_wp2_with fail
   go_ret
   exact HP.out
end
end
section
open Go Go.RowKit
def CmdR (g : Nat) (v : Value) (f : Dk → List ByteArray → Ans) : Prop := ∃ fn, v = .func (.func fn) #[.pointer (some ⟨g, 0, none⟩)] #[] ∧ (∀ args w, (callFunc fn args).run Tryz.prog w = .ok (.enter fn args) w) ∧
 ∀ (w0 w : World) (d : Dk) (L : Ly) (k : Nat) (A : Option Addr) (ws : List ByteArray) (c : Nat), CmdIn w0 w g d L k A ws → ws.length ≤ c → Calls Tryz.prog fn #[.pointer (some ⟨g, 0, none⟩), .slice A ws.length c] w (DoP w0 w g L (f d ws))
theorem does_twin (g : Nat) : TwinL (CmdR g) (doesL g) cmdL := by
 unfold doesL cmdL
 refine ⟨⟨rfl, _, rfl, enters_of Tryz.func47 (by kernel_rfl) rfl, fun w0 w d L k A ws c h _ => do_bytes h c⟩, ?_⟩
 refine ⟨⟨rfl, _, rfl, enters_of Tryz.func48 (by kernel_rfl) rfl, fun w0 w d L k A ws c h _ => do_clear h c⟩, ?_⟩
 refine ⟨⟨rfl, _, rfl, enters_of Tryz.func49 (by kernel_rfl) rfl, fun w0 w d L k A ws c h _ => do_clocks h c⟩, ?_⟩
 refine ⟨⟨rfl, _, rfl, enters_of Tryz.func50 (by kernel_rfl) rfl, fun w0 w d L k A ws c h _ => do_drift h c⟩, ?_⟩
 refine ⟨⟨rfl, _, rfl, enters_of Tryz.func51 (by kernel_rfl) rfl, fun w0 w d L k A ws c h _ => do_help h c⟩, ?_⟩
 refine ⟨⟨rfl, _, rfl, enters_of Tryz.func52 (by kernel_rfl) rfl, fun w0 w d L k A ws c h _ => do_link h c⟩, ?_⟩
 refine ⟨⟨rfl, _, rfl, enters_of Tryz.func53 (by kernel_rfl) rfl, fun w0 w d L k A ws c h _ => do_local h c⟩, ?_⟩
 refine ⟨⟨rfl, _, rfl, enters_of Tryz.func54 (by kernel_rfl) rfl, fun w0 w d L k A ws c h _ => do_lose h c⟩, ?_⟩
 refine ⟨⟨rfl, _, rfl, enters_of Tryz.func55 (by kernel_rfl) rfl, fun w0 w d L k A ws c h _ => do_members h c⟩, ?_⟩
 refine ⟨⟨rfl, _, rfl, enters_of Tryz.func56 (by kernel_rfl) rfl, fun w0 w d L k A ws c h _ => do_midpoint h c⟩, ?_⟩
 refine ⟨⟨rfl, _, rfl, enters_of Tryz.func57 (by kernel_rfl) rfl, fun w0 w d L k A ws c h _ => do_mode h c⟩, ?_⟩
 refine ⟨⟨rfl, _, rfl, enters_of Tryz.func58 (by kernel_rfl) rfl, fun w0 w d L k A ws c h _ => do_plans h c⟩, ?_⟩
 refine ⟨⟨rfl, _, rfl, enters_of Tryz.func59 (by kernel_rfl) rfl, fun w0 w d L k A ws c h hc => do_put h c hc⟩, ?_⟩
 refine ⟨⟨rfl, _, rfl, enters_of Tryz.func60 (by kernel_rfl) rfl, fun w0 w d L k A ws c h _ => do_read h c⟩, ?_⟩
 refine ⟨⟨rfl, _, rfl, enters_of Tryz.func61 (by kernel_rfl) rfl, fun w0 w d L k A ws c h _ => do_real h c⟩, ?_⟩
 refine ⟨⟨rfl, _, rfl, enters_of Tryz.func62 (by kernel_rfl) rfl, fun w0 w d L k A ws c h _ => do_receive h c⟩, ?_⟩
 refine ⟨⟨rfl, _, rfl, enters_of Tryz.func63 (by kernel_rfl) rfl, fun w0 w d L k A ws c h _ => do_rounds h c⟩, ?_⟩
 refine ⟨⟨rfl, _, rfl, enters_of Tryz.func64 (by kernel_rfl) rfl, fun w0 w d L k A ws c h _ => do_slot h c⟩, ?_⟩
 refine ⟨⟨rfl, _, rfl, enters_of Tryz.func65 (by kernel_rfl) rfl, fun w0 w d L k A ws c h _ => do_spread h c⟩, ?_⟩
 exact ⟨⟨rfl, _, rfl, enters_of Tryz.func66 (by kernel_rfl) rfl, fun w0 w d L k A ws c h _ => do_start h c⟩, trivial⟩
theorem does_of (g : Nat) (s : ByteArray) : (cmdF s = none ∧ doesV g s = .nilFunc) ∨ ∃ f, cmdF s = some f ∧ CmdR g (doesV g s) f := by
 rcases lookS_two (s := s) (does_twin g) with ⟨h1, h2⟩ | ⟨x, y, h1, h2, h3⟩
 ·exact .inl ⟨h2, by rw [does_look, h1]; rfl⟩
 ·exact .inr ⟨y, h2, by rw [does_look, h1]; exact h3⟩
end
end Go.Proofs.YtideefjnlakciaaGreatDoor
