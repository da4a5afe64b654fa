/- The contract of cluster.Cluster.sets; conditions: the cluster and the round lie in memory; errors.errorType holds what start-up lays there. -/
import Derived.Test.YtideefjnlakciaaGreatDoorP09
import Derived.Test.YtideefjnlakciaaGreatDoorP04
import Derived.Test.YtideefjnlakciaaGreatDoorP13
import Derived.Test.YtideefjnlakciaaGreatDoorP11
import Derived.Deep.AppendLies
import Derived.BigRegion
import Derived.Deep.RegionLaw
import Derived.StillTailTactics
set_option linter.unusedVariables false
set_option linter.unusedSimpArgs false
namespace Go.Proofs.YtideefjnlakciaaGreatDoor
section
open Go Go.RowKit
attribute [local irreducible] clampV rowI readF setL driftF wildB liesB
set_option maxRecDepth 100000 in
set_option maxHeartbeats 8000000 in
theorem sets_any {base : Nat} {a : Ad} {p : Pl} {P : Sv3} {fy : Nat} {c : Cl} {N : Nat} (w : World) {K : World → (Ix → Ob) → Prop} (hKK : Cls K) (h : ClAt w base a (fullN p) p P fy c) (hp : PlOk p) (hc : ClOk p N c) (hfy : fy < 65536) (hB0 : K w (shape a (fullN p) p P fy c)) (hbase : base ≤ w.heap.size) (hE : ∀ W S, K W S → ErrT W)
 (r : Rn) (y0 : Value) (A : Option Addr) (ca : Nat) (hA : ∀ W S, K W S → RgAt W A r.rg) (hmax : r.rg.length ≤ 9223372036854775807) (B : Option Addr) (cb : Nat) (hB : ∀ W S, K W S → IsL W B r.dr) (hmb : r.dr.length ≤ 9223372036854775807) (y3 : Value) :
 Calls Tryz.prog 140 #[.pointer (some ⟨a.g, 0, none⟩), .agg #[y0, .slice A r.rg.length ca, .slice B r.dr.length cb, y3]] w fun e w' =>
  (wildB (setsF p fy c.ck r) = true ∧ e = .returned (.tuple #[.slice none 0 0, errV 6]) ∧ ClTo w base a (fullN p) p P fy c w' c) ∨
  (wildB (setsF p fy c.ck r) = false ∧ ∃ g cp, e = .returned (.tuple #[.slice (some ⟨g, 0, none⟩) p.nd.toNat cp, .nilIface]) ∧ (ClAt w' base a (fullN p) p P fy c ∧ KeptS w w' (shape a (fullN p) p P fy c) (shape a (fullN p) p P fy c)) ∧ w.heap.size ≤ g ∧ w'.ownsRow w.heap.size 3 1 (.slice (some ⟨g, 0, none⟩) p.nd.toNat cp) p.nd.toNat ((setsF p fy c.ck r).map (Value.int .i64))) := by
 have hn16 := hp.n16
 have hn1 := hp.n1
 obtain ⟨nd, hnd⟩ : ∃ nd, p.nd.toNat = nd := ⟨_, rfl⟩
 have hnd1 : 0 < nd := by omega
 have hnd16 : nd ≤ 16 := by omega
 have hpnd : p.nd = (nd : Int) := by omega
 obtain ⟨w7, hw7⟩ : ∃ w7, w.alloc (.cells #[y0, .slice A r.rg.length ca, .slice B r.dr.length cb, y3] 35) = w7 := ⟨_, rfl⟩
 have hBW : Below w.heap.size w w7 := by rw [← hw7]; exact (Below.refl w.heap.size w).alloc (Nat.le_refl _) _
 have hX : Blk w7 w.heap.size 35 #[y0, .slice A r.rg.length ca, .slice B r.dr.length cb, y3] := by rw [← hw7]; exact Blk.new w _ _
 have HKW := hide (KeptS.of_below (S := shape a (fullN p) p P fy c) hBW)
 have HN3 := hide (h.not_new (Nat.le_refl w.heap.size))
 have Hh := hide (h.below hBW)
 have HKK := hide hKK
 have HB0 := hide (hKK.step hB0 HKW.out)
 have hbase7 := Nat.le_trans hbase hBW.size
 obtain ⟨G, hG⟩ : ∃ G, a.g = G := ⟨_, rfl⟩
 rw [hG]
 have k0 := (h.cluC hG).1
 rw [hpnd] at k0
 have hGlt := h.cluB.lt
 rw [hG] at hGlt
 have hlen : c.ck.length = nd := by rw [hc.len]; exact hnd
 obtain ⟨bk, ok, ckp, hck⟩ := h.ckV hlen hnd1
 have HCK := hide hck; have HLN := hide hlen; have HCKB := hide hc.ck
 have HX := hide hX; have HP := hide hp; have HOK := hide hc; have HG := hide hG; have HA := hide hA; have HB := hide hB; have HE := hide hE; have HND := hide hnd; have HPN := hide hpnd; have HW7 := hide hw7
 clear hw7 hX h hp hc hG hA hB hE hB0 hKK hBW hck hlen hn16 hn1 hpnd
 rw [hnd]
 clear hnd
 obtain ⟨cs, hmk, hcs1, hcs2⟩ := make_rows nd (by omega)
 have HV0 := hide (HvAt.start (w7 := w7) hcs1 hcs2)
 obtain ⟨i0, hi, hz0, hz1, hz2⟩ := en_info_parts ar_info
 clear hcs1 hcs2
 go_enter Tryz.func140, Tryz.ntmps140
 go_wp2_with fail
 rw [HW7.out]
 have hsz7 : (w.heap.size + 1) = w7.heap.size := by rw [← HW7.out]; simp
 rw [hsz7]
 clear hmk k0 hGlt
 have HSZ7 := hide hsz7
 clear hsz7
 go_loopw [27] (fun i wr => ∃ (j : Nat) (V : Nat → Value), j ≤ nd ∧ i = .int .i64 j ∧ V nd = .slice none 0 0 ∧ Hid (HvAt w7 wr nd V (Rp c.ck nd j 0))) (fun i _ => nd - (intOf i).toNat)
 case atStart => exact ⟨0, fun _ => .slice none 0 0, by omega, rfl, rfl, hide (HV0.out.congr fun j _ => Rp_zero c.ck nd j)⟩
 case round =>
  obtain ⟨j, V, hj, rfl, hVn, HV⟩ := hrel
  by_cases hjn : j < nd
  ·go_wp2_with fail
   go_loopw [31] (fun i wr2 => ∃ (m : Nat) (V2 : Nat → Value), m ≤ nd ∧ i = .int .i64 m ∧ V2 nd = .slice none 0 0 ∧ Hid (HvAt w7 wr2 nd V2 (Rp c.ck nd j m))) (fun i _ => nd - (intOf i).toNat)
   case atStart => exact ⟨0, V, by omega, rfl, hVn, HV⟩
   case round =>
    obtain ⟨m, V2, hm, rfl, hV2n, HV2⟩ := hrel
    by_cases hmn : m < nd
    ·have HA1 := hide (Hh.out.below HV2.out.old)
     have k11 := (HA1.out.cluB).cell 11
     simp at k11
     rw [HG.out, HCK.out] at k11
     have hI := HA1.out.ckI HLN.out HCK.out
     obtain ⟨b1, o1, e1, cm⟩ := hI m (by rw [HLN.out]; exact hmn)
     cases e1
     obtain ⟨b2, o2, e2, cj⟩ := hI j (by rw [HLN.out]; exact hjn)
     cases e2
     have bm := HCKB.out m
     have bj := HCKB.out j
     have HPU := hide (Rp_push c.ck nd j m)
     obtain ⟨xm, hxm⟩ : ∃ xm, c.ck.getD m 0 = xm := ⟨_, rfl⟩
     obtain ⟨xj, hxj⟩ : ∃ xj, c.ck.getD j 0 = xj := ⟨_, rfl⟩
     rw [hxm] at cm bm HPU
     rw [hxj] at cj bj HPU
     obtain ⟨x, hx⟩ : ∃ x, xm - xj = x := ⟨_, rfl⟩
     have hxb1 : -600000000000 ≤ x := by omega
     have hxb2 : x ≤ 600000000000 := by omega
     rw [hx] at HPU
     obtain ⟨vj, hvj⟩ : ∃ vj, V2 j = vj := ⟨_, rfl⟩
     have HV9 : Hid (HvAt w7 wr.drew nd V2 (Rp c.ck nd j m)) := hide (HV2.out.drewN 1)
     have hcell : wr.cell? ⟨w7.heap.size, j, none⟩ = some vj := by rw [HV2.out.cell hjn, hvj]
     have HVJ := hide hvj
     have HMX : Hid (m + 1 ≤ maxLen ∧ (m + 1) * 8 ≤ 140737488355328) := hide (by simp [maxLen]; omega)
     have HXM := hide hxm; have HXJ := hide hxj
     have HEW : Hid (IntKind.i64.wrap x = x) := hide (IntWalk.i64_in _ (by omega))
     clear hvj hxm hxj bm bj hI
     obtain ⟨S9, hS9⟩ : ∃ S9 : World → Prop, S9 = fun w' => w'.cell? ⟨w7.heap.size, j, none⟩ = some vj ∧ w'.cell? ⟨G, 11, none⟩ = some (.slice (some ⟨bk, ok, none⟩) nd ckp) ∧ w'.cell? ⟨bk, ok + m, none⟩ = some (.int .i64 xm) ∧ w'.cell? ⟨bk, ok + j, none⟩ = some (.int .i64 xj) := ⟨_, rfl⟩
     have HS9 := hide hS9; clear hS9
     have HS8 : Hid (∀ W, Below w7.heap.size w7 W → W.cell? ⟨w7.heap.size, j, none⟩ = some vj → S9 W) := hide (fun W hB hc0 => by
      have hA := Hh.out.below hB
      have c11 := (hA.cluB).cell 11
      simp at c11
      rw [HG.out, HCK.out] at c11
      have hI := hA.ckI HLN.out HCK.out
      obtain ⟨b1, o1, e1, c1⟩ := hI m (by rw [HLN.out]; exact hmn)
      cases e1
      obtain ⟨b2, o2, e2, c2⟩ := hI j (by rw [HLN.out]; exact hjn)
      cases e2
      rw [HXM.out] at c1
      rw [HXJ.out] at c2
      rw [HS9.out]
      exact ⟨hc0, c11, c1, c2⟩)
     have hH : S9 wr.drew := by rw [HS9.out]; exact ⟨hcell, k11, cm, cj⟩
     have HH := hide hH; clear hH
     go_upto_region 9 with fail
     refine wp_region_noPanic ?_
     refine wp_region_L (S := S9) (L := 24) (by kernel_rfl) ?_
     clear k11 cm cj hcell
     have hH := HH.out
     try simp only [List.size_toArray, List.length_cons, List.length_nil, Nat.reduceAdd]
     refine wpAnyL_take (i := 0) (v := ?v0) rfl (by kernel_rfl) (by kernel_rfl) (by kernel_rfl) (by kernel_rfl) (fun _ _ _ h => h) (Or.inl ⟨by rfl, ?hy0⟩) (by assumption) ?rest0
     case hy0 => (intro w9 hSw; rw [HS9.out] at hSw; obtain ⟨q0, q1, q2, q3⟩ := hSw; go_simp <;> with_reducible rfl)
     try simp only [Act.put, List.setIfInBounds_toArray, List.set_cons_zero, List.set_cons_succ, List.getElem_toArray, List.getElem_cons_zero]
     refine wpAnyL_take (i := 1) (v := ?v1) rfl (by kernel_rfl) (by kernel_rfl) (by kernel_rfl) (by kernel_rfl) (fun _ _ _ h => h) (Or.inl ⟨by rfl, ?hy1⟩) (by assumption) ?rest1
     case hy1 => (intro w9 hSw; rw [HS9.out] at hSw; obtain ⟨q0, q1, q2, q3⟩ := hSw; go_simp <;> with_reducible rfl)
     try simp only [Act.put, List.setIfInBounds_toArray, List.set_cons_zero, List.set_cons_succ, List.getElem_toArray, List.getElem_cons_zero, List.getElem_cons_succ]
     refine wpAnyL_take (i := 2) (v := ?v2) rfl (by kernel_rfl) (by kernel_rfl) (by kernel_rfl) (by kernel_rfl) (fun _ _ _ h => h) (Or.inl ⟨by rfl, ?hy2⟩) (by assumption) ?rest2
     case hy2 => (intro w9 hSw; rw [HS9.out] at hSw; obtain ⟨q0, q1, q2, q3⟩ := hSw; go_simp <;> with_reducible rfl)
     try simp only [Act.put, List.setIfInBounds_toArray, List.set_cons_zero, List.set_cons_succ, List.getElem_toArray, List.getElem_cons_zero, List.getElem_cons_succ]
     refine wpAnyL_take (i := 3) (v := ?v3) rfl (by kernel_rfl) (by kernel_rfl) (by kernel_rfl) (by kernel_rfl) (fun _ _ _ h => h) (Or.inl ⟨by rfl, ?hy3⟩) (by assumption) ?rest3
     case hy3 => (intro w9 hSw; rw [HS9.out] at hSw; obtain ⟨q0, q1, q2, q3⟩ := hSw; go_simp <;> with_reducible rfl)
     try simp only [Act.put, List.setIfInBounds_toArray, List.set_cons_zero, List.set_cons_succ, List.getElem_toArray, List.getElem_cons_zero, List.getElem_cons_succ]
     refine wpAnyL_take (i := 4) (v := ?v4) rfl (by kernel_rfl) (by kernel_rfl) (by kernel_rfl) (by kernel_rfl) (fun _ _ _ h => h) (Or.inl ⟨by rfl, ?hy4⟩) (by assumption) ?rest4
     case hy4 => (intro w9 hSw; rw [HS9.out] at hSw; obtain ⟨q0, q1, q2, q3⟩ := hSw; go_simp <;> with_reducible rfl)
     try simp only [Act.put, List.setIfInBounds_toArray, List.set_cons_zero, List.set_cons_succ, List.getElem_toArray, List.getElem_cons_zero, List.getElem_cons_succ]
     refine wpAnyL_take (i := 5) (v := ?v5) rfl (by kernel_rfl) (by kernel_rfl) (by kernel_rfl) (by kernel_rfl) (fun _ _ _ h => h) (Or.inl ⟨by rfl, ?hy5⟩) (by assumption) ?rest5
     case hy5 => (intro w9 hSw; rw [HS9.out] at hSw; obtain ⟨q0, q1, q2, q3⟩ := hSw; go_simp <;> with_reducible rfl)
     try simp only [Act.put, List.setIfInBounds_toArray, List.set_cons_zero, List.set_cons_succ, List.getElem_toArray, List.getElem_cons_zero, List.getElem_cons_succ]
     refine wpAnyL_take (i := 6) (v := ?v6) rfl (by kernel_rfl) (by kernel_rfl) (by kernel_rfl) (by kernel_rfl) (fun _ _ _ h => h) (Or.inl ⟨by rfl, ?hy6⟩) (by assumption) ?rest6
     case hy6 => (intro w9 hSw; rw [HS9.out] at hSw; obtain ⟨q0, q1, q2, q3⟩ := hSw; go_simp <;> with_reducible rfl)
     try simp only [Act.put, List.setIfInBounds_toArray, List.set_cons_zero, List.set_cons_succ, List.getElem_toArray, List.getElem_cons_zero, List.getElem_cons_succ]
     refine wpAnyL_take (i := 7) (v := ?v7) rfl (by kernel_rfl) (by kernel_rfl) (by kernel_rfl) (by kernel_rfl) (fun _ _ _ h => h) (Or.inl ⟨by rfl, ?hy7⟩) (by assumption) ?rest7
     case hy7 => (intro w9 hSw; rw [HS9.out] at hSw; obtain ⟨q0, q1, q2, q3⟩ := hSw; go_simp <;> with_reducible rfl)
     try simp only [Act.put, List.setIfInBounds_toArray, List.set_cons_zero, List.set_cons_succ, List.getElem_toArray, List.getElem_cons_zero, List.getElem_cons_succ]
     refine wpAnyL_take (i := 8) (v := ?v8) rfl (by kernel_rfl) (by kernel_rfl) (by kernel_rfl) (by kernel_rfl) (fun _ _ _ h => h) (Or.inl ⟨by rfl, ?hy8⟩) (by assumption) ?rest8
     case hy8 => (intro w9 hSw; rw [HS9.out] at hSw; obtain ⟨q0, q1, q2, q3⟩ := hSw; go_simp <;> with_reducible rfl)
     try simp only [Act.put, List.setIfInBounds_toArray, List.set_cons_zero, List.set_cons_succ, List.getElem_toArray, List.getElem_cons_zero, List.getElem_cons_succ]
     refine wpAnyL_take (i := 9) (v := ?v9) rfl (by kernel_rfl) (by kernel_rfl) (by kernel_rfl) (by kernel_rfl) (fun _ _ _ h => h) (Or.inl ⟨by rfl, ?hy9⟩) (by assumption) ?rest9
     case hy9 => (intro w9 hSw; rw [HS9.out] at hSw; obtain ⟨q0, q1, q2, q3⟩ := hSw; go_simp <;> with_reducible rfl)
     try simp only [Act.put, List.setIfInBounds_toArray, List.set_cons_zero, List.set_cons_succ, List.getElem_toArray, List.getElem_cons_zero, List.getElem_cons_succ]
     refine wpAnyL_take (i := 10) (v := ?v10) rfl (by kernel_rfl) (by kernel_rfl) (by kernel_rfl) (by kernel_rfl) (fun _ _ _ h => h) (Or.inl ⟨by rfl, ?hy10⟩) (by assumption) ?rest10
     case hy10 => (intro w9 hSw; rw [HS9.out] at hSw; obtain ⟨q0, q1, q2, q3⟩ := hSw; go_simp <;> with_reducible rfl)
     try simp only [Act.put, List.setIfInBounds_toArray, List.set_cons_zero, List.set_cons_succ, List.getElem_toArray, List.getElem_cons_zero, List.getElem_cons_succ]
     refine wpAnyL_take (i := 11) (v := ?v11) rfl (by kernel_rfl) (by kernel_rfl) (by kernel_rfl) (by kernel_rfl) (fun _ _ _ h => h) (Or.inl ⟨by rfl, ?hy11⟩) (by assumption) ?rest11
     case hy11 => (intro w9 hSw; rw [HS9.out] at hSw; obtain ⟨q0, q1, q2, q3⟩ := hSw; go_simp <;> with_reducible rfl)
     try simp only [Act.put, List.setIfInBounds_toArray, List.set_cons_zero, List.set_cons_succ, List.getElem_toArray, List.getElem_cons_zero, List.getElem_cons_succ]
     refine wpAnyL_take (i := 12) (v := ?v12) rfl (by kernel_rfl) (by kernel_rfl) (by kernel_rfl) (by kernel_rfl) (fun _ _ _ h => h) (Or.inl ⟨by rfl, ?hy12⟩) (by assumption) ?rest12
     case hy12 => (intro w9 hSw; rw [HS9.out] at hSw; obtain ⟨q0, q1, q2, q3⟩ := hSw; go_simp <;> with_reducible rfl)
     try simp only [Act.put, List.setIfInBounds_toArray, List.set_cons_zero, List.set_cons_succ, List.getElem_toArray, List.getElem_cons_zero, List.getElem_cons_succ]
     refine wpAnyL_take (i := 13) (v := ?v13) rfl (by kernel_rfl) (by kernel_rfl) (by kernel_rfl) (by kernel_rfl) (fun _ _ _ h => h) (Or.inl ⟨by rfl, ?hy13⟩) (by assumption) ?rest13
     case hy13 => (intro w9 hSw; rw [HS9.out] at hSw; obtain ⟨q0, q1, q2, q3⟩ := hSw; go_simp <;> with_reducible rfl)
     try simp only [Act.put, List.setIfInBounds_toArray, List.set_cons_zero, List.set_cons_succ, List.getElem_toArray, List.getElem_cons_zero, List.getElem_cons_succ]
     refine wpAnyL_take (i := 14) (v := ?v14) rfl (by kernel_rfl) (by kernel_rfl) (by kernel_rfl) (by kernel_rfl) (fun _ _ _ h => h) (Or.inl ⟨by rfl, ?hy14⟩) (by assumption) ?rest14
     case hy14 => (intro w9 hSw; rw [HS9.out] at hSw; obtain ⟨q0, q1, q2, q3⟩ := hSw; go_simp <;> with_reducible rfl)
     try simp only [Act.put, List.setIfInBounds_toArray, List.set_cons_zero, List.set_cons_succ, List.getElem_toArray, List.getElem_cons_zero, List.getElem_cons_succ]
     refine wpAnyL_take (i := 15) (v := ?v15) rfl (by kernel_rfl) (by kernel_rfl) (by kernel_rfl) (by kernel_rfl) (fun _ _ _ h => h) (Or.inl ⟨by rfl, ?hy15⟩) (by assumption) ?rest15
     case hy15 => (intro w9 hSw; rw [HS9.out] at hSw; obtain ⟨q0, q1, q2, q3⟩ := hSw; go_simp <;> with_reducible rfl)
     try simp only [Act.put, List.setIfInBounds_toArray, List.set_cons_zero, List.set_cons_succ, List.getElem_toArray, List.getElem_cons_zero, List.getElem_cons_succ]
     refine wpAnyL_take (i := 16) (v := ?v16) rfl (by kernel_rfl) (by kernel_rfl) (by kernel_rfl) (by kernel_rfl) (fun _ _ _ h => h) (Or.inl ⟨by rfl, ?hy16⟩) (by assumption) ?rest16
     case hy16 => (intro w9 hSw; rw [HS9.out] at hSw; obtain ⟨q0, q1, q2, q3⟩ := hSw; go_simp <;> with_reducible rfl)
     try simp only [Act.put, List.setIfInBounds_toArray, List.set_cons_zero, List.set_cons_succ, List.getElem_toArray, List.getElem_cons_zero, List.getElem_cons_succ]
     refine wpAnyL_take (i := 17) (v := ?v17) rfl (by kernel_rfl) (by kernel_rfl) (by kernel_rfl) (by kernel_rfl) (fun _ _ _ h => h) (Or.inl ⟨by rfl, ?hy17⟩) (by assumption) ?rest17
     case hy17 => (intro w9 hSw; rw [HS9.out] at hSw; obtain ⟨q0, q1, q2, q3⟩ := hSw; go_simp <;> with_reducible rfl)
     try simp only [Act.put, List.setIfInBounds_toArray, List.set_cons_zero, List.set_cons_succ, List.getElem_toArray, List.getElem_cons_zero, List.getElem_cons_succ]
     refine wpAnyL_take (i := 18) (v := ?v18) rfl (by kernel_rfl) (by kernel_rfl) (by kernel_rfl) (by kernel_rfl) (fun _ _ _ h => h) (Or.inl ⟨by rfl, ?hy18⟩) (by assumption) ?rest18
     case hy18 => (intro w9 hSw; rw [HS9.out] at hSw; obtain ⟨q0, q1, q2, q3⟩ := hSw; go_simp <;> with_reducible rfl)
     try simp only [Act.put, List.setIfInBounds_toArray, List.set_cons_zero, List.set_cons_succ, List.getElem_toArray, List.getElem_cons_zero, List.getElem_cons_succ]
     refine wpAnyL_take (i := 19) (v := ?v19) rfl (by kernel_rfl) (by kernel_rfl) (by kernel_rfl) (by kernel_rfl) (fun _ _ _ h => h) (Or.inl ⟨by rfl, ?hy19⟩) (by assumption) ?rest19
     case hy19 => (intro w9 hSw; rw [HS9.out] at hSw; obtain ⟨q0, q1, q2, q3⟩ := hSw; go_simp <;> with_reducible rfl)
     try simp only [Act.put, List.setIfInBounds_toArray, List.set_cons_zero, List.set_cons_succ, List.getElem_toArray, List.getElem_cons_zero, List.getElem_cons_succ]
     refine wpAnyL_take (i := 20) (v := ?v20) rfl (by kernel_rfl) (by kernel_rfl) (by kernel_rfl) (by kernel_rfl) (fun _ _ _ h => h) (Or.inl ⟨by rfl, ?hy20⟩) (by assumption) ?rest20
     case hy20 => (intro w9 hSw; rw [HS9.out] at hSw; obtain ⟨q0, q1, q2, q3⟩ := hSw; go_simp <;> with_reducible rfl)
     try simp only [Act.put, List.setIfInBounds_toArray, List.set_cons_zero, List.set_cons_succ, List.getElem_toArray, List.getElem_cons_zero, List.getElem_cons_succ]
     refine wpAnyL_one (i := 21) (by kernel_rfl) rfl (fun K9 hK9 => ?_)
     try simp only [List.getElem_toArray, List.getElem_cons_zero, List.getElem_cons_succ]
     go_simp
     rw [HEW.out]
     have HVA : Hid (HvAt w7 (wr.alloc (.cells #[.int .i64 x] 3)).drew nd V2 (Rp c.ck nd j m)) := hide ((HV2.out.alloc (.cells #[.int .i64 x] 3)).drewN 1)
     refine hK9.out _ _ (fun _ => HS8.out _ HVA.out.old (by rw [HVA.out.cell hjn, HVJ.out])) ?_
     clear hK9 K9 hH
     try simp only [Act.put, List.setIfInBounds_toArray, List.set_cons_zero, List.set_cons_succ]
     have HO2 : Hid ((wr.alloc (.cells #[.int .i64 x] 3)).drew.ownsRow (w7.heap.size + 1) 3 1 vj m ((rowI c.ck j m).map (Value.int .i64))) := hide (by
      have := HVA.out.fam.own j (Nat.le_of_lt hjn)
      rw [Rp_at, rowI_len, HVJ.out] at this
      exact this)
     have HFZ : Hid (∀ w8, (wr.alloc (.cells #[.int .i64 x] 3)).drew.grownBy w8 vj.ownBlock → w8.frozen? ⟨w7.heap.size, j, none⟩ = false ∧ w8.cell? ⟨w7.heap.size, j, none⟩ = some vj ∧ Below w7.heap.size w7 w8) := hide fun w8 hg => by
      have hold := HVA.out.old.grown hg (Nat.le_of_lt HVA.out.sz) (fun k e => by have := ((HVA.out.fam.own j (Nat.le_of_lt hjn)).lt k (by rw [HVJ.out]; exact e)).1; omega)
      obtain ⟨H, hb, _⟩ := HVA.out.hd
      have hb8 := hb.grown hg (by have := HVA.out.nh (Nat.le_of_lt hjn); rw [HVJ.out] at this; exact this)
      have hc := HVA.out.cell hjn
      rw [hb.cell j] at hc
      rw [HVJ.out] at hc
      exact ⟨hb8.frozen j, (hb8.cell j).trans hc, hold⟩
     have HSZ : Hid (w7.heap.size + 1 ≤ (wr.alloc (.cells #[.int .i64 x] 3)).drew.heap.size) := hide (by have := HV2.out.sz; show w7.heap.size + 1 ≤ (wr.alloc _).heap.size; simp; omega)
     refine wpAnyL_one (i := 22) (by kernel_rfl) rfl (fun K9 hK9 => ?_)
     try simp only [List.getElem_toArray, List.getElem_cons_zero, List.getElem_cons_succ]
     rw [if_pos (by rfl)]
     refine wp_append_own2 _ (.tmp 39) (.tmp 55) 33 rfl (w7.heap.size + 1) 3 i0 _ 1 8 Tryz.underlying33 hi hz0 hz1 hz2 rfl (by decide) vj m ((rowI c.ck j m).map (Value.int .i64)) rfl (by exact HO2.out) ⟨wr.heap.size, 0, none⟩ 1 1 [.int .i64 x] rfl rfl (by exact news1 (Blk.new wr 3 #[.int .i64 x]).drew) (by intro u hu; simp at hu; subst hu; rfl) HMX.out.1 HMX.out.2 (by exact HSZ.out) ?_
     intro v8 w8 hown hg hwh
     have HV8 := hide (HVA.out.row hjn (by rw [Rp_at, rowI_len]; exact hown) (by rw [HVJ.out]; exact hg) (by rw [HVJ.out]; exact hwh))
     obtain ⟨fz8, hc8, hB8⟩ := HFZ.out _ hg
     obtain ⟨g8, c8, cur8, rfl, -, -, -, -, -, -⟩ := block_of_own hown (Nat.succ_pos _)
     have HS88 := hide (HS8.out _ hB8 hc8)
     clear hown hg hwh hB8
     refine hK9.out _ _ (fun _ => HS88.out) ?_
     clear hK9 K9
     try simp only [Act.put, List.setIfInBounds_toArray, List.set_cons_zero, List.set_cons_succ]
     refine wpAnyL_one (i := 23) (by kernel_rfl) rfl (fun K9 hK9 => ?_)
     try simp only [List.getElem_toArray, List.getElem_cons_zero, List.getElem_cons_succ]
     go_simp
     refine hK9.out _ _ (fun _ => HS88.out) ?_
     clear hK9 K9
     try simp only [Act.put, List.setIfInBounds_toArray, List.set_cons_zero, List.set_cons_succ]
     refine wpAnyL_one (i := 24) (by kernel_rfl) rfl (fun K9 hK9 => ?_)
     try simp only [List.getElem_toArray, List.getElem_cons_zero, List.getElem_cons_succ]
     go_simp
     refine hK9.out _ _ (fun h9 => absurd h9 (by decide)) ?_
     refine wpAnyL_done (by kernel_rfl) ?_ _
     refine NoPanic.normal ?_
     clear hK9 K9
     go_wp2_with fail
     go_roundw
     case rel => exact ⟨m + 1, upd V2 j (.slice (some ⟨g8, 0, none⟩) (m + 1) c8), by omega, by go_num, by unfold upd; rw [if_neg (by omega)]; exact hV2n, hide (HV8.out.congr fun t _ => by rw [Rp_at]; exact HPU.out t)⟩
     case measure => simp [intOf]; omega
    ·obtain rfl : m = nd := by omega
     go_wp2_with fail
     go_roundw
     case rel => exact ⟨j + 1, V2, by omega, by go_num, hV2n, hide (HV2.out.congr fun t _ => Rp_next c.ck m j t)⟩
     case measure => simp [intOf]; omega
  ·obtain rfl : j = nd := by omega
   have HR0 : Hid (HvAt w7 wr j V (fun t => (readK p fy c.ck r.rg 0).getD t [])) := hide (HV.out.congr fun t _ => by rw [Rp_end]; show _ = (rowsN c.ck p.nd.toNat).getD t []; rw [HND.out])
   have HXr := hide (HX.out.below HV.out.old HX.out.lt)
   obtain ⟨z0, z1, z2, z3⟩ := HXr.out.cells4
   clear HV
   obtain ⟨nr, hnr⟩ : ∃ nr, r.rg.length = nr := ⟨_, rfl⟩
   rw [hnr] at z1 hmax
   have HNR := hide hnr
   clear hnr
   go_wp2_with fail
   clear z0 z1 z2 z3
   go_loopw [63] (fun i wr => ∃ k : Nat, k ≤ nr ∧ i = .int .i64 k ∧ Hid (HvAt w7 wr j V (fun t => (readK p fy c.ck r.rg k).getD t []))) (fun i _ => nr - (intOf i).toNat)
   case atStart => exact ⟨0, by omega, rfl, HR0⟩
   case round =>
    obtain ⟨k, hk, rfl, HR⟩ := hrel
    by_cases hkn : k < nr
    ·obtain ⟨x, hx⟩ : ∃ x, r.rg[k]? = some x := ⟨_, List.getElem?_eq_getElem (by rw [HNR.out]; exact hkn)⟩
     have HB1 := hide (HKK.out.bel HB0.out HR.out.old)
     obtain ⟨b1, o1, rfl, x0, x1, x2⟩ := (HA.out _ _ HB1.out) k x hx
     have HSU := hide (readK_succ (p := p) (fy := fy) (c := c.ck) hx)
     have HOKr := hide (readK_ok (fy := fy) HP.out HCKB.out r.rg k)
     clear hx
     obtain ⟨xn, xo, xi⟩ := x
     dsimp only at x0 x1 x2
     have hbk : b1 < wr.heap.size := World.block_lt_of_cell? _ _ x0
     by_cases hbad : xn < 0 ∨ (j : Int) ≤ xn ∨ xo < 0 ∨ (j : Int) ≤ xo ∨ xn = xo
     ·have HS1 : Hid (readK p fy c.ck r.rg (k + 1) = readK p fy c.ck r.rg k) := hide (by rw [HSU.out]; exact readF_bad (by rw [HPN.out]; exact hbad))
      have HR1 : Hid (HvAt w7 (wr.alloc (.cells #[.int .i64 xn, .int .i64 xo, .int .i64 xi] 174)) j V (fun t => (readK p fy c.ck r.rg (k + 1)).getD t [])) := hide (by rw [HS1.out]; exact HR.out.alloc _)
      have hcase : Hid (decide (xn < 0) = true ∨ (decide (xn < 0) = false ∧ decide ((j : Int) ≤ xn) = true) ∨ (decide (xn < 0) = false ∧ decide ((j : Int) ≤ xn) = false ∧ decide (xo < 0) = true) ∨ (decide (xn < 0) = false ∧ decide ((j : Int) ≤ xn) = false ∧ decide (xo < 0) = false ∧ decide ((j : Int) ≤ xo) = true) ∨ (decide (xn < 0) = false ∧ decide ((j : Int) ≤ xn) = false ∧ decide (xo < 0) = false ∧ decide ((j : Int) ≤ xo) = false ∧ (xn == xo) = true)) := hide (by simp only [decide_eq_true_eq, decide_eq_false_iff_not, beq_iff_eq]; omega)
      clear hbad
      rcases hcase.out with d1 | ⟨d1, d2⟩ | ⟨d1, d2, d3⟩ | ⟨d1, d2, d3, d4⟩ | ⟨d1, d2, d3, d4, d5⟩
      all_goals
       clear hcase
       go_wp2_with fail
       go_roundw
       case rel => exact ⟨k + 1, by omega, by go_num, HR1⟩
       case measure => simp [intOf]; omega
     ·obtain ⟨u, hu⟩ : ∃ u : Nat, xn = u := ⟨xn.toNat, by omega⟩
      obtain ⟨v, hv⟩ : ∃ v : Nat, xo = v := ⟨xo.toNat, by omega⟩
      have hun : u < j := by omega
      have hvn : v < j := by omega
      have huv : u ≠ v := by omega
      clear hbad
      subst hu hv
      obtain ⟨W, hW⟩ : ∃ W, wr.alloc (.cells #[.int .i64 (u : Int), .int .i64 (v : Int), .int .i64 xi] 174) = W := ⟨_, rfl⟩
      have HVr : Hid (HvAt w7 W j V (fun t => (readK p fy c.ck r.rg k).getD t [])) := hide (by rw [← hW]; exact HR.out.alloc _)
      have hX : Blk W wr.heap.size 174 #[.int .i64 (u : Int), .int .i64 (v : Int), .int .i64 xi] := by rw [← hW]; exact Blk.new wr _ _
      have hnX : w7.heap.size < wr.heap.size := HR.out.sz
      have HW := hide hW; clear hW
      have HXX := hide hX; clear hX
      have HA1 := hide (Hh.out.below HVr.out.old)
      have HLI := hide (lies_any G p.nd p.fa p.sk p.ji p.dr p.rd P.s P.l p.fr P.q a.mm a.sd a.tk a.pr c.rd fy v a.ck W (by have := HA1.out.cluB; rw [HG.out] at this; exact this) hfy (by omega))
      have ho := HVr.out.fam.own u (Nat.le_of_lt hun)
      have hrl := HOKr.out.row u (by rw [HND.out]; exact hun)
      rw [HND.out] at hrl
      obtain ⟨gr, cpr, cur, hVu, _, _, _, _, _, _⟩ := block_of_own ho (by rw [hrl]; exact hnd1)
      rw [hrl] at hVu
      have hgr : w7.heap.size + 1 ≤ gr := (ho.lt gr (by rw [hVu]; rfl)).1
      have hgr2 : gr < wr.heap.size := ((HR.out.fam.own u (Nat.le_of_lt hun)).lt gr (by rw [hVu]; rfl)).2
      have hnx : wr.heap.size ≠ gr := Nat.ne_of_gt hgr2
      have hnh : w7.heap.size ≠ gr := Nat.ne_of_lt hgr
      have hcellH := HVr.out.cell hun
      rw [hVu] at hcellH
      rw [hVu, hrl] at ho
      obtain ⟨hrc, hrf⟩ := own_cell ho hvn
      obtain ⟨yv, hyv⟩ : ∃ yv, W.cell? ⟨gr, v, none⟩ = some yv := by
       rw [hrc, List.getElem?_eq_getElem (by rw [ho.1]; omega)]; exact ⟨_, rfl⟩
      have hRB := HOKr.out
      have hSET : Hid (∀ y : Int, HvAt w7 (W.setCell ⟨gr, v, none⟩ (.int .i64 y)) j V (fun t => (setRow (readK p fy c.ck r.rg k) u v y).getD t [])) := hide (fun y => (HVr.out.setR hun (by rw [hrl]; exact hVu) (by rw [hrl]; exact hvn)).congr fun t _ => setRow_get _ y (by rw [HOKr.out.len, HND.out]; exact hun) t)
      have HRG := hide (readF_good (p := p) (fy := fy) (c := c.ck) (rs := readK p fy c.ck r.rg k) (x := ⟨(u : Int), (v : Int), xi⟩) rfl rfl (by rw [HPN.out]; omega) (by rw [HPN.out]; omega) huv)
      have HVU := hide hVu
      obtain ⟨i0', i1', i2'⟩ := HXX.out.c3
      clear ho hrl hrc hRB hVu
      obtain ⟨lb, hlb⟩ : ∃ lb, liesB fy v = lb := ⟨_, rfl⟩
      rw [hlb] at HLI HRG
      clear hlb
      have d1 : decide ((u : Int) < 0) = false := decide_eq_false (by omega)
      have d2 : decide ((j : Int) ≤ (u : Int)) = false := decide_eq_false (by omega)
      have d3 : decide ((v : Int) < 0) = false := decide_eq_false (by omega)
      have d4 : decide ((j : Int) ≤ (v : Int)) = false := decide_eq_false (by omega)
      have d5 : ((u : Int) == (v : Int)) = false := by simp; omega
      go_wp2_with fail
      rw [HW.out]
      refine HLI.out.mono ?_
      rintro e w2 ⟨rfl, rfl⟩
      clear d1 d2 d3 d4 d5 x0 x1 x2
      cases lb
      ·have k3 := (HA1.out.cluC HG.out).2.2.2.1
       have k11 := (HA1.out.cluB).cell 11
       simp at k11
       rw [HG.out, HCK.out] at k11
       have hI := HA1.out.ckI HLN.out HCK.out
       obtain ⟨b1', o1', e1, cv⟩ := hI v (by rw [HLN.out]; exact hvn)
       cases e1
       obtain ⟨b2', o2', e2, cu⟩ := hI u (by rw [HLN.out]; exact hun)
       cases e2
       have bv1 := HCKB.out v
       have bu1 := HCKB.out u
       have hji := HP.out.ji
       obtain ⟨pj, hpj⟩ : ∃ pj, p.ji = pj := ⟨_, rfl⟩
       obtain ⟨xv, hxv⟩ : ∃ xv, c.ck.getD v 0 = xv := ⟨_, rfl⟩
       obtain ⟨xu, hxu⟩ : ∃ xu, c.ck.getD u 0 = xu := ⟨_, rfl⟩
       rw [if_neg (by decide), hpj, hxv, hxu] at HRG
       rw [hpj] at k3 hji
       rw [hxv] at cv bv1
       rw [hxu] at cu bu1
       clear hpj hxv hxu
       have HCL := hide (fun w' => clamp_any xi pj w' hji.1 (by omega))
       have hcb := clampV_in (x := xi) hji.1
       obtain ⟨q, hq⟩ : ∃ q, clampV xi pj = q := ⟨_, rfl⟩
       rw [hq] at HCL HRG hcb
       clear hq
       obtain ⟨dd, hdd⟩ : ∃ dd, xv - xu = dd := ⟨_, rfl⟩
       obtain ⟨yy, hyy⟩ : ∃ yy, dd + q = yy := ⟨_, rfl⟩
       rw [hdd, hyy] at HRG
       have ew1 : IntKind.i64.wrap (xv - xu) = dd := by rw [hdd]; exact IntWalk.i64_in _ (by omega)
       have ew2 : IntKind.i64.wrap (dd + q) = yy := by rw [hyy]; exact IntWalk.i64_in _ (by omega)
       have hGr : G ≠ gr := fun e => by
        have h1 := Hh.out.cluB.lt
        rw [HG.out] at h1
        omega
       have hbr : bk ≠ gr := fun e => by
        have h1 := (Hh.out.own .nums bk (by simp [shape, Ob.foot, HCK.out, Value.ownBlock])).2
        omega
       have HSE := hide (hSET.out yy)
       have HFS := hide (And.intro ((cell_far (w := w2) (.int .i64 yy) (p := ⟨gr, v, none⟩) (o := 0) hnx).trans i0') (And.intro ((cell_far (w := w2) (.int .i64 yy) (p := ⟨gr, v, none⟩) (o := 1) hnx).trans i1') (And.intro ((cell_far (w := w2) (.int .i64 yy) (p := ⟨gr, v, none⟩) (o := 2) hnx).trans i2') (And.intro ((cell_far (w := w2) (.int .i64 yy) (p := ⟨gr, v, none⟩) (o := u) hnh).trans hcellH) (And.intro ((cell_far (w := w2) (.int .i64 yy) (p := ⟨gr, v, none⟩) (o := 11) hGr).trans k11) (And.intro ((cell_far (w := w2) (.int .i64 yy) (p := ⟨gr, v, none⟩) (o := 3) hGr).trans k3) (And.intro ((cell_far (w := w2) (.int .i64 yy) (p := ⟨gr, v, none⟩) (o := ok + v) hbr).trans cv) ((cell_far (w := w2) (.int .i64 yy) (p := ⟨gr, v, none⟩) (o := ok + u) hbr).trans cu))))))))
       clear bv1 bu1 hji hcb hdd hyy
       go_wp2_with fail
       go_region_held3 (fun w' => w'.cell? ⟨wr.heap.size, 0, none⟩ = some (.int .i64 (u : Int)) ∧ w'.cell? ⟨wr.heap.size, 1, none⟩ = some (.int .i64 (v : Int)) ∧ w'.cell? ⟨wr.heap.size, 2, none⟩ = some (.int .i64 xi) ∧ w'.cell? ⟨w7.heap.size, u, none⟩ = some (.slice (some ⟨gr, 0, none⟩) j cpr) ∧ w'.cell? ⟨G, 11, none⟩ = some (.slice (some ⟨bk, ok, none⟩) j ckp) ∧ w'.cell? ⟨G, 3, none⟩ = some (.int .i64 pj) ∧ w'.cell? ⟨bk, ok + v, none⟩ = some (.int .i64 xv) ∧ w'.cell? ⟨bk, ok + u, none⟩ = some (.int .i64 xu)) (first | exact ⟨i0', i1', i2', hcellH, k11, k3, cv, cu⟩ | exact HFS.out)
        (first | (go_at_call 173; go_must (refine (HCL.out _).mono ?_); rintro e w3 ⟨rfl, rfl⟩))
       clear ew1 ew2
       go_wp2_with fail
       go_roundw
       case rel => exact ⟨k + 1, by omega, by go_num, hide (by rw [HSU.out, HRG.out]; exact HSE.out.drewN 1)⟩
       case measure => simp [intOf]; omega
      ·have HCL := hide (fun w' => clamp_any xi 549755813888 w' (by decide) (by decide))
       have HSE := hide (hSET.out (clampV xi 549755813888))
       have HFS := hide (And.intro ((cell_far (w := w2) (.int .i64 (clampV xi 549755813888)) (p := ⟨gr, v, none⟩) (o := 0) hnx).trans i0') (And.intro ((cell_far (w := w2) (.int .i64 (clampV xi 549755813888)) (p := ⟨gr, v, none⟩) (o := 1) hnx).trans i1') (And.intro ((cell_far (w := w2) (.int .i64 (clampV xi 549755813888)) (p := ⟨gr, v, none⟩) (o := 2) hnx).trans i2') ((cell_far (w := w2) (.int .i64 (clampV xi 549755813888)) (p := ⟨gr, v, none⟩) (o := u) hnh).trans hcellH))))
       go_wp2_with fail
       go_region_held3 (fun w' => w'.cell? ⟨wr.heap.size, 0, none⟩ = some (.int .i64 (u : Int)) ∧ w'.cell? ⟨wr.heap.size, 1, none⟩ = some (.int .i64 (v : Int)) ∧ w'.cell? ⟨wr.heap.size, 2, none⟩ = some (.int .i64 xi) ∧ w'.cell? ⟨w7.heap.size, u, none⟩ = some (.slice (some ⟨gr, 0, none⟩) j cpr)) (first | exact ⟨i0', i1', i2', hcellH⟩ | exact HFS.out)
        (first | (go_at_call 173; go_must (refine (HCL.out _).mono ?_); rintro e w3 ⟨rfl, rfl⟩))
       go_wp2_with fail
       go_roundw
       case rel => exact ⟨k + 1, by omega, by go_num, hide (by rw [HSU.out, HRG.out, if_pos trivial]; exact HSE.out.drewN 1)⟩
       case measure => simp [intOf]; omega
    ·obtain rfl : k = nr := by omega
     obtain ⟨wz, rfl⟩ : ∃ wz, wz = wr := ⟨_, rfl⟩
     have HB1 := hide (HKK.out.bel HB0.out HR.out.old)
     have HRW := hide (HR.out.rows_ (by rw [(readK_ok (fy := fy) HP.out HCKB.out r.rg k).len, HND.out]))
     have HOKr := hide (readK_ok (fy := fy) HP.out HCKB.out r.rg k)
     have HALL : Hid (readK p fy c.ck r.rg k = readAll p fy c.ck r.rg) := hide (by rw [← HNR.out]; exact readK_all _ _ _ _)
     rw [HALL.out] at HRW HOKr
     obtain ⟨rs, hrs⟩ : ∃ rs, readAll p fy c.ck r.rg = rs := ⟨_, rfl⟩
     have HRS := hide hrs
     rw [hrs] at HRW HOKr
     clear hrs HALL
     have hrl : rs.length = j := by rw [HOKr.out.len, HND.out]
     have HA1 := hide (Hh.out.below HR.out.old)
     have k1 := (HA1.out.cluC HG.out).2.1
     have k11 := (HA1.out.cluB).cell 11
     simp at k11
     rw [HG.out, HCK.out] at k11
     have hfa := HP.out.f3
     have hf0 := HP.out.f0
     have hn16' := HP.out.n16
     have HRO := hide (fun W (hB : Below wz.heap.size wz W) => round_any (some ⟨bk, ok, none⟩) ckp (some ⟨w7.heap.size, 0, none⟩) j c.ck rs p.fa W ((HA1.out.below hB).ckI HLN.out HCK.out) (HRW.out.below (Nat.le_refl _) hB) (by rw [HLN.out]; omega) (by rw [hrl]; omega) (fun q hq => by
      obtain ⟨t, ht, e⟩ := List.mem_iff_getElem.1 hq
      have h1 := HOKr.out.row t (by rw [HND.out, ← hrl]; exact ht)
      rw [List.getD_eq_getElem?_getD, List.getElem?_eq_getElem ht] at h1
      simp only [Option.getD_some, e] at h1
      rw [h1, HND.out]; omega) (by omega) (HE.out _ _ (HKK.out.bel HB1.out (hB.mono (Nat.le_of_eq rfl)))))
     rw [HLN.out, hrl] at HRO
     have HB7r := hide HR.out.old
     have HSZr := hide HR.out.sz
     clear HR hfa hf0 hn16'
     go_wp2_with fail
     obtain ⟨Wc, hWc⟩ : ∃ Wc, wz.drew = Wc := ⟨_, rfl⟩
     have HBWc : Hid (Below wz.heap.size wz Wc) := hide (by rw [← hWc]; exact below_drewN (Below.refl _ _) 1)
     have HWc := hide hWc; clear hWc
     have HSW : Hid (∀ W, Below wz.heap.size wz W → W.cell? ⟨G, 11, none⟩ = some (.slice (some ⟨bk, ok, none⟩) j ckp) ∧ W.cell? ⟨G, 1, none⟩ = some (.int .i64 p.fa)) := hide (fun W hB => by
      have hA := HA1.out.below hB
      have c1 := (hA.cluC HG.out).2.1
      have c11 := (hA.cluB).cell 11
      simp at c11
      rw [HG.out, HCK.out] at c11
      exact ⟨c11, c1⟩)
     go_region_held3 (fun w' => w'.cell? ⟨G, 11, none⟩ = some (.slice (some ⟨bk, ok, none⟩) j ckp) ∧ w'.cell? ⟨G, 1, none⟩ = some (.int .i64 p.fa)) (first | exact ⟨k11, k1⟩ | exact HS3.out)
      (first | (go_at_call 174; go_must (refine (HRO.out _ (by exact below_drewN (Below.refl _ _) 1)).mono ?_); rintro e w3 ⟨hB3, hpost⟩; have HS3 := hide (HSW.out w3 ((below_drewN (Below.refl wz.heap.size wz) 1).trans hB3)); have HB3 := hide ((below_drewN (Below.refl wz.heap.size wz) 1).trans hB3); clear hB3; obtain ⟨hne, -⟩ | ⟨-, i9, hi9, -, hne, -⟩ | ⟨-, -, v3, rfl, hown⟩ := hpost; (exact absurd (hrl.trans HLN.out.symm) hne); (exact absurd (HOKr.out.set_ok HP.out HCKB.out (by rw [HND.out, ← HLN.out]; exact hi9)) (by rw [HND.out, ← HLN.out]; exact hne)); have HOW := hide hown; clear hown))
     obtain ⟨zs, hzs⟩ : ∃ zs, setL c.ck rs p.fa j = zs := ⟨_, rfl⟩
     have HZL : Hid (zs.length = j) := hide (by rw [← hzs, setL_len])
     have HZB : Hid (∀ i, i < j → -2000000000000 ≤ zs.getD i 0 ∧ zs.getD i 0 ≤ 2000000000000) := hide (fun i hi => by rw [← hzs, ← HND.out]; exact setL_bd HP.out HOKr.out HCKB.out (by rw [HND.out]; exact hi))
     have HFN : Hid (setsF p fy c.ck r = outK p zs r.dr r.dr.length) := hide (by rw [outK_all, ← hzs]; unfold setsF; rw [HRS.out, HLN.out])
     rw [HLN.out, hzs] at HOW
     clear hzs
     obtain ⟨g, cpo, cur, rfl, hgb, -, -, -, -, -⟩ := block_of_own HOW.out (by have := hnd1; omega)
     have hgz : wz.heap.size ≤ g := hgb
     have HOW2 : Hid (w3.ownsRow wz.heap.size 3 1 (.slice (some ⟨g, 0, none⟩) j cpo) j ((outK p zs r.dr 0).map (Value.int .i64))) := hide (by rw [outK_zero]; exact HOW.out)
     have HX3 := hide ((HX.out.below HB7r.out HX.out.lt).below HB3.out (by have := HX.out.lt; have := HB7r.out.size; omega))
     obtain ⟨z0, z1, z2, z3⟩ := HX3.out.cells4
     have HBBq := hide (HB.out _ _ HB1.out)
     obtain ⟨n2, hn2⟩ : ∃ n2, r.dr.length = n2 := ⟨_, rfl⟩
     have HN2 := hide hn2
     rw [hn2] at z2 hmb
     clear hn2 k1 k11 HS3 hgb HOW
     go_wp2_with fail
     clear z0 z1 z2 z3
     go_loopw [166] (fun i wr => ∃ k : Nat, k ≤ n2 ∧ i = .int .i64 k ∧ Hid (wr.ownsRow wz.heap.size 3 1 (.slice (some ⟨g, 0, none⟩) j cpo) j ((outK p zs r.dr k).map (Value.int .i64))) ∧ Hid (Below wz.heap.size wz wr)) (fun i _ => n2 - (intOf i).toNat)
     case atStart => exact ⟨0, by omega, rfl, HOW2, HB3⟩
     case round =>
      obtain ⟨k2, hk2, rfl, HO, HBr⟩ := hrel
      by_cases hkn2 : k2 < n2
      ·obtain ⟨b3, o3, rfl, cd⟩ := (HBBq.out.below (Nat.le_refl _) HBr.out) k2 (by rw [HN2.out]; exact hkn2)
       obtain ⟨xd, hxd⟩ : ∃ xd, r.dr.getD k2 0 = xd := ⟨_, rfl⟩
       rw [hxd] at cd
       by_cases hkj : k2 < j
       ·have d1 : decide ((k2 : Int) < (j : Int)) = true := decide_eq_true (by omega)
        have hz := outK_get p zs r.dr k2 (i := k2) (by rw [HZL.out]; exact hkj)
        rw [if_neg (fun hh => Nat.lt_irrefl _ hh.1), Int.add_zero] at hz
        have hst := outK_step p zs r.dr (k := k2) (by rw [HN2.out]; exact hkn2) (by rw [HZL.out]; exact hkj)
        have hzb := HZB.out k2 hkj
        have hdr := HP.out.dr
        obtain ⟨hoc, hof⟩ := own_cell HO.out hkj
        rw [List.getElem?_map, List.getElem?_eq_getElem (by rw [outK_len, HZL.out]; exact hkj)] at hoc
        rw [List.getD_eq_getElem?_getD, List.getElem?_eq_getElem (by rw [outK_len, HZL.out]; exact hkj)] at hz
        simp only [Option.getD_some, Option.map_some] at hz hoc
        rw [hz] at hoc
        obtain ⟨z, hzz⟩ : ∃ z, zs.getD k2 0 = z := ⟨_, rfl⟩
        rw [hzz] at hoc hzb hst
        rw [hxd] at hst
        obtain ⟨pd, hpd⟩ : ∃ pd, p.dr = pd := ⟨_, rfl⟩
        rw [hpd] at hst hdr
        have k4 := ((HA1.out.below HBr.out).cluC HG.out).2.2.2.2.1
        rw [hpd] at k4
        have HCL := hide (fun w' => clamp_any xd pd w' hdr.1 (by omega))
        have hcb := clampV_in (x := xd) hdr.1
        obtain ⟨q, hq⟩ : ∃ q, clampV xd pd = q := ⟨_, rfl⟩
        rw [hq] at HCL hst hcb
        obtain ⟨yy, hyy⟩ : ∃ yy, z + q = yy := ⟨_, rfl⟩
        rw [hyy] at hst
        have HEW : Hid (IntKind.i64.wrap (z + q) = yy) := hide (by rw [hyy]; exact IntWalk.i64_in _ (by omega))
        have HST := hide hst
        have hgG : g ≠ G := by have := Hh.out.cluB.lt; rw [HG.out] at this; have := HSZr.out; omega
        have HOC := hide hoc; have HOFZ := hide hof
        obtain ⟨S9, hS9⟩ : ∃ S9 : World → Prop, S9 = fun w' => w'.cell? ⟨g, k2, none⟩ = some (.int .i64 z) ∧ w'.cell? ⟨G, 4, none⟩ = some (.int .i64 pd) := ⟨_, rfl⟩
        have HS9 := hide hS9; clear hS9
        have hH : S9 wr.drew := by rw [HS9.out]; exact ⟨hoc, k4⟩
        have HH := hide hH; clear hH hz hst hzb hzz hpd hq hyy hdr hcb hxd
        go_upto_region 28 with fail
        refine wp_region_noPanic ?_
        refine wp_region_L (S := S9) (L := 14) (by kernel_rfl) ?_
        clear k4 hoc hof cd
        have hH := HH.out
        try simp only [List.size_toArray, List.length_cons, List.length_nil, Nat.reduceAdd]
        refine wpAnyL_take (i := 0) (v := ?vd0) rfl (by kernel_rfl) (by kernel_rfl) (by kernel_rfl) (by kernel_rfl) (fun _ _ _ h => h) (Or.inl ⟨by rfl, ?hyd0⟩) (by assumption) ?restd0
        case hyd0 => (intro w9 hSw; rw [HS9.out] at hSw; obtain ⟨q0, q1⟩ := hSw; go_simp <;> with_reducible rfl)
        try simp only [Act.put, List.setIfInBounds_toArray, List.set_cons_zero, List.set_cons_succ, List.getElem_toArray, List.getElem_cons_zero]
        refine wpAnyL_take (i := 1) (v := ?vd1) rfl (by kernel_rfl) (by kernel_rfl) (by kernel_rfl) (by kernel_rfl) (fun _ _ _ h => h) (Or.inl ⟨by rfl, ?hyd1⟩) (by assumption) ?restd1
        case hyd1 => (intro w9 hSw; rw [HS9.out] at hSw; obtain ⟨q0, q1⟩ := hSw; go_simp <;> with_reducible rfl)
        try simp only [Act.put, List.setIfInBounds_toArray, List.set_cons_zero, List.set_cons_succ, List.getElem_toArray, List.getElem_cons_zero, List.getElem_cons_succ]
        refine wpAnyL_take (i := 2) (v := ?vd2) rfl (by kernel_rfl) (by kernel_rfl) (by kernel_rfl) (by kernel_rfl) (fun _ _ _ h => h) (Or.inl ⟨by rfl, ?hyd2⟩) (by assumption) ?restd2
        case hyd2 => (intro w9 hSw; rw [HS9.out] at hSw; obtain ⟨q0, q1⟩ := hSw; go_simp <;> with_reducible rfl)
        try simp only [Act.put, List.setIfInBounds_toArray, List.set_cons_zero, List.set_cons_succ, List.getElem_toArray, List.getElem_cons_zero, List.getElem_cons_succ]
        refine wpAnyL_take (i := 3) (v := ?vd3) rfl (by kernel_rfl) (by kernel_rfl) (by kernel_rfl) (by kernel_rfl) (fun _ _ _ h => h) (Or.inl ⟨by rfl, ?hyd3⟩) (by assumption) ?restd3
        case hyd3 => (intro w9 hSw; rw [HS9.out] at hSw; obtain ⟨q0, q1⟩ := hSw; go_simp <;> with_reducible rfl)
        try simp only [Act.put, List.setIfInBounds_toArray, List.set_cons_zero, List.set_cons_succ, List.getElem_toArray, List.getElem_cons_zero, List.getElem_cons_succ]
        refine wpAnyL_take (i := 4) (v := ?vd4) rfl (by kernel_rfl) (by kernel_rfl) (by kernel_rfl) (by kernel_rfl) (fun _ _ _ h => h) (Or.inl ⟨by rfl, ?hyd4⟩) (by assumption) ?restd4
        case hyd4 => (intro w9 hSw; rw [HS9.out] at hSw; obtain ⟨q0, q1⟩ := hSw; go_simp <;> with_reducible rfl)
        try simp only [Act.put, List.setIfInBounds_toArray, List.set_cons_zero, List.set_cons_succ, List.getElem_toArray, List.getElem_cons_zero, List.getElem_cons_succ]
        refine wpAnyL_take (i := 5) (v := ?vd5) rfl (by kernel_rfl) (by kernel_rfl) (by kernel_rfl) (by kernel_rfl) (fun _ _ _ h => h) (Or.inl ⟨by rfl, ?hyd5⟩) (by assumption) ?restd5
        case hyd5 => (intro w9 hSw; rw [HS9.out] at hSw; obtain ⟨q0, q1⟩ := hSw; go_simp <;> with_reducible rfl)
        try simp only [Act.put, List.setIfInBounds_toArray, List.set_cons_zero, List.set_cons_succ, List.getElem_toArray, List.getElem_cons_zero, List.getElem_cons_succ]
        refine wpAnyL_take (i := 6) (v := ?vd6) rfl (by kernel_rfl) (by kernel_rfl) (by kernel_rfl) (by kernel_rfl) (fun _ _ _ h => h) (Or.inl ⟨by rfl, ?hyd6⟩) (by assumption) ?restd6
        case hyd6 => (intro w9 hSw; rw [HS9.out] at hSw; obtain ⟨q0, q1⟩ := hSw; go_simp <;> with_reducible rfl)
        try simp only [Act.put, List.setIfInBounds_toArray, List.set_cons_zero, List.set_cons_succ, List.getElem_toArray, List.getElem_cons_zero, List.getElem_cons_succ]
        refine wpAnyL_take (i := 7) (v := ?vd7) rfl (by kernel_rfl) (by kernel_rfl) (by kernel_rfl) (by kernel_rfl) (fun _ _ _ h => h) (Or.inl ⟨by rfl, ?hyd7⟩) (by assumption) ?restd7
        case hyd7 => (intro w9 hSw; rw [HS9.out] at hSw; obtain ⟨q0, q1⟩ := hSw; go_simp <;> with_reducible rfl)
        try simp only [Act.put, List.setIfInBounds_toArray, List.set_cons_zero, List.set_cons_succ, List.getElem_toArray, List.getElem_cons_zero, List.getElem_cons_succ]
        refine wpAnyL_take (i := 8) (v := ?vd8) rfl (by kernel_rfl) (by kernel_rfl) (by kernel_rfl) (by kernel_rfl) (fun _ _ _ h => h) (Or.inl ⟨by rfl, ?hyd8⟩) (by assumption) ?restd8
        case hyd8 => (intro w9 hSw; rw [HS9.out] at hSw; obtain ⟨q0, q1⟩ := hSw; go_simp <;> with_reducible rfl)
        try simp only [Act.put, List.setIfInBounds_toArray, List.set_cons_zero, List.set_cons_succ, List.getElem_toArray, List.getElem_cons_zero, List.getElem_cons_succ]
        refine wpAnyL_take (i := 9) (v := ?vd9) rfl (by kernel_rfl) (by kernel_rfl) (by kernel_rfl) (by kernel_rfl) (fun _ _ _ h => h) (Or.inl ⟨by rfl, ?hyd9⟩) (by assumption) ?restd9
        case hyd9 => (intro w9 hSw; rw [HS9.out] at hSw; obtain ⟨q0, q1⟩ := hSw; go_simp <;> with_reducible rfl)
        try simp only [Act.put, List.setIfInBounds_toArray, List.set_cons_zero, List.set_cons_succ, List.getElem_toArray, List.getElem_cons_zero, List.getElem_cons_succ]
        refine wpAnyL_take (i := 10) (v := ?vd10) rfl (by kernel_rfl) (by kernel_rfl) (by kernel_rfl) (by kernel_rfl) (fun _ _ _ h => h) (Or.inl ⟨by rfl, ?hyd10⟩) (by assumption) ?restd10
        case hyd10 => (intro w9 hSw; rw [HS9.out] at hSw; obtain ⟨q0, q1⟩ := hSw; go_simp <;> with_reducible rfl)
        try simp only [Act.put, List.setIfInBounds_toArray, List.set_cons_zero, List.set_cons_succ, List.getElem_toArray, List.getElem_cons_zero, List.getElem_cons_succ]
        refine wpAnyL_one (i := 11) (by kernel_rfl) rfl (fun K9 hK9 => ?_)
        try simp only [List.getElem_toArray, List.getElem_cons_zero, List.getElem_cons_succ]
        go_simp
        (with_reducible refine (HCL.out _).mono ?_)
        rintro e w9 ⟨rfl, rfl⟩
        try go_simp
        refine hK9.out _ _ (fun _ => HH.out) ?_
        clear hK9 K9
        try simp only [Act.put, List.setIfInBounds_toArray, List.set_cons_zero, List.set_cons_succ]
        refine wpAnyL_take (i := 12) (v := ?vd12) rfl (by kernel_rfl) (by kernel_rfl) (by kernel_rfl) (by kernel_rfl) (fun _ _ _ h => h) (Or.inl ⟨by rfl, ?hyd12⟩) (by assumption) ?restd12
        case hyd12 => (intro w9 hSw; rw [HS9.out] at hSw; obtain ⟨q0, q1⟩ := hSw; go_simp <;> with_reducible rfl)
        try simp only [Act.put, List.setIfInBounds_toArray, List.set_cons_zero, List.set_cons_succ, List.getElem_toArray, List.getElem_cons_zero, List.getElem_cons_succ]
        refine wpAnyL_one (i := 13) (by kernel_rfl) rfl (fun K9 hK9 => ?_)
        try simp only [List.getElem_toArray, List.getElem_cons_zero, List.getElem_cons_succ]
        go_simp
        refine hK9.out _ _ (fun _ => HH.out) ?_
        clear hK9 K9 hH
        try simp only [Act.put, List.setIfInBounds_toArray, List.set_cons_zero, List.set_cons_succ]
        refine wpAnyL_one (i := 14) (by kernel_rfl) rfl (fun K9 hK9 => ?_)
        try simp only [List.getElem_toArray, List.getElem_cons_zero, List.getElem_cons_succ]
        have hoc := HOC.out; have hof := HOFZ.out
        go_simp
        refine hK9.out _ _ (fun h9 => absurd h9 (by decide)) ?_
        refine wpAnyL_done (by kernel_rfl) ?_ _
        refine NoPanic.normal ?_
        clear hK9 K9
        try rw [HEW.out]
        go_wp2_with fail
        go_roundw
        case rel => exact ⟨k2 + 1, by omega, by go_num, hide (by rw [HST.out, List.map_set]; exact (own_set HO.out hkj)), hide (below_drewN (HBr.out.setCell (p := ⟨g, k2, none⟩) hgz _) 1)⟩
        case measure => simp [intOf]; omega
       ·have d1 : decide ((k2 : Int) < (j : Int)) = false := decide_eq_false (by omega)
        have HSTAY := hide (outK_stay p zs r.dr (k := k2) (by rw [HZL.out]; omega))
        go_wp2_with fail
        go_roundw
        case rel => exact ⟨k2 + 1, by omega, by go_num, hide (by rw [HSTAY.out]; exact HO.out), HBr⟩
        case measure => simp [intOf]; omega
      ·obtain rfl : k2 = n2 := by omega
       have HOF : Hid (wr.ownsRow wz.heap.size 3 1 (.slice (some ⟨g, 0, none⟩) j cpo) j ((setsF p fy c.ck r).map (Value.int .i64))) := hide (by rw [HFN.out, HN2.out]; exact HO.out)
       have HSL : Hid ((setsF p fy c.ck r).length = j) := hide (by rw [HFN.out, outK_len, HZL.out])
       have HA3 := hide (HA1.out.below HBr.out)
       have hcb := HA3.out.cluB
       rw [HG.out, HCK.out] at hcb
       have k11 := hcb.cell 11
       have f11 := hcb.frozen 11
       simp at k11
       have hGw : G < wr.heap.size := hcb.lt
       have hgG : g ≠ G := by have := Hh.out.cluB.lt; rw [HG.out] at this; have := HSZr.out; omega
       have HSWP := hide (swap_below hcb (i := 11) (u := .slice (some ⟨bk, ok, none⟩) j ckp) (by simp) (.slice (some ⟨g, 0, none⟩) j cpo))
       have HWI := hide (wild_any G p.nd p.fa p.sk p.ji p.dr p.rd P.s P.l p.fr P.q a.mm a.sd a.tk a.pr c.rd fy (some ⟨g, 0, none⟩) cpo (setsF p fy c.ck r) (wr.setCell ⟨G, 11, none⟩ (.slice (some ⟨g, 0, none⟩) j cpo)) (by rw [HSL.out]; exact hcb.set_ 11 _) (fun q hq => by obtain ⟨b9, o9, e9, c9⟩ := isl_own0 HOF.out HSL.out q hq; cases e9; exact ⟨g, 0, rfl, (cell_far (w := wr) _ (p := ⟨G, 11, none⟩) (o := 0 + q) hgG).trans c9⟩) (by rw [HSL.out]; omega))
       obtain ⟨wb, hwb⟩ : ∃ wb, wildB (setsF p fy c.ck r) = wb := ⟨_, rfl⟩
       rw [hwb] at HWI
       have HWB := hide hwb
       have HCLB := hide hcb
       clear hwb hcb
       go_wp2_with fail
       refine HWI.out.mono ?_
       rintro e w9 ⟨rfl, rfl⟩
       have k11' := (HCLB.out.set_ 11 (.slice (some ⟨g, 0, none⟩) j cpo)).cell 11
       have f11' := (HCLB.out.set_ 11 (.slice (some ⟨g, 0, none⟩) j cpo)).frozen 11
       simp at k11'
       have HBF := hide (HBr.out.trans (HSWP.out.mono HBr.out.size))
       have HKF := hide (KeptS.trans HKW.out (KeptS.of_below (S := shape a (fullN p) p P fy c) (HB7r.out.trans (HBF.out.mono (Nat.le_of_lt HSZr.out)))))
       have HAF := hide (HA1.out.below HBF.out)
       cases wb
       ·go_wp2_with fail
        go_ret2
        refine .inr ⟨HWB.out, g, cpo, rfl, ⟨HAF.out, HKF.out⟩, by have := HSZr.out; have := HSZ7.out; omega, ?_⟩
        have ho := own_keepH HOF.out (w' := (wr.setCell ⟨G, 11, none⟩ (.slice (some ⟨g, 0, none⟩) j cpo)).setCell ⟨G, 11, none⟩ (.slice (some ⟨bk, ok, none⟩) j ckp)) (fun q e => by cases e; exact (Below.heap_setCell _ _ _ g hgG).trans (Below.heap_setCell _ _ _ g hgG))
        exact own_mono ho (by have := HSZr.out; have := HSZ7.out; omega)
       ·go_wp2_with fail
        go_ret2
        exact .inl ⟨HWB.out, by simp [errV], a, rfl, HAF.out, HKF.out⟩
end
end Go.Proofs.YtideefjnlakciaaGreatDoor
