/- The contract of the document's cluster's Play; conditions: the cluster, and what happens in the round, lie in memory; metronomeref.Fine holds what start-up lays there. -/
import Derived.Test.YtdogdlnaacimpaaGreatDoorP29
import Derived.Test.YtdogdlnaacimpaaGreatDoorP30
import Derived.Test.YtdogdlnaacimpaaGreatDoorP15
import Derived.Deep.RegionLaw
import Derived.BigRegion
import Derived.StillTailTactics
set_option linter.unusedVariables false
set_option linter.unusedSimpArgs false
namespace Go.Proofs.YtdogdlnaacimpaaGreatDoor
section
open Go Go.RowKit
attribute [local irreducible] clampV rowI readF setL driftF wildB liesB slotF hearAll hearsF loadsF chanF
set_option maxRecDepth 100000 in
set_option maxHeartbeats 8000000 in
theorem rplay_any (w w0 : World) {base g : Nat} {p : Pl} {fy : Nat} {c : Cl} {N M : Nat} {q : Value} {bs : List Nat} {AS AL : Option Addr} {cs cl : Nat} (h : DsG w0 w base g p ⟨.slice AS p.sl.length cs, .slice AL p.lk.length cl, q⟩ fy c M w bs) (hp : PlOk p) (hc : ClOk p N c) (hN : N ≤ 890000) (hmm : MmOk p c) (hM : M < 1000) (hr : c.rd ≤ 7000) (hfy : fy < 65536) (hli : (liars fy p.nd.toNat : Int) ≤ p.fa) (hS : SlotsAt w0 AS p.sl.length p.sl) (hL : LinksAt w0 AL p.lk.length p.lk) (h0 : w0.heap.size ≤ base) (hF : FinT w) (r : Rn)
 (A : Option Addr) (c1 : Nat) (hA : LossAt w A r.ls) (hAb : ∀ x, A = some x → x.block ∈ bs) (hm1 : r.ls.length ≤ 9223372036854775807) (AR : Option Addr) (c2 : Nat) (hAR : RgAt w AR r.rg) (hm2 : r.rg.length ≤ 9223372036854775807) (B : Option Addr) (c3 : Nat) (hB : IsL w B r.dr) (hm3 : r.dr.length ≤ 9223372036854775807) (AM : Option Addr) (c4 : Nat) (hI : IsL w AM r.md) (hIb : 0 < r.md.length → ∀ x, AM = some x → x.block ∈ bs) (hm4 : r.md.length ≤ 9223372036854775807) :
 Calls Tryz.prog 20 #[.pointer (some ⟨g, 0, none⟩), .slice A r.ls.length c1, .slice AR r.rg.length c2, .slice B r.dr.length c3, .slice AM r.md.length c4] w fun e w' => e = .returned (.int .i64 (playE p fy r c)) ∧ DsG w0 w' base g p ⟨.slice AS p.sl.length cs, .slice AL p.lk.length cl, q⟩ fy (playF p fy r c) M w bs := by
 have hn16 := hp.n16
 have hn1 := hp.n1
 obtain ⟨nd, hnd⟩ : ∃ nd, p.nd.toNat = nd := ⟨_, rfl⟩
 have hnd1 : 0 < nd := by omega
 have hnd16 : nd ≤ 16 := by omega
 have hpnd : p.nd = (nd : Int) := by omega
 have hlen : c.ck.length = nd := by rw [hc.len]; exact hnd
 obtain ⟨bk, ok, ckp, hbk, hck⟩ := h.cks hlen hnd1
 have HCK := hide hck; have HLN := hide hlen; have HCKB := hide hc.ck
 have HCB : Hid (∀ W, Below w.heap.size w W → ∃ (ck nd lk : Value) (tm pm : Nat), Blk W g 83 (rclC p ⟨.slice AS p.sl.length cs, .slice AL p.lk.length cl, q⟩ fy ck nd lk tm pm c.rd)) := hide (fun W hB => (h.below hB).cells)
 have HD := hide h; have HP := hide hp; have HOK := hide hc; have HMM := hide hmm; have HA := hide hA; have HAR := hide hAR; have HB := hide hB; have HMD := hide hI; have HF := hide hF; have HND := hide hnd; have HPN := hide hpnd; have HS := hide hS; have HL := hide hL; have HAb := hide hAb; have HIb := hide hIb; have HLI := hide hli
 obtain ⟨nl1, hl1⟩ : ∃ n, r.ls.length = n := ⟨_, rfl⟩
 obtain ⟨nl2, hl2⟩ : ∃ n, r.rg.length = n := ⟨_, rfl⟩
 obtain ⟨nl3, hl3⟩ : ∃ n, r.dr.length = n := ⟨_, rfl⟩
 obtain ⟨nl4, hl4⟩ : ∃ n, r.md.length = n := ⟨_, rfl⟩
 have HN1 := hide hl1; have HN2 := hide hl2; have HN3 := hide hl3; have HN4 := hide hl4
 rw [hl1, hl2, hl3, hl4]
 rw [hl1] at hm1
 rw [hl2] at hm2
 rw [hl3] at hm3
 rw [hl4] at hm4
 clear h hp hc hmm hA hAR hB hI hF hnd hpnd hS hL hAb hIb hn16 hn1 hlen hck hl1 hl2 hl3 hl4 hli
 obtain ⟨i0, hi, hz0, hz1, hz2⟩ := en_info_parts ar_info
 obtain ⟨i1, hi1, hy0, hy1, hy2⟩ := en_info_parts rows_info
 have hgl : g < w.heap.size := by obtain ⟨_, _, _, _, _, hb⟩ := HCB.out w (Below.refl _ _); exact hb.lt
 obtain ⟨ck0, nd0, lk0, tm0, pm0, hcb⟩ := HCB.out w (Below.refl _ _)
 have k0 := hcb.cell 0
 simp [rclC] at k0
 rw [HPN.out] at k0
 clear hcb
 go_enter Tryz.func20, Tryz.ntmps20
 go_upto_block 0 with fail
 clear k0
 go_cut [12] from 47 to 78 (fun v wx => ∃ T ct, v = .slice (some ⟨T, 0, none⟩) nd ct ∧ ∃ (G cp : Nat → Nat), Hid (RwAt w wx nd nd (.slice (some ⟨T, 0, none⟩) nd ct) G cp (fun t => (readK p fy c.ck r.rg 0).getD t [])))
 case first =>
  go_wp2_with fail
  go_loopw [12, 48] (fun v12 v wr => ∃ (k : Nat) (G cp : Nat → Nat), k ≤ nd ∧ v = .int .i64 k ∧ Hid (RwAt w wr nd k v12 G cp (fun t => rowI c.ck t nd))) (fun _ v _ => nd - (intOf v).toNat)
  case atStart => exact ⟨0, _, _, by omega, rfl, hide (RwAt.start w nd _)⟩
  case round =>
   obtain ⟨k, G, cp, hk, rfl, HR⟩ := hrel
   by_cases hlt : k < nd
   ·go_wp2_with fail
    go_loopw [14, 52] (fun v14 v wx => ∃ m : Nat, m ≤ nd ∧ v = .int .i64 m ∧ Hid (wx.ownsRow w.heap.size 3 1 v14 m ((rowI c.ck k m).map (Value.int .i64))) ∧ Hid (RwAt w wx nd k u12 G cp (fun t => rowI c.ck t nd)) ∧ Hid (∀ gi, v14.ownBlock = some gi → u12.ownBlock ≠ some gi ∧ ∀ i, i < k → G i ≠ gi)) (fun _ v _ => nd - (intOf v).toNat)
    case atStart => exact ⟨0, by omega, rfl, hide (own_row0 c.ck k), HR, hide (fun gi e => by cases e)⟩
    case round =>
     obtain ⟨m, hm, rfl, HO, HR2, HOF⟩ := hrel
     by_cases hlm : m < nd
     ·obtain ⟨k11, hI⟩ := HCK.out _ HR2.out.old
      obtain ⟨b1, o1, e1, cm⟩ := hI m (by rw [HLN.out]; exact hlm)
      cases e1
      obtain ⟨b2, o2, e2, cj⟩ := hI k (by rw [HLN.out]; exact hlt)
      cases e2
      have bm := HCKB.out m
      have bj := HCKB.out k
      have HRS := hide (rowI_succ c.ck k m)
      obtain ⟨xm, hxm⟩ : ∃ xm, c.ck.getD m 0 = xm := ⟨_, rfl⟩
      obtain ⟨xj, hxj⟩ : ∃ xj, c.ck.getD k 0 = xj := ⟨_, rfl⟩
      rw [hxm] at cm bm HRS
      rw [hxj] at cj bj HRS
      obtain ⟨x, hx⟩ : ∃ x, xm - xj = x := ⟨_, rfl⟩
      have hxw : IntKind.i64.wrap (xm - xj) = x := by rw [← hx]; exact IntWalk.i64_in _ (by omega)
      rw [hx] at HRS
      have HMX : Hid (m + 1 ≤ maxLen ∧ (m + 1) * 8 ≤ 140737488355328) := hide (by simp [maxLen]; omega)
      have HO1 : Hid ((wr.alloc (.cells #[.int .i64 x] 3)).drew.ownsRow w.heap.size 3 1 u14 m ((rowI c.ck k m).map (Value.int .i64))) := hide (own_keepR HO.out (w' := (wr.alloc (.cells #[.int .i64 x] 3)).drew) (below_drewN ((Below.refl _ _).alloc (Nat.le_refl _) _) 1))
      have HR3 : Hid (RwAt w (wr.alloc (.cells #[.int .i64 x] 3)).drew nd k u12 G cp (fun t => rowI c.ck t nd)) := hide (HR2.out.below (below_drewN ((Below.refl _ _).alloc (Nat.le_refl _) _) 1))
      have HNW := hide (news1 (Blk.new wr 3 #[.int .i64 x]).drew)
      have HSZ : Hid (w.heap.size ≤ (wr.alloc (.cells #[.int .i64 x] 3)).drew.heap.size) := hide HR3.out.old.size
      have HWB := hide HR2.out
      clear hxm hxj hI hx bm bj
      go_upto_region 10 with fail
      go_region_law (first | (refine step_append_own2 rfl (.tmp 55) (.tmp 71) 27 rfl w.heap.size 3 i0 _ 1 8 Tryz.underlying27 hi hz0 hz1 hz2 rfl (by decide) u14 m ((rowI c.ck k m).map (Value.int .i64)) rfl HO1.out ⟨wr.heap.size, 0, none⟩ 1 1 [.int .i64 x] rfl rfl HNW.out (by intro u hu; simp at hu; subst hu; rfl) HMX.out.1 HMX.out.2 HSZ.out ?_; intro v8 w8 hown hg hwh; have HO8 := hide hown; have HG8 := hide hg; have HW8 := hide hwh; clear hown hg hwh))
      all_goals
       go_simp
       go_wp2_with fail
       go_roundw
       case rel => exact ⟨m + 1, by omega, by go_num, hide (by rw [HRS.out, List.map_append]; exact HO8.out), hide (HR3.out.grown HG8.out (fun gi e => ⟨(HO1.out.lt gi e).1, (HOF.out gi e).1, (HOF.out gi e).2⟩)), hide (fun gi e => by
        rcases HW8.out with h | h
        ·rw [h] at e; exact HOF.out gi e
        ·have hge := h gi e
         exact ⟨fun e2 => by have := (HR3.out.top.lt gi e2).2; omega, fun i hi e2 => by have := (HR3.out.gb hi).2; omega⟩)⟩
       case measure => simp [intOf]; omega
     ·obtain rfl : m = nd := by omega
      obtain ⟨gi, ci, cur, rfl, hgb, -, -, -, -, -⟩ := block_of_own HO.out hnd1
      have HO1 := hide HO.out
      have HOFF := hide (HOF.out gi rfl)
      have HR3 := hide (HR2.out.below ((Below.refl wr.heap.size wr).alloc (Nat.le_refl _) (.cells #[.slice (some ⟨gi, 0, none⟩) m ci] 27)))
      have HO2 := hide (own_keepR HO.out ((Below.refl wr.heap.size wr).alloc (Nat.le_refl _) (.cells #[.slice (some ⟨gi, 0, none⟩) m ci] 27)))
      have HNW := hide (news1 (Blk.new wr 27 #[.slice (some ⟨gi, 0, none⟩) m ci]))
      have HMX : Hid (k + 1 ≤ maxLen ∧ (k + 1) * 24 ≤ 140737488355328) := hide (by simp [maxLen]; omega)
      have HSZ := hide HR3.out.old.size
      clear hgb
      go_wp2_with (at_builtin; go_must (refine wpList_append_own2 _ rfl (.tmp 74) (.tmp 76) 44 rfl w.heap.size 27 i1 _ 1 24 Tryz.underlying44 hi1 hy0 hy1 hy2 rfl (by decide) u12 k ((List.range k).map fun i => Value.slice (some ⟨G i, 0, none⟩) m (cp i)) rfl (by exact HR3.out.top) ⟨wr.heap.size, 0, none⟩ 1 1 [.slice (some ⟨gi, 0, none⟩) m ci] rfl rfl (by exact HNW.out) (by intro u hu; simp at hu; subst hu; rfl) HMX.out.1 HMX.out.2 (by exact HSZ.out) ?_); intro v8 w8 hown hg hwh; have HO8 := hide hown; have HG8 := hide hg; have HW8 := hide hwh; clear hown hg hwh)
      go_roundw
      case rel => exact ⟨k + 1, updF G k gi, updF cp k ci, by omega, by go_num, hide ((HR3.out.push HO2.out HOFF.out.1 HOFF.out.2 HO8.out HG8.out HW8.out).congr fun i hi => by
       unfold updF
       by_cases e : i = k
       ·rw [if_pos e, e]
       ·rw [if_neg e])⟩
      case measure => simp [intOf]; omega
   ·obtain rfl : k = nd := by omega
    obtain ⟨T, ct, cur, rfl, -, -, -, -, -, -⟩ := block_of_own HR.out.top hnd1
    go_wp2_with fail
    go_meet
    case rel => exact ⟨T, ct, rfl, G, cp, hide (HR.out.congr fun i hi => by
     show rowI c.ck i k = (rowsN c.ck p.nd.toNat).getD i []
     rw [HND.out, ← Rp_end c.ck k i]
     unfold Rp
     rw [if_pos hi])⟩
 case rest =>
  obtain ⟨T, ct, rfl, G, cp, HR0⟩ := hcut
  clear hy0 hy1 hy2
  have HSZ0 := hide HR0.out.old.size
  go_upto_block 4 with fail
  go_cut [81] from 79 to 155 (fun _ wx => Hid (RwAt w wx nd nd (.slice (some ⟨T, 0, none⟩) nd ct) G cp (fun t => (readK p fy c.ck r.rg nl2).getD t [])))
  case first =>
   go_wp2_with fail
   go_loopw [81] (fun v wr => ∃ k : Nat, k ≤ nl2 ∧ v = .int .i64 k ∧ Hid (RwAt w wr nd nd (.slice (some ⟨T, 0, none⟩) nd ct) G cp (fun t => (readK p fy c.ck r.rg k).getD t []))) (fun v _ => nl2 - (intOf v).toNat)
   case atStart => exact ⟨0, by omega, rfl, HR0⟩
   case round =>
    obtain ⟨k, hk, rfl, HR⟩ := hrel
    by_cases hkn : k < nl2
    ·obtain ⟨x, hx⟩ : ∃ x, r.rg[k]? = some x := ⟨_, List.getElem?_eq_getElem (by rw [HN2.out]; exact hkn)⟩
     obtain ⟨b1, o1, rfl, x0, x1, x2⟩ := HAR.out k x hx
     have hbk1 : b1 < w.heap.size := World.block_lt_of_cell? _ _ x0
     have x0' := (HR.out.old.cell (p := ⟨b1, o1 + k * 3, none⟩) hbk1).trans x0
     have x1' := (HR.out.old.cell (p := ⟨b1, o1 + k * 3 + 1, none⟩) hbk1).trans x1
     have x2' := (HR.out.old.cell (p := ⟨b1, o1 + k * 3 + 2, none⟩) hbk1).trans x2
     have hbkr : b1 < wr.heap.size := Nat.lt_of_lt_of_le hbk1 HR.out.old.size
     have HSU := hide (readK_succ (p := p) (fy := fy) (c := c.ck) hx)
     have HOKr := hide (readK_ok (fy := fy) HP.out HCKB.out r.rg k)
     clear hx x0 x1 x2
     obtain ⟨xn, xo, xi⟩ := x
     dsimp only at x0' x1' x2'
     obtain ⟨W, hW⟩ : ∃ W, wr.alloc (.cells #[.int .i64 xn, .int .i64 xo, .int .i64 xi] 75) = W := ⟨_, rfl⟩
     have HBW : Hid (Below wr.heap.size wr W) := hide (by rw [← hW]; exact (Below.refl _ _).alloc (Nat.le_refl _) _)
     have HX : Hid (Blk W wr.heap.size 75 #[.int .i64 xn, .int .i64 xo, .int .i64 xi]) := hide (by rw [← hW]; exact Blk.new wr _ _)
     have HRW := hide (HR.out.below HBW.out)
     have HWE := hide hW
     have HV1 := hide (fun W => in_q xn 0 ((nd : Int) - 1) _ rfl W)
     have HV2 := hide (fun W => in_q xo 0 ((nd : Int) - 1) _ rfl W)
     clear hW
     by_cases hbad : xn < 0 ∨ (nd : Int) ≤ xn ∨ xo < 0 ∨ (nd : Int) ≤ xo ∨ xn = xo
     ·have HS1 : Hid (readK p fy c.ck r.rg (k + 1) = readK p fy c.ck r.rg k) := hide (by rw [HSU.out]; exact readF_bad (by rw [HPN.out]; exact hbad))
      have HR1 : Hid (RwAt w W nd nd (.slice (some ⟨T, 0, none⟩) nd ct) G cp (fun t => (readK p fy c.ck r.rg (k + 1)).getD t [])) := hide (by rw [HS1.out]; exact HRW.out)
      have hcase : Hid (inB xn 0 ((nd : Int) - 1) = false ∨ (inB xn 0 ((nd : Int) - 1) = true ∧ inB xo 0 ((nd : Int) - 1) = false) ∨ (inB xn 0 ((nd : Int) - 1) = true ∧ inB xo 0 ((nd : Int) - 1) = true ∧ (xn == xo) = true)) := hide (by
       unfold inB
       simp only [Bool.and_eq_false_iff, Bool.and_eq_true, decide_eq_true_eq, decide_eq_false_iff_not, beq_iff_eq]
       omega)
      clear hbad
      rcases hcase.out with d1 | ⟨d1, d2⟩ | ⟨d1, d2, d3⟩
      ·rw [d1] at HV1
       clear hcase d1
       go_wp2_with fail
       rw [HWE.out]
       refine (HV1.out _).mono ?_
       rintro e w2 ⟨rfl, rfl⟩
       go_wp2_with fail
       go_roundw
       case rel => exact ⟨k + 1, by omega, by go_num, HR1⟩
       case measure => simp [intOf]; omega
      ·rw [d1] at HV1
       rw [d2] at HV2
       clear hcase d1 d2
       obtain ⟨z0, z1, z2⟩ := HX.out.c3
       go_wp2_with fail
       rw [HWE.out]
       refine (HV1.out _).mono ?_
       rintro e w2 ⟨rfl, rfl⟩
       go_wp2_with fail
       refine (HV2.out _).mono ?_
       rintro e w2 ⟨rfl, rfl⟩
       go_wp2_with fail
       go_roundw
       case rel => exact ⟨k + 1, by omega, by go_num, HR1⟩
       case measure => simp [intOf]; omega
      ·rw [d1] at HV1
       rw [d2] at HV2
       clear hcase d1 d2
       obtain ⟨z0, z1, z2⟩ := HX.out.c3
       go_wp2_with fail
       rw [HWE.out]
       refine (HV1.out _).mono ?_
       rintro e w2 ⟨rfl, rfl⟩
       go_wp2_with fail
       refine (HV2.out _).mono ?_
       rintro e w2 ⟨rfl, rfl⟩
       go_wp2_with fail
       go_roundw
       case rel => exact ⟨k + 1, by omega, by go_num, HR1⟩
       case measure => simp [intOf]; omega
     ·obtain ⟨u, hu⟩ : ∃ u : Nat, xn = u := ⟨xn.toNat, by omega⟩
      obtain ⟨v, hv⟩ : ∃ v : Nat, xo = v := ⟨xo.toNat, by omega⟩
      have hun : u < nd := by omega
      have hvn : v < nd := by omega
      have huv : u ≠ v := by omega
      clear hbad
      subst hu hv
      have d1 : inB (u : Int) 0 ((nd : Int) - 1) = true := by unfold inB; simp; omega
      have d2 : inB (v : Int) 0 ((nd : Int) - 1) = true := by unfold inB; simp; omega
      have d5 : ((u : Int) == (v : Int)) = false := by simp; omega
      rw [d1] at HV1
      rw [d2] at HV2
      have HLI2 : Hid (∀ W', Below W.heap.size W W' → Calls Tryz.prog 45 #[.pointer (some ⟨g, 0, none⟩), .int .i64 v] W' fun e w' => e = .returned (.bool (liesB fy v)) ∧ ∃ k, w' = W'.drewN k) := hide (fun W' hB => by
       obtain ⟨ck, nd', lk, tm, pm, hb⟩ := HCB.out W' (HRW.out.old.trans (hB.mono HRW.out.old.size))
       exact rlies_any hb hfy v (by omega))
      have hrl : ((readK p fy c.ck r.rg k).getD u []).length = nd := by have := HOKr.out.row u (by rw [HND.out]; exact hun); rw [this, HND.out]
      have HRG := hide (readF_good (p := p) (fy := fy) (c := c.ck) (rs := readK p fy c.ck r.rg k) (x := ⟨(u : Int), (v : Int), xi⟩) rfl rfl (by rw [HPN.out]; omega) (by rw [HPN.out]; omega) huv)
      have HSET : Hid (∀ (W2 : World) (y : Int), Below W.heap.size W W2 → RwAt w (W2.setCell ⟨G u, v, none⟩ (.int .i64 y)) nd nd (.slice (some ⟨T, 0, none⟩) nd ct) G cp (fun t => (setRow (readK p fy c.ck r.rg k) u v y).getD t [])) := hide (fun W2 y hB => ((HRW.out.below hB).setR hun hvn y).congr fun t _ => (by
       have := setRow_get (readK p fy c.ck r.rg k) y (u := u) (v := v) (by rw [HOKr.out.len, HND.out]; exact hun) t
       rw [← this]
       unfold updF upd
       rfl))
      have hgu := HR.out.gb hun
      have hrc := own_cellT (HRW.out.row u hun) hvn
      obtain ⟨yv, hyv⟩ : ∃ yv, W.cell? ⟨G u, v, none⟩ = some yv := by
       rw [hrc.1, List.getElem?_eq_getElem (by rw [(HRW.out.row u hun).1]; omega)]; exact ⟨_, rfl⟩
      have hrf := hrc.2
      have hcT := HRW.out.cellT hun
      obtain ⟨z0, z1, z2⟩ := HX.out.c3
      obtain ⟨gr, hgr⟩ : ∃ gr, G u = gr := ⟨_, rfl⟩
      obtain ⟨cu', hcu⟩ : ∃ cu', cp u = cu' := ⟨_, rfl⟩
      have hTn : T ≠ gr := fun e => HRW.out.tn u hun (by rw [hgr, ← e]; rfl)
      rw [hgr] at hyv hrf hcT HSET hgu
      rw [hcu] at hcT
      obtain ⟨lb, hlb⟩ : ∃ lb, liesB fy v = lb := ⟨_, rfl⟩
      rw [hlb] at HLI2 HRG
      clear hlb hrc hrl d1 d2 hgr hcu
      have hxl := HX.out.lt
      go_wp2_with fail
      rw [HWE.out]
      refine (HV1.out _).mono ?_
      rintro e w2 ⟨rfl, rfl⟩
      go_wp2_with fail
      refine (HV2.out _).mono ?_
      rintro e w2 ⟨rfl, rfl⟩
      go_wp2_with fail
      refine (HLI2.out _ (Below.refl _ _)).mono ?_
      rintro e W2 ⟨rfl, kk, hW2⟩
      have HB2 : Hid (Below w2.heap.size w2 W2) := hide (by rw [hW2]; exact below_drewN (Below.refl _ _) kk)
      have t0 := (HB2.out.cell (p := ⟨wr.heap.size, 0, none⟩) hxl).trans z0
      have t1 := (HB2.out.cell (p := ⟨wr.heap.size, 1, none⟩) hxl).trans z1
      have t2 := (HB2.out.cell (p := ⟨wr.heap.size, 2, none⟩) hxl).trans z2
      have tT := (HB2.out.cell (p := ⟨T, u, none⟩) (World.block_lt_of_cell? _ _ hcT)).trans hcT
      have ty := (HB2.out.cell (p := ⟨gr, v, none⟩) (World.block_lt_of_cell? _ _ hyv)).trans hyv
      have tf : W2.frozen? ⟨gr, v, none⟩ = false := (HB2.out.frozen (p := ⟨gr, v, none⟩) (World.block_lt_of_cell? _ _ hyv)).trans hrf
      have hnx : wr.heap.size ≠ gr := Nat.ne_of_gt hgu.2
      clear z0 z1 z2 hcT hyv hrf x0' x1' x2' d5 hW2
      cases lb
      ·obtain ⟨k11, hI⟩ := HCK.out W2 (HRW.out.old.trans (HB2.out.mono HRW.out.old.size))
       obtain ⟨ck', nd', lk', tm', pm', hcb⟩ := HCB.out W2 (HRW.out.old.trans (HB2.out.mono HRW.out.old.size))
       have k3 := hcb.cell 3
       simp [rclC] at k3
       obtain ⟨b1', o1', e1, cv⟩ := hI v (by rw [HLN.out]; exact hvn)
       cases e1
       obtain ⟨b2', o2', e2, cu⟩ := hI u (by rw [HLN.out]; exact hun)
       cases e2
       have bv1 := HCKB.out v
       have bu1 := HCKB.out u
       have hji := HP.out.ji
       obtain ⟨pj, hpj⟩ : ∃ pj, p.ji = pj := ⟨_, rfl⟩
       obtain ⟨xv, hxv⟩ : ∃ xv, c.ck.getD v 0 = xv := ⟨_, rfl⟩
       obtain ⟨xu, hxu⟩ : ∃ xu, c.ck.getD u 0 = xu := ⟨_, rfl⟩
       rw [if_neg (by decide), hpj, hxv, hxu] at HRG
       rw [hpj] at k3 hji
       rw [hxv] at cv bv1
       rw [hxu] at cu bu1
       clear hpj hxv hxu hcb hI
       have HCL := hide (fun w' => cut_any xi pj w' hji.1 (by omega))
       have hcb := clampV_in (x := xi) hji.1
       obtain ⟨qq, hq⟩ : ∃ qq, clampV xi pj = qq := ⟨_, rfl⟩
       rw [hq] at HCL HRG hcb
       clear hq
       obtain ⟨dd, hdd⟩ : ∃ dd, xv - xu = dd := ⟨_, rfl⟩
       obtain ⟨yy, hyy⟩ : ∃ yy, dd + qq = yy := ⟨_, rfl⟩
       rw [hdd, hyy] at HRG
       have ew1 : IntKind.i64.wrap (xv - xu) = dd := by rw [hdd]; exact IntWalk.i64_in _ (by omega)
       have ew2 : IntKind.i64.wrap (dd + qq) = yy := by rw [hyy]; exact IntWalk.i64_in _ (by omega)
       have hGr : g ≠ gr := by omega
       have hbr : bk ≠ gr := by omega
       have HSE := hide (HSET.out W2 yy HB2.out)
       have HFS := hide (And.intro ((cell_far (w := W2) (.int .i64 yy) (p := ⟨gr, v, none⟩) (o := 0) hnx).trans t0) (And.intro ((cell_far (w := W2) (.int .i64 yy) (p := ⟨gr, v, none⟩) (o := 1) hnx).trans t1) (And.intro ((cell_far (w := W2) (.int .i64 yy) (p := ⟨gr, v, none⟩) (o := 2) hnx).trans t2) (And.intro ((cell_far (w := W2) (.int .i64 yy) (p := ⟨gr, v, none⟩) (o := u) hTn).trans tT) (And.intro ((cell_far (w := W2) (.int .i64 yy) (p := ⟨gr, v, none⟩) (o := 11) hGr).trans k11) (And.intro ((cell_far (w := W2) (.int .i64 yy) (p := ⟨gr, v, none⟩) (o := 3) hGr).trans k3) (And.intro ((cell_far (w := W2) (.int .i64 yy) (p := ⟨gr, v, none⟩) (o := ok + v) hbr).trans cv) ((cell_far (w := W2) (.int .i64 yy) (p := ⟨gr, v, none⟩) (o := ok + u) hbr).trans cu))))))))
       clear bv1 bu1 hji hcb hdd hyy
       go_wp2_with fail
       go_region_held3 (fun w' => w'.cell? ⟨wr.heap.size, 0, none⟩ = some (.int .i64 (u : Int)) ∧ w'.cell? ⟨wr.heap.size, 1, none⟩ = some (.int .i64 (v : Int)) ∧ w'.cell? ⟨wr.heap.size, 2, none⟩ = some (.int .i64 xi) ∧ w'.cell? ⟨T, u, none⟩ = some (.slice (some ⟨gr, 0, none⟩) nd cu') ∧ w'.cell? ⟨g, 11, none⟩ = some (.slice (some ⟨bk, ok, none⟩) nd ckp) ∧ w'.cell? ⟨g, 3, none⟩ = some (.int .i64 pj) ∧ w'.cell? ⟨bk, ok + v, none⟩ = some (.int .i64 xv) ∧ w'.cell? ⟨bk, ok + u, none⟩ = some (.int .i64 xu)) (first | exact ⟨t0, t1, t2, tT, k11, k3, cv, cu⟩ | exact HFS.out)
        (first | (go_at_call 48; go_must (refine (HCL.out _).mono ?_); rintro e w3 ⟨rfl, rfl⟩))
       clear ew1 ew2
       go_wp2_with fail
       go_roundw
       case rel => exact ⟨k + 1, by omega, by go_num, hide (by rw [HSU.out, HRG.out]; exact HSE.out.below (below_drewN (Below.refl _ _) 1))⟩
       case measure => simp [intOf]; omega
      ·have HCL := hide (fun w' => cut_any xi 549755813888 w' (by decide) (by decide))
       have HSE := hide (HSET.out W2 (clampV xi 549755813888) HB2.out)
       have HFS := hide (And.intro ((cell_far (w := W2) (.int .i64 (clampV xi 549755813888)) (p := ⟨gr, v, none⟩) (o := 0) hnx).trans t0) (And.intro ((cell_far (w := W2) (.int .i64 (clampV xi 549755813888)) (p := ⟨gr, v, none⟩) (o := 1) hnx).trans t1) (And.intro ((cell_far (w := W2) (.int .i64 (clampV xi 549755813888)) (p := ⟨gr, v, none⟩) (o := 2) hnx).trans t2) ((cell_far (w := W2) (.int .i64 (clampV xi 549755813888)) (p := ⟨gr, v, none⟩) (o := u) hTn).trans tT))))
       go_wp2_with fail
       go_region_held3 (fun w' => w'.cell? ⟨wr.heap.size, 0, none⟩ = some (.int .i64 (u : Int)) ∧ w'.cell? ⟨wr.heap.size, 1, none⟩ = some (.int .i64 (v : Int)) ∧ w'.cell? ⟨wr.heap.size, 2, none⟩ = some (.int .i64 xi) ∧ w'.cell? ⟨T, u, none⟩ = some (.slice (some ⟨gr, 0, none⟩) nd cu')) (first | exact ⟨t0, t1, t2, tT⟩ | exact HFS.out)
        (first | (go_at_call 48; go_must (refine (HCL.out _).mono ?_); rintro e w3 ⟨rfl, rfl⟩))
       go_wp2_with fail
       go_roundw
       case rel => exact ⟨k + 1, by omega, by go_num, hide (by rw [HSU.out, HRG.out, if_pos trivial]; exact HSE.out.below (below_drewN (Below.refl _ _) 1))⟩
       case measure => simp [intOf]; omega
    ·obtain rfl : k = nl2 := by omega
     go_wp2_with fail
     go_meet
     case rel => exact HR
  case rest =>
   have HR := hcut
   obtain ⟨wz, rfl⟩ : ∃ wz, wz = wc := ⟨_, rfl⟩
   clear HR0
   have HALL : Hid (readK p fy c.ck r.rg nl2 = readAll p fy c.ck r.rg) := hide (by rw [← HN2.out]; exact readK_all _ _ _ _)
   have HOKr := hide (readK_ok (fy := fy) HP.out HCKB.out r.rg nl2)
   have HRW := hide (HR.out.rows_ (by rw [(readK_ok (fy := fy) HP.out HCKB.out r.rg nl2).len, HND.out]))
   rw [HALL.out] at HOKr HRW
   obtain ⟨rs, hrs⟩ : ∃ rs, readAll p fy c.ck r.rg = rs := ⟨_, rfl⟩
   have HRS := hide hrs
   rw [hrs] at HRW HOKr
   clear hrs HALL
   have hrl : rs.length = nd := by rw [HOKr.out.len, HND.out]
   have hf3 := HP.out.f3
   have hff := HP.out.f0
   have HB1 := hide HR.out.old
   have HSTC := hide (fun W (hB : Below wz.heap.size wz W) => set_any (some ⟨bk, ok, none⟩) ckp (some ⟨T, 0, none⟩) ct c.ck rs p.fa W (HCK.out W (HB1.out.trans (hB.mono HB1.out.size))).2 (HRW.out.below (Nat.le_refl _) hB) (by rw [HLN.out]; omega) (by rw [hrl]; omega) (fun q hq => by
    obtain ⟨t, ht, e⟩ := List.mem_iff_getElem.1 hq
    have h1 := HOKr.out.row t (by rw [HND.out, ← hrl]; exact ht)
    rw [List.getD_eq_getElem?_getD, List.getElem?_eq_getElem ht] at h1
    simp only [Option.getD_some, e] at h1
    rw [h1, HND.out]; omega) (fin_below HF.out (HB1.out.trans (hB.mono HB1.out.size))))
   rw [HLN.out, hrl] at HSTC
   have HSW : Hid (∀ W, Below wz.heap.size wz W → W.cell? ⟨g, 11, none⟩ = some (.slice (some ⟨bk, ok, none⟩) nd ckp) ∧ W.cell? ⟨g, 1, none⟩ = some (.int .i64 p.fa)) := hide (fun W hB => by
    have hB2 := HB1.out.trans (hB.mono HB1.out.size)
    obtain ⟨ck', nd', lk', tm', pm', hcb⟩ := HCB.out W hB2
    have k1 := hcb.cell 1
    simp [rclC] at k1
    exact ⟨(HCK.out W hB2).1, k1⟩)
   have HBD : Hid (Below wz.heap.size wz wz.drew) := hide (below_drewN (Below.refl _ _) 1)
   clear HR hf3 hff
   go_upto_region 22 with fail
   have HBA : Hid (Below wz.heap.size wz (wz.alloc (.cells #[.int .i64 0, .int .i64 0] 62)).drew) := hide (below_drewN ((Below.refl wz.heap.size wz).alloc (Nat.le_refl _) _) 1)
   have HKA : Hid (Blk (wz.alloc (.cells #[.int .i64 0, .int .i64 0] 62)).drew wz.heap.size 62 #[.int .i64 0, .int .i64 0]) := hide (Blk.new wz _ _)
   go_cut [18, 19] from 156 to 169 (fun v18 v19 wx => ∃ gz cpo f9, v18 = .slice (some ⟨gz, 0, none⟩) nd cpo ∧ v19 = .pointer (some ⟨f9, 0, none⟩) ∧ Hid (Below wz.heap.size wz wx) ∧ Hid (Blk wx f9 62 #[.int .i64 0, .int .i64 (-1)]) ∧ Hid (wx.ownsRow wz.heap.size 3 1 (.slice (some ⟨gz, 0, none⟩) nd cpo) nd ((setL c.ck rs p.fa nd).map (Value.int .i64))))
   case first =>
    go_region_held3 (fun w' => w'.cell? ⟨g, 11, none⟩ = some (.slice (some ⟨bk, ok, none⟩) nd ckp) ∧ w'.cell? ⟨g, 1, none⟩ = some (.int .i64 p.fa)) (first | (with_reducible exact HSW.out _ HBD.out) | (with_reducible exact HSW.out _ HBA.out) | (with_reducible exact HSW.out _ HB3.out) | (with_reducible exact HSW.out _ HB3A.out) | (with_reducible exact HSW.out _ HB3B.out) | (with_reducible exact HSW.out _ HB3C.out))
     (first | (go_at_call 49; (with_reducible refine (HSTC.out _ (by first | (with_reducible exact HBD.out) | (with_reducible exact HBA.out))).mono ?_); rintro e w3 ⟨hB3, hpost⟩; have HB3 : Hid (Below wz.heap.size wz w3) := hide (by first | (with_reducible exact HBD.out.trans (hB3.mono HBD.out.size)) | (with_reducible exact HBA.out.trans (hB3.mono HBA.out.size))); have HB3A := hide (HB3.out.alloc HB3.out.size (.cells #[.int .i64 0, .int .i64 0] 62)); have HB3B := hide (HB3.out.alloc HB3.out.size (.cells #[.int .i64 0, .int .i64 (-1)] 62)); have HB3C := hide ((HB3.out.setCell (p := ⟨wz.heap.size, 0, none⟩) (Nat.le_refl _) (.int .i64 0)).setCell (p := ⟨wz.heap.size, 1, none⟩) (Nat.le_refl _) (.int .i64 (-1))); have HBE := hide hB3; clear hB3; (try (have HK3 := hide (HKA.out.below HBE.out HKA.out.lt); obtain ⟨f1, f2, f3, f4⟩ := HK3.out.cells2)); obtain ⟨hne, -⟩ | ⟨-, i9, hi9, -, hne, -⟩ | ⟨-, -, v3, rfl, hown⟩ := hpost; (exact absurd (hrl.trans HLN.out.symm) hne); (exact absurd (HOKr.out.set_ok HP.out HCKB.out (by rw [HND.out, ← HLN.out]; exact hi9)) (by rw [HND.out, ← HLN.out]; exact hne)); have HOW := hide hown; clear hown))
    all_goals (
     rw [HLN.out] at HOW
     obtain ⟨gz, cpo, cur, rfl, hgb, -, -, -, -, -⟩ := block_of_own HOW.out hnd1
     go_wp2_with fail
     go_meet
     case rel =>
      refine ⟨gz, cpo, _, rfl, rfl, ?_, ?_, ?_⟩
      ·first | exact HB3B | exact HB3C
      ·first | exact hide (Blk.new w3 _ _) | exact hide ((HK3.out.set_ 0 _).set_ 1 _)
      ·first
        | exact hide (own_keepR HOW.out ((Below.refl w3.heap.size w3).alloc (Nat.le_refl _) _))
        | (have hgb2 : wz.heap.size + 1 ≤ gz := by simpa using hgb
           have hne : gz ≠ wz.heap.size := by omega
           exact hide (own_mono (own_keepH HOW.out (fun q e => by cases e; exact (Below.heap_setCell _ _ _ _ hne).trans (Below.heap_setCell _ _ _ _ hne))) (by simp))))
   case rest =>
    obtain ⟨gz, cpo, f9, rfl, rfl, HB3, HF9, HOW⟩ := hcut
    have HB4 := hide (HB1.out.trans (HB3.out.mono HB1.out.size))
    have HZB : Hid (∀ i, i < nd → -2000000000000 ≤ (setL c.ck rs p.fa nd).getD i 0 ∧ (setL c.ck rs p.fa nd).getD i 0 ≤ 2000000000000) := hide (fun i hi => by rw [← HND.out]; exact setL_bd HP.out HOKr.out HCKB.out (by rw [HND.out]; exact hi))
    have HZL : Hid ((setL c.ck rs p.fa nd).length = nd) := hide (setL_len _ _ _ _)
    have HFN : Hid (setsF p fy c.ck r = driftF p (setL c.ck rs p.fa nd) r.dr) := hide (by unfold setsF; rw [HRS.out, HLN.out])
    obtain ⟨zs, hzs⟩ : ∃ zs, setL c.ck rs p.fa nd = zs := ⟨_, rfl⟩
    rw [hzs] at HOW HZB HZL HFN
    clear hzs hcut HSTC HSW HBD HBA HKA HRW HOKr hrl
    obtain ⟨f0, f1, -, -⟩ := HF9.out.cells2
    have HOW2 : Hid (wc.ownsRow wz.heap.size 3 1 (.slice (some ⟨gz, 0, none⟩) nd cpo) nd ((outK p zs r.dr 0).map (Value.int .i64))) := hide (by rw [outK_zero]; exact HOW.out)
    obtain ⟨wy, rfl⟩ : ∃ wy, wy = wc := ⟨_, rfl⟩
    go_upto_block 6 with fail
    clear f0 f1
    go_cut [177] from 173 to 206 (fun _ wx => Hid (wx.ownsRow wz.heap.size 3 1 (.slice (some ⟨gz, 0, none⟩) nd cpo) nd ((setsF p fy c.ck r).map (Value.int .i64))) ∧ Hid (Below wz.heap.size wz wx) ∧ Hid (wildB (setsF p fy c.ck r) = false))
    case first =>
     go_wp2_with fail
     go_loopw [177] (fun v wr => ∃ k : Nat, k ≤ nd ∧ v = .int .i64 k ∧ Hid (wr.ownsRow wz.heap.size 3 1 (.slice (some ⟨gz, 0, none⟩) nd cpo) nd ((outK p zs r.dr k).map (Value.int .i64))) ∧ Hid (Below wz.heap.size wz wr) ∧ Hid (∀ i, i < k → -274877906944 ≤ (setsF p fy c.ck r).getD i 0 ∧ (setsF p fy c.ck r).getD i 0 ≤ 274877906944)) (fun v _ => nd - (intOf v).toNat)
     case atStart => exact ⟨0, by omega, rfl, HOW2, HB3, hide (fun i hi => by omega)⟩
     case round =>
      obtain ⟨k, hk, rfl, HO, HBr, HWD⟩ := hrel
      by_cases hkn : k < nd
      ·have HBw := hide (HB1.out.trans (HBr.out.mono HB1.out.size))
       obtain ⟨hoc, hof⟩ := own_cellT HO.out hkn
       have hz := outK_get p zs r.dr k (i := k) (by rw [HZL.out]; exact hkn)
       rw [if_neg (fun hh => Nat.lt_irrefl _ hh.1), Int.add_zero] at hz
       rw [List.getElem?_map, List.getElem?_eq_getElem (by rw [outK_len, HZL.out]; exact hkn)] at hoc
       rw [List.getD_eq_getElem?_getD, List.getElem?_eq_getElem (by rw [outK_len, HZL.out]; exact hkn)] at hz
       simp only [Option.getD_some, Option.map_some] at hz hoc
       rw [hz] at hoc
       have hzb := HZB.out k hkn
       have HSAME := hide (outK_same p zs r.dr (k := k + 1) (Nat.lt_succ_self k) (by rw [HZL.out]; exact hkn))
       have hgz : wz.heap.size ≤ gz := (HO.out.lt gz rfl).1
       obtain ⟨z, hzz⟩ : ∃ z, zs.getD k 0 = z := ⟨_, rfl⟩
       rw [hzz] at hoc hzb
       have HZZ := hide hzz
       clear hz hzz
       go_upto_if 183 with fail
       go_cut [177] from 177 to 206 (fun v wx => v = .int .i64 k ∧ ∃ y : Int, Hid ((outK p zs r.dr (k + 1)).getD k 0 = y) ∧ -3000000000000 ≤ y ∧ y ≤ 3000000000000 ∧ Hid (wx.ownsRow wz.heap.size 3 1 (.slice (some ⟨gz, 0, none⟩) nd cpo) nd ((outK p zs r.dr (k + 1)).map (Value.int .i64))) ∧ Hid (Below wz.heap.size wz wx))
       case first =>
        by_cases hk3 : k < nl3
        ·have d1 : decide ((k : Int) < (nl3 : Int)) = true := decide_eq_true (by omega)
         obtain ⟨b3, o3, rfl, cd⟩ := HB.out k (by rw [HN3.out]; exact hk3)
         obtain ⟨xd, hxd⟩ : ∃ xd, r.dr.getD k 0 = xd := ⟨_, rfl⟩
         rw [hxd] at cd
         have cdr := (HBw.out.cell (p := ⟨b3, o3 + k, none⟩) (World.block_lt_of_cell? _ _ cd)).trans cd
         have hst := outK_step p zs r.dr (k := k) (by rw [HN3.out]; exact hk3) (by rw [HZL.out]; exact hkn)
         rw [hxd, HZZ.out] at hst
         have hdr := HP.out.dr
         obtain ⟨pd, hpd⟩ : ∃ pd, p.dr = pd := ⟨_, rfl⟩
         rw [hpd] at hst hdr
         obtain ⟨ck', nd', lk', tm', pm', hcb⟩ := HCB.out wr HBw.out
         have k4 := hcb.cell 4
         simp [rclC] at k4
         rw [hpd] at k4
         have HCL := hide (fun w' => cut_any xd pd w' hdr.1 (by omega))
         have hcb' := clampV_in (x := xd) hdr.1
         obtain ⟨qq, hq⟩ : ∃ qq, clampV xd pd = qq := ⟨_, rfl⟩
         rw [hq] at HCL hst hcb'
         obtain ⟨yy, hyy⟩ : ∃ yy, z + qq = yy := ⟨_, rfl⟩
         rw [hyy] at hst
         have HEW : Hid (IntKind.i64.wrap (z + qq) = yy) := hide (by rw [hyy]; exact IntWalk.i64_in _ (by omega))
         have hyb : -3000000000000 ≤ yy ∧ yy ≤ 3000000000000 := by omega
         have HST := hide hst; have HYB := hide hyb
         have hgG : gz ≠ g := by have := HB1.out.size; omega
         have hgB : gz ≠ b3 := by have := HB1.out.size; have hb3 : b3 < w.heap.size := World.block_lt_of_cell? _ _ cd; omega
         have HOC := hide hoc; have HOFZ := hide hof
         obtain ⟨S9, hS9⟩ : ∃ S9 : World → Prop, S9 = fun w' => w'.cell? ⟨gz, k, none⟩ = some (.int .i64 z) ∧ w'.cell? ⟨g, 4, none⟩ = some (.int .i64 pd) ∧ w'.cell? ⟨b3, o3 + k, none⟩ = some (.int .i64 xd) := ⟨_, rfl⟩
         have HS9 := hide hS9; clear hS9
         have hH : S9 wr.drew := by rw [HS9.out]; exact ⟨hoc, k4, cdr⟩
         have HH := hide hH; clear hH hst hpd hq hyy hdr hcb' hxd hyb hcb
         go_upto_region 29 with fail
         refine wp_region_noPanic ?_
         refine wp_region_L (S := S9) (L := 16) (by kernel_rfl) ?_
         clear k4 hoc hof cd cdr
         have hH := HH.out
         try simp only [List.size_toArray, List.length_cons, List.length_nil, Nat.reduceAdd]
         refine wpAnyL_take (i := 0) (v := ?vd0) rfl (by kernel_rfl) (by kernel_rfl) (by kernel_rfl) (by kernel_rfl) (fun _ _ _ h => h) (Or.inl ⟨by rfl, ?hyd0⟩) (by assumption) ?restd0
         case hyd0 => (intro w9 hSw; rw [HS9.out] at hSw; obtain ⟨q0, q1, q2⟩ := hSw; go_simp <;> with_reducible rfl)
         try simp only [Act.put, List.setIfInBounds_toArray, List.set_cons_zero, List.set_cons_succ, List.getElem_toArray, List.getElem_cons_zero, List.getElem_cons_succ]
         refine wpAnyL_take (i := 1) (v := ?vd1) rfl (by kernel_rfl) (by kernel_rfl) (by kernel_rfl) (by kernel_rfl) (fun _ _ _ h => h) (Or.inl ⟨by rfl, ?hyd1⟩) (by assumption) ?restd1
         case hyd1 => (intro w9 hSw; rw [HS9.out] at hSw; obtain ⟨q0, q1, q2⟩ := hSw; go_simp <;> with_reducible rfl)
         try simp only [Act.put, List.setIfInBounds_toArray, List.set_cons_zero, List.set_cons_succ, List.getElem_toArray, List.getElem_cons_zero, List.getElem_cons_succ]
         refine wpAnyL_take (i := 2) (v := ?vd2) rfl (by kernel_rfl) (by kernel_rfl) (by kernel_rfl) (by kernel_rfl) (fun _ _ _ h => h) (Or.inl ⟨by rfl, ?hyd2⟩) (by assumption) ?restd2
         case hyd2 => (intro w9 hSw; rw [HS9.out] at hSw; obtain ⟨q0, q1, q2⟩ := hSw; go_simp <;> with_reducible rfl)
         try simp only [Act.put, List.setIfInBounds_toArray, List.set_cons_zero, List.set_cons_succ, List.getElem_toArray, List.getElem_cons_zero, List.getElem_cons_succ]
         refine wpAnyL_take (i := 3) (v := ?vd3) rfl (by kernel_rfl) (by kernel_rfl) (by kernel_rfl) (by kernel_rfl) (fun _ _ _ h => h) (Or.inl ⟨by rfl, ?hyd3⟩) (by assumption) ?restd3
         case hyd3 => (intro w9 hSw; rw [HS9.out] at hSw; obtain ⟨q0, q1, q2⟩ := hSw; go_simp <;> with_reducible rfl)
         try simp only [Act.put, List.setIfInBounds_toArray, List.set_cons_zero, List.set_cons_succ, List.getElem_toArray, List.getElem_cons_zero, List.getElem_cons_succ]
         refine wpAnyL_take (i := 4) (v := ?vd4) rfl (by kernel_rfl) (by kernel_rfl) (by kernel_rfl) (by kernel_rfl) (fun _ _ _ h => h) (Or.inl ⟨by rfl, ?hyd4⟩) (by assumption) ?restd4
         case hyd4 => (intro w9 hSw; rw [HS9.out] at hSw; obtain ⟨q0, q1, q2⟩ := hSw; go_simp <;> with_reducible rfl)
         try simp only [Act.put, List.setIfInBounds_toArray, List.set_cons_zero, List.set_cons_succ, List.getElem_toArray, List.getElem_cons_zero, List.getElem_cons_succ]
         refine wpAnyL_take (i := 5) (v := ?vd5) rfl (by kernel_rfl) (by kernel_rfl) (by kernel_rfl) (by kernel_rfl) (fun _ _ _ h => h) (Or.inl ⟨by rfl, ?hyd5⟩) (by assumption) ?restd5
         case hyd5 => (intro w9 hSw; rw [HS9.out] at hSw; obtain ⟨q0, q1, q2⟩ := hSw; go_simp <;> with_reducible rfl)
         try simp only [Act.put, List.setIfInBounds_toArray, List.set_cons_zero, List.set_cons_succ, List.getElem_toArray, List.getElem_cons_zero, List.getElem_cons_succ]
         refine wpAnyL_take (i := 6) (v := ?vd6) rfl (by kernel_rfl) (by kernel_rfl) (by kernel_rfl) (by kernel_rfl) (fun _ _ _ h => h) (Or.inl ⟨by rfl, ?hyd6⟩) (by assumption) ?restd6
         case hyd6 => (intro w9 hSw; rw [HS9.out] at hSw; obtain ⟨q0, q1, q2⟩ := hSw; go_simp <;> with_reducible rfl)
         try simp only [Act.put, List.setIfInBounds_toArray, List.set_cons_zero, List.set_cons_succ, List.getElem_toArray, List.getElem_cons_zero, List.getElem_cons_succ]
         refine wpAnyL_take (i := 7) (v := ?vd7) rfl (by kernel_rfl) (by kernel_rfl) (by kernel_rfl) (by kernel_rfl) (fun _ _ _ h => h) (Or.inl ⟨by rfl, ?hyd7⟩) (by assumption) ?restd7
         case hyd7 => (intro w9 hSw; rw [HS9.out] at hSw; obtain ⟨q0, q1, q2⟩ := hSw; go_simp <;> with_reducible rfl)
         try simp only [Act.put, List.setIfInBounds_toArray, List.set_cons_zero, List.set_cons_succ, List.getElem_toArray, List.getElem_cons_zero, List.getElem_cons_succ]
         refine wpAnyL_take (i := 8) (v := ?vd8) rfl (by kernel_rfl) (by kernel_rfl) (by kernel_rfl) (by kernel_rfl) (fun _ _ _ h => h) (Or.inl ⟨by rfl, ?hyd8⟩) (by assumption) ?restd8
         case hyd8 => (intro w9 hSw; rw [HS9.out] at hSw; obtain ⟨q0, q1, q2⟩ := hSw; go_simp <;> with_reducible rfl)
         try simp only [Act.put, List.setIfInBounds_toArray, List.set_cons_zero, List.set_cons_succ, List.getElem_toArray, List.getElem_cons_zero, List.getElem_cons_succ]
         refine wpAnyL_take (i := 9) (v := ?vd9) rfl (by kernel_rfl) (by kernel_rfl) (by kernel_rfl) (by kernel_rfl) (fun _ _ _ h => h) (Or.inl ⟨by rfl, ?hyd9⟩) (by assumption) ?restd9
         case hyd9 => (intro w9 hSw; rw [HS9.out] at hSw; obtain ⟨q0, q1, q2⟩ := hSw; go_simp <;> with_reducible rfl)
         try simp only [Act.put, List.setIfInBounds_toArray, List.set_cons_zero, List.set_cons_succ, List.getElem_toArray, List.getElem_cons_zero, List.getElem_cons_succ]
         refine wpAnyL_take (i := 10) (v := ?vd10) rfl (by kernel_rfl) (by kernel_rfl) (by kernel_rfl) (by kernel_rfl) (fun _ _ _ h => h) (Or.inl ⟨by rfl, ?hyd10⟩) (by assumption) ?restd10
         case hyd10 => (intro w9 hSw; rw [HS9.out] at hSw; obtain ⟨q0, q1, q2⟩ := hSw; go_simp <;> with_reducible rfl)
         try simp only [Act.put, List.setIfInBounds_toArray, List.set_cons_zero, List.set_cons_succ, List.getElem_toArray, List.getElem_cons_zero, List.getElem_cons_succ]
         refine wpAnyL_take (i := 11) (v := ?vd11) rfl (by kernel_rfl) (by kernel_rfl) (by kernel_rfl) (by kernel_rfl) (fun _ _ _ h => h) (Or.inl ⟨by rfl, ?hyd11⟩) (by assumption) ?restd11
         case hyd11 => (intro w9 hSw; rw [HS9.out] at hSw; obtain ⟨q0, q1, q2⟩ := hSw; go_simp <;> with_reducible rfl)
         try simp only [Act.put, List.setIfInBounds_toArray, List.set_cons_zero, List.set_cons_succ, List.getElem_toArray, List.getElem_cons_zero, List.getElem_cons_succ]
         refine wpAnyL_take (i := 12) (v := ?vd12) rfl (by kernel_rfl) (by kernel_rfl) (by kernel_rfl) (by kernel_rfl) (fun _ _ _ h => h) (Or.inl ⟨by rfl, ?hyd12⟩) (by assumption) ?restd12
         case hyd12 => (intro w9 hSw; rw [HS9.out] at hSw; obtain ⟨q0, q1, q2⟩ := hSw; go_simp <;> with_reducible rfl)
         try simp only [Act.put, List.setIfInBounds_toArray, List.set_cons_zero, List.set_cons_succ, List.getElem_toArray, List.getElem_cons_zero, List.getElem_cons_succ]
         refine wpAnyL_one (i := 13) (by kernel_rfl) rfl (fun K9 hK9 => ?_)
         try simp only [List.getElem_toArray, List.getElem_cons_zero, List.getElem_cons_succ]
         go_simp
         (with_reducible refine (HCL.out _).mono ?_)
         rintro e w9 ⟨rfl, rfl⟩
         try go_simp
         refine hK9.out _ _ (fun _ => HH.out) ?_
         clear hK9 K9
         try simp only [Act.put, List.setIfInBounds_toArray, List.set_cons_zero, List.set_cons_succ]
         refine wpAnyL_one (i := 14) (by kernel_rfl) rfl (fun K9 hK9 => ?_)
         try simp only [List.getElem_toArray, List.getElem_cons_zero, List.getElem_cons_succ]
         go_simp
         refine hK9.out _ _ (fun _ => HH.out) ?_
         clear hK9 K9
         try simp only [Act.put, List.setIfInBounds_toArray, List.set_cons_zero, List.set_cons_succ]
         refine wpAnyL_take (i := 15) (v := ?vd15) rfl (by kernel_rfl) (by kernel_rfl) (by kernel_rfl) (by kernel_rfl) (fun _ _ _ h => h) (Or.inl ⟨by rfl, ?hyd15⟩) (by assumption) ?restd15
         case hyd15 => (intro w9 hSw; rw [HS9.out] at hSw; obtain ⟨q0, q1, q2⟩ := hSw; go_simp <;> with_reducible rfl)
         try simp only [Act.put, List.setIfInBounds_toArray, List.set_cons_zero, List.set_cons_succ, List.getElem_toArray, List.getElem_cons_zero, List.getElem_cons_succ]
         clear hH
         refine wpAnyL_one (i := 16) (by kernel_rfl) rfl (fun K9 hK9 => ?_)
         try simp only [List.getElem_toArray, List.getElem_cons_zero, List.getElem_cons_succ]
         have hoc := HOC.out; have hof := HOFZ.out
         go_simp
         refine hK9.out _ _ (fun h9 => absurd h9 (by decide)) ?_
         refine wpAnyL_done (by kernel_rfl) ?_ _
         refine NoPanic.normal ?_
         clear hK9 K9
         try rw [HEW.out]
         go_wp2_with fail
         go_meet
         case rel => exact ⟨rfl, yy, hide (by rw [HST.out, List.getD_eq_getElem?_getD, List.getElem?_set]; simp [outK_len, HZL.out, hkn]), HYB.out.1, HYB.out.2, hide (by rw [HST.out, List.map_set]; exact own_set HO.out hkn), hide (below_drewN (HBr.out.setCell (p := ⟨gz, k, none⟩) hgz _) 1)⟩
        ·have d1 : decide ((k : Int) < (nl3 : Int)) = false := decide_eq_false (by omega)
         have HST := hide (outK_past p zs r.dr (k := k) (by rw [HN3.out]; omega))
         go_wp2_with fail
         go_meet
         case rel => exact ⟨rfl, z, hide (by rw [HST.out, outK_get p zs r.dr k (i := k) (by rw [HZL.out]; exact hkn), if_neg (fun hh => Nat.lt_irrefl _ hh.1), Int.add_zero, HZZ.out]), by omega, by omega, hide (by rw [HST.out]; exact HO.out), HBr⟩
       case rest =>
        obtain ⟨rfl, y, HY, hy1, hy2, HO2, HBx⟩ := hcut
        obtain ⟨hoc, hof⟩ := own_cellT HO2.out hkn
        have hz := HY.out
        rw [List.getElem?_map, List.getElem?_eq_getElem (by rw [outK_len, HZL.out]; exact hkn)] at hoc
        rw [List.getD_eq_getElem?_getD, List.getElem?_eq_getElem (by rw [outK_len, HZL.out]; exact hkn)] at hz
        simp only [Option.getD_some, Option.map_some] at hz hoc
        rw [hz] at hoc
        have HV := hide (fun W => in_q y (-274877906944) 274877906944 _ rfl W)
        have HFIN : Hid ((setsF p fy c.ck r).getD k 0 = y) := hide (by rw [HFN.out, ← HSAME.out]; exact HY.out)
        clear hz hof
        cases hin : inB y (-274877906944) 274877906944
        ·rw [hin] at HV
         have HBF := hide (HB1.out.trans (HBx.out.mono HB1.out.size))
         have hout : y < -274877906944 ∨ 274877906944 < y := by unfold inB at hin; simp at hin; omega
         have HWY : Hid (wildB (setsF p fy c.ck r) = true) := hide (wild_yes (k := k) (by rw [HFN.out, driftF_len, HZL.out]; exact hkn) (by rw [HFIN.out]; exact hout))
         clear hin hout
         go_wp2_with fail
         refine (HV.out _).mono ?_
         rintro e w2 ⟨rfl, rfl⟩
         go_wp2_with fail
         go_ret
         refine ⟨?_, ?_⟩
         ·unfold playE; rw [HWY.out, if_pos rfl]; rfl
         ·unfold playF; rw [HWY.out, if_pos rfl]; exact HD.out.below HBF.out
        ·rw [hin] at HV
         have hout : -274877906944 ≤ y ∧ y ≤ 274877906944 := by unfold inB at hin; simpa using hin
         have HIN := hide hout
         clear hin hout
         go_wp2_with fail
         refine (HV.out _).mono ?_
         rintro e w2 ⟨rfl, rfl⟩
         go_wp2_with fail
         go_roundw
         case rel => exact ⟨k + 1, by omega, by go_num, HO2, HBx, hide (fun i hi => by
          by_cases e : i = k
          ·subst e; rw [HFIN.out]; exact HIN.out
          ·exact HWD.out i (by omega))⟩
         case measure => simp [intOf]; omega
      ·obtain rfl : k = nd := by omega
       go_wp2_with fail
       go_meet
       case rel => exact ⟨hide (by rw [HFN.out, ← outK_end p zs r.dr (k := k) (by rw [HZL.out]; exact Nat.le_refl _)]; exact HO.out), HBr, hide (wild_no (fun i hi => HWD.out i (by rw [HFN.out, driftF_len, HZL.out] at hi; exact hi)))⟩
    case rest =>
     obtain ⟨HOZ, HBz, HWB⟩ := hcut
     have HBx := hide (HB1.out.trans (HBz.out.mono HB1.out.size))
     have hgz := HOZ.out.lt gz rfl
     have HD5 := hide (HD.out.more HBx.out (x := gz) (Nat.le_trans HB1.out.size hgz.1) hgz.2)
     have HPF : Hid (playF p fy r c = { slotsF p fy r c p.sl.length with ck := setsF p fy c.ck r, rd := c.rd + 1 } ∧ playE p fy r c = 0) := hide (by unfold playF playE; rw [HWB.out, if_neg (by decide), if_neg (by decide)]; exact ⟨rfl, rfl⟩)
     have HA5 := hide (loss_keep HA.out (w' := wc) (fun x hx => HBx.out.block x.block (HD.out.lt_ (HAb.out x hx))))
     have HI5 := hide (isl_keep0 HMD.out (w' := wc) (fun h0 x hx => HBx.out.block x.block (HD.out.lt_ (HIb.out h0 x hx))))
     clear HOW2 HB3 HF9 HOW HZB HZL HFN HRS
     obtain ⟨w5, rfl⟩ : ∃ w5, w5 = wc := ⟨_, rfl⟩
     obtain ⟨ck0, nd0, lk0, tm0, pm0, hcb⟩ := HD5.out.cells
     have k6 := hcb.cell 6
     simp [rclC] at k6
     clear hcb
     have hns := HP.out.sl
     obtain ⟨ns, hns'⟩ : ∃ ns, p.sl.length = ns := ⟨_, rfl⟩
     have HNS := hide hns'
     rw [hns'] at k6 hns
     clear hns'
     have HND2 := hide HND.out
     go_upto_block 8 with fail
     clear k6
     refine slots_loop w0 w5 w5 HD5.out.now HP.out HOK.out (by omega) hM hfy HMM.out HL.out HS.out h0 HNS.out A AM c1 nl1 c4 nl4 r HN1.out hm1 HA5.out (fun x hx => List.mem_cons_of_mem _ (HAb.out x hx)) HN4.out hm4 HI5.out (fun h0 x hx => List.mem_cons_of_mem _ (HIb.out (by rw [HN4.out]; exact h0) x hx)) nd HND.out (by omega) _ _ _ _ _ _ _ _ _ _ _ _ _ _ _ _ _ _ _ _ _ _ _ _ _ _ _ _ _ _ _ _ _ _ _ _ _ _ _ _ _ _ _ _ _ _ _ _ _ _ _ _ _ _ _ _ _ _ _ _ _ _ _ _ _ _ _ _ _ _ _ _ _ _ _ _ _ _ _ _ _ _ _ _ _ _ _ _ _ _ _ _ _ _ _ _ _ _ _ _ _ _ _ _ _ _ _ _ _ _ _ _ _ _ _ _ _ _ _ _ _ _ _ _ _ _ _ _ _ _ _ _ _ _ _ _ _ _ _ _ _ _ _ _ _ _ _ _ _ _ _ _ _ _ _ _ _ _ _ _ _ _ _ _ _ _ _ _ _ _ _ _ _ _ _ _ _ _ _ _ _ _ _ _ _ _ _ _ _ _ _ _ _ _ _ _ _ _ _ _ _ _ _ _ _ _ _ _ _ _ _ _ _ _ _ _ _ _ _ _ _ _ _ _ _ _ _ _ _ _ _ _ _ _ _ _ _ _ _ _ _ _ _ _ _ _ _ _ _ _ _ _ _ _ _ _ _ _ _ _ _ _ _ _ _ _ _ _ _ _ _ _ _ _ _ _ _ _ _ _ _ _ _ _ _ _ _ _ _ _ _ _ _ _ _ _ _ _ _ _ _ _ _ _ _ _ _ _ _ _ _ _ _ _ _ _ _ _ _ _ _ _ _ _ _ _ _ _ _ _ _ _ _ _ _ _ _ _ _ _ _ _ _ _ _ _ _ _ _ _ _ _ _ _ _ _ _ _ _ _ _ _ _ _ _ _ _ _ _ _ _ _ _ _ _ _ _ _ _ _ _ _ _ _ _ _ _ _ _ _ _ _ _ _ _ _ _ _ _ _ _ _ _ _ _ _ _ _ _ _ _ _ _ _ _ _ _ _ _ _ _ _ _ _ _ _ _ _ _ _ _ _ _ _ _ _ _ _ _ _ _ _ _ _ _ (fun v21 v22 v23 v24 v25 v26 v27 v28 v29 v30 v31 v32 v33 v34 v35 v36 v37 v38 v40 v41 v213 v214 v215 v216 v217 v218 v219 v220 v221 v222 v223 v224 v225 v226 v227 v228 v229 v230 v231 v232 v233 v234 v235 v236 v237 v238 v239 v240 v241 v242 v243 v244 v245 v246 v247 v248 v249 v250 v251 v252 v253 v254 v255 v256 v257 v258 v259 v260 v261 v262 v263 v264 v265 v266 v267 v268 v269 v270 v271 v272 v273 v274 v275 v276 v277 v278 v279 v280 v281 v282 v283 v284 v285 v286 v287 v288 v289 v290 v291 v292 v293 v294 v295 v296 v297 v298 v299 v300 v301 v302 v303 v304 v305 v306 v307 v308 v309 v310 v311 v312 v313 v314 v315 v316 v317 v318 v319 v320 v321 v322 v323 v324 v325 v326 v327 v328 v329 v330 v331 v332 v333 v334 v335 v336 v337 v338 v339 v340 v341 v342 v343 v344 v345 v346 v347 v348 v349 v350 v351 v352 v353 v354 v355 v356 v357 v358 v359 v360 v361 v362 v363 v364 v365 v366 v367 v368 v369 v370 v371 v372 v373 v374 v375 v376 v377 v378 v379 v380 v381 v382 v383 v384 v385 v386 v387 v388 v389 v390 v391 v392 v393 v394 v395 v396 v397 v398 v399 v400 v401 v402 v403 v404 v405 v406 v407 v408 v409 v410 v411 v412 v413 v414 v415 v416 v417 v418 v419 v420 v421 v422 v423 v424 v425 v426 v427 v428 v429 v430 v431 v432 v433 v434 v435 v436 v437 v438 v439 v440 w6 hd6 => ?_)
     have HD6 := hide hd6
     clear hd6
     rw [HNS.out] at HPF
     obtain ⟨ck0, nd0, lk0, tm0, pm0, hcb⟩ := HD6.out.cells
     have k16 := hcb.cell 16
     simp [rclC] at k16
     rw [(slotsF_rd p fy r c ns).1] at k16
     obtain ⟨rr, hrr⟩ : ∃ rr, c.rd = rr := ⟨_, rfl⟩
     have hr0 := HOK.out.rd
     rw [hrr] at k16 hr hr0
     have k11 := hcb.cell 11
     simp [rclC] at k11
     have f16 := hcb.frozen 16
     have f11 := hcb.frozen 11
     have HWR : Hid (IntKind.i64.wrap (rr + 1) = rr + 1) := hide (IntWalk.i64_in _ (by omega))
     have HRR := hide hrr
     have HFIN := hide (HD6.out.finish (gz := gz) (n := nd) (cp := cpo) (zs := setsF p fy c.ck r) (r := rr + 1) (w2 := w) (bs' := bs) (List.mem_cons_self ..) (b7 := wz.heap.size) (own_keepH HOZ.out (fun q e => by cases e; exact HD6.out.heap (List.mem_cons_self ..))) (Nat.le_trans HD.out.size HB1.out.size) (by rw [(slotsF_rd p fy r c ns).1, HRR.out]) (fun b hb => ⟨List.mem_cons_of_mem _ hb, by have h1 := HD.out.lt_ hb; have h2 := HB1.out.size; have h3 := hgz.1; omega, HBx.out.block b (HD.out.lt_ hb)⟩))
     clear hcb hrr
     go_wp2_with fail
     go_ret
     refine ⟨?_, ?_⟩
     ·rw [HPF.out.2]; rfl
     ·rw [HPF.out.1]
      have := HFIN.out
      rw [HRR.out]
      exact this
end
end Go.Proofs.YtdogdlnaacimpaaGreatDoor
