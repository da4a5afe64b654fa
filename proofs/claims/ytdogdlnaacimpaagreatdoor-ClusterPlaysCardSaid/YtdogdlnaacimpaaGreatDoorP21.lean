/- The contracts of cluster.Cluster's methods Put, Receive and Play; conditions: the cluster and the round lie in memory; errors.errorType holds what start-up lays there. -/
import Derived.Test.YtdogdlnaacimpaaGreatDoorP20
import Derived.Test.YtdogdlnaacimpaaGreatDoorP12
import Derived.Test.YtdogdlnaacimpaaGreatDoorP13
import Derived.Test.YtdogdlnaacimpaaGreatDoorP17
import Derived.Test.YtdogdlnaacimpaaGreatDoorP01
import Derived.Laws.BytesArg
import Derived.Laws.MakeOwn
import Derived.WideKeyRuns
import Derived.MapKept
set_option linter.unusedVariables false
set_option linter.unusedSimpArgs false
namespace Go.Proofs.YtdogdlnaacimpaaGreatDoor
section
open Go Go.RowKit
attribute [local irreducible] slotsF setsF
section
variable {w w1 : World} {base : Nat} {S S0 : Ix → Ob}
theorem Objs.swap (h : Objs w base S) (x : Ix) (o : Ob) (ha : o.At w base) (hf : ∀ k, k ∈ o.foot → base ≤ k ∧ k < w.heap.size ∧ ¬ Fmy S k) : Objs w base (putO S x o) := by
 refine ⟨fun y => ?_, fun y k hm => ?_, fun y z k hy hz => ?_⟩
 ·by_cases e : y = x
  ·subst e; rw [putO_self]; exact ha
  ·rw [putO_ne _ e]; exact h.at_ y
 ·by_cases e : y = x
  ·subst e; rw [putO_self] at hm; exact ⟨(hf k hm).1, (hf k hm).2.1⟩
  ·rw [putO_ne _ e] at hm; exact h.own y k hm
 ·by_cases e : y = x
  ·by_cases e2 : z = x
   ·rw [e, e2]
   ·subst e
    rw [putO_self] at hy
    rw [putO_ne _ e2] at hz
    exact absurd ⟨z, hz⟩ (hf k hy).2.2
  ·by_cases e2 : z = x
   ·subst e2
    rw [putO_self] at hz
    rw [putO_ne _ e] at hy
    exact absurd ⟨y, hy⟩ (hf k hz).2.2
   ·rw [putO_ne _ e] at hy
    rw [putO_ne _ e2] at hz
    exact h.sep y z k hy hz
end
/-- New clocks, and a round more. -/
theorem Objs.finish {w w1 : World} {base : Nat} {a a0 : Ad} {n : Cn} {p : Pl} {P : Sv3} {fy : Nat} {c c0 : Cl} {v : Value} {zs : List Int} {rd : Int} (h : ClAt w1 base a n p P fy c) (hk : KeptS w w1 (shape a0 n p P fy c0) (shape a n p P fy c)) (hg : a.g = a0.g) (hb : base ≤ w1.heap.size) (hq : QAt w1 base 3 v (zs.map (Value.int .i64))) (hv : ∀ k, v.ownBlock = some k → base ≤ k ∧ k < w1.heap.size ∧ w.heap.size ≤ k ∧ ¬ Fmy (shape a n p P fy c) k) :
 ClTo w base a0 n p P fy c0 ((w1.setCell ⟨a.g, 11, none⟩ v).setCell ⟨a.g, 16, none⟩ (.int .i64 rd)) { c with ck := zs, rd := rd } := by
 have h1 := h.swap .nums (.arr 3 v (zs.map (Value.int .i64))) hq (fun k hm => by
  have := hv k (by simpa [Ob.foot] using hm)
  exact ⟨this.1, this.2.1, this.2.2.2⟩)
 have hx : putO (shape a n p P fy c) .nums (.arr 3 v (zs.map (Value.int .i64))) .clu = .blk a.g 109 (clC p.nd p.fa p.sk p.ji p.dr p.rd P.s P.l p.fr P.q fy a.ck a.mm a.sd a.tk a.pr c.rd) := by rw [putO_ne _ (by simp)]; rfl
 have h2 := h1.setBlk .clu hx 11 v hb
 have hx2 : putO (putO (shape a n p P fy c) .nums (.arr 3 v (zs.map (Value.int .i64)))) .clu (.blk a.g 109 ((clC p.nd p.fa p.sk p.ji p.dr p.rd P.s P.l p.fr P.q fy a.ck a.mm a.sd a.tk a.pr c.rd).setIfInBounds 11 v)) .clu = .blk a.g 109 ((clC p.nd p.fa p.sk p.ji p.dr p.rd P.s P.l p.fr P.q fy a.ck a.mm a.sd a.tk a.pr c.rd).setIfInBounds 11 v) := putO_self _ _
 have h3 := h2.setBlk .clu hx2 16 (.int .i64 rd) (by simpa [World.setCell] using hb)
 have e : putO (putO (putO (shape a n p P fy c) .nums (.arr 3 v (zs.map (Value.int .i64)))) .clu (.blk a.g 109 ((clC p.nd p.fa p.sk p.ji p.dr p.rd P.s P.l p.fr P.q fy a.ck a.mm a.sd a.tk a.pr c.rd).setIfInBounds 11 v))) .clu (.blk a.g 109 (((clC p.nd p.fa p.sk p.ji p.dr p.rd P.s P.l p.fr P.q fy a.ck a.mm a.sd a.tk a.pr c.rd).setIfInBounds 11 v).setIfInBounds 16 (.int .i64 rd))) = shape { a with ck := v } n p P fy { c with ck := zs, rd := rd } := by
  funext y
  cases y <;> rfl
 rw [e] at h3
 refine ⟨{ a with ck := v }, hg, h3, hk.os, hk.tape, hk.output, by simpa [World.setCell] using hk.size, fun i hi hn => ?_, ?_⟩
 ·have hi2 : i ≠ a.g := by
   rintro rfl
   exact hn ⟨.clu, by rw [hg]; simp [shape, Ob.foot]⟩
  exact ((Below.heap_setCell _ _ _ i hi2).trans (Below.heap_setCell _ _ _ i hi2)).trans (hk.block i hi hn)
 ·rintro k ⟨y, hy⟩
  by_cases e2 : y = .nums
  ·subst e2
   exact .inr (hv k (by simpa [shape, Ob.foot] using hy)).2.2.1
  ·refine hk.fam k ⟨y, ?_⟩
   cases y <;> first | exact hy | exact absurd rfl e2
theorem slotsF_zero (p : Pl) (fy : Nat) (r : Rn) (c : Cl) : slotsF p fy r c 0 = c := by unfold slotsF; rfl
theorem slotsF_succ (p : Pl) (fy : Nat) (r : Rn) (c : Cl) (k : Nat) : slotsF p fy r c (k + 1) = slotF p fy r k (slotsF p fy r c k) := by
 conv => lhs; unfold slotsF
set_option maxRecDepth 100000 in
set_option maxHeartbeats 4000000 in
theorem play_any {base : Nat} {a : Ad} {p : Pl} {P : Sv3} {fy : Nat} {c : Cl} {N : Nat} (w w0 : World) (AS AL : Option Addr) (cs cl : Nat) (hPS : P.s = .slice AS p.sl.length cs) (hP : P.l = .slice AL p.lk.length cl) (h : ClAt w base a (fullN p) p P fy c) (hp : PlOk p) (hc : ClOk p N c) (hN : N ≤ 700000) (hr : c.rd ≤ 100) (hfy : fy < 65536) (hS : SlotsAt w0 AS p.sl.length p.sl) (hL : LinksAt w0 AL p.lk.length p.lk) (hB0 : Below base w0 w) (h0 : w0.heap.size ≤ base) (hbase : base ≤ w.heap.size) (hE : ErrT w0)
 (A : Option Addr) (c1 : Nat) (r : Rn) (hA : LossAt w0 A r.ls) (hm1 : r.ls.length ≤ 9223372036854775807) (AR : Option Addr) (c2 : Nat) (hAR : RgAt w0 AR r.rg) (hm2 : r.rg.length ≤ 9223372036854775807) (B : Option Addr) (c3 : Nat) (hB : IsL w0 B r.dr) (hm3 : r.dr.length ≤ 9223372036854775807) (AM : Option Addr) (c4 : Nat) (hM : IsL w0 AM r.md) (hm4 : r.md.length ≤ 9223372036854775807) :
 Calls Tryz.prog 9 #[.pointer (some ⟨a.g, 0, none⟩), .agg #[.slice A r.ls.length c1, .slice AR r.rg.length c2, .slice B r.dr.length c3, .slice AM r.md.length c4]] w fun e w' => e = .returned (errV (playE p fy r c)) ∧ ClTo w base a (fullN p) p P fy c w' (playF p fy r c) := by
 obtain ⟨w1, hw1⟩ : ∃ w1, w.alloc (.cells #[.slice A r.ls.length c1, .slice AR r.rg.length c2, .slice B r.dr.length c3, .slice AM r.md.length c4] 35) = w1 := ⟨_, rfl⟩
 have hBW : Below w.heap.size w w1 := by rw [← hw1]; exact (Below.refl w.heap.size w).alloc (Nat.le_refl _) _
 have hX : Blk w1 w.heap.size 35 #[.slice A r.ls.length c1, .slice AR r.rg.length c2, .slice B r.dr.length c3, .slice AM r.md.length c4] := by rw [← hw1]; exact Blk.new w _ _
 have HKW := hide (KeptS.of_below (S := shape a (fullN p) p P fy c) hBW)
 have HNX := hide (h.not_new (Nat.le_refl w.heap.size))
 have Hh := hide (h.below hBW)
 have HB0 := hide (HKW.out.old h hB0 hbase)
 have hbase1 := Nat.le_trans hbase hBW.size
 obtain ⟨G, hG⟩ : ∃ G, a.g = G := ⟨_, rfl⟩
 have HSE := hide (sets_any w1 w0 Hh.out hp hc hfy HB0.out h0 hbase1 hE r (.slice A r.ls.length c1) AR c2 hAR hm2 B c3 hB hm3 (.slice AM r.md.length c4))
 rw [hG] at HSE ⊢
 obtain ⟨x0, x1, x2, x3⟩ := hX.cells4
 have hsz1 : w.heap.size < w1.heap.size := hX.lt
 have hsl32 := hp.sl
 have HW1 := hide hw1; have HX := hide hX; have HP := hide hp; have HOK := hide hc; have HL := hide hL; have HS := hide hS; have HPL := hide hP; have HPS := hide hPS; have HG := hide hG; have HA := hide hA; have HIM := hide hM
 clear hw1 hX h hP hPS hG hL hS hB0 hBW hA hM hc hp hAR hB hE
 go_enter Tryz.func9, Tryz.ntmps9
 go_wp2_with fail
 rw [HW1.out]
 refine HSE.out.mono ?_
 rintro e w2 (⟨hwb, rfl, hT⟩ | ⟨hwb, g, cp, rfl, ⟨hA2, hK2⟩, hgs, hown⟩)
 ·have HWB := hide hwb; have HT := hide hT
  clear hwb hT
  go_wp2_with fail
  go_ret
  exact ⟨by unfold playE; rw [HWB.out]; rfl, by unfold playF; rw [HWB.out, if_pos rfl]; exact ClTo.trans HKW.out rfl HT.out⟩
 ·obtain ⟨nd, hnd⟩ : ∃ nd, p.nd.toNat = nd := ⟨_, rfl⟩
  rw [hnd] at hown ⊢
  have HND := hide hnd
  have HPF : Hid (playF p fy r c = { slotsF p fy r c p.sl.length with ck := setsF p fy c.ck r, rd := c.rd + 1 } ∧ playE p fy r c = 0) := hide (by unfold playF playE; rw [hwb, if_neg (by decide), if_neg (by decide)]; exact ⟨rfl, rfl⟩)
  have HNG := hide (Hh.out.not_new hgs)
  have hgl : g < w2.heap.size := (hown.lt g rfl).2
  have HOW := hide hown; have HA2 := hide hA2; have HK2 := hide hK2
  have HX2 := hide (hK2.blk HX.out HNX.out)
  have hb2 := Nat.le_trans hbase1 hK2.size
  have HB2 := hide (hK2.old Hh.out HB0.out hbase1)
  have HC2 := hide (ClTo.refl hA2 (Below.refl w2.heap.size w2))
  have k6 := (hA2.cluC HG.out).2.2.2.2.2.2.1
  obtain ⟨ns, hns⟩ : ∃ ns, p.sl.length = ns := ⟨_, rfl⟩
  rw [HPS.out, hns] at k6
  rw [hns] at hsl32
  have HNS := hide hns
  clear hwb hA2 hK2 hown hnd hns x0 x1 x2 x3
  go_wp2_with fail
  clear k6
  go_loopw [23] (fun i wr => ∃ k : Nat, k ≤ ns ∧ i = .int .i64 k ∧ Hid (Blk wr w.heap.size 35 #[.slice A r.ls.length c1, .slice AR r.rg.length c2, .slice B r.dr.length c3, .slice AM r.md.length c4]) ∧ Hid (wr.ownsRow w1.heap.size 3 1 (.slice (some ⟨g, 0, none⟩) nd cp) nd ((setsF p fy c.ck r).map (Value.int .i64))) ∧ Hid (ClTo w2 base a (fullN p) p P fy c wr (slotsF p fy r c k))) (fun i _ => ns - (intOf i).toNat)
  case atStart => exact ⟨0, by omega, rfl, HX2, HOW, hide (by rw [slotsF_zero]; exact HC2.out)⟩
  case round =>
   obtain ⟨k, hk, rfl, HXr, HOr, HC⟩ := hrel
   obtain ⟨a3, hg3, hA3, hK3⟩ := HC.out
   have hgb : ¬ Fmy (shape a3 (fullN p) p P fy (slotsF p fy r c k)) g := hK3.not hgl HNG.out
   have hxb : ¬ Fmy (shape a3 (fullN p) p P fy (slotsF p fy r c k)) w.heap.size := hK3.not HX2.out.lt HNX.out
   have hb3 := Nat.le_trans hb2 hK3.size
   by_cases hlt : k < ns
   ·obtain ⟨s, hs⟩ : ∃ s, p.sl[k]? = some s := ⟨_, List.getElem?_eq_getElem (by rw [HNS.out]; exact hlt)⟩
    have HSL := hide (slot_any wr w0 AS AL cs cl HPS.out HPL.out hA3 HP.out (slotsF_ok HOK.out HP.out fy r k) (by omega) (by rw [(slotsF_rd p fy r c k).1]; exact hr) hfy HS.out HL.out (hK3.old HA2.out HB2.out hb2) h0 hb3 A c1 r HA.out hm1 (.slice AR r.rg.length c2) (.slice B r.dr.length c3) AM c4 HIM.out hm4 k s hs)
    rw [hg3, HG.out] at HSL
    have HSS : Hid (slotsF p fy r c (k + 1) = slotF p fy r k (slotsF p fy r c k)) := hide (slotsF_succ p fy r c k)
    obtain ⟨x0, x1, x2, x3⟩ := HXr.out.cells4
    have HXB := hide hxb; have HGB := hide hgb; have HK3 := hide hK3; have HA3 := hide hA3
    clear hA3 hK3 hgb hxb hs
    go_wp2_with fail
    refine HSL.out.mono ?_
    rintro e w9 ⟨rfl, a4, hg4, hA4, hK4⟩
    have HX9 := hide (hK4.blk HXr.out HXB.out)
    have HO9 := hide (own_keepH HOr.out (w' := w9) (fun q e => by cases e; exact hK4.block g (HOr.out.lt g rfl).2 HGB.out))
    have HC9 : Hid (ClTo w2 base a (fullN p) p P fy c w9 (slotsF p fy r c (k + 1))) := hide (by rw [HSS.out]; exact ⟨a4, hg4.trans hg3, hA4, HK3.out.trans hK4⟩)
    clear hA4 hK4 x0 x1 x2 x3
    go_wp2_with fail
    go_roundw
    case rel => exact ⟨k + 1, by omega, by go_num, HX9, HO9, HC9⟩
    case measure => simp [intOf]; omega
   ·obtain rfl : k = ns := by omega
    have hcb := hA3.cluB
    have hga : a3.g = G := hg3.trans HG.out
    rw [hga] at hcb
    have k11 := hcb.cell 11
    have f11 := hcb.frozen 11
    have k16 := hcb.cell 16
    have f16 := hcb.frozen 16
    simp at k11 k16
    have hrd : (slotsF p fy r c k).rd = c.rd := (slotsF_rd p fy r c k).1
    rw [hrd] at k16
    have hrd0 := HOK.out.rd
    have HFI := hide (Objs.finish (v := .slice (some ⟨g, 0, none⟩) nd cp) (zs := setsF p fy c.ck r) (rd := c.rd + 1) hA3 ((HKW.out.trans HK2.out).trans hK3) hg3 hb3 (QAt.of_own HOr.out hbase1) (fun q e => by cases e; exact ⟨Nat.le_trans hbase1 hgs, (HOr.out.lt g rfl).2, Nat.le_trans (Nat.le_of_lt hsz1) hgs, hgb⟩))
    rw [hga] at HFI
    clear hA3 hK3 hcb hgb hxb
    go_wp2_with fail
    go_ret
    exact ⟨by rw [HPF.out.2]; simp [errV], by rw [HPF.out.1, HNS.out]; exact HFI.out⟩
end
section
open Go Go.RowKit
section
variable {p : Pl} {N : Nat} {c : Cl}
theorem clPut_ok (hp : PlOk p) (h : ClOk p N c) {k : Nat} {l : Lk} (hl : p.lk[k]? = some l) (d : ByteArray) : ClOk p N (clPut k l d c) := by
 have h1 := h.sd k
 have h2 := hp.link k l hl
 refine h.setSd k ⟨h1.1, h1.2.1, h1.2.2.1, h1.2.2.2.1, ?_, fun x hx => ?_⟩
 ·show (putQ _ _ _).length ≤ 16
  unfold putQ putE
  repeat' split
  all_goals first
   | (exact absurd ‹_› (by decide))
   | exact h1.2.2.2.2.1
   | (rw [List.length_append, List.length_singleton]; omega)
 ·have hx' : x ∈ putQ (c.sd k).q d (putE d.size (c.sd k).q.length l.q) := hx
  unfold putQ putE at hx'
  repeat' split at hx'
  all_goals first
   | (exact absurd ‹_› (by decide))
   | exact h1.2.2.2.2.2 x hx'
   | (rcases List.mem_append.1 hx' with h3 | h3
      ·exact h1.2.2.2.2.2 x h3
      ·simp at h3; subst h3; omega)
theorem clRecv_ok (h : ClOk p N c) (k i : Nat) : ClOk p (N + 1) (clRecv k i c) := by
 have h1 := h.pr k i
 refine h.setPr k i ⟨h1.1, by show (c.pr k i).lost ≤ _; omega, ?_⟩
 show (c.pr k i).q.tail.length ≤ 16
 rw [List.length_tail]; omega
end
end
section
open Go Go.RowKit
theorem playF_ok {p : Pl} {N : Nat} {c : Cl} (hp : PlOk p) (h : ClOk p N c) (fy : Nat) (r : Rn) : ClOk p (N + 2592) (playF p fy r c) := by
 have h32 := hp.sl
 unfold playF
 split
 ·exact h.mono (by omega)
 ·rename_i hw
  have h1 := (slotsF_ok h hp fy r p.sl.length).mono (show N + 81 * p.sl.length ≤ N + 2592 by omega)
  have hw2 : wildB (setsF p fy c.ck r) = false := by cases e : wildB (setsF p fy c.ck r); rfl; exact absurd e hw
  have hlen : (setsF p fy c.ck r).length = p.nd.toNat := by unfold setsF; rw [driftF_len, setL_len, h.len]
  refine ⟨hlen, fun j => ?_, by show 0 ≤ c.rd + 1; have := h.rd; omega, h1.mm, h1.sd, h1.tk, h1.pr⟩
  by_cases hj : j < (setsF p fy c.ck r).length
  ·unfold wildB at hw2
   rw [List.any_eq_false] at hw2
   have := hw2 _ (getD_memC hj)
   simp only [Bool.or_eq_true, decide_eq_true_eq] at this
   show _ ≤ (setsF p fy c.ck r).getD j 0 ∧ (setsF p fy c.ck r).getD j 0 ≤ _
   omega
  ·show _ ≤ (setsF p fy c.ck r).getD j 0 ∧ (setsF p fy c.ck r).getD j 0 ≤ _
   rw [List.getD_eq_getElem?_getD, List.getElem?_eq_none (by omega)]
   simp
attribute [local irreducible] playF startF clPut clRecv honL
set_option maxRecDepth 100000 in
theorem rounds_any {w : World} {base : Nat} {a : Ad} {n : Cn} {p : Pl} {P : Sv3} {fy : Nat} {c : Cl} (h : ClAt w base a n p P fy c) :
 Calls Tryz.prog 23 #[.pointer (some ⟨a.g, 0, none⟩)] w fun e w' => e = .returned (.int .i64 c.rd) ∧ w' = w := by
 have k16 := (h.cluC rfl).2.2.2.2.2.2.2.2
 clear h
 go_enter Tryz.func23, Tryz.ntmps23
 go_wp2_with fail
 go_ret
 exact ⟨rfl, rfl⟩
/-- How far clocks are apart, of a cluster. -/
theorem spr_any {w : World} {base : Nat} {a : Ad} {n : Cn} {p : Pl} {P : Sv3} {fy : Nat} {c : Cl} (h : ClAt w base a n p P fy c) (hp : PlOk p) (hlen : c.ck.length = p.nd.toNat) (hck : ∀ j, -274877906944 ≤ c.ck.getD j 0 ∧ c.ck.getD j 0 ≤ 274877906944) (hf : fy < 65536) (hli : (liars fy p.nd.toNat : Int) ≤ p.fa) :
 Calls Tryz.prog 11 #[.pointer (some ⟨a.g, 0, none⟩)] w fun e w' => (∃ x y, e = .returned (.int .i64 (x - y)) ∧ IsTop (honL fy c.ck p.nd.toNat) x ∧ IsLow (honL fy c.ck p.nd.toNat) y) ∧ Below w.heap.size w w' := by
 have h16 := hp.n16
 have h1 := hp.n1
 obtain ⟨b, off, cp, e⟩ := h.ckV hlen (by omega)
 have hI := h.ckI hlen e
 obtain ⟨q, hq1, hq2⟩ := some_right hp hli
 have hb := h.cluB
 rw [e, ← hlen] at hb
 have := spreadC_any a.g p.nd p.fa p.sk p.ji p.dr p.rd P.s P.l p.fr P.q a.mm a.sd a.tk a.pr c.rd fy (some ⟨b, off, none⟩) cp c.ck w hb hf hI (by omega) (by rw [hlen]; exact honL_some c.ck hq1 hq2) (fun j _ => by have := hck j; omega)
 rw [hlen] at this
 exact this
end
section
open Go Go.RowKit
attribute [local irreducible] playF startF chk playE honL
theorem playF_rd (p : Pl) (fy : Nat) (r : Rn) (c : Cl) : (playF p fy r c).rd = c.rd ∨ (playF p fy r c).rd = c.rd + 1 := by
 unfold playF
 split
 ·exact .inl rfl
 ·exact .inr rfl
end
section
open Go Go.RowKit
section
variable {mk : Nat → ByteArray} {hi lo : Nat} {q pq : List ByteArray} {d : ByteArray}
end
section
variable {mk : Nat → Nat → ByteArray} {put : Nat → Nat} {last : Nat → Nat → Nat} {p : Pl} {c : Cl}
end
end
section
open Go Go.RowKit
section
variable {w w' : World} {g n base pb tb nl nd m : Nat} {G f put : Nat → Nat} {last h2 : Nat → Nat → Nat} {S S' : Ix → Ob}
end
end
section
open Go Go.RowKit
section
variable {w w' w0 : World} {base : Nat} {a b a1 b1 : Ad} {n : Cn} {p : Pl} {P : Sv3} {fy : Nat} {x y x1 y1 : Cl}
end
section
variable {w2 w w' w1 : World} {ga gb : Nat} {p : Pl} {P : Sv3} {fy N : Nat} {x y x1 y1 : Cl} {bs : List Nat}
end
/-- What a round says, as arguments. -/
def RnV (w : World) (v : Value) (r : Rn) : Prop := ∃ A1 c1 A2 c2 A3 c3 A4 c4, v = .agg #[.slice A1 r.ls.length c1, .slice A2 r.rg.length c2, .slice A3 r.dr.length c3, .slice A4 r.md.length c4] ∧ LossAt w A1 r.ls ∧ RgAt w A2 r.rg ∧ IsL w A3 r.dr ∧ IsL w A4 r.md ∧ r.ls.length ≤ 9223372036854775807 ∧ r.rg.length ≤ 9223372036854775807 ∧ r.dr.length ≤ 9223372036854775807 ∧ r.md.length ≤ 9223372036854775807
section
variable {w2 w w' w1 : World} {ga gb : Nat} {p : Pl} {fy N : Nat} {x y x1 y1 : Cl} {bs : List Nat} {A AL : Option Addr} {c cl : Nat} {q : Value}
end
end
section
open Go Go.RowKit
def keyV (a b : Nat) : Value := .agg #[.int .i64 a, .int .i64 b]
def keyI (a b : Int) : Value := .agg #[.int .i64 a, .int .i64 b]
theorem y_int_info : Tryz.prog.info? 3 = some ((Tryz.prog.info? 3).getD default) := by kernel_rfl
theorem y_int_cells : Tryz.prog.cellsOf 3 = 1 := by kernel_rfl
theorem y_plain : Tryz.prog.plainKey 3 = true := by kernel_rfl
theorem y_part0 (w : World) (a b : Value) : (part 3 #[a, b] 0).run Tryz.prog w = .ok a w := run_part_plain w y_plain rfl
theorem y_part1 (w : World) (a b : Value) : (part 3 #[a, b] 1).run Tryz.prog w = .ok b w := run_part_plain w y_plain rfl
theorem y_eqInt (d : Nat) (w : World) (a b : Int) : (Op.equalIn (d + 1) 3 (.int .i64 a) (.int .i64 b)).run Tryz.prog w = .ok (a == b) w := run_equalIn_int w d 3 .i64 .i64 a b Tryz.underlying3
theorem eq_pair (w : World) (a b c e : Int) : (Op.equal 142 (keyI a b) (keyI c e)).run Tryz.prog w = .ok (a == c && b == e) w := by
 unfold Op.equal keyI
 rw [show Op.maxDepth = 9998 + 1 + 1 from rfl, run_equalIn_array w _ _ _ Tryz.underlying142 y_int_info, y_int_cells]
 simp only [List.range, List.range.loop, Op.eqItems, Nat.zero_mul, Nat.one_mul, Sem.run_bind, y_part0, y_part1, Result.andThen_ok, y_eqInt]
 cases hx : a == c <;> cases hy : b == e <;> simp [y_part1, y_eqInt] <;> simp_all
theorem y_check (em : Bool) (n : Nat) (w : World) (a : Int) : (Instr.checkKey em (n + 1) 3 (.int .i64 a)).run Tryz.prog w = .ok () w := by
 simp [Instr.checkKey, run_underlying Tryz.underlying3]
theorem check_pair (em : Bool) (w : World) (a b : Int) : (Instr.checkKey em 10000 142 (keyI a b)).run Tryz.prog w = .ok () w := by
 unfold keyI
 rw [show (10000 : Nat) = 9998 + 1 + 1 from rfl]
 unfold Instr.checkKey
 simp only [Sem.run_bind, run_underlying Tryz.underlying142, Result.andThen_ok]
 simp only [Std.Legacy.Range.forIn_eq_forIn_range', Std.Legacy.Range.size, Nat.sub_zero, Nat.add_one_sub_one, Nat.div_one, List.range', List.forIn_cons, List.forIn_nil, Sem.run_bind, run_sizeOf w y_int_info, y_int_cells, Result.andThen_ok, Nat.zero_mul, Nat.one_mul, y_part0, y_part1, y_check, Nat.zero_add]
 simp [y_part1, y_check]
abbrev KV := (Nat × Nat) × Value
/-- Where a key is found. -/
def findK (a b : Nat) : List KV → Nat → Option (Nat × Value)
 | [], _ => none
 | x :: xs, i => if x.1.1 = a ∧ x.1.2 = b then some (i, x.2) else findK a b xs (i + 1)
def setK (a b : Nat) (v : Value) : List KV → List KV
 | [] => [((a, b), v)]
 | x :: xs => if x.1.1 = a ∧ x.1.2 = b then (x.1, v) :: xs else x :: setK a b v xs
def valK (a b : Nat) (l : List KV) : Option Value := (findK a b l 0).map (·.2)
theorem find_run (w : World) (a b : Nat) : ∀ (es : List MapEntry) (l : List KV) (i : Nat), es.map (fun e => (e.key, e.val)) = l.map (fun x => (keyV x.1.1 x.1.2, x.2)) → (Instr.findAsking 142 (keyV a b) es i).run Tryz.prog w = .ok (findK a b l i) w
 | [], [], i, _ => by simp [Instr.findAsking, findK]
 | [], _ :: _, _, h => by simp at h
 | _ :: _, [], _, h => by simp at h
 | e :: es, x :: xs, i, h => by
  simp only [List.map_cons, List.cons.injEq, Prod.mk.injEq] at h
  have ih := find_run w a b es xs (i + 1) h.2
  have hq := eq_pair w (a : Int) (b : Int) (x.1.1 : Int) (x.1.2 : Int)
  unfold Instr.findAsking findK
  simp only [Sem.run_bind]
  rw [h.1.1, show (keyV a b) = keyI (a : Int) (b : Int) from rfl, show (keyV x.1.1 x.1.2) = keyI (x.1.1 : Int) (x.1.2 : Int) from rfl, hq]
  simp only [Result.andThen_ok]
  by_cases hc : x.1.1 = a ∧ x.1.2 = b
  ·rw [if_pos hc, hc.1, hc.2]
   simp [h.1.2]
  ·rw [if_neg hc]
   have hn : ((a : Int) == (x.1.1 : Int) && (b : Int) == (x.1.2 : Int)) = false := by
    rw [Bool.and_eq_false_iff]
    rw [beq_eq_false_iff_ne, beq_eq_false_iff_ne]
    omega
   rw [hn]
   exact ih
/-- A map lies in memory. -/
def MapP (w : World) (g : Nat) (l : List KV) : Prop := ∃ es clock, w.heap[g]? = some (.map es clock) ∧ es.toList.map (fun e => (e.key, e.val)) = l.map (fun x => (keyV x.1.1 x.1.2, x.2))
theorem MapP.lt {w : World} {g : Nat} {l : List KV} (h : MapP w g l) : g < w.heap.size := by obtain ⟨es, c, h1, _⟩ := h; exact (Array.getElem?_eq_some_iff.1 h1).1
theorem MapP.keep {w w' : World} {g : Nat} {l : List KV} (h : MapP w g l) (hk : w'.heap[g]? = w.heap[g]?) : MapP w' g l := by obtain ⟨es, c, h1, h2⟩ := h; exact ⟨es, c, hk.trans h1, h2⟩
theorem y_getObj {w : World} {g : Nat} {es : Array MapEntry} {c : Nat} (h : w.heap[g]? = some (.map es c)) : (getObj g).run Tryz.prog w = .ok (.map es c) w := by simp [getObj, Sem.run, h]
theorem y_setObj {w : World} {g : Nat} {es : Array MapEntry} {c : Nat} (o' : Obj) (h : w.heap[g]? = some (.map es c)) : (setObj g o').run Tryz.prog w = .ok () { w with heap := w.heap.setIfInBounds g o' } := by simp [setObj, Sem.run, h]
theorem lookup_pair {m e : TypeId} (hu : Tryz.prog.underlying m = some (.map 142 e)) {w : World} {g : Nat} {l : List KV} (h : MapP w g l) (a b : Nat) {v z : Value} (hz : (zeroValue e).run Tryz.prog w = .ok z w) (hv : (valK a b l).getD z = v) :
 (Instr.lookup m (.map (some g)) (keyV a b) false).run Tryz.prog w = .ok v w := by
 obtain ⟨es, c, h1, h2⟩ := h
 unfold Instr.lookup
 simp only [Sem.run_bind, run_underlying hu, Result.andThen_ok, y_getObj h1, Sem.run_pure]
 rw [show keyV a b = keyI (a : Int) (b : Int) from rfl, check_pair]
 simp only [Result.andThen_ok]
 rw [run_findKey_eq w (by kernel_rfl), show keyI (a : Int) (b : Int) = keyV a b from rfl, find_run w a b _ _ 0 h2]
 simp only [Result.andThen_ok]
 subst hv
 unfold valK
 cases hf : findK a b l 0 with
 | none => simp [hz]
 | some x => simp
theorem setK_find {a b : Nat} {v : Value} : ∀ {l : List KV} {i j : Nat} {u : Value}, findK a b l i = some (j, u) → i ≤ j ∧ l[j - i]? = some ((a, b), u) ∧ setK a b v l = l.set (j - i) ((a, b), v)
 | [], i, j, u, h => by simp [findK] at h
 | x :: xs, i, j, u, h => by
  unfold findK at h
  split at h
  ·rename_i hc
   simp at h
   obtain ⟨rfl, rfl⟩ := h
   obtain ⟨⟨x1, x2⟩, x3⟩ := x
   obtain ⟨rfl, rfl⟩ := hc
   simp [setK]
  ·rename_i hc
   have ⟨h1, h2, h3⟩ := setK_find (v := v) h
   have e : j - i = (j - (i + 1)) + 1 := by omega
   refine ⟨by omega, ?_, ?_⟩
   ·rw [e, List.getElem?_cons_succ]; exact h2
   ·rw [e, List.set_cons_succ]
    unfold setK
    rw [if_neg hc, h3]
theorem setK_none {a b : Nat} {v : Value} : ∀ {l : List KV} {i : Nat}, findK a b l i = none → setK a b v l = l ++ [((a, b), v)]
 | [], i, _ => rfl
 | x :: xs, i, h => by
  unfold findK at h
  split at h
  ·cases h
  ·rename_i hc
   unfold setK
   rw [if_neg hc, setK_none h]
   rfl
theorem findK_shift {a b : Nat} : ∀ {l : List KV} {i j : Nat}, (findK a b l i).map (·.2) = (findK a b l j).map (·.2)
 | [], _, _ => rfl
 | x :: xs, i, j => by
  unfold findK
  split
  ·rfl
  ·exact findK_shift
theorem valK_set {a b c d : Nat} {v : Value} : ∀ {l : List KV}, valK c d (setK a b v l) = if c = a ∧ d = b then some v else valK c d l
 | [] => by
  unfold setK valK findK findK
  by_cases h : c = a ∧ d = b
  ·rw [if_pos h, if_pos ⟨h.1.symm, h.2.symm⟩]; rfl
  ·rw [if_neg h, if_neg (fun e => h ⟨e.1.symm, e.2.symm⟩)]
 | x :: xs => by
  have ih := valK_set (a := a) (b := b) (c := c) (d := d) (v := v) (l := xs)
  unfold valK at ih ⊢
  unfold setK
  by_cases hx : x.1.1 = a ∧ x.1.2 = b
  ·rw [if_pos hx]
   unfold findK
   dsimp only
   by_cases h : c = a ∧ d = b
   ·rw [if_pos h, if_pos ⟨hx.1.trans h.1.symm, hx.2.trans h.2.symm⟩]; rfl
   ·rw [if_neg h]
    have hn : ¬ (x.1.1 = c ∧ x.1.2 = d) := fun e => h ⟨e.1.symm.trans hx.1, e.2.symm.trans hx.2⟩
    rw [if_neg hn, if_neg hn]
  ·rw [if_neg hx]
   unfold findK
   by_cases hc : x.1.1 = c ∧ x.1.2 = d
   ·rw [if_pos hc, if_pos hc, if_neg (fun e => hx ⟨hc.1.trans e.1, hc.2.trans e.2⟩)]
   ·rw [if_neg hc, if_neg hc, findK_shift (j := 0), ih, findK_shift (i := 0 + 1) (j := 0)]
theorem same_key (a b : Nat) : Instr.sameBits 10000 (keyV a b) (keyV a b) = true := by
 unfold keyV
 rw [show (10000 : Nat) = 9998 + 1 + 1 from rfl]
 simp [Instr.sameBits]
/-- A map's entry is written. -/
theorem update_pair {m e : TypeId} (hu : Tryz.prog.underlying m = some (.map 142 e)) {w : World} {g : Nat} {l : List KV} (h : MapP w g l) (a b : Nat) (v : Value) :
 ∃ w', (Instr.mapUpdate m (.map (some g)) (keyV a b) v).run Tryz.prog w = .ok () w' ∧ MapP w' g (setK a b v l) ∧ w.grownBy w' (some g) := by
 obtain ⟨es, c, h1, h2⟩ := h
 have hs := (Array.getElem?_eq_some_iff.1 h1).1
 have hf := find_run w a b es.toList l 0 h2
 have gr : ∀ o : Obj, w.grownBy { w with heap := w.heap.setIfInBounds g o } (some g) := fun o => by
  refine ⟨rfl, rfl, rfl, by simp, fun i hi hne => ?_⟩
  have : i ≠ g := fun e => hne (by rw [e])
  simp [Ne.symm this]
 unfold Instr.mapUpdate
 simp only [Sem.run_bind, run_underlying hu, Result.andThen_ok, y_getObj h1]
 rw [show keyV a b = keyI (a : Int) (b : Int) from rfl, check_pair]
 simp only [Result.andThen_ok]
 rw [run_findKey_eq w (by kernel_rfl), show keyI (a : Int) (b : Int) = keyV a b from rfl, hf]
 simp only [Result.andThen_ok]
 cases hk : findK a b l 0 with
 | none =>
  refine ⟨_, y_setObj _ h1, ⟨es.push { key := keyV a b, val := v, born := c }, c + 1, by simp [hs], ?_⟩, gr _⟩
  rw [setK_none hk]
  simp [h2]
 | some x =>
  obtain ⟨j, u⟩ := x
  obtain ⟨-, hj, hset⟩ := setK_find (v := v) hk
  rw [Nat.sub_zero] at hj hset
  have hm : (es.toList.map (fun e => (e.key, e.val)))[j]? = some (keyV a b, u) := by rw [h2]; simp [hj]
  simp only [List.getElem?_map, Option.map_eq_some_iff] at hm
  obtain ⟨e0, he0, he1⟩ := hm
  have he2 : es[j]? = some e0 := by simpa using he0
  have hkey : e0.key = keyV a b := by injection he1
  simp only [he2, Option.map_some, Option.getD_some, hkey, Instr.keyThatStays, same_key, if_true, Sem.run_pure, Result.andThen_ok, Sem.run_bind]
  refine ⟨_, y_setObj _ h1, ⟨es.modify j fun e => { key := keyV a b, val := v, born := e.born }, c, by simp [hs], ?_⟩, gr _⟩
  rw [hset, List.map_set, ← h2]
  apply List.ext_getElem?
  intro k
  simp only [List.getElem?_map, List.getElem?_set, List.length_map, Array.getElem?_toList, Array.getElem?_modify, Array.length_toList]
  have hjl : j < es.size := (Array.getElem?_eq_some_iff.1 he2).1
  by_cases e : j = k
  ·subst e
   simp [hjl, he2]
  ·simp [e]
end
end Go.Proofs.YtdogdlnaacimpaaGreatDoor
