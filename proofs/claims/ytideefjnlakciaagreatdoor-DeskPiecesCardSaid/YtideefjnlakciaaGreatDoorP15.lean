/- The contracts of cluster.Cluster's methods Put, Receive and Play; conditions: the cluster and the round lie in memory; errors.errorType holds what start-up lays there. -/
import Derived.Test.YtideefjnlakciaaGreatDoorP14
import Derived.Test.YtideefjnlakciaaGreatDoorP09
import Derived.Test.YtideefjnlakciaaGreatDoorP01
import Derived.Test.YtideefjnlakciaaGreatDoorP11
import Derived.Test.YtideefjnlakciaaGreatDoorP13
import Derived.Test.YtideefjnlakciaaGreatDoorP02
import Derived.Test.YtideefjnlakciaaGreatDoorP10
import Derived.Test.YtideefjnlakciaaGreatDoorP04
import Derived.Deep.Upon
import Derived.Deep.AppendLies
import Derived.Lib.Strings
import Derived.Lib.IndexLaws
set_option linter.unusedVariables false
set_option linter.unusedSimpArgs false
namespace Go.Proofs.YtideefjnlakciaaGreatDoor
section
open Go Go.RowKit
attribute [local irreducible] slotsF setsF
section
variable {w w1 : World} {base : Nat} {S S0 : Ix → Ob}
theorem Objs.swap (h : Objs w base S) (x : Ix) (o : Ob) (ha : o.At w base) (hf : ∀ k, k ∈ o.foot → base ≤ k ∧ k < w.heap.size ∧ ¬ Fmy S k) : Objs w base (putO S x o) := by
 refine ⟨fun y => ?_, fun y k hm => ?_, fun y z k hy hz => ?_⟩
 ·by_cases e : y = x
  ·subst e; rw [putO_self]; exact ha
  ·rw [putO_ne _ e]; exact h.at_ y
 ·by_cases e : y = x
  ·subst e; rw [putO_self] at hm; exact ⟨(hf k hm).1, (hf k hm).2.1⟩
  ·rw [putO_ne _ e] at hm; exact h.own y k hm
 ·by_cases e : y = x
  ·by_cases e2 : z = x
   ·rw [e, e2]
   ·subst e
    rw [putO_self] at hy
    rw [putO_ne _ e2] at hz
    exact absurd ⟨z, hz⟩ (hf k hy).2.2
  ·by_cases e2 : z = x
   ·subst e2
    rw [putO_self] at hz
    rw [putO_ne _ e] at hy
    exact absurd ⟨y, hy⟩ (hf k hz).2.2
   ·rw [putO_ne _ e] at hy
    rw [putO_ne _ e2] at hz
    exact h.sep y z k hy hz
end
theorem Objs.finish {w w1 : World} {base : Nat} {a a0 : Ad} {n : Cn} {p : Pl} {P : Sv3} {fy : Nat} {c c0 : Cl} {v : Value} {zs : List Int} {rd : Int} (h : ClAt w1 base a n p P fy c) (hk : KeptS w w1 (shape a0 n p P fy c0) (shape a n p P fy c)) (hg : a.g = a0.g) (hb : base ≤ w1.heap.size) (hq : QAt w1 base 3 v (zs.map (Value.int .i64))) (hv : ∀ k, v.ownBlock = some k → base ≤ k ∧ k < w1.heap.size ∧ w.heap.size ≤ k ∧ ¬ Fmy (shape a n p P fy c) k) :
 ClTo w base a0 n p P fy c0 ((w1.setCell ⟨a.g, 11, none⟩ v).setCell ⟨a.g, 16, none⟩ (.int .i64 rd)) { c with ck := zs, rd := rd } := by
 have h1 := h.swap .nums (.arr 3 v (zs.map (Value.int .i64))) hq (fun k hm => by
  have := hv k (by simpa [Ob.foot] using hm)
  exact ⟨this.1, this.2.1, this.2.2.2⟩)
 have hx : putO (shape a n p P fy c) .nums (.arr 3 v (zs.map (Value.int .i64))) .clu = .blk a.g 210 (clC p.nd p.fa p.sk p.ji p.dr p.rd P.s P.l p.fr P.q fy a.ck a.mm a.sd a.tk a.pr c.rd) := by rw [putO_ne _ (by simp)]; rfl
 have h2 := h1.setBlk .clu hx 11 v hb
 have hx2 : putO (putO (shape a n p P fy c) .nums (.arr 3 v (zs.map (Value.int .i64)))) .clu (.blk a.g 210 ((clC p.nd p.fa p.sk p.ji p.dr p.rd P.s P.l p.fr P.q fy a.ck a.mm a.sd a.tk a.pr c.rd).setIfInBounds 11 v)) .clu = .blk a.g 210 ((clC p.nd p.fa p.sk p.ji p.dr p.rd P.s P.l p.fr P.q fy a.ck a.mm a.sd a.tk a.pr c.rd).setIfInBounds 11 v) := putO_self _ _
 have h3 := h2.setBlk .clu hx2 16 (.int .i64 rd) (by simpa [World.setCell] using hb)
 have e : putO (putO (putO (shape a n p P fy c) .nums (.arr 3 v (zs.map (Value.int .i64)))) .clu (.blk a.g 210 ((clC p.nd p.fa p.sk p.ji p.dr p.rd P.s P.l p.fr P.q fy a.ck a.mm a.sd a.tk a.pr c.rd).setIfInBounds 11 v))) .clu (.blk a.g 210 (((clC p.nd p.fa p.sk p.ji p.dr p.rd P.s P.l p.fr P.q fy a.ck a.mm a.sd a.tk a.pr c.rd).setIfInBounds 11 v).setIfInBounds 16 (.int .i64 rd))) = shape { a with ck := v } n p P fy { c with ck := zs, rd := rd } := by
  funext y
  cases y <;> rfl
 rw [e] at h3
 refine ⟨{ a with ck := v }, hg, h3, hk.os, hk.tape, hk.output, by simpa [World.setCell] using hk.size, fun i hi hn => ?_, ?_⟩
 ·have hi2 : i ≠ a.g := by
   rintro rfl
   exact hn ⟨.clu, by rw [hg]; simp [shape, Ob.foot]⟩
  exact ((Below.heap_setCell _ _ _ i hi2).trans (Below.heap_setCell _ _ _ i hi2)).trans (hk.block i hi hn)
 ·rintro k ⟨y, hy⟩
  by_cases e2 : y = .nums
  ·subst e2
   exact .inr (hv k (by simpa [shape, Ob.foot] using hy)).2.2.1
  ·refine hk.fam k ⟨y, ?_⟩
   cases y <;> first | exact hy | exact absurd rfl e2
theorem slotsF_zero (p : Pl) (fy : Nat) (r : Rn) (c : Cl) : slotsF p fy r c 0 = c := by unfold slotsF; rfl
theorem slotsF_succ (p : Pl) (fy : Nat) (r : Rn) (c : Cl) (k : Nat) : slotsF p fy r c (k + 1) = slotF p fy r k (slotsF p fy r c k) := by
 conv => lhs; unfold slotsF
set_option maxRecDepth 100000 in
set_option maxHeartbeats 4000000 in
theorem play_gen {base : Nat} {a : Ad} {p : Pl} {P : Sv3} {fy : Nat} {c : Cl} {N : Nat} (w : World) {K : World → (Ix → Ob) → Prop} (hKK : Cls K) (AS AL : Option Addr) (cs cl : Nat) (hPS : P.s = .slice AS p.sl.length cs) (hP : P.l = .slice AL p.lk.length cl) (h : ClAt w base a (fullN p) p P fy c) (hp : PlOk p) (hc : ClOk p N c) (hN : N ≤ 700000000000) (hr : c.rd ≤ 7000) (hfy : fy < 65536) (hS : ∀ W S, K W S → SlotsAt W AS p.sl.length p.sl) (hL : ∀ W S, K W S → LinksAt W AL p.lk.length p.lk) (hB0 : K w (shape a (fullN p) p P fy c)) (hbase : base ≤ w.heap.size) (hE : ∀ W S, K W S → ErrT W)
 (A : Option Addr) (c1 : Nat) (r : Rn) (hA : ∀ W S, K W S → LossAt W A r.ls) (hm1 : r.ls.length ≤ 9223372036854775807) (AR : Option Addr) (c2 : Nat) (hAR : ∀ W S, K W S → RgAt W AR r.rg) (hm2 : r.rg.length ≤ 9223372036854775807) (B : Option Addr) (c3 : Nat) (hB : ∀ W S, K W S → IsL W B r.dr) (hm3 : r.dr.length ≤ 9223372036854775807) (AM : Option Addr) (c4 : Nat) (hM : ∀ W S, K W S → IsL W AM r.md) (hm4 : r.md.length ≤ 9223372036854775807) :
 Calls Tryz.prog 104 #[.pointer (some ⟨a.g, 0, none⟩), .agg #[.slice A r.ls.length c1, .slice AR r.rg.length c2, .slice B r.dr.length c3, .slice AM r.md.length c4]] w fun e w' => e = .returned (errV (playE p fy r c)) ∧ ClTo w base a (fullN p) p P fy c w' (playF p fy r c) := by
 obtain ⟨w1, hw1⟩ : ∃ w1, w.alloc (.cells #[.slice A r.ls.length c1, .slice AR r.rg.length c2, .slice B r.dr.length c3, .slice AM r.md.length c4] 35) = w1 := ⟨_, rfl⟩
 have hBW : Below w.heap.size w w1 := by rw [← hw1]; exact (Below.refl w.heap.size w).alloc (Nat.le_refl _) _
 have hX : Blk w1 w.heap.size 35 #[.slice A r.ls.length c1, .slice AR r.rg.length c2, .slice B r.dr.length c3, .slice AM r.md.length c4] := by rw [← hw1]; exact Blk.new w _ _
 have HKW := hide (KeptS.of_below (S := shape a (fullN p) p P fy c) hBW)
 have HNX := hide (h.not_new (Nat.le_refl w.heap.size))
 have Hh := hide (h.below hBW)
 have HKK := hide hKK
 have HB0 := hide (hKK.step hB0 HKW.out)
 have hbase1 := Nat.le_trans hbase hBW.size
 obtain ⟨G, hG⟩ : ∃ G, a.g = G := ⟨_, rfl⟩
 have HSE := hide (sets_any w1 hKK Hh.out hp hc hfy HB0.out hbase1 hE r (.slice A r.ls.length c1) AR c2 hAR hm2 B c3 hB hm3 (.slice AM r.md.length c4))
 rw [hG] at HSE ⊢
 obtain ⟨x0, x1, x2, x3⟩ := hX.cells4
 have hsz1 : w.heap.size < w1.heap.size := hX.lt
 have hsl32 := hp.sl
 have HW1 := hide hw1; have HX := hide hX; have HP := hide hp; have HOK := hide hc; have HL := hide hL; have HS := hide hS; have HPL := hide hP; have HPS := hide hPS; have HG := hide hG; have HA := hide hA; have HIM := hide hM
 clear hw1 hX h hP hPS hG hL hS hB0 hKK hBW hA hM hc hp hAR hB hE
 go_enter Tryz.func104, Tryz.ntmps104
 go_wp2_with fail
 rw [HW1.out]
 refine HSE.out.mono ?_
 rintro e w2 (⟨hwb, rfl, hT⟩ | ⟨hwb, g, cp, rfl, ⟨hA2, hK2⟩, hgs, hown⟩)
 ·have HWB := hide hwb; have HT := hide hT
  clear hwb hT
  go_wp2_with fail
  go_ret
  exact ⟨by unfold playE; rw [HWB.out]; rfl, by unfold playF; rw [HWB.out, if_pos rfl]; exact ClTo.trans HKW.out rfl HT.out⟩
 ·obtain ⟨nd, hnd⟩ : ∃ nd, p.nd.toNat = nd := ⟨_, rfl⟩
  rw [hnd] at hown ⊢
  have HND := hide hnd
  have HPF : Hid (playF p fy r c = { slotsF p fy r c p.sl.length with ck := setsF p fy c.ck r, rd := c.rd + 1 } ∧ playE p fy r c = 0) := hide (by unfold playF playE; rw [hwb, if_neg (by decide), if_neg (by decide)]; exact ⟨rfl, rfl⟩)
  have HNG := hide (Hh.out.not_new hgs)
  have hgl : g < w2.heap.size := (hown.lt g rfl).2
  have HOW := hide hown; have HA2 := hide hA2; have HK2 := hide hK2
  have HX2 := hide (hK2.blk HX.out HNX.out)
  have hb2 := Nat.le_trans hbase1 hK2.size
  have HB2 := hide (HKK.out.step HB0.out hK2)
  have HC2 := hide (ClTo.refl hA2 (Below.refl w2.heap.size w2))
  have k6 := (hA2.cluC HG.out).2.2.2.2.2.2.1
  obtain ⟨ns, hns⟩ : ∃ ns, p.sl.length = ns := ⟨_, rfl⟩
  rw [HPS.out, hns] at k6
  rw [hns] at hsl32
  have HNS := hide hns
  clear hwb hA2 hK2 hown hnd hns x0 x1 x2 x3
  go_wp2_with fail
  clear k6
  go_loopw [23] (fun i wr => ∃ k : Nat, k ≤ ns ∧ i = .int .i64 k ∧ Hid (Blk wr w.heap.size 35 #[.slice A r.ls.length c1, .slice AR r.rg.length c2, .slice B r.dr.length c3, .slice AM r.md.length c4]) ∧ Hid (wr.ownsRow w1.heap.size 3 1 (.slice (some ⟨g, 0, none⟩) nd cp) nd ((setsF p fy c.ck r).map (Value.int .i64))) ∧ Hid (ClTo w2 base a (fullN p) p P fy c wr (slotsF p fy r c k))) (fun i _ => ns - (intOf i).toNat)
  case atStart => exact ⟨0, by omega, rfl, HX2, HOW, hide (by rw [slotsF_zero]; exact HC2.out)⟩
  case round =>
   obtain ⟨k, hk, rfl, HXr, HOr, HC⟩ := hrel
   obtain ⟨a3, hg3, hA3, hK3⟩ := HC.out
   have hgb : ¬ Fmy (shape a3 (fullN p) p P fy (slotsF p fy r c k)) g := hK3.not hgl HNG.out
   have hxb : ¬ Fmy (shape a3 (fullN p) p P fy (slotsF p fy r c k)) w.heap.size := hK3.not HX2.out.lt HNX.out
   have hb3 := Nat.le_trans hb2 hK3.size
   by_cases hlt : k < ns
   ·obtain ⟨s, hs⟩ : ∃ s, p.sl[k]? = some s := ⟨_, List.getElem?_eq_getElem (by rw [HNS.out]; exact hlt)⟩
    have HSL := hide (slot_any wr HKK.out AS AL cs cl HPS.out HPL.out hA3 HP.out (slotsF_ok HOK.out HP.out fy r k) (by omega) (by rw [(slotsF_rd p fy r c k).1]; exact hr) hfy HS.out HL.out (HKK.out.step HB2.out hK3) hb3 A c1 r HA.out hm1 (.slice AR r.rg.length c2) (.slice B r.dr.length c3) AM c4 HIM.out hm4 k s hs)
    rw [hg3, HG.out] at HSL
    have HSS : Hid (slotsF p fy r c (k + 1) = slotF p fy r k (slotsF p fy r c k)) := hide (slotsF_succ p fy r c k)
    obtain ⟨x0, x1, x2, x3⟩ := HXr.out.cells4
    have HXB := hide hxb; have HGB := hide hgb; have HK3 := hide hK3; have HA3 := hide hA3
    clear hA3 hK3 hgb hxb hs
    go_wp2_with fail
    refine HSL.out.mono ?_
    rintro e w9 ⟨rfl, a4, hg4, hA4, hK4⟩
    have HX9 := hide (hK4.blk HXr.out HXB.out)
    have HO9 := hide (own_keepH HOr.out (w' := w9) (fun q e => by cases e; exact hK4.block g (HOr.out.lt g rfl).2 HGB.out))
    have HC9 : Hid (ClTo w2 base a (fullN p) p P fy c w9 (slotsF p fy r c (k + 1))) := hide (by rw [HSS.out]; exact ⟨a4, hg4.trans hg3, hA4, HK3.out.trans hK4⟩)
    clear hA4 hK4 x0 x1 x2 x3
    go_wp2_with fail
    go_roundw
    case rel => exact ⟨k + 1, by omega, by go_num, HX9, HO9, HC9⟩
    case measure => simp [intOf]; omega
   ·obtain rfl : k = ns := by omega
    have hcb := hA3.cluB
    have hga : a3.g = G := hg3.trans HG.out
    rw [hga] at hcb
    have k11 := hcb.cell 11
    have f11 := hcb.frozen 11
    have k16 := hcb.cell 16
    have f16 := hcb.frozen 16
    simp at k11 k16
    have hrd : (slotsF p fy r c k).rd = c.rd := (slotsF_rd p fy r c k).1
    rw [hrd] at k16
    have hrd0 := HOK.out.rd
    have HFI := hide (Objs.finish (v := .slice (some ⟨g, 0, none⟩) nd cp) (zs := setsF p fy c.ck r) (rd := c.rd + 1) hA3 ((HKW.out.trans HK2.out).trans hK3) hg3 hb3 (QAt.of_own HOr.out hbase1) (fun q e => by cases e; exact ⟨Nat.le_trans hbase1 hgs, (HOr.out.lt g rfl).2, Nat.le_trans (Nat.le_of_lt hsz1) hgs, hgb⟩))
    rw [hga] at HFI
    clear hA3 hK3 hcb hgb hxb
    go_wp2_with fail
    go_ret
    exact ⟨by rw [HPF.out.2]; simp [errV], by rw [HPF.out.1, HNS.out]; exact HFI.out⟩
end
section
open Go Go.RowKit
section
variable {P : Program}
theorem wp_append_all (w : World) {o : Oper} {a : Act} {K : Act → World → Prop} {Q : Exit → Act → World → Prop} (s x : Operand) (t : TypeId)
 (ho : o.op = .call { callee := .builtin .append, args := #[s, x], argTypes := #[t, t] })
 (base : Nat) (e : TypeId) (i : TypeInfo) (z : Value) (bytes : Nat) (ht : P.underlying t = some (.slice e)) (hi : P.info? e = some i) (hz : i.zero = some z) (hsize : i.size = 1) (hby : i.bytes = bytes) (hzs : z.cells.size = 1)
 (v : Value) (n : Nat) (xs : List Value) (hs : a.eval s = v) (hown : w.ownsRow base e 1 v n xs) (b2 : Nat) (vx : Value) (l : List Value) (hx : a.eval x = vx) (hQ : QAt w b2 e vx l) (h1 : ∀ u ∈ l, u.oneCell' = true)
 (h63 : n + l.length ≤ maxLen) (hbytes : (n + l.length) * bytes ≤ 140737488355328) (hbase : base ≤ w.heap.size)
 (h : ∀ v' w', w'.ownsRow base e 1 v' (n + l.length) (xs ++ l) → w.grownBy w' v.ownBlock → (v'.ownBlock = v.ownBlock ∨ ∀ k, v'.ownBlock = some k → w.heap.size ≤ k) → K (a.put o.dst v') w') : o.wp P a w K Q := by
 rcases hQ with ⟨rfl, ao, rfl, _⟩ | ⟨g, off, cap, cur, rfl, hg, hh, hc0, hlc, hcm, hcs, hcell⟩
 ·have hS : Src P i.size t (.slice ao 0 0) 0 [] w := by
   cases ao with
   | none => exact Src.ofNil w ht 0
   | some ad => exact Src.ofSlice w ht ad 0 0 [] (by simp) (fun j u hu => by simp at hu) (fun u hu => by cases hu)
  have hv : ∃ b sl sc, v = .slice b sl sc ∧ sl ≤ sc := by
   rcases hown.2 with ⟨rfl, _⟩ | ⟨g, cap, cur, rfl, _, _, hn, _⟩
   ·exact ⟨none, 0, 0, rfl, Nat.le_refl _⟩
   ·exact ⟨_, _, _, rfl, hn⟩
  obtain ⟨b, sl, sc, rfl, hle⟩ := hv
  have hr := run_append_nothing w t t o.type e i ht hi b sl sc hle (.slice ao 0 0) hS
  unfold Oper.wp execOp
  simp only [ho, resolve, invoke, builtin, Sem.run_bind, Sem.run_pure, Result.andThen_ok, List.map_toArray, List.map_cons, List.map_nil, hs, hx, hr]
  exact h _ _ (by simpa using hown) (World.grownBy.refl w _) (.inl rfl)
 ·exact wp_append_own2 w s x t ho base e i z 1 bytes ht hi hz hsize hby hzs (by decide) v n xs hs hown ⟨g, off, none⟩ l.length cap l hx (by omega) (fun j u hu => by
   have hj : j < l.length := (List.getElem?_eq_some_iff.1 hu).1
   rw [show (⟨g, off, none⟩ : Addr).add j = ⟨g, off + j, none⟩ by unfold Addr.add; split <;> simp_all]
   have h2 := hcell j hj
   rw [hu] at h2
   unfold World.cell?
   simp only [hh]
   simpa using h2) h1 h63 hbytes hbase h
end
theorem own_cellT {w : World} {base n g i : Nat} {cp : Nat} {e : TypeId} {xs : List Value} (h : w.ownsRow base e 1 (.slice (some ⟨g, 0, none⟩) n cp) n xs) (hi : i < n) : w.cell? ⟨g, i, none⟩ = xs[i]? ∧ w.frozen? ⟨g, i, none⟩ = false := by
 rcases h.2 with ⟨h1, _⟩ | ⟨g2, cap, cur, hv, hb, hg, hnc, hm, hs, ht⟩
 ·cases h1
 ·cases hv
  have hl := h.1
  refine ⟨?_, by unfold World.frozen?; simp [hg]⟩
  rw [cell_of_row w g i cur e (0, 0) hg, ← ht, List.getElem?_take]
  rw [if_pos (by omega)]
  simp
end
section
open Go Go.RowKit
section
variable {P : Program}
theorem wp_append_ints (w : World) {o : Oper} {a : Act} {K : Act → World → Prop} {Q : Exit → Act → World → Prop} (s x : Operand) (t : TypeId)
 (ho : o.op = .call { callee := .builtin .append, args := #[s, x], argTypes := #[t, t] })
 (base : Nat) (e : TypeId) (i : TypeInfo) (z : Value) (bytes : Nat) (ht : P.underlying t = some (.slice e)) (hi : P.info? e = some i) (hz : i.zero = some z) (hsize : i.size = 1) (hby : i.bytes = bytes) (hzs : z.cells.size = 1)
 (v : Value) (n : Nat) (xs : List Value) (hs : a.eval s = v) (hown : w.ownsRow base e 1 v n xs) (A : Option Addr) (cap ln : Nat) (zs : List Int) (hln : zs.length = ln) (hx : a.eval x = .slice A ln cap) (hle : ln ≤ cap) (hI : IsL w A zs)
 (h63 : n + ln ≤ maxLen) (hbytes : (n + ln) * bytes ≤ 140737488355328) (hbase : base ≤ w.heap.size)
 (h : ∀ v' w', w'.ownsRow base e 1 v' (n + ln) (xs ++ zs.map (Value.int .i64)) → w.grownBy w' v.ownBlock → (v'.ownBlock = v.ownBlock ∨ ∀ k, v'.ownBlock = some k → w.heap.size ≤ k) → K (a.put o.dst v') w') : o.wp P a w K Q := by
 subst hln
 rcases Nat.eq_zero_or_pos zs.length with h0 | h0
 ·have hnil : zs = [] := List.eq_nil_of_length_eq_zero h0
  subst hnil
  have hS : Src P i.size t (.slice A 0 cap) 0 [] w := by
   cases A with
   | none =>
    rcases Nat.eq_zero_or_pos cap with h1 | h1
    ·subst h1; exact Src.ofNil w ht 0
    ·exact Src.ofNil w ht cap
   | some ad => exact Src.ofSlice w ht ad 0 cap [] (by simp) (fun j u hu => by simp at hu) (fun u hu => by cases hu)
  have hv : ∃ b sl sc, v = .slice b sl sc ∧ sl ≤ sc := by
   rcases hown.2 with ⟨rfl, _⟩ | ⟨g, cap, cur, rfl, _, _, hn, _⟩
   ·exact ⟨none, 0, 0, rfl, Nat.le_refl _⟩
   ·exact ⟨_, _, _, rfl, hn⟩
  obtain ⟨b, sl, sc, rfl, hle2⟩ := hv
  have hr := run_append_nothing w t t o.type e i ht hi b sl sc hle2 (.slice A 0 cap) hS
  unfold Oper.wp execOp
  simp only [List.length_nil] at hx
  simp only [ho, resolve, invoke, builtin, Sem.run_bind, Sem.run_pure, Result.andThen_ok, List.map_toArray, List.map_cons, List.map_nil, hs, hx, hr]
  exact h _ _ (by simpa using hown) (World.grownBy.refl w _) (.inl rfl)
 ·obtain ⟨bz, oz, rfl, -⟩ := hI 0 h0
  have h1 := isl_news hI (Nat.le_refl _) (Below.refl w.heap.size w)
  have := wp_append_own2 (P := P) (Q := Q) (K := K) w s x t ho base e i z 1 bytes ht hi hz hsize hby hzs (by decide) v n xs hs hown ⟨bz, oz, none⟩ zs.length cap (zs.map (Value.int .i64)) hx (by simp) h1 (by intro u hu; obtain ⟨q, _, rfl⟩ := List.mem_map.1 hu; rfl) h63 hbytes hbase h
  exact this
theorem step_append_ints (w : World) {ops : Array Oper} {o : Oper} {a : Act} {K : Act → World → Prop} {Q : Exit → Act → World → Prop} {E : Prop} (hgd : o.guard = none) (s x : Operand) (t : TypeId)
 (ho : o.op = .call { callee := .builtin .append, args := #[s, x], argTypes := #[t, t] })
 (base : Nat) (e : TypeId) (i : TypeInfo) (z : Value) (bytes : Nat) (ht : P.underlying t = some (.slice e)) (hi : P.info? e = some i) (hz : i.zero = some z) (hsize : i.size = 1) (hby : i.bytes = bytes) (hzs : z.cells.size = 1)
 (v : Value) (n : Nat) (xs : List Value) (hs : a.eval s = v) (hown : w.ownsRow base e 1 v n xs) (A : Option Addr) (cap ln : Nat) (zs : List Int) (hln : zs.length = ln) (hx : a.eval x = .slice A ln cap) (hle : ln ≤ cap) (hI : IsL w A zs)
 (h63 : n + ln ≤ maxLen) (hbytes : (n + ln) * bytes ≤ 140737488355328) (hbase : base ≤ w.heap.size)
 (h : ∀ v' w', w'.ownsRow base e 1 v' (n + ln) (xs ++ zs.map (Value.int .i64)) → w.grownBy w' v.ownBlock → (v'.ownBlock = v.ownBlock ∨ ∀ k, v'.ownBlock = some k → w.heap.size ≤ k) → K (a.put o.dst v') w') :
 if Region.wanted o (yielded ops a.tmps) = true then Oper.wp P o a w K Q else E := by
 have hw : Region.wanted o (yielded ops a.tmps) = true := by simp [Region.wanted, hgd]
 rw [if_pos hw]
 exact wp_append_ints w s x t ho base e i z bytes ht hi hz hsize hby hzs v n xs hs hown A cap ln zs hln hx hle hI h63 hbytes hbase h
end
def FyOk (p : Pl) (f0 : Int) : Prop := ∃ fy : Nat, f0 = (fy : Int) ∧ fy < 2 ^ p.nd.toNat ∧ (liars fy p.nd.toNat : Int) ≤ p.fa
def CkOk (p : Pl) (f0 : Int) (zs : List Int) : Prop := wildB zs = false ∧ apartLe f0.toNat zs p.nd.toNat p.sk
def NewIs (p : Pl) (f0 : Int) (zs : List Int) (e : Int) : Prop :=
 (¬ FyOk p f0 ∧ e = 1) ∨ (FyOk p f0 ∧ zs.length ≠ p.nd.toNat ∧ e = 7) ∨ (FyOk p f0 ∧ zs.length = p.nd.toNat ∧ ¬ CkOk p f0 zs ∧ e = 2) ∨ (FyOk p f0 ∧ zs.length = p.nd.toNat ∧ CkOk p f0 zs ∧ e = 0)
theorem newIs_any (p : Pl) (f0 : Int) (zs : List Int) : ∃ e, NewIs p f0 zs e := by
 by_cases h1 : FyOk p f0
 ·by_cases h2 : zs.length = p.nd.toNat
  ·by_cases h3 : CkOk p f0 zs
   ·exact ⟨0, .inr (.inr (.inr ⟨h1, h2, h3, rfl⟩))⟩
   ·exact ⟨2, .inr (.inr (.inl ⟨h1, h2, h3, rfl⟩))⟩
  ·exact ⟨7, .inr (.inl ⟨h1, h2, rfl⟩)⟩
 ·exact ⟨1, .inl ⟨h1, rfl⟩⟩
theorem NewIs.good {p : Pl} {f0 : Int} {zs : List Int} (h : NewIs p f0 zs 0) : FyOk p f0 ∧ zs.length = p.nd.toNat ∧ CkOk p f0 zs := by
 rcases h with ⟨_, h⟩ | ⟨_, _, h⟩ | ⟨_, _, _, h⟩ | ⟨h1, h2, h3, _⟩
 ·cases h
 ·cases h
 ·cases h
 ·exact ⟨h1, h2, h3⟩
theorem honL_put {fy : Nat} {zs : List Int} {i : Nat} (h : liesB fy i = false) : ∀ {n : Nat}, i < n → zs.getD i 0 ∈ honL fy zs n
 | 0, hi => absurd hi (by omega)
 | n + 1, hi => by
  rcases Nat.lt_or_ge i n with h1 | h1
  ·have ih := honL_put (zs := zs) h h1
   cases hb : liesB fy n
   ·rw [honL_no hb]; exact List.mem_append_left _ ih
   ·rw [honL_yes hb]; exact ih
  ·obtain rfl : i = n := by omega
   rw [honL_no h]
   exact List.mem_append_right _ (by simp)
theorem apart_no {fy : Nat} {zs : List Int} {n : Nat} {d a b : Int} (h : ¬ apartLe fy zs n d) (ha : IsTop (honL fy zs n) a) (hb : IsLow (honL fy zs n) b) : d < a - b := by
 unfold apartLe at h
 simp only [Classical.not_forall] at h
 obtain ⟨i, j, hi, hj, h1, h2, h3⟩ := h
 have m1 : zs.getD i 0 ∈ honL fy zs n := honL_put h1 hi
 have m2 : zs.getD j 0 ∈ honL fy zs n := honL_put h2 hj
 obtain ⟨x, hx, e1⟩ := List.mem_iff_getElem.1 m1
 obtain ⟨y, hy, e2⟩ := List.mem_iff_getElem.1 m2
 have g1 := ha.2 x hx
 have g2 := hb.2 y hy
 rw [List.getD_eq_getElem?_getD, List.getElem?_eq_getElem hx, Option.getD_some, e1] at g1
 rw [List.getD_eq_getElem?_getD, List.getElem?_eq_getElem hy, Option.getD_some, e2] at g2
 omega
end
section
open Go.RowKit
end
section
open Go Go.RowKit
def ErV (w : World) (v : Value) (e pl : Int) : Prop := (e = 0 ∧ pl = -1 ∧ v = .nilIface) ∨ (e ≠ 0 ∧ AtV w v e pl)
theorem chk_nil {p : Pl} (h : (chk p).1 = 0) : (chk p).2 = -1 := by
 unfold chk at h ⊢
 by_cases h1 : headE p ≠ 0
 ·rw [if_pos h1] at h; exact absurd h h1
 ·rw [if_neg h1] at h ⊢
  by_cases h2 : (firstE (slEs p.sk p.rd p.nd 0 p.sl) 0).1 ≠ 0
  ·rw [if_pos h2] at h; exact absurd h h2
  ·rw [if_neg h2] at h ⊢
   by_cases h3 : (firstE (p.lk.map (lkE p.nd)) 0).1 ≠ 0
   ·rw [if_pos h3] at h; exact absurd h h3
   ·rw [if_neg h3] at h ⊢
    by_cases h4 : (firstE (wnEs p.fr 0 p.wn) 0).1 ≠ 0
    ·rw [if_pos h4] at h; exact absurd h h4
    ·rw [if_neg h4]
end
section
open Go Go.RowKit
attribute [local irreducible] chk honL liesB wildB
theorem and_one01 (x : Int) : bits .and .i64 x 1 = 0 ∨ bits .and .i64 x 1 = 1 := by
 have e : bits .and .i64 x 1 = IntKind.i64.wrap ((BitVec.ofInt 64 x &&& BitVec.ofInt 64 1).toNat : Int) := rfl
 rw [e, BitVec.toNat_and, show (BitVec.ofInt 64 1).toNat = 1 from rfl, Nat.and_one_is_mod]
 rcases Nat.mod_two_eq_zero_or_one (BitVec.ofInt 64 x).toNat with h | h <;> rw [h]
 ·exact .inl rfl
 ·exact .inr rfl
theorem own_sl {w : World} {b : Nat} {t : TypeId} {v : Value} {n : Nat} {l : List Value} (h : w.ownsRow b t 1 v n l) : ∃ ob sc, v = .slice ob n sc := by
 rcases h.2 with ⟨rfl, h2⟩ | ⟨g, cap, cur, rfl, _⟩
 ·have h1 := h.1
  subst h2
  simp at h1
  subst h1
  exact ⟨_, _, rfl⟩
 ·exact ⟨_, _, rfl⟩
theorem fy_iff {p : Pl} {f0 m : Int} {nd : Nat} (hnd : p.nd.toNat = nd) (h16 : nd ≤ 16) (hm : ∀ fy : Nat, f0 = (fy : Int) → fy < 65536 → m = (liars fy nd : Nat)) : FyOk p f0 ↔ (m ≤ p.fa ∧ 0 ≤ f0 ∧ f0 / 2 ^ nd = 0) := by
 have h2 : (2 : Nat) ^ nd ≤ 2 ^ 16 := Nat.pow_le_pow_right (by omega) h16
 have hpos : 0 < (2 : Nat) ^ nd := Nat.two_pow_pos nd
 have hdv : ∀ fy : Nat, ((fy : Int) / 2 ^ nd) = ((fy / 2 ^ nd : Nat) : Int) := fun fy => by simp
 constructor
 ·rintro ⟨fy, rfl, h, hl⟩
  rw [hnd] at h hl
  have h1 := hm fy rfl (by omega)
  refine ⟨by omega, by omega, ?_⟩
  rw [hdv, Nat.div_eq_of_lt h]
  rfl
 ·rintro ⟨h1, h3, h4⟩
  obtain ⟨fy, rfl⟩ := Int.eq_ofNat_of_zero_le h3
  rw [hdv] at h4
  have h5 : fy < 2 ^ nd := by
   rcases Nat.lt_or_ge fy (2 ^ nd) with h | h
   ·exact h
   ·have := Nat.div_pos h hpos
    omega
  have h6 := hm fy rfl (by omega)
  exact ⟨fy, rfl, by rw [hnd]; exact h5, by rw [hnd]; omega⟩
theorem wild_in {zs : List Int} (h : wildB zs = false) {j : Nat} (hj : j < zs.length) : -274877906944 ≤ zs.getD j 0 ∧ zs.getD j 0 ≤ 274877906944 := by
 unfold wildB at h
 rw [List.any_eq_false] at h
 have := h (zs.getD j 0) (getD_memC hj)
 rw [Bool.or_eq_true, decide_eq_true_eq, decide_eq_true_eq] at this
 omega
theorem isl_of_own {W : World} {b g n cp : Nat} {zs : List Int} (h : W.ownsRow b 3 1 (.slice (some ⟨g, 0, none⟩) n cp) n (zs.map (Value.int .i64))) (hn : zs.length = n) : IsL W (some ⟨g, 0, none⟩) zs := fun j hj => ⟨g, 0, rfl, by
 have := (own_cellT h (by rw [← hn]; exact hj)).1
 rw [Nat.zero_add, this, List.getElem?_map, List.getElem?_eq_getElem hj, List.getD_eq_getElem?_getD, List.getElem?_eq_getElem hj]
 rfl⟩
section
variable (p : Pl) (A : Option Addr) (c : Nat) (AL : Option Addr) (cl : Nat) (AQ : Option Addr) (cq : Nat) (f0 : Int) (B : Option Addr) (ln cz : Nat)
set_option maxRecDepth 100000 in
set_option maxHeartbeats 8000000 in
theorem new_chk (w : World) (hchk : chk p ≠ (0, -1)) (s2 : SlotsAt w A p.sl.length p.sl) (l2 : LinksAt w AL p.lk.length p.lk) (q2 : WinsAt w AQ p.wn.length p.wn) :
 Calls Tryz.prog 107 #[.agg (planC p.nd p.fa p.sk p.ji p.dr p.rd (.slice A p.sl.length c) (.slice AL p.lk.length cl) p.fr (.slice AQ p.wn.length cq)), .int .i64 f0, .slice B ln cz] w fun e w' =>
  ∃ v, e = .returned (.tuple #[.pointer none, v]) ∧ ErV w' v (chk p).1 (chk p).2 ∧ Below w.heap.size w w' := by
 obtain ⟨w1, hw1⟩ : ∃ w1, w.alloc (.cells (planC p.nd p.fa p.sk p.ji p.dr p.rd (.slice A p.sl.length c) (.slice AL p.lk.length cl) p.fr (.slice AQ p.wn.length cq)) 29) = w1 := ⟨_, rfl⟩
 have hB1 : Below w.heap.size w w1 := by rw [← hw1]; exact (Below.refl w.heap.size w).alloc (Nat.le_refl _) _
 have hX : Blk w1 w.heap.size 29 (planC p.nd p.fa p.sk p.ji p.dr p.rd (.slice A p.sl.length c) (.slice AL p.lk.length cl) p.fr (.slice AQ p.wn.length cq)) := by rw [← hw1]; exact Blk.new w _ _
 have HCK := hide (check_any p A p.sl.length c AL p.lk.length cl AQ p.wn.length cq w1 rfl rfl rfl (hS0 s2 (Nat.le_refl _) hB1) (hL0 l2 (Nat.le_refl _) hB1) (q2.below hB1))
 have HX := hide hX; have HB1 := hide hB1; have HW1 := hide hw1
 obtain ⟨x0, x1, x2, x3, x4, x5, x6, x7, x8, x9⟩ := plan_cells hX
 have HNE : Hid ((chk p).1 ≠ 0) := hide (fun h => hchk (Prod.ext h (chk_nil h)))
 obtain ⟨ck, hck⟩ : ∃ ck, chk p = ck := ⟨_, rfl⟩
 rw [hck] at HCK HNE ⊢
 clear hX hB1 hw1 s2 l2 q2 hchk hck
 go_enter Tryz.func107, Tryz.ntmps107
 go_wp2_with fail
 rw [HW1.out]
 refine HCK.out.mono ?_
 rintro e w2 ⟨hB2, ⟨h0, -⟩ | ⟨-, v, rfl, hv⟩⟩
 ·exact absurd h0 HNE.out
 ·have HV := hide hv
  have HB2 := hide (HB1.out.trans (hB2.mono HB1.out.size))
  clear hB2 hv x0 x1 x2 x3 x4 x5 x6 x7 x8 x9
  obtain ⟨t, u, rfl⟩ := HV.out.iface
  go_wp2_with fail
  go_ret2
  exact ⟨_, rfl, .inr ⟨HNE.out, HV.out⟩, HB2.out⟩
set_option maxRecDepth 100000 in
set_option maxHeartbeats 8000000 in
theorem new_bad (w : World) (hchk : chk p = (0, -1)) (s2 : SlotsAt w A p.sl.length p.sl) (l2 : LinksAt w AL p.lk.length p.lk) (q2 : WinsAt w AQ p.wn.length p.wn) (zs : List Int) (hln : zs.length = ln) (hI : IsL w B zs) (hle : ln ≤ cz) (h30 : ln ≤ 100000) (e : Int) (he : NewIs p f0 zs e) (h0 : e ≠ 0) :
 Calls Tryz.prog 107 #[.agg (planC p.nd p.fa p.sk p.ji p.dr p.rd (.slice A p.sl.length c) (.slice AL p.lk.length cl) p.fr (.slice AQ p.wn.length cq)), .int .i64 f0, .slice B ln cz] w fun r w' => r = .returned (.tuple #[.pointer none, errV e]) ∧ Below w.heap.size w w' := by
 have hp := PlOk.of hchk
 have hn16 := hp.n16
 have hn1 := hp.n1
 obtain ⟨w1, hw1⟩ : ∃ w1, w.alloc (.cells (planC p.nd p.fa p.sk p.ji p.dr p.rd (.slice A p.sl.length c) (.slice AL p.lk.length cl) p.fr (.slice AQ p.wn.length cq)) 29) = w1 := ⟨_, rfl⟩
 have hB1 : Below w.heap.size w w1 := by rw [← hw1]; exact (Below.refl w.heap.size w).alloc (Nat.le_refl _) _
 have hX : Blk w1 w.heap.size 29 (planC p.nd p.fa p.sk p.ji p.dr p.rd (.slice A p.sl.length c) (.slice AL p.lk.length cl) p.fr (.slice AQ p.wn.length cq)) := by rw [← hw1]; exact Blk.new w _ _
 have HCK := hide (check_any p A p.sl.length c AL p.lk.length cl AQ p.wn.length cq w1 rfl rfl rfl (hS0 s2 (Nat.le_refl _) hB1) (hL0 l2 (Nat.le_refl _) hB1) (q2.below hB1))
 rw [hchk] at HCK
 obtain ⟨nd, hnd⟩ : ∃ nd, p.nd.toNat = nd := ⟨_, rfl⟩
 have hpn : p.nd = (nd : Int) := by omega
 have hnd1 : 0 < nd := by omega
 have hnd16 : nd ≤ 16 := by omega
 have HX := hide hX; have HB1 := hide hB1; have HW1 := hide hw1; have HP := hide hp; have HI := hide hI; have HLN := hide hln; have HPN := hide hpn; have HND := hide hnd; have HE := hide he; have HE0 := hide h0; have HLE := hide hle; have H30 := hide h30
 obtain ⟨x0, x1, x2, x3, x4, x5, x6, x7, x8, x9⟩ := plan_cells hX
 clear hX hB1 hw1 hp hI hln hpn hnd hchk s2 l2 q2 hn16 hn1 he h0 hle h30
 go_enter Tryz.func107, Tryz.ntmps107
 go_wp2_with fail
 rw [HW1.out]
 refine HCK.out.mono ?_
 rintro e w2 ⟨hB2, ⟨-, rfl⟩ | ⟨h0, -⟩⟩
 case inr => exact absurd rfl h0
 have HX2 := hide (HX.out.below hB2 HX.out.lt)
 have HB2 := hide (HB1.out.trans (hB2.mono HB1.out.size))
 clear hB2 x0 x1 x2 x3 x4 x5 x6 x7 x8 x9
 obtain ⟨x0, x1, x2, x3, x4, x5, x6, x7, x8, x9⟩ := plan_cells HX2.out
 go_wp2_with fail
 obtain ⟨i0, hi, hz0, hz1, hz2⟩ := en_info_parts ar_info
 have HSZ2 := hide HB2.out.size
 have hx2lt := HX2.out.lt
 have HE1 : Hid ((w2.alloc (.cells #[] 3)).drew.ownsRow (w.heap.size + 1) 3 1 (.slice (some ⟨w2.heap.size, 0, none⟩) 0 0) 0 []) := hide (own_empty (Blk.new w2 3 #[]).drew hx2lt)
 have HIE : Hid (IsL (w2.alloc (.cells #[] 3)).drew B zs) := hide (HI.out.below (Nat.le_refl _) (below_drewN (HB2.out.alloc HSZ2.out _) 1))
 have HX3 : Hid (∀ W, (w2.alloc (.cells #[] 3)).drew.grownBy W (some w2.heap.size) → Blk W w.heap.size 29 (planC p.nd p.fa p.sk p.ji p.dr p.rd (.slice A p.sl.length c) (.slice AL p.lk.length cl) p.fr (.slice AQ p.wn.length cq)) ∧ Below w.heap.size w W) := hide (fun W hg => ⟨((HX2.out.alloc (.cells #[] 3)).drew).grown hg (fun e => by have h1 := HX2.out.lt; have h2 := Option.some.inj e; omega), (below_drewN (HB2.out.alloc HSZ2.out (.cells #[] 3)) 1).grown hg (by show w.heap.size ≤ (w2.alloc _).heap.size; have := HSZ2.out; simp; omega) (fun k e => by have h2 := Option.some.inj e; have := HSZ2.out; omega)⟩)
 have HLM : Hid (0 + ln ≤ maxLen ∧ (0 + ln) * 8 ≤ 140737488355328) := hide ⟨by have := H30.out; simp [maxLen]; omega, by have := H30.out; omega⟩
 have HSZ3 : Hid (w.heap.size + 1 ≤ (w2.alloc (.cells #[] 3)).drew.heap.size) := hide (by show _ ≤ (w2.alloc _).heap.size; have := HSZ2.out; simp; omega)
 go_cut [9] from 9 to 34 (fun v wx => ∃ G ck, v = .pointer (some ⟨G, 0, none⟩) ∧ Hid (Below w.heap.size w wx) ∧ Hid (Blk wx w.heap.size 29 (planC p.nd p.fa p.sk p.ji p.dr p.rd (.slice A p.sl.length c) (.slice AL p.lk.length cl) p.fr (.slice AQ p.wn.length cq))) ∧ Hid (Blk wx G 210 (clC p.nd p.fa p.sk p.ji p.dr p.rd (.slice A p.sl.length c) (.slice AL p.lk.length cl) p.fr (.slice AQ p.wn.length cq) f0 ck (.slice none 0 0) (.slice none 0 0) (.slice none 0 0) (.slice none 0 0) 0)) ∧ Hid (wx.ownsRow (w.heap.size + 1) 3 1 ck ln (zs.map (Value.int .i64))))
 case first =>
  go_region_law (first
   | (refine step_append_ints _ rfl (.tmp 30) (.tmp 31) _ rfl (w.heap.size + 1) 3 i0 _ 8 Tryz.underlying33 hi hz0 hz1 hz2 rfl (.slice (some ⟨w2.heap.size, 0, none⟩) 0 0) 0 [] rfl (by exact HE1.out) B cz ln zs HLN.out rfl HLE.out (by exact HIE.out) HLM.out.1 HLM.out.2 (by exact HSZ3.out) ?_; intro v8 w8 hown hg hat; simp only [Nat.zero_add, List.nil_append] at hown; obtain ⟨sb, sc, rfl⟩ := own_sl hown; have HX8 := hide (HX3.out w8 hg); have HO8 := hide hown; obtain ⟨y0, y1, y2, y3, y4, y5, y6, y7, y8, y9⟩ := plan_cells HX8.out.1; clear hown hg hat))
  all_goals
   go_wp2_with fail
   go_meet
   exact ⟨w8.heap.size, _, rfl, hide (HX8.out.2.alloc HX8.out.2.size _), hide (HX8.out.1.alloc _), hide (Blk.new w8 _ _), hide (own_keepR HO8.out ((Below.refl w8.heap.size w8).alloc (Nat.le_refl _) _))⟩
 case rest =>
  obtain ⟨G, ck, rfl, HB4, HX4, HG4, HO4⟩ := hcut
  clear HE1 HIE HX3 HLM HSZ3 HSZ2 hx2lt HX2 HB2 x0 x1 x2 x3 x4 x5 x6 x7 x8 x9
  obtain ⟨x0, x1, x2, x3, x4, x5, x6, x7, x8, x9⟩ := plan_cells HX4.out
  rw [HPN.out] at x0
  go_wp2_with fail
  go_loopw [10, 37] (fun v10 v37 wr => ∃ (k : Nat) (m : Int), k ≤ nd ∧ v37 = .int .i64 k ∧ v10 = .int .i64 m ∧ 0 ≤ m ∧ m ≤ (k : Int) ∧ Hid (∀ fy : Nat, f0 = (fy : Int) → fy < 65536 → m = (liars fy k : Nat)) ∧ wr = wc) (fun _ v _ => nd - (intOf v).toNat)
  case atStart => exact ⟨0, 0, by omega, rfl, rfl, by omega, by omega, hide (fun fy _ _ => rfl), rfl⟩
  case round =>
   obtain ⟨k, m, hk, rfl, rfl, hm0, hmk, HML, rfl⟩ := hrel
   by_cases hlt : k < nd
   ·obtain ⟨x, hx⟩ : ∃ x, bits .and .i64 (f0 / 2 ^ k) 1 = x := ⟨_, rfl⟩
    have hx01 : x = 0 ∨ x = 1 := by rw [← hx]; exact and_one01 _
    have HML2 : Hid (∀ fy : Nat, f0 = (fy : Int) → fy < 65536 → m + x = (liars fy (k + 1) : Nat)) := hide (fun fy e hf => by
     have h1 := HML.out fy e hf
     have h2 := bit_one fy k hf
     rw [← e, hx] at h2
     rw [liars_succ, h1, h2]
     unfold liesB
     split <;> simp_all)
    go_wp2_with fail
    go_roundw
    case rel => exact ⟨k + 1, m + x, by omega, by go_num, by go_num, by omega, by omega, HML2, trivial⟩
    case measure => simp [intOf]; omega
   ·obtain rfl : nd = k := by omega
    have HFI := hide (fy_iff HND.out hnd16 HML.out)
    clear hmk HML
    by_cases a1 : m ≤ p.fa
    case neg =>
     have HNF : Hid (¬ FyOk p f0) := hide (fun h => a1 (HFI.out.1 h).1)
     have d1 : decide (p.fa < m) = true := decide_eq_true (by omega)
     clear a1
     have e1 : e = 1 := by
      rcases HE.out with ⟨_, h⟩ | ⟨h, _⟩ | ⟨h, _⟩ | ⟨h, _⟩
      ·exact h
      all_goals exact absurd h HNF.out
     subst e1
     go_wp2_with fail
     go_ret2
     exact ⟨rfl, HB4.out⟩
    have d1 : decide (p.fa < m) = false := decide_eq_false (by omega)
    by_cases a2 : 0 ≤ f0
    case neg =>
     have HNF : Hid (¬ FyOk p f0) := hide (fun h => a2 (HFI.out.1 h).2.1)
     have d2 : decide (f0 < 0) = true := decide_eq_true (by omega)
     clear a1 a2
     have e1 : e = 1 := by
      rcases HE.out with ⟨_, h⟩ | ⟨h, _⟩ | ⟨h, _⟩ | ⟨h, _⟩
      ·exact h
      all_goals exact absurd h HNF.out
     subst e1
     go_wp2_with fail
     go_ret2
     exact ⟨rfl, HB4.out⟩
    have d2 : decide (f0 < 0) = false := decide_eq_false (by omega)
    by_cases a3 : f0 / 2 ^ nd = 0
    case neg =>
     have HNF : Hid (¬ FyOk p f0) := hide (fun h => a3 (HFI.out.1 h).2.2)
     have d3 : (f0 / 2 ^ nd == 0) = false := beq_eq_false_iff_ne.2 a3
     clear a1 a2
     have e1 : e = 1 := by
      rcases HE.out with ⟨_, h⟩ | ⟨h, _⟩ | ⟨h, _⟩ | ⟨h, _⟩
      ·exact h
      all_goals exact absurd h HNF.out
     subst e1
     go_wp2_with fail
     go_ret2
     exact ⟨rfl, HB4.out⟩
    obtain ⟨fy, rfl, hfl, hli⟩ := HFI.out.2 ⟨a1, a2, a3⟩
    have HFO : Hid (FyOk p fy) := hide ⟨fy, rfl, hfl, hli⟩
    have HLI := hide hli
    rw [HND.out] at hfl
    have hf16 : fy < 65536 := by
     have : (2 : Nat) ^ nd ≤ 2 ^ 16 := Nat.pow_le_pow_right (by omega) hnd16
     omega
    clear a1 a2 HFI hli hfl
    by_cases a4 : ln = nd
    case neg =>
     have e1 : e = 7 := by
      rcases HE.out with ⟨h, _⟩ | ⟨_, _, h⟩ | ⟨_, h, _⟩ | ⟨_, h, _⟩
      ·exact absurd HFO.out h
      ·exact h
      all_goals (rw [HLN.out, HND.out] at h; exact absurd h a4)
     subst e1
     have d4 : ((ln : Int) == (nd : Int)) = false := beq_eq_false_iff_ne.2 (fun h => a4 (Int.ofNat_inj.1 h))
     have d5 : decide ((ln : Int) = (nd : Int)) = false := decide_eq_false (fun h => a4 (Int.ofNat_inj.1 h))
     go_wp2_with fail
     go_ret2
     exact ⟨rfl, HB4.out⟩
    subst a4
    obtain ⟨gk, cpk, cur, rfl, -, -, -, -, -, -⟩ := block_of_own HO4.out hnd1
    have HIS := hide (isl_of_own HO4.out HLN.out)
    have e1 : e = 2 := by
     rcases HE.out with ⟨h, _⟩ | ⟨_, h, _⟩ | ⟨_, _, _, h⟩ | ⟨_, _, _, h⟩
     ·exact absurd HFO.out h
     ·rw [HLN.out, HND.out] at h; exact absurd rfl h
     ·exact h
     ·exact absurd h HE0.out
    subst e1
    have HNC : Hid (¬ CkOk p fy zs) := hide (by
     rcases HE.out with ⟨h, _⟩ | ⟨_, h, _⟩ | ⟨_, _, h, _⟩ | ⟨_, _, _, h⟩
     ·exact absurd HFO.out h
     ·rw [HLN.out, HND.out] at h; exact absurd rfl h
     ·exact h
     ·exact absurd h HE0.out)
    have HCV : Hid (∀ W, Below wr.heap.size wr W → Blk W G 210 (clC p.nd p.fa p.sk p.ji p.dr p.rd (.slice A p.sl.length c) (.slice AL p.lk.length cl) p.fr (.slice AQ p.wn.length cq) fy (.slice (some ⟨gk, 0, none⟩) ln cpk) (.slice none 0 0) (.slice none 0 0) (.slice none 0 0) (.slice none 0 0) 0) ∧ IsL W (some ⟨gk, 0, none⟩) zs ∧ W.cell? ⟨w.heap.size, 2, none⟩ = some (.int .i64 p.sk)) := hide (fun W hB => ⟨HG4.out.below hB HG4.out.lt, HIS.out.below (Nat.le_refl _) hB, (plan_cells (HX4.out.below hB HX4.out.lt)).2.2.1⟩)
    obtain ⟨wb, hwb⟩ : ∃ wb, wildB zs = wb := ⟨_, rfl⟩
    have HWI : Hid (∀ W, Below wr.heap.size wr W → Calls Tryz.prog 144 #[.pointer (some ⟨G, 0, none⟩)] W fun e w' => e = .returned (.bool wb) ∧ w' = W) := hide (fun W hB => by
     have h1 := HCV.out W hB
     have := wild_any G p.nd p.fa p.sk p.ji p.dr p.rd (.slice A p.sl.length c) (.slice AL p.lk.length cl) p.fr (.slice AQ p.wn.length cq) (.slice none 0 0) (.slice none 0 0) (.slice none 0 0) (.slice none 0 0) 0 fy (some ⟨gk, 0, none⟩) cpk zs W (by rw [HLN.out]; exact h1.1) h1.2.1 (by rw [HLN.out]; omega)
     rw [hwb] at this
     exact this)
    cases wb
    ·obtain ⟨q0, hq1, hq2⟩ := some_right (fy := fy) HP.out HLI.out
     have HWB := hide hwb
     have HSP : Hid (∀ W, Below wr.heap.size wr W → Calls Tryz.prog 106 #[.pointer (some ⟨G, 0, none⟩)] W fun e w' => (∃ sp : Int, e = .returned (.int .i64 sp) ∧ decide (p.sk < sp) = true) ∧ Below W.heap.size W w') := hide (fun W hB => by
      have h1 := HCV.out W hB
      have := spreadC_any G p.nd p.fa p.sk p.ji p.dr p.rd (.slice A p.sl.length c) (.slice AL p.lk.length cl) p.fr (.slice AQ p.wn.length cq) (.slice none 0 0) (.slice none 0 0) (.slice none 0 0) (.slice none 0 0) 0 fy (some ⟨gk, 0, none⟩) cpk zs W (by rw [HLN.out]; exact h1.1) hf16 h1.2.1 (by rw [HLN.out]; exact hnd16) (by rw [HLN.out]; exact honL_some zs (by rw [HND.out] at hq1; exact hq1) hq2) (fun j hj => by have := wild_in HWB.out hj; omega)
      refine this.mono ?_
      rintro e w' ⟨⟨x, y, rfl, ht, hl⟩, hb⟩
      rw [HLN.out] at ht hl
      refine ⟨⟨x - y, rfl, decide_eq_true (apart_no (fun ha => HNC.out ⟨HWB.out, ?_⟩) ht hl)⟩, hb⟩
      rw [Int.toNat_natCast, HND.out]
      exact ha)
     have hx2 := x2
     clear hq1 hq2 hwb
     go_wp2_with fail
     go_region_held3 (fun w' => w'.cell? ⟨w.heap.size, 2, none⟩ = some (.int .i64 p.sk)) (first | exact hx2 | exact HS5.out)
      (first
       | (go_at_call 144; go_must (refine (HWI.out _ (by first | exact Below.refl _ _ | exact below_drewN (Below.refl _ _) 1)).mono ?_); rintro e w5 ⟨rfl, rfl⟩)
       | (go_at_call 106; go_must (refine (HSP.out _ (by first | exact Below.refl _ _ | exact below_drewN (Below.refl _ _) 1)).mono ?_); rintro e w5 ⟨⟨sp, rfl, hsp⟩, hB5⟩; have HB5 := hide ((below_drewN (Below.refl wr.heap.size wr) 1).trans hB5); have HS5 := hide (HCV.out w5 HB5.out).2.2; clear hB5))
     go_wp2_with fail
     go_ret2
     exact ⟨rfl, HB4.out.trans (HB5.out.mono HB4.out.size)⟩
    ·have hx2 := x2
     clear hwb
     go_wp2_with fail
     go_quiet ((go_at_call 144; (with_reducible exact Calls.quiet_of_same (HWI.out _ (below_drewN (Below.refl _ _) _)))))
     go_wp2_with fail
     go_ret2
     exact ⟨rfl, below_drewN HB4.out _⟩
end
end
section
open Go Go.RowKit
section
variable {p : Pl} {N : Nat} {c : Cl}
theorem clPut_ok (hp : PlOk p) (h : ClOk p N c) {k : Nat} {l : Lk} (hl : p.lk[k]? = some l) (d : ByteArray) : ClOk p N (clPut k l d c) := by
 have h1 := h.sd k
 have h2 := hp.link k l hl
 refine h.setSd k ⟨h1.1, h1.2.1, h1.2.2.1, h1.2.2.2.1, ?_, fun x hx => ?_⟩
 ·show (putQ _ _ _).length ≤ 16
  unfold putQ putE
  repeat' split
  all_goals first
   | (exact absurd ‹_› (by decide))
   | exact h1.2.2.2.2.1
   | (rw [List.length_append, List.length_singleton]; omega)
 ·have hx' : x ∈ putQ (c.sd k).q d (putE d.size (c.sd k).q.length l.q) := hx
  unfold putQ putE at hx'
  repeat' split at hx'
  all_goals first
   | (exact absurd ‹_› (by decide))
   | exact h1.2.2.2.2.2 x hx'
   | (rcases List.mem_append.1 hx' with h3 | h3
      ·exact h1.2.2.2.2.2 x h3
      ·simp at h3; subst h3; omega)
theorem clRecv_ok (h : ClOk p N c) (k i : Nat) : ClOk p (N + 1) (clRecv k i c) := by
 have h1 := h.pr k i
 refine h.setPr k i ⟨h1.1, by show (c.pr k i).lost ≤ _; omega, ?_⟩
 show (c.pr k i).q.tail.length ≤ 16
 rw [List.length_tail]; omega
end
theorem playF_ok {p : Pl} {N : Nat} {c : Cl} (hp : PlOk p) (h : ClOk p N c) (fy : Nat) (r : Rn) : ClOk p (N + 2592) (playF p fy r c) := by
 have h32 := hp.sl
 unfold playF
 split
 ·exact h.mono (by omega)
 ·rename_i hw
  have h1 := (slotsF_ok h hp fy r p.sl.length).mono (show N + 81 * p.sl.length ≤ N + 2592 by omega)
  have hw2 : wildB (setsF p fy c.ck r) = false := by cases e : wildB (setsF p fy c.ck r); rfl; exact absurd e hw
  have hlen : (setsF p fy c.ck r).length = p.nd.toNat := by unfold setsF; rw [driftF_len, setL_len, h.len]
  refine ⟨hlen, fun j => ?_, by show 0 ≤ c.rd + 1; have := h.rd; omega, h1.mm, h1.sd, h1.tk, h1.pr⟩
  by_cases hj : j < (setsF p fy c.ck r).length
  ·unfold wildB at hw2
   rw [List.any_eq_false] at hw2
   have := hw2 _ (getD_memC hj)
   simp only [Bool.or_eq_true, decide_eq_true_eq] at this
   show _ ≤ (setsF p fy c.ck r).getD j 0 ∧ (setsF p fy c.ck r).getD j 0 ≤ _
   omega
  ·show _ ≤ (setsF p fy c.ck r).getD j 0 ∧ (setsF p fy c.ck r).getD j 0 ≤ _
   rw [List.getD_eq_getElem?_getD, List.getElem?_eq_none (by omega)]
   simp
section
attribute [local irreducible] playF startF clPut clRecv honL
set_option maxRecDepth 100000 in
theorem rounds_any {w : World} {base : Nat} {a : Ad} {n : Cn} {p : Pl} {P : Sv3} {fy : Nat} {c : Cl} (h : ClAt w base a n p P fy c) :
 Calls Tryz.prog 105 #[.pointer (some ⟨a.g, 0, none⟩)] w fun e w' => e = .returned (.int .i64 c.rd) ∧ w' = w := by
 have k16 := (h.cluC rfl).2.2.2.2.2.2.2.2
 clear h
 go_enter Tryz.func105, Tryz.ntmps105
 go_wp2_with fail
 go_ret
 exact ⟨rfl, rfl⟩
theorem spr_any {w : World} {base : Nat} {a : Ad} {n : Cn} {p : Pl} {P : Sv3} {fy : Nat} {c : Cl} (h : ClAt w base a n p P fy c) (hp : PlOk p) (hlen : c.ck.length = p.nd.toNat) (hck : ∀ j, -274877906944 ≤ c.ck.getD j 0 ∧ c.ck.getD j 0 ≤ 274877906944) (hf : fy < 65536) (hli : (liars fy p.nd.toNat : Int) ≤ p.fa) :
 Calls Tryz.prog 106 #[.pointer (some ⟨a.g, 0, none⟩)] w fun e w' => (∃ x y, e = .returned (.int .i64 (x - y)) ∧ IsTop (honL fy c.ck p.nd.toNat) x ∧ IsLow (honL fy c.ck p.nd.toNat) y) ∧ Below w.heap.size w w' := by
 have h16 := hp.n16
 have h1 := hp.n1
 obtain ⟨b, off, cp, e⟩ := h.ckV hlen (by omega)
 have hI := h.ckI hlen e
 obtain ⟨q, hq1, hq2⟩ := some_right hp hli
 have hb := h.cluB
 rw [e, ← hlen] at hb
 have := spreadC_any a.g p.nd p.fa p.sk p.ji p.dr p.rd P.s P.l p.fr P.q a.mm a.sd a.tk a.pr c.rd fy (some ⟨b, off, none⟩) cp c.ck w hb hf hI (by omega) (by rw [hlen]; exact honL_some c.ck hq1 hq2) (fun j _ => by have := hck j; omega)
 rw [hlen] at this
 exact this
end
section
attribute [local irreducible] liesB
section
variable {P0 : Program}
theorem wpList_append_all (w : World) {ops : Array Oper} {rest : List Oper} {o : Oper} {a : Act} {Q : Exit → Act → World → Prop} (hgd : o.guard = none) (s x : Operand) (t : TypeId)
 (ho : o.op = .call { callee := .builtin .append, args := #[s, x], argTypes := #[t, t] })
 (base : Nat) (e : TypeId) (i : TypeInfo) (z : Value) (bytes : Nat) (ht : P0.underlying t = some (.slice e)) (hi : P0.info? e = some i) (hz : i.zero = some z) (hsize : i.size = 1) (hby : i.bytes = bytes) (hzs : z.cells.size = 1)
 (v : Value) (n : Nat) (xs : List Value) (hs : a.eval s = v) (hown : w.ownsRow base e 1 v n xs) (b2 : Nat) (vx : Value) (l : List Value) (hx : a.eval x = vx) (hQ : QAt w b2 e vx l) (h1 : ∀ u ∈ l, u.oneCell' = true)
 (h63 : n + l.length ≤ maxLen) (hbytes : (n + l.length) * bytes ≤ 140737488355328) (hbase : base ≤ w.heap.size)
 (h : ∀ v' w', w'.ownsRow base e 1 v' (n + l.length) (xs ++ l) → w.grownBy w' v.ownBlock → (v'.ownBlock = v.ownBlock ∨ ∀ k, v'.ownBlock = some k → w.heap.size ≤ k) → wpList P0 ops Q rest (a.put o.dst v') w') : wpList P0 ops Q (o :: rest) a w :=
 wpList_plain hgd fun _ hK => wp_append_all w s x t ho base e i z bytes ht hi hz hsize hby hzs v n xs hs hown b2 vx l hx hQ h1 h63 hbytes hbase fun v' w' h2 h3 h4 => hK _ _ (h v' w' h2 h3 h4)
end
section
variable {w : World} {base : Nat} {a : Ad} {p : Pl} {P : Sv3} {fy : Nat} {c : Cl}
set_option maxRecDepth 100000 in
set_option maxHeartbeats 4000000 in
theorem cput_out (h : ClAt w base a (fullN p) p P fy c) (hp : PlOk p) (k : Int) (hk : k < 0 ∨ (p.lk.length : Int) ≤ k) (d : ByteArray) :
 Calls Tryz.prog 101 #[.pointer (some ⟨a.g, 0, none⟩), .int .i64 k, .string d] w fun e w' => e = .returned (errV 2) ∧ w' = w := by
 have hl8 := hp.lk
 have k13 := h.cluB.cell 13
 simp at k13
 obtain ⟨ao, cp, e, -⟩ := (h.at_ .sndA : QAt w base 217 a.sd ((List.range (fullN p).ns).map fun i => ptrV (a.gs i))).shape
 rw [List.length_map, List.length_range] at e
 obtain ⟨nl, hnl⟩ : ∃ nl, p.lk.length = nl := ⟨_, rfl⟩
 have e2 : (fullN p).ns = nl := hnl
 rw [e2] at e
 rw [e] at k13
 rw [hnl] at hk hl8
 clear h hnl e e2
 go_enter Tryz.func101, Tryz.ntmps101
 by_cases h0 : k < 0
 ·have d1 : decide (k < 0) = true := decide_eq_true h0
  go_wp2_with fail
  go_ret
  exact ⟨rfl, rfl⟩
 ·have d1 : decide (k < 0) = false := decide_eq_false h0
  have d2 : decide ((nl : Int) ≤ k) = true := decide_eq_true (by omega)
  go_wp2_with fail
  go_ret
  exact ⟨rfl, rfl⟩
set_option maxRecDepth 100000 in
set_option maxHeartbeats 4000000 in
theorem crecv_out (h : ClAt w base a (fullN p) p P fy c) (hp : PlOk p) (i k : Int) (hk : i < 0 ∨ p.nd ≤ i ∨ k < 0 ∨ (p.lk.length : Int) ≤ k) :
 Calls Tryz.prog 103 #[.pointer (some ⟨a.g, 0, none⟩), .int .i64 i, .int .i64 k] w fun e w' => e = .returned (.tuple #[.string ⟨#[]⟩, errV 2]) ∧ w' = w := by
 have hl8 := hp.lk
 have k15 := h.cluB.cell 15
 have k0 := h.cluB.cell 0
 simp at k15 k0
 obtain ⟨ao, cp, e, -⟩ := (h.at_ .prtA : QAt w base 220 a.pr ((List.range (fullN p).na).map a.rp)).shape
 rw [List.length_map, List.length_range] at e
 obtain ⟨nl, hnl⟩ : ∃ nl, p.lk.length = nl := ⟨_, rfl⟩
 have e2 : (fullN p).na = nl := hnl
 rw [e2] at e
 rw [e] at k15
 rw [hnl] at hk hl8
 clear h hnl e e2
 go_enter Tryz.func103, Tryz.ntmps103
 by_cases h0 : i < 0
 ·have d1 : decide (i < 0) = true := decide_eq_true h0
  go_wp2_with fail
  go_ret2
  exact ⟨rfl, rfl⟩
 ·have d1 : decide (i < 0) = false := decide_eq_false h0
  by_cases h1 : p.nd ≤ i
  ·have d2 : decide (p.nd ≤ i) = true := decide_eq_true h1
   go_wp2_with fail
   go_ret2
   exact ⟨rfl, rfl⟩
  ·have d2 : decide (p.nd ≤ i) = false := decide_eq_false h1
   by_cases h2 : k < 0
   ·have d3 : decide (k < 0) = true := decide_eq_true h2
    go_wp2_with fail
    go_ret2
    exact ⟨rfl, rfl⟩
   ·have d3 : decide (k < 0) = false := decide_eq_false h2
    have d4 : decide ((nl : Int) ≤ k) = true := decide_eq_true (by omega)
    go_wp2_with fail
    go_ret2
    exact ⟨rfl, rfl⟩
set_option maxRecDepth 100000 in
set_option maxHeartbeats 4000000 in
theorem clocks_any (h : ClAt w base a (fullN p) p P fy c) (hp : PlOk p) (hlen : c.ck.length = p.nd.toNat) :
 Calls Tryz.prog 96 #[.pointer (some ⟨a.g, 0, none⟩)] w fun e w' => (∃ A cp, e = .returned (.slice A p.nd.toNat cp) ∧ IsL w' A c.ck) ∧ Below w.heap.size w w' := by
 have h16 := hp.n16
 have h1 := hp.n1
 have hQ : QAt w base 3 a.ck (c.ck.map (Value.int .i64)) := h.at_ .nums
 have k11 := h.cluB.cell 11
 simp at k11
 obtain ⟨nd, hnd⟩ : ∃ nd, p.nd.toNat = nd := ⟨_, rfl⟩
 rw [hnd] at hlen ⊢
 have hnd1 : 0 < nd := by omega
 have hgl := h.cluB.lt
 obtain ⟨G, hG⟩ : ∃ G, a.g = G := ⟨_, rfl⟩
 obtain ⟨v, hv⟩ : ∃ v, a.ck = v := ⟨_, rfl⟩
 rw [hv] at k11 hQ
 rw [hG] at k11 hgl ⊢
 obtain ⟨zs, hzs⟩ : ∃ zs, c.ck = zs := ⟨_, rfl⟩
 rw [hzs] at hQ hlen ⊢
 obtain ⟨ao, cp, e, -⟩ := hQ.shape
 rw [List.length_map, hlen] at e
 subst e
 have HQ := hide (hQ.alloc (.cells #[] 3)); have HL := hide hlen
 have HE1 : Hid ((w.alloc (.cells #[] 3)).ownsRow w.heap.size 3 1 (.slice (some ⟨w.heap.size, 0, none⟩) 0 0) 0 []) := hide (own_empty (Blk.new w 3 #[]) (Nat.le_refl _))
 have HLM : Hid ((∀ u ∈ zs.map (Value.int .i64), u.oneCell' = true) ∧ 0 + (zs.map (Value.int .i64)).length ≤ maxLen ∧ (0 + (zs.map (Value.int .i64)).length) * 8 ≤ 140737488355328 ∧ w.heap.size ≤ (w.alloc (.cells #[] 3)).heap.size) := hide ⟨by intro u hu; obtain ⟨q, _, rfl⟩ := List.mem_map.1 hu; rfl, by simp [maxLen]; omega, by simp; omega, by simp⟩
 obtain ⟨i0, hi, hz0, hz1, hz2⟩ := en_info_parts ar_info
 clear h hQ hlen hnd hG hv hzs
 go_enter Tryz.func96, Tryz.ntmps96
 go_wp2_with (at_builtin; go_must (refine wpList_append_all _ rfl (.tmp 3) (.tmp 7) _ rfl w.heap.size 3 i0 _ 8 Tryz.underlying33 hi hz0 hz1 hz2 rfl (.slice (some ⟨w.heap.size, 0, none⟩) 0 0) 0 [] rfl (by exact HE1.out) base _ (zs.map (Value.int .i64)) rfl (by exact HQ.out) HLM.out.1 HLM.out.2.1 HLM.out.2.2.1 HLM.out.2.2.2 ?_); intro v8 w8 hown hg hat; rw [Nat.zero_add, List.nil_append, List.length_map, HL.out] at hown; have HO8 := hide hown; have HG8 := hide hg; clear hown hg hat)
 obtain ⟨gk, cpk, cur, rfl, -, -, -, -, -, -⟩ := block_of_own HO8.out hnd1
 go_ret
 refine ⟨⟨_, _, rfl, isl_of_own HO8.out HL.out⟩, ?_⟩
 exact ((Below.refl w.heap.size w).alloc (Nat.le_refl _) (.cells #[] 3)).grown HG8.out (by simp) (fun k e => by cases e; exact Nat.le_refl _)
theorem members_out (h : ClAt w base a (fullN p) p P fy c) (i : Int) (hi : p.nd ≤ i) (h0 : 0 ≤ i) :
 Calls Tryz.prog 99 #[.pointer (some ⟨a.g, 0, none⟩), .int .i64 i] w fun e w' => e = .returned (.tuple #[.int .i64 0, .bool false, errV 2]) ∧ w' = w := by
 have k0 := h.cluB.cell 0
 simp at k0
 clear h
 have d1 : decide (i < 0) = false := decide_eq_false (by omega)
 have d2 : decide (p.nd ≤ i) = true := decide_eq_true hi
 go_enter Tryz.func99, Tryz.ntmps99
 go_wp2_with fail
 exact bodyPost_ret (v := .tuple #[.int .i64 0, .bool false, .iface 61 (.int .i64 2)]) (by simp [results, Tryz.results99, go_sem]) rfl ⟨rfl, rfl⟩
theorem members_neg (h : ClAt w base a (fullN p) p P fy c) (i : Int) (h0 : i < 0) :
 Calls Tryz.prog 99 #[.pointer (some ⟨a.g, 0, none⟩), .int .i64 i] w fun e w' => e = .returned (.tuple #[.int .i64 0, .bool false, errV 2]) ∧ w' = w := by
 clear h
 have d1 : decide (i < 0) = true := decide_eq_true h0
 go_enter Tryz.func99, Tryz.ntmps99
 go_wp2_with fail
 exact bodyPost_ret (v := .tuple #[.int .i64 0, .bool false, .iface 61 (.int .i64 2)]) (by simp [results, Tryz.results99, go_sem]) rfl ⟨rfl, rfl⟩
set_option maxRecDepth 100000 in
set_option maxHeartbeats 4000000 in
theorem members_of (h : ClAt w base a (fullN p) p P fy c) (hp : PlOk p) (i : Nat) (hi : i < p.nd.toNat) :
 Calls Tryz.prog 99 #[.pointer (some ⟨a.g, 0, none⟩), .int .i64 i] w fun e w' => e = .returned (.tuple #[.int .i64 ((c.mm i).m : Nat), .bool (c.mm i).fz, .nilIface]) ∧ Below w.heap.size w w' := by
 have h16 := hp.n16
 have k0 := h.cluB.cell 0
 have k12 := h.cluB.cell 12
 simp at k0 k12
 obtain ⟨bn, on, cpn, kA, kN⟩ := h.memC rfl (M := p.nd.toNat) rfl hi
 have hb : Blk w (a.gm i) 261 (nodeC i p.nd.toNat (c.mm i).m (c.mm i).gd (c.mm i).bd (c.mm i).fz) := by
  have := h.at_ (.mem i)
  simpa [shape, Ob.At, fullN, hi] using this
 have HMB := hide (fun q => members_in (a.gm i) i p.nd.toNat (c.mm i).m (c.mm i).gd (c.mm i).bd (c.mm i).fz (w.drewN q) (hb.drewN q))
 have HFZ := hide (fun q => frozen_in (a.gm i) i p.nd.toNat (c.mm i).m (c.mm i).gd (c.mm i).bd (c.mm i).fz (w.drewN q) (hb.drewN q))
 obtain ⟨nd, hnd⟩ : ∃ nd, p.nd.toNat = nd := ⟨_, rfl⟩
 have hpn : p.nd = (nd : Int) := by have := hp.n1; omega
 rw [hnd] at kA hi
 rw [hpn] at k0
 have h16' : nd ≤ 16 := by omega
 obtain ⟨G, hG⟩ : ∃ G, a.g = G := ⟨_, rfl⟩
 obtain ⟨gm, hgm⟩ : ∃ gm, a.gm i = gm := ⟨_, rfl⟩
 obtain ⟨fz, hfz⟩ : ∃ fz, (c.mm i).fz = fz := ⟨_, rfl⟩
 obtain ⟨m, hm⟩ : ∃ m, (c.mm i).m = m := ⟨_, rfl⟩
 rw [hG] at kA k0 ⊢
 rw [hgm] at kN HMB HFZ
 rw [hfz] at HFZ ⊢
 rw [hm] at HMB ⊢
 clear h k12 hb hnd hpn h16 hG hgm hfz hm
 go_enter Tryz.func99, Tryz.ntmps99
 go_wp2_with fail
 go_quiet ((first
  | (go_at_call 132; with_reducible exact Calls.quiet_of_same (HMB.out _))
  | (go_at_call 133; with_reducible exact Calls.quiet_of_same (HFZ.out _))))
 go_wp2_with fail
 exact bodyPost_ret (v := .tuple #[.int .i64 (m : Nat), .bool fz, .nilIface]) (by simp [results, Tryz.results99, go_sem]) rfl ⟨rfl, below_drewN (Below.refl _ _) _⟩
end
end
end
section
open Go Go.RowKit
theorem own_cell3 {w : World} {base n g i : Nat} {cp : Nat} {e : TypeId} {xs : List Value} (h : w.ownsRow base e 3 (.slice (some ⟨g, 0, none⟩) n cp) n xs) (hi : i < n * 3) : w.cell? ⟨g, i, none⟩ = xs[i]? := by
 rcases h.2 with ⟨h1, _⟩ | ⟨g2, cap, cur, hv, hb, hg, hnc, hm, hs, ht⟩
 ·cases h1
 ·cases hv
  rw [cell_of_row w g i cur e (0, 0) hg, ← ht, List.getElem?_take, if_pos hi]
  simp
def lsV : List Ls → List Value
 | [] => []
 | x :: l => .int .i64 x.s :: .int .i64 x.c :: .int .i64 x.t :: lsV l
def rgV : List Rg → List Value
 | [] => []
 | x :: l => .int .i64 x.n :: .int .i64 x.o :: .int .i64 x.i :: rgV l
theorem lsV_snoc (x : Ls) : ∀ l, lsV (l ++ [x]) = lsV l ++ [.int .i64 x.s, .int .i64 x.c, .int .i64 x.t]
 | [] => rfl
 | y :: l => by rw [List.cons_append, lsV, lsV_snoc x l]; rfl
theorem rgV_snoc (x : Rg) : ∀ l, rgV (l ++ [x]) = rgV l ++ [.int .i64 x.n, .int .i64 x.o, .int .i64 x.i]
 | [] => rfl
 | y :: l => by rw [List.cons_append, rgV, rgV_snoc x l]; rfl
theorem lsV_at : ∀ {l : List Ls} {j : Nat} {x : Ls}, l[j]? = some x → (lsV l)[j * 3]? = some (.int .i64 x.s) ∧ (lsV l)[j * 3 + 1]? = some (.int .i64 x.c) ∧ (lsV l)[j * 3 + 2]? = some (.int .i64 x.t)
 | [], j, x, h => by simp at h
 | y :: l, 0, x, h => by
  simp at h
  subst h
  exact ⟨rfl, rfl, rfl⟩
 | y :: l, j + 1, x, h => by
  have ih := lsV_at (l := l) (j := j) (x := x) (by simpa using h)
  rw [show (j + 1) * 3 = j * 3 + 3 by omega]
  exact ih
theorem rgV_at : ∀ {l : List Rg} {j : Nat} {x : Rg}, l[j]? = some x → (rgV l)[j * 3]? = some (.int .i64 x.n) ∧ (rgV l)[j * 3 + 1]? = some (.int .i64 x.o) ∧ (rgV l)[j * 3 + 2]? = some (.int .i64 x.i)
 | [], j, x, h => by simp at h
 | y :: l, 0, x, h => by
  simp at h
  subst h
  exact ⟨rfl, rfl, rfl⟩
 | y :: l, j + 1, x, h => by
  have ih := rgV_at (l := l) (j := j) (x := x) (by simpa using h)
  rw [show (j + 1) * 3 = j * 3 + 3 by omega]
  exact ih
theorem own_loss {w : World} {b n : Nat} {e : TypeId} {v : Value} {l : List Ls} (h : w.ownsRow b e 3 v n (lsV l)) (hn : l.length = n) : ∃ A cp, v = .slice A n cp ∧ LossAt w A l ∧ ∀ x, A = some x → b ≤ x.block ∧ x.block < w.heap.size := by
 rcases h.2 with ⟨rfl, h2⟩ | ⟨g, cap, cur, rfl, hg, hh, _⟩
 ·subst h2
  exact ⟨none, 0, rfl, fun j x hj => by rw [List.eq_nil_of_length_eq_zero hn] at hj; simp at hj, fun x e => by cases e⟩
 ·refine ⟨some ⟨g, 0, none⟩, cap, rfl, fun j x hj => ?_, fun x e => by cases e; exact ⟨hg, by
   rcases Nat.lt_or_ge g w.heap.size with h1 | h1
   ·exact h1
   ·rw [Array.getElem?_eq_none h1] at hh; cases hh⟩⟩
  have hjl : j < n := by have := (List.getElem?_eq_some_iff.1 hj).1; omega
  obtain ⟨a1, a2, a3⟩ := lsV_at hj
  exact ⟨g, 0, rfl, by rw [own_cell3 h (by omega), Nat.zero_add]; exact a1, by rw [own_cell3 h (by omega), Nat.zero_add]; exact a2, by rw [own_cell3 h (by omega), Nat.zero_add]; exact a3⟩
theorem own_read {w : World} {b n : Nat} {e : TypeId} {v : Value} {l : List Rg} (h : w.ownsRow b e 3 v n (rgV l)) (hn : l.length = n) : ∃ A cp, v = .slice A n cp ∧ RgAt w A l ∧ ∀ x, A = some x → b ≤ x.block ∧ x.block < w.heap.size := by
 rcases h.2 with ⟨rfl, h2⟩ | ⟨g, cap, cur, rfl, hg, hh, _⟩
 ·subst h2
  exact ⟨none, 0, rfl, fun j x hj => by rw [List.eq_nil_of_length_eq_zero hn] at hj; simp at hj, fun x e => by cases e⟩
 ·refine ⟨some ⟨g, 0, none⟩, cap, rfl, fun j x hj => ?_, fun x e => by cases e; exact ⟨hg, by
   rcases Nat.lt_or_ge g w.heap.size with h1 | h1
   ·exact h1
   ·rw [Array.getElem?_eq_none h1] at hh; cases hh⟩⟩
  have hjl : j < n := by have := (List.getElem?_eq_some_iff.1 hj).1; omega
  obtain ⟨a1, a2, a3⟩ := rgV_at hj
  exact ⟨g, 0, rfl, by rw [own_cell3 h (by omega), Nat.zero_add]; exact a1, by rw [own_cell3 h (by omega), Nat.zero_add]; exact a2, by rw [own_cell3 h (by omega), Nat.zero_add]; exact a3⟩
end
section
open Go Go.RowKit
def nlF : List UInt8 → List (List UInt8)
 | [] => [[]]
 | x :: l => if x = 10 then [] :: nlF l else match nlF l with
  | [] => [[x]]
  | y :: r => (x :: y) :: r
theorem nlF_cons : ∀ l : List UInt8, ∃ y r, nlF l = y :: r
 | [] => ⟨_, _, rfl⟩
 | x :: l => by
  unfold nlF
  split
  ·exact ⟨_, _, rfl⟩
  ·obtain ⟨y, r, h⟩ := nlF_cons l
   rw [h]
   exact ⟨_, _, rfl⟩
theorem nlF_app (b : List UInt8) : ∀ a : List UInt8, nlF (a ++ 10 :: b) = nlF a ++ nlF b
 | [] => by simp [nlF]
 | x :: a => by
  have ih := nlF_app b a
  obtain ⟨y, r, h⟩ := nlF_cons a
  rw [List.cons_append]
  by_cases hx : x = 10
  ·subst hx
   rw [nlF, if_pos rfl, ih, nlF, if_pos rfl]
   rfl
  ·rw [nlF, if_neg hx, ih, nlF, if_neg hx, h]
   rfl
theorem nlF_no : ∀ {l : List UInt8}, (10 : UInt8) ∉ l → nlF l = [l]
 | [], _ => rfl
 | x :: l, h => by
  have h1 : ¬ x = 10 := fun e => h (by simp [e])
  rw [nlF, if_neg h1, nlF_no (fun e => h (by simp [e]))]
section
variable {D : Type} (f : D → ByteArray → ByteArray × D)
def runG (d : D) : List ByteArray → List UInt8
 | [] => []
 | s :: l => (f d s).1.data.toList ++ 10 :: runG (f d s).2 l
def endG (d : D) : List ByteArray → D
 | [] => d
 | s :: l => endG (f d s).2 l
theorem runG_app (ys : List ByteArray) : ∀ (xs : List ByteArray) (d : D), runG f d (xs ++ ys) = runG f d xs ++ runG f (endG f d xs) ys
 | [], d => rfl
 | x :: xs, d => by
  rw [List.cons_append, runG, runG_app ys xs, runG, endG]
  simp
end
theorem trim_nl (a : List UInt8) : Lib.trimSuffix (a ++ [10]) [10] = a := by
 unfold Lib.trimSuffix Lib.hasSuffix
 simp
theorem trim_two (a b : List UInt8) : ∃ c, nlF (Lib.trimSuffix (a ++ 10 :: b) [10]) = nlF a ++ c := by
 rcases List.eq_nil_or_concat b with rfl | ⟨b', x, rfl⟩
 ·exact ⟨[], by rw [trim_nl]; simp⟩
 ·by_cases hx : x = 10
  ·subst hx
   have : a ++ 10 :: (b' ++ [10]) = (a ++ 10 :: b') ++ [10] := by simp
   rw [show b'.concat 10 = b' ++ [10] by simp, this, trim_nl, nlF_app]
   exact ⟨_, rfl⟩
  ·have : Lib.trimSuffix (a ++ 10 :: (b' ++ [x])) [10] = a ++ 10 :: (b' ++ [x]) := by
    unfold Lib.trimSuffix
    rw [if_neg]
    intro h
    unfold Lib.hasSuffix at h
    have h2 : [10] <:+ (a ++ 10 :: b') ++ [x] := by simpa [List.isSuffixOf_iff_suffix] using h
    obtain ⟨t, ht⟩ := h2
    have := (List.append_inj' ht rfl).2
    simp at this
    exact hx this.symm
   rw [show b'.concat x = b' ++ [x] by simp, this, nlF_app]
   exact ⟨_, rfl⟩
theorem nl_index_no {l : List UInt8} (h : Lib.indexByte l 10 = -1) : nlF l = [l] := nlF_no (fun hm => by
 obtain ⟨k, hk, e⟩ := List.mem_iff_getElem.1 hm
 exact Lib.indexByte_none h k (by rw [List.getElem?_eq_getElem hk, e]))
theorem nl_index {l : List UInt8} {m : Nat} (h : Lib.indexByte l 10 = m) : m < l.length ∧ nlF l = l.take m :: nlF (l.drop (m + 1)) := by
 obtain ⟨h1, h2⟩ := Lib.indexByte_some h
 obtain ⟨hm, e⟩ := List.getElem?_eq_some_iff.1 h1
 refine ⟨hm, ?_⟩
 have h3 : l = l.take m ++ 10 :: l.drop (m + 1) := by
  conv => lhs; rw [← List.take_append_drop m l, List.drop_eq_getElem_cons hm, e]
 have h4 : (10 : UInt8) ∉ l.take m := fun hx => by
  obtain ⟨k, hk, e2⟩ := List.mem_iff_getElem.1 hx
  rw [List.length_take] at hk
  refine h2 k (by omega) ?_
  rw [List.getElem_take] at e2
  rw [List.getElem?_eq_getElem (by omega), e2]
 conv => lhs; rw [h3]
 rw [nlF_app, nlF_no h4]
 rfl
def linesF (s : List UInt8) : List ByteArray := (nlF (Lib.trimSuffix s [10])).map fun l => ⟨l.toArray⟩
theorem lines_pre {D : Type} (f : D → ByteArray → ByteArray × D) (d : D) (a b : List UInt8) : ∃ r, runG f d (linesF (a ++ 10 :: b)) = runG f d (linesF (a ++ [10])) ++ r := by
 obtain ⟨c, hc⟩ := trim_two a b
 unfold linesF
 rw [hc, trim_nl, List.map_append, runG_app]
 exact ⟨_, rfl⟩
end
end Go.Proofs.YtideefjnlakciaaGreatDoor
