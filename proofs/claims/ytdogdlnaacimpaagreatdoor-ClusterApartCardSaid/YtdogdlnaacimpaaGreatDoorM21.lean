/- The contracts of cluster.Cluster's methods Put, Receive and Play; conditions: the cluster and the round lie in memory; errors.errorType holds what start-up lays there. -/
import Derived.Test.YtdogdlnaacimpaaGreatDoorM20
import Derived.Test.YtdogdlnaacimpaaGreatDoorM12
import Derived.Test.YtdogdlnaacimpaaGreatDoorM13
import Derived.Test.YtdogdlnaacimpaaGreatDoorM17
import Derived.Test.YtdogdlnaacimpaaGreatDoorM02
import Derived.Test.YtdogdlnaacimpaaGreatDoorM19
import Derived.Test.YtdogdlnaacimpaaGreatDoorCards
import Derived.Test.YtdogdlnaacimpaaGreatDoorTie
import Derived.SevenTiedAt
import Derived.ChangeVars
import Derived.JoinedOf
import Derived.RowKit
import Derived.RowKitTokens
import Derived.LaidLaws
import Derived.LaidHandle
import Derived.Stop.Joined
import Derived.Lib.SmallJoins
set_option linter.unusedVariables false
set_option linter.unusedSimpArgs false
namespace Go.Proofs.YtdogdlnaacimpaaGreatDoor
open Go Go.RowKit
attribute [local irreducible] slotsF setsF

section
variable {w w1 : World} {base : Nat} {S S0 : Ix → Ob}
theorem Objs.swap (h : Objs w base S) (x : Ix) (o : Ob) (ha : o.At w base) (hf : ∀ k, k ∈ o.foot → base ≤ k ∧ k < w.heap.size ∧ ¬ Fmy S k) : Objs w base (putO S x o) := by
  refine ⟨fun y => ?_, fun y k hm => ?_, fun y z k hy hz => ?_⟩
  · by_cases e : y = x
    · subst e; rw [putO_self]; exact ha
    · rw [putO_ne _ e]; exact h.at_ y
  · by_cases e : y = x
    · subst e; rw [putO_self] at hm; exact ⟨(hf k hm).1, (hf k hm).2.1⟩
    · rw [putO_ne _ e] at hm; exact h.own y k hm
  · by_cases e : y = x
    · by_cases e2 : z = x
      · rw [e, e2]
      · subst e
        rw [putO_self] at hy
        rw [putO_ne _ e2] at hz
        exact absurd ⟨z, hz⟩ (hf k hy).2.2
    · by_cases e2 : z = x
      · subst e2
        rw [putO_self] at hz
        rw [putO_ne _ e] at hy
        exact absurd ⟨y, hy⟩ (hf k hz).2.2
      · rw [putO_ne _ e] at hy
        rw [putO_ne _ e2] at hz
        exact h.sep y z k hy hz
end
/-- New clocks, and a round more. -/
theorem Objs.finish {w w1 : World} {base : Nat} {a a0 : Ad} {n : Cn} {p : Pl} {P : Sv3} {fy : Nat} {c c0 : Cl} {v : Value} {zs : List Int} {rd : Int} (h : ClAt w1 base a n p P fy c) (hk : KeptS w w1 (shape a0 n p P fy c0) (shape a n p P fy c)) (hg : a.g = a0.g) (hb : base ≤ w1.heap.size) (hq : QAt w1 base 3 v (zs.map (Value.int .i64))) (hv : ∀ k, v.ownBlock = some k → base ≤ k ∧ k < w1.heap.size ∧ w.heap.size ≤ k ∧ ¬ Fmy (shape a n p P fy c) k) :
    ClTo w base a0 n p P fy c0 ((w1.setCell ⟨a.g, 11, none⟩ v).setCell ⟨a.g, 16, none⟩ (.int .i64 rd)) { c with ck := zs, rd := rd } := by
  have h1 := h.swap .nums (.arr 3 v (zs.map (Value.int .i64))) hq (fun k hm => by
    have := hv k (by simpa [Ob.foot] using hm)
    exact ⟨this.1, this.2.1, this.2.2.2⟩)
  have hx : putO (shape a n p P fy c) .nums (.arr 3 v (zs.map (Value.int .i64))) .clu = .blk a.g 109 (clC p.nd p.fa p.sk p.ji p.dr p.rd P.s P.l p.fr P.q fy a.ck a.mm a.sd a.tk a.pr c.rd) := by rw [putO_ne _ (by simp)]; rfl
  have h2 := h1.setBlk .clu hx 11 v hb
  have hx2 : putO (putO (shape a n p P fy c) .nums (.arr 3 v (zs.map (Value.int .i64)))) .clu (.blk a.g 109 ((clC p.nd p.fa p.sk p.ji p.dr p.rd P.s P.l p.fr P.q fy a.ck a.mm a.sd a.tk a.pr c.rd).setIfInBounds 11 v)) .clu = .blk a.g 109 ((clC p.nd p.fa p.sk p.ji p.dr p.rd P.s P.l p.fr P.q fy a.ck a.mm a.sd a.tk a.pr c.rd).setIfInBounds 11 v) := putO_self _ _
  have h3 := h2.setBlk .clu hx2 16 (.int .i64 rd) (by simpa [World.setCell] using hb)
  have e : putO (putO (putO (shape a n p P fy c) .nums (.arr 3 v (zs.map (Value.int .i64)))) .clu (.blk a.g 109 ((clC p.nd p.fa p.sk p.ji p.dr p.rd P.s P.l p.fr P.q fy a.ck a.mm a.sd a.tk a.pr c.rd).setIfInBounds 11 v))) .clu (.blk a.g 109 (((clC p.nd p.fa p.sk p.ji p.dr p.rd P.s P.l p.fr P.q fy a.ck a.mm a.sd a.tk a.pr c.rd).setIfInBounds 11 v).setIfInBounds 16 (.int .i64 rd))) = shape { a with ck := v } n p P fy { c with ck := zs, rd := rd } := by
    funext y
    cases y <;> rfl
  rw [e] at h3
  refine ⟨{ a with ck := v }, hg, h3, hk.os, hk.tape, hk.output, by simpa [World.setCell] using hk.size, fun i hi hn => ?_, ?_⟩
  · have hi2 : i ≠ a.g := by
      rintro rfl
      exact hn ⟨.clu, by rw [hg]; simp [shape, Ob.foot]⟩
    exact ((Below.heap_setCell _ _ _ i hi2).trans (Below.heap_setCell _ _ _ i hi2)).trans (hk.block i hi hn)
  · rintro k ⟨y, hy⟩
    by_cases e2 : y = .nums
    · subst e2
      exact .inr (hv k (by simpa [shape, Ob.foot] using hy)).2.2.1
    · refine hk.fam k ⟨y, ?_⟩
      cases y <;> first | exact hy | exact absurd rfl e2
theorem slotsF_zero (p : Pl) (fy : Nat) (r : Rn) (c : Cl) : slotsF p fy r c 0 = c := by unfold slotsF; rfl
theorem slotsF_succ (p : Pl) (fy : Nat) (r : Rn) (c : Cl) (k : Nat) : slotsF p fy r c (k + 1) = slotF p fy r k (slotsF p fy r c k) := by
  conv => lhs; unfold slotsF
set_option maxRecDepth 100000 in
set_option maxHeartbeats 4000000 in
theorem play_any {base : Nat} {a : Ad} {p : Pl} {P : Sv3} {fy : Nat} {c : Cl} {N : Nat} (w w0 : World) (AS AL : Option Addr) (cs cl : Nat) (hPS : P.s = .slice AS p.sl.length cs) (hP : P.l = .slice AL p.lk.length cl) (h : ClAt w base a (fullN p) p P fy c) (hp : PlOk p) (hc : ClOk p N c) (hN : N ≤ 700000) (hr : c.rd ≤ 100) (hfy : fy < 65536) (hS : SlotsAt w0 AS p.sl.length p.sl) (hL : LinksAt w0 AL p.lk.length p.lk) (hB0 : Below base w0 w) (h0 : w0.heap.size ≤ base) (hbase : base ≤ w.heap.size) (hE : ErrT w0)
    (A : Option Addr) (c1 : Nat) (r : Rn) (hA : LossAt w0 A r.ls) (hm1 : r.ls.length ≤ 9223372036854775807) (AR : Option Addr) (c2 : Nat) (hAR : RgAt w0 AR r.rg) (hm2 : r.rg.length ≤ 9223372036854775807) (B : Option Addr) (c3 : Nat) (hB : IsL w0 B r.dr) (hm3 : r.dr.length ≤ 9223372036854775807) (AM : Option Addr) (c4 : Nat) (hM : IsL w0 AM r.md) (hm4 : r.md.length ≤ 9223372036854775807) :
    Calls Tryz.prog 9 #[.pointer (some ⟨a.g, 0, none⟩), .agg #[.slice A r.ls.length c1, .slice AR r.rg.length c2, .slice B r.dr.length c3, .slice AM r.md.length c4]] w fun e w' => e = .returned (errV (playE p fy r c)) ∧ ClTo w base a (fullN p) p P fy c w' (playF p fy r c) := by
  obtain ⟨w1, hw1⟩ : ∃ w1, w.alloc (.cells #[.slice A r.ls.length c1, .slice AR r.rg.length c2, .slice B r.dr.length c3, .slice AM r.md.length c4] 35) = w1 := ⟨_, rfl⟩
  have hBW : Below w.heap.size w w1 := by rw [← hw1]; exact (Below.refl w.heap.size w).alloc (Nat.le_refl _) _
  have hX : Blk w1 w.heap.size 35 #[.slice A r.ls.length c1, .slice AR r.rg.length c2, .slice B r.dr.length c3, .slice AM r.md.length c4] := by rw [← hw1]; exact Blk.new w _ _
  have HKW := hide (KeptS.of_below (S := shape a (fullN p) p P fy c) hBW)
  have HNX := hide (h.not_new (Nat.le_refl w.heap.size))
  have Hh := hide (h.below hBW)
  have HB0 := hide (HKW.out.old h hB0 hbase)
  have hbase1 := Nat.le_trans hbase hBW.size
  obtain ⟨G, hG⟩ : ∃ G, a.g = G := ⟨_, rfl⟩
  have HSE := hide (sets_any w1 w0 Hh.out hp hc hfy HB0.out h0 hbase1 hE r (.slice A r.ls.length c1) AR c2 hAR hm2 B c3 hB hm3 (.slice AM r.md.length c4))
  rw [hG] at HSE ⊢
  obtain ⟨x0, x1, x2, x3⟩ := hX.cells4
  have hsz1 : w.heap.size < w1.heap.size := hX.lt
  have hsl32 := hp.sl
  have HW1 := hide hw1; have HX := hide hX; have HP := hide hp; have HOK := hide hc; have HL := hide hL; have HS := hide hS; have HPL := hide hP; have HPS := hide hPS; have HG := hide hG; have HA := hide hA; have HIM := hide hM
  clear hw1 hX h hP hPS hG hL hS hB0 hBW hA hM hc hp hAR hB hE
  go_enter Tryz.func9, Tryz.ntmps9
  go_wp2_with fail
  rw [HW1.out]
  refine HSE.out.mono ?_
  rintro e w2 (⟨hwb, rfl, hT⟩ | ⟨hwb, g, cp, rfl, ⟨hA2, hK2⟩, hgs, hown⟩)
  · have HWB := hide hwb; have HT := hide hT
    clear hwb hT
    go_wp2_with fail
    go_ret
    exact ⟨by unfold playE; rw [HWB.out]; rfl, by unfold playF; rw [HWB.out, if_pos rfl]; exact ClTo.trans HKW.out rfl HT.out⟩
  · obtain ⟨nd, hnd⟩ : ∃ nd, p.nd.toNat = nd := ⟨_, rfl⟩
    rw [hnd] at hown ⊢
    have HND := hide hnd
    have HPF : Hid (playF p fy r c = { slotsF p fy r c p.sl.length with ck := setsF p fy c.ck r, rd := c.rd + 1 } ∧ playE p fy r c = 0) := hide (by unfold playF playE; rw [hwb, if_neg (by decide), if_neg (by decide)]; exact ⟨rfl, rfl⟩)
    have HNG := hide (Hh.out.not_new hgs)
    have hgl : g < w2.heap.size := (hown.lt g rfl).2
    have HOW := hide hown; have HA2 := hide hA2; have HK2 := hide hK2
    have HX2 := hide (hK2.blk HX.out HNX.out)
    have hb2 := Nat.le_trans hbase1 hK2.size
    have HB2 := hide (hK2.old Hh.out HB0.out hbase1)
    have HC2 := hide (ClTo.refl hA2 (Below.refl w2.heap.size w2))
    have k6 := (hA2.cluC HG.out).2.2.2.2.2.2.1
    obtain ⟨ns, hns⟩ : ∃ ns, p.sl.length = ns := ⟨_, rfl⟩
    rw [HPS.out, hns] at k6
    rw [hns] at hsl32
    have HNS := hide hns
    clear hwb hA2 hK2 hown hnd hns x0 x1 x2 x3
    go_wp2_with fail
    clear k6
    go_loopw [23] (fun i wr => ∃ k : Nat, k ≤ ns ∧ i = .int .i64 k ∧ Hid (Blk wr w.heap.size 35 #[.slice A r.ls.length c1, .slice AR r.rg.length c2, .slice B r.dr.length c3, .slice AM r.md.length c4]) ∧ Hid (wr.ownsRow w1.heap.size 3 1 (.slice (some ⟨g, 0, none⟩) nd cp) nd ((setsF p fy c.ck r).map (Value.int .i64))) ∧ Hid (ClTo w2 base a (fullN p) p P fy c wr (slotsF p fy r c k))) (fun i _ => ns - (intOf i).toNat)
    case atStart => exact ⟨0, by omega, rfl, HX2, HOW, hide (by rw [slotsF_zero]; exact HC2.out)⟩
    case round =>
      obtain ⟨k, hk, rfl, HXr, HOr, HC⟩ := hrel
      obtain ⟨a3, hg3, hA3, hK3⟩ := HC.out
      have hgb : ¬ Fmy (shape a3 (fullN p) p P fy (slotsF p fy r c k)) g := hK3.not hgl HNG.out
      have hxb : ¬ Fmy (shape a3 (fullN p) p P fy (slotsF p fy r c k)) w.heap.size := hK3.not HX2.out.lt HNX.out
      have hb3 := Nat.le_trans hb2 hK3.size
      by_cases hlt : k < ns
      · obtain ⟨s, hs⟩ : ∃ s, p.sl[k]? = some s := ⟨_, List.getElem?_eq_getElem (by rw [HNS.out]; exact hlt)⟩
        have HSL := hide (slot_any wr w0 AS AL cs cl HPS.out HPL.out hA3 HP.out (slotsF_ok HOK.out HP.out fy r k) (by omega) (by rw [(slotsF_rd p fy r c k).1]; exact hr) hfy HS.out HL.out (hK3.old HA2.out HB2.out hb2) h0 hb3 A c1 r HA.out hm1 (.slice AR r.rg.length c2) (.slice B r.dr.length c3) AM c4 HIM.out hm4 k s hs)
        rw [hg3, HG.out] at HSL
        have HSS : Hid (slotsF p fy r c (k + 1) = slotF p fy r k (slotsF p fy r c k)) := hide (slotsF_succ p fy r c k)
        obtain ⟨x0, x1, x2, x3⟩ := HXr.out.cells4
        have HXB := hide hxb; have HGB := hide hgb; have HK3 := hide hK3; have HA3 := hide hA3
        clear hA3 hK3 hgb hxb hs
        go_wp2_with fail
        refine HSL.out.mono ?_
        rintro e w9 ⟨rfl, a4, hg4, hA4, hK4⟩
        have HX9 := hide (hK4.blk HXr.out HXB.out)
        have HO9 := hide (own_keepH HOr.out (w' := w9) (fun q e => by cases e; exact hK4.block g (HOr.out.lt g rfl).2 HGB.out))
        have HC9 : Hid (ClTo w2 base a (fullN p) p P fy c w9 (slotsF p fy r c (k + 1))) := hide (by rw [HSS.out]; exact ⟨a4, hg4.trans hg3, hA4, HK3.out.trans hK4⟩)
        clear hA4 hK4 x0 x1 x2 x3
        go_wp2_with fail
        go_roundw
        case rel => exact ⟨k + 1, by omega, by go_num, HX9, HO9, HC9⟩
        case measure => simp [intOf]; omega
      · obtain rfl : k = ns := by omega
        have hcb := hA3.cluB
        have hga : a3.g = G := hg3.trans HG.out
        rw [hga] at hcb
        have k11 := hcb.cell 11
        have f11 := hcb.frozen 11
        have k16 := hcb.cell 16
        have f16 := hcb.frozen 16
        simp at k11 k16
        have hrd : (slotsF p fy r c k).rd = c.rd := (slotsF_rd p fy r c k).1
        rw [hrd] at k16
        have hrd0 := HOK.out.rd
        have HFI := hide (Objs.finish (v := .slice (some ⟨g, 0, none⟩) nd cp) (zs := setsF p fy c.ck r) (rd := c.rd + 1) hA3 ((HKW.out.trans HK2.out).trans hK3) hg3 hb3 (QAt.of_own HOr.out hbase1) (fun q e => by cases e; exact ⟨Nat.le_trans hbase1 hgs, (HOr.out.lt g rfl).2, Nat.le_trans (Nat.le_of_lt hsz1) hgs, hgb⟩))
        rw [hga] at HFI
        clear hA3 hK3 hcb hgb hxb
        go_wp2_with fail
        go_ret
        exact ⟨by rw [HPF.out.2]; simp [errV], by rw [HPF.out.1, HNS.out]; exact HFI.out⟩
end Go.Proofs.YtdogdlnaacimpaaGreatDoor
/- What a fact of the laws plays, in plain words: two nodes, whose clocks come together. -/
namespace Go.Proofs.YtdogdlnaacimpaaGreatDoor
open Go Go.RowKit
def p00 : Pl := ⟨2, 0, 10, 0, 0, 100, [⟨0, 5, 9⟩], [⟨0, 2, 1, 1⟩], 1, []⟩
def r00 : Rn := ⟨[], [], [], []⟩
def dX : ByteArray := ⟨#[120]⟩
theorem chk00 : chk p00 = (0, -1) := by decide
def c00 : Cl := clPut 0 ⟨0, 2, 1, 1⟩ dX (startF p00 [0, 8])
theorem c00_eq : clPut 0 ⟨0, 2, 1, 1⟩ dX (startF p00 [0, 8]) = c00 := rfl
theorem hon00 : honL 0 [4, 4] 2 = [4, 4] := by decide
theorem put00 : putE dX.size ((startF p00 [0, 8]).sd 0).q.length 1 = 0 := by decide
theorem srt_two {a b : Int} (h : a ≤ b) : srt [a, b] = [a, b] := (srt_eq (List.Perm.refl _) (by simp [h])).symm
theorem sets00 : setsF p00 0 [0, 8] r00 = [4, 4] := by
  have h1 : srt [(0 : Int), 8] = [0, 8] := srt_two (by decide)
  have h2 : srt [(-8 : Int), 0] = [-8, 0] := srt_two (by decide)
  have e : readAll p00 0 [0, 8] [] = [[0, 8], [-8, 0]] := by decide
  have m1 : midV [(0 : Int), 8] 0 = 4 := by
    unfold midV midN
    rw [if_pos (by decide), h1]
    decide
  have m2 : midV [(-8 : Int), 0] 0 = -4 := by
    unfold midV midN
    rw [if_pos (by decide), h2]
    decide
  show driftF p00 (setL [0, 8] (readAll p00 0 [0, 8] []) 0 2) [] = [4, 4]
  rw [e]
  have e2 : setL [0, 8] [[0, 8], [-8, 0]] 0 2 = [4, 4] := by
    show [(0 : Int) + midV [0, 8] 0, 8 + midV [-8, 0] 0] = [4, 4]
    rw [m1, m2]
    decide
  rw [e2]
  decide
theorem bit00 : bitB 2 1 = true := by unfold bitB; decide
theorem play00 : playE p00 0 r00 c00 = 0 := by
  unfold playE
  rw [show c00.ck = [0, 8] from rfl, sets00]
  decide
theorem recv00 : ((playF p00 0 r00 c00).pr 0 1).q = [dX] := by
  unfold playF
  rw [show c00.ck = [0, 8] from rfl, sets00, if_neg (by decide)]
  show ((slotsF p00 0 r00 c00 1).pr 0 1).q = [dX]
  decide
theorem ck00 : (playF p00 0 r00 c00).ck = [4, 4] ∧ (playF p00 0 r00 c00).rd = 1 := by
  unfold playF
  rw [show c00.ck = [0, 8] from rfl, sets00, if_neg (by decide)]
  exact ⟨rfl, rfl⟩
theorem rd00 : c00.rd ≤ 100 := by decide
theorem ck01 : (clRecv 0 1 (playF p00 0 r00 c00)).ck = [4, 4] ∧ (clRecv 0 1 (playF p00 0 r00 c00)).rd = 1 := ck00
section
variable {p : Pl} {N : Nat} {c : Cl}
theorem clPut_ok (hp : PlOk p) (h : ClOk p N c) {k : Nat} {l : Lk} (hl : p.lk[k]? = some l) (d : ByteArray) : ClOk p N (clPut k l d c) := by
  have h1 := h.sd k
  have h2 := hp.link k l hl
  refine h.setSd k ⟨h1.1, h1.2.1, h1.2.2.1, h1.2.2.2.1, ?_, fun x hx => ?_⟩
  · show (putQ _ _ _).length ≤ 16
    unfold putQ putE
    repeat' split
    all_goals first
      | (exact absurd ‹_› (by decide))
      | exact h1.2.2.2.2.1
      | (rw [List.length_append, List.length_singleton]; omega)
  · have hx' : x ∈ putQ (c.sd k).q d (putE d.size (c.sd k).q.length l.q) := hx
    unfold putQ putE at hx'
    repeat' split at hx'
    all_goals first
      | (exact absurd ‹_› (by decide))
      | exact h1.2.2.2.2.2 x hx'
      | (rcases List.mem_append.1 hx' with h3 | h3
         · exact h1.2.2.2.2.2 x h3
         · simp at h3; subst h3; omega)
theorem clRecv_ok (h : ClOk p N c) (k i : Nat) : ClOk p (N + 1) (clRecv k i c) := by
  have h1 := h.pr k i
  refine h.setPr k i ⟨h1.1, by show (c.pr k i).lost ≤ _; omega, ?_⟩
  show (c.pr k i).q.tail.length ≤ 16
  rw [List.length_tail]; omega
end
end Go.Proofs.YtdogdlnaacimpaaGreatDoor
/- The contract of metronomekeep.played; condition: errors.errorType holds what start-up lays there. -/
namespace Go.Proofs.YtdogdlnaacimpaaGreatDoor
open Go Go.RowKit
theorem playF_ok {p : Pl} {N : Nat} {c : Cl} (hp : PlOk p) (h : ClOk p N c) (fy : Nat) (r : Rn) : ClOk p (N + 2592) (playF p fy r c) := by
  have h32 := hp.sl
  unfold playF
  split
  · exact h.mono (by omega)
  · rename_i hw
    have h1 := (slotsF_ok h hp fy r p.sl.length).mono (show N + 81 * p.sl.length ≤ N + 2592 by omega)
    have hw2 : wildB (setsF p fy c.ck r) = false := by cases e : wildB (setsF p fy c.ck r); rfl; exact absurd e hw
    have hlen : (setsF p fy c.ck r).length = p.nd.toNat := by unfold setsF; rw [driftF_len, setL_len, h.len]
    refine ⟨hlen, fun j => ?_, by show 0 ≤ c.rd + 1; have := h.rd; omega, h1.mm, h1.sd, h1.tk, h1.pr⟩
    by_cases hj : j < (setsF p fy c.ck r).length
    · unfold wildB at hw2
      rw [List.any_eq_false] at hw2
      have := hw2 _ (getD_memC hj)
      simp only [Bool.or_eq_true, decide_eq_true_eq] at this
      show _ ≤ (setsF p fy c.ck r).getD j 0 ∧ (setsF p fy c.ck r).getD j 0 ≤ _
      omega
    · show _ ≤ (setsF p fy c.ck r).getD j 0 ∧ (setsF p fy c.ck r).getD j 0 ≤ _
      rw [List.getD_eq_getElem?_getD, List.getElem?_eq_none (by omega)]
      simp
attribute [local irreducible] playF startF clPut clRecv c00 honL

set_option maxRecDepth 100000 in
theorem rounds_any {w : World} {base : Nat} {a : Ad} {n : Cn} {p : Pl} {P : Sv3} {fy : Nat} {c : Cl} (h : ClAt w base a n p P fy c) :
    Calls Tryz.prog 23 #[.pointer (some ⟨a.g, 0, none⟩)] w fun e w' => e = .returned (.int .i64 c.rd) ∧ w' = w := by
  have k16 := (h.cluC rfl).2.2.2.2.2.2.2.2
  clear h
  go_enter Tryz.func23, Tryz.ntmps23
  go_wp2_with fail
  go_ret
  exact ⟨rfl, rfl⟩
/-- How far clocks are apart, of a cluster. -/
theorem spr_any {w : World} {base : Nat} {a : Ad} {n : Cn} {p : Pl} {P : Sv3} {fy : Nat} {c : Cl} (h : ClAt w base a n p P fy c) (hp : PlOk p) (hlen : c.ck.length = p.nd.toNat) (hck : ∀ j, -274877906944 ≤ c.ck.getD j 0 ∧ c.ck.getD j 0 ≤ 274877906944) (hf : fy < 65536) (hli : (liars fy p.nd.toNat : Int) ≤ p.fa) :
    Calls Tryz.prog 11 #[.pointer (some ⟨a.g, 0, none⟩)] w fun e w' => (∃ x y, e = .returned (.int .i64 (x - y)) ∧ IsTop (honL fy c.ck p.nd.toNat) x ∧ IsLow (honL fy c.ck p.nd.toNat) y) ∧ Below w.heap.size w w' := by
  have h16 := hp.n16
  have h1 := hp.n1
  obtain ⟨b, off, cp, e⟩ := h.ckV hlen (by omega)
  have hI := h.ckI hlen e
  obtain ⟨q, hq1, hq2⟩ := some_right hp hli
  have hb := h.cluB
  rw [e, ← hlen] at hb
  have := spreadC_any a.g p.nd p.fa p.sk p.ji p.dr p.rd P.s P.l p.fr P.q a.mm a.sd a.tk a.pr c.rd fy (some ⟨b, off, none⟩) cp c.ck w hb hf hI (by omega) (by rw [hlen]; exact honL_some c.ck hq1 hq2) (fun j _ => by have := hck j; omega)
  rw [hlen] at this
  exact this
set_option maxRecDepth 100000 in
set_option maxHeartbeats 8000000 in
theorem played_any (w : World) (hE : ErrT w) : Calls Tryz.prog 7 #[] w fun e w' => e = .returned (.bool true) ∧ Below w.heap.size w w' := by
  obtain ⟨w3, hw3⟩ : ∃ w3, ((w.alloc (.cells #[.int .i64 0, .int .i64 5, .int .i64 9] 100)).alloc (.cells #[.int .i64 0, .int .i64 2, .int .i64 1, .int .i64 1] 54)).alloc (.cells #[.int .i64 0, .int .i64 8] 3) = w3 := ⟨_, rfl⟩
  have hB3 : Below w.heap.size w w3 := by rw [← hw3]; exact (((Below.refl w.heap.size w).alloc (Nat.le_refl _) _).alloc (by simp) _).alloc (by simp; omega) _
  have hS : Blk w3 w.heap.size 100 #[.int .i64 0, .int .i64 5, .int .i64 9] := by rw [← hw3]; exact ((Blk.new w _ _).alloc _).alloc _
  have hL : Blk w3 (w.heap.size + 1) 54 #[.int .i64 0, .int .i64 2, .int .i64 1, .int .i64 1] := by
    rw [← hw3]
    have h1 := (Blk.new (w.alloc (.cells #[.int .i64 0, .int .i64 5, .int .i64 9] 100)) 54 #[.int .i64 0, .int .i64 2, .int .i64 1, .int .i64 1]).alloc (.cells #[.int .i64 0, .int .i64 8] 3)
    rw [World.size_alloc] at h1
    exact h1
  have hZ : Blk w3 (w.heap.size + 1 + 1) 3 #[.int .i64 0, .int .i64 8] := by
    rw [← hw3]
    have h1 := Blk.new ((w.alloc (.cells #[.int .i64 0, .int .i64 5, .int .i64 9] 100)).alloc (.cells #[.int .i64 0, .int .i64 2, .int .i64 1, .int .i64 1] 54)) 3 #[.int .i64 0, .int .i64 8]
    rw [World.size_alloc, World.size_alloc] at h1
    exact h1
  have s2 : SlotsAt w3 (some ⟨w.heap.size, 0, none⟩) 1 p00.sl := fun j hj => by
    obtain rfl : j = 0 := by omega
    exact ⟨_, 0, rfl, ⟨0, 5, 9⟩, rfl, by simpa using hS.cell 0, by simpa using hS.cell 1, by simpa using hS.cell 2⟩
  have l2 : LinksAt w3 (some ⟨w.heap.size + 1, 0, none⟩) 1 p00.lk := fun j hj => by
    obtain rfl : j = 0 := by omega
    exact ⟨_, 0, rfl, ⟨0, 2, 1, 1⟩, rfl, by simpa using hL.cell 0, by simpa using hL.cell 1, by simpa using hL.cell 2, by simpa using hL.cell 3⟩
  have q2 : WinsAt w3 none 0 p00.wn := fun j hj => absurd hj (by omega)
  have hI : IsL w3 (some ⟨w.heap.size + 1 + 1, 0, none⟩) [0, 8] := fun j hj => by
    refine ⟨_, 0, rfl, ?_⟩
    match j, hj with
    | 0, _ => simpa using hZ.cell 0
    | 1, _ => simpa using hZ.cell 1
  have hz : ∀ j, -274877906944 ≤ ([0, 8] : List Int).getD j 0 ∧ ([0, 8] : List Int).getD j 0 ≤ 274877906944 := fun j => by
    match j with
    | 0 => simp
    | 1 => simp
    | j + 2 => simp
  have hsk : apartLe 0 [0, 8] 2 10 := fun i j hi hj _ _ => by
    have : i = 0 ∨ i = 1 := by omega
    have : j = 0 ∨ j = 1 := by omega
    rcases ‹i = 0 ∨ i = 1› with rfl | rfl <;> rcases ‹j = 0 ∨ j = 1› with rfl | rfl <;> decide
  have hp := PlOk.of chk00
  have HNW := hide (new_any w3 p00 (some ⟨w.heap.size, 0, none⟩) 1 (some ⟨w.heap.size + 1, 0, none⟩) 1 none 0 chk00 s2 l2 q2 0 (by decide) (by decide) (w.heap.size + 1 + 1) 0 2 [0, 8] hI (by decide) rfl hz hsk)
  have HSK := hide hsk; have HZ := hide hz; have HP := hide hp; have HL2 := hide l2; have HS2 := hide s2; have HW3 := hide hw3; have HB3 := hide hB3; have HE3 := hide (errT_below hE (hB3.mono (Nat.le_refl _)))
  clear hS hL hZ s2 l2 q2 hI hz hsk hp hw3 hB3 hE
  go_enter Tryz.func7, Tryz.ntmps7
  go_wp2_with fail
  rw [HW3.out]
  refine HNW.out.mono ?_
  rintro e w4 ⟨a, rfl, hB4, hA4⟩
  have HB4 := hide hB4; have HA4 := hide hA4
  have hok := start_ok HP.out (zs := [0, 8]) rfl HZ.out
  have HPU := hide (cput_any w4 hA4 HP.out hok hB4.size 0 ⟨0, 2, 1, 1⟩ rfl dX (by decide))
  rw [put00] at HPU
  clear hB4 hA4
  go_wp2_with fail
  refine HPU.out.mono ?_
  rintro e w5 ⟨rfl, a2, hg2, hA5, hK5⟩
  rw [c00_eq] at hA5 hK5
  have hok5 : ClOk p00 1 c00 := by rw [← c00_eq]; exact clPut_ok HP.out hok rfl dX
  have hB5 := hK5.old HA4.out HB4.out HB4.out.size
  have hsz5 := Nat.le_trans HB4.out.size hK5.size
  have hpl := play_any w5 w3 (some ⟨w.heap.size, 0, none⟩) (some ⟨w.heap.size + 1, 0, none⟩) 1 1 rfl rfl hA5 HP.out hok5 (by decide) rd00 (by decide) HS2.out HL2.out hB5 (Nat.le_refl _) hsz5 HE3.out none 0 r00 (fun j x h => by simp [r00] at h) (by decide) none 0 (fun j x h => by simp [r00] at h) (by decide) none 0 (fun j h => absurd h (by simp [r00])) (by decide) none 0 (fun j h => absurd h (by simp [r00])) (by decide)
  rw [play00, hg2] at hpl
  have HPL : Hid (Calls Tryz.prog 9 #[.pointer (some ⟨a.g, 0, none⟩), .agg #[.slice none 0 0, .slice none 0 0, .slice none 0 0, .slice none 0 0]] w5 fun e w' => e = .returned (errV 0) ∧ ClTo w5 w3.heap.size a2 (fullN p00) p00 ⟨.slice (some ⟨w.heap.size, 0, none⟩) 1 1, .slice (some ⟨w.heap.size + 1, 0, none⟩) 1 1, .slice none 0 0⟩ 0 c00 w' (playF p00 0 r00 c00)) := hide hpl
  have HA5 := hide hA5; have HK5 := hide hK5; have HB5 := hide hB5; have HOK5 := hide hok5
  clear hpl hA5 hK5 hB5 hok5 hok
  go_wp2_with fail
  refine HPL.out.mono ?_
  rintro e w6 ⟨rfl, a3, hg3, hA6, hK6⟩
  have hok6 := playF_ok HP.out HOK5.out 0 r00
  have hB6 := hK6.old HA5.out HB5.out hsz5
  have hsz6 := Nat.le_trans hsz5 hK6.size
  have hrc := crecv_any w6 w3 (some ⟨w.heap.size + 1, 0, none⟩) 1 rfl hA6 HP.out hok6 HL2.out hB6 (Nat.le_refl _) hsz6 0 1 ⟨0, 2, 1, 1⟩ rfl (by decide)
  rw [hg3, hg2] at hrc
  have HRC := hide hrc; have HA6 := hide hA6; have HK6 := hide hK6; have HB6 := hide hB6; have HOK6 := hide hok6
  clear hrc hA6 hK6 hB6 hok6
  go_wp2_with fail
  refine HRC.out.mono ?_
  rintro e w7 (⟨h0, -, -⟩ | ⟨-, h0, -, -⟩ | ⟨-, d, q, h0, rfl, a4, hg4, hA7, hK7⟩)
  · exact absurd (h0.symm.trans bit00) (by decide)
  · rw [recv00] at h0; cases h0
  rw [recv00] at h0
  obtain ⟨rfl, rfl⟩ : dX = d ∧ [] = q := by cases h0; exact ⟨rfl, rfl⟩
  have hok7 := clRecv_ok HOK6.out 0 1
  have hck7 : (clRecv 0 1 (playF p00 0 r00 c00)).ck = [4, 4] ∧ (clRecv 0 1 (playF p00 0 r00 c00)).rd = 1 := ck01
  have hsp := spr_any hA7 HP.out hok7.len hok7.ck (by decide) (by decide)
  rw [hck7.1, hg4, hg3, hg2] at hsp
  have hro := fun W (hB : Below w7.heap.size w7 W) => rounds_any (hA7.below hB)
  rw [hck7.2, hg4, hg3, hg2] at hro
  have HSP := hide hsp; have HRO := hide hro
  have HBF : Hid (Below w.heap.size w w7) := hide (by
    have h1 := hK7.old HA6.out HB6.out hsz6
    exact HB3.out.trans (h1.mono HB3.out.size))
  clear hsp hro hA7 hK7 hok7 hck7 h0
  have hdx : (Value.string dX) = .string ⟨#[120]⟩ := rfl
  rw [hdx]
  go_wp2_with fail
  refine HSP.out.mono ?_
  rintro e w8 ⟨⟨x, y, rfl, hx, hy⟩, hB8⟩
  have hxy : x - y = 0 := by
    have e1 : honL 0 [4, 4] p00.nd.toNat = [4, 4] := hon00
    rw [e1] at hx hy
    obtain ⟨j, hj, e2⟩ := hx.1
    obtain ⟨q, hq, e3⟩ := hy.1
    have t4 : ∀ j, j < ([4, 4] : List Int).length → ([4, 4] : List Int).getD j 0 = 4 := fun j hj => by
      match j, hj with
      | 0, _ => rfl
      | 1, _ => rfl
    rw [t4 j hj] at e2
    rw [t4 q hq] at e3
    omega
  rw [hxy]
  have HB8 := hide hB8
  clear hB8 hx hy hxy
  go_wp2_with fail
  refine (HRO.out w8 HB8.out).mono ?_
  rintro e w9 ⟨rfl, rfl⟩
  go_wp2_with fail
  go_ret
  exact ⟨rfl, HBF.out.trans (HB8.out.mono HBF.out.size)⟩
end Go.Proofs.YtdogdlnaacimpaaGreatDoor
/- The walk of metronomekeep.ClusterSkew; conditions: the plan, the clocks and the rounds lie in memory; errors.errorType holds what start-up lays there. -/
namespace Go.Proofs.YtdogdlnaacimpaaGreatDoor
open Go Go.RowKit
attribute [local irreducible] playF startF begF chk playE honL

/-- Rounds lie in memory. -/
def RnAt (w : World) (A : Option Addr) (l : List Rn) : Prop := ∀ (j : Nat) (r : Rn), l[j]? = some r → ∃ b off, A = some ⟨b, off, none⟩ ∧ ∃ A1 c1 A2 c2 A3 c3 A4 c4, w.cell? ⟨b, off + j * 4, none⟩ = some (.slice A1 r.ls.length c1) ∧ w.cell? ⟨b, off + j * 4 + 1, none⟩ = some (.slice A2 r.rg.length c2) ∧ w.cell? ⟨b, off + j * 4 + 2, none⟩ = some (.slice A3 r.dr.length c3) ∧ w.cell? ⟨b, off + j * 4 + 3, none⟩ = some (.slice A4 r.md.length c4) ∧ LossAt w A1 r.ls ∧ RgAt w A2 r.rg ∧ IsL w A3 r.dr ∧ IsL w A4 r.md ∧ r.ls.length ≤ 9223372036854775807 ∧ r.rg.length ≤ 9223372036854775807 ∧ r.dr.length ≤ 9223372036854775807 ∧ r.md.length ≤ 9223372036854775807
/-- The first k rounds. -/
def playK (p : Pl) (fy : Nat) (l : List Rn) (c : Cl) (k : Nat) : Cl := (l.take k).foldl (fun c r => playF p fy r c) c
theorem playK_zero (p : Pl) (fy : Nat) (l : List Rn) (c : Cl) : playK p fy l c 0 = c := rfl
theorem playK_succ {p : Pl} {fy : Nat} {l : List Rn} {c : Cl} {k : Nat} {r : Rn} (h : l[k]? = some r) : playK p fy l c (k + 1) = playF p fy r (playK p fy l c k) := by
  unfold playK
  rw [List.take_add_one, h, List.foldl_append]
  rfl
theorem playF_rd (p : Pl) (fy : Nat) (r : Rn) (c : Cl) : (playF p fy r c).rd = c.rd ∨ (playF p fy r c).rd = c.rd + 1 := by
  unfold playF
  split
  · exact .inl rfl
  · exact .inr rfl
theorem playF_apart {p : Pl} (hp : PlOk p) {fy : Nat} (hl : (liars fy p.nd.toNat : Int) ≤ p.fa) {c : Cl} {N : Nat} (hc : ClOk p N c) (h : apartLe fy c.ck p.nd.toNat p.sk) (r : Rn) : apartLe fy (playF p fy r c).ck p.nd.toNat p.sk := by
  unfold playF
  split
  · exact h
  · exact skew_round hp hl hc.ck hc.len h r
/-- What the law keeps. -/
structure SkI (p : Pl) (fy : Nat) (k : Nat) (c : Cl) : Prop where
  ok : ClOk p (1 + 2592 * k) c
  rd : c.rd ≤ k
  ap : apartLe fy c.ck p.nd.toNat p.sk
theorem SkI.step {p : Pl} (hp : PlOk p) {fy k : Nat} (hl : (liars fy p.nd.toNat : Int) ≤ p.fa) {c : Cl} (h : SkI p fy k c) (r : Rn) : SkI p fy (k + 1) (playF p fy r c) :=
  ⟨(playF_ok hp h.ok fy r).mono (by omega), by rcases playF_rd p fy r c with e | e <;> rw [e] <;> have := h.rd <;> omega, playF_apart hp hl h.ok h.ap r⟩
theorem SkI.start {p : Pl} (hp : PlOk p) (fy : Nat) (ks : List Int) : SkI p fy 0 (startF p (begC p ks)) :=
  ⟨start_ok hp (begC_len p ks) (begC_wild hp ks), by unfold startF; show (0 : Int) ≤ (0 : Nat); decide, by unfold startF; exact begC_apart hp ks fy⟩
set_option maxRecDepth 100000 in
set_option maxHeartbeats 8000000 in
theorem skew_any (w : World) (hE : ErrT w) (p : Pl) (A : Option Addr) (c : Nat) (AL : Option Addr) (cl : Nat) (AQ : Option Addr) (cq : Nat) (s2 : SlotsAt w A p.sl.length p.sl) (l2 : LinksAt w AL p.lk.length p.lk) (q2 : WinsAt w AQ p.wn.length p.wn)
    (f0 : Int) (B : Option Addr) (cb : Nat) (ks : List Int) (hI : IsL w B ks) (D : Option Addr) (cd : Nat) (l : List Rn) (hR : RnAt w D l) :
    Calls Tryz.prog 3 #[.agg (planC p.nd p.fa p.sk p.ji p.dr p.rd (.slice A p.sl.length c) (.slice AL p.lk.length cl) p.fr (.slice AQ p.wn.length cq)), .int .i64 f0, .slice B ks.length cb, .slice D l.length cd] w fun e w' => e = .returned (.bool true) ∧ Below w.heap.size w w' := by
  obtain ⟨nr, hnr⟩ : ∃ nr, l.length = nr := ⟨_, rfl⟩
  obtain ⟨w1, hw1⟩ : ∃ w1, w.alloc (.cells (planC p.nd p.fa p.sk p.ji p.dr p.rd (.slice A p.sl.length c) (.slice AL p.lk.length cl) p.fr (.slice AQ p.wn.length cq)) 26) = w1 := ⟨_, rfl⟩
  have hB1 : Below w.heap.size w w1 := by rw [← hw1]; exact (Below.refl w.heap.size w).alloc (Nat.le_refl _) _
  have hX : Blk w1 w.heap.size 26 (planC p.nd p.fa p.sk p.ji p.dr p.rd (.slice A p.sl.length c) (.slice AL p.lk.length cl) p.fr (.slice AQ p.wn.length cq)) := by rw [← hw1]; exact Blk.new w _ _
  have HX := hide hX; have HB1 := hide hB1; have HW1 := hide hw1; have HS2 := hide s2; have HL2 := hide l2; have HQ2 := hide q2; have HI := hide hI; have HR := hide hR; have HE := hide hE; have HNR := hide hnr
  rw [hnr]
  clear hX hB1 hw1 s2 l2 q2 hI hR hE hnr
  by_cases h60 : 60 < nr
  · have d1 : decide ((60 : Int) < (nr : Int)) = true := decide_eq_true (by omega)
    go_enter Tryz.func3, Tryz.ntmps3
    go_wp2_with fail
    rw [HW1.out]
    go_ret
    exact ⟨rfl, HB1.out⟩
  · have d1 : decide ((60 : Int) < (nr : Int)) = false := decide_eq_false (by omega)
    have HPL := hide (played_any w1 (errT_below HE.out (HB1.out)))
    go_enter Tryz.func3, Tryz.ntmps3
    go_wp2_with fail
    rw [HW1.out]
    refine HPL.out.mono ?_
    rintro e w2 ⟨rfl, hB2⟩
    have HX2 := hide (HX.out.below hB2 HX.out.lt)
    have HB2 := hide (HB1.out.trans (hB2.mono HB1.out.size))
    clear hB2
    obtain ⟨x0, x1, x2, x3, x4, x5, x6, x7, x8, x9⟩ := plan_cells HX2.out
    have HBG := hide (begun_any w2 p A c AL cl AQ cq (hS0 HS2.out (Nat.le_refl _) HB2.out) (hL0 HL2.out (Nat.le_refl _) HB2.out) (HQ2.out.below HB2.out) f0 B cb ks (HI.out.below (Nat.le_refl _) HB2.out))
    go_wp2_with fail
    refine HBG.out.mono ?_
    rintro e w3 ⟨hB3, rfl | ⟨hchk, a, rfl, hA⟩⟩
    · have HB3 := hide (HB2.out.trans (hB3.mono HB2.out.size))
      clear hB3
      go_wp2_with fail
      go_ret
      exact ⟨rfl, HB3.out⟩
    · have hp := PlOk.of hchk
      have hn16 := hp.n16
      have hn1 := hp.n1
      obtain ⟨fy, hfy⟩ : ∃ fy, (begF p.fa (pck f0 (2 ^ p.nd.toNat)) p.nd.toNat).1 = fy := ⟨_, rfl⟩
      have hfl : fy < 2 ^ p.nd.toNat := by rw [← hfy]; exact begF_lt p.fa (pck_lt f0 (Nat.two_pow_pos _)) _
      have hf16 : fy < 65536 := by
        have : (2 : Nat) ^ p.nd.toNat ≤ 2 ^ 16 := Nat.pow_le_pow_right (by omega) (by omega)
        omega
      have hli : (liars fy p.nd.toNat : Int) ≤ p.fa := by rw [← hfy]; exact (begF_liars p.fa hp.f0 _ _).1
      rw [hfy] at hA
      have HP := hide hp; have HLI := hide hli; have HA := hide hA
      have HB3 := hide hB3
      have HS3 := hide (hS0 HS2.out (Nat.le_refl _) HB2.out); have HL3 := hide (hL0 HL2.out (Nat.le_refl _) HB2.out)
      have HE3 := hide (errT_below HE.out HB2.out)
      have hxl := HX2.out.lt
      clear hp hli hA hB3 hfy hfl hchk hn16 hn1
      go_wp2_with fail
      clear x0 x1 x2 x3 x4 x5 x6 x7 x8 x9
      go_loopw [10] (fun v wr => ∃ (k : Nat) (a' : Ad) (ck : Cl), k ≤ nr ∧ v = .int .i64 k ∧ Hid (a'.g = a.g) ∧ Hid (ClAt wr w2.heap.size a' (fullN p) p ⟨.slice A p.sl.length c, .slice AL p.lk.length cl, .slice AQ p.wn.length cq⟩ fy ck) ∧ Hid (Below w2.heap.size w2 wr) ∧ Hid (SkI p fy k ck)) (fun v _ => nr - (intOf v).toNat)
      case atStart => exact ⟨0, a, _, by omega, rfl, hide rfl, HA, HB3, hide (SkI.start HP.out fy ks)⟩
      case round =>
        obtain ⟨k, a', cc, hk, rfl, HG, HAr, HBr, HI2⟩ := hrel
        have HBw := hide (HB2.out.trans (HBr.out.mono HB2.out.size))
        by_cases hlt : k < nr
        · obtain ⟨r, hr⟩ : ∃ r, l[k]? = some r := ⟨_, List.getElem?_eq_getElem (by rw [HNR.out]; exact hlt)⟩
          obtain ⟨b, o, rfl, A1, c1, A2, c2, A3, c3, A4, c4, y0, y1, y2, y3, m1, m2, m3, m4, n1, n2, n3, n4⟩ := HR.out k r hr
          have hbl : b < w.heap.size := World.block_lt_of_cell? _ _ y0
          have y0' := (HBw.out.cell (p := ⟨b, o + k * 4, none⟩) hbl).trans y0
          have y1' := (HBw.out.cell (p := ⟨b, o + k * 4 + 1, none⟩) hbl).trans y1
          have y2' := (HBw.out.cell (p := ⟨b, o + k * 4 + 2, none⟩) hbl).trans y2
          have y3' := (HBw.out.cell (p := ⟨b, o + k * 4 + 3, none⟩) hbl).trans y3
          obtain ⟨l1, hl1⟩ : ∃ l1, r.ls.length = l1 := ⟨_, rfl⟩
          obtain ⟨l2, hl2⟩ : ∃ l2, r.rg.length = l2 := ⟨_, rfl⟩
          obtain ⟨l3, hl3⟩ : ∃ l3, r.dr.length = l3 := ⟨_, rfl⟩
          obtain ⟨l4, hl4⟩ : ∃ l4, r.md.length = l4 := ⟨_, rfl⟩
          have HPL2 : Hid (∀ W, Below wr.heap.size wr W → Calls Tryz.prog 9 #[.pointer (some ⟨a.g, 0, none⟩), .agg #[.slice A1 l1 c1, .slice A2 l2 c2, .slice A3 l3 c3, .slice A4 l4 c4]] W fun e w' => e = .returned (errV (playE p fy r cc)) ∧ ClTo W w2.heap.size a' (fullN p) p ⟨.slice A p.sl.length c, .slice AL p.lk.length cl, .slice AQ p.wn.length cq⟩ fy cc w' (playF p fy r cc)) := hide (fun W hB => by
            have h1 := play_any W w2 A AL c cl rfl rfl (HAr.out.below hB) HP.out HI2.out.ok (by omega) (by have := HI2.out.rd; omega) hf16 HS3.out HL3.out (HBr.out.trans (hB.mono HBr.out.size)) (Nat.le_refl _) (Nat.le_trans HBr.out.size hB.size) HE3.out A1 c1 r (m1.below (Nat.le_refl _) HB2.out) n1 A2 c2 (m2.below (Nat.le_refl _) HB2.out) n2 A3 c3 (m3.below (Nat.le_refl _) HB2.out) n3 A4 c4 (m4.below (Nat.le_refl _) HB2.out) n4
            rw [HG.out, hl1, hl2, hl3, hl4] at h1
            exact h1)
          have HSI := hide (HI2.out.step HP.out HLI.out r)
          rw [hl1] at y0'
          rw [hl2] at y1'
          rw [hl3] at y2'
          rw [hl4] at y3'
          obtain ⟨s1, e1⟩ : ∃ s1, IntKind.i64.wrap ((l1 : Int) + (l2 : Int)) = s1 := ⟨_, rfl⟩
          obtain ⟨s2, e2⟩ : ∃ s2, IntKind.i64.wrap (s1 + (l3 : Int)) = s2 := ⟨_, rfl⟩
          obtain ⟨s3, e3⟩ : ∃ s3, IntKind.i64.wrap (s2 + (l4 : Int)) = s3 := ⟨_, rfl⟩
          clear hr y0 y1 y2 y3 m1 m2 m3 m4 n1 n2 n3 n4 hl1 hl2 hl3 hl4
          go_wp2_with fail
          go_quiet (fail)
          clear e1 e2 e3
          obtain ⟨wq, hwq⟩ : ∃ wq, wr.drewN nq = wq := ⟨_, rfl⟩
          have HBq : Hid (Below wr.heap.size wr wq) := hide (by rw [← hwq]; exact below_drewN (Below.refl _ _) nq)
          have HPQ := hide (HPL2.out wq HBq.out)
          have hw0 : wq.heap.size = wr.heap.size := by rw [← hwq]; rfl
          have y0 := (HBq.out.cell (p := ⟨b, o + k * 4, none⟩) (Nat.lt_of_lt_of_le hbl HBw.out.size)).trans y0'
          have y1 := (HBq.out.cell (p := ⟨b, o + k * 4 + 1, none⟩) (Nat.lt_of_lt_of_le hbl HBw.out.size)).trans y1'
          have y2 := (HBq.out.cell (p := ⟨b, o + k * 4 + 2, none⟩) (Nat.lt_of_lt_of_le hbl HBw.out.size)).trans y2'
          have y3 := (HBq.out.cell (p := ⟨b, o + k * 4 + 3, none⟩) (Nat.lt_of_lt_of_le hbl HBw.out.size)).trans y3'
          rw [hwq]
          have HBqw := hide (HBw.out.trans (HBq.out.mono HBw.out.size))
          clear hwq hw0 y0' y1' y2' y3' HPL2
          cases hsm : decide ((150 : Int) < s3)
          case true =>
            go_wp2_with fail
            go_ret
            exact ⟨rfl, HBqw.out⟩
          case false =>
            go_wp2_with fail
            refine HPQ.out.mono ?_
            rintro e w6 ⟨rfl, a4, hg4, hA4, hK4⟩
            have HA4 := hide hA4; have HG4 := hide hg4
            have HB6 := hide (hK4.old (HAr.out.below HBq.out) (HBr.out.trans (HBq.out.mono HBr.out.size)) (Nat.le_trans HBr.out.size HBq.out.size))
            clear hA4 hg4 hK4 y0 y1 y2 y3 hsm
            have HE6 := hide (errT_below HE3.out HB6.out)
            have HX6 : Hid (∀ W, Below w6.heap.size w6 W → W.cell? ⟨w.heap.size, 2, none⟩ = some (.int .i64 p.sk)) := hide (fun W hB => (plan_cells ((HX2.out.below HB6.out hxl).below hB (HX2.out.below HB6.out hxl).lt)).2.2.1)
            have HSP : Hid (∀ W, Below w6.heap.size w6 W → Calls Tryz.prog 11 #[.pointer (some ⟨a.g, 0, none⟩)] W fun e w' => (∃ sp : Int, e = .returned (.int .i64 sp) ∧ decide (p.sk < sp) = false ∧ decide (sp < 0) = false) ∧ Below W.heap.size W w') := hide (fun W hB => by
              have h1 := spr_any (HA4.out.below hB) HP.out HSI.out.ok.len HSI.out.ok.ck hf16 HLI.out
              rw [HG4.out, HG.out] at h1
              refine h1.mono ?_
              rintro e w' ⟨⟨x, y, rfl, ht, hl⟩, hb⟩
              have hs := spread_le HSI.out.ap ht hl
              exact ⟨⟨x - y, rfl, decide_eq_false (by omega), decide_eq_false (by omega)⟩, hb⟩)
            have hpe : playE p fy r cc = 0 ∨ playE p fy r cc = 6 := by
              unfold playE
              split
              · exact .inr rfl
              · exact .inl rfl
            rcases hpe with h0 | h6
            · rw [h0]
              clear h0
              have hx2 := HX6.out _ (Below.refl _ _)
              go_wp2_with fail
              go_region_held3 (fun w' => w'.cell? ⟨w.heap.size, 2, none⟩ = some (.int .i64 p.sk)) (first | exact hx2 | exact HS8.out)
                (first
                  | (go_at_call 11; (refine (HSP.out _ (by exact below_drewN (Below.refl _ _) 1)).mono ?_); rintro e w8 ⟨⟨sp, rfl, hd1, hd2⟩, hB8⟩; have HBS := hide ((below_drewN (Below.refl w6.heap.size w6) 1).trans hB8); have HS8 := hide (HX6.out _ HBS.out); clear hB8)
                  | (go_at_call 11; (refine (HSP.out _ (by exact HBS.out)).mono ?_); rintro e w9 ⟨⟨sp2, rfl, hd3, hd4⟩, hB9⟩; have HBS2 := hide (HBS.out.trans (hB9.mono HBS.out.size)); have HS8 := hide (HX6.out _ HBS2.out); clear hB9))
              go_wp2_with fail
              go_roundw
              case rel => exact ⟨k + 1, a4, _, by omega, by go_num, hide (HG4.out.trans HG.out), hide (HA4.out.below (HBS2.out)), hide (HB6.out.trans (Below.mono (HBS2.out) HB6.out.size)), HSI⟩
              case measure => simp [intOf]; omega
            · rw [h6]
              clear h6
              have HTE := hide (tell_errV (e := 6) (by decide) w6 HE6.out)
              go_wp2_with fail
              refine HTE.out.mono ?_
              rintro e w7 ⟨rfl, hB7⟩
              have HB7 := hide hB7
              have HSP7 : Hid (∀ W, Below w7.heap.size w7 W → Calls Tryz.prog 11 #[.pointer (some ⟨a.g, 0, none⟩)] W fun e w' => (∃ sp : Int, e = .returned (.int .i64 sp) ∧ decide (p.sk < sp) = false ∧ decide (sp < 0) = false) ∧ Below W.heap.size W w') := hide (fun W hB => HSP.out W (HB7.out.trans (hB.mono HB7.out.size)))
              have HX7 : Hid (∀ W, Below w7.heap.size w7 W → W.cell? ⟨w.heap.size, 2, none⟩ = some (.int .i64 p.sk)) := hide (fun W hB => HX6.out W (HB7.out.trans (hB.mono HB7.out.size)))
              clear hB7
              have hx2 := HX7.out _ (Below.refl _ _)
              go_wp2_with fail
              go_region_held3 (fun w' => w'.cell? ⟨w.heap.size, 2, none⟩ = some (.int .i64 p.sk)) (first | exact hx2 | exact HS8.out)
                (first
                  | (go_at_call 11; (refine (HSP7.out _ (by exact below_drewN (Below.refl _ _) 1)).mono ?_); rintro e w8 ⟨⟨sp, rfl, hd1, hd2⟩, hB8⟩; have HBS := hide ((below_drewN (Below.refl w7.heap.size w7) 1).trans hB8); have HS8 := hide (HX7.out _ HBS.out); clear hB8)
                  | (go_at_call 11; (refine (HSP7.out _ (by exact HBS.out)).mono ?_); rintro e w9 ⟨⟨sp2, rfl, hd3, hd4⟩, hB9⟩; have HBS2 := hide (HBS.out.trans (hB9.mono HBS.out.size)); have HS8 := hide (HX7.out _ HBS2.out); clear hB9))
              go_wp2_with fail
              go_roundw
              case rel => exact ⟨k + 1, a4, _, by omega, by go_num, hide (HG4.out.trans HG.out), hide (HA4.out.below (HB7.out.trans (HBS2.out.mono HB7.out.size))), hide (HB6.out.trans (Below.mono (HB7.out.trans (HBS2.out.mono HB7.out.size)) HB6.out.size)), HSI⟩
              case measure => simp [intOf]; omega
        · obtain rfl : k = nr := by omega
          go_wp2_with fail
          go_ret
          exact ⟨rfl, HBw.out⟩
end Go.Proofs.YtdogdlnaacimpaaGreatDoor
/- Arguments that are slices of rounds, and of what holds a round, taken apart; no condition. -/
namespace Go.Proofs.YtdogdlnaacimpaaGreatDoor
open Go Go.ChangeShapes Go.WideShapes Go.ChangeAt Go.RowKit Go.Joins Go.Deep
/-- A round lies at a place. -/
def RnCell (w : World) (b o : Nat) (r : Rn) : Prop := ∃ A1 c1 A2 c2 A3 c3 A4 c4, w.cell? ⟨b, o, none⟩ = some (.slice A1 r.ls.length c1) ∧ w.cell? ⟨b, o + 1, none⟩ = some (.slice A2 r.rg.length c2) ∧ w.cell? ⟨b, o + 2, none⟩ = some (.slice A3 r.dr.length c3) ∧ w.cell? ⟨b, o + 3, none⟩ = some (.slice A4 r.md.length c4) ∧ LossAt w A1 r.ls ∧ RgAt w A2 r.rg ∧ IsL w A3 r.dr ∧ IsL w A4 r.md ∧ r.ls.length ≤ 9223372036854775807 ∧ r.rg.length ≤ 9223372036854775807 ∧ r.dr.length ≤ 9223372036854775807 ∧ r.md.length ≤ 9223372036854775807
/-- A round and where its lists lie. -/
structure RnX (W : World) where
  r : Rn
  A1 : Option Addr
  c1 : Nat
  A2 : Option Addr
  c2 : Nat
  A3 : Option Addr
  c3 : Nat
  A4 : Option Addr
  c4 : Nat
  h1 : LossAt W A1 r.ls
  h2 : RgAt W A2 r.rg
  h3 : IsL W A3 r.dr
  h4 : IsL W A4 r.md
  m1 : r.ls.length ≤ 9223372036854775807
  m2 : r.rg.length ≤ 9223372036854775807
  m3 : r.dr.length ≤ 9223372036854775807
  m4 : r.md.length ≤ 9223372036854775807
instance (W : World) : Inhabited (RnX W) := ⟨⟨⟨[], [], [], []⟩, none, 0, none, 0, none, 0, none, 0, fun j x h => by simp at h, fun j x h => by simp at h, fun j h => by simp at h, fun j h => by simp at h, by simp, by simp, by simp, by simp⟩⟩
def RnX.cells {W : World} (x : RnX W) : List Value := [.slice x.A1 x.r.ls.length x.c1, .slice x.A2 x.r.rg.length x.c2, .slice x.A3 x.r.dr.length x.c3, .slice x.A4 x.r.md.length x.c4]
theorem cLoss : Tryz.prog.cellsOf 71 = 3 := by kernel_rfl
theorem cRdg : Tryz.prog.cellsOf 74 = 3 := by kernel_rfl
theorem cRound : Tryz.prog.cellsOf 35 = 4 := by kernel_rfl
theorem cSI : Tryz.prog.cellsOf 27 = 1 := by kernel_rfl
theorem cSLo : Tryz.prog.cellsOf 32 = 1 := by kernel_rfl
theorem cSRd : Tryz.prog.cellsOf 33 = 1 := by kernel_rfl
section
variable {H : Type} {enc : TypeId × Value → H} {W : World} {b0 : Nat} {hd : Bool}
theorem trod_loss {fuel : Nat} {cs : List Value} {x : DataW H × List MemPlace} {sp : Nat → Bool} (h : DataW.trod enc Tryz.prog W b0 sp hd fuel 71 cs = some x) : ∃ p f t : Int, cs = [.int .i64 p, .int .i64 f, .int .i64 t] := by
  obtain ⟨xs, n, _, _, hl, hxl, hg⟩ := DataW.trod_struct Tryz.underlying71 h
  obtain ⟨c0, c1, c2, rfl⟩ := list3 (hl.trans cLoss)
  obtain ⟨x0, x1, x2, rfl⟩ := list3 hxl
  have g0 := hg 0 _ rfl
  have g1 := hg 1 _ rfl
  have g2 := hg 2 _ rfl
  simp [cInt] at g0 g1 g2
  obtain ⟨a, e0, _⟩ := DataW.trod_int Tryz.underlying3 g0
  obtain ⟨b, e1, _⟩ := DataW.trod_int Tryz.underlying3 g1
  obtain ⟨c, e2, _⟩ := DataW.trod_int Tryz.underlying3 g2
  simp at e0 e1 e2
  exact ⟨a, b, c, by rw [e0, e1, e2]⟩
theorem trod_rdg {fuel : Nat} {cs : List Value} {x : DataW H × List MemPlace} {sp : Nat → Bool} (h : DataW.trod enc Tryz.prog W b0 sp hd fuel 74 cs = some x) : ∃ p f t : Int, cs = [.int .i64 p, .int .i64 f, .int .i64 t] := by
  obtain ⟨xs, n, _, _, hl, hxl, hg⟩ := DataW.trod_struct Tryz.underlying74 h
  obtain ⟨c0, c1, c2, rfl⟩ := list3 (hl.trans cRdg)
  obtain ⟨x0, x1, x2, rfl⟩ := list3 hxl
  have g0 := hg 0 _ rfl
  have g1 := hg 1 _ rfl
  have g2 := hg 2 _ rfl
  simp [cInt] at g0 g1 g2
  obtain ⟨a, e0, _⟩ := DataW.trod_int Tryz.underlying3 g0
  obtain ⟨b, e1, _⟩ := DataW.trod_int Tryz.underlying3 g1
  obtain ⟨c, e2, _⟩ := DataW.trod_int Tryz.underlying3 g2
  simp at e0 e1 e2
  exact ⟨a, b, c, by rw [e0, e1, e2]⟩
theorem open_losses {t0 fuel : Nat} {v : Value} {x : DataW H × List MemPlace} (ht : t0 = 32) (h : DataW.trod enc Tryz.prog W b0 (fun _ => true) hd fuel t0 [v] = some x) :
    ∃ (A : Option Addr) (cap : Nat) (l : List Ls), v = .slice A l.length cap ∧ l.length ≤ 9223372036854775807 ∧ LossAt W A l := by
  subst ht
  haveI : Inhabited Ls := ⟨⟨0, 0, 0⟩⟩
  obtain ⟨A, len, cap, l, e1, e2, e3, e4, e5⟩ := open_rows (fun w : Ls => [.int .i64 w.s, .int .i64 w.c, .int .i64 w.t]) Tryz.underlying32 cLoss (by decide) (fun fuel cs y hy => by obtain ⟨p, f, t, e⟩ := trod_loss hy; exact ⟨⟨p, f, t⟩, e⟩) (fun _ => rfl) h
  refine ⟨A, cap, l, by rw [e4]; exact e1, by unfold maxLen at e3; omega, fun j x hj => ?_⟩
  obtain ⟨b, off, hA, a, ha, hcell⟩ := e5 j (by have := (List.getElem?_eq_some_iff.1 hj).1; omega)
  rw [hj] at ha
  cases ha
  exact ⟨b, off, hA, hcell 0 (by decide), hcell 1 (by decide), hcell 2 (by decide)⟩
theorem open_rdgs {t0 fuel : Nat} {v : Value} {x : DataW H × List MemPlace} (ht : t0 = 33) (h : DataW.trod enc Tryz.prog W b0 (fun _ => true) hd fuel t0 [v] = some x) :
    ∃ (A : Option Addr) (cap : Nat) (l : List Rg), v = .slice A l.length cap ∧ l.length ≤ 9223372036854775807 ∧ RgAt W A l := by
  subst ht
  haveI : Inhabited Rg := ⟨⟨0, 0, 0⟩⟩
  obtain ⟨A, len, cap, l, e1, e2, e3, e4, e5⟩ := open_rows (fun w : Rg => [.int .i64 w.n, .int .i64 w.o, .int .i64 w.i]) Tryz.underlying33 cRdg (by decide) (fun fuel cs y hy => by obtain ⟨p, f, t, e⟩ := trod_rdg hy; exact ⟨⟨p, f, t⟩, e⟩) (fun _ => rfl) h
  refine ⟨A, cap, l, by rw [e4]; exact e1, by unfold maxLen at e3; omega, fun j x hj => ?_⟩
  obtain ⟨b, off, hA, a, ha, hcell⟩ := e5 j (by have := (List.getElem?_eq_some_iff.1 hj).1; omega)
  rw [hj] at ha
  cases ha
  exact ⟨b, off, hA, hcell 0 (by decide), hcell 1 (by decide), hcell 2 (by decide)⟩
theorem open_intsL {t0 fuel : Nat} {v : Value} {x : DataW H × List MemPlace} (ht : t0 = 27) (h : DataW.trod enc Tryz.prog W b0 (fun _ => true) hd fuel t0 [v] = some x) :
    ∃ (A : Option Addr) (cap : Nat) (l : List Int), v = .slice A l.length cap ∧ l.length ≤ 9223372036854775807 ∧ IsL W A l := by
  subst ht
  obtain ⟨A, len, cap, l, e1, e2, e3, e4, e5⟩ := open_rows (fun w : Int => [.int .i64 w]) Tryz.underlying27 cInt (by decide) (fun fuel cs y hy => by obtain ⟨a, e0, _⟩ := DataW.trod_int Tryz.underlying3 hy; exact ⟨a, e0⟩) (fun _ => rfl) h
  refine ⟨A, cap, l, by rw [e4]; exact e1, by unfold maxLen at e3; omega, fun j hj => ?_⟩
  obtain ⟨b, off, hA, a, ha, hcell⟩ := e5 j (by omega)
  have := hcell 0 (by decide)
  rw [Nat.mul_one, Nat.add_zero] at this
  refine ⟨b, off, hA, ?_⟩
  rw [this, List.getD_eq_getElem?_getD, ha]
  rfl
set_option maxRecDepth 100000 in
/-- A slice of numbers, as an argument. -/
theorem open_intsT {v : Value} {d : DataW H} {p : List MemPlace} {r : Reach} {B : Nat} (h : DataW.Trod enc Tryz.prog W b0 (fun _ => true) hd 27 v d p) (hv : Value.okWide Tryz.prog W r B 27 v) :
    ∃ (A : Option Addr) (cap : Nat) (l : List Int), v = .slice A l.length cap ∧ l.length ≤ 9223372036854775807 ∧ IsL W A l := by
  obtain ⟨a0, len, cap, rfl⟩ := okWide_slice Tryz.underlying27 hv
  obtain ⟨fuel, hf⟩ := h
  exact open_intsL rfl hf
/-- The cells of a round. -/
theorem trod_round {fuel : Nat} {cs : List Value} {x : DataW H × List MemPlace} (h : DataW.trod enc Tryz.prog W b0 (fun _ => true) hd fuel 35 cs = some x) : ∃ a : RnX W, cs = a.cells := by
  obtain ⟨xs, n, _, _, hl, hxl, hg⟩ := DataW.trod_struct Tryz.underlying35 h
  obtain ⟨c0, c1, c2, c3, rfl⟩ := list4 (hl.trans cRound)
  obtain ⟨x0, x1, x2, x3, rfl⟩ := list4 hxl
  have g0 := hg 0 _ rfl
  have g1 := hg 1 _ rfl
  have g2 := hg 2 _ rfl
  have g3 := hg 3 _ rfl
  simp [cSI, cSLo, cSRd] at g0 g1 g2 g3
  obtain ⟨A1, k1, l1, e1, n1, f1⟩ := open_losses rfl g0
  obtain ⟨A2, k2, l2, e2, n2, f2⟩ := open_rdgs rfl g1
  obtain ⟨A3, k3, l3, e3, n3, f3⟩ := open_intsL rfl g2
  obtain ⟨A4, k4, l4, e4, n4, f4⟩ := open_intsL rfl g3
  exact ⟨⟨⟨l1, l2, l3, l4⟩, A1, k1, A2, k2, A3, k3, A4, k4, f1, f2, f3, f4, n1, n2, n3, n4⟩, by rw [e1, e2, e3, e4]; rfl⟩
set_option maxRecDepth 100000 in
/-- A slice of rounds, as an argument. -/
theorem open_rounds {v : Value} {d : DataW H} {p : List MemPlace} {r : Reach} {B : Nat} (h : DataW.Trod enc Tryz.prog W b0 (fun _ => true) hd 28 v d p) (hv : Value.okWide Tryz.prog W r B 28 v) :
    ∃ (A : Option Addr) (cap : Nat) (l : List Rn), v = .slice A l.length cap ∧ l.length ≤ 9223372036854775807 ∧ RnAt W A l := by
  obtain ⟨a0, len, cap, rfl⟩ := okWide_slice Tryz.underlying28 hv
  obtain ⟨fuel, hf⟩ := h
  obtain ⟨A, len, cap, l, e1, e2, e3, e4, e5⟩ := open_rows (fun w : RnX W => w.cells) Tryz.underlying28 cRound (by decide) (fun fuel cs y hy => trod_round hy) (fun _ => rfl) hf
  refine ⟨A, cap, l.map (·.r), by rw [List.length_map, e4]; exact e1, by rw [List.length_map]; unfold maxLen at e3; omega, fun j x hj => ?_⟩
  rw [List.getElem?_map, Option.map_eq_some_iff] at hj
  obtain ⟨y, hy, rfl⟩ := hj
  obtain ⟨b, off, hA, a, ha, hcell⟩ := e5 j (by have := (List.getElem?_eq_some_iff.1 hy).1; omega)
  rw [hy] at ha
  cases ha
  exact ⟨b, off, hA, y.A1, y.c1, y.A2, y.c2, y.A3, y.c3, y.A4, y.c4, hcell 0 (by decide), hcell 1 (by decide), hcell 2 (by decide), hcell 3 (by decide), y.h1, y.h2, y.h3, y.h4, y.m1, y.m2, y.m3, y.m4⟩
end
end Go.Proofs.YtdogdlnaacimpaaGreatDoor
/- What a row that lists errors.errorType gives its walk, and a world that meets it; no condition. -/
namespace Go.Proofs.YtdogdlnaacimpaaGreatDoor
open Go.ChangeShapes Go.WideShapes Go.RowKit

theorem d_et : Tryz.prog.globalNamed "errors.errorType" = some 1 := by kernel_rfl
theorem d_rt : (Tryz.prog.cutTypes.find? (·.1 == "internal/reflectlite.rtype")).map (·.2) = some 208 := by kernel_rfl
theorem d_size : Tryz.prog.types.size = 279 := by kernel_rfl
theorem d_oneRow : ((List.range 279).filter fun t => Tryz.prog.rowNamed t [101, 114, 114, 111, 114]) = [37] := by kernel_rfl
theorem d_hdl : typeHandle Tryz.prog 37 = hdl 37 := by kernel_rfl

theorem errT_of_handle {l : List (String × DataW Unit)} {W : World} (h : handlesMet Tryz.prog l W) (hm : ("errors.errorType", Rows.laid_errors_errorType) ∈ l) : ErrT W := by
  obtain ⟨name, u, ty, e1, e2, e3, e4, e5⟩ := h _ hm
  have en : name = [101, 114, 114, 111, 114] := (Option.some.inj e1).symm
  subst en
  obtain rfl := Option.some.inj (d_rt.symm.trans e2)
  have hm : ty ∈ (List.range 279).filter fun t => Tryz.prog.rowNamed t [101, 114, 114, 111, 114] := List.mem_filter.2 ⟨List.mem_range.2 (by rw [← d_size]; exact e3), e4⟩
  rw [d_oneRow] at hm
  obtain rfl := List.mem_singleton.1 hm
  rw [d_hdl] at e5
  simpa using World.var?_cell d_et e5 0

theorem errT_of_laid1 {W : World} (h : laidMetH Tryz.prog [("errors.errorType", Rows.laid_errors_errorType)] W) : ErrT W := by
  have h' : laidMet Tryz.prog [] W ∧ handlesMet Tryz.prog [("errors.errorType", Rows.laid_errors_errorType)] W := h
  exact errT_of_handle h'.2 (List.mem_singleton.2 rfl)

noncomputable def laidWorld1 (os : Os) : World :=
  let w0 := World.holding Tryz.prog os ⟨#[], #[], []⟩
  { w0 with heap := w0.heap.modify 1 fun
      | .cells _ t frozen => .cells #[.iface 208 (.agg #[hdl 37])] t frozen
      | o => o }
theorem laidWorld1_met (os : Os) (args : Array Value) : laidMetH Tryz.prog [("errors.errorType", Rows.laid_errors_errorType)] ((laidWorld1 os).forCall (fun _ _ => 0) ⟨#[], args, []⟩).memory :=
  laidMetH_of_parts (laidMet_nil _ _) (by kernel_rfl)
end Go.Proofs.YtdogdlnaacimpaaGreatDoor
/- Arguments that are spans, taken apart; no condition. -/
namespace Go.Proofs.YtdogdlnaacimpaaGreatDoor
open Go.ChangeShapes Go.WideShapes Go.ChangeAt Go.RowKit Go.Joins
variable {H : Type} {enc : TypeId × Value → H}
theorem cellsSpan : Tryz.prog.cellsOf 98 = 2 := by kernel_rfl
set_option maxRecDepth 100000 in
theorem open_span {W : World} {b : Nat} {sp : Nat → Bool} {r : Reach} {B : Nat} {hd : Bool} {v : Value} {d : DataW H} {p : List MemPlace}
    (h : DataW.Trod enc Tryz.prog W b sp hd 98 v d p) (hv : Value.okWide Tryz.prog W r B 98 v) : ∃ f s : Int, v = .agg #[.int .i64 f, .int .i64 s] := by
  obtain ⟨c0, c1, y0, y1, m, rfl, rfl, rfl, hy0, hy1⟩ := open_agg2 Tryz.underlying98 (by kernel_rfl) cellsSpan hv h
  obtain ⟨a, e0, _, _⟩ := DataW.trod_int Tryz.underlying3 hy0
  obtain ⟨b, e1, _, _⟩ := DataW.trod_int Tryz.underlying3 hy1
  simp at e0 e1
  subst e0 e1
  exact ⟨a, b, rfl⟩
end Go.Proofs.YtdogdlnaacimpaaGreatDoor
/- Arguments that are plans, taken apart; no condition. -/
namespace Go.Proofs.YtdogdlnaacimpaaGreatDoor
open Go.ChangeShapes Go.WideShapes Go.ChangeAt Go.RowKit Go.Joins Go.Deep Go.WideElems Go.Maps
section
variable {H : Type} {enc : TypeId × Value → H} {P : Program} {w : World} {base : Nat} {spare : Nat → Bool} {held : Bool}
theorem array10 {α : Type} {cs : Array α} (h : cs.size = 10) : ∃ c0 c1 c2 c3 c4 c5 c6 c7 c8 c9, cs = #[c0, c1, c2, c3, c4, c5, c6, c7, c8, c9] := by
  obtain ⟨l⟩ := cs
  match l, h with
  | [c0, c1, c2, c3, c4, c5, c6, c7, c8, c9], _ => exact ⟨c0, c1, c2, c3, c4, c5, c6, c7, c8, c9, rfl⟩
theorem open_agg10 {r : Reach} {b0 : Nat} {t : TypeId} {f0 f1 f2 f3 f4 f5 f6 f7 f8 f9 : Field} {v : Value} {d : DataW H} {p : List MemPlace} (hs : P.underlying t = some (.struct #[f0, f1, f2, f3, f4, f5, f6, f7, f8, f9])) (hone : oneCellFields P #[f0, f1, f2, f3, f4, f5, f6, f7, f8, f9] = true) (hC : P.cellsOf t = 10)
    (hv : Value.okWide P w r b0 t v) (h : DataW.Trod enc P w base spare held t v d p) :
    ∃ (v0 v1 v2 v3 v4 v5 v6 v7 v8 v9 : Value) (y0 y1 y2 y3 y4 y5 y6 y7 y8 y9 : DataW H × List MemPlace) (n : Nat), v = .agg #[v0, v1, v2, v3, v4, v5, v6, v7, v8, v9] ∧ d = .agg [y0.1, y1.1, y2.1, y3.1, y4.1, y5.1, y6.1, y7.1, y8.1, y9.1] ∧ p = y0.2 ++ (y1.2 ++ (y2.2 ++ (y3.2 ++ (y4.2 ++ (y5.2 ++ (y6.2 ++ (y7.2 ++ (y8.2 ++ y9.2)))))))) ∧
      DataW.trod enc P w base spare held n f0.type [v0] = some y0 ∧ DataW.trod enc P w base spare held n f1.type [v1] = some y1 ∧ DataW.trod enc P w base spare held n f2.type [v2] = some y2 ∧ DataW.trod enc P w base spare held n f3.type [v3] = some y3 ∧ DataW.trod enc P w base spare held n f4.type [v4] = some y4 ∧ DataW.trod enc P w base spare held n f5.type [v5] = some y5 ∧ DataW.trod enc P w base spare held n f6.type [v6] = some y6 ∧ DataW.trod enc P w base spare held n f7.type [v7] = some y7 ∧ DataW.trod enc P w base spare held n f8.type [v8] = some y8 ∧ DataW.trod enc P w base spare held n f9.type [v9] = some y9 := by
  obtain ⟨cs, rfl, hsz⟩ := okWide_struct hs hv
  obtain ⟨c0, c1, c2, c3, c4, c5, c6, c7, c8, c9, rfl⟩ := array10 (hsz.trans hC)
  obtain ⟨fuel, hf⟩ := h
  obtain ⟨xs, n, _, hx, _, hlen, hg⟩ := DataW.trod_struct hs hf
  match xs, hlen with
  | [y0, y1, y2, y3, y4, y5, y6, y7, y8, y9], _ =>
    simp only [Prod.mk.injEq, List.map_cons, List.map_nil, List.flatMap_cons, List.flatMap_nil, List.append_nil] at hx
    refine ⟨c0, c1, c2, c3, c4, c5, c6, c7, c8, c9, y0, y1, y2, y3, y4, y5, y6, y7, y8, y9, n, rfl, hx.1, hx.2, ?_, ?_, ?_, ?_, ?_, ?_, ?_, ?_, ?_, ?_⟩
    · have h0 := hg 0 f0 rfl
      obtain ⟨o0, k0⟩ := hone_of hone 0 f0 rfl
      simpa [Value.cells, o0, k0] using h0
    · have h0 := hg 1 f1 rfl
      obtain ⟨o0, k0⟩ := hone_of hone 1 f1 rfl
      simpa [Value.cells, o0, k0] using h0
    · have h0 := hg 2 f2 rfl
      obtain ⟨o0, k0⟩ := hone_of hone 2 f2 rfl
      simpa [Value.cells, o0, k0] using h0
    · have h0 := hg 3 f3 rfl
      obtain ⟨o0, k0⟩ := hone_of hone 3 f3 rfl
      simpa [Value.cells, o0, k0] using h0
    · have h0 := hg 4 f4 rfl
      obtain ⟨o0, k0⟩ := hone_of hone 4 f4 rfl
      simpa [Value.cells, o0, k0] using h0
    · have h0 := hg 5 f5 rfl
      obtain ⟨o0, k0⟩ := hone_of hone 5 f5 rfl
      simpa [Value.cells, o0, k0] using h0
    · have h0 := hg 6 f6 rfl
      obtain ⟨o0, k0⟩ := hone_of hone 6 f6 rfl
      simpa [Value.cells, o0, k0] using h0
    · have h0 := hg 7 f7 rfl
      obtain ⟨o0, k0⟩ := hone_of hone 7 f7 rfl
      simpa [Value.cells, o0, k0] using h0
    · have h0 := hg 8 f8 rfl
      obtain ⟨o0, k0⟩ := hone_of hone 8 f8 rfl
      simpa [Value.cells, o0, k0] using h0
    · have h0 := hg 9 f9 rfl
      obtain ⟨o0, k0⟩ := hone_of hone 9 f9 rfl
      simpa [Value.cells, o0, k0] using h0
end
variable {H : Type} {enc : TypeId × Value → H}
/-- A number of 64 bits. -/
def i64b (z : Int) : Prop := -9223372036854775808 ≤ z ∧ z ≤ 9223372036854775807
theorem wf64 {n : Int} (h : (Lit.int .i64 n).wf = true) : i64b n := by
  simp only [Lit.wf, Bool.and_eq_true, decide_eq_true_eq] at h
  exact ⟨h.1, h.2⟩
theorem cellsPlan : Tryz.prog.cellsOf 26 = 10 := by kernel_rfl
set_option maxRecDepth 100000 in
set_option maxHeartbeats 1000000 in
/-- A plan, as an argument. -/
theorem open_plan {W : World} {r : Reach} {B : Nat} {hd : Bool} {v : Value} {d : DataW H} {p : List MemPlace}
    (h : DataW.Trod enc Tryz.prog W B (fun _ => true) hd 26 v d p) {B2 : Nat} (hv : Value.okWide Tryz.prog W r B2 26 v) :
    ∃ (nd fa sk ji dr R : Int) (A : Option Addr) (len c : Nat) (sl : List Sl) (AL : Option Addr) (ll cl : Nat) (lk : List Lk) (fr : Int) (AQ : Option Addr) (lq cq : Nat) (wn : List Wn),
      v = .agg (planC nd fa sk ji dr R (.slice A len c) (.slice AL ll cl) fr (.slice AQ lq cq)) ∧ sl.length = len ∧ SlotsAt W A len sl ∧ lk.length = ll ∧ LinksAt W AL ll lk ∧ wn.length = lq ∧ WinsAt W AQ lq wn ∧ len ≤ maxLen ∧ ll ≤ maxLen ∧ lq ≤ maxLen ∧
      i64b nd ∧ i64b fa ∧ i64b sk ∧ i64b ji ∧ i64b dr ∧ i64b R ∧ i64b fr := by
  obtain ⟨c0, c1, c2, c3, c4, c5, c6, c7, c8, c9, y0, y1, y2, y3, y4, y5, y6, y7, y8, y9, m, rfl, rfl, rfl, hy0, hy1, hy2, hy3, hy4, hy5, hy6, hy7, hy8, hy9⟩ := open_agg10 Tryz.underlying26 (by kernel_rfl) cellsPlan hv h
  obtain ⟨a, e0, _, b0⟩ := DataW.trod_int Tryz.underlying3 hy0
  obtain ⟨b, e1, _, b1⟩ := DataW.trod_int Tryz.underlying3 hy1
  obtain ⟨c, e2, _, b2⟩ := DataW.trod_int Tryz.underlying3 hy2
  obtain ⟨d, e3, _, b3⟩ := DataW.trod_int Tryz.underlying3 hy3
  obtain ⟨e, e4, _, b4⟩ := DataW.trod_int Tryz.underlying3 hy4
  obtain ⟨f, e5, _, b5⟩ := DataW.trod_int Tryz.underlying3 hy5
  obtain ⟨A, len, cp, sl, e6, s1, s2, s3, s4⟩ := open_slots rfl hy6
  obtain ⟨AL, ll, cl, lk, e7, l1, l2, l3, l4⟩ := open_links rfl hy7
  obtain ⟨g, e8, _, b8⟩ := DataW.trod_int Tryz.underlying3 hy8
  obtain ⟨AQ, lq, cq, wn, e9, q1, q2, q3, q4⟩ := open_wins rfl hy9
  simp at e0 e1 e2 e3 e4 e5 e8
  subst e0 e1 e2 e3 e4 e5 e6 e7 e8 e9
  refine ⟨a, b, c, d, e, f, A, len, cp, sl, AL, ll, cl, lk, g, AQ, lq, cq, wn, rfl, s3, s4, l3, l4, q3, q4, by omega, by omega, by omega, wf64 b0, wf64 b1, wf64 b2, wf64 b3, wf64 b4, wf64 b5, wf64 b8⟩
end Go.Proofs.YtdogdlnaacimpaaGreatDoor
