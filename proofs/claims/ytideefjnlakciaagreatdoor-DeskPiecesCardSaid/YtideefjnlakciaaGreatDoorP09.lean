/- The contract of cluster.Cluster.loads; conditions: the cluster lies in memory, its numbers are small. -/
import Derived.Test.YtideefjnlakciaaGreatDoorP08
import Derived.Test.YtideefjnlakciaaGreatDoorP04
import Derived.Test.YtideefjnlakciaaGreatDoorP03
import Derived.Test.YtideefjnlakciaaGreatDoorP01
import Derived.Laws.MakeOwn
set_option linter.unusedVariables false
set_option linter.unusedSimpArgs false
namespace Go.Proofs.YtideefjnlakciaaGreatDoor
section
open Go Go.RowKit
attribute [local irreducible] sdE sdN
theorem Objs.far {w : World} {base : Nat} {S : Ix → Ob} (h : Objs w base S) {p : Addr} (hp : ¬ Fmy S p.block) (v : Value) : Objs (w.setCell p v) base S :=
 ⟨fun x => (h.at_ x).keep (fun k _ hm => Below.heap_setCell w p v k (by rintro rfl; exact hp ⟨x, hm⟩)), fun x k hm => ⟨(h.own x k hm).1, by simpa [World.setCell] using (h.own x k hm).2⟩, h.sep⟩
theorem KeptS.setNew {w w' : World} {S S' : Ix → Ob} (h : KeptS w w' S S') {p : Addr} (hp : w.heap.size ≤ p.block) (v : Value) : KeptS w (w'.setCell p v) S S' :=
 ⟨h.os, h.tape, h.output, by simpa [World.setCell] using h.size, fun i hi hn => (Below.heap_setCell w' p v i (by rintro rfl; omega)).trans (h.block i hi hn), h.fam⟩
theorem KeptS.drew {w w' : World} {S S' : Ix → Ob} (h : KeptS w w' S S') : KeptS w w'.drew S S' := ⟨h.os, h.tape, h.output, h.size, h.block, h.fam⟩
theorem hS0 {W w0 : World} {A : Option Addr} {n B : Nat} {ws : List Sl} (h : SlotsAt w0 A n ws) (hw : w0.heap.size ≤ B) (hB : Below B w0 W) : SlotsAt W A n ws := fun j hj => by
 obtain ⟨b, off, e, x, h1, h2, h3, h4⟩ := h j hj
 have hlt : b < B := Nat.lt_of_lt_of_le (World.block_lt_of_cell? _ _ h2) hw
 exact ⟨b, off, e, x, h1, (hB.cell (p := ⟨b, _, none⟩) hlt).trans h2, (hB.cell (p := ⟨b, _, none⟩) hlt).trans h3, (hB.cell (p := ⟨b, _, none⟩) hlt).trans h4⟩
theorem now_in {R pr f : Int} (h0 : 0 ≤ R) (h1 : R ≤ 7000) (h2 : 1 ≤ pr) (h3 : pr ≤ 137438953472) (h4 : 0 ≤ f) (h5 : f ≤ 137438953472) : 0 ≤ R * pr ∧ R * pr ≤ 962072674304000 ∧ 0 ≤ R * pr + f ∧ R * pr + f ≤ 1000000000000000 := by
 have a : 0 ≤ R * pr := Int.mul_nonneg h0 (by omega)
 have b : R * pr ≤ 7000 * 137438953472 := Int.mul_le_mul h1 h3 (by omega) (by omega)
 omega
def SndOk (c : Cl) : Prop := ∀ k, 0 ≤ (c.sd k).nx ∧ (c.sd k).nx ≤ 255 ∧ -1 ≤ (c.sd k).la ∧ (c.sd k).la ≤ 1099511627776 ∧ (c.sd k).q.length ≤ 16 ∧ ∀ d ∈ (c.sd k).q, d.size ≤ 40
theorem fr_results (tmps : Array Value) (w : World) (g : Nat) (a b c d e f : Value) (h2 : tmps[4]? = some (.pointer (some ⟨g, 0, none⟩))) (hb : Blk w g 269 #[a, b, c, d, e, f]) :
 (results Tryz.f177 tmps).run Tryz.prog w = .ok (.agg #[a, b, c, d, e, f]) w := by
 obtain ⟨k0, k1, k2, k3, k4, k5, _⟩ := hb.cells6
 simp [results, Tryz.results177, go_sem, h2, k0, k1, k2, k3, k4, k5]
theorem loadsF_skip {now node : Int} {l : Lk} {ls : List Lk} {k : Nat} {c : Cl} (h : l.f ≠ node) : loadsF now node (l :: ls) k c = loadsF now node ls (k + 1) c := by
 conv => lhs; unfold loadsF
 rw [if_neg h]
theorem loadsF_go {now node : Int} {l : Lk} {ls : List Lk} {k : Nat} {c : Cl} (h : l.f = node) (h0 : sdE now (c.sd k).la (c.sd k).nw l.b (c.sd k).q.length = 0) : loadsF now node (l :: ls) k c = ({ c with sd := updF c.sd k ⟨if (c.sd k).nx + 1 = 256 then 1 else (c.sd k).nx + 1, now, now, (c.sd k).q.tail⟩ }, ((k : Int), (c.sd k).nx, (c.sd k).q.headD ⟨#[]⟩)) := by
 conv => lhs; unfold loadsF
 rw [if_pos h, if_pos h0]
theorem loadsF_no {now node : Int} {l : Lk} {ls : List Lk} {k : Nat} {c : Cl} (h : l.f = node) (h0 : sdE now (c.sd k).la (c.sd k).nw l.b (c.sd k).q.length ≠ 0) : loadsF now node (l :: ls) k c = loadsF now node ls (k + 1) { c with sd := updF c.sd k { c.sd k with nw := sdN (sdE now (c.sd k).la (c.sd k).nw l.b (c.sd k).q.length) now (c.sd k).nw } } := by
 conv => lhs; unfold loadsF
 rw [if_pos h, if_neg h0]
theorem sdE_ne {now la nw bag : Int} {n : Nat} (h : sdE now la nw bag n = 0) : n ≠ 0 := by
 rintro rfl
 unfold sdE at h
 repeat' split at h
 all_goals first | (exact absurd h (by decide)) | skip
 rename_i h1; exact h1 (.inl rfl)
theorem updF_self' {α : Type} (f : Nat → α) (k : Nat) (v : α) : updF f k v k = v := by simp [updF]
theorem updF_ne' {α : Type} (f : Nat → α) {k j : Nat} {v : α} (h : j ≠ k) : updF f k v j = f j := by simp [updF, h]
theorem drop_at {α : Type} {l : List α} {k : Nat} {x : α} (h : l[k]? = some x) : l.drop k = x :: l.drop (k + 1) := by
 have hlt : k < l.length := (List.getElem?_eq_some_iff.1 h).1
 rw [List.drop_eq_getElem_cons hlt]
 congr 1
 rw [List.getElem?_eq_getElem hlt] at h
 exact Option.some.inj h
set_option maxRecDepth 100000 in
set_option maxHeartbeats 4000000 in
theorem loads_any {base : Nat} {a : Ad} {p : Pl} {P : Sv3} {fy : Nat} {c : Cl} {N : Nat} (w : World) {K : World → (Ix → Ob) → Prop} (hKK : Cls K) (AS AL : Option Addr) (cs cl : Nat) (hPS : P.s = .slice AS p.sl.length cs) (hP : P.l = .slice AL p.lk.length cl) (h : ClAt w base a (fullN p) p P fy c) (hp : PlOk p) (hc : ClOk p N c) (hr : c.rd ≤ 7000) (hS : ∀ W S, K W S → SlotsAt W AS p.sl.length p.sl) (hL : ∀ W S, K W S → LinksAt W AL p.lk.length p.lk) (hB0 : K w (shape a (fullN p) p P fy c)) (hbase : base ≤ w.heap.size)
 (node slot mb : Nat) (s : Sl) (hs : p.sl[slot]? = some s) :
 Calls Tryz.prog 177 #[.pointer (some ⟨a.g, 0, none⟩), .agg #[.int .i64 node, .int .i64 slot, .int .i64 mb, .int .i64 (-1), .int .i64 0, .string ⟨#[]⟩]] w fun e w' => e = .returned (.agg #[.int .i64 node, .int .i64 slot, .int .i64 mb, .int .i64 (loadsF (c.rd * p.rd + s.f) node p.lk 0 c).2.1, .int .i64 (loadsF (c.rd * p.rd + s.f) node p.lk 0 c).2.2.1, .string (loadsF (c.rd * p.rd + s.f) node p.lk 0 c).2.2.2]) ∧ ClTo w base a (fullN p) p P fy c w' (loadsF (c.rd * p.rd + s.f) node p.lk 0 c).1 := by
 have hnow := now_in hc.rd hr hp.rd.1 hp.rd.2 (hp.slot slot s hs).2.2.1 (hp.slot slot s hs).2.2.2
 obtain ⟨w2, hw2⟩ : ∃ w2, (w.alloc (.cells #[.int .i64 node, .int .i64 slot, .int .i64 mb, .int .i64 (-1), .int .i64 0, .string ⟨#[]⟩] 269)).alloc (.cells #[.int .i64 0, .int .i64 0, .int .i64 0, .int .i64 0, .int .i64 0, .string ⟨#[]⟩] 269) = w2 := ⟨_, rfl⟩
 have hBW : Below w.heap.size w w2 := by rw [← hw2]; exact ((Below.refl w.heap.size w).alloc (Nat.le_refl _) _).alloc (by simp) _
 have hF3 : Blk w2 w.heap.size 269 #[.int .i64 node, .int .i64 slot, .int .i64 mb, .int .i64 (-1), .int .i64 0, .string ⟨#[]⟩] := by rw [← hw2]; exact (Blk.new w _ _).alloc _
 have hF4 : Blk w2 (w.heap.size + 1) 269 #[.int .i64 0, .int .i64 0, .int .i64 0, .int .i64 0, .int .i64 0, .string ⟨#[]⟩] := by rw [← hw2]; have := Blk.new (w.alloc (.cells #[.int .i64 node, .int .i64 slot, .int .i64 mb, .int .i64 (-1), .int .i64 0, .string ⟨#[]⟩] 269)) 269 #[.int .i64 0, .int .i64 0, .int .i64 0, .int .i64 0, .int .i64 0, .string ⟨#[]⟩]; rw [World.size_alloc] at this; exact this
 have HKW := hide (KeptS.of_below (S := shape a (fullN p) p P fy c) hBW)
 have HN3 := hide (h.not_new (Nat.le_refl w.heap.size))
 have HN4 := hide (h.not_new (Nat.le_succ w.heap.size))
 have Hh := hide (h.below hBW)
 have HKK := hide hKK
 have HB0 := hide (hKK.step hB0 HKW.out)
 have hbase2 := Nat.le_trans hbase hBW.size
 have HC0 := hide (ClTo.refl Hh.out (Below.refl w2.heap.size w2))
 obtain ⟨G, hG⟩ : ∃ G, a.g = G := ⟨_, rfl⟩
 rw [hG]
 obtain ⟨k0, k1, k2, k3, k4, k5, k6, k7, k16⟩ := Hh.out.cluC hG
 have HW2 := hide hw2; have HF3 := hide hF3; have HF4 := hide hF4; have HP := hide hp; have HOK := hide hc; have HL := hide hL; have HS := hide hS; have HPL := hide hP; have HPS := hide hPS; have HG := hide hG
 clear hw2 hF3 hF4 h hP hPS hG hL hS hB0 hKK hBW
 obtain ⟨R, hR⟩ : ∃ R, c.rd = R := ⟨_, rfl⟩
 obtain ⟨pr, hpr⟩ : ∃ pr, p.rd = pr := ⟨_, rfl⟩
 obtain ⟨sn, sf, st⟩ := s
 dsimp only at hnow ⊢
 rw [hR, hpr] at hnow ⊢
 rw [hR] at k16
 rw [hpr] at k5
 obtain ⟨M, hM⟩ : ∃ M, R * pr = M := ⟨_, rfl⟩
 obtain ⟨now, hnw⟩ : ∃ now, M + sf = now := ⟨_, rfl⟩
 rw [hM, hnw] at hnow ⊢
 have e1 : IntKind.i64.wrap (R * pr) = M := by rw [hM]; exact IntWalk.i64_in _ (by omega)
 have e2 : IntKind.i64.wrap (M + sf) = now := by rw [hnw]; exact IntWalk.i64_in _ (by omega)
 obtain ⟨bs, os, hAS, sl2, hl2, _, kf, _⟩ := (HS.out _ _ HB0.out) slot (List.getElem?_eq_some_iff.1 hs).1
 have hslt := (List.getElem?_eq_some_iff.1 hs).1
 rw [hs] at hl2; cases hl2
 dsimp only at kf
 rw [HPS.out, hAS] at k6
 obtain ⟨ns, hns⟩ : ∃ ns, p.sl.length = ns := ⟨_, rfl⟩
 rw [hns] at k6 hslt
 obtain ⟨nl, hnl⟩ : ∃ nl, p.lk.length = nl := ⟨_, rfl⟩
 rw [HPL.out, hnl] at k7
 have hnl8 := hp.lk
 rw [hnl] at hnl8
 obtain ⟨t0, t1, t2, t3, t4, t5, _⟩ := HF3.out.cells6
 have HNL := hide hnl
 have hM0 := hnow.1
 clear hM hnw hR hpr hs hns hnl hnow hr
 go_enter Tryz.func177, Tryz.ntmps177
 go_wp2_with fail
 rw [HW2.out]
 go_quiet (fail)
 clear k0 k1 k2 k3 k4 k5 k6 k16 kf t0 t1 t2 t3 t4 t5
 go_wp2_with fail
 go_loopw [38] (fun i wr => ∃ (k : Nat) (ck : Cl), k ≤ nl ∧ i = .int .i64 k ∧ Hid (Blk wr w.heap.size 269 #[.int .i64 node, .int .i64 slot, .int .i64 mb, .int .i64 (-1), .int .i64 0, .string ⟨#[]⟩]) ∧ Hid (Blk wr (w.heap.size + 1) 269 #[.int .i64 0, .int .i64 0, .int .i64 0, .int .i64 0, .int .i64 0, .string ⟨#[]⟩]) ∧ Hid (loadsF now node p.lk 0 c = loadsF now node (p.lk.drop k) k ck) ∧ Hid (SndOk ck) ∧ Hid (ClTo w2 base a (fullN p) p P fy c wr ck)) (fun i _ => nl - (intOf i).toNat)
 case atStart => exact ⟨0, c, by omega, rfl, hide (HF3.out.drewN _), hide (HF4.out.drewN _), hide rfl, hide HOK.out.sd, hide (HC0.out.below (below_drewN (Below.refl _ _) _))⟩
 case round =>
  obtain ⟨k, ck, hk, rfl, HR3, HR4, HLF, HSO, HC⟩ := hrel
  obtain ⟨a', hg, hA', hK⟩ := HC.out
  have hb1 : base ≤ wr.heap.size := Nat.le_trans hbase2 hK.size
  have HBr := hide (HKK.out.step HB0.out hK)
  have HA := hide hA'; have HK := hide hK
  have HN3r := hide (hK.not HF3.out.lt HN3.out)
  have HN4r := hide (hK.not HF4.out.lt HN4.out)
  clear hA' hK
  by_cases hlt : k < nl
  ·obtain ⟨bl, ol, hAL, lnk, hlk, f0, f1, f2, f3⟩ := (HL.out _ _ HBr.out) k (by rw [HNL.out]; exact hlt)
   rw [hAL]
   have HLk := hide hlk
   have HD := hide (drop_at hlk)
   clear hlk
   obtain ⟨t0, t1, t2, t3, t4, t5, _⟩ := HR3.out.cells6
   have hlt3 := HR3.out.lt
   by_cases hf : lnk.f = node
   ·have d1 : (lnk.f != (node : Int)) = false := by simpa using hf
    have HA2 := hide (HA.out.alloc (.cells #[.int .i64 lnk.f, .int .i64 lnk.t, .int .i64 lnk.b, .int .i64 lnk.q] 88))
    obtain ⟨bm, om, cm, k13, km⟩ := HA2.out.sndC (hg.trans HG.out) HNL.out hlt
    obtain ⟨gs, hgs⟩ : ∃ gs, a'.gs k = gs := ⟨_, rfl⟩
    rw [hgs] at km
    have hSB := HA2.out.sndB (k := k) (by show k < p.lk.length; rw [HNL.out]; exact hlt) HLk.out
    rw [hgs] at hSB
    have HSB := hide hSB
    have HGS := hide hgs
    have hso := HSO.out k
    have HE := hide hf
    clear hSB hgs hf
    obtain ⟨er, her⟩ : ∃ er, sdE now (ck.sd k).la (ck.sd k).nw lnk.b (ck.sd k).q.length = er := ⟨_, rfl⟩
    have HER := hide her
    clear her
    by_cases h00 : er = 0
    ·subst h00
     have hqn := sdE_ne HER.out
     obtain ⟨d, q, hdq⟩ : ∃ d q, (ck.sd k).q = d :: q := by
      cases e : (ck.sd k).q with
      | nil => rw [e] at hqn; exact absurd rfl hqn
      | cons d q => exact ⟨d, q, rfl⟩
     have HDQ := hide hdq
     have HE0 : Hid (sdE now (ck.sd k).la (ck.sd k).nw lnk.b (q.length + 1) = 0) := hide (by have := HER.out; rw [hdq] at this; exact this)
     have hql : q.length ≤ 15 := by have := hso.2.2.2.2.1; rw [hdq, List.length_cons] at this; omega
     rw [hdq] at HSB
     have HSB2 := hide (ssend_ok (lf := lnk.f) (lt := lnk.t) gs base lnk.b lnk.q (a'.vs k) (ck.sd k).nx (ck.sd k).la (ck.sd k).nw q _ now d HE0 HSB.out.1 HSB.out.2.1 HSB.out.2.2.2 HSB.out.2.2.1 ⟨hso.2.2.1, hso.2.2.2.1⟩ ⟨hso.1, hso.2.1⟩ (by omega))
     clear hdq hqn
     go_wp2_with fail
     refine HSB2.out.mono ?_
     rintro e w5 ⟨rfl, hp5⟩
     obtain ⟨v, T1, T2⟩ := HA2.out.sent (k := k) (by show k < p.lk.length; rw [HNL.out]; exact hlt) HLk.out ⟨if (ck.sd k).nx + 1 = 256 then 1 else (ck.sd k).nx + 1, now, now, q⟩ (by rw [HGS.out]; exact hp5) (Nat.le_trans hb1 (by simp))
     have HT1 := hide T1
     have HK2 := hide ((HK.out.below ((Below.refl _ _).alloc (Nat.le_refl _) (.cells #[.int .i64 lnk.f, .int .i64 lnk.t, .int .i64 lnk.b, .int .i64 lnk.q] 88))).trans T2)
     have HR3' := hide (T2.blk (HR3.out.alloc _) HN3r.out); have HR4' := hide (T2.blk (HR4.out.alloc _) HN4r.out)
     have HN3' := hide (T2.not (HR3.out.alloc (.cells #[.int .i64 lnk.f, .int .i64 lnk.t, .int .i64 lnk.b, .int .i64 lnk.q] 88)).lt HN3r.out); have HN4' := hide (T2.not (HR4.out.alloc (.cells #[.int .i64 lnk.f, .int .i64 lnk.t, .int .i64 lnk.b, .int .i64 lnk.q] 88)).lt HN4r.out)
     clear T1 T2 hp5 k13 km t0 t1 t2 t3 t4 t5 hlt3 f0 f1 f2 f3 hso
     have HI6 := hide (Blk.new w5 305 #[.int .i64 (ck.sd k).nx, .string d])
     obtain ⟨i0, i1, i2, i3⟩ := HI6.out.cells2
     obtain ⟨t0, t1, t2, t3, t4, t5, g0, g1, g2, g3, g4, g5⟩ := HR3'.out.cells6
     obtain ⟨q0, q1, q2, q3, q4, q5, r0, r1, r2, r3, r4, r5⟩ := HR4'.out.cells6
     have hlt3 := HR3'.out.lt
     have hlt4 := HR4'.out.lt
     have HFIN : Hid (loadsF now node p.lk 0 c = ({ ck with sd := updF ck.sd k ⟨if (ck.sd k).nx + 1 = 256 then 1 else (ck.sd k).nx + 1, now, now, q⟩ }, ((k : Int), (ck.sd k).nx, d))) := hide (by rw [HLF.out, HD.out, loadsF_go HE.out HER.out, HDQ.out]; rfl)
     go_wp2_with fail
     go_region
     go_wp2_with fail
     exact bodyPost_ret (fr_results _ _ (w.heap.size + 1) _ _ _ _ _ _ rfl (((((((((((HR4'.out.far (p := ⟨w.heap.size, 3, none⟩) (Nat.ne_of_gt (Nat.lt_succ_self _)) _).far (p := ⟨w.heap.size, 4, none⟩) (Nat.ne_of_gt (Nat.lt_succ_self _)) _).far (p := ⟨w.heap.size, 5, none⟩) (Nat.ne_of_gt (Nat.lt_succ_self _)) _).set_ 0 _).set_ 1 _).set_ 2 _).set_ 3 _).set_ 4 _).set_ 5 _).alloc _).drew)) rfl ⟨by rw [HFIN.out], by rw [HFIN.out]; exact ⟨{ a' with vs := updF a'.vs k v }, hg, ((((((((((HT1.out.far (p := ⟨w.heap.size, 3, none⟩) HN3'.out _).far (p := ⟨w.heap.size, 4, none⟩) HN3'.out _).far (p := ⟨w.heap.size, 5, none⟩) HN3'.out _).far (p := ⟨w.heap.size + 1, 0, none⟩) HN4'.out _).far (p := ⟨w.heap.size + 1, 1, none⟩) HN4'.out _).far (p := ⟨w.heap.size + 1, 2, none⟩) HN4'.out _).far (p := ⟨w.heap.size + 1, 3, none⟩) HN4'.out _).far (p := ⟨w.heap.size + 1, 4, none⟩) HN4'.out _).far (p := ⟨w.heap.size + 1, 5, none⟩) HN4'.out _).alloc _).drew, (((((((((((HKW.out.trans HK2.out).setNew (p := ⟨w.heap.size, 3, none⟩) (Nat.le_refl _) _).setNew (p := ⟨w.heap.size, 4, none⟩) (Nat.le_refl _) _).setNew (p := ⟨w.heap.size, 5, none⟩) (Nat.le_refl _) _).setNew (p := ⟨w.heap.size + 1, 0, none⟩) (Nat.le_succ _) _).setNew (p := ⟨w.heap.size + 1, 1, none⟩) (Nat.le_succ _) _).setNew (p := ⟨w.heap.size + 1, 2, none⟩) (Nat.le_succ _) _).setNew (p := ⟨w.heap.size + 1, 3, none⟩) (Nat.le_succ _) _).setNew (p := ⟨w.heap.size + 1, 4, none⟩) (Nat.le_succ _) _).setNew (p := ⟨w.heap.size + 1, 5, none⟩) (Nat.le_succ _) _).below ((Below.refl _ _).alloc (Nat.le_refl _) _)).drew⟩⟩
    ·have HSB2 := hide (ssend_bad (lf := lnk.f) (lt := lnk.t) gs base lnk.b lnk.q (a'.vs k) (ck.sd k).nx (ck.sd k).la (ck.sd k).nw (ck.sd k).q _ now er HER h00 HSB.out.1 HSB.out.2.1 HSB.out.2.2.2 HSB.out.2.2.1 ⟨hso.2.2.1, hso.2.2.2.1⟩ (by omega))
     have de : (er == 0) = false := by simpa using h00
     go_wp2_with fail
     refine HSB2.out.mono ?_
     rintro e w5 ⟨rfl, hp5⟩
     obtain ⟨v, T1, T2⟩ := HA2.out.sent (k := k) (by show k < p.lk.length; rw [HNL.out]; exact hlt) HLk.out { ck.sd k with nw := sdN er now (ck.sd k).nw } (by rw [HGS.out]; exact hp5) (Nat.le_trans hb1 (by simp))
     have HT1 := hide T1; have HT2 := hide T2
     have HK2 := hide ((HK.out.below ((Below.refl _ _).alloc (Nat.le_refl _) (.cells #[.int .i64 lnk.f, .int .i64 lnk.t, .int .i64 lnk.b, .int .i64 lnk.q] 88))).trans T2)
     have HR3' := hide (T2.blk (HR3.out.alloc _) HN3r.out); have HR4' := hide (T2.blk (HR4.out.alloc _) HN4r.out)
     clear T1 T2 hp5 k13 km t0 t1 t2 t3 t4 t5 hlt3 f0 f1 f2 f3
     go_wp2_with fail
     go_roundw
     case rel => exact ⟨k + 1, _, by omega, by go_num, hide (HR3'.out.alloc _), hide (HR4'.out.alloc _), hide (by rw [HLF.out, HD.out, loadsF_no HE.out (by rw [HER.out]; exact h00), HER.out]), hide (fun j => by
      by_cases e : j = k
      ·subst e; simp only [updF_self']; exact hso
      ·simp only [updF_ne' (ck.sd) e]; exact HSO.out j), hide ⟨{ a' with vs := updF a'.vs k v }, hg, HT1.out.alloc _, HK2.out.below ((Below.refl _ _).alloc (Nat.le_refl _) _)⟩⟩
     case measure => simp [intOf]; omega
   ·have d1 : (lnk.f != (node : Int)) = true := by simpa using hf
    go_wp2_with fail
    go_roundw
    case rel => exact ⟨k + 1, ck, by omega, by go_num, hide (HR3.out.alloc _), hide (HR4.out.alloc _), hide (by rw [HLF.out, HD.out, loadsF_skip hf]), HSO, hide (HC.out.below ((Below.refl _ _).alloc (Nat.le_refl _) _))⟩
    case measure => simp [intOf]; omega
  ·obtain rfl : k = nl := by omega
   have hlt3 := HR3.out.lt
   have hlt4 := HR4.out.lt
   obtain ⟨t0, t1, t2, t3, t4, t5, _⟩ := HR3.out.cells6
   obtain ⟨q0, q1, q2, q3, q4, q5, g0, g1, g2, g3, g4, g5⟩ := HR4.out.cells6
   have HEND : Hid (loadsF now node p.lk 0 c = (ck, (-1, 0, ⟨#[]⟩))) := hide (by rw [HLF.out, List.drop_eq_nil_of_le (by rw [HNL.out]; exact Nat.le_refl _)]; rfl)
   go_wp2_with fail
   exact bodyPost_ret (fr_results _ _ (w.heap.size + 1) _ _ _ _ _ _ rfl (((((((HR4.out.set_ 0 _).set_ 1 _).set_ 2 _).set_ 3 _).set_ 4 _).set_ 5 _))) rfl ⟨by rw [HEND.out], by rw [HEND.out]; exact ⟨a', hg, ((((((HA.out.far (p := ⟨w.heap.size + 1, 0, none⟩) HN4r.out _).far (p := ⟨w.heap.size + 1, 1, none⟩) HN4r.out _).far (p := ⟨w.heap.size + 1, 2, none⟩) HN4r.out _).far (p := ⟨w.heap.size + 1, 3, none⟩) HN4r.out _).far (p := ⟨w.heap.size + 1, 4, none⟩) HN4r.out _).far (p := ⟨w.heap.size + 1, 5, none⟩) HN4r.out _), (((((((HKW.out.trans HK.out).setNew (p := ⟨w.heap.size + 1, 0, none⟩) (Nat.le_succ _) _).setNew (p := ⟨w.heap.size + 1, 1, none⟩) (Nat.le_succ _) _).setNew (p := ⟨w.heap.size + 1, 2, none⟩) (Nat.le_succ _) _).setNew (p := ⟨w.heap.size + 1, 3, none⟩) (Nat.le_succ _) _).setNew (p := ⟨w.heap.size + 1, 4, none⟩) (Nat.le_succ _) _).setNew (p := ⟨w.heap.size + 1, 5, none⟩) (Nat.le_succ _) _)⟩⟩
end
section
open Go Go.RowKit
section
variable {p : Pl} {N : Nat} {c : Cl}
theorem hearsF_ok (h : ClOk p N c) {from_ : Nat} (hf : from_ < 16) (tn slot : Nat) (fr : Option FrR) (ls : List Ls) : ClOk p (N + 5) (hearsF p from_ tn slot fr ls c) := by
 rw [hearsF_ch]
 have h2 := hearCh_ok h tn slot fr ls 2
 exact h2.setMm tn (Mm.hear_ok (h2.mm tn) hf)
theorem hearAll_ok (h : ClOk p N c) {nd : Nat} (hf : nd < 16) (slot : Nat) (fr : Option FrR) (ls : List Ls) : ∀ k, ClOk p (N + 5 * k) (hearAll p nd slot fr ls c k)
 | 0 => h
 | k + 1 => by
  have ih := hearAll_ok h hf slot fr ls k
  unfold hearAll
  split
  ·exact ih.mono (by omega)
  ·exact (hearsF_ok ih hf k slot fr ls).mono (by omega)
theorem sdE_zero {now la nw bag : Int} {n : Nat} (h : sdE now la nw bag n = 0) : 0 ≤ now ∧ now ≤ 1099511627776 ∧ nw ≤ now ∧ n ≠ 0 := by
 unfold sdE at h
 repeat' split at h
 all_goals first | (exact absurd h (by decide)) | skip
 rename_i h1 h2 h3
 exact ⟨by omega, by omega, by omega, fun e => h3 (.inl e)⟩
theorem loads_ok (now nd : Int) : ∀ (ls : List Lk) (k : Nat) (c : Cl), ClOk p N c → (∀ (j : Nat) (l : Lk), ls[j]? = some l → p.lk[k + j]? = some l) → ClOk p N (loadsF now nd ls k c).1 ∧ (((loadsF now nd ls k c).2.1 = -1 ∧ (loadsF now nd ls k c).2.2.1 = 0 ∧ (loadsF now nd ls k c).2.2.2 = ⟨#[]⟩) ∨ (∃ (j : Nat) (l : Lk), (loadsF now nd ls k c).2.1 = j ∧ p.lk[j]? = some l ∧ 0 ≤ (loadsF now nd ls k c).2.2.1 ∧ (loadsF now nd ls k c).2.2.1 ≤ 255 ∧ (loadsF now nd ls k c).2.2.2.size ≤ 40))
 | [], _, c, h, _ => ⟨h, .inl ⟨rfl, rfl, rfl⟩⟩
 | l :: ls, k, c, h, hd => by
  have hk : p.lk[k]? = some l := by simpa using hd 0 l (by simp)
  have hd' : ∀ (j : Nat) (l' : Lk), ls[j]? = some l' → p.lk[k + 1 + j]? = some l' := fun j l' hj => by
   have := hd (j + 1) l' (by simpa using hj)
   rw [show k + 1 + j = k + (j + 1) by omega]; exact this
  have hso := h.sd k
  unfold loadsF
  by_cases hf : l.f = nd
  ·rw [if_pos hf]
   by_cases h0 : sdE now (c.sd k).la (c.sd k).nw l.b (c.sd k).q.length = 0
   ·rw [if_pos h0]
    obtain ⟨z1, z2, _, z4⟩ := sdE_zero h0
    obtain ⟨d, q, hdq⟩ : ∃ d q, (c.sd k).q = d :: q := by
     cases e : (c.sd k).q with
     | nil => rw [e] at z4; exact absurd rfl z4
     | cons d q => exact ⟨d, q, rfl⟩
    have hl := hso.2.2.2.2.1
    have hm := hso.2.2.2.2.2
    rw [hdq] at hl hm
    rw [hdq]
    rw [List.length_cons] at hl
    exact ⟨h.setSd k ⟨by dsimp only; split <;> omega, by dsimp only; split <;> omega, by dsimp only; omega, by dsimp only; omega, by dsimp only [List.tail_cons]; omega, fun x hx => hm x (List.mem_cons_of_mem _ hx)⟩, .inr ⟨k, l, rfl, hk, hso.1, hso.2.1, hm d (List.mem_cons_self ..)⟩⟩
   ·rw [if_neg h0]
    exact loads_ok now nd ls (k + 1) _ (h.setSd k hso) hd'
  ·rw [if_neg hf]
   exact loads_ok now nd ls (k + 1) c h hd'
theorem slotF_ok (h : ClOk p N c) (hp : PlOk p) (fy : Nat) (r : Rn) (i : Nat) : ClOk p (N + 81) (slotF p fy r i c) := by
 unfold slotF
 cases hs : p.sl[i]? with
 | none => exact h.mono (by omega)
 | some s =>
  dsimp only
  have h1 := hp.slot i s hs
  have h2 := hp.n16
  have hm := h.setMm s.n.toNat (Mm.send_ok (h.mm s.n.toNat))
  split
  ·exact (hearAll_ok (loads_ok (c.rd * p.rd + s.f) s.n p.lk 0 _ hm (by simp)).1 (by omega) i _ r.ls p.nd.toNat).mono (by omega)
  ·exact (hearAll_ok hm (by omega) i _ r.ls p.nd.toNat).mono (by omega)
theorem slotsF_ok (h : ClOk p N c) (hp : PlOk p) (fy : Nat) (r : Rn) : ∀ k, ClOk p (N + 81 * k) (slotsF p fy r c k)
 | 0 => h
 | k + 1 => (slotF_ok (slotsF_ok h hp fy r k) hp fy r k).mono (by omega)
theorem chanF_rd (p : Pl) (tn : Nat) (f : FrR) (c : Cl) : (chanF p tn f c).rd = c.rd ∧ (chanF p tn f c).ck = c.ck := by
 unfold chanF
 split
 ·exact ⟨rfl, rfl⟩
 ·split
  ·exact ⟨rfl, rfl⟩
  ·split <;> exact ⟨rfl, rfl⟩
theorem hearCh_rd (p : Pl) (tn slot : Nat) (fr : Option FrR) (ls : List Ls) (c : Cl) : ∀ k, (hearCh p tn slot fr ls c k).rd = c.rd ∧ (hearCh p tn slot fr ls c k).ck = c.ck
 | 0 => ⟨rfl, rfl⟩
 | k + 1 => by
  have ih := hearCh_rd p tn slot fr ls c k
  unfold hearCh chanO
  split
  ·exact ih
  ·split
   ·exact ⟨(chanF_rd _ _ _ _).1.trans ih.1, (chanF_rd _ _ _ _).2.trans ih.2⟩
   ·exact ih
theorem hearAll_rd (p : Pl) (nd slot : Nat) (fr : Option FrR) (ls : List Ls) (c : Cl) : ∀ k, (hearAll p nd slot fr ls c k).rd = c.rd ∧ (hearAll p nd slot fr ls c k).ck = c.ck
 | 0 => ⟨rfl, rfl⟩
 | k + 1 => by
  have ih := hearAll_rd p nd slot fr ls c k
  unfold hearAll
  split
  ·exact ih
  ·rw [hearsF_ch]
   exact ⟨(hearCh_rd _ _ _ _ _ _ 2).1.trans ih.1, (hearCh_rd _ _ _ _ _ _ 2).2.trans ih.2⟩
theorem loadsF_rd (now nd : Int) : ∀ (ls : List Lk) (k : Nat) (c : Cl), (loadsF now nd ls k c).1.rd = c.rd ∧ (loadsF now nd ls k c).1.ck = c.ck
 | [], _, _ => ⟨rfl, rfl⟩
 | l :: ls, k, c => by
  unfold loadsF
  split
  ·split
   ·exact ⟨rfl, rfl⟩
   ·exact loadsF_rd now nd ls (k + 1) _
  ·exact loadsF_rd now nd ls (k + 1) c
theorem slotF_rd (p : Pl) (fy : Nat) (r : Rn) (i : Nat) (c : Cl) : (slotF p fy r i c).rd = c.rd ∧ (slotF p fy r i c).ck = c.ck := by
 unfold slotF
 cases p.sl[i]? with
 | none => exact ⟨rfl, rfl⟩
 | some s =>
  dsimp only
  split
  ·exact ⟨(hearAll_rd _ _ _ _ _ _ _).1.trans (loadsF_rd _ _ _ _ _).1, (hearAll_rd _ _ _ _ _ _ _).2.trans (loadsF_rd _ _ _ _ _).2⟩
  ·exact hearAll_rd _ _ _ _ _ _ _
theorem slotsF_rd (p : Pl) (fy : Nat) (r : Rn) (c : Cl) : ∀ k, (slotsF p fy r c k).rd = c.rd ∧ (slotsF p fy r c k).ck = c.ck
 | 0 => ⟨rfl, rfl⟩
 | k + 1 => ⟨(slotF_rd p fy r k _).1.trans (slotsF_rd p fy r c k).1, (slotF_rd p fy r k _).2.trans (slotsF_rd p fy r c k).2⟩
end
end
section
open Go Go.RowKit
attribute [local irreducible] sendsV sendsOk tellM modeV hearAll loadsF Mm.send
theorem msg_16 (mm who nx : Nat) (hm : mm < 65536) (hw : who < 16) (hx : nx < 16) : bits .xor .i64 (mm : Int) (bits .or .i64 (wrap64 (2 ^ who)) (wrap64 (2 ^ nx))) = ((mm ^^^ (2 ^ who ||| 2 ^ nx) : Nat) : Int) := by
 have h1 : 2 ^ who ≤ 2 ^ 15 := Nat.pow_le_pow_right (by omega) (by omega)
 have h2 : 2 ^ nx ≤ 2 ^ 15 := Nat.pow_le_pow_right (by omega) (by omega)
 have h3 : 2 ^ who ||| 2 ^ nx < 2 ^ 16 := Nat.or_lt_two_pow (by omega) (by omega)
 rw [pow_small who (by omega), pow_small nx (by omega), i64_or_nat _ _ (by omega) (by omega), i64_xor_nat _ _ (by omega) (by omega)]
theorem tellM_lt {nd node m : Nat} {md : Int} (hm : m < 65536) (hn : node < nd) (hnd : nd ≤ 16) : tellM nd node m md < 65536 := by
 unfold tellM
 split
 ·have h1 : 2 ^ node ≤ 2 ^ 15 := Nat.pow_le_pow_right (by omega) (by omega)
  have h2 : 2 ^ ((node + 1) % nd) ≤ 2 ^ 15 := Nat.pow_le_pow_right (by omega) (by have := Nat.mod_lt (node + 1) (show 0 < nd by omega); omega)
  exact xor_lt16 hm (Nat.or_lt_two_pow (n := 16) (by omega) (by omega))
 ·exact hm
theorem sendsV_nat (m : Nat) (gd bd : Int) (fz : Bool) (hm : m < 65536) : ∃ v : Nat, sendsV m gd bd fz = v ∧ v < 65536 := by
 unfold sendsV
 split
 ·exact ⟨m, rfl, hm⟩
 ·exact ⟨0, rfl, by omega⟩
theorem slotF_eq {p : Pl} {fy : Nat} {r : Rn} {i : Nat} {c : Cl} {s : Sl} (hs : p.sl[i]? = some s) {node v : Nat} (hn : s.n = node) {md : Int} (hmd : modeV fy r.md node = md) (hv : sendsV (c.mm node).m (c.mm node).gd (c.mm node).bd (c.mm node).fz = v) :
 slotF p fy r i c = if (sendsOk (c.mm node).gd (c.mm node).bd (c.mm node).fz && decide (md ≠ 1)) = true then hearAll p node i (some ⟨node, i, (tellM p.nd.toNat node v md : Nat), (loadsF (c.rd * p.rd + s.f) node p.lk 0 { c with mm := updF c.mm node (c.mm node).send }).2.1, (loadsF (c.rd * p.rd + s.f) node p.lk 0 { c with mm := updF c.mm node (c.mm node).send }).2.2.1, (loadsF (c.rd * p.rd + s.f) node p.lk 0 { c with mm := updF c.mm node (c.mm node).send }).2.2.2⟩) r.ls (loadsF (c.rd * p.rd + s.f) node p.lk 0 { c with mm := updF c.mm node (c.mm node).send }).1 p.nd.toNat else hearAll p node i none r.ls { c with mm := updF c.mm node (c.mm node).send } p.nd.toNat := by
 have e : s.n.toNat = node := by omega
 unfold slotF
 rw [hs]
 dsimp only
 rw [e, hmd, hv, Int.toNat_natCast, hn]
theorem hearAll_zero (p : Pl) (nd slot : Nat) (fr : Option FrR) (ls : List Ls) (c : Cl) : hearAll p nd slot fr ls c 0 = c := by unfold hearAll; rfl
theorem hearAll_skip {p : Pl} {nd slot k : Nat} {fr : Option FrR} {ls : List Ls} {c : Cl} (h : k = nd) : hearAll p nd slot fr ls c (k + 1) = hearAll p nd slot fr ls c k := by
 conv => lhs; unfold hearAll
 rw [if_pos h]
theorem hearAll_step {p : Pl} {nd slot k : Nat} {fr : Option FrR} {ls : List Ls} {c : Cl} (h : ¬ k = nd) : hearAll p nd slot fr ls c (k + 1) = hearsF p nd k slot fr ls (hearAll p nd slot fr ls c k) := by
 conv => lhs; unfold hearAll
 rw [if_neg h]
set_option maxRecDepth 100000 in
set_option maxHeartbeats 4000000 in
theorem slot_any {base : Nat} {a : Ad} {p : Pl} {P : Sv3} {fy : Nat} {c : Cl} {N : Nat} (w : World) {K : World → (Ix → Ob) → Prop} (hKK : Cls K) (AS AL : Option Addr) (cs cl : Nat) (hPS : P.s = .slice AS p.sl.length cs) (hP : P.l = .slice AL p.lk.length cl) (h : ClAt w base a (fullN p) p P fy c) (hp : PlOk p) (hc : ClOk p N c) (hN : N ≤ 800000000000) (hr : c.rd ≤ 7000) (hfy : fy < 65536) (hS : ∀ W S, K W S → SlotsAt W AS p.sl.length p.sl) (hL : ∀ W S, K W S → LinksAt W AL p.lk.length p.lk) (hB0 : K w (shape a (fullN p) p P fy c)) (hbase : base ≤ w.heap.size)
 (A : Option Addr) (cp : Nat) (r : Rn) (hA : ∀ W S, K W S → LossAt W A r.ls) (hmax : r.ls.length ≤ 9223372036854775807) (y1 y2 : Value) (AM : Option Addr) (cm : Nat) (hM : ∀ W S, K W S → IsL W AM r.md) (hmm : r.md.length ≤ 9223372036854775807) (i : Nat) (s : Sl) (hs : p.sl[i]? = some s) :
 Calls Tryz.prog 141 #[.pointer (some ⟨a.g, 0, none⟩), .int .i64 i, .agg #[.slice A r.ls.length cp, y1, y2, .slice AM r.md.length cm]] w fun e w' => e = .returned (.tuple #[]) ∧ ClTo w base a (fullN p) p P fy c w' (slotF p fy r i c) := by
 have hsl := hp.slot i s hs
 have hn16 := hp.n16
 have hn1 := hp.n1
 have hi32 : i < p.sl.length := (List.getElem?_eq_some_iff.1 hs).1
 have hsl32 := hp.sl
 obtain ⟨node, hnode⟩ : ∃ node : Nat, s.n = node := ⟨s.n.toNat, by omega⟩
 obtain ⟨nd, hnd⟩ : ∃ nd, p.nd.toNat = nd := ⟨_, rfl⟩
 have hnlt : node < nd := by omega
 have hnd16 : nd ≤ 16 := by omega
 have hpnd : p.nd = (nd : Int) := by omega
 obtain ⟨w2, hw2⟩ : ∃ w2, (w.alloc (.cells #[.slice A r.ls.length cp, y1, y2, .slice AM r.md.length cm] 35)).alloc (.cells #[.int .i64 node, .int .i64 i, .int .i64 0, .int .i64 (-1), .int .i64 0, .string ⟨#[]⟩] 269) = w2 := ⟨_, rfl⟩
 have hBW : Below w.heap.size w w2 := by rw [← hw2]; exact ((Below.refl w.heap.size w).alloc (Nat.le_refl _) _).alloc (by simp) _
 have hX : Blk w2 w.heap.size 35 #[.slice A r.ls.length cp, y1, y2, .slice AM r.md.length cm] := by rw [← hw2]; exact (Blk.new w _ _).alloc _
 have hF : Blk w2 (w.heap.size + 1) 269 #[.int .i64 node, .int .i64 i, .int .i64 0, .int .i64 (-1), .int .i64 0, .string ⟨#[]⟩] := by rw [← hw2]; have := Blk.new (w.alloc (.cells #[.slice A r.ls.length cp, y1, y2, .slice AM r.md.length cm] 35)) 269 #[.int .i64 node, .int .i64 i, .int .i64 0, .int .i64 (-1), .int .i64 0, .string ⟨#[]⟩]; rw [World.size_alloc] at this; exact this
 have hbase2 := Nat.le_trans hbase hBW.size
 have HKW := hide (KeptS.of_below (S := shape a (fullN p) p P fy c) hBW)
 have HN3 := hide (h.not_new (Nat.le_refl w.heap.size))
 have HN4 := hide (h.not_new (Nat.le_succ w.heap.size))
 have Hh := hide (h.below hBW)
 have HKK := hide hKK
 have HB0 := hide (hKK.step hB0 HKW.out)
 have Hw := hide h; have HBw := hide hB0
 obtain ⟨G, hG⟩ : ∃ G, a.g = G := ⟨_, rfl⟩
 rw [hG]
 have k6 := (h.cluC hG).2.2.2.2.2.2.1
 obtain ⟨bs, os, hAS, sl2, hl2, kn, _, _⟩ := (hS _ _ hB0) i hi32
 rw [hs] at hl2; cases hl2
 rw [hnode] at kn
 rw [hPS, hAS] at k6
 have hGlt := h.cluB.lt
 rw [hG] at hGlt
 have hblt := World.block_lt_of_cell? _ _ kn
 dsimp only at hblt
 obtain ⟨bm, om, cmm, k12, km⟩ := h.memC hG (show (fullN p).nm = nd from hnd) hnlt
 obtain ⟨gm, hgm⟩ : ∃ gm, a.gm node = gm := ⟨_, rfl⟩
 rw [hgm] at km
 have hbmlt := World.block_lt_of_cell? _ _ km
 dsimp only at hbmlt
 have HM := hide (Hh.out.memB (i := node) (by show node < p.nd.toNat; omega))
 rw [hgm] at HM
 obtain ⟨v, hv, hv16⟩ := sendsV_nat (c.mm node).m (c.mm node).gd (c.mm node).bd (c.mm node).fz (hc.mm node).1
 have HSE := hide (sends_in gm node p.nd.toNat _ _ _ _ w2 HM.out)
 rw [Mm.sendC, hv] at HSE
 obtain ⟨ok0, hok0⟩ : ∃ ok0, sendsOk (c.mm node).gd (c.mm node).bd (c.mm node).fz = ok0 := ⟨_, rfl⟩
 rw [hok0] at HSE
 obtain ⟨md, hmd⟩ : ∃ md, modeV fy r.md node = md := ⟨_, rfl⟩
 have HFIN := hide (slotF_eq (c := c) hs hnode hmd hv)
 rw [hok0] at HFIN
 have hk7 := hF.cell 2
 have hfz7 := hF.frozen 2
 have hltF := hF.lt
 have hltX := hX.lt
 have HW2 := hide hw2; have HX := hide hX; have HF := hide hF; have HP := hide hp; have HOK := hide hc; have HL := hide hL; have HS := hide hS; have HPL := hide hP; have HPS := hide hPS; have HG := hide hG; have HA := hide hA; have HIM := hide hM; have HGM := hide hgm; have HV := hide hv; have HMD := hide hmd; have HS1 := hide hs; have HND := hide hnd; have HPN := hide hpnd
 simp at hk7
 clear hw2 hX hF h hP hPS hG hL hS hB0 hKK hBW hA hM hgm hv hmd hs hnode hnd hc hp hsl hok0 hpnd hltX
 obtain ⟨ns, hns⟩ : ∃ ns, p.sl.length = ns := ⟨_, rfl⟩
 rw [hns] at k6 hi32 hsl32
 clear hns
 go_enter Tryz.func141, Tryz.ntmps141
 go_wp2_with fail
 rw [HW2.out]
 refine HSE.out.mono ?_
 rintro e w3 ⟨rfl, hb3, hg3⟩
 have T := Hh.out.memTo (i := node) (by show node < p.nd.toNat; rw [HND.out]; exact hnlt) (c.mm node).send (by rw [HGM.out]; exact hb3) (by rw [HGM.out]; exact hg3) hbase2
 obtain ⟨c1, hc1⟩ : ∃ c1 : Cl, { c with mm := updF c.mm node (c.mm node).send } = c1 := ⟨_, rfl⟩
 have HOK1 : Hid (ClOk p (N + 1) c1) := hide (by rw [← hc1]; exact HOK.out.setMm node (Mm.send_ok (HOK.out.mm node)))
 have hrd1 : c1.rd = c.rd := by rw [← hc1]
 rw [hc1] at HFIN T
 have HX3 := hide (T.2.blk HX.out HN3.out); have HF3 := hide (T.2.blk HF.out HN4.out)
 have HN3' := hide (T.2.not HX.out.lt HN3.out); have HN4' := hide (T.2.not HF.out.lt HN4.out)
 have HF4 := hide (HF3.out.set_ 2 (.int .i64 (v : Nat)))
 have HX4 := hide (HX3.out.far (p := ⟨w.heap.size + 1, 2, none⟩) (Nat.ne_of_lt (Nat.lt_succ_self _)) (.int .i64 (v : Nat)))
 have HA4 := hide (T.1.far (p := ⟨w.heap.size + 1, 2, none⟩) HN4'.out (.int .i64 (v : Nat)))
 have HK4 := hide ((HKW.out.trans T.2).setNew (p := ⟨w.heap.size + 1, 2, none⟩) (Nat.le_succ _) (.int .i64 (v : Nat)))
 obtain ⟨_, _, u2, _, _, _, _, _, v2, _⟩ := HF3.out.cells6
 obtain ⟨x0, x1, x2, x3⟩ := HX3.out.cells4
 have HMO := hide (mode_any G p.nd p.fa p.sk p.ji p.dr p.rd P.s P.l p.fr P.q a.mm a.sd a.tk a.pr c1.rd fy node a.ck (.slice A r.ls.length cp) y1 y2 AM cm r.md _ (by have := HA4.out.cluB; rw [HG.out] at this; exact this) hfy (by omega) (HIM.out _ _ (HKK.out.step HBw.out HK4.out)) hmm)
 rw [HMD.out] at HMO
 clear T hb3 hg3 hc1 k6 k12 km kn hk7 hfz7 hltF
 go_wp2_with fail
 refine HMO.out.mono ?_
 rintro e w5 ⟨rfl, hB5⟩
 have HX5 := hide (HX4.out.below hB5 HX4.out.lt); have HF5 := hide (HF4.out.below hB5 HF4.out.lt)
 have HA5 := hide (HA4.out.below hB5); have HK5 := hide (HK4.out.below hB5)
 clear hB5 x0 x1 x2 x3 u2 v2 HMO HSE HX4 HF4 HA4 HK4 HX3 HF3
 obtain ⟨nx, hnx⟩ : ∃ nx : Nat, nx = (node + 1) % nd := ⟨_, rfl⟩
 have hx : nx < nd := by rw [hnx]; exact Nat.mod_lt _ (by omega)
 have qx : ((node : Int) + 1) % (nd : Int) = nx := by rw [hnx]; simp
 have HNX := hide hnx
 clear hnx
 have hm1 := hide (msg_16 v node nx hv16 (by clear qx; omega) (by clear qx; omega))
 obtain ⟨T, hT⟩ : ∃ T, tellM p.nd.toNat node v md = T := ⟨_, rfl⟩
 have HTL : Hid (T < 65536) := hide (by rw [← hT]; exact tellM_lt hv16 (by rw [HND.out]; exact hnlt) (by rw [HND.out]; exact hnd16))
 have HTM := hide hT
 rw [hT] at HFIN
 clear hT
 go_upto_block 0 with fail
 go_cut [9] from 9 to 60 (fun okv wx => okv = .bool (ok0 && decide (md ≠ 1)) ∧ Hid (Blk wx w.heap.size 35 #[.slice A r.ls.length cp, y1, y2, .slice AM r.md.length cm]) ∧ Hid (Blk wx (w.heap.size + 1) 269 #[.int .i64 node, .int .i64 i, .int .i64 (T : Nat), .int .i64 (-1), .int .i64 0, .string ⟨#[]⟩]) ∧ Hid (ClAt wx base a (fullN p) p P fy c1) ∧ Hid (KeptS w wx (shape a (fullN p) p P fy c) (shape a (fullN p) p P fy c1)))
 case first =>
  by_cases h1 : md = 1
  ·subst h1
   have hTv : v = T := by rw [← HTM.out]; unfold tellM; rw [if_neg (by decide)]
   subst hTv
   go_wp2_with fail
   go_meet
   exact ⟨by simp, HX5, HF5, HA5, HK5⟩
  ·by_cases h2 : md = 2
   ·subst h2
    have hTv : T = v ^^^ (2 ^ node ||| 2 ^ nx) := by rw [← HTM.out]; unfold tellM; rw [if_pos rfl, HND.out, HNX.out]
    have k0 := (HA5.out.cluC HG.out).1
    rw [HPN.out] at k0
    obtain ⟨_, _, u2, _, _, _, _, _, v2, _⟩ := HF5.out.cells6
    go_wp2_with fail
    go_region
    go_wp2_with fail
    go_meet
    refine ⟨by simp, hide ?_, hide ?_, hide ?_, hide ?_⟩
    ·exact (HX5.out.far (p := ⟨w.heap.size + 1, 2, none⟩) (Nat.ne_of_lt (Nat.lt_succ_self _)) _).drew
    ·rw [hm1.out, ← hTv]
     exact (HF5.out.set_ 2 _).drew
    ·exact (HA5.out.far (p := ⟨w.heap.size + 1, 2, none⟩) HN4'.out _).drew
    ·exact (HK5.out.setNew (p := ⟨w.heap.size + 1, 2, none⟩) (Nat.le_succ _) _).drew
   ·have hTv : v = T := by rw [← HTM.out]; unfold tellM; rw [if_neg h2]
    subst hTv
    have d1 : (md == 1) = false := by simpa using h1
    have d2 : (md == 2) = false := by simpa using h2
    go_wp2_with fail
    go_meet
    exact ⟨by simp [h1], HX5, HF5, HA5, HK5⟩
 case rest =>
  obtain ⟨rfl, HX6, HF6, HA6, HK6⟩ := hcut
  clear HX5 HF5 HA5 HK5 hm1 HTM HMD
  obtain ⟨ok, hok⟩ : ∃ ok, (ok0 && decide (md ≠ 1)) = ok := ⟨_, rfl⟩
  rw [hok] at HFIN ⊢
  clear hok
  go_upto_if 61 with fail
  go_cut [10] from 9 to 69 (fun bv wx => ∃ (fr : Option FrR) (c2 : Cl) (a2 : Ad), a2.g = G ∧ Hid (BtsAt wx (shape a2 (fullN p) p P fy c2) bv fr) ∧ Hid (Blk wx w.heap.size 35 #[.slice A r.ls.length cp, y1, y2, .slice AM r.md.length cm]) ∧ Hid (ClAt wx base a2 (fullN p) p P fy c2) ∧ Hid (KeptS w wx (shape a (fullN p) p P fy c) (shape a2 (fullN p) p P fy c2)) ∧ Hid (∀ f, fr = some f → FrOk p node i f) ∧ Hid (ClOk p (N + 1) c2) ∧ Hid (slotF p fy r i c = hearAll p node i fr r.ls c2 nd) ∧ Hid (¬ Fmy (shape a2 (fullN p) p P fy c2) w.heap.size))
  case first =>
   cases ok
   ·have HF0 : Hid (slotF p fy r i c = hearAll p node i none r.ls c1 nd) := hide (by rw [HFIN.out, if_neg (by decide), HND.out])
    go_wp2_with fail
    go_meet
    exact ⟨none, c1, a, HG.out, hide rfl, HX6, HA6, HK6, hide (fun f e => by cases e), HOK1, HF0, HN3'⟩
   ·have HLO := hide (loads_any wc HKK.out AS AL cs cl HPS.out HPL.out HA6.out HP.out HOK1.out (by rw [hrd1]; exact hr) HS.out HL.out (HKK.out.step HBw.out HK6.out) (Nat.le_trans hbase HK6.out.size) node i T s HS1.out)
    have hres := loads_ok (c1.rd * p.rd + s.f) node p.lk 0 c1 HOK1.out (by simp)
    rw [hrd1] at HLO hres
    rw [HG.out] at HLO
    obtain ⟨LF, hLF⟩ : ∃ LF, loadsF (c.rd * p.rd + s.f) node p.lk 0 c1 = LF := ⟨_, rfl⟩
    rw [hLF] at HLO hres HFIN
    have HF0 : Hid (slotF p fy r i c = hearAll p node i (some ⟨node, i, (T : Nat), LF.2.1, LF.2.2.1, LF.2.2.2⟩) r.ls LF.1 nd) := hide (by rw [HFIN.out, if_pos rfl, HND.out])
    have HRES := hide hres.2
    have HLOK := hide hres.1
    clear hLF hres HFIN
    obtain ⟨z0, z1, z2, z3, z4, z5, _⟩ := HF6.out.cells6
    go_wp2_with fail
    refine HLO.out.mono ?_
    rintro e w7 ⟨rfl, a2, hg2, hA2, hK2⟩
    have HA7 := hide hA2; have HK7 := hide (HK6.out.trans hK2)
    have HF7 := hide (hK2.blk HF6.out HN4'.out); have HX7 := hide (hK2.blk HX6.out HN3'.out)
    have HN47 := hide (hK2.not HF6.out.lt HN4'.out); have HN37 := hide (hK2.not HX6.out.lt HN3'.out)
    obtain ⟨u0, u1, u2, u3, u4, u5, v0, v1, v2, v3, v4, v5⟩ := HF7.out.cells6
    clear hA2 hK2 HLO z0 z1 z2 z3 z4 z5
    have hfo : fOk node i (T : Nat) LF.2.1 LF.2.2.1 LF.2.2.2.size = true := by
     have ht := HTL.out
     unfold fOk
     apply decide_eq_true
     refine ⟨⟨by omega, by omega, by omega, by omega, by omega, by omega⟩, ?_⟩
     rcases HRES.out with ⟨r1, r2, r3⟩ | ⟨j, l, r1, r2, r3, r4, r5⟩
     ·exact .inl ⟨r1, r2, by rw [r3]; rfl⟩
     ·have := (List.getElem?_eq_some_iff.1 r2).1
      have := HP.out.lk
      exact .inr ⟨by omega, by omega, by omega, by omega, r5⟩
    obtain ⟨lb, hE, hl256, h7, h49, hdo, hdF, _⟩ := enc_good node i (T : Nat) LF.2.1 LF.2.2.1 LF.2.2.2 hfo
    have HE := hide hE; have H256 := hide hl256; have H7 := hide h7; have HDO := hide hdo; have HDF := hide hdF
    have HAB := hide ((((((HA7.out.far (p := ⟨w.heap.size + 1, 0, none⟩) HN47.out (.int .i64 node)).far (p := ⟨w.heap.size + 1, 1, none⟩) HN47.out (.int .i64 i)).far (p := ⟨w.heap.size + 1, 2, none⟩) HN47.out (.int .i64 (T : Nat))).far (p := ⟨w.heap.size + 1, 3, none⟩) HN47.out (.int .i64 LF.2.1)).far (p := ⟨w.heap.size + 1, 4, none⟩) HN47.out (.int .i64 LF.2.2.1)).far (p := ⟨w.heap.size + 1, 5, none⟩) HN47.out (.string LF.2.2.2))
    have HKB := hide ((((((HK7.out.setNew (p := ⟨w.heap.size + 1, 0, none⟩) (Nat.le_succ _) (.int .i64 node)).setNew (p := ⟨w.heap.size + 1, 1, none⟩) (Nat.le_succ _) (.int .i64 i)).setNew (p := ⟨w.heap.size + 1, 2, none⟩) (Nat.le_succ _) (.int .i64 (T : Nat))).setNew (p := ⟨w.heap.size + 1, 3, none⟩) (Nat.le_succ _) (.int .i64 LF.2.1)).setNew (p := ⟨w.heap.size + 1, 4, none⟩) (Nat.le_succ _) (.int .i64 LF.2.2.1)).setNew (p := ⟨w.heap.size + 1, 5, none⟩) (Nat.le_succ _) (.string LF.2.2.2))
    have HXB := hide ((((((HX7.out.far (p := ⟨w.heap.size + 1, 0, none⟩) (Nat.ne_of_lt (Nat.lt_succ_self _)) (.int .i64 node)).far (p := ⟨w.heap.size + 1, 1, none⟩) (Nat.ne_of_lt (Nat.lt_succ_self _)) (.int .i64 i)).far (p := ⟨w.heap.size + 1, 2, none⟩) (Nat.ne_of_lt (Nat.lt_succ_self _)) (.int .i64 (T : Nat))).far (p := ⟨w.heap.size + 1, 3, none⟩) (Nat.ne_of_lt (Nat.lt_succ_self _)) (.int .i64 LF.2.1)).far (p := ⟨w.heap.size + 1, 4, none⟩) (Nat.ne_of_lt (Nat.lt_succ_self _)) (.int .i64 LF.2.2.1)).far (p := ⟨w.heap.size + 1, 5, none⟩) (Nat.ne_of_lt (Nat.lt_succ_self _)) (.string LF.2.2.2))
    clear hE hl256 h7 h49 hdo hdF hfo
    go_wp2_with fail
    refine (HE.out _).mono ?_
    intro e w8 he
    obtain ⟨gb, cap, rfl, hO, hB8⟩ := he.open (by have := H7.out; omega)
    have HO := hide hO; have HB8 := hide hB8
    clear he hO hB8 u0 u1 u2 u3 u4 u5 v0 v1 v2 v3 v4 v5
    go_wp2_with fail
    go_meet
    exact ⟨some ⟨node, i, (T : Nat), LF.2.1, LF.2.2.1, LF.2.2.2⟩, LF.1, a2, hg2.trans HG.out, hide ⟨gb, 0, cap, lb, rfl, HO.out.bytes, H256.out, H7.out, HO.out.len_le, HO.out.cap_le, HDO.out, HDF.out, HO.out.lt, HAB.out.not_new HO.out.lo⟩, hide (HXB.out.below HB8.out HXB.out.lt), hide (HAB.out.below HB8.out), hide (HKB.out.below HB8.out), hide (fun f e => by
     cases e
     refine ⟨rfl, rfl, ⟨T, rfl, HTL.out⟩, ?_, ?_⟩
     ·rcases HRES.out with ⟨r1, r2, r3⟩ | ⟨j, l, r1, r2, r3, r4, r5⟩
      ·left; show LF.2.1 < 0; omega
      ·exact .inr ⟨j, l, r1, r2⟩
     ·rcases HRES.out with ⟨r1, r2, r3⟩ | ⟨j, l, r1, r2, r3, r4, r5⟩
      ·show LF.2.2.2.size ≤ 40; rw [r3]; exact Nat.zero_le _
      ·exact r5), HLOK, HF0, HN37⟩
  case rest =>
   obtain ⟨fr, c2, a2, hg2, HBT, HX7, HA7, HK7, HFR, HOK2, HF0, HN37⟩ := hcut
   have k0 := (HA7.out.cluC hg2).1
   rw [HPN.out] at k0
   have hb7 := Nat.le_trans hbase HK7.out.size
   have HC7 := hide (ClTo.refl HA7.out (Below.refl wc.heap.size wc))
   have HB7 := hide (HKK.out.step HBw.out HK7.out)
   clear HX6 HF6 HA6 HK6 HN3' HN4' HOK1 HFIN
   go_wp2_with fail
   clear k0
   go_loopw [75] (fun j wr => ∃ k : Nat, k ≤ nd ∧ j = .int .i64 k ∧ Hid (Blk wr w.heap.size 35 #[.slice A r.ls.length cp, y1, y2, .slice AM r.md.length cm]) ∧ Hid (ClTo wc base a2 (fullN p) p P fy c2 wr (hearAll p node i fr r.ls c2 k))) (fun j _ => nd - (intOf j).toNat)
   case atStart => exact ⟨0, by omega, rfl, HX7, hide (by rw [hearAll_zero]; exact HC7.out)⟩
   case round =>
    obtain ⟨k, hk, rfl, HX, HC⟩ := hrel
    by_cases hlt : k < nd
    ·by_cases hkn : k = node
     ·have d1 : ((k : Int) != (node : Int)) = false := by simp; omega
      have HS1 : Hid (hearAll p node i fr r.ls c2 (k + 1) = hearAll p node i fr r.ls c2 k) := hide (hearAll_skip hkn)
      clear hkn
      go_wp2_with fail
      go_roundw
      case rel => exact ⟨k + 1, by omega, by go_num, HX, hide (by rw [HS1.out]; exact HC.out)⟩
      case measure => simp [intOf]; omega
     ·have d1 : ((k : Int) != (node : Int)) = true := by simp; omega
      have HS1 : Hid (hearAll p node i fr r.ls c2 (k + 1) = hearsF p node k i fr r.ls (hearAll p node i fr r.ls c2 k)) := hide (hearAll_step hkn)
      obtain ⟨a3, hg3, hA3, hK3⟩ := HC.out
      have HOK3 := hide (hearAll_ok HOK2.out (show node < 16 by omega) i fr r.ls k)
      have HHE := hide (hears_any wr HKK.out AL cl HPL.out hA3 HP.out HOK3.out (by omega) HL.out (HKK.out.step HB7.out hK3) (Nat.le_trans hb7 hK3.size) A cp r.ls HA.out hmax y1 y2 (.slice AM r.md.length cm) node k i (by rw [HPN.out]; omega) (by rw [HPN.out]; omega) hkn (by omega) fr _ (HBT.out.kept hK3) HFR.out)
      rw [hg3, hg2] at HHE
      have HK3 := hide hK3
      have HXN := hide (hK3.not HX7.out.lt HN37.out)
      have HA3 := hide hA3
      obtain ⟨x0, x1, x2, x3⟩ := HX.out.cells4
      clear hA3 hK3 hkn
      go_wp2_with fail
      refine HHE.out.mono ?_
      rintro e w9 ⟨rfl, a4, hg4, hA4, hK4⟩
      have HX9 := hide (hK4.blk HX.out HXN.out)
      have HC9 : Hid (ClTo wc base a2 (fullN p) p P fy c2 w9 (hearAll p node i fr r.ls c2 (k + 1))) := hide (by rw [HS1.out]; exact ⟨a4, hg4.trans hg3, hA4, HK3.out.trans hK4⟩)
      clear hA4 hK4 x0 x1 x2 x3
      go_wp2_with fail
      go_roundw
      case rel => exact ⟨k + 1, by omega, by go_num, HX9, HC9⟩
      case measure => simp [intOf]; omega
    ·obtain rfl : k = nd := by omega
     go_wp2_with fail
     go_end0
     exact ⟨rfl, by rw [HF0.out]; exact ClTo.trans HK7.out (hg2.trans HG.out.symm) HC.out⟩
end
section
open Go Go.RowKit
def clPut (k : Nat) (l : Lk) (d : ByteArray) (c : Cl) : Cl := { c with sd := updF c.sd k { c.sd k with q := putQ (c.sd k).q d (putE d.size (c.sd k).q.length l.q) } }
def clRecv (k i : Nat) (c : Cl) : Cl := { c with pr := upd2 c.pr k i { c.pr k i with q := (c.pr k i).q.tail } }
section
variable {p : Pl} {node : Int} {x y : Cl}
theorem updF_self {α : Type} (f : Nat → α) (k : Nat) (v : α) : updF f k v k = v := by simp [updF]
theorem updF_ne {α : Type} (f : Nat → α) {k j : Nat} (v : α) (h : j ≠ k) : updF f k v j = f j := by simp [updF, h]
theorem upd2_ne {α : Type} (f : Nat → Nat → α) {k j i : Nat} (v : α) (h : j ≠ k) : upd2 f k i v j = f j := by funext b; simp [upd2, h]
end
end
section
open Go Go.RowKit
attribute [local irreducible] putE putQ
theorem bit_zero {t : Int} {nd i : Nat} (h0 : 0 < t) (h1 : t < 2 ^ nd) (hn : nd ≤ 16) : (bits .and .i64 (t / 2 ^ i) 1 == 0) = !bitB t i := by
 obtain ⟨x, rfl⟩ := Int.eq_ofNat_of_zero_le (Int.le_of_lt h0)
 have hx : x < 65536 := by
  have h2 : (2 : Nat) ^ nd ≤ 2 ^ 16 := Nat.pow_le_pow_right (by omega) hn
  have h3 : x < 2 ^ nd := by exact_mod_cast h1
  omega
 unfold bitB
 rw [bit_one x i hx]
 cases x.testBit i <;> rfl
set_option maxRecDepth 100000 in
set_option maxHeartbeats 4000000 in
theorem cput_any {base : Nat} {a : Ad} {p : Pl} {P : Sv3} {fy : Nat} {c : Cl} {N : Nat} (w : World) (h : ClAt w base a (fullN p) p P fy c) (hp : PlOk p) (hc : ClOk p N c) (hbase : base ≤ w.heap.size) (k : Nat) (l : Lk) (hl : p.lk[k]? = some l) (d : ByteArray) (hd : d.size ≤ maxLen) :
 Calls Tryz.prog 101 #[.pointer (some ⟨a.g, 0, none⟩), .int .i64 k, .string d] w fun e w' => e = .returned (errV (putE d.size (c.sd k).q.length l.q)) ∧ ClTo w base a (fullN p) p P fy c w' (clPut k l d c) := by
 have hkl : k < p.lk.length := (List.getElem?_eq_some_iff.1 hl).1
 have hl8 := hp.lk
 obtain ⟨nl, hnl⟩ : ∃ nl, p.lk.length = nl := ⟨_, rfl⟩
 have hkl2 : k < nl := by omega
 obtain ⟨G, hG⟩ : ∃ G, a.g = G := ⟨_, rfl⟩
 rw [hG]
 obtain ⟨bm, om, cm, k13, km⟩ := h.sndC hG (show (fullN p).ns = nl from hnl) hkl2
 obtain ⟨gs, hgs⟩ : ∃ gs, a.gs k = gs := ⟨_, rfl⟩
 rw [hgs] at km
 have hSB := h.sndB (k := k) hkl hl
 rw [hgs] at hSB
 obtain ⟨e0, he0⟩ : ∃ e0, putE d.size (c.sd k).q.length l.q = e0 := ⟨_, rfl⟩
 have HS := hide (sput_any (lf := l.f) (lt := l.t) gs base l.b l.q (a.vs k) (c.sd k).nx (c.sd k).la (c.sd k).nw (c.sd k).q w d e0 (hide he0) hSB.1 hSB.2.1 hSB.2.2.2 hSB.2.2.1 hbase hd (by have := (hc.sd k).2.2.2.2.1; omega))
 have HT : Hid (∀ w', SdPost w base gs l.f l.t l.b l.q (a.vs k) (c.sd k).nx (c.sd k).la (c.sd k).nw (putQ (c.sd k).q d e0) w' → ClTo w base a (fullN p) p P fy c w' (clPut k l d c)) := hide (fun w' hq => by
  obtain ⟨v, T1, T2⟩ := h.sent (k := k) hkl hl { c.sd k with q := putQ (c.sd k).q d e0 } (by rw [hgs]; exact hq) hbase
  unfold clPut
  rw [he0]
  exact ⟨{ a with vs := updF a.vs k v }, rfl, T1, T2⟩)
 rw [he0]
 have d1 : decide ((k : Int) < 0) = false := decide_eq_false (by omega)
 have d2 : decide ((nl : Int) ≤ (k : Int)) = false := decide_eq_false (by omega)
 clear h hp hc hl hSB hnl hgs he0 hd
 go_enter Tryz.func101, Tryz.ntmps101
 go_wp2_with fail
 refine HS.out.mono ?_
 rintro e w2 ⟨rfl, hq⟩
 have HQ := hide (HT.out w2 hq)
 clear hq
 go_wp2_with fail
 go_ret
 exact ⟨rfl, HQ.out⟩
set_option maxRecDepth 100000 in
set_option maxHeartbeats 4000000 in
theorem crecv_gen {base : Nat} {a : Ad} {p : Pl} {P : Sv3} {fy : Nat} {c : Cl} {N : Nat} (w : World) (AL : Option Addr) (cl : Nat) (hP : P.l = .slice AL p.lk.length cl) (h : ClAt w base a (fullN p) p P fy c) (hp : PlOk p) (hc : ClOk p N c) (hL : LinksAt w AL p.lk.length p.lk) (hbase : base ≤ w.heap.size) (k i : Nat) (l : Lk) (hl : p.lk[k]? = some l) (hi : (i : Int) < p.nd) :
 Calls Tryz.prog 103 #[.pointer (some ⟨a.g, 0, none⟩), .int .i64 i, .int .i64 k] w fun e w' =>
  (bitB l.t i = false ∧ e = .returned (.tuple #[.string ⟨#[]⟩, errV 2]) ∧ ClTo w base a (fullN p) p P fy c w' c) ∨
  (bitB l.t i = true ∧ (c.pr k i).q = [] ∧ e = .returned (.tuple #[.string ⟨#[]⟩, errV 8]) ∧ ClTo w base a (fullN p) p P fy c w' c) ∨
  (bitB l.t i = true ∧ ∃ d q, (c.pr k i).q = d :: q ∧ e = .returned (.tuple #[.string d, errV 0]) ∧ ClTo w base a (fullN p) p P fy c w' (clRecv k i c)) := by
 have hkl : k < p.lk.length := (List.getElem?_eq_some_iff.1 hl).1
 have hl8 := hp.lk
 have hn16 := hp.n16
 have hlk := hp.link k l hl
 obtain ⟨nl, hnl⟩ : ∃ nl, p.lk.length = nl := ⟨_, rfl⟩
 obtain ⟨nd, hnd⟩ : ∃ nd, p.nd.toNat = nd := ⟨_, rfl⟩
 have hkl2 : k < nl := by omega
 have hin : i < nd := by omega
 have hpn : p.nd = (nd : Int) := by omega
 have hi20 : i ≤ 20 := by omega
 have hbz := bit_zero (i := i) hlk.2.2.1 hlk.2.2.2.1 (by omega)
 obtain ⟨G, hG⟩ : ∃ G, a.g = G := ⟨_, rfl⟩
 rw [hG]
 have k0 := (h.cluC hG).1
 have k7 := (h.cluC hG).2.2.2.2.2.2.2.1
 rw [hpn] at k0
 obtain ⟨bl, ol, hAL, l2, hl2, _, kt, _⟩ := hL k hkl
 obtain rfl : l2 = l := by rw [hl] at hl2; cases hl2; rfl
 rw [hP, hAL, hnl] at k7
 have hnk : (fullN p).nk k = nd := by show (if k < p.lk.length then p.nd.toNat else 0) = nd; rw [if_pos hkl]; exact hnd
 obtain ⟨bt, ot, ct, bt2, ot2, ct2, k15, kp1, kp2⟩ := h.prtC hG (k := k) (i := i) (show (fullN p).na = nl from hnl) hnk hkl2 hin
 obtain ⟨gp, hgp⟩ : ∃ gp, a.gp k i = gp := ⟨_, rfl⟩
 rw [hgp] at kp2
 have hPB := h.prtB (k := k) (i := i) (by rw [hnk]; exact hin)
 rw [hgp] at hPB
 have hbnd := hc.pr k i
 have d1 : decide ((i : Int) < 0) = false := decide_eq_false (by omega)
 have d2 : decide ((nd : Int) ≤ (i : Int)) = false := decide_eq_false (by omega)
 have d3 : decide ((k : Int) < 0) = false := decide_eq_false (by omega)
 have d4 : decide ((nl : Int) ≤ (k : Int)) = false := decide_eq_false (by omega)
 have HREF := hide (ClTo.refl h (Below.refl w.heap.size w))
 obtain ⟨bb, hbb⟩ : ∃ bb, bitB l2.t i = bb := ⟨_, rfl⟩
 rw [hbb] at hbz ⊢
 have Hh := hide h; have HNK := hide hnk; have HGP := hide hgp
 clear h hp hc hl hl2 hlk hnl hnd hL hP hpn hAL hnk hgp hbb hi hn16
 cases bb
 ·simp only [Bool.not_false] at hbz
  clear hPB
  go_enter Tryz.func103, Tryz.ntmps103
  go_wp2_with fail
  go_ret2
  exact .inl ⟨trivial, by simp [errV], HREF.out⟩
 ·simp only [Bool.not_true] at hbz
  cases hq : (c.pr k i).q with
  | nil =>
   have HR := hide (qrecv_none gp base 16 (a.vp k i) (c.pr k i).lost w hPB.1 (by have := hPB.2.1; rw [hq] at this; exact this))
   clear hPB hbnd
   go_enter Tryz.func103, Tryz.ntmps103
   go_wp2_with fail
   refine HR.out.mono ?_
   rintro e w2 ⟨rfl, rfl⟩
   go_wp2_with fail
   go_ret2
   exact .inr (.inl ⟨trivial, trivial, rfl, HREF.out⟩)
  | cons d q =>
   have HR := hide (qrecv_some gp base 16 (a.vp k i) (c.pr k i).lost q w d hPB.1 (by have := hPB.2.1; rw [hq] at this; exact this) hPB.2.2.2 hPB.2.2.1 (by have := hbnd.2.2; rw [hq, List.length_cons] at this; omega))
   have HT : Hid (∀ w', QuPost w base gp 16 (a.vp k i) (c.pr k i).lost q w' → ClTo w base a (fullN p) p P fy c w' (clRecv k i c)) := hide (fun w' hp => by
    obtain ⟨v, T1, T2⟩ := Hh.out.put (k := k) (i := i) (by rw [HNK.out]; exact hin) { c.pr k i with q := (c.pr k i).q.tail } (by rw [HGP.out, hq]; exact hp) hbase
    exact ⟨{ a with vp := upd2 a.vp k i v }, rfl, T1, T2⟩)
   clear hPB hbnd hq
   go_enter Tryz.func103, Tryz.ntmps103
   go_wp2_with fail
   refine HR.out.mono ?_
   rintro e w2 ⟨rfl, hp⟩
   have HQ := hide (HT.out w2 hp)
   clear hp
   go_wp2_with fail
   go_ret2
   exact .inr (.inr ⟨trivial, d, q, rfl, rfl, HQ.out⟩)
end
section
open Go Go.RowKit
theorem Objs.appArr {w w' : World} {base : Nat} {S : Ix → Ob} (h : Objs w base S) (x : Ix) {t : TypeId} {v : Value} {l : List Value} (hx : S x = .arr t v l) {u : Value} {g o cp : Nat} (hQ : QAt w' base t (.slice (some ⟨g, o, none⟩) (l.length + 1) cp) (l ++ [u])) (hg : w.grownBy w' v.ownBlock) (ho : v.ownBlock = some g ∨ w.heap.size ≤ g) (hlt : g < w'.heap.size) (hb : base ≤ w.heap.size) : Objs w' base (putO S x (.arr t (.slice (some ⟨g, o, none⟩) (l.length + 1) cp) (l ++ [u]))) := by
 refine h.upd x _ (by rw [hx]; exact grown_toV hg) hQ (fun k hm => ?_) hb
 rw [hx]
 simp [Ob.foot, Value.ownBlock] at hm
 subst hm
 refine ⟨hlt, ho.imp (fun e => ?_) id⟩
 simp [Ob.foot, e]
section
variable {a : Ad} {p : Pl} {P : Sv3} {fy : Nat} {c : Cl} {na i : Nat} {nk : Nat → Nat}
theorem range_snoc (f : Nat → Value) (n : Nat) : (List.range (n + 1)).map f = (List.range n).map f ++ [f n] := by rw [List.range_succ, List.map_append]; rfl
theorem map_upd (f : Nat → Nat) (n g : Nat) : (List.range n).map (fun i => ptrV (updF f n g i)) = (List.range n).map (fun i => ptrV (f i)) := by
 apply List.map_congr_left
 intro i hi
 have := List.mem_range.1 hi
 rw [updF_ne f g (by omega)]
theorem map_updV (f : Nat → Value) (n : Nat) (v : Value) : (List.range n).map (updF f n v) = (List.range n).map f := by
 apply List.map_congr_left
 intro i hi
 have := List.mem_range.1 hi
 rw [updF_ne f v (by omega)]
theorem shape_addMem {g : Nat} {v : Value} {k ns : Nat} (x : Mm) (hx : c.mm k = x) :
 putO (putO (putO (shape a ⟨k, ns, na, nk⟩ p P fy c) (.mem k) (.mem g k p.nd.toNat x.m x.gd x.bd x.fz)) .memA (.arr 211 v ((List.range k).map (fun i => ptrV (a.gm i)) ++ [ptrV g]))) .clu (.blk a.g 210 ((clC p.nd p.fa p.sk p.ji p.dr p.rd P.s P.l p.fr P.q fy a.ck a.mm a.sd a.tk a.pr c.rd).setIfInBounds 12 v)) = shape { a with mm := v, gm := updF a.gm k g } ⟨k + 1, ns, na, nk⟩ p P fy c := by
 funext y
 cases y with
 | clu => rfl
 | memA =>
  rw [putO_ne _ (by simp), putO_self]
  show _ = Ob.arr _ v _
  rw [range_snoc, map_upd]
  simp only [updF_self]
 | mem j =>
  rw [putO_ne _ (by simp), putO_ne _ (by simp)]
  by_cases e : j = k
  ·subst e
   rw [putO_self]
   subst hx
   simp [shape, updF_self]
  ·rw [putO_ne _ (by simpa using e)]
   by_cases h : j < k
   ·simp [shape, h, Nat.lt_succ_of_lt h, updF_ne a.gm g e]
   ·simp [shape, h, show ¬ j < k + 1 by omega]
 | _ => rw [putO_ne _ (by simp), putO_ne _ (by simp), putO_ne _ (by simp)]; rfl
theorem shape_addSnd {g : Nat} {v : Value} {k nm : Nat} {l : Lk} (hl : p.lk[k]? = some l) (hs : c.sd k = ⟨0, -1, 0, []⟩) :
 putO (putO (putO (shape a ⟨nm, k, na, nk⟩ p P fy c) (.snd k) (.snd g (.slice none 0 0) l.f l.t l.b l.q 0 (-1) 0 [])) .sndA (.arr 217 v ((List.range k).map (fun i => ptrV (a.gs i)) ++ [ptrV g]))) .clu (.blk a.g 210 ((clC p.nd p.fa p.sk p.ji p.dr p.rd P.s P.l p.fr P.q fy a.ck a.mm a.sd a.tk a.pr c.rd).setIfInBounds 13 v)) = shape { a with sd := v, gs := updF a.gs k g, vs := updF a.vs k (.slice none 0 0) } ⟨nm, k + 1, na, nk⟩ p P fy c := by
 funext y
 cases y with
 | clu => rfl
 | sndA =>
  rw [putO_ne _ (by simp), putO_self]
  show _ = Ob.arr _ v _
  rw [range_snoc, map_upd]
  simp only [updF_self]
 | snd j =>
  rw [putO_ne _ (by simp), putO_ne _ (by simp)]
  by_cases e : j = k
  ·subst e
   rw [putO_self]
   simp [shape, updF_self, hl, hs]
  ·rw [putO_ne _ (by simpa using e)]
   by_cases h : j < k
   ·simp [shape, h, Nat.lt_succ_of_lt h, updF_ne a.gs g e, updF_ne a.vs (.slice none 0 0) e]
   ·simp [shape, h, show ¬ j < k + 1 by omega]
 | _ => rw [putO_ne _ (by simp), putO_ne _ (by simp), putO_ne _ (by simp)]; rfl
theorem upd2_at2 {α : Type} (f : Nat → Nat → α) (k i : Nat) (v : α) : upd2 f k i v k i = v := by simp [upd2]
theorem upd2_nei {α : Type} (f : Nat → Nat → α) {k i j : Nat} (v : α) (h : j ≠ i) : upd2 f k i v k j = f k j := by simp [upd2, h]
theorem map_upd2 (f : Nat → Nat → Nat) (k n g : Nat) : (List.range n).map (fun i => ptrV (upd2 f k n g k i)) = (List.range n).map (fun i => ptrV (f k i)) := by
 apply List.map_congr_left
 intro i hi
 have := List.mem_range.1 hi
 rw [upd2_nei f g (by omega)]
theorem shape_addRow {gt gp : Nat} {vt vp : Value} {k nm ns : Nat} (hk : nk k = i) (h1 : c.tk k i = ⟨-1, 0, 0⟩) (h2 : c.pr k i = ⟨0, []⟩) :
 putO (putO (putO (putO (shape a ⟨nm, ns, k, nk⟩ p P fy c) (.prt k i) (.prt gp (.slice none 0 0) 16 0 [])) (.tak k i) (.tak gt (-1) 0 0)) (.takR k) (.arr 232 vt ((List.range i).map (fun j => ptrV (a.gt k j)) ++ [ptrV gt]))) (.prtR k) (.arr 219 vp ((List.range i).map (fun j => ptrV (a.gp k j)) ++ [ptrV gp])) = shape { a with rt := updF a.rt k vt, rp := updF a.rp k vp, gt := upd2 a.gt k i gt, gp := upd2 a.gp k i gp, vp := upd2 a.vp k i (.slice none 0 0) } ⟨nm, ns, k, updF nk k (i + 1)⟩ p P fy c := by
 funext y
 cases y with
 | takA =>
  rw [putO_ne _ (by simp), putO_ne _ (by simp), putO_ne _ (by simp), putO_ne _ (by simp)]
  show Ob.arr _ _ _ = Ob.arr _ _ _
  rw [map_updV]
 | prtA =>
  rw [putO_ne _ (by simp), putO_ne _ (by simp), putO_ne _ (by simp), putO_ne _ (by simp)]
  show Ob.arr _ _ _ = Ob.arr _ _ _
  rw [map_updV]
 | takR j =>
  rw [putO_ne _ (by simp)]
  by_cases e : j = k
  ·subst e
   rw [putO_self]
   simp only [shape, updF_self]
   rw [range_snoc, map_upd2, upd2_at2]
  ·rw [putO_ne _ (by simpa using e), putO_ne _ (by simp), putO_ne _ (by simp)]
   simp only [shape, updF_ne a.rt vt e, updF_ne nk (i + 1) e, upd2_ne a.gt gt e]
 | prtR j =>
  by_cases e : j = k
  ·subst e
   rw [putO_self]
   simp only [shape, updF_self]
   rw [range_snoc, map_upd2, upd2_at2]
  ·rw [putO_ne _ (by simpa using e), putO_ne _ (by simp), putO_ne _ (by simp), putO_ne _ (by simp)]
   simp only [shape, updF_ne a.rp vp e, updF_ne nk (i + 1) e, upd2_ne a.gp gp e]
 | tak j q =>
  rw [putO_ne _ (by simp), putO_ne _ (by simp)]
  by_cases e : j = k
  ·subst e
   by_cases e2 : q = i
   ·subst e2
    rw [putO_self]
    simp [shape, updF_self, upd2_at2, h1]
   ·rw [putO_ne _ (by simpa using e2), putO_ne _ (by simp)]
    simp only [shape, updF_self, upd2_nei a.gt gt e2, hk]
    by_cases h : q < i
    ·rw [if_pos h, if_pos (by omega)]
    ·rw [if_neg h, if_neg (by omega)]
  ·rw [putO_ne _ (by simp [e]), putO_ne _ (by simp)]
   simp only [shape, updF_ne nk (i + 1) e, upd2_ne a.gt gt e]
 | prt j q =>
  rw [putO_ne _ (by simp), putO_ne _ (by simp), putO_ne _ (by simp)]
  by_cases e : j = k
  ·subst e
   by_cases e2 : q = i
   ·subst e2
    rw [putO_self]
    simp [shape, updF_self, upd2_at2, h2]
   ·rw [putO_ne _ (by simpa using e2)]
    simp only [shape, updF_self, upd2_nei a.gp gp e2, upd2_nei a.vp (.slice none 0 0) e2, hk]
    by_cases h : q < i
    ·rw [if_pos h, if_pos (by omega)]
    ·rw [if_neg h, if_neg (by omega)]
  ·rw [putO_ne _ (by simp [e])]
   simp only [shape, updF_ne nk (i + 1) e, upd2_ne a.gp gp e, upd2_ne a.vp (.slice none 0 0) e]
 | _ => rw [putO_ne _ (by simp), putO_ne _ (by simp), putO_ne _ (by simp), putO_ne _ (by simp)]; rfl
theorem shape_addRows {vt vp : Value} {k nm ns : Nat} :
 putO (putO (putO (shape a ⟨nm, ns, k, nk⟩ p P fy c) .takA (.arr 229 vt ((List.range k).map a.rt ++ [a.rt k]))) .prtA (.arr 220 vp ((List.range k).map a.rp ++ [a.rp k]))) .clu (.blk a.g 210 (((clC p.nd p.fa p.sk p.ji p.dr p.rd P.s P.l p.fr P.q fy a.ck a.mm a.sd a.tk a.pr c.rd).setIfInBounds 14 vt).setIfInBounds 15 vp)) = shape { a with tk := vt, pr := vp } ⟨nm, ns, k + 1, nk⟩ p P fy c := by
 funext y
 cases y with
 | clu => rfl
 | takA =>
  rw [putO_ne _ (by simp), putO_ne _ (by simp), putO_self]
  show _ = Ob.arr _ vt _
  rw [range_snoc]
 | prtA =>
  rw [putO_ne _ (by simp), putO_self]
  show _ = Ob.arr _ vp _
  rw [range_snoc]
 | _ => rw [putO_ne _ (by simp), putO_ne _ (by simp), putO_ne _ (by simp)]; rfl
end
def ad0 (g : Nat) (v : Value) : Ad := ⟨g, v, .slice none 0 0, .slice none 0 0, .slice none 0 0, .slice none 0 0, fun _ => 0, fun _ => 0, fun _ => .slice none 0 0, fun _ => .slice none 0 0, fun _ _ => 0, fun _ => .slice none 0 0, fun _ _ => 0, fun _ _ => .slice none 0 0⟩
def n00 : Cn := ⟨0, 0, 0, fun _ => 0⟩
theorem foot0 {g : Nat} {v : Value} {p : Pl} {P : Sv3} {fy : Nat} {c : Cl} {x : Ix} {k : Nat} (h : k ∈ (shape (ad0 g v) n00 p P fy c x).foot) : (x = .clu ∧ k = g) ∨ (x = .nums ∧ v.ownBlock = some k) := by
 cases x with
 | clu => simp [shape, Ob.foot, ad0] at h; exact .inl ⟨rfl, h⟩
 | nums => simp [shape, Ob.foot, ad0] at h; exact .inr ⟨rfl, h⟩
 | memA => simp [shape, Ob.foot, ad0, n00, Value.ownBlock] at h
 | mem i => simp [shape, Ob.foot, n00] at h
 | sndA => simp [shape, Ob.foot, ad0, n00, Value.ownBlock] at h
 | snd i => simp [shape, Ob.foot, n00] at h
 | takA => simp [shape, Ob.foot, ad0, n00, Value.ownBlock] at h
 | takR i => simp [shape, Ob.foot, ad0, n00, Value.ownBlock] at h
 | tak i j => simp [shape, Ob.foot, n00] at h
 | prtA => simp [shape, Ob.foot, ad0, n00, Value.ownBlock] at h
 | prtR i => simp [shape, Ob.foot, ad0, n00, Value.ownBlock] at h
 | prt i j => simp [shape, Ob.foot, n00] at h
 | loc i => simp [shape, Ob.foot] at h
theorem start_at {w8 : World} {base : Nat} {p : Pl} {P : Sv3} {fy : Nat} {v : Value} {zs : List Int} (hq : QAt w8 base 3 v (zs.map (Value.int .i64))) (hv : ∀ k, v.ownBlock = some k → base ≤ k ∧ k < w8.heap.size) (hb : base ≤ w8.heap.size) :
 ClAt (w8.alloc (.cells (clC p.nd p.fa p.sk p.ji p.dr p.rd P.s P.l p.fr P.q fy v (.slice none 0 0) (.slice none 0 0) (.slice none 0 0) (.slice none 0 0) 0) 210)) base (ad0 w8.heap.size v) n00 p P fy (startF p zs) := by
 refine ⟨fun x => ?_, fun x k h => ?_, fun x y k hx hy => ?_⟩
 ·cases x with
  | clu => exact Blk.new w8 _ _
  | nums => exact hq.alloc _
  | memA => exact QAt.nil _ _ _
  | mem i => simp [shape, n00, Ob.At]
  | sndA => exact QAt.nil _ _ _
  | snd i => simp [shape, n00, Ob.At]
  | takA => exact QAt.nil _ _ _
  | takR i => exact QAt.nil _ _ _
  | tak i j => simp [shape, n00, Ob.At]
  | prtA => exact QAt.nil _ _ _
  | prtR i => exact QAt.nil _ _ _
  | prt i j => simp [shape, n00, Ob.At]
  | loc i => trivial
 ·rcases foot0 h with ⟨_, rfl⟩ | ⟨_, e⟩
  ·simp; exact hb
  ·have := hv k e
   simp; omega
 ·rcases foot0 hx with ⟨rfl, e1⟩ | ⟨rfl, e1⟩ <;> rcases foot0 hy with ⟨rfl, e2⟩ | ⟨rfl, e2⟩
  ·rfl
  ·have := hv k e2; omega
  ·have := hv k e1; omega
  ·rfl
section
variable {a : Ad} {p : Pl} {P : Sv3} {fy : Nat} {c : Cl} {na ns nm k gx g o cp : Nat} {nk : Nat → Nat} {w w' w2 w3 : World} {base : Nat}
theorem Objs.addMem (h : ClAt w base a ⟨k, ns, na, nk⟩ p P fy c) (hb : base ≤ w.heap.size) {x : Mm} (hx : c.mm k = x) (hB : Below w.heap.size w w') (hbk : Blk w' gx 261 (nodeC k p.nd.toNat x.m x.gd x.bd x.fz)) (hgx : w.heap.size ≤ gx) (hB2 : Below w'.heap.size w' w2)
 (hQ : QAt w3 base 211 (.slice (some ⟨g, o, none⟩) (k + 1) cp) ((List.range k).map (fun i => ptrV (a.gm i)) ++ [ptrV gx])) (hg : w2.grownBy w3 a.mm.ownBlock) (ho : a.mm.ownBlock = some g ∨ w2.heap.size ≤ g) (hlt : g < w3.heap.size) :
 ClAt (w3.setCell ⟨a.g, 12, none⟩ (.slice (some ⟨g, o, none⟩) (k + 1) cp)) base { a with mm := .slice (some ⟨g, o, none⟩) (k + 1) cp, gm := updF a.gm k gx } ⟨k + 1, ns, na, nk⟩ p P fy c := by
 have h1 : Objs w' base (putO (shape a ⟨k, ns, na, nk⟩ p P fy c) (.mem k) (.mem gx k p.nd.toNat x.m x.gd x.bd x.fz)) := Objs.add h (.mem k) (.mem gx k p.nd.toNat x.m x.gd x.bd x.fz) hB hbk (fun q hm => by simp [Ob.foot] at hm; subst hm; exact ⟨hbk.lt, hgx⟩) hb
 have hb2 : base ≤ w2.heap.size := Nat.le_trans hb (Nat.le_trans hB.size hB2.size)
 have h2 := h1.below hB2
 have h3 := h2.appArr .memA (v := a.mm) (l := (List.range k).map (fun i => ptrV (a.gm i))) (by rw [putO_ne _ (by simp)]; rfl) (u := ptrV gx) (g := g) (o := o) (cp := cp) (by simpa using hQ) hg ho hlt hb2
 have h4 := h3.setBlk .clu (g := a.g) (by rw [putO_ne _ (by simp), putO_ne _ (by simp)]; rfl) 12 (.slice (some ⟨g, o, none⟩) (k + 1) cp) (Nat.le_trans hb2 hg.size)
 simp only [List.length_map, List.length_range] at h4
 rw [shape_addMem x hx] at h4
 exact h4
theorem Objs.addMemC (h : ClAt w base a ⟨k, ns, na, nk⟩ p P fy c) (hB : Below w.heap.size w w2) (hg : w2.grownBy w3 a.mm.ownBlock) : Blk w3 a.g 210 (clC p.nd p.fa p.sk p.ji p.dr p.rd P.s P.l p.fr P.q fy a.ck a.mm a.sd a.tk a.pr c.rd) :=
 ((cluB h).below hB (cluB h).lt).grown hg (fun e => by
   have := h.sep .clu .memA a.g (by simp [shape, Ob.foot]) (by simp [shape, Ob.foot, ← e])
   cases this)
theorem Objs.addSnd (h : ClAt w base a ⟨nm, k, na, nk⟩ p P fy c) (hb : base ≤ w.heap.size) {l : Lk} (hl : p.lk[k]? = some l) (hs : c.sd k = ⟨0, -1, 0, []⟩) (hB : Below w.heap.size w w') (hbk : Blk w' gx 264 (sdC l.f l.t l.b l.q (.slice none 0 0) 0 (-1) 0)) (hgx : w.heap.size ≤ gx) (hB2 : Below w'.heap.size w' w2)
 (hQ : QAt w3 base 217 (.slice (some ⟨g, o, none⟩) (k + 1) cp) ((List.range k).map (fun i => ptrV (a.gs i)) ++ [ptrV gx])) (hg : w2.grownBy w3 a.sd.ownBlock) (ho : a.sd.ownBlock = some g ∨ w2.heap.size ≤ g) (hlt : g < w3.heap.size) :
 ClAt (w3.setCell ⟨a.g, 13, none⟩ (.slice (some ⟨g, o, none⟩) (k + 1) cp)) base { a with sd := .slice (some ⟨g, o, none⟩) (k + 1) cp, gs := updF a.gs k gx, vs := updF a.vs k (.slice none 0 0) } ⟨nm, k + 1, na, nk⟩ p P fy c := by
 have h1 : Objs w' base (putO (shape a ⟨nm, k, na, nk⟩ p P fy c) (.snd k) (.snd gx (.slice none 0 0) l.f l.t l.b l.q 0 (-1) 0 [])) := Objs.add h (.snd k) (.snd gx (.slice none 0 0) l.f l.t l.b l.q 0 (-1) 0 []) hB ⟨hbk, QAt.nil _ _ _, by simp [Value.ownBlock]⟩ (fun q hm => by simp [Ob.foot, Value.ownBlock] at hm; subst hm; exact ⟨hbk.lt, hgx⟩) hb
 have hb2 : base ≤ w2.heap.size := Nat.le_trans hb (Nat.le_trans hB.size hB2.size)
 have h2 := h1.below hB2
 have h3 := h2.appArr .sndA (v := a.sd) (l := (List.range k).map (fun i => ptrV (a.gs i))) (by rw [putO_ne _ (by simp)]; rfl) (u := ptrV gx) (g := g) (o := o) (cp := cp) (by simpa using hQ) hg ho hlt hb2
 have h4 := h3.setBlk .clu (g := a.g) (by rw [putO_ne _ (by simp), putO_ne _ (by simp)]; rfl) 13 (.slice (some ⟨g, o, none⟩) (k + 1) cp) (Nat.le_trans hb2 hg.size)
 simp only [List.length_map, List.length_range] at h4
 rw [shape_addSnd hl hs] at h4
 exact h4
theorem Objs.addSndC (h : ClAt w base a ⟨nm, k, na, nk⟩ p P fy c) (hB : Below w.heap.size w w2) (hg : w2.grownBy w3 a.sd.ownBlock) : Blk w3 a.g 210 (clC p.nd p.fa p.sk p.ji p.dr p.rd P.s P.l p.fr P.q fy a.ck a.mm a.sd a.tk a.pr c.rd) :=
 ((cluB h).below hB (cluB h).lt).grown hg (fun e => by
   have := h.sep .clu .sndA a.g (by simp [shape, Ob.foot]) (by simp [shape, Ob.foot, ← e])
   cases this)
theorem Objs.memQ (h : ClAt w base a ⟨k, ns, na, nk⟩ p P fy c) : QAt w base 211 a.mm ((List.range k).map fun i => ptrV (a.gm i)) := h.at_ .memA
theorem Objs.sndQ (h : ClAt w base a ⟨nm, k, na, nk⟩ p P fy c) : QAt w base 217 a.sd ((List.range k).map fun i => ptrV (a.gs i)) := h.at_ .sndA
theorem Objs.takAQ (h : ClAt w base a ⟨nm, ns, k, nk⟩ p P fy c) : QAt w base 229 a.tk ((List.range k).map a.rt) := h.at_ .takA
theorem Objs.prtAQ (h : ClAt w base a ⟨nm, ns, k, nk⟩ p P fy c) : QAt w base 220 a.pr ((List.range k).map a.rp) := h.at_ .prtA
theorem Objs.takRQ (h : ClAt w base a ⟨nm, ns, na, nk⟩ p P fy c) : QAt w base 232 (a.rt k) ((List.range (nk k)).map fun i => ptrV (a.gt k i)) := h.at_ (.takR k)
theorem Objs.prtRQ (h : ClAt w base a ⟨nm, ns, na, nk⟩ p P fy c) : QAt w base 219 (a.rp k) ((List.range (nk k)).map fun i => ptrV (a.gp k i)) := h.at_ (.prtR k)
end
section
variable {a : Ad} {p : Pl} {P : Sv3} {fy : Nat} {c : Cl} {ns nm k i gt gp g o cp g' o' cp' : Nat} {nk : Nat → Nat} {w w1 w2 w3 w4 w5 w6 : World} {base : Nat}
theorem Objs.addRow (h : ClAt w base a ⟨nm, ns, k, nk⟩ p P fy c) (hb : base ≤ w.heap.size) (hk : nk k = i) (h1 : c.tk k i = ⟨-1, 0, 0⟩) (h2 : c.pr k i = ⟨0, []⟩)
 (hB : Below w.heap.size w w1) (hbp : Blk w1 gp 266 (quC 16 (.slice none 0 0) 0)) (hgp : w.heap.size ≤ gp) (hB2 : Below w1.heap.size w1 w2) (hbt : Blk w2 gt 275 #[.int .i64 (-1), .int .i64 0, .int .i64 0]) (hgt : w1.heap.size ≤ gt)
 (hB3 : Below w2.heap.size w2 w3) (hQ : QAt w4 base 232 (.slice (some ⟨g, o, none⟩) (i + 1) cp) ((List.range i).map (fun j => ptrV (a.gt k j)) ++ [ptrV gt])) (hg : w3.grownBy w4 (a.rt k).ownBlock) (ho : (a.rt k).ownBlock = some g ∨ w3.heap.size ≤ g) (hlt : g < w4.heap.size)
 (hB5 : Below w4.heap.size w4 w5) (hQ' : QAt w6 base 219 (.slice (some ⟨g', o', none⟩) (i + 1) cp') ((List.range i).map (fun j => ptrV (a.gp k j)) ++ [ptrV gp])) (hg' : w5.grownBy w6 (a.rp k).ownBlock) (ho' : (a.rp k).ownBlock = some g' ∨ w5.heap.size ≤ g') (hlt' : g' < w6.heap.size) :
 ClAt w6 base { a with rt := updF a.rt k (.slice (some ⟨g, o, none⟩) (i + 1) cp), rp := updF a.rp k (.slice (some ⟨g', o', none⟩) (i + 1) cp'), gt := upd2 a.gt k i gt, gp := upd2 a.gp k i gp, vp := upd2 a.vp k i (.slice none 0 0) } ⟨nm, ns, k, updF nk k (i + 1)⟩ p P fy c := by
 have e1 : Objs w1 base (putO (shape a ⟨nm, ns, k, nk⟩ p P fy c) (.prt k i) (.prt gp (.slice none 0 0) 16 0 [])) := Objs.add h (.prt k i) (.prt gp (.slice none 0 0) 16 0 []) hB ⟨hbp, QAt.nil _ _ _, by simp [Value.ownBlock]⟩ (fun q hm => by simp [Ob.foot, Value.ownBlock] at hm; subst hm; exact ⟨hbp.lt, hgp⟩) hb
 have hb1 := Nat.le_trans hb hB.size
 have e2 := Objs.add e1 (.tak k i) (.tak gt (-1) 0 0) hB2 hbt (fun q hm => by simp [Ob.foot] at hm; subst hm; exact ⟨hbt.lt, hgt⟩) hb1
 have hb3 := Nat.le_trans (Nat.le_trans hb1 hB2.size) hB3.size
 have e3 := e2.below hB3
 have e4 := e3.appArr (.takR k) (v := a.rt k) (l := (List.range i).map (fun j => ptrV (a.gt k j))) (by rw [putO_ne _ (by simp), putO_ne _ (by simp)]; show Ob.arr _ (a.rt k) ((List.range (nk k)).map fun j => ptrV (a.gt k j)) = _; rw [hk]) (u := ptrV gt) (g := g) (o := o) (cp := cp) (by simpa using hQ) hg ho hlt hb3
 have hb5 := Nat.le_trans (Nat.le_trans hb3 hg.size) hB5.size
 have e5 := e4.below hB5
 have e6 := e5.appArr (.prtR k) (v := a.rp k) (l := (List.range i).map (fun j => ptrV (a.gp k j))) (by rw [putO_ne _ (by simp), putO_ne _ (by simp), putO_ne _ (by simp)]; show Ob.arr _ (a.rp k) ((List.range (nk k)).map fun j => ptrV (a.gp k j)) = _; rw [hk]) (u := ptrV gp) (g := g') (o := o') (cp := cp') (by simpa using hQ') hg' ho' hlt' hb5
 simp only [List.length_map, List.length_range] at e6
 rw [shape_addRow hk h1 h2] at e6
 exact e6
theorem Objs.addRows (h : ClAt w base a ⟨nm, ns, k, nk⟩ p P fy c) (hb : base ≤ w.heap.size)
 (hQ : QAt w3 base 229 (.slice (some ⟨g, o, none⟩) (k + 1) cp) ((List.range k).map a.rt ++ [a.rt k])) (hQ' : QAt w3 base 220 (.slice (some ⟨g', o', none⟩) (k + 1) cp') ((List.range k).map a.rp ++ [a.rp k]))
 (hk : KeptL w w3 ((shape a ⟨nm, ns, k, nk⟩ p P fy c .takA).foot ++ (shape a ⟨nm, ns, k, nk⟩ p P fy c .prtA).foot)) (ho : a.tk.ownBlock = some g ∨ w.heap.size ≤ g) (ho' : a.pr.ownBlock = some g' ∨ w.heap.size ≤ g') (hne : g ≠ g') (hlt : g < w3.heap.size) (hlt' : g' < w3.heap.size) :
 ClAt ((w3.setCell ⟨a.g, 14, none⟩ (.slice (some ⟨g, o, none⟩) (k + 1) cp)).setCell ⟨a.g, 15, none⟩ (.slice (some ⟨g', o', none⟩) (k + 1) cp')) base { a with tk := .slice (some ⟨g, o, none⟩) (k + 1) cp, pr := .slice (some ⟨g', o', none⟩) (k + 1) cp' } ⟨nm, ns, k + 1, nk⟩ p P fy c := by
 have hb3 := Nat.le_trans hb hk.size
 have hnf : ∀ x, x ≠ .takA → x ≠ .prtA → ∀ b, b ∈ (shape a ⟨nm, ns, k, nk⟩ p P fy c x).foot → b ∉ (shape a ⟨nm, ns, k, nk⟩ p P fy c .takA).foot ++ (shape a ⟨nm, ns, k, nk⟩ p P fy c .prtA).foot := fun x h1 h2 b hm hm2 => by
  rcases List.mem_append.1 hm2 with h3 | h3
  ·exact h1 (h.sep x .takA b hm h3)
  ·exact h2 (h.sep x .prtA b hm h3)
 have e : Objs w3 base (putO (putO (shape a ⟨nm, ns, k, nk⟩ p P fy c) .takA (.arr 229 (.slice (some ⟨g, o, none⟩) (k + 1) cp) ((List.range k).map a.rt ++ [a.rt k]))) .prtA (.arr 220 (.slice (some ⟨g', o', none⟩) (k + 1) cp') ((List.range k).map a.rp ++ [a.rp k]))) := by
  have ft : ∀ b, b ∈ (Ob.arr 229 (.slice (some ⟨g, o, none⟩) (k + 1) cp) ((List.range k).map a.rt ++ [a.rt k])).foot → b = g := fun b hm => by simpa [Ob.foot, Value.ownBlock, eq_comm] using hm
  have fp : ∀ b, b ∈ (Ob.arr 220 (.slice (some ⟨g', o', none⟩) (k + 1) cp') ((List.range k).map a.rp ++ [a.rp k])).foot → b = g' := fun b hm => by simpa [Ob.foot, Value.ownBlock, eq_comm] using hm
  have tin : a.tk.ownBlock = some g → g ∈ (shape a ⟨nm, ns, k, nk⟩ p P fy c .takA).foot := fun e => by simp [shape, Ob.foot, e]
  have pin : a.pr.ownBlock = some g' → g' ∈ (shape a ⟨nm, ns, k, nk⟩ p P fy c .prtA).foot := fun e => by simp [shape, Ob.foot, e]
  refine ⟨fun x => ?_, fun x b hm => ?_, fun x y b hx hy => ?_⟩
  ·by_cases e2 : x = .prtA
   ·subst e2; rw [putO_self]; exact hQ'
   ·rw [putO_ne _ e2]
    by_cases e1 : x = .takA
    ·subst e1; rw [putO_self]; exact hQ
    ·rw [putO_ne _ e1]
     exact (h.at_ x).keep (fun b hlt hm => hk.block b hlt (hnf x e1 e2 b hm))
  ·by_cases e2 : x = .prtA
   ·subst e2; rw [putO_self] at hm
    obtain rfl := fp b hm
    exact ⟨ho'.elim (fun e => (h.own .prtA _ (pin e)).1) (fun e => by omega), hlt'⟩
   ·rw [putO_ne _ e2] at hm
    by_cases e1 : x = .takA
    ·subst e1; rw [putO_self] at hm
     obtain rfl := ft b hm
     exact ⟨ho.elim (fun e => (h.own .takA _ (tin e)).1) (fun e => by omega), hlt⟩
    ·rw [putO_ne _ e1] at hm
     exact ⟨(h.own x b hm).1, Nat.lt_of_lt_of_le (h.own x b hm).2 hk.size⟩
  ·have cls : ∀ x b, b ∈ (putO (putO (shape a ⟨nm, ns, k, nk⟩ p P fy c) .takA (.arr 229 (.slice (some ⟨g, o, none⟩) (k + 1) cp) ((List.range k).map a.rt ++ [a.rt k]))) .prtA (.arr 220 (.slice (some ⟨g', o', none⟩) (k + 1) cp') ((List.range k).map a.rp ++ [a.rp k])) x).foot → (x = .prtA ∧ b = g') ∨ (x = .takA ∧ b = g) ∨ (x ≠ .takA ∧ x ≠ .prtA ∧ b ∈ (shape a ⟨nm, ns, k, nk⟩ p P fy c x).foot) := fun x b hm => by
    by_cases e2 : x = .prtA
    ·subst e2; rw [putO_self] at hm; exact .inl ⟨rfl, fp b hm⟩
    ·rw [putO_ne _ e2] at hm
     by_cases e1 : x = .takA
     ·subst e1; rw [putO_self] at hm; exact .inr (.inl ⟨rfl, ft b hm⟩)
     ·rw [putO_ne _ e1] at hm; exact .inr (.inr ⟨e1, e2, hm⟩)
   have gno : ∀ x, x ≠ .takA → g ∉ (shape a ⟨nm, ns, k, nk⟩ p P fy c x).foot := fun x h1 hm => ho.elim (fun e => h1 (h.sep x .takA g hm (tin e))) (fun e => by have := (h.own x g hm).2; omega)
   have gno' : ∀ x, x ≠ .prtA → g' ∉ (shape a ⟨nm, ns, k, nk⟩ p P fy c x).foot := fun x h1 hm => ho'.elim (fun e => h1 (h.sep x .prtA g' hm (pin e))) (fun e => by have := (h.own x g' hm).2; omega)
   rcases cls x b hx with ⟨rfl, e1⟩ | ⟨rfl, e1⟩ | ⟨n1, n2, e1⟩ <;> rcases cls y b hy with ⟨rfl, e2⟩ | ⟨rfl, e2⟩ | ⟨m1, m2, e2⟩
   ·rfl
   ·exact absurd (e2.symm.trans e1) hne
   ·subst e1; exact absurd e2 (gno' y m2)
   ·exact absurd (e1.symm.trans e2) hne
   ·rfl
   ·subst e1; exact absurd e2 (gno y m1)
   ·subst e2; exact absurd e1 (gno' x n2)
   ·subst e2; exact absurd e1 (gno x n1)
   ·exact h.sep x y b e1 e2
 have e7 := e.setBlk .clu (g := a.g) (by rw [putO_ne _ (by simp), putO_ne _ (by simp)]; rfl) 14 (.slice (some ⟨g, o, none⟩) (k + 1) cp) hb3
 have e8 := e7.setBlk .clu (putO_self _ _) 15 (.slice (some ⟨g', o', none⟩) (k + 1) cp') (by simpa [World.setCell] using hb3)
 have e9 : ∀ (S : Ix → Ob) (o1 o2 : Ob), putO (putO S .clu o1) .clu o2 = putO S .clu o2 := fun S o1 o2 => by
  funext y
  by_cases e : y = .clu
  ·subst e; rw [putO_self, putO_self]
  ·rw [putO_ne _ e, putO_ne _ e, putO_ne _ e]
 rw [e9, shape_addRows] at e8
 exact e8
end
theorem below_for {wr W0 w8 : World} {r : Option Nat} (_ : W0.grownBy w8 r) (h : Below wr.heap.size wr W0) : Below wr.heap.size wr W0 := h
theorem app_after {wr W0 w8 : World} {v : Value} (hB : Below wr.heap.size wr W0) (hg : W0.grownBy w8 v.ownBlock) : KeptL wr w8 v.ownBlock.toList ∧ ∀ b, b < W0.heap.size → v.ownBlock ≠ some b → ∀ o, w8.cell? ⟨b, o, none⟩ = W0.cell? ⟨b, o, none⟩ :=
 ⟨⟨hg.os.trans hB.os, hg.tape.trans hB.tape, hg.output.trans hB.output, Nat.le_trans hB.size hg.size, fun i hi hn => (hg.block i (Nat.lt_of_lt_of_le hi hB.size) (fun e => hn (by simp [← e]))).trans (hB.block i hi)⟩, fun b hb hne o => cell_heap (hg.block b hb (fun e => hne e.symm)) o⟩
section
variable {a : Ad} {p : Pl} {P : Sv3} {fy : Nat} {c : Cl} {ns nm k g o cp g' o' cp' : Nat} {nk : Nat → Nat} {w W0 w8 W1 w9 : World} {base : Nat}
theorem Objs.addRows2 (h : ClAt w base a ⟨nm, ns, k, nk⟩ p P fy c) (hb : base ≤ w.heap.size) (hB : Below w.heap.size w W0)
 (hQ : QAt w8 base 229 (.slice (some ⟨g, o, none⟩) (k + 1) cp) ((List.range k).map a.rt ++ [a.rt k])) (hg : W0.grownBy w8 a.tk.ownBlock) (ho : a.tk.ownBlock = some g ∨ W0.heap.size ≤ g) (hlt : g < w8.heap.size)
 (hB1 : Below w8.heap.size w8 W1) (hQ' : QAt w9 base 220 (.slice (some ⟨g', o', none⟩) (k + 1) cp') ((List.range k).map a.rp ++ [a.rp k])) (hg' : W1.grownBy w9 a.pr.ownBlock) (ho' : a.pr.ownBlock = some g' ∨ W1.heap.size ≤ g') (hlt' : g' < w9.heap.size) :
 ClAt ((w9.setCell ⟨a.g, 14, none⟩ (.slice (some ⟨g, o, none⟩) (k + 1) cp)).setCell ⟨a.g, 15, none⟩ (.slice (some ⟨g', o', none⟩) (k + 1) cp')) base { a with tk := .slice (some ⟨g, o, none⟩) (k + 1) cp, pr := .slice (some ⟨g', o', none⟩) (k + 1) cp' } ⟨nm, ns, k + 1, nk⟩ p P fy c ∧
 KeptL w w9 (a.tk.ownBlock.toList ++ a.pr.ownBlock.toList) ∧ Blk w9 a.g 210 (clC p.nd p.fa p.sk p.ji p.dr p.rd P.s P.l p.fr P.q fy a.ck a.mm a.sd a.tk a.pr c.rd) := by
 have o1 : ∀ q, a.tk.ownBlock = some q → q < w.heap.size := fun q e => (h.own .takA q (by simp [shape, Ob.foot, e])).2
 have o2 : ∀ q, a.pr.ownBlock = some q → q < w.heap.size := fun q e => (h.own .prtA q (by simp [shape, Ob.foot, e])).2
 have sp : ∀ q, a.tk.ownBlock = some q → a.pr.ownBlock ≠ some q := fun q e e2 => by
  have := h.sep .takA .prtA q (by simp [shape, Ob.foot, e]) (by simp [shape, Ob.foot, e2])
  cases this
 have k1 := (app_after hB hg).1
 have k2 := (app_after hB1 hg').1
 have hk : KeptL w w9 (a.tk.ownBlock.toList ++ a.pr.ownBlock.toList) := ⟨k2.os.trans k1.os, k2.tape.trans k1.tape, k2.output.trans k1.output, Nat.le_trans k1.size k2.size, fun i hi hn => (k2.block i (Nat.lt_of_lt_of_le hi k1.size) (fun hm => hn (List.mem_append_right _ hm))).trans (k1.block i hi (fun hm => hn (List.mem_append_left _ hm)))⟩
 have gp : a.pr.ownBlock ≠ some g := fun e => ho.elim (fun e1 => sp g e1 e) (fun e1 => by have := o2 g e; have := hB.size; omega)
 have hne : g ≠ g' := fun e => by
  subst e
  exact ho'.elim (fun e1 => gp e1) (fun e1 => by have := hB1.size; omega)
 have hQ9 : QAt w9 base 229 (.slice (some ⟨g, o, none⟩) (k + 1) cp) ((List.range k).map a.rt ++ [a.rt k]) := hQ.keep (fun q _ hq e => by
  cases e
  exact k2.block g hq (fun hm => gp (by simpa using hm)))
 refine ⟨h.addRows hb hQ9 hQ' hk (ho.imp id (fun e => Nat.le_trans hB.size e)) (ho'.imp id (fun e => Nat.le_trans (Nat.le_trans k1.size hB1.size) e)) hne (Nat.lt_of_lt_of_le hlt k2.size) hlt', hk, ?_⟩
 refine (hk.block a.g (cluB h).lt (fun hm => ?_)).trans (cluB h)
 rcases List.mem_append.1 hm with hm | hm
 ·have := h.sep .clu .takA a.g (by simp [shape, Ob.foot]) (by simpa [shape, Ob.foot] using hm)
  cases this
 ·have := h.sep .clu .prtA a.g (by simp [shape, Ob.foot]) (by simpa [shape, Ob.foot] using hm)
  cases this
end
end
section
open Go Go.RowKit
def entR (rs : List (List Int)) (i k : Nat) : Int := (rs.getD i []).getD k 0
structure RowsOk (p : Pl) (fy : Nat) (c : List Int) (rs : List (List Int)) : Prop where
 len : rs.length = p.nd.toNat
 row : ∀ i, i < p.nd.toNat → (rs.getD i []).length = p.nd.toNat
 bd : ∀ i k, i < p.nd.toNat → k < p.nd.toNat → -700000000000 ≤ entR rs i k ∧ entR rs i k ≤ 700000000000
 hon : ∀ i k, i < p.nd.toNat → k < p.nd.toNat → liesB fy k = false → c.getD k 0 - c.getD i 0 - p.ji ≤ entR rs i k ∧ entR rs i k ≤ c.getD k 0 - c.getD i 0 + p.ji
theorem clampV_in {x m : Int} (hm : 0 ≤ m) : -m ≤ clampV x m ∧ clampV x m ≤ m := by unfold clampV; omega
theorem getD_map_range {α : Type} (f : Nat → α) (d : α) {n i : Nat} (h : i < n) : ((List.range n).map f).getD i d = f i := by simp [List.getD, h]
theorem getD_set_eq {α : Type} (l : List α) (d x : α) {i : Nat} (h : i < l.length) : (l.set i x).getD i d = x := by simp [List.getD, h]
theorem getD_set_ne {α : Type} (l : List α) (d x : α) {i j : Nat} (h : j ≠ i) : (l.set i x).getD j d = l.getD j d := by
 simp only [List.getD]
 rw [List.getElem?_set_ne (by omega)]
section
variable {p : Pl} {fy : Nat} {c : List Int} {rs : List (List Int)}
theorem RowsOk.zero (hp : PlOk p) (hc : ∀ j, -274877906944 ≤ c.getD j 0 ∧ c.getD j 0 ≤ 274877906944) : RowsOk p fy c (rowsN c p.nd.toNat) := by
 have he : ∀ i k, i < p.nd.toNat → k < p.nd.toNat → entR (rowsN c p.nd.toNat) i k = c.getD k 0 - c.getD i 0 := by
  intro i k hi hk
  unfold entR rowsN
  rw [getD_map_range _ _ hi, getD_map_range _ _ hk]
 refine ⟨by simp [rowsN], fun i hi => by unfold rowsN; rw [getD_map_range _ _ hi]; simp, fun i k hi hk => ?_, fun i k hi hk _ => ?_⟩
 ·rw [he i k hi hk]
  have := hc i; have := hc k
  omega
 ·rw [he i k hi hk]
  have := hp.ji
  omega
theorem RowsOk.set_ (hp : PlOk p) (h : RowsOk p fy c rs) {i k : Nat} (hi : i < p.nd.toNat) (hk : k < p.nd.toNat) {x : Int} (hx : -700000000000 ≤ x ∧ x ≤ 700000000000) (hh : liesB fy k = false → c.getD k 0 - c.getD i 0 - p.ji ≤ x ∧ x ≤ c.getD k 0 - c.getD i 0 + p.ji) : RowsOk p fy c (setRow rs i k x) := by
 have _ := hp
 have hl := h.len
 have hr := h.row i hi
 have he : ∀ a b, entR (setRow rs i k x) a b = if a = i ∧ b = k then x else entR rs a b := by
  intro a b
  unfold entR setRow
  by_cases e : a = i
  ·subst e
   rw [getD_set_eq _ _ _ (by omega)]
   by_cases e2 : b = k
   ·subst e2
    rw [getD_set_eq _ _ _ (by omega), if_pos ⟨rfl, rfl⟩]
   ·rw [getD_set_ne _ _ _ e2, if_neg (fun h => e2 h.2)]
  ·rw [getD_set_ne _ _ _ e, if_neg (fun h => e h.1)]
 refine ⟨by simp [setRow, hl], fun a ha => ?_, fun a b ha hb => ?_, fun a b ha hb hg => ?_⟩
 ·unfold setRow
  by_cases e : a = i
  ·subst e
   rw [getD_set_eq _ _ _ (by omega), List.length_set]
   exact hr
  ·rw [getD_set_ne _ _ _ e]
   exact h.row a ha
 ·rw [he]
  split
  ·exact hx
  ·exact h.bd a b ha hb
 ·rw [he]
  split
  ·rename_i e
   obtain ⟨rfl, rfl⟩ := e
   exact hh hg
  ·exact h.hon a b ha hb hg
theorem RowsOk.read (hp : PlOk p) (hc : ∀ j, -274877906944 ≤ c.getD j 0 ∧ c.getD j 0 ≤ 274877906944) (h : RowsOk p fy c rs) (x : Rg) : RowsOk p fy c (readF p fy c rs x) := by
 unfold readF
 split
 ·exact h
 ·rename_i hn
  have hj := hp.ji
  have h1 := hc x.o.toNat
  have h2 := hc x.n.toNat
  have h3 := clampV_in (x := x.i) (m := 549755813888) (by omega)
  have h4 := clampV_in (x := x.i) hj.1
  refine h.set_ hp (by omega) (by omega) ?_ ?_
  ·split <;> omega
  ·intro hg
   rw [if_neg (by rw [hg]; decide)]
   omega
theorem RowsOk.reads (hp : PlOk p) (hc : ∀ j, -274877906944 ≤ c.getD j 0 ∧ c.getD j 0 ≤ 274877906944) (h : RowsOk p fy c rs) (l : List Rg) : RowsOk p fy c (l.foldl (readF p fy c) rs) := by
 induction l generalizing rs with
 | nil => exact h
 | cons x l ih => exact ih (h.read hp hc x)
theorem RowsOk.eq (h : RowsOk p fy c rs) {i : Nat} (hi : i < p.nd.toNat) : rs.getD i [] = (List.range p.nd.toNat).map (entR rs i) := by
 apply List.ext_getElem?
 intro k
 by_cases hk : k < p.nd.toNat
 ·simp only [List.getElem?_map, List.getElem?_range hk, Option.map_some]
  unfold entR
  rw [List.getD_eq_getElem?_getD (l := rs.getD i []), List.getElem?_eq_getElem (by rw [h.row i hi]; exact hk)]
  rfl
 ·rw [List.getElem?_eq_none (by rw [h.row i hi]; omega), List.getElem?_eq_none (by simp; omega)]
theorem RowsOk.mid (hp : PlOk p) (h : RowsOk p fy c rs) {i : Nat} (hi : i < p.nd.toNat) : midE (rs.getD i []) p.fa = 0 ∧ midV (rs.getD i []) p.fa = midN ((List.range p.nd.toNat).map (entR rs i)) p.fa.toNat := by
 have h1 := hp.f0; have h2 := hp.f3
 have ha : (rs.getD i []).any outT = false := by
  rw [List.any_eq_false]
  intro x hx
  rw [h.eq hi] at hx
  obtain ⟨k, hk, rfl⟩ := List.mem_map.1 hx
  have := h.bd i k hi (List.mem_range.1 hk)
  simp [outT]; omega
 have e : midE (rs.getD i []) p.fa = 0 := by
  unfold midE
  rw [h.row i hi, if_neg (by omega), if_neg (by rw [ha]; decide)]
 exact ⟨e, by unfold midV; rw [if_pos e, h.eq hi]⟩
theorem setL_get (zs : List Int) (rs : List (List Int)) (f : Int) {k j : Nat} (hj : j < k) : (setL zs rs f k).getD j 0 = zs.getD j 0 + midV (rs.getD j []) f := by
 simp only [setL, List.getD, List.getElem?_map, List.getElem?_range hj, Option.map_some, Option.getD_some]
theorem RowsOk.set_ok (hp : PlOk p) (h : RowsOk p fy c rs) (hc : ∀ j, -274877906944 ≤ c.getD j 0 ∧ c.getD j 0 ≤ 274877906944) {i : Nat} (hi : i < p.nd.toNat) : setE p.nd.toNat p.fa (c.getD i 0) (rs.getD i []) = 0 := by
 unfold setE
 rw [if_neg (by rw [h.row i hi]; simp), if_neg (by have := hc i; simp only [outT, Bool.or_eq_true, decide_eq_true_eq]; omega)]
 exact (h.mid hp hi).1
theorem driftF_len (zs dr : List Int) : (driftF p zs dr).length = zs.length := by simp [driftF]
def apartLe (fy : Nat) (c : List Int) (n : Nat) (d : Int) : Prop := ∀ i j, i < n → j < n → liesB fy i = false → liesB fy j = false → c.getD i 0 - c.getD j 0 ≤ d
def liars (fy n : Nat) : Nat := (List.range n).countP (fun k => liesB fy k)
theorem some_right (hp : PlOk p) (hl : (liars fy p.nd.toNat : Int) ≤ p.fa) : ∃ k, k < p.nd.toNat ∧ liesB fy k = false := by
 have h1 := hp.f0; have h2 := hp.f3; have h3 := hp.n1
 by_cases e : ∃ k, k < p.nd.toNat ∧ liesB fy k = false
 ·exact e
 ·have : (List.range p.nd.toNat).countP (fun k => liesB fy k) = (List.range p.nd.toNat).length := by
   rw [List.countP_eq_length]
   intro k hk
   cases hb : liesB fy k
   ·exact absurd ⟨k, List.mem_range.1 hk, hb⟩ e
   ·rfl
  unfold liars at hl
  rw [this, List.length_range] at hl
  omega
end
end
section
open Go.RowKit
theorem own_base2 {w : World} {base size n : Nat} {e : TypeId} {v : Value} {xs : List Value} (h : w.ownsRow base e size v n xs) : ∀ k, v.ownBlock = some k → base ≤ k := by
 intro k e
 obtain ⟨_, ⟨rfl, _⟩ | ⟨g, cap, cur, rfl, hg, _⟩⟩ := h
 ·simp [Value.ownBlock] at e
 ·simp [Value.ownBlock] at e; omega
section
variable {P : Program}
theorem run_append_own2 (w : World) (base : Nat) (t ty e : TypeId) (i : TypeInfo) (z : Value) (size bytes : Nat) (ht : P.underlying t = some (.slice e)) (hi : P.info? e = some i) (hz : i.zero = some z)
 (hsize : i.size = size) (hby : i.bytes = bytes) (hzs : z.cells.size = size) (hsz : 0 < size)
 (v : Value) (n : Nat) (xs : List Value) (hown : w.ownsRow base e size v n xs)
 (a : Addr) (m c : Nat) (news : List Value) (hl : news.length = m * size) (hnews : ∀ j u, news[j]? = some u → w.cell? (a.add j) = some u) (h1 : ∀ u ∈ news, u.oneCell' = true)
 (h63 : n + m ≤ maxLen) (hbytes : (n + m) * bytes ≤ 140737488355328) (hbase : base ≤ w.heap.size) :
 ∃ v' w', (Builtin.append_ #[t, t] ty #[v, .slice (some a) m c]).run P w = .ok v' w' ∧ w'.ownsRow base e size v' (n + m) (xs ++ news) ∧ w.grownBy w' v.ownBlock ∧ (v'.ownBlock = v.ownBlock ∨ ∀ k, v'.ownBlock = some k → w.heap.size ≤ k) := by
 obtain ⟨v', w', hr, h2, h3, _⟩ := run_append_own (P := P) w base t ty e i z size bytes ht hi hz hsize hby hzs hsz v n xs hown a m c news hl hnews h1 h63 hbytes hbase
 refine ⟨v', w', hr, h2, h3, ?_⟩
 rcases hown.2 with ⟨rfl, rfl⟩ | ⟨g, cap, cur, rfl, hbg, hg, hnc, hcm, hcs, htake⟩
 ·have hx : xs = [] := List.eq_nil_of_length_eq_zero (by simpa using hown.1)
  subst hx
  obtain ⟨v2, w2, hr2, k2, _, _⟩ := run_append_own (P := P) w w.heap.size t ty e i z size bytes ht hi hz hsize hby hzs hsz (.slice none 0 0) 0 [] (World.ownsRow_nil w _ e size) a m c news hl hnews h1 h63 hbytes (Nat.le_refl _)
  rw [hr] at hr2
  cases hr2
  exact .inr (own_base2 k2)
 ·by_cases hroom : n + m ≤ cap
  ·have hfit : n * i.size + news.length ≤ cur.size := by rw [hl, hcs, hsize, ← Nat.add_mul]; exact Nat.mul_le_mul_right _ hroom
   have hr2 := run_append_room (P := P) w t ty e i ht hi g n cap cur hg a m c news (by rw [hsize]; exact hl) hnews h1 hroom hfit
   rw [hr] at hr2
   cases hr2
   exact .inl rfl
  ·have holds : ∀ j u, xs[j]? = some u → w.cell? ((⟨g, 0, none⟩ : Addr).add j) = some u := hown.cells (g := g) rfl
   obtain ⟨v2, w2, hr2, k2, _⟩ := run_append_arg_grows (P := P) w t ty e i z size bytes ht hi hz hsize hby hzs hsz ⟨g, 0, none⟩ n cap xs hown.1 holds a m c news hl hnews (by omega) h63 hbytes
   rw [hr] at hr2
   cases hr2
   exact .inr (own_base2 k2)
theorem wp_append_own2 (w : World) {o : Oper} {a : Act} {K : Act → World → Prop} {Q : Exit → Act → World → Prop} (s x : Operand) (t : TypeId)
 (ho : o.op = .call { callee := .builtin .append, args := #[s, x], argTypes := #[t, t] })
 (base : Nat) (e : TypeId) (i : TypeInfo) (z : Value) (size bytes : Nat) (ht : P.underlying t = some (.slice e)) (hi : P.info? e = some i) (hz : i.zero = some z) (hsize : i.size = size) (hby : i.bytes = bytes) (hzs : z.cells.size = size) (hsz : 0 < size)
 (v : Value) (n : Nat) (xs : List Value) (hs : a.eval s = v) (hown : w.ownsRow base e size v n xs) (ad : Addr) (m c : Nat) (news : List Value) (hx : a.eval x = .slice (some ad) m c) (hl : news.length = m * size) (hnews : ∀ j u, news[j]? = some u → w.cell? (ad.add j) = some u) (h1 : ∀ u ∈ news, u.oneCell' = true)
 (h63 : n + m ≤ maxLen) (hbytes : (n + m) * bytes ≤ 140737488355328) (hbase : base ≤ w.heap.size)
 (h : ∀ v' w', w'.ownsRow base e size v' (n + m) (xs ++ news) → w.grownBy w' v.ownBlock → (v'.ownBlock = v.ownBlock ∨ ∀ k, v'.ownBlock = some k → w.heap.size ≤ k) → K (a.put o.dst v') w') : o.wp P a w K Q := by
 obtain ⟨v', w', hr, h2, h3, h4⟩ := run_append_own2 (P := P) w base t o.type e i z size bytes ht hi hz hsize hby hzs hsz v n xs hown ad m c news hl hnews h1 h63 hbytes hbase
 unfold Oper.wp execOp
 simp only [ho, resolve, invoke, builtin, Sem.run_bind, Sem.run_pure, Result.andThen_ok, List.map_toArray, List.map_cons, List.map_nil, hs, hx, hr]
 exact h v' w' h2 h3 h4
end
end
section
open Go Go.RowKit
theorem own_keepH {w w' : World} {base size n : Nat} {e : TypeId} {v : Value} {xs : List Value} (h : w.ownsRow base e size v n xs) (hk : ∀ g, v.ownBlock = some g → w'.heap[g]? = w.heap[g]?) : w'.ownsRow base e size v n xs := by
 refine ⟨h.1, ?_⟩
 rcases h.2 with h1 | ⟨g, cap, cur, rfl, hb, hg, rest⟩
 ·exact .inl h1
 ·exact .inr ⟨g, cap, cur, rfl, hb, (hk g rfl).trans hg, rest⟩
structure Fam (w : World) (base n : Nat) (V : Nat → Value) (R : Nat → List Int) : Prop where
 own : ∀ j, j ≤ n → w.ownsRow base 3 1 (V j) (R j).length ((R j).map (Value.int .i64))
 ne : ∀ i j, i ≤ n → j ≤ n → i ≠ j → (V i).ownBlock = none ∨ (V i).ownBlock ≠ (V j).ownBlock
theorem Fam.keep {w w' : World} {base n : Nat} {V : Nat → Value} {R : Nat → List Int} (h : Fam w base n V R) (hk : ∀ g, base ≤ g → g < w.heap.size → w'.heap[g]? = w.heap[g]?) : Fam w' base n V R :=
 ⟨fun j hj => own_keepH (h.own j hj) fun g e => hk g ((h.own j hj).lt g e).1 ((h.own j hj).lt g e).2, h.ne⟩
theorem Fam.congr {w : World} {base n : Nat} {V : Nat → Value} {R R' : Nat → List Int} (h : Fam w base n V R) (e : ∀ j, j ≤ n → R j = R' j) : Fam w base n V R' :=
 ⟨fun j hj => by rw [← e j hj]; exact h.own j hj, h.ne⟩
def upd {α : Type} (V : Nat → α) (i : Nat) (v : α) : Nat → α := fun j => if j = i then v else V j
theorem Fam.push {w w8 : World} {base n i : Nat} {V : Nat → Value} {R : Nat → List Int} {v8 : Value} {x : Int} (h : Fam w base n V R) (hi : i ≤ n)
 (hown : w8.ownsRow base 3 1 v8 ((R i).length + 1) ((R i).map (Value.int .i64) ++ [.int .i64 x])) (hg : w.grownBy w8 (V i).ownBlock) (hw : v8.ownBlock = (V i).ownBlock ∨ ∀ k, v8.ownBlock = some k → w.heap.size ≤ k) :
 Fam w8 base n (upd V i v8) (upd R i (R i ++ [x])) := by
 have hlt : ∀ j, j ≤ n → ∀ k, (V j).ownBlock = some k → k < w.heap.size := fun j hj k e => ((h.own j hj).lt k e).2
 refine ⟨fun j hj => ?_, fun a b ha hb hab => ?_⟩
 ·unfold upd
  by_cases e : j = i
  ·rw [if_pos e, if_pos e]
   simpa using hown
  ·rw [if_neg e, if_neg e]
   refine own_keepH (h.own j hj) fun g eg => hg.block g (hlt j hj g eg) ?_
   rcases h.ne j i hj hi e with h1 | h1
   ·rw [h1] at eg; cases eg
   ·rw [eg] at h1; exact h1
 ·unfold upd
  by_cases ea : a = i
  ·have eb : b ≠ i := fun e => hab (ea.trans e.symm)
   rw [if_pos ea, if_neg eb]
   rcases hw with hw | hw
   ·rw [hw, ← ea]; exact h.ne a b ha hb hab
   ·cases e : v8.ownBlock with
    | none => exact .inl rfl
    | some k => exact .inr fun e2 => by have := hlt b hb k e2.symm; have := hw k e; omega
  ·rw [if_neg ea]
   by_cases eb : b = i
   ·rw [if_pos eb]
    rcases hw with hw | hw
    ·rw [hw, ← eb]; exact h.ne a b ha hb hab
    ·cases e : (V a).ownBlock with
     | none => exact .inl rfl
     | some k => exact .inr fun e2 => by have := hlt a ha k e; have := hw k e2.symm; omega
   ·rw [if_neg eb]; exact h.ne a b ha hb hab
structure HvAt (w7 wr : World) (n : Nat) (V : Nat → Value) (R : Nat → List Int) : Prop where
 fam : Fam wr (w7.heap.size + 1) n V R
 hd : ∃ H, Blk wr w7.heap.size 33 H ∧ H.size = n ∧ ∀ j, j < n → H[j]? = some (V j)
 old : Below w7.heap.size w7 wr
section
variable {w7 wr w8 : World} {n i : Nat} {V : Nat → Value} {R : Nat → List Int} {v8 : Value} {x : Int}
theorem HvAt.sz (h : HvAt w7 wr n V R) : w7.heap.size < wr.heap.size := by obtain ⟨H, hb, _⟩ := h.hd; exact hb.lt
theorem HvAt.cell (h : HvAt w7 wr n V R) {j : Nat} (hj : j < n) : wr.cell? ⟨w7.heap.size, j, none⟩ = some (V j) := by
 obtain ⟨H, hb, _, hH⟩ := h.hd
 rw [hb.cell j, hH j hj]
theorem HvAt.drewN (h : HvAt w7 wr n V R) (q : Nat) : HvAt w7 (wr.drewN q) n V R := ⟨h.fam.keep fun _ _ _ => rfl, by obtain ⟨H, hb, h2⟩ := h.hd; exact ⟨H, hb.drewN q, h2⟩, below_drewN h.old q⟩
theorem HvAt.alloc (h : HvAt w7 wr n V R) (o : Obj) : HvAt w7 (wr.alloc o) n V R :=
 ⟨h.fam.keep fun g _ hl => Below.heap_alloc wr o g hl, by obtain ⟨H, hb, h2⟩ := h.hd; exact ⟨H, hb.alloc o, h2⟩, h.old.alloc (Nat.le_of_lt h.sz) o⟩
theorem HvAt.congr {R' : Nat → List Int} (h : HvAt w7 wr n V R) (e : ∀ j, j ≤ n → R j = R' j) : HvAt w7 wr n V R' := ⟨h.fam.congr e, h.hd, h.old⟩
theorem HvAt.nh (h : HvAt w7 wr n V R) (hi : i ≤ n) : some w7.heap.size ≠ (V i).ownBlock := fun e => by have := ((h.fam.own i hi).lt _ e.symm).1; omega
theorem HvAt.row (h : HvAt w7 wr n V R) (hi : i < n) (hown : w8.ownsRow (w7.heap.size + 1) 3 1 v8 ((R i).length + 1) ((R i).map (Value.int .i64) ++ [.int .i64 x])) (hg : wr.grownBy w8 (V i).ownBlock) (hw : v8.ownBlock = (V i).ownBlock ∨ ∀ k, v8.ownBlock = some k → wr.heap.size ≤ k) :
 HvAt w7 (w8.setCell ⟨w7.heap.size, i, none⟩ v8) n (upd V i v8) (upd R i (R i ++ [x])) := by
 have hf := h.fam.push (Nat.le_of_lt hi) hown hg hw
 refine ⟨hf.keep fun g hb _ => Below.heap_setCell w8 _ v8 g (by show g ≠ w7.heap.size; omega), ?_, ?_⟩
 ·obtain ⟨H, hb, h2, h3⟩ := h.hd
  refine ⟨H.setIfInBounds i v8, (hb.grown hg (h.nh (Nat.le_of_lt hi))).set_ i v8, by rw [Array.size_setIfInBounds]; exact h2, fun j hj => ?_⟩
  unfold upd
  by_cases e : j = i
  ·subst e
   rw [if_pos rfl, Array.getElem?_setIfInBounds_self, if_pos (by omega)]
  ·rw [if_neg e, Array.getElem?_setIfInBounds_ne (Ne.symm e)]
   exact h3 j hj
 ·exact (h.old.grown hg (Nat.le_of_lt h.sz) (fun k e => by have := ((h.fam.own i (Nat.le_of_lt hi)).lt k e).1; omega)).setCell (Nat.le_refl _) _
end
end
section
open Go Go.RowKit
theorem rows_info : (Tryz.prog.info? 33).map (fun i => (i.zero, i.size, i.bytes)) = some (some (.slice none 0 0), 1, 24) := by kernel_rfl
theorem make_rows (n : Nat) (hn : n ≤ 1000) : ∃ cs : Array Value, (∀ w : World, (Instr.makeSlice 147 (.int .i64 n) (.int .i64 n)).run Tryz.prog w = .ok (.slice (some ⟨w.heap.size, 0, none⟩) n n) (w.alloc (.cells cs 33))) ∧ cs.size = n ∧ ∀ k, k < n → cs[k]? = some (.slice none 0 0) := by
 obtain ⟨i0, hi, hz0, hz1, hz2⟩ := en_info_parts rows_info
 refine ⟨madeCells (Value.slice none 0 0).cells ((n : Int).toNat * i0.size), fun w => ?_, by rw [size_madeCells, hz1]; simp, ?_⟩
 ·have := run_makeSlice (P := Tryz.prog) w 147 33 i0 (.slice none 0 0) Tryz.underlying147 hi hz0 .i64 .i64 n n (by omega) (by omega) (by rw [hz1]; simp; omega) (by rw [hz2]; simp; omega) (by omega)
  simpa using this
 ·intro k hk
  rw [hz1]
  simp [madeCells, Value.cells]
  exact ⟨k, by simp [hk], by rw [Nat.mod_one]; rfl⟩
theorem HvAt.start {w7 : World} {n : Nat} {cs : Array Value} (h1 : cs.size = n) (h2 : ∀ k, k < n → cs[k]? = some (.slice none 0 0)) : HvAt w7 (w7.alloc (.cells cs 33)) n (fun _ => .slice none 0 0) (fun _ => []) :=
 ⟨⟨fun _ _ => World.ownsRow_nil _ _ _ _, fun _ _ _ _ _ => .inl rfl⟩, ⟨cs, Blk.new w7 _ _, h1, h2⟩, (Below.refl _ _).alloc (Nat.le_refl _) _⟩
theorem own_set {w : World} {base n g i : Nat} {cp : Nat} {xs : List Value} {u : Value} (h : w.ownsRow base 3 1 (.slice (some ⟨g, 0, none⟩) n cp) n xs) (hi : i < n) : (w.setCell ⟨g, i, none⟩ u).ownsRow base 3 1 (.slice (some ⟨g, 0, none⟩) n cp) n (xs.set i u) := by
 refine ⟨by rw [List.length_set]; exact h.1, ?_⟩
 rcases h.2 with ⟨h1, _⟩ | ⟨g2, cap, cur, hv, hb, hg, hnc, hm, hs, ht⟩
 ·cases h1
 ·cases hv
  refine .inr ⟨g, cp, cur.setIfInBounds i u, rfl, hb, ?_, hnc, hm, by simpa using hs, ?_⟩
  ·simp [World.setCell, Array.getElem?_modify, hg]
  ·rw [Array.toList_setIfInBounds, List.take_set, ht]
theorem own_cell {w : World} {base n g i : Nat} {cp : Nat} {xs : List Value} (h : w.ownsRow base 3 1 (.slice (some ⟨g, 0, none⟩) n cp) n xs) (hi : i < n) : w.cell? ⟨g, i, none⟩ = xs[i]? ∧ w.frozen? ⟨g, i, none⟩ = false := by
 rcases h.2 with ⟨h1, _⟩ | ⟨g2, cap, cur, hv, hb, hg, hnc, hm, hs, ht⟩
 ·cases h1
 ·cases hv
  have hl := h.1
  refine ⟨?_, by unfold World.frozen?; simp [hg]⟩
  rw [cell_of_row w g i cur 3 (0, 0) hg, ← ht, List.getElem?_take]
  rw [if_pos (by omega)]
  simp
theorem HvAt.setR {w7 wr : World} {n i k g cp : Nat} {V : Nat → Value} {R : Nat → List Int} {x : Int} (h : HvAt w7 wr n V R) (hi : i < n) (hv : V i = .slice (some ⟨g, 0, none⟩) (R i).length cp) (hk : k < (R i).length) : HvAt w7 (wr.setCell ⟨g, k, none⟩ (.int .i64 x)) n V (upd R i ((R i).set k x)) := by
 have ho := h.fam.own i (Nat.le_of_lt hi)
 have hgb : w7.heap.size + 1 ≤ g := (ho.lt g (by rw [hv]; rfl)).1
 refine ⟨⟨fun j hj => ?_, h.fam.ne⟩, ?_, h.old.setCell (by show w7.heap.size ≤ g; omega) _⟩
 ·unfold upd
  by_cases e : j = i
  ·subst e
   rw [if_pos rfl, List.length_set, List.map_set, hv]
   rw [hv] at ho
   exact own_set ho hk
  ·rw [if_neg e]
   refine own_keepH (h.fam.own j hj) fun g2 e2 => Below.heap_setCell wr _ _ g2 ?_
   show g2 ≠ g
   rintro rfl
   rcases h.fam.ne j i hj (Nat.le_of_lt hi) e with h1 | h1
   ·rw [h1] at e2; cases e2
   ·apply h1
    rw [e2, hv]; rfl
 ·obtain ⟨H, hb, h2⟩ := h.hd
  exact ⟨H, hb.far (p := ⟨g, k, none⟩) (by show w7.heap.size ≠ g; omega) _, h2⟩
theorem HvAt.rows_ {w7 wr : World} {n : Nat} {V : Nat → Value} {rs : List (List Int)} (h : HvAt w7 wr n V (fun j => rs.getD j [])) (hl : rs.length = n) : RowsAt wr (some ⟨w7.heap.size, 0, none⟩) rs := fun j hj => by
 have hc := h.cell (j := j) (by omega)
 have ho := h.fam.own j (by omega)
 obtain ⟨A, c, e, hI⟩ := isl_ownC ho rfl
 rw [e] at hc
 exact ⟨w7.heap.size, 0, A, c, rfl, by rw [Nat.zero_add]; exact hc, hI⟩
def rowI (c : List Int) (j m : Nat) : List Int := (List.range m).map fun k => c.getD k 0 - c.getD j 0
theorem rowI_succ (c : List Int) (j m : Nat) : rowI c j (m + 1) = rowI c j m ++ [c.getD m 0 - c.getD j 0] := by simp [rowI, List.range_succ]
theorem rowI_len (c : List Int) (j m : Nat) : (rowI c j m).length = m := by simp [rowI]
def Rp (c : List Int) (n i m : Nat) : Nat → List Int := fun j => if j < i then rowI c j n else if j = i then rowI c i m else []
theorem Rp_zero (c : List Int) (n : Nat) (j : Nat) : ([] : List Int) = Rp c n 0 0 j := by
 unfold Rp
 split
 ·omega
 ·split <;> rfl
theorem Rp_at (c : List Int) (n i m : Nat) : Rp c n i m i = rowI c i m := by simp [Rp]
theorem Rp_push (c : List Int) (n i m j : Nat) : upd (Rp c n i m) i (rowI c i m ++ [c.getD m 0 - c.getD i 0]) j = Rp c n i (m + 1) j := by
 unfold upd Rp
 by_cases e : j = i
 ·subst e
  rw [if_pos rfl, if_neg (Nat.lt_irrefl _), if_pos rfl, rowI_succ]
 ·rw [if_neg e, if_neg e, if_neg e]
theorem Rp_next (c : List Int) (n i j : Nat) : Rp c n i n j = Rp c n (i + 1) 0 j := by
 unfold Rp
 by_cases h1 : j < i
 ·rw [if_pos h1, if_pos (by omega)]
 ·rw [if_neg h1]
  by_cases h2 : j = i
  ·subst h2
   rw [if_pos rfl, if_pos (by omega)]
  ·rw [if_neg h2, if_neg (by omega)]
   split <;> rfl
theorem Rp_end (c : List Int) (n j : Nat) : Rp c n n 0 j = (rowsN c n).getD j [] := by
 unfold Rp rowsN
 by_cases h : j < n
 ·rw [if_pos h, getD_map_range _ _ h]; rfl
 ·rw [if_neg h, List.getD_eq_getElem?_getD, List.getElem?_eq_none (by simp; omega)]
  split <;> rfl
theorem cell_far {w : World} (u : Value) {p : Addr} {b o : Nat} (h : b ≠ p.block) : (w.setCell p u).cell? ⟨b, o, none⟩ = w.cell? ⟨b, o, none⟩ := cell_heap (Below.heap_setCell w p u b h) o
def readK (p : Pl) (fy : Nat) (c : List Int) (l : List Rg) (k : Nat) : List (List Int) := (l.take k).foldl (readF p fy c) (rowsN c p.nd.toNat)
theorem readK_succ {p : Pl} {fy : Nat} {c : List Int} {l : List Rg} {k : Nat} {x : Rg} (h : l[k]? = some x) : readK p fy c l (k + 1) = readF p fy c (readK p fy c l k) x := by
 unfold readK
 rw [List.take_add_one, h, List.foldl_append]
 rfl
theorem readK_all (p : Pl) (fy : Nat) (c : List Int) (l : List Rg) : readK p fy c l l.length = readAll p fy c l := by unfold readK readAll; rw [List.take_length]
theorem readK_ok {p : Pl} {fy : Nat} {c : List Int} (hp : PlOk p) (hc : ∀ j, -274877906944 ≤ c.getD j 0 ∧ c.getD j 0 ≤ 274877906944) (l : List Rg) (k : Nat) : RowsOk p fy c (readK p fy c l k) := (RowsOk.zero hp hc).reads hp hc _
theorem readF_bad {p : Pl} {fy : Nat} {c : List Int} {rs : List (List Int)} {x : Rg} (h : x.n < 0 ∨ p.nd ≤ x.n ∨ x.o < 0 ∨ p.nd ≤ x.o ∨ x.n = x.o) : readF p fy c rs x = rs := by unfold readF; rw [if_pos h]
theorem readF_good {p : Pl} {fy : Nat} {c : List Int} {rs : List (List Int)} {x : Rg} {u v : Nat} (hu : x.n = u) (hv : x.o = v) (h1 : (u : Int) < p.nd) (h2 : (v : Int) < p.nd) (h3 : u ≠ v) : readF p fy c rs x = setRow rs u v (if liesB fy v = true then clampV x.i 549755813888 else c.getD v 0 - c.getD u 0 + clampV x.i p.ji) := by
 unfold readF
 rw [if_neg (by omega), hu, hv, Int.toNat_natCast, Int.toNat_natCast]
theorem setRow_get (rs : List (List Int)) {u v : Nat} (y : Int) (hu : u < rs.length) (j : Nat) : upd (fun j => rs.getD j []) u ((rs.getD u []).set v y) j = (setRow rs u v y).getD j [] := by
 unfold upd setRow
 by_cases e : j = u
 ·subst e
  rw [if_pos rfl, getD_set_eq _ _ _ hu]
 ·rw [if_neg e, getD_set_ne _ _ _ e]
set_option maxRecDepth 100000 in
theorem clamp_any (x m : Int) (w : World) (hm : 0 ≤ m) (hm2 : m ≤ 1099511627776) :
 Calls Tryz.prog 173 #[.int .i64 x, .int .i64 m] w fun e w' => e = .returned (.int .i64 (clampV x m)) ∧ w' = w := by
 have hn : wrap64 (-m) = -m := IntWalk.wrap64_in _ ⟨by omega, by omega⟩
 go_enter Tryz.func173, Tryz.ntmps173
 go_wp2_with fail
 go_ret
 exact ⟨rfl, rfl⟩
def RgAt (w : World) (A : Option Addr) (l : List Rg) : Prop := ∀ (j : Nat) (x : Rg), l[j]? = some x → ∃ b off, A = some ⟨b, off, none⟩ ∧ w.cell? ⟨b, off + j * 3, none⟩ = some (.int .i64 x.n) ∧ w.cell? ⟨b, off + j * 3 + 1, none⟩ = some (.int .i64 x.o) ∧ w.cell? ⟨b, off + j * 3 + 2, none⟩ = some (.int .i64 x.i)
theorem Objs.ckV {w : World} {base : Nat} {a : Ad} {n : Cn} {p : Pl} {P : Sv3} {fy : Nat} {c : Cl} (h : ClAt w base a n p P fy c) {m : Nat} (hm : c.ck.length = m) (h0 : 0 < m) : ∃ b off cp, a.ck = .slice (some ⟨b, off, none⟩) m cp := by
 have h1 : QAt w base 3 a.ck (c.ck.map (Value.int .i64)) := h.at_ .nums
 obtain ⟨ao, cp, e, _⟩ := h1.shape
 rw [List.length_map, hm] at e
 rw [e] at h1
 obtain ⟨b, off, rfl, _⟩ := h1.block h0
 exact ⟨b, off, cp, e⟩
theorem Objs.ckI {w : World} {base : Nat} {a : Ad} {n : Cn} {p : Pl} {P : Sv3} {fy : Nat} {c : Cl} (h : ClAt w base a n p P fy c) {m b off cp : Nat} (hm : c.ck.length = m) (e : a.ck = .slice (some ⟨b, off, none⟩) m cp) : IsL w (some ⟨b, off, none⟩) c.ck := fun j hj => by
 have h1 : QAt w base 3 a.ck (c.ck.map (Value.int .i64)) := h.at_ .nums
 rw [e] at h1
 obtain ⟨b2, off2, e2, _, _, hc⟩ := h1.block (by omega)
 cases e2
 refine ⟨b, off, rfl, ?_⟩
 rw [hc j (by omega), List.getElem?_map, List.getElem?_eq_getElem hj, List.getD_eq_getElem?_getD, List.getElem?_eq_getElem hj]
 rfl
theorem own_mono {w : World} {base b2 n : Nat} {e : TypeId} {v : Value} {xs : List Value} (h : w.ownsRow base e 1 v n xs) (hb : b2 ≤ base) : w.ownsRow b2 e 1 v n xs := by
 refine ⟨h.1, ?_⟩
 rcases h.2 with h1 | ⟨g, cap, cur, h1, h2, h3⟩
 ·exact .inl h1
 ·exact .inr ⟨g, cap, cur, h1, by omega, h3⟩
theorem swap_below {w : World} {g i : Nat} {t : TypeId} {cs : Array Value} {u : Value} (hb : Blk w g t cs) (hi : cs[i]? = some u) (v : Value) : Below w.heap.size w ((w.setCell ⟨g, i, none⟩ v).setCell ⟨g, i, none⟩ u) := by
 refine ⟨rfl, rfl, rfl, by simp [World.setCell], fun k hk => ?_⟩
 by_cases e : k = g
 ·subst e
  have h1 : Blk ((w.setCell ⟨k, i, none⟩ v).setCell ⟨k, i, none⟩ u) k t ((cs.setIfInBounds i v).setIfInBounds i u) := (hb.set_ i v).set_ i u
  have h2 : (cs.setIfInBounds i v).setIfInBounds i u = cs := by
   apply Array.ext_getElem?
   intro j
   rw [Array.getElem?_setIfInBounds, Array.getElem?_setIfInBounds]
   by_cases e : i = j
   ·subst e
    have hlt : i < cs.size := (Array.getElem?_eq_some_iff.1 hi).1
    simp [hlt]
    rw [Array.getElem?_eq_getElem hlt] at hi
    exact (Option.some.inj hi).symm
   ·simp [e]
  rw [h2] at h1
  exact h1.trans hb.symm
 ·exact (Below.heap_setCell _ _ _ k e).trans (Below.heap_setCell _ _ _ k e)
def outK (p : Pl) (zs dr : List Int) (k : Nat) : List Int := (List.range zs.length).map fun i => zs.getD i 0 + (if i < k ∧ i < dr.length then clampV (dr.getD i 0) p.dr else 0)
theorem outK_len (p : Pl) (zs dr : List Int) (k : Nat) : (outK p zs dr k).length = zs.length := by simp [outK]
theorem outK_zero (p : Pl) (zs dr : List Int) : outK p zs dr 0 = zs := by
 unfold outK
 apply List.ext_getElem?
 intro i
 by_cases h : i < zs.length
 ·simp [h, List.getD]
 ·rw [List.getElem?_eq_none (by simp; omega), List.getElem?_eq_none (by omega)]
theorem outK_all (p : Pl) (zs dr : List Int) : outK p zs dr dr.length = driftF p zs dr := by
 unfold outK driftF
 apply List.map_congr_left
 intro i _
 by_cases h : i < dr.length
 ·rw [if_pos ⟨h, h⟩, if_pos h]
 ·rw [if_neg (fun hh => h hh.1), if_neg h]
theorem outK_get (p : Pl) (zs dr : List Int) (k : Nat) {i : Nat} (h : i < zs.length) : (outK p zs dr k).getD i 0 = zs.getD i 0 + (if i < k ∧ i < dr.length then clampV (dr.getD i 0) p.dr else 0) := by
 unfold outK
 rw [getD_map_range _ _ h]
theorem outK_step (p : Pl) (zs dr : List Int) {k : Nat} (h : k < dr.length) (hk : k < zs.length) : outK p zs dr (k + 1) = (outK p zs dr k).set k (zs.getD k 0 + clampV (dr.getD k 0) p.dr) := by
 apply List.ext_getElem?
 intro i
 rw [List.getElem?_set]
 by_cases e : k = i
 ·subst e
  rw [if_pos rfl, if_pos (by rw [outK_len]; exact hk)]
  have h1 := outK_get p zs dr (k + 1) hk
  rw [if_pos ⟨Nat.lt_succ_self _, h⟩, List.getD_eq_getElem?_getD, List.getElem?_eq_getElem (by rw [outK_len]; exact hk)] at h1
  rw [List.getElem?_eq_getElem (by rw [outK_len]; exact hk)]
  rw [← h1]; rfl
 ·rw [if_neg e]
  by_cases hi : i < zs.length
  ·have h1 := outK_get p zs dr (k + 1) hi
   have h2 := outK_get p zs dr k hi
   have e2 : (if i < k + 1 ∧ i < dr.length then clampV (dr.getD i 0) p.dr else 0) = (if i < k ∧ i < dr.length then clampV (dr.getD i 0) p.dr else 0) := by
    by_cases h3 : i < k
    ·simp [h3, Nat.lt_succ_of_lt h3]
    ·rw [if_neg (fun hh : i < k + 1 ∧ i < dr.length => by omega), if_neg (fun hh : i < k ∧ i < dr.length => h3 hh.1)]
   rw [e2, ← h2, List.getD_eq_getElem?_getD, List.getD_eq_getElem?_getD, List.getElem?_eq_getElem (by rw [outK_len]; exact hi), List.getElem?_eq_getElem (by rw [outK_len]; exact hi)] at h1
   rw [List.getElem?_eq_getElem (by rw [outK_len]; exact hi), List.getElem?_eq_getElem (by rw [outK_len]; exact hi)]
   exact congrArg some h1
  ·rw [List.getElem?_eq_none (by rw [outK_len]; omega), List.getElem?_eq_none (by rw [outK_len]; omega)]
theorem outK_stay (p : Pl) (zs dr : List Int) {k : Nat} (hk : zs.length ≤ k) : outK p zs dr (k + 1) = outK p zs dr k := by
 unfold outK
 apply List.map_congr_left
 intro i hi
 have hi := List.mem_range.1 hi
 by_cases h : i < dr.length
 ·rw [if_pos ⟨by omega, h⟩, if_pos ⟨by omega, h⟩]
 ·rw [if_neg (fun hh => h hh.2), if_neg (fun hh => h hh.2)]
theorem setL_bd {p : Pl} {fy : Nat} {c : List Int} {rs : List (List Int)} (hp : PlOk p) (h : RowsOk p fy c rs) (hc : ∀ j, -274877906944 ≤ c.getD j 0 ∧ c.getD j 0 ≤ 274877906944) {i : Nat} (hi : i < p.nd.toNat) : -2000000000000 ≤ (setL c rs p.fa p.nd.toNat).getD i 0 ∧ (setL c rs p.fa p.nd.toNat).getD i 0 ≤ 2000000000000 := by
 have h1 := hp.f0; have h2 := hp.f3
 rw [setL_get _ _ _ hi]
 have hm := h.mid hp hi
 have hl := h.row i hi
 have ha : (rs.getD i []).any outT = false := by
  rw [List.any_eq_false]
  intro x hx
  rw [h.eq hi] at hx
  obtain ⟨k, hk, rfl⟩ := List.mem_map.1 hx
  have := h.bd i k hi (List.mem_range.1 hk)
  simp [outT]; omega
 have hb := midN_bd (m := p.fa.toNat) (by rw [hl]; omega) ha
 have := hc i
 rw [hm.2, ← h.eq hi]
 omega
theorem isl_own0 {w : World} {base n g cp : Nat} {zs : List Int} (h : w.ownsRow base 3 1 (.slice (some ⟨g, 0, none⟩) n cp) n (zs.map (Value.int .i64))) (hz : zs.length = n) : IsL w (some ⟨g, 0, none⟩) zs := fun j hj => ⟨g, 0, rfl, by
 rw [Nat.zero_add, (own_cell h (by omega)).1, List.getElem?_map, List.getElem?_eq_getElem hj, List.getD_eq_getElem?_getD, List.getElem?_eq_getElem hj]; rfl⟩
end
section
open Go Go.RowKit
section
variable {w w' : World} {base : Nat} {S : Ix → Ob}
theorem Objs.keepF (h : Objs w base S) (hs : w.heap.size ≤ w'.heap.size) (hk : ∀ i, i < w.heap.size → Fmy S i → w'.heap[i]? = w.heap[i]?) : Objs w' base S :=
 ⟨fun x => (h.at_ x).keep (fun k hk' hf => hk k hk' ⟨x, hf⟩), fun x k hm => ⟨(h.own x k hm).1, Nat.lt_of_lt_of_le (h.own x k hm).2 hs⟩, h.sep⟩
end
theorem Objs.mono {w : World} {base b : Nat} {S : Ix → Ob} (h : Objs w base S) (hb : b ≤ base) : Objs w b S :=
 ⟨fun x => by
  have h1 := h.at_ x
  cases hx : S x with
  | none => trivial
  | mem => rw [hx] at h1; exact h1
  | tak => rw [hx] at h1; exact h1
  | snd => rw [hx] at h1; exact ⟨h1.1, h1.2.1.mono hb, h1.2.2⟩
  | prt => rw [hx] at h1; exact ⟨h1.1, h1.2.1.mono hb, h1.2.2⟩
  | arr => rw [hx] at h1; exact QAt.mono h1 hb
  | blk => rw [hx] at h1; exact h1, fun x k hm => ⟨Nat.le_trans hb (h.own x k hm).1, (h.own x k hm).2⟩, h.sep⟩
theorem start_ok {p : Pl} (hp : PlOk p) {zs : List Int} (hl : zs.length = p.nd.toNat) (hz : ∀ j, -274877906944 ≤ zs.getD j 0 ∧ zs.getD j 0 ≤ 274877906944) : ClOk p 1 (startF p zs) := by
 have h16 := hp.n16
 have hm : (2 : Nat) ^ p.nd.toNat ≤ 2 ^ 16 := Nat.pow_le_pow_right (by omega) (by omega)
 refine ⟨hl, hz, Int.le_refl _, fun i => ?_, fun k => ?_, fun k i => ?_, fun k i => ?_⟩
 ·show 2 ^ p.nd.toNat - 1 < 65536 ∧ (0 : Int) ≤ 1 ∧ (1 : Int) ≤ (1 : Nat) ∧ (0 : Int) ≤ 0 ∧ (0 : Int) ≤ (1 : Nat)
  omega
 ·exact ⟨Int.le_refl _, by show (0 : Int) ≤ 255; decide, by show (-1 : Int) ≤ -1; decide, by show (-1 : Int) ≤ 1099511627776; decide, Nat.zero_le _, fun d hd => by cases hd⟩
 ·exact ⟨by show (-1 : Int) ≤ -1; decide, by show (-1 : Int) ≤ 255; decide, Int.le_refl _, by show (0 : Int) ≤ (1 : Nat); decide, Int.le_refl _, by show (0 : Int) ≤ (1 : Nat); decide⟩
 ·exact ⟨Int.le_refl _, by show (0 : Int) ≤ (1 : Nat); decide, Nat.zero_le _⟩
end
end Go.Proofs.YtideefjnlakciaaGreatDoor
