/- The contract of cluster.Cluster.loads; conditions: the cluster lies in memory, its numbers are small. -/
import Derived.Test.YtideefjnlakciaaGreatDoorP11
import Derived.Test.YtideefjnlakciaaGreatDoorP06
set_option linter.unusedVariables false
set_option linter.unusedSimpArgs false
namespace Go.Proofs.YtideefjnlakciaaGreatDoor
section
open Go Go.RowKit
attribute [local irreducible] sdE sdN
theorem Objs.far {w : World} {base : Nat} {S : Ix → Ob} (h : Objs w base S) {p : Addr} (hp : ¬ Fmy S p.block) (v : Value) : Objs (w.setCell p v) base S :=
 ⟨fun x => (h.at_ x).keep (fun k _ hm => Below.heap_setCell w p v k (by rintro rfl; exact hp ⟨x, hm⟩)), fun x k hm => ⟨(h.own x k hm).1, by simpa [World.setCell] using (h.own x k hm).2⟩, h.sep⟩
theorem KeptS.setNew {w w' : World} {S S' : Ix → Ob} (h : KeptS w w' S S') {p : Addr} (hp : w.heap.size ≤ p.block) (v : Value) : KeptS w (w'.setCell p v) S S' :=
 ⟨h.os, h.tape, h.output, by simpa [World.setCell] using h.size, fun i hi hn => (Below.heap_setCell w' p v i (by rintro rfl; omega)).trans (h.block i hi hn), h.fam⟩
theorem KeptS.drew {w w' : World} {S S' : Ix → Ob} (h : KeptS w w' S S') : KeptS w w'.drew S S' := ⟨h.os, h.tape, h.output, h.size, h.block, h.fam⟩
theorem hS0 {W w0 : World} {A : Option Addr} {n B : Nat} {ws : List Sl} (h : SlotsAt w0 A n ws) (hw : w0.heap.size ≤ B) (hB : Below B w0 W) : SlotsAt W A n ws := fun j hj => by
 obtain ⟨b, off, e, x, h1, h2, h3, h4⟩ := h j hj
 have hlt : b < B := Nat.lt_of_lt_of_le (World.block_lt_of_cell? _ _ h2) hw
 exact ⟨b, off, e, x, h1, (hB.cell (p := ⟨b, _, none⟩) hlt).trans h2, (hB.cell (p := ⟨b, _, none⟩) hlt).trans h3, (hB.cell (p := ⟨b, _, none⟩) hlt).trans h4⟩
theorem now_in {R pr f : Int} (h0 : 0 ≤ R) (h1 : R ≤ 7000) (h2 : 1 ≤ pr) (h3 : pr ≤ 137438953472) (h4 : 0 ≤ f) (h5 : f ≤ 137438953472) : 0 ≤ R * pr ∧ R * pr ≤ 962072674304000 ∧ 0 ≤ R * pr + f ∧ R * pr + f ≤ 1000000000000000 := by
 have a : 0 ≤ R * pr := Int.mul_nonneg h0 (by omega)
 have b : R * pr ≤ 7000 * 137438953472 := Int.mul_le_mul h1 h3 (by omega) (by omega)
 omega
def SndOk (c : Cl) : Prop := ∀ k, 0 ≤ (c.sd k).nx ∧ (c.sd k).nx ≤ 255 ∧ -1 ≤ (c.sd k).la ∧ (c.sd k).la ≤ 1099511627776 ∧ (c.sd k).q.length ≤ 16 ∧ ∀ d ∈ (c.sd k).q, d.size ≤ 40
theorem fr_results (tmps : Array Value) (w : World) (g : Nat) (a b c d e f : Value) (h2 : tmps[4]? = some (.pointer (some ⟨g, 0, none⟩))) (hb : Blk w g 269 #[a, b, c, d, e, f]) :
 (results Tryz.f177 tmps).run Tryz.prog w = .ok (.agg #[a, b, c, d, e, f]) w := by
 obtain ⟨k0, k1, k2, k3, k4, k5, _⟩ := hb.cells6
 simp [results, Tryz.results177, go_sem, h2, k0, k1, k2, k3, k4, k5]
theorem loadsF_skip {now node : Int} {l : Lk} {ls : List Lk} {k : Nat} {c : Cl} (h : l.f ≠ node) : loadsF now node (l :: ls) k c = loadsF now node ls (k + 1) c := by
 conv => lhs; unfold loadsF
 rw [if_neg h]
theorem loadsF_go {now node : Int} {l : Lk} {ls : List Lk} {k : Nat} {c : Cl} (h : l.f = node) (h0 : sdE now (c.sd k).la (c.sd k).nw l.b (c.sd k).q.length = 0) : loadsF now node (l :: ls) k c = ({ c with sd := updF c.sd k ⟨if (c.sd k).nx + 1 = 256 then 1 else (c.sd k).nx + 1, now, now, (c.sd k).q.tail⟩ }, ((k : Int), (c.sd k).nx, (c.sd k).q.headD ⟨#[]⟩)) := by
 conv => lhs; unfold loadsF
 rw [if_pos h, if_pos h0]
theorem loadsF_no {now node : Int} {l : Lk} {ls : List Lk} {k : Nat} {c : Cl} (h : l.f = node) (h0 : sdE now (c.sd k).la (c.sd k).nw l.b (c.sd k).q.length ≠ 0) : loadsF now node (l :: ls) k c = loadsF now node ls (k + 1) { c with sd := updF c.sd k { c.sd k with nw := sdN (sdE now (c.sd k).la (c.sd k).nw l.b (c.sd k).q.length) now (c.sd k).nw } } := by
 conv => lhs; unfold loadsF
 rw [if_pos h, if_neg h0]
theorem sdE_ne {now la nw bag : Int} {n : Nat} (h : sdE now la nw bag n = 0) : n ≠ 0 := by
 rintro rfl
 unfold sdE at h
 repeat' split at h
 all_goals first | (exact absurd h (by decide)) | skip
 rename_i h1; exact h1 (.inl rfl)
theorem updF_self' {α : Type} (f : Nat → α) (k : Nat) (v : α) : updF f k v k = v := by simp [updF]
theorem updF_ne' {α : Type} (f : Nat → α) {k j : Nat} {v : α} (h : j ≠ k) : updF f k v j = f j := by simp [updF, h]
theorem drop_at {α : Type} {l : List α} {k : Nat} {x : α} (h : l[k]? = some x) : l.drop k = x :: l.drop (k + 1) := by
 have hlt : k < l.length := (List.getElem?_eq_some_iff.1 h).1
 rw [List.drop_eq_getElem_cons hlt]
 congr 1
 rw [List.getElem?_eq_getElem hlt] at h
 exact Option.some.inj h
set_option maxRecDepth 100000 in
set_option maxHeartbeats 4000000 in
theorem loads_any {base : Nat} {a : Ad} {p : Pl} {P : Sv3} {fy : Nat} {c : Cl} {N : Nat} (w : World) {K : World → (Ix → Ob) → Prop} (hKK : Cls K) (AS AL : Option Addr) (cs cl : Nat) (hPS : P.s = .slice AS p.sl.length cs) (hP : P.l = .slice AL p.lk.length cl) (h : ClAt w base a (fullN p) p P fy c) (hp : PlOk p) (hc : ClOk p N c) (hr : c.rd ≤ 7000) (hS : ∀ W S, K W S → SlotsAt W AS p.sl.length p.sl) (hL : ∀ W S, K W S → LinksAt W AL p.lk.length p.lk) (hB0 : K w (shape a (fullN p) p P fy c)) (hbase : base ≤ w.heap.size)
 (node slot mb : Nat) (s : Sl) (hs : p.sl[slot]? = some s) :
 Calls Tryz.prog 177 #[.pointer (some ⟨a.g, 0, none⟩), .agg #[.int .i64 node, .int .i64 slot, .int .i64 mb, .int .i64 (-1), .int .i64 0, .string ⟨#[]⟩]] w fun e w' => e = .returned (.agg #[.int .i64 node, .int .i64 slot, .int .i64 mb, .int .i64 (loadsF (c.rd * p.rd + s.f) node p.lk 0 c).2.1, .int .i64 (loadsF (c.rd * p.rd + s.f) node p.lk 0 c).2.2.1, .string (loadsF (c.rd * p.rd + s.f) node p.lk 0 c).2.2.2]) ∧ ClTo w base a (fullN p) p P fy c w' (loadsF (c.rd * p.rd + s.f) node p.lk 0 c).1 := by
 have hnow := now_in hc.rd hr hp.rd.1 hp.rd.2 (hp.slot slot s hs).2.2.1 (hp.slot slot s hs).2.2.2
 obtain ⟨w2, hw2⟩ : ∃ w2, (w.alloc (.cells #[.int .i64 node, .int .i64 slot, .int .i64 mb, .int .i64 (-1), .int .i64 0, .string ⟨#[]⟩] 269)).alloc (.cells #[.int .i64 0, .int .i64 0, .int .i64 0, .int .i64 0, .int .i64 0, .string ⟨#[]⟩] 269) = w2 := ⟨_, rfl⟩
 have hBW : Below w.heap.size w w2 := by rw [← hw2]; exact ((Below.refl w.heap.size w).alloc (Nat.le_refl _) _).alloc (by simp) _
 have hF3 : Blk w2 w.heap.size 269 #[.int .i64 node, .int .i64 slot, .int .i64 mb, .int .i64 (-1), .int .i64 0, .string ⟨#[]⟩] := by rw [← hw2]; exact (Blk.new w _ _).alloc _
 have hF4 : Blk w2 (w.heap.size + 1) 269 #[.int .i64 0, .int .i64 0, .int .i64 0, .int .i64 0, .int .i64 0, .string ⟨#[]⟩] := by rw [← hw2]; have := Blk.new (w.alloc (.cells #[.int .i64 node, .int .i64 slot, .int .i64 mb, .int .i64 (-1), .int .i64 0, .string ⟨#[]⟩] 269)) 269 #[.int .i64 0, .int .i64 0, .int .i64 0, .int .i64 0, .int .i64 0, .string ⟨#[]⟩]; rw [World.size_alloc] at this; exact this
 have HKW := hide (KeptS.of_below (S := shape a (fullN p) p P fy c) hBW)
 have HN3 := hide (h.not_new (Nat.le_refl w.heap.size))
 have HN4 := hide (h.not_new (Nat.le_succ w.heap.size))
 have Hh := hide (h.below hBW)
 have HKK := hide hKK
 have HB0 := hide (hKK.step hB0 HKW.out)
 have hbase2 := Nat.le_trans hbase hBW.size
 have HC0 := hide (ClTo.refl Hh.out (Below.refl w2.heap.size w2))
 obtain ⟨G, hG⟩ : ∃ G, a.g = G := ⟨_, rfl⟩
 rw [hG]
 obtain ⟨k0, k1, k2, k3, k4, k5, k6, k7, k16⟩ := Hh.out.cluC hG
 have HW2 := hide hw2; have HF3 := hide hF3; have HF4 := hide hF4; have HP := hide hp; have HOK := hide hc; have HL := hide hL; have HS := hide hS; have HPL := hide hP; have HPS := hide hPS; have HG := hide hG
 clear hw2 hF3 hF4 h hP hPS hG hL hS hB0 hKK hBW
 obtain ⟨R, hR⟩ : ∃ R, c.rd = R := ⟨_, rfl⟩
 obtain ⟨pr, hpr⟩ : ∃ pr, p.rd = pr := ⟨_, rfl⟩
 obtain ⟨sn, sf, st⟩ := s
 dsimp only at hnow ⊢
 rw [hR, hpr] at hnow ⊢
 rw [hR] at k16
 rw [hpr] at k5
 obtain ⟨M, hM⟩ : ∃ M, R * pr = M := ⟨_, rfl⟩
 obtain ⟨now, hnw⟩ : ∃ now, M + sf = now := ⟨_, rfl⟩
 rw [hM, hnw] at hnow ⊢
 have e1 : IntKind.i64.wrap (R * pr) = M := by rw [hM]; exact IntWalk.i64_in _ (by omega)
 have e2 : IntKind.i64.wrap (M + sf) = now := by rw [hnw]; exact IntWalk.i64_in _ (by omega)
 obtain ⟨bs, os, hAS, sl2, hl2, _, kf, _⟩ := (HS.out _ _ HB0.out) slot (List.getElem?_eq_some_iff.1 hs).1
 have hslt := (List.getElem?_eq_some_iff.1 hs).1
 rw [hs] at hl2; cases hl2
 dsimp only at kf
 rw [HPS.out, hAS] at k6
 obtain ⟨ns, hns⟩ : ∃ ns, p.sl.length = ns := ⟨_, rfl⟩
 rw [hns] at k6 hslt
 obtain ⟨nl, hnl⟩ : ∃ nl, p.lk.length = nl := ⟨_, rfl⟩
 rw [HPL.out, hnl] at k7
 have hnl8 := hp.lk
 rw [hnl] at hnl8
 obtain ⟨t0, t1, t2, t3, t4, t5, _⟩ := HF3.out.cells6
 have HNL := hide hnl
 have hM0 := hnow.1
 clear hM hnw hR hpr hs hns hnl hnow hr
 go_enter Tryz.func177, Tryz.ntmps177
 go_wp2_with fail
 rw [HW2.out]
 go_quiet (fail)
 clear k0 k1 k2 k3 k4 k5 k6 k16 kf t0 t1 t2 t3 t4 t5
 go_wp2_with fail
 go_loopw [38] (fun i wr => ∃ (k : Nat) (ck : Cl), k ≤ nl ∧ i = .int .i64 k ∧ Hid (Blk wr w.heap.size 269 #[.int .i64 node, .int .i64 slot, .int .i64 mb, .int .i64 (-1), .int .i64 0, .string ⟨#[]⟩]) ∧ Hid (Blk wr (w.heap.size + 1) 269 #[.int .i64 0, .int .i64 0, .int .i64 0, .int .i64 0, .int .i64 0, .string ⟨#[]⟩]) ∧ Hid (loadsF now node p.lk 0 c = loadsF now node (p.lk.drop k) k ck) ∧ Hid (SndOk ck) ∧ Hid (ClTo w2 base a (fullN p) p P fy c wr ck)) (fun i _ => nl - (intOf i).toNat)
 case atStart => exact ⟨0, c, by omega, rfl, hide (HF3.out.drewN _), hide (HF4.out.drewN _), hide rfl, hide HOK.out.sd, hide (HC0.out.below (below_drewN (Below.refl _ _) _))⟩
 case round =>
  obtain ⟨k, ck, hk, rfl, HR3, HR4, HLF, HSO, HC⟩ := hrel
  obtain ⟨a', hg, hA', hK⟩ := HC.out
  have hb1 : base ≤ wr.heap.size := Nat.le_trans hbase2 hK.size
  have HBr := hide (HKK.out.step HB0.out hK)
  have HA := hide hA'; have HK := hide hK
  have HN3r := hide (hK.not HF3.out.lt HN3.out)
  have HN4r := hide (hK.not HF4.out.lt HN4.out)
  clear hA' hK
  by_cases hlt : k < nl
  ·obtain ⟨bl, ol, hAL, lnk, hlk, f0, f1, f2, f3⟩ := (HL.out _ _ HBr.out) k (by rw [HNL.out]; exact hlt)
   rw [hAL]
   have HLk := hide hlk
   have HD := hide (drop_at hlk)
   clear hlk
   obtain ⟨t0, t1, t2, t3, t4, t5, _⟩ := HR3.out.cells6
   have hlt3 := HR3.out.lt
   by_cases hf : lnk.f = node
   ·have d1 : (lnk.f != (node : Int)) = false := by simpa using hf
    have HA2 := hide (HA.out.alloc (.cells #[.int .i64 lnk.f, .int .i64 lnk.t, .int .i64 lnk.b, .int .i64 lnk.q] 88))
    obtain ⟨bm, om, cm, k13, km⟩ := HA2.out.sndC (hg.trans HG.out) HNL.out hlt
    obtain ⟨gs, hgs⟩ : ∃ gs, a'.gs k = gs := ⟨_, rfl⟩
    rw [hgs] at km
    have hSB := HA2.out.sndB (k := k) (by show k < p.lk.length; rw [HNL.out]; exact hlt) HLk.out
    rw [hgs] at hSB
    have HSB := hide hSB
    have HGS := hide hgs
    have hso := HSO.out k
    have HE := hide hf
    clear hSB hgs hf
    obtain ⟨er, her⟩ : ∃ er, sdE now (ck.sd k).la (ck.sd k).nw lnk.b (ck.sd k).q.length = er := ⟨_, rfl⟩
    have HER := hide her
    clear her
    by_cases h00 : er = 0
    ·subst h00
     have hqn := sdE_ne HER.out
     obtain ⟨d, q, hdq⟩ : ∃ d q, (ck.sd k).q = d :: q := by
      cases e : (ck.sd k).q with
      | nil => rw [e] at hqn; exact absurd rfl hqn
      | cons d q => exact ⟨d, q, rfl⟩
     have HDQ := hide hdq
     have HE0 : Hid (sdE now (ck.sd k).la (ck.sd k).nw lnk.b (q.length + 1) = 0) := hide (by have := HER.out; rw [hdq] at this; exact this)
     have hql : q.length ≤ 15 := by have := hso.2.2.2.2.1; rw [hdq, List.length_cons] at this; omega
     rw [hdq] at HSB
     have HSB2 := hide (ssend_ok (lf := lnk.f) (lt := lnk.t) gs base lnk.b lnk.q (a'.vs k) (ck.sd k).nx (ck.sd k).la (ck.sd k).nw q _ now d HE0 HSB.out.1 HSB.out.2.1 HSB.out.2.2.2 HSB.out.2.2.1 ⟨hso.2.2.1, hso.2.2.2.1⟩ ⟨hso.1, hso.2.1⟩ (by omega))
     clear hdq hqn
     go_wp2_with fail
     refine HSB2.out.mono ?_
     rintro e w5 ⟨rfl, hp5⟩
     obtain ⟨v, T1, T2⟩ := HA2.out.sent (k := k) (by show k < p.lk.length; rw [HNL.out]; exact hlt) HLk.out ⟨if (ck.sd k).nx + 1 = 256 then 1 else (ck.sd k).nx + 1, now, now, q⟩ (by rw [HGS.out]; exact hp5) (Nat.le_trans hb1 (by simp))
     have HT1 := hide T1
     have HK2 := hide ((HK.out.below ((Below.refl _ _).alloc (Nat.le_refl _) (.cells #[.int .i64 lnk.f, .int .i64 lnk.t, .int .i64 lnk.b, .int .i64 lnk.q] 88))).trans T2)
     have HR3' := hide (T2.blk (HR3.out.alloc _) HN3r.out); have HR4' := hide (T2.blk (HR4.out.alloc _) HN4r.out)
     have HN3' := hide (T2.not (HR3.out.alloc (.cells #[.int .i64 lnk.f, .int .i64 lnk.t, .int .i64 lnk.b, .int .i64 lnk.q] 88)).lt HN3r.out); have HN4' := hide (T2.not (HR4.out.alloc (.cells #[.int .i64 lnk.f, .int .i64 lnk.t, .int .i64 lnk.b, .int .i64 lnk.q] 88)).lt HN4r.out)
     clear T1 T2 hp5 k13 km t0 t1 t2 t3 t4 t5 hlt3 f0 f1 f2 f3 hso
     have HI6 := hide (Blk.new w5 305 #[.int .i64 (ck.sd k).nx, .string d])
     obtain ⟨i0, i1, i2, i3⟩ := HI6.out.cells2
     obtain ⟨t0, t1, t2, t3, t4, t5, g0, g1, g2, g3, g4, g5⟩ := HR3'.out.cells6
     obtain ⟨q0, q1, q2, q3, q4, q5, r0, r1, r2, r3, r4, r5⟩ := HR4'.out.cells6
     have hlt3 := HR3'.out.lt
     have hlt4 := HR4'.out.lt
     have HFIN : Hid (loadsF now node p.lk 0 c = ({ ck with sd := updF ck.sd k ⟨if (ck.sd k).nx + 1 = 256 then 1 else (ck.sd k).nx + 1, now, now, q⟩ }, ((k : Int), (ck.sd k).nx, d))) := hide (by rw [HLF.out, HD.out, loadsF_go HE.out HER.out, HDQ.out]; rfl)
     go_wp2_with fail
     go_region
     go_wp2_with fail
     exact bodyPost_ret (fr_results _ _ (w.heap.size + 1) _ _ _ _ _ _ rfl (((((((((((HR4'.out.far (p := ⟨w.heap.size, 3, none⟩) (Nat.ne_of_gt (Nat.lt_succ_self _)) _).far (p := ⟨w.heap.size, 4, none⟩) (Nat.ne_of_gt (Nat.lt_succ_self _)) _).far (p := ⟨w.heap.size, 5, none⟩) (Nat.ne_of_gt (Nat.lt_succ_self _)) _).set_ 0 _).set_ 1 _).set_ 2 _).set_ 3 _).set_ 4 _).set_ 5 _).alloc _).drew)) rfl ⟨by rw [HFIN.out], by rw [HFIN.out]; exact ⟨{ a' with vs := updF a'.vs k v }, hg, ((((((((((HT1.out.far (p := ⟨w.heap.size, 3, none⟩) HN3'.out _).far (p := ⟨w.heap.size, 4, none⟩) HN3'.out _).far (p := ⟨w.heap.size, 5, none⟩) HN3'.out _).far (p := ⟨w.heap.size + 1, 0, none⟩) HN4'.out _).far (p := ⟨w.heap.size + 1, 1, none⟩) HN4'.out _).far (p := ⟨w.heap.size + 1, 2, none⟩) HN4'.out _).far (p := ⟨w.heap.size + 1, 3, none⟩) HN4'.out _).far (p := ⟨w.heap.size + 1, 4, none⟩) HN4'.out _).far (p := ⟨w.heap.size + 1, 5, none⟩) HN4'.out _).alloc _).drew, (((((((((((HKW.out.trans HK2.out).setNew (p := ⟨w.heap.size, 3, none⟩) (Nat.le_refl _) _).setNew (p := ⟨w.heap.size, 4, none⟩) (Nat.le_refl _) _).setNew (p := ⟨w.heap.size, 5, none⟩) (Nat.le_refl _) _).setNew (p := ⟨w.heap.size + 1, 0, none⟩) (Nat.le_succ _) _).setNew (p := ⟨w.heap.size + 1, 1, none⟩) (Nat.le_succ _) _).setNew (p := ⟨w.heap.size + 1, 2, none⟩) (Nat.le_succ _) _).setNew (p := ⟨w.heap.size + 1, 3, none⟩) (Nat.le_succ _) _).setNew (p := ⟨w.heap.size + 1, 4, none⟩) (Nat.le_succ _) _).setNew (p := ⟨w.heap.size + 1, 5, none⟩) (Nat.le_succ _) _).below ((Below.refl _ _).alloc (Nat.le_refl _) _)).drew⟩⟩
    ·have HSB2 := hide (ssend_bad (lf := lnk.f) (lt := lnk.t) gs base lnk.b lnk.q (a'.vs k) (ck.sd k).nx (ck.sd k).la (ck.sd k).nw (ck.sd k).q _ now er HER h00 HSB.out.1 HSB.out.2.1 HSB.out.2.2.2 HSB.out.2.2.1 ⟨hso.2.2.1, hso.2.2.2.1⟩ (by omega))
     have de : (er == 0) = false := by simpa using h00
     go_wp2_with fail
     refine HSB2.out.mono ?_
     rintro e w5 ⟨rfl, hp5⟩
     obtain ⟨v, T1, T2⟩ := HA2.out.sent (k := k) (by show k < p.lk.length; rw [HNL.out]; exact hlt) HLk.out { ck.sd k with nw := sdN er now (ck.sd k).nw } (by rw [HGS.out]; exact hp5) (Nat.le_trans hb1 (by simp))
     have HT1 := hide T1; have HT2 := hide T2
     have HK2 := hide ((HK.out.below ((Below.refl _ _).alloc (Nat.le_refl _) (.cells #[.int .i64 lnk.f, .int .i64 lnk.t, .int .i64 lnk.b, .int .i64 lnk.q] 88))).trans T2)
     have HR3' := hide (T2.blk (HR3.out.alloc _) HN3r.out); have HR4' := hide (T2.blk (HR4.out.alloc _) HN4r.out)
     clear T1 T2 hp5 k13 km t0 t1 t2 t3 t4 t5 hlt3 f0 f1 f2 f3
     go_wp2_with fail
     go_roundw
     case rel => exact ⟨k + 1, _, by omega, by go_num, hide (HR3'.out.alloc _), hide (HR4'.out.alloc _), hide (by rw [HLF.out, HD.out, loadsF_no HE.out (by rw [HER.out]; exact h00), HER.out]), hide (fun j => by
      by_cases e : j = k
      ·subst e; simp only [updF_self']; exact hso
      ·simp only [updF_ne' (ck.sd) e]; exact HSO.out j), hide ⟨{ a' with vs := updF a'.vs k v }, hg, HT1.out.alloc _, HK2.out.below ((Below.refl _ _).alloc (Nat.le_refl _) _)⟩⟩
     case measure => simp [intOf]; omega
   ·have d1 : (lnk.f != (node : Int)) = true := by simpa using hf
    go_wp2_with fail
    go_roundw
    case rel => exact ⟨k + 1, ck, by omega, by go_num, hide (HR3.out.alloc _), hide (HR4.out.alloc _), hide (by rw [HLF.out, HD.out, loadsF_skip hf]), HSO, hide (HC.out.below ((Below.refl _ _).alloc (Nat.le_refl _) _))⟩
    case measure => simp [intOf]; omega
  ·obtain rfl : k = nl := by omega
   have hlt3 := HR3.out.lt
   have hlt4 := HR4.out.lt
   obtain ⟨t0, t1, t2, t3, t4, t5, _⟩ := HR3.out.cells6
   obtain ⟨q0, q1, q2, q3, q4, q5, g0, g1, g2, g3, g4, g5⟩ := HR4.out.cells6
   have HEND : Hid (loadsF now node p.lk 0 c = (ck, (-1, 0, ⟨#[]⟩))) := hide (by rw [HLF.out, List.drop_eq_nil_of_le (by rw [HNL.out]; exact Nat.le_refl _)]; rfl)
   go_wp2_with fail
   exact bodyPost_ret (fr_results _ _ (w.heap.size + 1) _ _ _ _ _ _ rfl (((((((HR4.out.set_ 0 _).set_ 1 _).set_ 2 _).set_ 3 _).set_ 4 _).set_ 5 _))) rfl ⟨by rw [HEND.out], by rw [HEND.out]; exact ⟨a', hg, ((((((HA.out.far (p := ⟨w.heap.size + 1, 0, none⟩) HN4r.out _).far (p := ⟨w.heap.size + 1, 1, none⟩) HN4r.out _).far (p := ⟨w.heap.size + 1, 2, none⟩) HN4r.out _).far (p := ⟨w.heap.size + 1, 3, none⟩) HN4r.out _).far (p := ⟨w.heap.size + 1, 4, none⟩) HN4r.out _).far (p := ⟨w.heap.size + 1, 5, none⟩) HN4r.out _), (((((((HKW.out.trans HK.out).setNew (p := ⟨w.heap.size + 1, 0, none⟩) (Nat.le_succ _) _).setNew (p := ⟨w.heap.size + 1, 1, none⟩) (Nat.le_succ _) _).setNew (p := ⟨w.heap.size + 1, 2, none⟩) (Nat.le_succ _) _).setNew (p := ⟨w.heap.size + 1, 3, none⟩) (Nat.le_succ _) _).setNew (p := ⟨w.heap.size + 1, 4, none⟩) (Nat.le_succ _) _).setNew (p := ⟨w.heap.size + 1, 5, none⟩) (Nat.le_succ _) _)⟩⟩
end
section
open Go Go.RowKit
section
variable {p : Pl} {N : Nat} {c : Cl}
theorem hearsF_ok (h : ClOk p N c) {from_ : Nat} (hf : from_ < 16) (tn slot : Nat) (fr : Option FrR) (ls : List Ls) : ClOk p (N + 5) (hearsF p from_ tn slot fr ls c) := by
 rw [hearsF_ch]
 have h2 := hearCh_ok h tn slot fr ls 2
 exact h2.setMm tn (Mm.hear_ok (h2.mm tn) hf)
theorem hearAll_ok (h : ClOk p N c) {nd : Nat} (hf : nd < 16) (slot : Nat) (fr : Option FrR) (ls : List Ls) : ∀ k, ClOk p (N + 5 * k) (hearAll p nd slot fr ls c k)
 | 0 => h
 | k + 1 => by
  have ih := hearAll_ok h hf slot fr ls k
  unfold hearAll
  split
  ·exact ih.mono (by omega)
  ·exact (hearsF_ok ih hf k slot fr ls).mono (by omega)
theorem sdE_zero {now la nw bag : Int} {n : Nat} (h : sdE now la nw bag n = 0) : 0 ≤ now ∧ now ≤ 1099511627776 ∧ nw ≤ now ∧ n ≠ 0 := by
 unfold sdE at h
 repeat' split at h
 all_goals first | (exact absurd h (by decide)) | skip
 rename_i h1 h2 h3
 exact ⟨by omega, by omega, by omega, fun e => h3 (.inl e)⟩
theorem loads_ok (now nd : Int) : ∀ (ls : List Lk) (k : Nat) (c : Cl), ClOk p N c → (∀ (j : Nat) (l : Lk), ls[j]? = some l → p.lk[k + j]? = some l) → ClOk p N (loadsF now nd ls k c).1 ∧ (((loadsF now nd ls k c).2.1 = -1 ∧ (loadsF now nd ls k c).2.2.1 = 0 ∧ (loadsF now nd ls k c).2.2.2 = ⟨#[]⟩) ∨ (∃ (j : Nat) (l : Lk), (loadsF now nd ls k c).2.1 = j ∧ p.lk[j]? = some l ∧ 0 ≤ (loadsF now nd ls k c).2.2.1 ∧ (loadsF now nd ls k c).2.2.1 ≤ 255 ∧ (loadsF now nd ls k c).2.2.2.size ≤ 40))
 | [], _, c, h, _ => ⟨h, .inl ⟨rfl, rfl, rfl⟩⟩
 | l :: ls, k, c, h, hd => by
  have hk : p.lk[k]? = some l := by simpa using hd 0 l (by simp)
  have hd' : ∀ (j : Nat) (l' : Lk), ls[j]? = some l' → p.lk[k + 1 + j]? = some l' := fun j l' hj => by
   have := hd (j + 1) l' (by simpa using hj)
   rw [show k + 1 + j = k + (j + 1) by omega]; exact this
  have hso := h.sd k
  unfold loadsF
  by_cases hf : l.f = nd
  ·rw [if_pos hf]
   by_cases h0 : sdE now (c.sd k).la (c.sd k).nw l.b (c.sd k).q.length = 0
   ·rw [if_pos h0]
    obtain ⟨z1, z2, _, z4⟩ := sdE_zero h0
    obtain ⟨d, q, hdq⟩ : ∃ d q, (c.sd k).q = d :: q := by
     cases e : (c.sd k).q with
     | nil => rw [e] at z4; exact absurd rfl z4
     | cons d q => exact ⟨d, q, rfl⟩
    have hl := hso.2.2.2.2.1
    have hm := hso.2.2.2.2.2
    rw [hdq] at hl hm
    rw [hdq]
    rw [List.length_cons] at hl
    exact ⟨h.setSd k ⟨by dsimp only; split <;> omega, by dsimp only; split <;> omega, by dsimp only; omega, by dsimp only; omega, by dsimp only [List.tail_cons]; omega, fun x hx => hm x (List.mem_cons_of_mem _ hx)⟩, .inr ⟨k, l, rfl, hk, hso.1, hso.2.1, hm d (List.mem_cons_self ..)⟩⟩
   ·rw [if_neg h0]
    exact loads_ok now nd ls (k + 1) _ (h.setSd k hso) hd'
  ·rw [if_neg hf]
   exact loads_ok now nd ls (k + 1) c h hd'
theorem slotF_ok (h : ClOk p N c) (hp : PlOk p) (fy : Nat) (r : Rn) (i : Nat) : ClOk p (N + 81) (slotF p fy r i c) := by
 unfold slotF
 cases hs : p.sl[i]? with
 | none => exact h.mono (by omega)
 | some s =>
  dsimp only
  have h1 := hp.slot i s hs
  have h2 := hp.n16
  have hm := h.setMm s.n.toNat (Mm.send_ok (h.mm s.n.toNat))
  split
  ·exact (hearAll_ok (loads_ok (c.rd * p.rd + s.f) s.n p.lk 0 _ hm (by simp)).1 (by omega) i _ r.ls p.nd.toNat).mono (by omega)
  ·exact (hearAll_ok hm (by omega) i _ r.ls p.nd.toNat).mono (by omega)
theorem slotsF_ok (h : ClOk p N c) (hp : PlOk p) (fy : Nat) (r : Rn) : ∀ k, ClOk p (N + 81 * k) (slotsF p fy r c k)
 | 0 => h
 | k + 1 => (slotF_ok (slotsF_ok h hp fy r k) hp fy r k).mono (by omega)
theorem chanF_rd (p : Pl) (tn : Nat) (f : FrR) (c : Cl) : (chanF p tn f c).rd = c.rd ∧ (chanF p tn f c).ck = c.ck := by
 unfold chanF
 split
 ·exact ⟨rfl, rfl⟩
 ·split
  ·exact ⟨rfl, rfl⟩
  ·split <;> exact ⟨rfl, rfl⟩
theorem hearCh_rd (p : Pl) (tn slot : Nat) (fr : Option FrR) (ls : List Ls) (c : Cl) : ∀ k, (hearCh p tn slot fr ls c k).rd = c.rd ∧ (hearCh p tn slot fr ls c k).ck = c.ck
 | 0 => ⟨rfl, rfl⟩
 | k + 1 => by
  have ih := hearCh_rd p tn slot fr ls c k
  unfold hearCh chanO
  split
  ·exact ih
  ·split
   ·exact ⟨(chanF_rd _ _ _ _).1.trans ih.1, (chanF_rd _ _ _ _).2.trans ih.2⟩
   ·exact ih
theorem hearAll_rd (p : Pl) (nd slot : Nat) (fr : Option FrR) (ls : List Ls) (c : Cl) : ∀ k, (hearAll p nd slot fr ls c k).rd = c.rd ∧ (hearAll p nd slot fr ls c k).ck = c.ck
 | 0 => ⟨rfl, rfl⟩
 | k + 1 => by
  have ih := hearAll_rd p nd slot fr ls c k
  unfold hearAll
  split
  ·exact ih
  ·rw [hearsF_ch]
   exact ⟨(hearCh_rd _ _ _ _ _ _ 2).1.trans ih.1, (hearCh_rd _ _ _ _ _ _ 2).2.trans ih.2⟩
theorem loadsF_rd (now nd : Int) : ∀ (ls : List Lk) (k : Nat) (c : Cl), (loadsF now nd ls k c).1.rd = c.rd ∧ (loadsF now nd ls k c).1.ck = c.ck
 | [], _, _ => ⟨rfl, rfl⟩
 | l :: ls, k, c => by
  unfold loadsF
  split
  ·split
   ·exact ⟨rfl, rfl⟩
   ·exact loadsF_rd now nd ls (k + 1) _
  ·exact loadsF_rd now nd ls (k + 1) c
theorem slotF_rd (p : Pl) (fy : Nat) (r : Rn) (i : Nat) (c : Cl) : (slotF p fy r i c).rd = c.rd ∧ (slotF p fy r i c).ck = c.ck := by
 unfold slotF
 cases p.sl[i]? with
 | none => exact ⟨rfl, rfl⟩
 | some s =>
  dsimp only
  split
  ·exact ⟨(hearAll_rd _ _ _ _ _ _ _).1.trans (loadsF_rd _ _ _ _ _).1, (hearAll_rd _ _ _ _ _ _ _).2.trans (loadsF_rd _ _ _ _ _).2⟩
  ·exact hearAll_rd _ _ _ _ _ _ _
theorem slotsF_rd (p : Pl) (fy : Nat) (r : Rn) (c : Cl) : ∀ k, (slotsF p fy r c k).rd = c.rd ∧ (slotsF p fy r c k).ck = c.ck
 | 0 => ⟨rfl, rfl⟩
 | k + 1 => ⟨(slotF_rd p fy r k _).1.trans (slotsF_rd p fy r c k).1, (slotF_rd p fy r k _).2.trans (slotsF_rd p fy r c k).2⟩
end
end
section
open Go Go.RowKit
attribute [local irreducible] sendsV sendsOk tellM modeV hearAll loadsF Mm.send
theorem msg_16 (mm who nx : Nat) (hm : mm < 65536) (hw : who < 16) (hx : nx < 16) : bits .xor .i64 (mm : Int) (bits .or .i64 (wrap64 (2 ^ who)) (wrap64 (2 ^ nx))) = ((mm ^^^ (2 ^ who ||| 2 ^ nx) : Nat) : Int) := by
 have h1 : 2 ^ who ≤ 2 ^ 15 := Nat.pow_le_pow_right (by omega) (by omega)
 have h2 : 2 ^ nx ≤ 2 ^ 15 := Nat.pow_le_pow_right (by omega) (by omega)
 have h3 : 2 ^ who ||| 2 ^ nx < 2 ^ 16 := Nat.or_lt_two_pow (by omega) (by omega)
 rw [pow_small who (by omega), pow_small nx (by omega), i64_or_nat _ _ (by omega) (by omega), i64_xor_nat _ _ (by omega) (by omega)]
theorem tellM_lt {nd node m : Nat} {md : Int} (hm : m < 65536) (hn : node < nd) (hnd : nd ≤ 16) : tellM nd node m md < 65536 := by
 unfold tellM
 split
 ·have h1 : 2 ^ node ≤ 2 ^ 15 := Nat.pow_le_pow_right (by omega) (by omega)
  have h2 : 2 ^ ((node + 1) % nd) ≤ 2 ^ 15 := Nat.pow_le_pow_right (by omega) (by have := Nat.mod_lt (node + 1) (show 0 < nd by omega); omega)
  exact xor_lt16 hm (Nat.or_lt_two_pow (n := 16) (by omega) (by omega))
 ·exact hm
theorem sendsV_nat (m : Nat) (gd bd : Int) (fz : Bool) (hm : m < 65536) : ∃ v : Nat, sendsV m gd bd fz = v ∧ v < 65536 := by
 unfold sendsV
 split
 ·exact ⟨m, rfl, hm⟩
 ·exact ⟨0, rfl, by omega⟩
theorem slotF_eq {p : Pl} {fy : Nat} {r : Rn} {i : Nat} {c : Cl} {s : Sl} (hs : p.sl[i]? = some s) {node v : Nat} (hn : s.n = node) {md : Int} (hmd : modeV fy r.md node = md) (hv : sendsV (c.mm node).m (c.mm node).gd (c.mm node).bd (c.mm node).fz = v) :
 slotF p fy r i c = if (sendsOk (c.mm node).gd (c.mm node).bd (c.mm node).fz && decide (md ≠ 1)) = true then hearAll p node i (some ⟨node, i, (tellM p.nd.toNat node v md : Nat), (loadsF (c.rd * p.rd + s.f) node p.lk 0 { c with mm := updF c.mm node (c.mm node).send }).2.1, (loadsF (c.rd * p.rd + s.f) node p.lk 0 { c with mm := updF c.mm node (c.mm node).send }).2.2.1, (loadsF (c.rd * p.rd + s.f) node p.lk 0 { c with mm := updF c.mm node (c.mm node).send }).2.2.2⟩) r.ls (loadsF (c.rd * p.rd + s.f) node p.lk 0 { c with mm := updF c.mm node (c.mm node).send }).1 p.nd.toNat else hearAll p node i none r.ls { c with mm := updF c.mm node (c.mm node).send } p.nd.toNat := by
 have e : s.n.toNat = node := by omega
 unfold slotF
 rw [hs]
 dsimp only
 rw [e, hmd, hv, Int.toNat_natCast, hn]
theorem hearAll_zero (p : Pl) (nd slot : Nat) (fr : Option FrR) (ls : List Ls) (c : Cl) : hearAll p nd slot fr ls c 0 = c := by unfold hearAll; rfl
theorem hearAll_skip {p : Pl} {nd slot k : Nat} {fr : Option FrR} {ls : List Ls} {c : Cl} (h : k = nd) : hearAll p nd slot fr ls c (k + 1) = hearAll p nd slot fr ls c k := by
 conv => lhs; unfold hearAll
 rw [if_pos h]
theorem hearAll_step {p : Pl} {nd slot k : Nat} {fr : Option FrR} {ls : List Ls} {c : Cl} (h : ¬ k = nd) : hearAll p nd slot fr ls c (k + 1) = hearsF p nd k slot fr ls (hearAll p nd slot fr ls c k) := by
 conv => lhs; unfold hearAll
 rw [if_neg h]
set_option maxRecDepth 100000 in
set_option maxHeartbeats 4000000 in
theorem slot_any {base : Nat} {a : Ad} {p : Pl} {P : Sv3} {fy : Nat} {c : Cl} {N : Nat} (w : World) {K : World → (Ix → Ob) → Prop} (hKK : Cls K) (AS AL : Option Addr) (cs cl : Nat) (hPS : P.s = .slice AS p.sl.length cs) (hP : P.l = .slice AL p.lk.length cl) (h : ClAt w base a (fullN p) p P fy c) (hp : PlOk p) (hc : ClOk p N c) (hN : N ≤ 800000000000) (hr : c.rd ≤ 7000) (hfy : fy < 65536) (hS : ∀ W S, K W S → SlotsAt W AS p.sl.length p.sl) (hL : ∀ W S, K W S → LinksAt W AL p.lk.length p.lk) (hB0 : K w (shape a (fullN p) p P fy c)) (hbase : base ≤ w.heap.size)
 (A : Option Addr) (cp : Nat) (r : Rn) (hA : ∀ W S, K W S → LossAt W A r.ls) (hmax : r.ls.length ≤ 9223372036854775807) (y1 y2 : Value) (AM : Option Addr) (cm : Nat) (hM : ∀ W S, K W S → IsL W AM r.md) (hmm : r.md.length ≤ 9223372036854775807) (i : Nat) (s : Sl) (hs : p.sl[i]? = some s) :
 Calls Tryz.prog 141 #[.pointer (some ⟨a.g, 0, none⟩), .int .i64 i, .agg #[.slice A r.ls.length cp, y1, y2, .slice AM r.md.length cm]] w fun e w' => e = .returned (.tuple #[]) ∧ ClTo w base a (fullN p) p P fy c w' (slotF p fy r i c) := by
 have hsl := hp.slot i s hs
 have hn16 := hp.n16
 have hn1 := hp.n1
 have hi32 : i < p.sl.length := (List.getElem?_eq_some_iff.1 hs).1
 have hsl32 := hp.sl
 obtain ⟨node, hnode⟩ : ∃ node : Nat, s.n = node := ⟨s.n.toNat, by omega⟩
 obtain ⟨nd, hnd⟩ : ∃ nd, p.nd.toNat = nd := ⟨_, rfl⟩
 have hnlt : node < nd := by omega
 have hnd16 : nd ≤ 16 := by omega
 have hpnd : p.nd = (nd : Int) := by omega
 obtain ⟨w2, hw2⟩ : ∃ w2, (w.alloc (.cells #[.slice A r.ls.length cp, y1, y2, .slice AM r.md.length cm] 35)).alloc (.cells #[.int .i64 node, .int .i64 i, .int .i64 0, .int .i64 (-1), .int .i64 0, .string ⟨#[]⟩] 269) = w2 := ⟨_, rfl⟩
 have hBW : Below w.heap.size w w2 := by rw [← hw2]; exact ((Below.refl w.heap.size w).alloc (Nat.le_refl _) _).alloc (by simp) _
 have hX : Blk w2 w.heap.size 35 #[.slice A r.ls.length cp, y1, y2, .slice AM r.md.length cm] := by rw [← hw2]; exact (Blk.new w _ _).alloc _
 have hF : Blk w2 (w.heap.size + 1) 269 #[.int .i64 node, .int .i64 i, .int .i64 0, .int .i64 (-1), .int .i64 0, .string ⟨#[]⟩] := by rw [← hw2]; have := Blk.new (w.alloc (.cells #[.slice A r.ls.length cp, y1, y2, .slice AM r.md.length cm] 35)) 269 #[.int .i64 node, .int .i64 i, .int .i64 0, .int .i64 (-1), .int .i64 0, .string ⟨#[]⟩]; rw [World.size_alloc] at this; exact this
 have hbase2 := Nat.le_trans hbase hBW.size
 have HKW := hide (KeptS.of_below (S := shape a (fullN p) p P fy c) hBW)
 have HN3 := hide (h.not_new (Nat.le_refl w.heap.size))
 have HN4 := hide (h.not_new (Nat.le_succ w.heap.size))
 have Hh := hide (h.below hBW)
 have HKK := hide hKK
 have HB0 := hide (hKK.step hB0 HKW.out)
 have Hw := hide h; have HBw := hide hB0
 obtain ⟨G, hG⟩ : ∃ G, a.g = G := ⟨_, rfl⟩
 rw [hG]
 have k6 := (h.cluC hG).2.2.2.2.2.2.1
 obtain ⟨bs, os, hAS, sl2, hl2, kn, _, _⟩ := (hS _ _ hB0) i hi32
 rw [hs] at hl2; cases hl2
 rw [hnode] at kn
 rw [hPS, hAS] at k6
 have hGlt := h.cluB.lt
 rw [hG] at hGlt
 have hblt := World.block_lt_of_cell? _ _ kn
 dsimp only at hblt
 -- the member
 obtain ⟨bm, om, cmm, k12, km⟩ := h.memC hG (show (fullN p).nm = nd from hnd) hnlt
 obtain ⟨gm, hgm⟩ : ∃ gm, a.gm node = gm := ⟨_, rfl⟩
 rw [hgm] at km
 have hbmlt := World.block_lt_of_cell? _ _ km
 dsimp only at hbmlt
 have HM := hide (Hh.out.memB (i := node) (by show node < p.nd.toNat; omega))
 rw [hgm] at HM
 obtain ⟨v, hv, hv16⟩ := sendsV_nat (c.mm node).m (c.mm node).gd (c.mm node).bd (c.mm node).fz (hc.mm node).1
 have HSE := hide (sends_in gm node p.nd.toNat _ _ _ _ w2 HM.out)
 rw [Mm.sendC, hv] at HSE
 obtain ⟨ok0, hok0⟩ : ∃ ok0, sendsOk (c.mm node).gd (c.mm node).bd (c.mm node).fz = ok0 := ⟨_, rfl⟩
 rw [hok0] at HSE
 obtain ⟨md, hmd⟩ : ∃ md, modeV fy r.md node = md := ⟨_, rfl⟩
 have HFIN := hide (slotF_eq (c := c) hs hnode hmd hv)
 rw [hok0] at HFIN
 have hk7 := hF.cell 2
 have hfz7 := hF.frozen 2
 have hltF := hF.lt
 have hltX := hX.lt
 have HW2 := hide hw2; have HX := hide hX; have HF := hide hF; have HP := hide hp; have HOK := hide hc; have HL := hide hL; have HS := hide hS; have HPL := hide hP; have HPS := hide hPS; have HG := hide hG; have HA := hide hA; have HIM := hide hM; have HGM := hide hgm; have HV := hide hv; have HMD := hide hmd; have HS1 := hide hs; have HND := hide hnd; have HPN := hide hpnd
 simp at hk7
 clear hw2 hX hF h hP hPS hG hL hS hB0 hKK hBW hA hM hgm hv hmd hs hnode hnd hc hp hsl hok0 hpnd hltX
 obtain ⟨ns, hns⟩ : ∃ ns, p.sl.length = ns := ⟨_, rfl⟩
 rw [hns] at k6 hi32 hsl32
 clear hns
 go_enter Tryz.func141, Tryz.ntmps141
 go_wp2_with fail
 rw [HW2.out]
 refine HSE.out.mono ?_
 rintro e w3 ⟨rfl, hb3, hg3⟩
 have T := Hh.out.memTo (i := node) (by show node < p.nd.toNat; rw [HND.out]; exact hnlt) (c.mm node).send (by rw [HGM.out]; exact hb3) (by rw [HGM.out]; exact hg3) hbase2
 obtain ⟨c1, hc1⟩ : ∃ c1 : Cl, { c with mm := updF c.mm node (c.mm node).send } = c1 := ⟨_, rfl⟩
 have HOK1 : Hid (ClOk p (N + 1) c1) := hide (by rw [← hc1]; exact HOK.out.setMm node (Mm.send_ok (HOK.out.mm node)))
 have hrd1 : c1.rd = c.rd := by rw [← hc1]
 rw [hc1] at HFIN T
 have HX3 := hide (T.2.blk HX.out HN3.out); have HF3 := hide (T.2.blk HF.out HN4.out)
 have HN3' := hide (T.2.not HX.out.lt HN3.out); have HN4' := hide (T.2.not HF.out.lt HN4.out)
 have HF4 := hide (HF3.out.set_ 2 (.int .i64 (v : Nat)))
 have HX4 := hide (HX3.out.far (p := ⟨w.heap.size + 1, 2, none⟩) (Nat.ne_of_lt (Nat.lt_succ_self _)) (.int .i64 (v : Nat)))
 have HA4 := hide (T.1.far (p := ⟨w.heap.size + 1, 2, none⟩) HN4'.out (.int .i64 (v : Nat)))
 have HK4 := hide ((HKW.out.trans T.2).setNew (p := ⟨w.heap.size + 1, 2, none⟩) (Nat.le_succ _) (.int .i64 (v : Nat)))
 obtain ⟨_, _, u2, _, _, _, _, _, v2, _⟩ := HF3.out.cells6
 obtain ⟨x0, x1, x2, x3⟩ := HX3.out.cells4
 have HMO := hide (mode_any G p.nd p.fa p.sk p.ji p.dr p.rd P.s P.l p.fr P.q a.mm a.sd a.tk a.pr c1.rd fy node a.ck (.slice A r.ls.length cp) y1 y2 AM cm r.md _ (by have := HA4.out.cluB; rw [HG.out] at this; exact this) hfy (by omega) (HIM.out _ _ (HKK.out.step HBw.out HK4.out)) hmm)
 rw [HMD.out] at HMO
 clear T hb3 hg3 hc1 k6 k12 km kn hk7 hfz7 hltF
 go_wp2_with fail
 refine HMO.out.mono ?_
 rintro e w5 ⟨rfl, hB5⟩
 have HX5 := hide (HX4.out.below hB5 HX4.out.lt); have HF5 := hide (HF4.out.below hB5 HF4.out.lt)
 have HA5 := hide (HA4.out.below hB5); have HK5 := hide (HK4.out.below hB5)
 clear hB5 x0 x1 x2 x3 u2 v2 HMO HSE HX4 HF4 HA4 HK4 HX3 HF3
 obtain ⟨nx, hnx⟩ : ∃ nx : Nat, nx = (node + 1) % nd := ⟨_, rfl⟩
 have hx : nx < nd := by rw [hnx]; exact Nat.mod_lt _ (by omega)
 have qx : ((node : Int) + 1) % (nd : Int) = nx := by rw [hnx]; simp
 have HNX := hide hnx
 clear hnx
 have hm1 := hide (msg_16 v node nx hv16 (by clear qx; omega) (by clear qx; omega))
 obtain ⟨T, hT⟩ : ∃ T, tellM p.nd.toNat node v md = T := ⟨_, rfl⟩
 have HTL : Hid (T < 65536) := hide (by rw [← hT]; exact tellM_lt hv16 (by rw [HND.out]; exact hnlt) (by rw [HND.out]; exact hnd16))
 have HTM := hide hT
 rw [hT] at HFIN
 clear hT
 go_upto_block 0 with fail
 go_cut [9] from 9 to 60 (fun okv wx => okv = .bool (ok0 && decide (md ≠ 1)) ∧ Hid (Blk wx w.heap.size 35 #[.slice A r.ls.length cp, y1, y2, .slice AM r.md.length cm]) ∧ Hid (Blk wx (w.heap.size + 1) 269 #[.int .i64 node, .int .i64 i, .int .i64 (T : Nat), .int .i64 (-1), .int .i64 0, .string ⟨#[]⟩]) ∧ Hid (ClAt wx base a (fullN p) p P fy c1) ∧ Hid (KeptS w wx (shape a (fullN p) p P fy c) (shape a (fullN p) p P fy c1)))
 case first =>
  by_cases h1 : md = 1
  ·subst h1
   have hTv : v = T := by rw [← HTM.out]; unfold tellM; rw [if_neg (by decide)]
   subst hTv
   go_wp2_with fail
   go_meet
   exact ⟨by simp, HX5, HF5, HA5, HK5⟩
  ·by_cases h2 : md = 2
   ·subst h2
    have hTv : T = v ^^^ (2 ^ node ||| 2 ^ nx) := by rw [← HTM.out]; unfold tellM; rw [if_pos rfl, HND.out, HNX.out]
    have k0 := (HA5.out.cluC HG.out).1
    rw [HPN.out] at k0
    obtain ⟨_, _, u2, _, _, _, _, _, v2, _⟩ := HF5.out.cells6
    go_wp2_with fail
    go_region
    go_wp2_with fail
    go_meet
    refine ⟨by simp, hide ?_, hide ?_, hide ?_, hide ?_⟩
    ·exact (HX5.out.far (p := ⟨w.heap.size + 1, 2, none⟩) (Nat.ne_of_lt (Nat.lt_succ_self _)) _).drew
    ·rw [hm1.out, ← hTv]
     exact (HF5.out.set_ 2 _).drew
    ·exact (HA5.out.far (p := ⟨w.heap.size + 1, 2, none⟩) HN4'.out _).drew
    ·exact (HK5.out.setNew (p := ⟨w.heap.size + 1, 2, none⟩) (Nat.le_succ _) _).drew
   ·have hTv : v = T := by rw [← HTM.out]; unfold tellM; rw [if_neg h2]
    subst hTv
    have d1 : (md == 1) = false := by simpa using h1
    have d2 : (md == 2) = false := by simpa using h2
    go_wp2_with fail
    go_meet
    exact ⟨by simp [h1], HX5, HF5, HA5, HK5⟩
 case rest =>
  obtain ⟨rfl, HX6, HF6, HA6, HK6⟩ := hcut
  clear HX5 HF5 HA5 HK5 hm1 HTM HMD
  obtain ⟨ok, hok⟩ : ∃ ok, (ok0 && decide (md ≠ 1)) = ok := ⟨_, rfl⟩
  rw [hok] at HFIN ⊢
  clear hok
  go_upto_if 61 with fail
  go_cut [10] from 9 to 69 (fun bv wx => ∃ (fr : Option FrR) (c2 : Cl) (a2 : Ad), a2.g = G ∧ Hid (BtsAt wx (shape a2 (fullN p) p P fy c2) bv fr) ∧ Hid (Blk wx w.heap.size 35 #[.slice A r.ls.length cp, y1, y2, .slice AM r.md.length cm]) ∧ Hid (ClAt wx base a2 (fullN p) p P fy c2) ∧ Hid (KeptS w wx (shape a (fullN p) p P fy c) (shape a2 (fullN p) p P fy c2)) ∧ Hid (∀ f, fr = some f → FrOk p node i f) ∧ Hid (ClOk p (N + 1) c2) ∧ Hid (slotF p fy r i c = hearAll p node i fr r.ls c2 nd) ∧ Hid (¬ Fmy (shape a2 (fullN p) p P fy c2) w.heap.size))
  case first =>
   cases ok
   ·have HF0 : Hid (slotF p fy r i c = hearAll p node i none r.ls c1 nd) := hide (by rw [HFIN.out, if_neg (by decide), HND.out])
    go_wp2_with fail
    go_meet
    exact ⟨none, c1, a, HG.out, hide rfl, HX6, HA6, HK6, hide (fun f e => by cases e), HOK1, HF0, HN3'⟩
   ·have HLO := hide (loads_any wc HKK.out AS AL cs cl HPS.out HPL.out HA6.out HP.out HOK1.out (by rw [hrd1]; exact hr) HS.out HL.out (HKK.out.step HBw.out HK6.out) (Nat.le_trans hbase HK6.out.size) node i T s HS1.out)
    have hres := loads_ok (c1.rd * p.rd + s.f) node p.lk 0 c1 HOK1.out (by simp)
    rw [hrd1] at HLO hres
    rw [HG.out] at HLO
    obtain ⟨LF, hLF⟩ : ∃ LF, loadsF (c.rd * p.rd + s.f) node p.lk 0 c1 = LF := ⟨_, rfl⟩
    rw [hLF] at HLO hres HFIN
    have HF0 : Hid (slotF p fy r i c = hearAll p node i (some ⟨node, i, (T : Nat), LF.2.1, LF.2.2.1, LF.2.2.2⟩) r.ls LF.1 nd) := hide (by rw [HFIN.out, if_pos rfl, HND.out])
    have HRES := hide hres.2
    have HLOK := hide hres.1
    clear hLF hres HFIN
    obtain ⟨z0, z1, z2, z3, z4, z5, _⟩ := HF6.out.cells6
    go_wp2_with fail
    refine HLO.out.mono ?_
    rintro e w7 ⟨rfl, a2, hg2, hA2, hK2⟩
    have HA7 := hide hA2; have HK7 := hide (HK6.out.trans hK2)
    have HF7 := hide (hK2.blk HF6.out HN4'.out); have HX7 := hide (hK2.blk HX6.out HN3'.out)
    have HN47 := hide (hK2.not HF6.out.lt HN4'.out); have HN37 := hide (hK2.not HX6.out.lt HN3'.out)
    obtain ⟨u0, u1, u2, u3, u4, u5, v0, v1, v2, v3, v4, v5⟩ := HF7.out.cells6
    clear hA2 hK2 HLO z0 z1 z2 z3 z4 z5
    have hfo : fOk node i (T : Nat) LF.2.1 LF.2.2.1 LF.2.2.2.size = true := by
     have ht := HTL.out
     unfold fOk
     apply decide_eq_true
     refine ⟨⟨by omega, by omega, by omega, by omega, by omega, by omega⟩, ?_⟩
     rcases HRES.out with ⟨r1, r2, r3⟩ | ⟨j, l, r1, r2, r3, r4, r5⟩
     ·exact .inl ⟨r1, r2, by rw [r3]; rfl⟩
     ·have := (List.getElem?_eq_some_iff.1 r2).1
      have := HP.out.lk
      exact .inr ⟨by omega, by omega, by omega, by omega, r5⟩
    obtain ⟨lb, hE, hl256, h7, h49, hdo, hdF, _⟩ := enc_good node i (T : Nat) LF.2.1 LF.2.2.1 LF.2.2.2 hfo
    have HE := hide hE; have H256 := hide hl256; have H7 := hide h7; have HDO := hide hdo; have HDF := hide hdF
    have HAB := hide ((((((HA7.out.far (p := ⟨w.heap.size + 1, 0, none⟩) HN47.out (.int .i64 node)).far (p := ⟨w.heap.size + 1, 1, none⟩) HN47.out (.int .i64 i)).far (p := ⟨w.heap.size + 1, 2, none⟩) HN47.out (.int .i64 (T : Nat))).far (p := ⟨w.heap.size + 1, 3, none⟩) HN47.out (.int .i64 LF.2.1)).far (p := ⟨w.heap.size + 1, 4, none⟩) HN47.out (.int .i64 LF.2.2.1)).far (p := ⟨w.heap.size + 1, 5, none⟩) HN47.out (.string LF.2.2.2))
    have HKB := hide ((((((HK7.out.setNew (p := ⟨w.heap.size + 1, 0, none⟩) (Nat.le_succ _) (.int .i64 node)).setNew (p := ⟨w.heap.size + 1, 1, none⟩) (Nat.le_succ _) (.int .i64 i)).setNew (p := ⟨w.heap.size + 1, 2, none⟩) (Nat.le_succ _) (.int .i64 (T : Nat))).setNew (p := ⟨w.heap.size + 1, 3, none⟩) (Nat.le_succ _) (.int .i64 LF.2.1)).setNew (p := ⟨w.heap.size + 1, 4, none⟩) (Nat.le_succ _) (.int .i64 LF.2.2.1)).setNew (p := ⟨w.heap.size + 1, 5, none⟩) (Nat.le_succ _) (.string LF.2.2.2))
    have HXB := hide ((((((HX7.out.far (p := ⟨w.heap.size + 1, 0, none⟩) (Nat.ne_of_lt (Nat.lt_succ_self _)) (.int .i64 node)).far (p := ⟨w.heap.size + 1, 1, none⟩) (Nat.ne_of_lt (Nat.lt_succ_self _)) (.int .i64 i)).far (p := ⟨w.heap.size + 1, 2, none⟩) (Nat.ne_of_lt (Nat.lt_succ_self _)) (.int .i64 (T : Nat))).far (p := ⟨w.heap.size + 1, 3, none⟩) (Nat.ne_of_lt (Nat.lt_succ_self _)) (.int .i64 LF.2.1)).far (p := ⟨w.heap.size + 1, 4, none⟩) (Nat.ne_of_lt (Nat.lt_succ_self _)) (.int .i64 LF.2.2.1)).far (p := ⟨w.heap.size + 1, 5, none⟩) (Nat.ne_of_lt (Nat.lt_succ_self _)) (.string LF.2.2.2))
    clear hE hl256 h7 h49 hdo hdF hfo
    go_wp2_with fail
    refine (HE.out _).mono ?_
    intro e w8 he
    obtain ⟨gb, cap, rfl, hO, hB8⟩ := he.open (by have := H7.out; omega)
    have HO := hide hO; have HB8 := hide hB8
    clear he hO hB8 u0 u1 u2 u3 u4 u5 v0 v1 v2 v3 v4 v5
    go_wp2_with fail
    go_meet
    exact ⟨some ⟨node, i, (T : Nat), LF.2.1, LF.2.2.1, LF.2.2.2⟩, LF.1, a2, hg2.trans HG.out, hide ⟨gb, 0, cap, lb, rfl, HO.out.bytes, H256.out, H7.out, HO.out.len_le, HO.out.cap_le, HDO.out, HDF.out, HO.out.lt, HAB.out.not_new HO.out.lo⟩, hide (HXB.out.below HB8.out HXB.out.lt), hide (HAB.out.below HB8.out), hide (HKB.out.below HB8.out), hide (fun f e => by
     cases e
     refine ⟨rfl, rfl, ⟨T, rfl, HTL.out⟩, ?_, ?_⟩
     ·rcases HRES.out with ⟨r1, r2, r3⟩ | ⟨j, l, r1, r2, r3, r4, r5⟩
      ·left; show LF.2.1 < 0; omega
      ·exact .inr ⟨j, l, r1, r2⟩
     ·rcases HRES.out with ⟨r1, r2, r3⟩ | ⟨j, l, r1, r2, r3, r4, r5⟩
      ·show LF.2.2.2.size ≤ 40; rw [r3]; exact Nat.zero_le _
      ·exact r5), HLOK, HF0, HN37⟩
  case rest =>
   obtain ⟨fr, c2, a2, hg2, HBT, HX7, HA7, HK7, HFR, HOK2, HF0, HN37⟩ := hcut
   have k0 := (HA7.out.cluC hg2).1
   rw [HPN.out] at k0
   have hb7 := Nat.le_trans hbase HK7.out.size
   have HC7 := hide (ClTo.refl HA7.out (Below.refl wc.heap.size wc))
   have HB7 := hide (HKK.out.step HBw.out HK7.out)
   clear HX6 HF6 HA6 HK6 HN3' HN4' HOK1 HFIN
   go_wp2_with fail
   clear k0
   go_loopw [75] (fun j wr => ∃ k : Nat, k ≤ nd ∧ j = .int .i64 k ∧ Hid (Blk wr w.heap.size 35 #[.slice A r.ls.length cp, y1, y2, .slice AM r.md.length cm]) ∧ Hid (ClTo wc base a2 (fullN p) p P fy c2 wr (hearAll p node i fr r.ls c2 k))) (fun j _ => nd - (intOf j).toNat)
   case atStart => exact ⟨0, by omega, rfl, HX7, hide (by rw [hearAll_zero]; exact HC7.out)⟩
   case round =>
    obtain ⟨k, hk, rfl, HX, HC⟩ := hrel
    by_cases hlt : k < nd
    ·by_cases hkn : k = node
     ·have d1 : ((k : Int) != (node : Int)) = false := by simp; omega
      have HS1 : Hid (hearAll p node i fr r.ls c2 (k + 1) = hearAll p node i fr r.ls c2 k) := hide (hearAll_skip hkn)
      clear hkn
      go_wp2_with fail
      go_roundw
      case rel => exact ⟨k + 1, by omega, by go_num, HX, hide (by rw [HS1.out]; exact HC.out)⟩
      case measure => simp [intOf]; omega
     ·have d1 : ((k : Int) != (node : Int)) = true := by simp; omega
      have HS1 : Hid (hearAll p node i fr r.ls c2 (k + 1) = hearsF p node k i fr r.ls (hearAll p node i fr r.ls c2 k)) := hide (hearAll_step hkn)
      obtain ⟨a3, hg3, hA3, hK3⟩ := HC.out
      have HOK3 := hide (hearAll_ok HOK2.out (show node < 16 by omega) i fr r.ls k)
      have HHE := hide (hears_any wr HKK.out AL cl HPL.out hA3 HP.out HOK3.out (by omega) HL.out (HKK.out.step HB7.out hK3) (Nat.le_trans hb7 hK3.size) A cp r.ls HA.out hmax y1 y2 (.slice AM r.md.length cm) node k i (by rw [HPN.out]; omega) (by rw [HPN.out]; omega) hkn (by omega) fr _ (HBT.out.kept hK3) HFR.out)
      rw [hg3, hg2] at HHE
      have HK3 := hide hK3
      have HXN := hide (hK3.not HX7.out.lt HN37.out)
      have HA3 := hide hA3
      obtain ⟨x0, x1, x2, x3⟩ := HX.out.cells4
      clear hA3 hK3 hkn
      go_wp2_with fail
      refine HHE.out.mono ?_
      rintro e w9 ⟨rfl, a4, hg4, hA4, hK4⟩
      have HX9 := hide (hK4.blk HX.out HXN.out)
      have HC9 : Hid (ClTo wc base a2 (fullN p) p P fy c2 w9 (hearAll p node i fr r.ls c2 (k + 1))) := hide (by rw [HS1.out]; exact ⟨a4, hg4.trans hg3, hA4, HK3.out.trans hK4⟩)
      clear hA4 hK4 x0 x1 x2 x3
      go_wp2_with fail
      go_roundw
      case rel => exact ⟨k + 1, by omega, by go_num, HX9, HC9⟩
      case measure => simp [intOf]; omega
    ·obtain rfl : k = nd := by omega
     go_wp2_with fail
     go_end0
     exact ⟨rfl, by rw [HF0.out]; exact ClTo.trans HK7.out (hg2.trans HG.out.symm) HC.out⟩
end
section
open Go Go.RowKit
/-- What Put, and Receive, leave. -/
def clPut (k : Nat) (l : Lk) (d : ByteArray) (c : Cl) : Cl := { c with sd := updF c.sd k { c.sd k with q := putQ (c.sd k).q d (putE d.size (c.sd k).q.length l.q) } }
def clRecv (k i : Nat) (c : Cl) : Cl := { c with pr := upd2 c.pr k i { c.pr k i with q := (c.pr k i).q.tail } }
section
variable {p : Pl} {node : Int} {x y : Cl}
theorem updF_self {α : Type} (f : Nat → α) (k : Nat) (v : α) : updF f k v k = v := by simp [updF]
theorem updF_ne {α : Type} (f : Nat → α) {k j : Nat} (v : α) (h : j ≠ k) : updF f k v j = f j := by simp [updF, h]
theorem upd2_ne {α : Type} (f : Nat → Nat → α) {k j i : Nat} (v : α) (h : j ≠ k) : upd2 f k i v j = f j := by funext b; simp [upd2, h]
end
end
section
open Go Go.RowKit
attribute [local irreducible] putE putQ
theorem bit_zero {t : Int} {nd i : Nat} (h0 : 0 < t) (h1 : t < 2 ^ nd) (hn : nd ≤ 16) : (bits .and .i64 (t / 2 ^ i) 1 == 0) = !bitB t i := by
 obtain ⟨x, rfl⟩ := Int.eq_ofNat_of_zero_le (Int.le_of_lt h0)
 have hx : x < 65536 := by
  have h2 : (2 : Nat) ^ nd ≤ 2 ^ 16 := Nat.pow_le_pow_right (by omega) hn
  have h3 : x < 2 ^ nd := by exact_mod_cast h1
  omega
 unfold bitB
 rw [bit_one x i hx]
 cases x.testBit i <;> rfl
set_option maxRecDepth 100000 in
set_option maxHeartbeats 4000000 in
theorem cput_any {base : Nat} {a : Ad} {p : Pl} {P : Sv3} {fy : Nat} {c : Cl} {N : Nat} (w : World) (h : ClAt w base a (fullN p) p P fy c) (hp : PlOk p) (hc : ClOk p N c) (hbase : base ≤ w.heap.size) (k : Nat) (l : Lk) (hl : p.lk[k]? = some l) (d : ByteArray) (hd : d.size ≤ maxLen) :
 Calls Tryz.prog 101 #[.pointer (some ⟨a.g, 0, none⟩), .int .i64 k, .string d] w fun e w' => e = .returned (errV (putE d.size (c.sd k).q.length l.q)) ∧ ClTo w base a (fullN p) p P fy c w' (clPut k l d c) := by
 have hkl : k < p.lk.length := (List.getElem?_eq_some_iff.1 hl).1
 have hl8 := hp.lk
 obtain ⟨nl, hnl⟩ : ∃ nl, p.lk.length = nl := ⟨_, rfl⟩
 have hkl2 : k < nl := by omega
 obtain ⟨G, hG⟩ : ∃ G, a.g = G := ⟨_, rfl⟩
 rw [hG]
 obtain ⟨bm, om, cm, k13, km⟩ := h.sndC hG (show (fullN p).ns = nl from hnl) hkl2
 obtain ⟨gs, hgs⟩ : ∃ gs, a.gs k = gs := ⟨_, rfl⟩
 rw [hgs] at km
 have hSB := h.sndB (k := k) hkl hl
 rw [hgs] at hSB
 obtain ⟨e0, he0⟩ : ∃ e0, putE d.size (c.sd k).q.length l.q = e0 := ⟨_, rfl⟩
 have HS := hide (sput_any (lf := l.f) (lt := l.t) gs base l.b l.q (a.vs k) (c.sd k).nx (c.sd k).la (c.sd k).nw (c.sd k).q w d e0 (hide he0) hSB.1 hSB.2.1 hSB.2.2.2 hSB.2.2.1 hbase hd (by have := (hc.sd k).2.2.2.2.1; omega))
 have HT : Hid (∀ w', SdPost w base gs l.f l.t l.b l.q (a.vs k) (c.sd k).nx (c.sd k).la (c.sd k).nw (putQ (c.sd k).q d e0) w' → ClTo w base a (fullN p) p P fy c w' (clPut k l d c)) := hide (fun w' hq => by
  obtain ⟨v, T1, T2⟩ := h.sent (k := k) hkl hl { c.sd k with q := putQ (c.sd k).q d e0 } (by rw [hgs]; exact hq) hbase
  unfold clPut
  rw [he0]
  exact ⟨{ a with vs := updF a.vs k v }, rfl, T1, T2⟩)
 rw [he0]
 have d1 : decide ((k : Int) < 0) = false := decide_eq_false (by omega)
 have d2 : decide ((nl : Int) ≤ (k : Int)) = false := decide_eq_false (by omega)
 clear h hp hc hl hSB hnl hgs he0 hd
 go_enter Tryz.func101, Tryz.ntmps101
 go_wp2_with fail
 refine HS.out.mono ?_
 rintro e w2 ⟨rfl, hq⟩
 have HQ := hide (HT.out w2 hq)
 clear hq
 go_wp2_with fail
 go_ret
 exact ⟨rfl, HQ.out⟩
set_option maxRecDepth 100000 in
set_option maxHeartbeats 4000000 in
theorem crecv_gen {base : Nat} {a : Ad} {p : Pl} {P : Sv3} {fy : Nat} {c : Cl} {N : Nat} (w : World) (AL : Option Addr) (cl : Nat) (hP : P.l = .slice AL p.lk.length cl) (h : ClAt w base a (fullN p) p P fy c) (hp : PlOk p) (hc : ClOk p N c) (hL : LinksAt w AL p.lk.length p.lk) (hbase : base ≤ w.heap.size) (k i : Nat) (l : Lk) (hl : p.lk[k]? = some l) (hi : (i : Int) < p.nd) :
 Calls Tryz.prog 103 #[.pointer (some ⟨a.g, 0, none⟩), .int .i64 i, .int .i64 k] w fun e w' =>
  (bitB l.t i = false ∧ e = .returned (.tuple #[.string ⟨#[]⟩, errV 2]) ∧ ClTo w base a (fullN p) p P fy c w' c) ∨
  (bitB l.t i = true ∧ (c.pr k i).q = [] ∧ e = .returned (.tuple #[.string ⟨#[]⟩, errV 8]) ∧ ClTo w base a (fullN p) p P fy c w' c) ∨
  (bitB l.t i = true ∧ ∃ d q, (c.pr k i).q = d :: q ∧ e = .returned (.tuple #[.string d, errV 0]) ∧ ClTo w base a (fullN p) p P fy c w' (clRecv k i c)) := by
 have hkl : k < p.lk.length := (List.getElem?_eq_some_iff.1 hl).1
 have hl8 := hp.lk
 have hn16 := hp.n16
 have hlk := hp.link k l hl
 obtain ⟨nl, hnl⟩ : ∃ nl, p.lk.length = nl := ⟨_, rfl⟩
 obtain ⟨nd, hnd⟩ : ∃ nd, p.nd.toNat = nd := ⟨_, rfl⟩
 have hkl2 : k < nl := by omega
 have hin : i < nd := by omega
 have hpn : p.nd = (nd : Int) := by omega
 have hi20 : i ≤ 20 := by omega
 have hbz := bit_zero (i := i) hlk.2.2.1 hlk.2.2.2.1 (by omega)
 obtain ⟨G, hG⟩ : ∃ G, a.g = G := ⟨_, rfl⟩
 rw [hG]
 have k0 := (h.cluC hG).1
 have k7 := (h.cluC hG).2.2.2.2.2.2.2.1
 rw [hpn] at k0
 obtain ⟨bl, ol, hAL, l2, hl2, _, kt, _⟩ := hL k hkl
 obtain rfl : l2 = l := by rw [hl] at hl2; cases hl2; rfl
 rw [hP, hAL, hnl] at k7
 have hnk : (fullN p).nk k = nd := by show (if k < p.lk.length then p.nd.toNat else 0) = nd; rw [if_pos hkl]; exact hnd
 obtain ⟨bt, ot, ct, bt2, ot2, ct2, k15, kp1, kp2⟩ := h.prtC hG (k := k) (i := i) (show (fullN p).na = nl from hnl) hnk hkl2 hin
 obtain ⟨gp, hgp⟩ : ∃ gp, a.gp k i = gp := ⟨_, rfl⟩
 rw [hgp] at kp2
 have hPB := h.prtB (k := k) (i := i) (by rw [hnk]; exact hin)
 rw [hgp] at hPB
 have hbnd := hc.pr k i
 have d1 : decide ((i : Int) < 0) = false := decide_eq_false (by omega)
 have d2 : decide ((nd : Int) ≤ (i : Int)) = false := decide_eq_false (by omega)
 have d3 : decide ((k : Int) < 0) = false := decide_eq_false (by omega)
 have d4 : decide ((nl : Int) ≤ (k : Int)) = false := decide_eq_false (by omega)
 have HREF := hide (ClTo.refl h (Below.refl w.heap.size w))
 obtain ⟨bb, hbb⟩ : ∃ bb, bitB l2.t i = bb := ⟨_, rfl⟩
 rw [hbb] at hbz ⊢
 have Hh := hide h; have HNK := hide hnk; have HGP := hide hgp
 clear h hp hc hl hl2 hlk hnl hnd hL hP hpn hAL hnk hgp hbb hi hn16
 cases bb
 ·simp only [Bool.not_false] at hbz
  clear hPB
  go_enter Tryz.func103, Tryz.ntmps103
  go_wp2_with fail
  go_ret2
  exact .inl ⟨trivial, by simp [errV], HREF.out⟩
 ·simp only [Bool.not_true] at hbz
  cases hq : (c.pr k i).q with
  | nil =>
   have HR := hide (qrecv_none gp base 16 (a.vp k i) (c.pr k i).lost w hPB.1 (by have := hPB.2.1; rw [hq] at this; exact this))
   clear hPB hbnd
   go_enter Tryz.func103, Tryz.ntmps103
   go_wp2_with fail
   refine HR.out.mono ?_
   rintro e w2 ⟨rfl, rfl⟩
   go_wp2_with fail
   go_ret2
   exact .inr (.inl ⟨trivial, trivial, rfl, HREF.out⟩)
  | cons d q =>
   have HR := hide (qrecv_some gp base 16 (a.vp k i) (c.pr k i).lost q w d hPB.1 (by have := hPB.2.1; rw [hq] at this; exact this) hPB.2.2.2 hPB.2.2.1 (by have := hbnd.2.2; rw [hq, List.length_cons] at this; omega))
   have HT : Hid (∀ w', QuPost w base gp 16 (a.vp k i) (c.pr k i).lost q w' → ClTo w base a (fullN p) p P fy c w' (clRecv k i c)) := hide (fun w' hp => by
    obtain ⟨v, T1, T2⟩ := Hh.out.put (k := k) (i := i) (by rw [HNK.out]; exact hin) { c.pr k i with q := (c.pr k i).q.tail } (by rw [HGP.out, hq]; exact hp) hbase
    exact ⟨{ a with vp := upd2 a.vp k i v }, rfl, T1, T2⟩)
   clear hPB hbnd hq
   go_enter Tryz.func103, Tryz.ntmps103
   go_wp2_with fail
   refine HR.out.mono ?_
   rintro e w2 ⟨rfl, hp⟩
   have HQ := hide (HT.out w2 hp)
   clear hp
   go_wp2_with fail
   go_ret2
   exact .inr (.inr ⟨trivial, d, q, rfl, rfl, HQ.out⟩)
end
end Go.Proofs.YtideefjnlakciaaGreatDoor
