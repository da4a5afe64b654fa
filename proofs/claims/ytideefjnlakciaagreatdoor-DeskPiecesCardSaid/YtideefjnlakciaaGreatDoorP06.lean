/- The contract of the sender's method Send, where a message goes; conditions: the sender lies in a block of its own, its queue in another one. -/
import Derived.Test.YtideefjnlakciaaGreatDoorP01
import Derived.Test.YtideefjnlakciaaGreatDoorP05
import Derived.Test.YtideefjnlakciaaGreatDoorP04
import Derived.BigRegion
import Derived.Laws.BytesArg
set_option linter.unusedVariables false
set_option linter.unusedSimpArgs false
namespace Go.Proofs.YtideefjnlakciaaGreatDoor
section
open Go.RowKit
section
variable {lf lt : Int} (g base : Nat) (bag que : Int) (v : Value) (nx la nw : Int) (q : List ByteArray)
set_option maxRecDepth 100000 in
set_option maxHeartbeats 4000000 in
theorem ssend_ok (w : World) (now : Int) (d : ByteArray) (he : Hid (sdE now la nw bag (q.length + 1) = 0)) (hb : Blk w g 264 (sdC lf lt bag que v nx la nw)) (hQ : QAt w base 9 v (sv (d :: q))) (hv : ∀ k, v.ownBlock = some k → k < w.heap.size) (hg : v.ownBlock ≠ some g) (hla : -1 ≤ la ∧ la ≤ 1099511627776) (hnx : 0 ≤ nx ∧ nx ≤ 255) (hq : q.length ≤ 1000) :
 Calls Tryz.prog 200 #[.pointer (some ⟨g, 0, none⟩), .int .i64 now] w fun r w' => r = .returned (.tuple #[.agg #[.int .i64 nx, .string d], errV 0]) ∧ SdPost w base g lf lt bag que v (if nx + 1 = 256 then 1 else nx + 1) now now q w' := by
 have q1 := he.out
 unfold sdE at q1
 obtain ⟨nx2, hnx2⟩ : ∃ nx2 : Int, (if nx + 1 = 256 then 1 else nx + 1) = nx2 := ⟨_, rfl⟩
 rw [hnx2]
 have HX2 := hide hnx2; clear hnx2
 have h12 : ¬ (now < 0 ∨ 1099511627776 < now) := by intro h; rw [if_pos h] at q1; cases q1
 rw [if_neg h12] at q1
 have h3 : ¬ now < nw := by intro h; rw [if_pos h] at q1; cases q1
 rw [if_neg h3] at q1
 have h4 : ¬ (0 ≤ la ∧ now - la < bag) := by intro h; rw [if_pos (.inr h)] at q1; cases q1
 have d1 : decide (now < 0) = false := decide_eq_false (by omega)
 have d2 : decide (1099511627776 < now) = false := decide_eq_false (by omega)
 have d3 : decide (now < nw) = false := decide_eq_false h3
 have d4 : ((q.length : Int) + 1 == 0) = false := by rw [beq_eq_false_iff_ne]; omega
 have hnow : 0 ≤ now ∧ now ≤ 1099511627776 := by omega
 have HN := hide (Blk.new w 305 #[.int .i64 0, .string ⟨#[]⟩])
 obtain ⟨c0, c1, c2, c3, c4, c5, c6, c7⟩ := (hb.alloc (.cells #[.int .i64 0, .string ⟨#[]⟩] 305)).cells8
 obtain ⟨ao, c, hvv, hlc⟩ := hQ.shape
 simp only [sv_len, List.length_cons] at hvv hlc
 subst hvv
 obtain ⟨gq, off, rfl, hbq, hlq, hcq⟩ := hQ.block (by omega)
 have hcell : w.cell? ⟨gq, off, none⟩ = some (.string d) := (show w.cell? ⟨gq, off, none⟩ = _ from hcq 0 (by omega)).trans (by simp [sv])
 have hgq : gq ≠ g := fun e => hg (by rw [e]; rfl)
 obtain ⟨W1, hW1⟩ : ∃ W1, W1 = (w.alloc (.cells #[.int .i64 0, .string ⟨#[]⟩] 305)).setCell ⟨g, 7, none⟩ (.int .i64 now) := ⟨_, rfl⟩
 have hB1 : Blk W1 g 264 (sdC lf lt bag que (.slice (some ⟨gq, off, none⟩) (q.length + 1) c) nx la now) := by rw [hW1]; exact (hb.alloc _).set_ 7 _
 have hN1 : Blk W1 w.heap.size 305 #[.int .i64 0, .string ⟨#[]⟩] := by rw [hW1]; exact HN.out.far (p := ⟨g, 7, none⟩) (Nat.ne_of_gt hb.lt) _
 have hQ1 : QAt W1 base 9 (.slice (some ⟨gq, off, none⟩) (q.length + 1) c) (sv (d :: q)) := by rw [hW1]; exact (hQ.alloc _).far (p := ⟨g, 7, none⟩) hg _
 have hK1 : Kept2 w W1 g (some gq) := by rw [hW1]; exact ((Kept2.refl w g _).alloc _).set_ 7 _
 have hC1 : W1.cell? ⟨gq, off, none⟩ = some (.string d) := sd_first hQ1
 have hfz := (hb.alloc (.cells #[.int .i64 0, .string ⟨#[]⟩] 305)).frozen 7
 have HB1 := hide hB1; have HN1 := hide hN1; have HQ1 := hide hQ1; have HK1 := hide hK1; have HGL := hide hb.lt; have HGQ := hide hgq; have HLQ := hide hlq; have HV := hide hv; have HG := hide hg
 have HLC := hide hlc
 clear q1 h12 h3 he hb hQ hlc hbq hcq hcell hlq hgq hv hg HN hN1 hQ1 hK1
 obtain ⟨e0, e1, e2, e3, e4, e5, e6, e7⟩ := hB1.cells8
 clear hB1
 go_enter Tryz.func200, Tryz.ntmps200
 go_wp2_with fail
 rw [← hW1]
 clear hW1 c0 c1 c2 c3 c4 c5 c6 c7 hfz
 go_upto_region 6 with fail
 go_cut [55] from 29 to 55 (fun v wx => v = .bool false ∧ ∃ n, wx = W1.drewN n)
 case first =>
  by_cases hla0 : 0 ≤ la
  ·have d5 : decide (0 ≤ la) = true := decide_eq_true hla0
   have d6 : decide (now - la < bag) = false := decide_eq_false (by omega)
   clear h4 hla0
   go_quiet (fail)
   go_wp2_with fail
   go_meet
   case rel => exact ⟨rfl, _, rfl⟩
  ·have d5 : decide (0 ≤ la) = false := decide_eq_false hla0
   clear h4 hla0
   go_quiet (fail)
   go_wp2_with fail
   go_meet
   case rel => exact ⟨rfl, _, rfl⟩
 case rest =>
  obtain ⟨rfl, nq, rfl⟩ := hcut
  clear h4 d1 d2 d3 d4
  go_upto_region 8 with fail
  go_cut [6] from 58 to 68 (fun p wx => ∃ gx, p = .pointer (some ⟨gx, 0, none⟩) ∧ Hid (w.heap.size < gx) ∧ Hid (Blk wx gx 305 #[.int .i64 nx, .string d]) ∧ Hid (Blk wx g 264 (sdC lf lt bag que (.slice (some ⟨gq, off, none⟩) (q.length + 1) c) nx la now)) ∧ Hid (Blk wx w.heap.size 305 #[.int .i64 0, .string ⟨#[]⟩]) ∧ Hid (QAt wx base 9 (.slice (some ⟨gq, off, none⟩) (q.length + 1) c) (sv (d :: q))) ∧ Hid (Kept2 w wx g (some gq)))
  case first =>
   have HK2 := hide (HK1.out.drewN nq); have HB2 := hide (HB1.out.drewN nq); have HN2 := hide (HN1.out.drewN nq); have HQ2 := hide (HQ1.out.drewN nq)
   obtain ⟨W2, hW2⟩ : ∃ W2, W2 = W1.drewN nq := ⟨_, rfl⟩
   rw [← hW2] at HK2 HB2 HN2 HQ2 ⊢
   clear hW2 HB1 HN1 HQ1 HK1 e0 e1 e2 e3 e4 e5 e6 e7 hC1
   obtain ⟨e0, e1, e2, e3, e4, e5, e6, e7⟩ := HB2.out.cells8
   have hc2 := sd_first HQ2.out
   obtain ⟨a0, a1, a2, a3, a4, a5, a6, a7⟩ := (HB2.out.alloc (.cells #[.int .i64 0, .string ⟨#[]⟩] 305)).cells8
   have hc3 := sd_first (HQ2.out.alloc (.cells #[.int .i64 0, .string ⟨#[]⟩] 305))
   obtain ⟨k0, k1, kf0, kf1⟩ := (Blk.new W2 305 #[.int .i64 0, .string ⟨#[]⟩]).cells2
   go_region
   go_wp2_with fail
   go_meet
   case rel => exact ⟨W2.heap.size, rfl, hide HN2.out.lt, hide (Blk.new W2 _ _).drew, hide (HB2.out.alloc _).drew, hide (HN2.out.alloc _).drew, hide (HQ2.out.alloc _).drew, hide (HK2.out.alloc _).drew⟩
  case rest =>
   obtain ⟨gx, rfl, HNX, HX4, HB4, HN4, HQ4, HK4⟩ := hcut
   obtain ⟨c0, c1, c2, c3, c4, c5, c6, c7⟩ := HB4.out.cells8
   obtain ⟨k0, k1, kf0, kf1⟩ := HX4.out.cells2
   have f4 := HB4.out.frozen 4
   have f5 := HB4.out.frozen 5
   have f6 := HB4.out.frozen 6
   have hlc := HLC.out
   have hnx2 := HNX.out
   have hgl2 := HGL.out
   have hne1 : g ≠ gx := by omega
   have hne2 : g ≠ w.heap.size := by omega
   have hne3 : w.heap.size ≠ gx := by omega
   obtain ⟨n0, n1, nf0, nf1⟩ := HN4.out.cells2
   clear e0 e1 e2 e3 e4 e5 e6 e7 hC1
   go_upto_region 10 with fail
   obtain ⟨ao2, hao⟩ : ∃ ao2 : Option Addr, ao2 = if c = 1 then some ⟨gq, off, none⟩ else some ⟨gq, off + 1, none⟩ := ⟨_, rfl⟩
   rw [← hao]
   have HQ5 : Hid (QAt wc base 9 (.slice ao2 q.length (c - 1)) (sv q)) := hide (by rw [hao]; exact HQ4.out.tail)
   have HO5 : Hid ((Value.slice ao2 q.length (c - 1)).ownBlock = some gq) := hide (by rw [hao]; split <;> rfl)
   clear hao hlc HLC HQ4
   have HE1 : Hid ((Value.slice ao2 q.length (c - 1)).ownBlock ≠ some g) := hide (by rw [HO5.out]; intro e; exact HGQ.out (Option.some.inj e))
   have HE2 : Hid ((Value.slice ao2 q.length (c - 1)).ownBlock ≠ some w.heap.size) := hide (by rw [HO5.out]; intro e; have := Option.some.inj e; have := HLQ.out; omega)
   by_cases h256 : nx + 1 = 256
   ·have d7 : (nx + 1 == 256) = true := by rw [h256]; rfl
    obtain rfl : 1 = nx2 := by rw [← HX2.out, if_pos h256]
    clear h256 HX2
    go_wp2_with fail
    exact bodyPost_ret (sd_results _ _ w.heap.size _ _ _ rfl rfl ((((((HN4.out.far (p := ⟨g, 4, none⟩) (Nat.ne_of_gt HGL.out) _).far (p := ⟨g, 6, none⟩) (Nat.ne_of_gt HGL.out) _).far (p := ⟨g, 5, none⟩) (Nat.ne_of_gt HGL.out) _).far (p := ⟨g, 5, none⟩) (Nat.ne_of_gt HGL.out) _).set_ 0 _).set_ 1 _)) rfl ⟨rfl, .slice ao2 q.length (c - 1), ((((((HB4.out.set_ 4 _).set_ 6 _).set_ 5 _).set_ 5 _).far (p := ⟨w.heap.size, 0, none⟩) (Nat.ne_of_lt HGL.out) _).far (p := ⟨w.heap.size, 1, none⟩) (Nat.ne_of_lt HGL.out) _), ((((((HQ5.out.far (p := ⟨g, 4, none⟩) HE1.out _).far (p := ⟨g, 6, none⟩) HE1.out _).far (p := ⟨g, 5, none⟩) HE1.out _).far (p := ⟨g, 5, none⟩) HE1.out _).far (p := ⟨w.heap.size, 0, none⟩) HE2.out _).far (p := ⟨w.heap.size, 1, none⟩) HE2.out _), ((((((HK4.out.set_ 4 _).set_ 6 _).set_ 5 _).set_ 5 _).set_new (p := ⟨w.heap.size, 0, none⟩) (Nat.le_refl _) _).set_new (p := ⟨w.heap.size, 1, none⟩) (Nat.le_refl _) _), sd_own HO5.out (by simpa [World.setCell] using Nat.lt_of_lt_of_le HLQ.out HK4.out.size)⟩
   ·have d7 : (nx + 1 == 256) = false := by rw [beq_eq_false_iff_ne]; exact h256
    obtain rfl : nx + 1 = nx2 := by rw [← HX2.out, if_neg h256]
    clear h256 HX2
    go_wp2_with fail
    exact bodyPost_ret (sd_results _ _ w.heap.size _ _ _ rfl rfl (((((HN4.out.far (p := ⟨g, 4, none⟩) (Nat.ne_of_gt HGL.out) _).far (p := ⟨g, 6, none⟩) (Nat.ne_of_gt HGL.out) _).far (p := ⟨g, 5, none⟩) (Nat.ne_of_gt HGL.out) _).set_ 0 _).set_ 1 _)) rfl ⟨rfl, .slice ao2 q.length (c - 1), (((((HB4.out.set_ 4 _).set_ 6 _).set_ 5 _).far (p := ⟨w.heap.size, 0, none⟩) (Nat.ne_of_lt HGL.out) _).far (p := ⟨w.heap.size, 1, none⟩) (Nat.ne_of_lt HGL.out) _), (((((HQ5.out.far (p := ⟨g, 4, none⟩) HE1.out _).far (p := ⟨g, 6, none⟩) HE1.out _).far (p := ⟨g, 5, none⟩) HE1.out _).far (p := ⟨w.heap.size, 0, none⟩) HE2.out _).far (p := ⟨w.heap.size, 1, none⟩) HE2.out _), (((((HK4.out.set_ 4 _).set_ 6 _).set_ 5 _).set_new (p := ⟨w.heap.size, 0, none⟩) (Nat.le_refl _) _).set_new (p := ⟨w.heap.size, 1, none⟩) (Nat.le_refl _) _), sd_own HO5.out (by simpa [World.setCell] using Nat.lt_of_lt_of_le HLQ.out HK4.out.size)⟩
end
end
section
open Go Go.RowKit
/-- Where a cluster's parts lie. -/
structure Ad where
 g : Nat
 ck : Value
 mm : Value
 sd : Value
 tk : Value
 pr : Value
 gm : Nat → Nat
 gs : Nat → Nat
 vs : Nat → Value
 rt : Nat → Value
 gt : Nat → Nat → Nat
 rp : Nat → Value
 gp : Nat → Nat → Nat
 vp : Nat → Nat → Value
/-- How many parts there are. -/
structure Cn where
 nm : Nat
 ns : Nat
 na : Nat
 nk : Nat → Nat
def fullN (p : Pl) : Cn := ⟨p.nd.toNat, p.lk.length, p.lk.length, fun k => if k < p.lk.length then p.nd.toNat else 0⟩
abbrev ptrV (g : Nat) : Value := .pointer (some ⟨g, 0, none⟩)
/-- The slices of the plan: slots, links, windows. -/
structure Sv3 where
 s : Value
 l : Value
 q : Value
def shape (a : Ad) (n : Cn) (p : Pl) (P : Sv3) (fy : Nat) (c : Cl) : Ix → Ob
 | .clu => .blk a.g 210 (clC p.nd p.fa p.sk p.ji p.dr p.rd P.s P.l p.fr P.q fy a.ck a.mm a.sd a.tk a.pr c.rd)
 | .nums => .arr 3 a.ck (c.ck.map (Value.int .i64))
 | .memA => .arr 211 a.mm ((List.range n.nm).map fun i => ptrV (a.gm i))
 | .mem i => if i < n.nm then .mem (a.gm i) i p.nd.toNat (c.mm i).m (c.mm i).gd (c.mm i).bd (c.mm i).fz else .none
 | .sndA => .arr 217 a.sd ((List.range n.ns).map fun k => ptrV (a.gs k))
 | .snd k => if k < n.ns then (match p.lk[k]? with | none => .none | some l => .snd (a.gs k) (a.vs k) l.f l.t l.b l.q (c.sd k).nx (c.sd k).la (c.sd k).nw (c.sd k).q) else .none
 | .takA => .arr 229 a.tk ((List.range n.na).map a.rt)
 | .takR k => .arr 232 (a.rt k) ((List.range (n.nk k)).map fun i => ptrV (a.gt k i))
 | .tak k i => if i < n.nk k then .tak (a.gt k i) (c.tk k i).nw (c.tk k i).c0 (c.tk k i).c1 else .none
 | .prtA => .arr 220 a.pr ((List.range n.na).map a.rp)
 | .prtR k => .arr 219 (a.rp k) ((List.range (n.nk k)).map fun i => ptrV (a.gp k i))
 | .prt k i => if i < n.nk k then .prt (a.gp k i) (a.vp k i) 16 (c.pr k i).lost (c.pr k i).q else .none
 | .loc _ => .none
/-- A cluster lies in memory. -/
abbrev ClAt (w : World) (base : Nat) (a : Ad) (n : Cn) (p : Pl) (P : Sv3) (fy : Nat) (c : Cl) : Prop := Objs w base (shape a n p P fy c)
/-- Blocks of a family. -/
def Fmy (S : Ix → Ob) (k : Nat) : Prop := ∃ x, k ∈ (S x).foot
/-- What a step on a family leaves. -/
structure KeptS (w w' : World) (S S' : Ix → Ob) : Prop where
 os : w'.os = w.os
 tape : w'.tape = w.tape
 output : w'.output = w.output
 size : w.heap.size ≤ w'.heap.size
 block : ∀ i, i < w.heap.size → ¬ Fmy S i → w'.heap[i]? = w.heap[i]?
 fam : ∀ k, Fmy S' k → Fmy S k ∨ w.heap.size ≤ k
section
variable {w w' w2 : World} {base : Nat} {S S' S2 : Ix → Ob}
theorem KeptS.trans (h : KeptS w w' S S') (h2 : KeptS w' w2 S' S2) : KeptS w w2 S S2 :=
 ⟨h2.os.trans h.os, h2.tape.trans h.tape, h2.output.trans h.output, Nat.le_trans h.size h2.size,
  fun i hi hn => (h2.block i (Nat.lt_of_lt_of_le hi h.size) (fun hf => (h.fam i hf).elim hn (fun e => by omega))).trans (h.block i hi hn),
  fun k hf => (h2.fam k hf).elim (h.fam k) (fun e => .inr (Nat.le_trans h.size e))⟩
theorem KeptS.of_below (hB : Below w.heap.size w w') : KeptS w w' S S := ⟨hB.os, hB.tape, hB.output, hB.size, fun i hi _ => hB.block i hi, fun _ h => .inl h⟩
theorem KeptS.below (h : KeptS w w' S S') (hB : Below w'.heap.size w' w2) : KeptS w w2 S S' := h.trans (.of_below hB)
theorem KeptS.drewN (h : KeptS w w' S S') (n : Nat) : KeptS w (w'.drewN n) S S' := h.below (below_drewN (Below.refl _ _) n)
theorem KeptS.of_upd (x : Ix) (o : Ob) (hk : KeptL w w' (S x).foot) (hf : ∀ k, k ∈ o.foot → k ∈ (S x).foot ∨ w.heap.size ≤ k) : KeptS w w' S (putO S x o) := by
 refine ⟨hk.os, hk.tape, hk.output, hk.size, fun i hi hn => hk.block i hi (fun hm => hn ⟨x, hm⟩), ?_⟩
 rintro k ⟨y, hy⟩
 by_cases e : y = x
 ·subst e
  rw [putO_self] at hy
  exact (hf k hy).imp (fun h => ⟨_, h⟩) id
 ·rw [putO_ne _ e] at hy
  exact .inl ⟨y, hy⟩
/-- A block beside the family is kept. -/
theorem KeptS.blk {g : Nat} {t : TypeId} {cs : Array Value} (h : KeptS w w' S S') (hb : Blk w g t cs) (hn : ¬ Fmy S g) : Blk w' g t cs := (h.block g hb.lt hn).trans hb
theorem KeptS.not (h : KeptS w w' S S') {g : Nat} (hg : g < w.heap.size) (hn : ¬ Fmy S g) : ¬ Fmy S' g := fun hf => (h.fam g hf).elim hn (fun e => by omega)
theorem Objs.not_new (h : Objs w base S) {g : Nat} (hg : w.heap.size ≤ g) : ¬ Fmy S g := fun ⟨x, hx⟩ => by have := (h.own x g hx).2; omega
/-- One step on one object: all facts. -/
theorem Objs.step (h : Objs w base S) (x : Ix) (o : Ob) (hk : KeptL w w' (S x).foot) (ha : o.At w' base) (hf : ∀ k, k ∈ o.foot → k < w'.heap.size ∧ (k ∈ (S x).foot ∨ w.heap.size ≤ k)) (hb : base ≤ w.heap.size) : Objs w' base (putO S x o) ∧ KeptS w w' S (putO S x o) :=
 ⟨h.upd x o hk ha hf hb, .of_upd x o hk (fun k hm => (hf k hm).2)⟩
theorem Objs.stMem (h : Objs w base S) (x : Ix) {g id n m : Nat} {good bad : Int} {fz : Bool} (hx : S x = .mem g id n m good bad fz) (id' n' m' : Nat) (good' bad' : Int) (fz' : Bool) (hb' : Blk w' g 261 (nodeC id' n' m' good' bad' fz')) (hg : w.grownBy w' (some g)) (hb : base ≤ w.heap.size) : Objs w' base (putO S x (.mem g id' n' m' good' bad' fz')) ∧ KeptS w w' S (putO S x (.mem g id' n' m' good' bad' fz')) :=
 h.step x _ (by rw [hx]; exact grown_toL hg) hb' (fun k hm => by rw [hx]; simp only [Ob.foot, List.mem_singleton] at hm ⊢; subst hm; exact ⟨hb'.lt, .inl rfl⟩) hb
theorem Objs.stTak (h : Objs w base S) (x : Ix) {g : Nat} {nw c0 c1 : Int} (hx : S x = .tak g nw c0 c1) (nw' c0' c1' : Int) (hb' : Blk w' g 275 #[.int .i64 nw', .int .i64 c0', .int .i64 c1']) (hg : w.grownBy w' (some g)) (hb : base ≤ w.heap.size) : Objs w' base (putO S x (.tak g nw' c0' c1')) ∧ KeptS w w' S (putO S x (.tak g nw' c0' c1')) :=
 h.step x _ (by rw [hx]; exact grown_toL hg) hb' (fun k hm => by rw [hx]; simp only [Ob.foot, List.mem_singleton] at hm ⊢; subst hm; exact ⟨hb'.lt, .inl rfl⟩) hb
theorem Objs.stSnd (h : Objs w base S) (x : Ix) {g : Nat} {v : Value} {lf lt bag que nx la nw nx' la' nw' : Int} {q q' : List ByteArray} (hx : S x = .snd g v lf lt bag que nx la nw q) (hp : SdPost w base g lf lt bag que v nx' la' nw' q' w') (hb : base ≤ w.heap.size) : ∃ v', Objs w' base (putO S x (.snd g v' lf lt bag que nx' la' nw' q')) ∧ KeptS w w' S (putO S x (.snd g v' lf lt bag que nx' la' nw' q')) := by
 have h1 := h.at_ x
 rw [hx] at h1
 obtain ⟨v', hb', hQ', hk, ho⟩ := hp
 exact ⟨v', h.step x _ (by rw [hx]; exact hk.toL) ⟨hb', hQ', own_off h1.1.lt h1.2.2 ho⟩ (by rw [hx]; exact own_foot hb'.lt ho) hb⟩
theorem Objs.stPrt (h : Objs w base S) (x : Ix) {g : Nat} {v : Value} {most lost lost' : Int} {q q' : List ByteArray} (hx : S x = .prt g v most lost q) (hp : QuPost w base g most v lost' q' w') (hb : base ≤ w.heap.size) : ∃ v', Objs w' base (putO S x (.prt g v' most lost' q')) ∧ KeptS w w' S (putO S x (.prt g v' most lost' q')) := by
 have h1 := h.at_ x
 rw [hx] at h1
 obtain ⟨v', hb', hQ', hk, ho⟩ := hp
 exact ⟨v', h.step x _ (by rw [hx]; exact hk.toL) ⟨hb', hQ', own_off h1.1.lt h1.2.2 ho⟩ (by rw [hx]; exact own_foot hb'.lt ho) hb⟩
end
section
variable {a : Ad} {n : Cn} {p : Pl} {P : Sv3} {fy : Nat} {c : Cl}
theorem shape_mem {i : Nat} (hi : i < n.nm) (x : Mm) : putO (shape a n p P fy c) (.mem i) (.mem (a.gm i) i p.nd.toNat x.m x.gd x.bd x.fz) = shape a n p P fy { c with mm := updF c.mm i x } := by
 funext y
 cases y with
 | mem j =>
  by_cases e : j = i
  ·subst e; simp [shape, updF, hi]
  ·rw [putO_ne _ (by simpa using e)]; simp [shape, updF, e]
 | _ => rw [putO_ne _ (by simp)]; rfl
theorem shape_tak {k i : Nat} (hi : i < n.nk k) (x : Tk) : putO (shape a n p P fy c) (.tak k i) (.tak (a.gt k i) x.nw x.c0 x.c1) = shape a n p P fy { c with tk := upd2 c.tk k i x } := by
 funext y
 cases y with
 | tak k2 j =>
  by_cases e : k2 = k ∧ j = i
  ·obtain ⟨rfl, rfl⟩ := e; simp [shape, upd2, hi]
  ·rw [putO_ne _ (by simpa using e)]; simp [shape, upd2, e]
 | _ => rw [putO_ne _ (by simp)]; rfl
theorem shape_prt {k i : Nat} (hi : i < n.nk k) (v : Value) (x : Pr) : putO (shape a n p P fy c) (.prt k i) (.prt (a.gp k i) v 16 x.lost x.q) = shape { a with vp := upd2 a.vp k i v } n p P fy { c with pr := upd2 c.pr k i x } := by
 funext y
 cases y with
 | prt k2 j =>
  by_cases e : k2 = k ∧ j = i
  ·obtain ⟨rfl, rfl⟩ := e; simp [shape, upd2, hi]
  ·rw [putO_ne _ (by simpa using e)]; simp [shape, upd2, e]
 | _ => rw [putO_ne _ (by simp)]; rfl
theorem shape_snd {k : Nat} {l : Lk} (hi : k < n.ns) (hl : p.lk[k]? = some l) (v : Value) (x : Sd) : putO (shape a n p P fy c) (.snd k) (.snd (a.gs k) v l.f l.t l.b l.q x.nx x.la x.nw x.q) = shape { a with vs := updF a.vs k v } n p P fy { c with sd := updF c.sd k x } := by
 funext y
 cases y with
 | snd j =>
  by_cases e : j = k
  ·subst e; simp [shape, updF, hi, hl]
  ·rw [putO_ne _ (by simpa using e)]; simp [shape, updF, e]
 | _ => rw [putO_ne _ (by simp)]; rfl
variable {w : World} {base : Nat}
/-- A pointer in a row. -/
theorem row_cell {f : Nat → Value} {t : TypeId} {v : Value} {m i : Nat} (h : QAt w base t v ((List.range m).map f)) (hi : i < m) : ∃ b off cp, v = .slice (some ⟨b, off, none⟩) m cp ∧ w.cell? ⟨b, off + i, none⟩ = some (f i) := by
 obtain ⟨ao, cp, rfl, _⟩ := h.shape
 simp only [List.length_map, List.length_range] at h ⊢
 obtain ⟨b, off, rfl, _, _, hc⟩ := h.block (by omega)
 exact ⟨b, off, cp, rfl, by rw [hc i hi]; simp [hi]⟩
theorem Objs.cluB (h : ClAt w base a n p P fy c) : Blk w a.g 210 (clC p.nd p.fa p.sk p.ji p.dr p.rd P.s P.l p.fr P.q fy a.ck a.mm a.sd a.tk a.pr c.rd) := h.at_ .clu
theorem Objs.memB (h : ClAt w base a n p P fy c) {i : Nat} (hi : i < n.nm) : Blk w (a.gm i) 261 (nodeC i p.nd.toNat (c.mm i).m (c.mm i).gd (c.mm i).bd (c.mm i).fz) := by
 have := h.at_ (.mem i)
 simpa [shape, hi, Ob.At] using this
theorem Objs.takB (h : ClAt w base a n p P fy c) {k i : Nat} (hi : i < n.nk k) : Blk w (a.gt k i) 275 #[.int .i64 (c.tk k i).nw, .int .i64 (c.tk k i).c0, .int .i64 (c.tk k i).c1] := by
 have := h.at_ (.tak k i)
 simpa [shape, hi, Ob.At] using this
theorem Objs.prtB (h : ClAt w base a n p P fy c) {k i : Nat} (hi : i < n.nk k) : Blk w (a.gp k i) 266 (quC 16 (a.vp k i) (c.pr k i).lost) ∧ QAt w base 9 (a.vp k i) (sv (c.pr k i).q) ∧ (a.vp k i).ownBlock ≠ some (a.gp k i) ∧ ∀ b, (a.vp k i).ownBlock = some b → b < w.heap.size := by
 have h1 := h.at_ (.prt k i)
 have h2 := h.own (.prt k i)
 simp only [shape, hi, Ob.At, if_true] at h1
 exact ⟨h1.1, h1.2.1, h1.2.2, fun b e => (h2 b (by simp [shape, hi, Ob.foot, e])).2⟩
theorem Objs.sndB (h : ClAt w base a n p P fy c) {k : Nat} {l : Lk} (hi : k < n.ns) (hl : p.lk[k]? = some l) : Blk w (a.gs k) 264 (sdC l.f l.t l.b l.q (a.vs k) (c.sd k).nx (c.sd k).la (c.sd k).nw) ∧ QAt w base 9 (a.vs k) (sv (c.sd k).q) ∧ (a.vs k).ownBlock ≠ some (a.gs k) ∧ ∀ b, (a.vs k).ownBlock = some b → b < w.heap.size := by
 have h1 := h.at_ (.snd k)
 have h2 := h.own (.snd k)
 simp only [shape, hi, hl, Ob.At, if_true] at h1
 exact ⟨h1.1, h1.2.1, h1.2.2, fun b e => (h2 b (by simp [shape, hi, hl, Ob.foot, e])).2⟩
/-- Loads of the rows' cells. -/
theorem Objs.memC (h : ClAt w base a n p P fy c) {G M : Nat} (hG : a.g = G) (hM : n.nm = M) {i : Nat} (hi : i < M) : ∃ b off cp, w.cell? ⟨G, 12, none⟩ = some (.slice (some ⟨b, off, none⟩) M cp) ∧ w.cell? ⟨b, off + i, none⟩ = some (.pointer (some ⟨a.gm i, 0, none⟩)) := by
 subst hM
 obtain ⟨b, off, cp, e, hc⟩ := row_cell (h.at_ .memA) hi
 have := (cluB h).cell 12
 simp at this
 rw [e, hG] at this
 exact ⟨b, off, cp, this, hc⟩
theorem Objs.sndC (h : ClAt w base a n p P fy c) {G M : Nat} (hG : a.g = G) (hM : n.ns = M) {k : Nat} (hi : k < M) : ∃ b off cp, w.cell? ⟨G, 13, none⟩ = some (.slice (some ⟨b, off, none⟩) M cp) ∧ w.cell? ⟨b, off + k, none⟩ = some (.pointer (some ⟨a.gs k, 0, none⟩)) := by
 subst hM
 obtain ⟨b, off, cp, e, hc⟩ := row_cell (h.at_ .sndA) hi
 have := (cluB h).cell 13
 simp at this
 rw [e, hG] at this
 exact ⟨b, off, cp, this, hc⟩
theorem Objs.prtC (h : ClAt w base a n p P fy c) {G M M2 : Nat} (hG : a.g = G) {k i : Nat} (hM : n.na = M) (hM2 : n.nk k = M2) (hk : k < M) (hi : i < M2) : ∃ b off cp b2 off2 cp2, w.cell? ⟨G, 15, none⟩ = some (.slice (some ⟨b, off, none⟩) M cp) ∧ w.cell? ⟨b, off + k, none⟩ = some (.slice (some ⟨b2, off2, none⟩) M2 cp2) ∧ w.cell? ⟨b2, off2 + i, none⟩ = some (.pointer (some ⟨a.gp k i, 0, none⟩)) := by
 subst hM hM2
 obtain ⟨b, off, cp, e, hc⟩ := row_cell (h.at_ .prtA) hk
 obtain ⟨b2, off2, cp2, e2, hc2⟩ := row_cell (h.at_ (.prtR k)) hi
 have := (cluB h).cell 15
 simp at this
 rw [e, hG] at this
 rw [e2] at hc
 exact ⟨b, off, cp, b2, off2, cp2, this, hc, hc2⟩
theorem row_at {f : Nat → Value} {t : TypeId} {v : Value} {m i b off cp : Nat} (h : QAt w base t v ((List.range m).map f)) (e : v = .slice (some ⟨b, off, none⟩) m cp) (hi : i < m) : w.cell? ⟨b, off + i, none⟩ = some (f i) := by
 obtain ⟨b2, off2, cp2, e2, hc⟩ := row_cell h hi
 rw [e] at e2
 cases e2
 exact hc
theorem row_v {f : Nat → Value} {t : TypeId} {v : Value} {m : Nat} (h : QAt w base t v ((List.range m).map f)) (hi : 0 < m) : ∃ b off cp, v = .slice (some ⟨b, off, none⟩) m cp := by
 obtain ⟨b, off, cp, e, _⟩ := row_cell h hi
 exact ⟨b, off, cp, e⟩
/-- Where the rows lie, as values; and their cells. -/
theorem Objs.takV (h : ClAt w base a n p P fy c) {M M2 k : Nat} (hM : n.na = M) (hM2 : n.nk k = M2) (hk : 0 < M) (hi : 0 < M2) : ∃ b off cp b2 off2 cp2, a.tk = .slice (some ⟨b, off, none⟩) M cp ∧ a.rt k = .slice (some ⟨b2, off2, none⟩) M2 cp2 := by
 subst hM hM2
 obtain ⟨b, off, cp, e⟩ := row_v (h.at_ .takA) hk
 obtain ⟨b2, off2, cp2, e2⟩ := row_v (h.at_ (.takR k)) hi
 exact ⟨b, off, cp, b2, off2, cp2, e, e2⟩
theorem Objs.takW (h : ClAt w base a n p P fy c) {G M M2 k i b off cp b2 off2 cp2 : Nat} (hG : a.g = G) (hM : n.na = M) (hM2 : n.nk k = M2) (hk : k < M) (hi : i < M2) (e : a.tk = .slice (some ⟨b, off, none⟩) M cp) (e2 : a.rt k = .slice (some ⟨b2, off2, none⟩) M2 cp2) : w.cell? ⟨G, 14, none⟩ = some (.slice (some ⟨b, off, none⟩) M cp) ∧ w.cell? ⟨b, off + k, none⟩ = some (.slice (some ⟨b2, off2, none⟩) M2 cp2) ∧ w.cell? ⟨b2, off2 + i, none⟩ = some (.pointer (some ⟨a.gt k i, 0, none⟩)) := by
 subst hM hM2
 have h1 := row_at (h.at_ .takA) e hk
 have h2 := row_at (h.at_ (.takR k)) e2 hi
 have h3 := (cluB h).cell 14
 simp at h3
 rw [e, hG] at h3
 rw [e2] at h1
 exact ⟨h3, h1, h2⟩
theorem Objs.prtV (h : ClAt w base a n p P fy c) {M M2 k : Nat} (hM : n.na = M) (hM2 : n.nk k = M2) (hk : 0 < M) (hi : 0 < M2) : ∃ b off cp b2 off2 cp2, a.pr = .slice (some ⟨b, off, none⟩) M cp ∧ a.rp k = .slice (some ⟨b2, off2, none⟩) M2 cp2 := by
 subst hM hM2
 obtain ⟨b, off, cp, e⟩ := row_v (h.at_ .prtA) hk
 obtain ⟨b2, off2, cp2, e2⟩ := row_v (h.at_ (.prtR k)) hi
 exact ⟨b, off, cp, b2, off2, cp2, e, e2⟩
theorem Objs.prtW (h : ClAt w base a n p P fy c) {G M M2 k i b off cp b2 off2 cp2 : Nat} (hG : a.g = G) (hM : n.na = M) (hM2 : n.nk k = M2) (hk : k < M) (hi : i < M2) (e : a.pr = .slice (some ⟨b, off, none⟩) M cp) (e2 : a.rp k = .slice (some ⟨b2, off2, none⟩) M2 cp2) : w.cell? ⟨G, 15, none⟩ = some (.slice (some ⟨b, off, none⟩) M cp) ∧ w.cell? ⟨b, off + k, none⟩ = some (.slice (some ⟨b2, off2, none⟩) M2 cp2) ∧ w.cell? ⟨b2, off2 + i, none⟩ = some (.pointer (some ⟨a.gp k i, 0, none⟩)) := by
 subst hM hM2
 have h1 := row_at (h.at_ .prtA) e hk
 have h2 := row_at (h.at_ (.prtR k)) e2 hi
 have h3 := (cluB h).cell 15
 simp at h3
 rw [e, hG] at h3
 rw [e2] at h1
 exact ⟨h3, h1, h2⟩
end
section
variable {a : Ad} {n : Cn} {p : Pl} {P : Sv3} {fy : Nat} {c : Cl} {w : World} {base : Nat}
theorem Objs.cluC (h : ClAt w base a n p P fy c) {G : Nat} (hG : a.g = G) : w.cell? ⟨G, 0, none⟩ = some (.int .i64 p.nd) ∧ w.cell? ⟨G, 1, none⟩ = some (.int .i64 p.fa) ∧ w.cell? ⟨G, 2, none⟩ = some (.int .i64 p.sk) ∧ w.cell? ⟨G, 3, none⟩ = some (.int .i64 p.ji) ∧ w.cell? ⟨G, 4, none⟩ = some (.int .i64 p.dr) ∧ w.cell? ⟨G, 5, none⟩ = some (.int .i64 p.rd) ∧ w.cell? ⟨G, 6, none⟩ = some P.s ∧ w.cell? ⟨G, 7, none⟩ = some P.l ∧ w.cell? ⟨G, 16, none⟩ = some (.int .i64 c.rd) := by
 subst hG
 have hb := cluB h
 have k0 := hb.cell 0; have k1 := hb.cell 1; have k2 := hb.cell 2; have k3 := hb.cell 3; have k4 := hb.cell 4; have k5 := hb.cell 5; have k6 := hb.cell 6; have k7 := hb.cell 7; have k16 := hb.cell 16
 simp at k0 k1 k2 k3 k4 k5 k6 k7 k16
 exact ⟨k0, k1, k2, k3, k4, k5, k6, k7, k16⟩
end
theorem cell_heap {w w' : World} {b : Nat} (h : w'.heap[b]? = w.heap[b]?) (o : Nat) : w'.cell? ⟨b, o, none⟩ = w.cell? ⟨b, o, none⟩ := by
 unfold World.cell?
 simp only [h]
/-- A step of a cluster. -/
def ClTo (w : World) (base : Nat) (a : Ad) (n : Cn) (p : Pl) (P : Sv3) (fy : Nat) (c : Cl) (w' : World) (c' : Cl) : Prop := ∃ a' : Ad, a'.g = a.g ∧ ClAt w' base a' n p P fy c' ∧ KeptS w w' (shape a n p P fy c) (shape a' n p P fy c')
section
variable {a a1 : Ad} {n : Cn} {p : Pl} {P : Sv3} {fy : Nat} {c c1 c2 : Cl} {w w' w2 : World} {base : Nat}
theorem ClTo.refl (h : ClAt w base a n p P fy c) (hB : Below w.heap.size w w') : ClTo w base a n p P fy c w' c := ⟨a, rfl, h.below hB, .of_below hB⟩
theorem ClTo.below (h : ClTo w base a n p P fy c w' c1) (hB : Below w'.heap.size w' w2) : ClTo w base a n p P fy c w2 c1 := by
 obtain ⟨a', e, h1, hk⟩ := h
 exact ⟨a', e, h1.below hB, hk.below hB⟩
theorem ClTo.trans (hk : KeptS w w' (shape a n p P fy c) (shape a1 n p P fy c1)) (e : a1.g = a.g) (h : ClTo w' base a1 n p P fy c1 w2 c2) : ClTo w base a n p P fy c w2 c2 := by
 obtain ⟨a', e', h1, hk'⟩ := h
 exact ⟨a', e'.trans e, h1, hk.trans hk'⟩
/-- A receiver took. -/
theorem Objs.took (h : ClAt w base a n p P fy c) {k i : Nat} (hi : i < n.nk k) (x : Int) (hb : Blk w' (a.gt k i) 275 (takeSt x (c.tk k i).nw (c.tk k i).c0 (c.tk k i).c1)) (hg : w.grownBy w' (some (a.gt k i))) (hbase : base ≤ w.heap.size) : ClAt w' base a n p P fy { c with tk := upd2 c.tk k i ((c.tk k i).take x) } ∧ KeptS w w' (shape a n p P fy c) (shape a n p P fy { c with tk := upd2 c.tk k i ((c.tk k i).take x) }) := by
 rw [Tk.takeC] at hb
 have hx : shape a n p P fy c (.tak k i) = .tak (a.gt k i) (c.tk k i).nw (c.tk k i).c0 (c.tk k i).c1 := by simp [shape, hi]
 have := h.stTak (.tak k i) hx _ _ _ hb hg hbase
 rw [shape_tak hi] at this
 exact this
/-- A port was sent to. -/
theorem Objs.put (h : ClAt w base a n p P fy c) {k i : Nat} (hi : i < n.nk k) (x : Pr) (hp : QuPost w base (a.gp k i) 16 (a.vp k i) x.lost x.q w') (hbase : base ≤ w.heap.size) : ∃ v, ClAt w' base { a with vp := upd2 a.vp k i v } n p P fy { c with pr := upd2 c.pr k i x } ∧ KeptS w w' (shape a n p P fy c) (shape { a with vp := upd2 a.vp k i v } n p P fy { c with pr := upd2 c.pr k i x }) := by
 have hx : shape a n p P fy c (.prt k i) = .prt (a.gp k i) (a.vp k i) 16 (c.pr k i).lost (c.pr k i).q := by simp [shape, hi]
 obtain ⟨v, this⟩ := h.stPrt (.prt k i) hx hp hbase
 rw [shape_prt hi] at this
 exact ⟨v, this⟩
/-- A sender. -/
theorem Objs.sent (h : ClAt w base a n p P fy c) {k : Nat} {l : Lk} (hi : k < n.ns) (hl : p.lk[k]? = some l) (x : Sd) (hp : SdPost w base (a.gs k) l.f l.t l.b l.q (a.vs k) x.nx x.la x.nw x.q w') (hbase : base ≤ w.heap.size) : ∃ v, ClAt w' base { a with vs := updF a.vs k v } n p P fy { c with sd := updF c.sd k x } ∧ KeptS w w' (shape a n p P fy c) (shape { a with vs := updF a.vs k v } n p P fy { c with sd := updF c.sd k x }) := by
 have hx : shape a n p P fy c (.snd k) = .snd (a.gs k) (a.vs k) l.f l.t l.b l.q (c.sd k).nx (c.sd k).la (c.sd k).nw (c.sd k).q := by simp [shape, hi, hl]
 obtain ⟨v, this⟩ := h.stSnd (.snd k) hx hp hbase
 rw [shape_snd hi hl] at this
 exact ⟨v, this⟩
/-- A member. -/
theorem Objs.memTo (h : ClAt w base a n p P fy c) {i : Nat} (hi : i < n.nm) (x : Mm) (hb : Blk w' (a.gm i) 261 (nodeC i p.nd.toNat x.m x.gd x.bd x.fz)) (hg : w.grownBy w' (some (a.gm i))) (hbase : base ≤ w.heap.size) : ClAt w' base a n p P fy { c with mm := updF c.mm i x } ∧ KeptS w w' (shape a n p P fy c) (shape a n p P fy { c with mm := updF c.mm i x }) := by
 have hx : shape a n p P fy c (.mem i) = .mem (a.gm i) i p.nd.toNat (c.mm i).m (c.mm i).gd (c.mm i).bd (c.mm i).fz := by simp [shape, hi]
 have := h.stMem (.mem i) hx i p.nd.toNat x.m x.gd x.bd x.fz hb hg hbase
 rw [shape_mem hi] at this
 exact this
end
end
section
open Go Go.RowKit
structure PlOk (p : Pl) : Prop where
 n1 : 1 ≤ p.nd
 n16 : p.nd ≤ 16
 f0 : 0 ≤ p.fa
 f3 : 3 * p.fa + 1 ≤ p.nd
 sk : 0 ≤ p.sk ∧ p.sk ≤ 137438953472
 ji : 0 ≤ p.ji ∧ p.ji ≤ 137438953472
 dr : 0 ≤ p.dr ∧ p.dr ≤ 137438953472
 rd : 1 ≤ p.rd ∧ p.rd ≤ 137438953472
 sl : p.sl.length ≤ 32
 lk : p.lk.length ≤ 8
 skew : p.sk / 2 + 2 * p.ji + 1 + 2 * p.dr ≤ p.sk
 slot : ∀ (k : Nat) (s : Sl), p.sl[k]? = some s → 0 ≤ s.n ∧ s.n < p.nd ∧ 0 ≤ s.f ∧ s.f ≤ 137438953472
 link : ∀ (k : Nat) (l : Lk), p.lk[k]? = some l → 0 ≤ l.f ∧ l.f < p.nd ∧ 0 < l.t ∧ l.t < 2 ^ p.nd.toNat ∧ l.t.toNat.testBit l.f.toNat = false ∧ 1 ≤ l.b ∧ l.b ≤ 137438953472 ∧ 1 ≤ l.q ∧ l.q ≤ 16
theorem slE_ok {sk rd nd lo : Int} {s : Sl} (h : slE sk rd nd lo s = 0) : s.f < s.t ∧ lo ≤ s.f ∧ s.t ≤ rd - sk - 1 ∧ 0 ≤ s.n ∧ s.n < nd := by
 unfold slE at h
 split at h
 ·rename_i h1; exact absurd h h1
 ·rename_i h1
  have h2 : spE s.f s.t lo (rd - sk - 1) = 0 := by simpa using h1
  unfold spE at h2
  repeat' split at h2
  all_goals first | (exact absurd h2 (by decide)) | skip
  split at h
  ·exact absurd h (by decide)
  ·omega
theorem slEs_ok {sk rd nd : Int} (hsk : 0 ≤ sk) {l : List Sl} : ∀ {lo : Int}, 0 ≤ lo → (∀ j, j < l.length → (slEs sk rd nd lo l)[j]? = some 0) → ∀ (k : Nat) (s : Sl), l[k]? = some s → 0 ≤ s.n ∧ s.n < nd ∧ 0 ≤ s.f ∧ s.f ≤ rd := by
 induction l with
 | nil => intro lo _ _ k s h; simp at h
 | cons x l ih =>
  intro lo hlo h k s hk
  have h0 := h 0 (by simp)
  simp [slEs] at h0
  have hx := slE_ok h0
  cases k with
  | zero => simp at hk; subst hk; omega
  | succ k =>
   exact ih (lo := x.t + sk + 1) (by omega) (fun j hj => by simpa [slEs] using h (j + 1) (by simp; omega)) k s (by simpa using hk)
theorem PlOk.of {p : Pl} (h : chk p = (0, -1)) : PlOk p := by
 unfold chk at h
 split at h
 ·rename_i h1; exact absurd (congrArg Prod.fst h) h1
 ·rename_i h1
  have h1 : headE p = 0 := by simpa using h1
  split at h
  ·rename_i h2; exact absurd (congrArg Prod.fst h) h2
  ·rename_i h2
   split at h
   ·rename_i h3; exact absurd (congrArg Prod.fst h) h3
   ·rename_i h3
    have hs := firstE_zero _ _ (by simpa using h2)
    have hl := firstE_zero _ _ (by simpa using h3)
    rw [slEs_len] at hs
    rw [List.length_map] at hl
    clear h h2 h3
    unfold headE at h1
    repeat' split at h1
    all_goals first | (exact absurd h1 (by decide)) | skip
    refine ⟨by omega, by omega, by omega, by omega, by omega, by omega, by omega, by omega, by omega, by omega, by omega, fun k s hk => ?_, fun k l hk => ?_⟩
    ·have := slEs_ok (by omega) (Int.le_refl 0) hs k s hk
     omega
    ·have hlt : k < p.lk.length := (List.getElem?_eq_some_iff.1 hk).1
     have := hl k hlt
     rw [List.getElem?_map, hk] at this
     simp at this
     unfold lkE at this
     repeat' split at this
     all_goals first | (exact absurd this (by decide)) | skip
     rename_i a1 a2 a3
     unfold toBad at a2
     simp at a2
     exact ⟨by omega, by omega, by omega, a2.1.2, a2.2, by omega, by omega, by omega, by omega⟩
/-- Bounds. -/
structure ClOk (p : Pl) (N : Nat) (c : Cl) : Prop where
 len : c.ck.length = p.nd.toNat
 ck : ∀ j, -274877906944 ≤ c.ck.getD j 0 ∧ c.ck.getD j 0 ≤ 274877906944
 rd : 0 ≤ c.rd
 mm : ∀ i, (c.mm i).m < 65536 ∧ 0 ≤ (c.mm i).gd ∧ (c.mm i).gd ≤ N ∧ 0 ≤ (c.mm i).bd ∧ (c.mm i).bd ≤ N
 sd : ∀ k, 0 ≤ (c.sd k).nx ∧ (c.sd k).nx ≤ 255 ∧ -1 ≤ (c.sd k).la ∧ (c.sd k).la ≤ 1099511627776 ∧ (c.sd k).q.length ≤ 16 ∧ ∀ d ∈ (c.sd k).q, d.size ≤ 40
 tk : ∀ k i, -1 ≤ (c.tk k i).nw ∧ (c.tk k i).nw ≤ 255 ∧ 0 ≤ (c.tk k i).c0 ∧ (c.tk k i).c0 ≤ N ∧ 0 ≤ (c.tk k i).c1 ∧ (c.tk k i).c1 ≤ N
 pr : ∀ k i, 0 ≤ (c.pr k i).lost ∧ (c.pr k i).lost ≤ N ∧ (c.pr k i).q.length ≤ 16
section
variable {p : Pl} {N : Nat} {c : Cl}
theorem ClOk.mono (h : ClOk p N c) {M : Nat} (hM : N ≤ M) : ClOk p M c :=
 ⟨h.len, h.ck, h.rd, fun i => by have := h.mm i; omega, h.sd, fun k i => by have := h.tk k i; omega, fun k i => by have := h.pr k i; omega⟩
theorem or_lt16 {m fr : Nat} (hm : m < 65536) (hf : fr < 16) : m ||| 2 ^ fr < 65536 := by
 have : (2 : Nat) ^ fr < 2 ^ 16 := Nat.pow_lt_pow_right (by omega) hf
 exact Nat.or_lt_two_pow (n := 16) hm this
theorem xor_lt16 {m x : Nat} (hm : m < 65536) (hx : x < 65536) : m ^^^ x < 65536 := Nat.xor_lt_two_pow (n := 16) hm hx
theorem clr_lt16 {m x : Nat} (hm : m < 65536) : clr m x < 65536 := by
 unfold clr
 exact xor_lt16 hm (Nat.lt_of_le_of_lt Nat.and_le_left hm)
theorem Mm.hear_ok {s : Mm} {fr : Nat} {what : Int} (h : s.m < 65536 ∧ 0 ≤ s.gd ∧ s.gd ≤ N ∧ 0 ≤ s.bd ∧ s.bd ≤ N) (hf : fr < 16) : (s.hear fr what).m < 65536 ∧ 0 ≤ (s.hear fr what).gd ∧ (s.hear fr what).gd ≤ (N + 1 : Nat) ∧ 0 ≤ (s.hear fr what).bd ∧ (s.hear fr what).bd ≤ (N + 1 : Nat) := by
 unfold Mm.hear
 have h1 := or_lt16 h.1 hf
 have h2 := clr_lt16 (x := 2 ^ fr) h.1
 split
 ·omega
 ·split
  ·exact ⟨h1, by dsimp only; omega, by dsimp only; omega, by dsimp only; omega, by dsimp only; omega⟩
  ·split <;> exact ⟨h2, by dsimp only; omega, by dsimp only; omega, by dsimp only; omega, by dsimp only; omega⟩
theorem Mm.send_ok {s : Mm} (h : s.m < 65536 ∧ 0 ≤ s.gd ∧ s.gd ≤ N ∧ 0 ≤ s.bd ∧ s.bd ≤ N) : s.send.m < 65536 ∧ 0 ≤ s.send.gd ∧ s.send.gd ≤ (N + 1 : Nat) ∧ 0 ≤ s.send.bd ∧ s.send.bd ≤ (N + 1 : Nat) := by
 unfold Mm.send
 split
 ·omega
 ·split <;> exact ⟨h.1, by dsimp only; omega, by dsimp only; omega, by dsimp only; omega, by dsimp only; omega⟩
theorem takeB_in {x nw : Int} (h : takeB x nw = true) : 0 ≤ x ∧ x ≤ 255 := by
 unfold takeB at h
 simp at h
 exact h.1
theorem Tk.take_ok {s : Tk} {x : Int} (h : -1 ≤ s.nw ∧ s.nw ≤ 255 ∧ 0 ≤ s.c0 ∧ s.c0 ≤ N ∧ 0 ≤ s.c1 ∧ s.c1 ≤ N) : -1 ≤ (s.take x).nw ∧ (s.take x).nw ≤ 255 ∧ 0 ≤ (s.take x).c0 ∧ (s.take x).c0 ≤ (N + 1 : Nat) ∧ 0 ≤ (s.take x).c1 ∧ (s.take x).c1 ≤ (N + 1 : Nat) := by
 unfold Tk.take
 cases e : takeB x s.nw
 ·dsimp only [cond]; omega
 ·have := takeB_in e
  dsimp only [cond]; omega
theorem Pr.put_ok {s : Pr} {d : ByteArray} (h : 0 ≤ s.lost ∧ s.lost ≤ N ∧ s.q.length ≤ 16) : 0 ≤ (s.put d).lost ∧ (s.put d).lost ≤ (N + 1 : Nat) ∧ (s.put d).q.length ≤ 16 := by
 unfold Pr.put putQ putE
 dsimp only
 refine ⟨?_, ?_, ?_⟩
 ·split <;> omega
 ·split <;> omega
 ·repeat' split
  all_goals first
   | omega
   | (rename_i h1; exact absurd h1 (by decide))
   | (rw [List.length_append, List.length_singleton]; omega)
theorem ClOk.setMm (h : ClOk p N c) (i : Nat) {x : Mm} (hx : x.m < 65536 ∧ 0 ≤ x.gd ∧ x.gd ≤ (N + 1 : Nat) ∧ 0 ≤ x.bd ∧ x.bd ≤ (N + 1 : Nat)) : ClOk p (N + 1) { c with mm := updF c.mm i x } :=
 { (h.mono (Nat.le_succ N)) with mm := fun j => by dsimp only [updF]; split; exact hx; exact (h.mono (Nat.le_succ N)).mm j }
theorem ClOk.setTk (h : ClOk p N c) (k i : Nat) {x : Tk} (hx : -1 ≤ x.nw ∧ x.nw ≤ 255 ∧ 0 ≤ x.c0 ∧ x.c0 ≤ (N + 1 : Nat) ∧ 0 ≤ x.c1 ∧ x.c1 ≤ (N + 1 : Nat)) : ClOk p (N + 1) { c with tk := upd2 c.tk k i x } :=
 { (h.mono (Nat.le_succ N)) with tk := fun a b => by dsimp only [upd2]; split; exact hx; exact (h.mono (Nat.le_succ N)).tk a b }
theorem ClOk.setPr (h : ClOk p N c) (k i : Nat) {x : Pr} (hx : 0 ≤ x.lost ∧ x.lost ≤ (N + 1 : Nat) ∧ x.q.length ≤ 16) : ClOk p (N + 1) { c with pr := upd2 c.pr k i x } :=
 { (h.mono (Nat.le_succ N)) with pr := fun a b => by dsimp only [upd2]; split; exact hx; exact (h.mono (Nat.le_succ N)).pr a b }
theorem ClOk.setSd (h : ClOk p N c) (k : Nat) {x : Sd} (hx : 0 ≤ x.nx ∧ x.nx ≤ 255 ∧ -1 ≤ x.la ∧ x.la ≤ 1099511627776 ∧ x.q.length ≤ 16 ∧ ∀ d ∈ x.q, d.size ≤ 40) : ClOk p N { c with sd := updF c.sd k x } :=
 { h with sd := fun j => by dsimp only [updF]; split; exact hx; exact h.sd j }
theorem ClOk.chan (h : ClOk p N c) (tn : Nat) (f : FrR) : ClOk p (N + 2) (chanF p tn f c) := by
 unfold chanF
 split
 ·exact h.mono (by omega)
 ·split
  ·exact h.mono (by omega)
  ·split
   ·have h1 := h.setTk f.lk.toNat tn (Tk.take_ok (x := f.sq) (h.tk f.lk.toNat tn))
    split
    ·exact h1.setPr f.lk.toNat tn (Pr.put_ok (d := f.d) (by exact h1.pr f.lk.toNat tn))
    ·exact h1.mono (by omega)
   ·exact h.mono (by omega)
end
end
section
open Go Go.RowKit
/-- What every step of a family keeps. -/
structure Cls (K : World → (Ix → Ob) → Prop) : Prop where
 step : ∀ {w w' : World} {S S' : Ix → Ob}, K w S → KeptS w w' S S' → K w' S'
theorem Cls.bel {K : World → (Ix → Ob) → Prop} (h : Cls K) {w w' : World} {S : Ix → Ob} (h0 : K w S) (hB : Below w.heap.size w w') : K w' S := h.step h0 (.of_below hB)
/-- Blocks that are none of the family's. -/
def KBes (w1 : World) (bs : Nat → Prop) (w : World) (S : Ix → Ob) : Prop := w1.heap.size ≤ w.heap.size ∧ ∀ k, bs k → k < w1.heap.size ∧ ¬ Fmy S k ∧ w.heap[k]? = w1.heap[k]?
theorem KBes.cls (w1 : World) (bs : Nat → Prop) : Cls (KBes w1 bs) := ⟨fun {w w' S S'} h hk =>
 ⟨Nat.le_trans h.1 hk.size, fun k hb => by
  obtain ⟨h1, h2, h3⟩ := h.2 k hb
  exact ⟨h1, hk.not (Nat.lt_of_lt_of_le h1 h.1) h2, (hk.block k (Nat.lt_of_lt_of_le h1 h.1) h2).trans h3⟩⟩⟩
end
section
open Go.RowKit
theorem quiet_left {P : Program} {f : FuncId} {args : Array Value} {w : World} {n : Nat} {v : Value}
 (h : Calls P f args (w.drewN n) fun e w' => e = .returned v ∧ w.drewN n = w') : Calls P f args (w.drewN n) fun e w'' => e = .returned v ∧ ∃ m, w'' = w.drewN m :=
 h.mono fun _ _ ⟨he, hm⟩ => ⟨he, n, hm.symm⟩
abbrev frZ : Value := .agg #[.int .i64 0, .int .i64 0, .int .i64 0, .int .i64 0, .int .i64 0, .string ⟨#[]⟩]
/-- No frame: ErrForm. -/
def DecBad (w : World) (e : Ending) (w' : World) : Prop := e = .returned (.tuple #[frZ, .iface 61 (.int .i64 3)]) ∧ Below w.heap.size w w'
theorem Blk.cells6 {w : World} {g : Nat} {t : TypeId} {a b c d e f : Value} (h : Blk w g t #[a, b, c, d, e, f]) :
 w.cell? ⟨g, 0, none⟩ = some a ∧ w.cell? ⟨g, 1, none⟩ = some b ∧ w.cell? ⟨g, 2, none⟩ = some c ∧ w.cell? ⟨g, 3, none⟩ = some d ∧ w.cell? ⟨g, 4, none⟩ = some e ∧ w.cell? ⟨g, 5, none⟩ = some f ∧
 w.frozen? ⟨g, 0, none⟩ = false ∧ w.frozen? ⟨g, 1, none⟩ = false ∧ w.frozen? ⟨g, 2, none⟩ = false ∧ w.frozen? ⟨g, 3, none⟩ = false ∧ w.frozen? ⟨g, 4, none⟩ = false ∧ w.frozen? ⟨g, 5, none⟩ = false :=
 ⟨by simpa using h.cell 0, by simpa using h.cell 1, by simpa using h.cell 2, by simpa using h.cell 3, by simpa using h.cell 4, by simpa using h.cell 5, h.frozen 0, h.frozen 1, h.frozen 2, h.frozen 3, h.frozen 4, h.frozen 5⟩
theorem BytesAt.below {w W : World} {A : Option Addr} {n : Nat} {bs : List Nat} (h : BytesAt w A n bs) (hB : Below w.heap.size w W) : BytesAt W A n bs := by
 intro j hj
 obtain ⟨b, off, hA, hc⟩ := h j hj
 exact ⟨b, off, hA, by rw [← hc]; exact hB.cell (World.block_lt_of_cell? _ _ hc)⟩
theorem or_byte (x y : Nat) (hx : x < 256) (hy : y < 256) : bits .or .i64 ((x : Int) * 256) (y : Int) = ((x * 256 + y : Nat) : Int) := by
 rw [show ((x : Int) * 256) = ((x * 256 : Nat) : Int) by omega, i64_or_nat _ _ (by omega) (by omega)]
 have := Nat.shiftLeft_add_eq_or_of_lt (show y < 2 ^ 8 from hy) x
 rw [Nat.shiftLeft_eq] at this
 rw [← this]
set_option maxRecDepth 100000 in
set_option maxHeartbeats 2000000 in
theorem dec_sum (b off m c : Nat) (bs : List Nat) (x y : Nat) (w : World) (hm : 5 ≤ m) (hm2 : m + 2 ≤ c) (hc : c ≤ 9223372036854775807) (hl : bs.length = m) (hlt : ∀ x ∈ bs, x < 256) (hB : BytesAt w (some ⟨b, off, none⟩) bs.length bs)
 (hx : w.cell? ⟨b, off + m, none⟩ = some (.int .u8 x)) (hy : w.cell? ⟨b, off + (m + 1), none⟩ = some (.int .u8 y)) (x1 : x < 256) (y1 : y < 256) (hs : crcS bs ≠ x * 256 + y) :
 Calls Tryz.prog 204 #[.slice (some ⟨b, off, none⟩) (m + 2) c] w (DecBad w) := by
 obtain ⟨z, hz⟩ : ∃ z : Nat, z = x * 256 + y := ⟨_, rfl⟩
 have ho := or_byte x y x1 y1
 rw [← hz] at ho hs
 obtain ⟨k, hk⟩ : ∃ k : Nat, k = crcS bs := ⟨_, rfl⟩
 rw [← hk] at hs
 have hne : ((k : Int) != (z : Int)) = true := by simp; omega
 have hS := hide (show ∀ W : World, BytesAt W (some ⟨b, off, none⟩) m bs → Calls Tryz.prog 202 #[.slice (some ⟨b, off, none⟩) m c] W fun e w' => e = .returned (.int .i64 k) ∧ W = w' by
  intro W hW; rw [hk]; subst hl; exact sum_any _ _ bs W hW hlt (by omega))
 have HB := hide (show BytesAt w (some ⟨b, off, none⟩) m bs from hl ▸ hB)
 clear hB hk hz hs hlt hl
 have h1 : decide ((m : Int) < 5) = false := by simp; omega
 have h2 : ((m + 2 : Nat) : Int) - 2 = (m : Int) := by omega
 go_enter Tryz.func204, Tryz.ntmps204
 go_wp2
 generalize hW : (World.alloc _ _) = W
 obtain ⟨hb, hB⟩ : Blk W w.heap.size 269 #[.int .i64 0, .int .i64 0, .int .i64 0, .int .i64 0, .int .i64 0, .string ⟨#[]⟩] ∧ Below w.heap.size w W := by
  subst hW
  exact ⟨(Blk.new w _ _), ((Below.refl _ _).alloc (Nat.le_refl _) _)⟩
 have hx' : W.cell? ⟨b, off + m, none⟩ = some (.int .u8 x) := by
  rw [← hx]; exact hB.cell (World.block_lt_of_cell? _ _ hx)
 have hy' : W.cell? ⟨b, off + (m + 1), none⟩ = some (.int .u8 y) := by
  rw [← hy]; exact hB.cell (World.block_lt_of_cell? _ _ hy)
 have hBA : BytesAt W (some ⟨b, off, none⟩) m bs := HB.out.below hB
 have HBA := hide hBA
 have HBl := hide hB; have Hb := hide hb
 clear hW hb hBA hB hx hy
 go_quiet ((go_at_call 202; exact quiet_left (hS.out _ (by exact HBA.out))))
 generalize hW : (World.drewN _ _) = W2
 obtain ⟨hb2, hB2⟩ : Blk W2 w.heap.size 269 #[.int .i64 0, .int .i64 0, .int .i64 0, .int .i64 0, .int .i64 0, .string ⟨#[]⟩] ∧ Below w.heap.size w W2 := by
  subst hW
  exact ⟨Hb.out.drewN _, below_drewN HBl.out _⟩
 clear hW
 obtain ⟨k0, k1, k2, k3, k4, k5, f0, f1, f2, f3, f4, f5⟩ := hb2.cells6
 have HB2 := hide hB2; have hsz := hB2.size; clear hB2 hb2
 go_wp2
 exact bodyPost_ret (v := .tuple #[.agg #[.int .i64 0, .int .i64 0, .int .i64 0, .int .i64 0, .int .i64 0, .string ⟨#[]⟩], .iface 61 (.int .i64 3)]) (by simp [results, Tryz.results204, go_sem, k0, k1, k2, k3, k4, k5]) rfl ⟨rfl, ((((((HB2.out.setCell (Nat.le_refl _) _).setCell (Nat.le_refl _) _).setCell (Nat.le_refl _) _).setCell (Nat.le_refl _) _).setCell (Nat.le_refl _) _).setCell (Nat.le_refl _) _)⟩
end
section
open Go.RowKit
def DecPost (w : World) (ok : Bool) (v : Value) (e : Ending) (w' : World) : Prop :=
 if ok then e = .returned (.tuple #[v, .nilIface]) ∧ Below w.heap.size w w' else DecBad w e w'
theorem e11 {m x6 : Nat} (h : m = 7 + x6) (hx : x6 < 256) : ((m : Int) != wrap64 (7 + wrap64 (x6 : Int))) = false := by
 rw [IntWalk.wrap64_in (x6 : Int) ⟨by omega, by omega⟩, IntWalk.wrap64_in (7 + (x6 : Int)) ⟨by omega, by omega⟩]
 simp; omega
theorem e12 {m x6 : Nat} (h : ¬ m = 7 + x6) (hx : x6 < 256) : ((m : Int) != wrap64 (7 + wrap64 (x6 : Int))) = true := by
 rw [IntWalk.wrap64_in (x6 : Int) ⟨by omega, by omega⟩, IntWalk.wrap64_in (7 + (x6 : Int)) ⟨by omega, by omega⟩]
 simp; omega
theorem DecPost.good {w w' : World} {v : Value} {e : Ending} (h : e = .returned (.tuple #[v, .nilIface])) (hB : Below w.heap.size w w') : DecPost w true v e w' := by
 unfold DecPost; rw [if_pos rfl]; exact ⟨h, hB⟩
theorem DecPost.bad {w w' : World} {v : Value} (hB : Below w.heap.size w w') : DecPost w false v (.returned (.tuple #[frZ, .iface 61 (.int .i64 3)])) w' := by
 unfold DecPost; rw [if_neg (by decide)]; exact ⟨rfl, hB⟩
/-- What the function hands back: the frame's cells, and the error. -/
theorem dec_results (tmps : Array Value) (w : World) (g : Nat) (a b c d e f v : Value) (h2 : tmps[2]? = some (.pointer (some ⟨g, 0, none⟩))) (h3 : tmps[3]? = some v) (hb : Blk w g 269 #[a, b, c, d, e, f]) :
 (results Tryz.f204 tmps).run Tryz.prog w = .ok (.tuple #[.agg #[a, b, c, d, e, f], v]) w := by
 obtain ⟨k0, k1, k2, k3, k4, k5, _⟩ := hb.cells6
 simp [results, Tryz.results204, go_sem, h2, h3, k0, k1, k2, k3, k4, k5]
end
end Go.Proofs.YtideefjnlakciaaGreatDoor
