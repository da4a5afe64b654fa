/- The document's NewCluster where something is wrong; conditions: the plan and the clocks lie in memory; metronomeref.Fine holds what start-up lays there. -/
import Derived.Test.YtdogdlnaacimpaaGreatDoorP33
import Derived.Test.YtdogdlnaacimpaaGreatDoorP32
import Derived.Test.YtdogdlnaacimpaaGreatDoorP34
set_option linter.unusedVariables false
set_option linter.unusedSimpArgs false
namespace Go.Proofs.YtdogdlnaacimpaaGreatDoor
section
open Go Go.RowKit
attribute [local irreducible] chk honL liesB wildB
theorem rnc_results (tmps : Array Value) (w : World) (g : Nat) (a b v : Value) (h6 : tmps[6]? = some v) (h7 : tmps[7]? = some (.pointer (some ⟨g, 0, none⟩))) (hb : Blk w g 62 #[a, b]) :
 (results Tryz.f17 tmps).run Tryz.prog w = .ok (.tuple #[v, .agg #[a, b]]) w := by
 obtain ⟨k0, k1, _⟩ := hb.cells2
 simp [results, Tryz.results17, go_sem, h6, h7, k0, k1]
theorem blk_at {w : World} {n : Nat} {t : TypeId} {cs : Array Value} (h : w.heap.size = n) : Blk (w.alloc (.cells cs t)) n t cs := by subst h; exact Blk.new w t cs
theorem map_at {w : World} {n : Nat} (h : w.heap.size = n) : MapP (w.alloc (.map #[] 0)) n [] := by
 subst h
 exact ⟨#[], 0, by unfold World.alloc; simp, rfl⟩
theorem MapP.alloc {w : World} {g : Nat} {l : List KV} (h : MapP w g l) (o : Obj) : MapP (w.alloc o) g l := h.keep (((Below.refl w.heap.size w).alloc (Nat.le_refl _) o).block _ h.lt)
theorem MapP.drew {w : World} {g : Nat} {l : List KV} (h : MapP w g l) : MapP w.drew g l := h.keep rfl
theorem MapP.grown {w w' : World} {g : Nat} {l : List KV} {r : Option Nat} (h : MapP w g l) (hg : w.grownBy w' r) (hn : r ≠ some g) : MapP w' g l := h.keep (hg.block _ h.lt (fun e => hn e.symm))
theorem dc_start2 {w8 : World} {base tm pm g : Nat} {p : Pl} {P : Sv3} {fy : Nat} {v : Value} {zs : List Int} (hg : w8.heap.size = g) (hq : QAt w8 base 3 v (zs.map (Value.int .i64))) (hv : ∀ k, v.ownBlock = some k → base ≤ k ∧ k < w8.heap.size) (ht : MapP w8 tm []) (hp : MapP w8 pm []) (hbt : base ≤ tm) (hbp : base ≤ pm) (hne : tm ≠ pm) (hvt : v.ownBlock ≠ some tm) (hvp : v.ownBlock ≠ some pm) (hb : base ≤ w8.heap.size) :
 DcAt (w8.alloc (.cells (rclC p P fy v (.slice none 0 0) (.slice none 0 0) tm pm 0) 83)) base (ad20 g v tm pm) n00 p P fy (startF p zs) 0 := by
 subst hg
 exact dc_start hq hv ht hp hbt hbp hne hvt hvp hb
theorem ptr_infoR : (Tryz.prog.info? 92).map (fun i => (i.zero, i.size, i.bytes)) = some (some (.pointer none), 1, 8) := by kernel_rfl
theorem ptr_infoRS : (Tryz.prog.info? 84).map (fun i => (i.zero, i.size, i.bytes)) = some (some (.pointer none), 1, 8) := by kernel_rfl
theorem dif_iff {fy : Nat} {zs : List Int} {n : Nat} {R d : Int} (h : DifOk (honL fy zs n) (honL fy zs n).length 0 R) (hd : 0 ≤ d) : R ≤ d ↔ apartLe fy zs n d := by
 constructor
 ·intro hR i j hi hj h1 h2
  obtain ⟨x, hx, e1⟩ := List.mem_iff_getElem.1 (honL_put (zs := zs) h1 hi)
  obtain ⟨y, hy, e2⟩ := List.mem_iff_getElem.1 (honL_put (zs := zs) h2 hj)
  have := h.le x y hx hy
  have g1 : (honL fy zs n).getD x 0 = zs.getD i 0 := by rw [← e1, List.getD_eq_getElem?_getD, List.getElem?_eq_getElem hx]; rfl
  have g2 : (honL fy zs n).getD y 0 = zs.getD j 0 := by rw [← e2, List.getD_eq_getElem?_getD, List.getElem?_eq_getElem hy]; rfl
  rw [g1, g2] at this
  omega
 ·intro ha
  rcases h.is with h1 | ⟨x, y, hx, hy, h1⟩
  ·omega
  ·obtain ⟨i, hi, li, e1⟩ := honL_mem2 (getD_memC hx)
   obtain ⟨j, hj, lj, e2⟩ := honL_mem2 (getD_memC hy)
   have := ha i j hi hj li lj
   omega
theorem DcAt.ckI {w : World} {base n' M : Nat} {a : Ad2} {n : Cn} {p : Pl} {P : Sv3} {fy : Nat} {c : Cl} (h : DcAt w base a n p P fy c M) (hn : c.ck.length = n') (h0 : 0 < n') : ∃ b off cp, a.ck = .slice (some ⟨b, off, none⟩) n' cp ∧ IsL w (some ⟨b, off, none⟩) c.ck := by
 have hq : QAt w base 3 a.ck (c.ck.map (Value.int .i64)) := h.fam.at_ .nums
 obtain ⟨ao, cp, e, -⟩ := hq.shape
 rw [List.length_map, hn] at e
 rw [e] at hq
 obtain ⟨b, off, rfl, -, hlt, hc⟩ := hq.block h0
 refine ⟨b, off, cp, e, fun j hj => ⟨b, off, rfl, ?_⟩⟩
 rw [hc j (by omega)]
 simp [hj]
/-- What NewCluster keeps in memory. -/
structure NcAt (w wr : World) (R8 : Nat) (G : Array Value) (e pl : Int) : Prop where
 x : Blk wr w.heap.size 26 G
 r : Blk wr (w.heap.size + 1) 62 #[.int .i64 0, .int .i64 0]
 f : Blk wr R8 62 #[.int .i64 e, .int .i64 pl]
 ne : w.heap.size + 1 < R8
 old : Below w.heap.size w wr
theorem NcAt.below {w wr w2 : World} {R8 : Nat} {G : Array Value} {e pl : Int} (h : NcAt w wr R8 G e pl) (hB : Below wr.heap.size wr w2) : NcAt w w2 R8 G e pl := ⟨h.x.below hB h.x.lt, h.r.below hB h.r.lt, h.f.below hB h.f.lt, h.ne, h.old.trans (hB.mono h.old.size)⟩
section
variable (p : Pl) (A : Option Addr) (c : Nat) (AL : Option Addr) (cl : Nat) (AQ : Option Addr) (cq : Nat) (f0 : Int) (B : Option Addr) (ln cz : Nat)
set_option maxRecDepth 100000 in
set_option maxHeartbeats 8000000 in
theorem rnc_chk (w : World) (hchk : chk p ≠ (0, -1)) (s2 : SlotsAt w A p.sl.length p.sl) (l2 : LinksAt w AL p.lk.length p.lk) (q2 : WinsAt w AQ p.wn.length p.wn) (hF : FinT w) :
 Calls Tryz.prog 17 #[.agg (planC p.nd p.fa p.sk p.ji p.dr p.rd (.slice A p.sl.length c) (.slice AL p.lk.length cl) p.fr (.slice AQ p.wn.length cq)), .int .i64 f0, .slice B ln cz] w fun e w' =>
  e = .returned (.tuple #[.pointer none, .agg #[.int .i64 (chk p).1, .int .i64 (chk p).2]]) ∧ Below w.heap.size w w' := by
 obtain ⟨w1, hw1⟩ : ∃ w1, (w.alloc (.cells (planC p.nd p.fa p.sk p.ji p.dr p.rd (.slice A p.sl.length c) (.slice AL p.lk.length cl) p.fr (.slice AQ p.wn.length cq)) 26)).alloc (.cells #[.int .i64 0, .int .i64 0] 62) = w1 := ⟨_, rfl⟩
 have hB0 : Below w.heap.size w (w.alloc (.cells (planC p.nd p.fa p.sk p.ji p.dr p.rd (.slice A p.sl.length c) (.slice AL p.lk.length cl) p.fr (.slice AQ p.wn.length cq)) 26)) := (Below.refl w.heap.size w).alloc (Nat.le_refl _) _
 have hB1 : Below w.heap.size w w1 := by rw [← hw1]; exact hB0.alloc hB0.size _
 have hX : Blk w1 w.heap.size 26 (planC p.nd p.fa p.sk p.ji p.dr p.rd (.slice A p.sl.length c) (.slice AL p.lk.length cl) p.fr (.slice AQ p.wn.length cq)) := by rw [← hw1]; exact (Blk.new w _ _).alloc _
 have hR : Blk w1 (w.heap.size + 1) 62 #[.int .i64 0, .int .i64 0] := by
  have := Blk.new (w.alloc (.cells (planC p.nd p.fa p.sk p.ji p.dr p.rd (.slice A p.sl.length c) (.slice AL p.lk.length cl) p.fr (.slice AQ p.wn.length cq)) 26)) 62 #[.int .i64 0, .int .i64 0]
  rw [hw1] at this
  simpa using this
 have HCK := hide (rck_any p A p.sl.length c AL p.lk.length cl AQ p.wn.length cq w1 rfl rfl rfl (hS0 s2 (Nat.le_refl _) hB1) (hL0 l2 (Nat.le_refl _) hB1) (q2.below hB1) (fin_below hF hB1))
 have HX := hide hX; have HB1 := hide hB1; have HW1 := hide hw1; have HR := hide hR
 obtain ⟨x0, x1, x2, x3, x4, x5, x6, x7, x8, x9⟩ := plan_cells hX
 have HNE : Hid ((chk p).1 ≠ 0) := hide (fun h => hchk (Prod.ext h (chk_nil h)))
 obtain ⟨ck, hck⟩ : ∃ ck, chk p = ck := ⟨_, rfl⟩
 rw [hck] at HCK HNE ⊢
 obtain ⟨c1, c2⟩ := ck
 clear hX hB1 hw1 s2 l2 q2 hchk hck hF hB0 hR
 go_enter Tryz.func17, Tryz.ntmps17
 go_wp2_with fail
 rw [HW1.out]
 refine HCK.out.mono ?_
 rintro e w2 ⟨rfl, hB2⟩
 have HX2 := hide (HX.out.below hB2 HX.out.lt)
 have HR2 := hide (HR.out.below hB2 HR.out.lt)
 have HB2 := hide (HB1.out.trans (hB2.mono HB1.out.size))
 have d1 : (c1 == 0) = false := beq_eq_false_iff_ne.2 HNE.out
 have d2 : decide (c1 = 0) = false := decide_eq_false HNE.out
 clear hB2 x0 x1 x2 x3 x4 x5 x6 x7 x8 x9
 obtain ⟨r0, r1, r2, r3⟩ := HR2.out.cells2
 have hrl := HR2.out.lt
 go_wp2_with fail
 go_region
 all_goals
  go_wp2_with fail
  exact bodyPost_ret (rnc_results _ _ (w.heap.size + 1) (.int .i64 c1) (.int .i64 c2) _ rfl rfl ((((HR2.out.set_ 0 (.int .i64 c1)).set_ 1 (.int .i64 c2)).alloc _).drew)) rfl ⟨rfl, below_drewN (((HB2.out.setCell (p := ⟨w.heap.size + 1, 0, none⟩) (Nat.le_succ _) _).setCell (p := ⟨w.heap.size + 1, 1, none⟩) (Nat.le_succ _) _).alloc (by simpa [World.setCell] using HB2.out.size) _) 1⟩
set_option maxRecDepth 100000 in
set_option maxHeartbeats 8000000 in
theorem rnc_any (w : World) (hchk : chk p = (0, -1)) (s2 : SlotsAt w A p.sl.length p.sl) (l2 : LinksAt w AL p.lk.length p.lk) (q2 : WinsAt w AQ p.wn.length p.wn) (hF : FinT w) (zs : List Int) (hln : zs.length = ln) (hI : IsL w B zs) (hle : ln ≤ cz) (h30 : ln ≤ 30) (e : Int) (he : NewIs p f0 zs e) :
 Calls Tryz.prog 17 #[.agg (planC p.nd p.fa p.sk p.ji p.dr p.rd (.slice A p.sl.length c) (.slice AL p.lk.length cl) p.fr (.slice AQ p.wn.length cq)), .int .i64 f0, .slice B ln cz] w fun r w' => (e ≠ 0 ∧ r = .returned (.tuple #[.pointer none, .agg #[.int .i64 e, .int .i64 (-1)]]) ∧ Below w.heap.size w w') ∨ (e = 0 ∧ ∃ (fy : Nat) (a : Ad2), f0 = (fy : Int) ∧ r = .returned (.tuple #[.pointer (some ⟨a.g, 0, none⟩), .agg #[.int .i64 0, .int .i64 (-1)]]) ∧ Below w.heap.size w w' ∧ DcAt w' w.heap.size a (fullN p) p ⟨.slice A p.sl.length c, .slice AL p.lk.length cl, .slice AQ p.wn.length cq⟩ fy (startF p zs) 0) := by
 have hp := PlOk.of hchk
 have hn16 := hp.n16
 have hn1 := hp.n1
 obtain ⟨w1, hw1⟩ : ∃ w1, (w.alloc (.cells (planC p.nd p.fa p.sk p.ji p.dr p.rd (.slice A p.sl.length c) (.slice AL p.lk.length cl) p.fr (.slice AQ p.wn.length cq)) 26)).alloc (.cells #[.int .i64 0, .int .i64 0] 62) = w1 := ⟨_, rfl⟩
 have hB0 : Below w.heap.size w (w.alloc (.cells (planC p.nd p.fa p.sk p.ji p.dr p.rd (.slice A p.sl.length c) (.slice AL p.lk.length cl) p.fr (.slice AQ p.wn.length cq)) 26)) := (Below.refl w.heap.size w).alloc (Nat.le_refl _) _
 have hB1 : Below w.heap.size w w1 := by rw [← hw1]; exact hB0.alloc hB0.size _
 have hX : Blk w1 w.heap.size 26 (planC p.nd p.fa p.sk p.ji p.dr p.rd (.slice A p.sl.length c) (.slice AL p.lk.length cl) p.fr (.slice AQ p.wn.length cq)) := by rw [← hw1]; exact (Blk.new w _ _).alloc _
 have hR : Blk w1 (w.heap.size + 1) 62 #[.int .i64 0, .int .i64 0] := by
  have := Blk.new (w.alloc (.cells (planC p.nd p.fa p.sk p.ji p.dr p.rd (.slice A p.sl.length c) (.slice AL p.lk.length cl) p.fr (.slice AQ p.wn.length cq)) 26)) 62 #[.int .i64 0, .int .i64 0]
  rw [hw1] at this
  simpa using this
 have HCK := hide (rck_any p A p.sl.length c AL p.lk.length cl AQ p.wn.length cq w1 rfl rfl rfl (hS0 s2 (Nat.le_refl _) hB1) (hL0 l2 (Nat.le_refl _) hB1) (q2.below hB1) (fin_below hF hB1))
 rw [hchk] at HCK
 obtain ⟨nd, hnd⟩ : ∃ nd, p.nd.toNat = nd := ⟨_, rfl⟩
 have hpn : p.nd = (nd : Int) := by omega
 have hnd1 : 0 < nd := by omega
 have hnd16 : nd ≤ 16 := by omega
 have HX := hide hX; have HB1 := hide hB1; have HW1 := hide hw1; have HR := hide hR
 have HP := hide hp; have HI := hide hI; have HLN := hide hln; have HPN := hide hpn; have HND := hide hnd; have HE := hide he; have HLE := hide hle; have H30 := hide h30; have HL2 := hide l2; have HF := hide hF
 clear hX hB1 hw1 s2 l2 q2 hchk hF hB0 hR hp hI hln hpn hnd hn16 hn1 he hle h30
 go_enter Tryz.func17, Tryz.ntmps17
 obtain ⟨x0, x1, x2, x3, x4, x5, x6, x7, x8, x9⟩ := plan_cells HX.out
 go_wp2_with fail
 rw [HW1.out]
 refine HCK.out.mono ?_
 rintro r w2 ⟨rfl, hB2⟩
 have HX2 := hide (HX.out.below hB2 HX.out.lt)
 have HR2 := hide (HR.out.below hB2 HR.out.lt)
 have HB2 := hide (HB1.out.trans (hB2.mono HB1.out.size))
 clear hB2 x0 x1 x2 x3 x4 x5 x6 x7 x8 x9
 obtain ⟨w3, hw3⟩ : ∃ w3, w2.alloc (.cells #[.int .i64 0, .int .i64 (-1)] 62) = w3 := ⟨_, rfl⟩
 obtain ⟨R8, hR8⟩ : ∃ R8, w2.heap.size = R8 := ⟨_, rfl⟩
 have HNC : Hid (NcAt w w3 R8 (planC p.nd p.fa p.sk p.ji p.dr p.rd (.slice A p.sl.length c) (.slice AL p.lk.length cl) p.fr (.slice AQ p.wn.length cq)) 0 (-1)) := hide (by
  rw [← hw3, ← hR8]
  exact ⟨HX2.out.alloc _, HR2.out.alloc _, Blk.new w2 _ _, HR2.out.lt, HB2.out.alloc HB2.out.size _⟩)
 have HW3 := hide hw3; have HR8 := hide hR8
 have hr8l : R8 < w3.heap.size := HNC.out.f.lt
 clear hw3 hR8
 obtain ⟨p0, p1, p2, p3, p4, p5, p6, p7, p8, p9⟩ := plan_cells HNC.out.x
 rw [HPN.out] at p0
 go_upto_region 4 with fail
 rw [HW3.out, HR8.out]
 obtain ⟨N2, hN2⟩ : ∃ N2 : Nat, 2 ^ nd = N2 := ⟨_, rfl⟩
 have hN2b : N2 ≤ 65536 := by
  rw [← hN2]
  have : (2 : Nat) ^ nd ≤ 2 ^ 16 := Nat.pow_le_pow_right (by omega) hnd16
  omega
 have hN2p : 1 ≤ N2 := by rw [← hN2]; exact Nat.two_pow_pos nd
 have hsh : wrap64 ((2 : Int) ^ nd) = (N2 : Int) := by rw [pow_small nd (by omega), hN2]
 obtain ⟨vb, hvb⟩ : ∃ vb, inB f0 0 ((N2 : Int) - 1) = vb := ⟨_, rfl⟩
 have HIN := hide (fun W => in_q f0 0 ((N2 : Int) - 1) vb hvb W)
 have HN2 := hide hN2; have HVB := hide hvb
 clear hN2 hvb
 cases vb
 ·have e1 : e = 1 := by
   rcases HE.out with ⟨_, h⟩ | ⟨⟨fy, rfl, h, _⟩, _⟩ | ⟨⟨fy, rfl, h, _⟩, _⟩ | ⟨⟨fy, rfl, h, _⟩, _⟩
   ·exact h
   all_goals (
    exfalso
    have h1 := HVB.out
    rw [HND.out, HN2.out] at h
    unfold inB at h1
    simp at h1
    omega)
  subst e1
  go_wp2_with fail
  refine (HIN.out _).mono ?_
  rintro r9 w9 ⟨rfl, rfl⟩
  have HBR := hide (bareF 1 w9)
  go_wp2_with fail
  refine (HBR.out).mono ?_
  rintro r9 w9 ⟨rfl, hB9⟩
  have HN9 := hide (HNC.out.below hB9)
  obtain ⟨r0, r1, r2, r3⟩ := HN9.out.r.cells2
  go_wp2_with fail
  exact bodyPost_ret (rnc_results _ _ (w.heap.size + 1) (.int .i64 1) (.int .i64 (-1)) _ rfl rfl ((HN9.out.r.set_ 0 (.int .i64 1)).set_ 1 (.int .i64 (-1)))) rfl (.inl ⟨by decide, rfl, (HN9.out.old.setCell (p := ⟨w.heap.size + 1, 0, none⟩) (Nat.le_succ _) _).setCell (p := ⟨w.heap.size + 1, 1, none⟩) (Nat.le_succ _) _⟩)
 ·obtain ⟨fy, rfl, hfl⟩ : ∃ fy : Nat, f0 = (fy : Int) ∧ fy < N2 := by
   have h1 := HVB.out
   unfold inB at h1
   simp at h1
   obtain ⟨fy, rfl⟩ := Int.eq_ofNat_of_zero_le h1.1
   exact ⟨fy, rfl, by omega⟩
  have hf16 : fy < 65536 := by omega
  go_wp2_with fail
  refine (HIN.out _).mono ?_
  rintro r9 w9 ⟨rfl, rfl⟩
  go_upto_region 6 with fail
  have hmm := @run_makeMap Tryz.prog
  obtain ⟨i0, hi, hz0, hz1, hz2⟩ := en_info_parts ar_info
  have HIE : Hid (∀ W, Below w9.heap.size w9 W → IsL W B zs) := hide (fun W hB => HI.out.below (Nat.le_refl _) (HNC.out.old.trans (hB.mono HNC.out.old.size)))
  have HGX : Hid (∀ (Wb w8 : World) (sb : Nat) (v : Value), Below w9.heap.size w9 Wb → Wb.grownBy w8 (some sb) → w9.heap.size ≤ sb → (v.ownBlock = some sb ∨ ∀ k, v.ownBlock = some k → Wb.heap.size ≤ k) → NcAt w w8 R8 (planC p.nd p.fa p.sk p.ji p.dr p.rd (.slice A p.sl.length c) (.slice AL p.lk.length cl) p.fr (.slice AQ p.wn.length cq)) 0 (-1) ∧ Below w9.heap.size w9 w8 ∧ Wb.grownBy w8 (some sb) ∧ (v.ownBlock = some sb ∨ ∀ k, v.ownBlock = some k → Wb.heap.size ≤ k)) := hide (fun Wb w8 sb v hB hg hs ha => by
   have h2 : Below w9.heap.size w9 w8 := hB.grown hg hB.size (fun k e => by cases e; exact hs)
   exact ⟨HNC.out.below h2, h2, hg, ha⟩)
  have HPC : Hid (∀ w', Below w9.heap.size w9 w' → w'.cell? ⟨w.heap.size, 0, none⟩ = some (.int .i64 p.nd) ∧ w'.cell? ⟨w.heap.size, 1, none⟩ = some (.int .i64 p.fa) ∧ w'.cell? ⟨w.heap.size, 2, none⟩ = some (.int .i64 p.sk) ∧ w'.cell? ⟨w.heap.size, 3, none⟩ = some (.int .i64 p.ji) ∧ w'.cell? ⟨w.heap.size, 4, none⟩ = some (.int .i64 p.dr) ∧ w'.cell? ⟨w.heap.size, 5, none⟩ = some (.int .i64 p.rd) ∧ w'.cell? ⟨w.heap.size, 6, none⟩ = some (.slice A p.sl.length c) ∧ w'.cell? ⟨w.heap.size, 7, none⟩ = some (.slice AL p.lk.length cl) ∧ w'.cell? ⟨w.heap.size, 8, none⟩ = some (.int .i64 p.fr) ∧ w'.cell? ⟨w.heap.size, 9, none⟩ = some (.slice AQ p.wn.length cq)) := hide (fun W hB => by
   exact plan_cells (HNC.out.below hB).x)
  have B1 := hide (fun a => (Below.refl w9.heap.size w9).alloc (Nat.le_refl _) a)
  have B2 := hide (fun a b => (B1.out a).alloc (B1.out a).size b)
  have B3 := hide (fun a b c => (B2.out a b).alloc (B2.out a b).size c)
  have K1 : Hid ((w9.alloc (.cells #[] 3)).ownsRow w9.heap.size 3 1 (.slice (some ⟨w9.heap.size, 0, none⟩) 0 0) 0 []) := hide (own_empty (Blk.new w9 _ _) (Nat.le_refl _))
  have K2 : Hid (∀ o, ((w9.alloc (.cells #[] 3)).alloc o).ownsRow w9.heap.size 3 1 (.slice (some ⟨w9.heap.size, 0, none⟩) 0 0) 0 []) := hide (fun o => own_empty ((Blk.new w9 _ _).alloc o) (Nat.le_refl _))
  have K3 : Hid (∀ o o', (((w9.alloc (.cells #[] 3)).alloc o).alloc o').ownsRow w9.heap.size 3 1 (.slice (some ⟨w9.heap.size, 0, none⟩) 0 0) 0 []) := hide (fun o o' => own_empty (((Blk.new w9 _ _).alloc o).alloc o') (Nat.le_refl _))
  have K4 : Hid (∀ o, ((w9.alloc o).alloc (.cells #[] 3)).ownsRow w9.heap.size 3 1 (.slice (some ⟨w9.heap.size + 1, 0, none⟩) 0 0) 0 []) := hide (fun o => own_empty (blk_at (by simp)) (Nat.le_succ _))
  have K5 : Hid (∀ o o', (((w9.alloc o).alloc (.cells #[] 3)).alloc o').ownsRow w9.heap.size 3 1 (.slice (some ⟨w9.heap.size + 1, 0, none⟩) 0 0) 0 []) := hide (fun o o' => own_empty ((blk_at (by simp)).alloc o') (Nat.le_succ _))
  have K6 : Hid (∀ o o', (((w9.alloc o).alloc o').alloc (.cells #[] 3)).ownsRow w9.heap.size 3 1 (.slice (some ⟨w9.heap.size + 1 + 1, 0, none⟩) 0 0) 0 []) := hide (fun o o' => own_empty (blk_at (by simp)) (Nat.le_add_right _ 2))
  clear p0 p1 p2 p3 p4 p5 p6 p7 p8 p9
  have HLM : Hid (0 + ln ≤ maxLen ∧ (0 + ln) * 8 ≤ 140737488355328) := hide ⟨by have := H30.out; simp [maxLen]; omega, by have := H30.out; omega⟩
  go_cut [9] from 9 to 41 (fun v wx => ∃ a : Ad2, v = .pointer (some ⟨a.g, 0, none⟩) ∧ Hid (DcAt wx w9.heap.size a n00 p ⟨.slice A p.sl.length c, .slice AL p.lk.length cl, .slice AQ p.wn.length cq⟩ fy (startF p zs) 0) ∧ Hid (Below w9.heap.size w9 wx))
  case first =>
   go_region_held3 (fun w' => w'.cell? ⟨w.heap.size, 0, none⟩ = some (.int .i64 p.nd) ∧ w'.cell? ⟨w.heap.size, 1, none⟩ = some (.int .i64 p.fa) ∧ w'.cell? ⟨w.heap.size, 2, none⟩ = some (.int .i64 p.sk) ∧ w'.cell? ⟨w.heap.size, 3, none⟩ = some (.int .i64 p.ji) ∧ w'.cell? ⟨w.heap.size, 4, none⟩ = some (.int .i64 p.dr) ∧ w'.cell? ⟨w.heap.size, 5, none⟩ = some (.int .i64 p.rd) ∧ w'.cell? ⟨w.heap.size, 6, none⟩ = some (.slice A p.sl.length c) ∧ w'.cell? ⟨w.heap.size, 7, none⟩ = some (.slice AL p.lk.length cl) ∧ w'.cell? ⟨w.heap.size, 8, none⟩ = some (.int .i64 p.fr) ∧ w'.cell? ⟨w.heap.size, 9, none⟩ = some (.slice AQ p.wn.length cq)) (first | exact HPC.out _ (below_drewN (Below.refl _ _) 1) | exact HPC.out _ (below_drewN (B1.out _) 1) | exact HPC.out _ (below_drewN (B2.out _ _) 1) | exact HPC.out _ (below_drewN (B3.out _ _ _) 1) | exact HPC.out _ (Below.refl _ _) | exact HPC.out _ (B1.out _) | exact HPC.out _ (B2.out _ _) | exact HPC.out _ (B3.out _ _ _) | exact HPC.out _ C0.out | exact HPC.out _ (C1.out _) | exact HPC.out _ (C2.out _ _)  | exact HPC.out _ (C3.out _ _ _) | fail)
    (first
    | (refine step_append_ints _ (by rfl) (.tmp 35) (.tmp 36) _ (by rfl) w9.heap.size 3 i0 _ 8 Tryz.underlying27 hi hz0 hz1 hz2 rfl _ 0 [] (by rfl) (by first | exact K1.out | exact K2.out _ | exact K3.out _ _ | exact K4.out _ | exact K5.out _ _ | exact K6.out _ _) B cz ln zs HLN.out (by rfl) HLE.out (by first | exact HIE.out _ (B1.out _) | exact HIE.out _ (below_drewN (B1.out _) 1) | exact HIE.out _ (B2.out _ _) | exact HIE.out _ (below_drewN (B2.out _ _) 1) | exact HIE.out _ (B3.out _ _ _) | exact HIE.out _ (below_drewN (B3.out _ _ _) 1)) HLM.out.1 HLM.out.2 (by first | exact (B1.out _).size | exact (B2.out _ _).size | exact (B3.out _ _ _).size) ?_; intro v8 w8 hown hg hat; simp only [Nat.zero_add, List.nil_append] at hown; obtain ⟨sb, sc, rfl⟩ := own_sl hown; have HN8 := hide (by first | exact HGX.out _ _ _ _ (B1.out _) (un_drew hg) (Nat.le_refl _) hat | exact HGX.out _ _ _ _ (B1.out _) hg (Nat.le_refl _) hat | exact HGX.out _ _ _ _ (B1.out _) (un_drew hg) (Nat.le_succ _) hat | exact HGX.out _ _ _ _ (B1.out _) hg (Nat.le_succ _) hat | exact HGX.out _ _ _ _ (B1.out _) (un_drew hg) (Nat.le_add_right _ 2) hat | exact HGX.out _ _ _ _ (B1.out _) hg (Nat.le_add_right _ 2) hat | exact HGX.out _ _ _ _ (B2.out _ _) (un_drew hg) (Nat.le_refl _) hat | exact HGX.out _ _ _ _ (B2.out _ _) hg (Nat.le_refl _) hat | exact HGX.out _ _ _ _ (B2.out _ _) (un_drew hg) (Nat.le_succ _) hat | exact HGX.out _ _ _ _ (B2.out _ _) hg (Nat.le_succ _) hat | exact HGX.out _ _ _ _ (B2.out _ _) (un_drew hg) (Nat.le_add_right _ 2) hat | exact HGX.out _ _ _ _ (B2.out _ _) hg (Nat.le_add_right _ 2) hat | exact HGX.out _ _ _ _ (B3.out _ _ _) (un_drew hg) (Nat.le_refl _) hat | exact HGX.out _ _ _ _ (B3.out _ _ _) hg (Nat.le_refl _) hat | exact HGX.out _ _ _ _ (B3.out _ _ _) (un_drew hg) (Nat.le_succ _) hat | exact HGX.out _ _ _ _ (B3.out _ _ _) hg (Nat.le_succ _) hat | exact HGX.out _ _ _ _ (B3.out _ _ _) (un_drew hg) (Nat.le_add_right _ 2) hat | exact HGX.out _ _ _ _ (B3.out _ _ _) hg (Nat.le_add_right _ 2) hat); have C0 := hide HN8.out.2.1; have C1 := hide (fun a => C0.out.alloc C0.out.size a); have C2 := hide (fun a b => (C1.out a).alloc (C1.out a).size b); have C3 := hide (fun a b c => (C2.out a b).alloc (C2.out a b).size c); have HO8 := hide hown; have HG8 := hide HN8.out.2.2.1; have HAT := hide HN8.out.2.2.2; clear hown hg hat))
   all_goals
    go_wp2_with fail
    go_meet
    refine ⟨ad20 _ (.slice sb ln sc) _ _, rfl, hide (dc_start2 (p := p) (P := ⟨.slice A p.sl.length c, .slice AL p.lk.length cl, .slice AQ p.wn.length cq⟩) (fy := fy) (zs := zs) ?q0 ?q1 ?q2 ?q3 ?q4 ?q5 ?q6 ?q7 ?q8 ?q9 ?q10), hide ?q11⟩
    case q0 => first | rfl | (simp; done)
    case q1 => repeat (first | exact QAt.of_own HO8.out (Nat.le_refl _) | refine QAt.alloc ?_ _)
    case q2 => intro k e; have h1 := HO8.out.lt k e; exact ⟨h1.1, by have h2 := h1.2; simp; omega⟩
    case q3 => repeat (first | (with_reducible refine map_at ?_; first | rfl | (simp; done)) | with_reducible refine MapP.alloc ?_ _ | with_reducible refine MapP.drew ?_ | refine MapP.grown (w' := w8) ?_ HG8.out (by intro h; have := Option.some.inj h; omega))
    case q4 => repeat (first | (with_reducible refine map_at ?_; first | rfl | (simp; done)) | with_reducible refine MapP.alloc ?_ _ | with_reducible refine MapP.drew ?_ | refine MapP.grown (w' := w8) ?_ HG8.out (by intro h; have := Option.some.inj h; omega))
    case q5 => first | exact Nat.le_refl _ | exact Nat.le_succ _ | exact Nat.le_add_right _ 2 | exact C0.out.size | exact (C1.out _).size | (have := C0.out.size; simp; omega)
    case q6 => first | exact Nat.le_refl _ | exact Nat.le_succ _ | exact Nat.le_add_right _ 2 | exact C0.out.size | exact (C1.out _).size | (have := C0.out.size; simp; omega)
    case q7 => (have h1 := C0.out.size; have h2 := HG8.out.size; simp at h2 ⊢; first | omega | done)
    case q8 =>
     intro e
     have h1 := HO8.out.lt _ e
     have h2 := HG8.out.size
     first
      | (simp at h1 h2; done)
      | (simp at h1 h2; omega)
      | (rcases HAT.out with h | h
         ·rw [h] at e
          first
           | (simp [Value.ownBlock] at e; done)
           | (simp [Value.ownBlock] at e; omega)
         ·have h3 := h _ e
          simp at h3
          omega)
    case q9 =>
     intro e
     have h1 := HO8.out.lt _ e
     have h2 := HG8.out.size
     first
      | (simp at h1 h2; done)
      | (simp at h1 h2; omega)
      | (rcases HAT.out with h | h
         ·rw [h] at e
          first
           | (simp [Value.ownBlock] at e; done)
           | (simp [Value.ownBlock] at e; omega)
         ·have h3 := h _ e
          simp at h3
          omega)
    case q10 => first | exact Nat.le_refl _ | exact Nat.le_succ _ | exact Nat.le_add_right _ 2 | exact C0.out.size | exact (C1.out _).size | (have := C0.out.size; simp; omega)
    case q11 => first | exact C1.out _ | exact C2.out _ _ | exact C3.out _ _ _
  case rest =>
   obtain ⟨a, rfl, HA4, HB4⟩ := hcut
   clear K1 K2 K3 K4 K5 K6 B1 B2 B3 HGX HPC HIE HLM hmm HIN HVB hsh
   obtain ⟨G, hG⟩ : ∃ G, a.g = G := ⟨_, rfl⟩
   have HG := hide hG
   rw [hG]
   clear hG
   have HN4 := hide (HNC.out.below HB4.out)
   obtain ⟨p0, p1, p2, p3, p4, p5, p6, p7, p8, p9⟩ := plan_cells HN4.out.x
   rw [HPN.out] at p0
   obtain ⟨iM, hiM, hzM, hzM1, hzM2⟩ := en_info_parts ptr_infoR
   go_wp2_with fail
   clear p0 p1 p2 p3 p4 p5 p6 p7 p8 p9
   go_loopw [10, 44] (fun v10 v44 wr => ∃ (k : Nat) (a' : Ad2), k ≤ nd ∧ v44 = .int .i64 k ∧ v10 = .int .i64 (liars fy k : Nat) ∧ Hid (a'.g = G) ∧ Hid (DcAt wr w9.heap.size a' ⟨k, 0, 0, fun _ => 0⟩ p ⟨.slice A p.sl.length c, .slice AL p.lk.length cl, .slice AQ p.wn.length cq⟩ fy (startF p zs) 0) ∧ Hid (Below w9.heap.size w9 wr)) (fun _ v _ => nd - (intOf v).toNat)
   case atStart => exact ⟨0, a, by omega, rfl, rfl, HG, HA4, HB4⟩
   case round =>
    clear HG HA4 HN4
    obtain ⟨k, a', hk, rfl, rfl, HG, HAr, HBr⟩ := hrel
    have HNr := hide (HNC.out.below HBr.out)
    have hbr : w9.heap.size ≤ wr.heap.size := HBr.out.size
    have hlk := liars_le fy k
    by_cases hlt : k < nd
    ·have hls := liars_succ fy k
     have HLIE : Hid (Calls Tryz.prog 45 #[.pointer (some ⟨G, 0, none⟩), .int .i64 k] wr fun e w' => e = .returned (.bool (liesB fy k)) ∧ ∃ q, w' = wr.drewN q) := hide (by
      have h1 := HAr.out.cluB
      rw [HG.out] at h1
      exact rlies_any h1 hf16 k (by omega))
     obtain ⟨lb, hlb⟩ : ∃ lb, liesB fy k = lb := ⟨_, rfl⟩
     rw [hlb] at HLIE hls
     clear hlb
     go_wp2_with fail
     refine HLIE.out.mono ?_
     rintro e5 w5 ⟨rfl, q5, hw5⟩
     have HB5 : Hid (Below wr.heap.size wr w5) := hide (by rw [hw5]; exact below_drewN (Below.refl _ _) q5)
     clear hw5
     go_upto_if 49 with fail
     go_cut [10] from 50 to 51 (fun v10 wx => v10 = .int .i64 (liars fy (k + 1) : Nat) ∧ wx = w5)
     case first =>
      cases lb
      ·rw [if_neg (by decide)] at hls
       go_wp2_with fail
       go_meet
       case rel => exact ⟨by rw [hls]; rfl, rfl⟩
      ·rw [if_pos rfl] at hls
       go_wp2_with fail
       go_meet
       case rel => exact ⟨by rw [hls]; go_num, rfl⟩
     case rest =>
      obtain ⟨rfl, hw⟩ := hcut
      obtain rfl := hw.symm
      clear hls HLIE
      have HNM := hide (fun W => rnew_ok k nd W hlt hnd16)
      have HN5 := hide (HNr.out.below HB5.out)
      obtain ⟨p0, p1, p2, p3, p4, p5, p6, p7, p8, p9⟩ := plan_cells HN5.out.x
      rw [HPN.out] at p0
      obtain ⟨vm, hvm⟩ : ∃ vm, a'.nd = vm := ⟨_, rfl⟩
      have HVM := hide hvm
      have hQ0 : QAt wr w9.heap.size 92 vm ((List.range k).map fun i => ptrV (a'.gm i)) := by rw [← hvm]; exact HAr.out.fam.at_ .nodA
      have HQ0 := hide hQ0
      have HLQ : Hid (((List.range k).map fun i => ptrV (a'.gm i)).length + 1 ≤ maxLen ∧ (((List.range k).map fun i => ptrV (a'.gm i)).length + 1) * 8 ≤ 140737488355328) := hide (by simp [maxLen]; omega)
      clear hvm hQ0
      go_wp2_with fail
      refine (HNM.out _).mono ?_
      rintro e6 w6 ⟨gx, gt, rfl, hgx, hgt, hne, hb1, hb2, hB6⟩
      clear p0 p1 p2 p3 p4 p5 p6 p7 p8 p9
      have HB6 := hide (HB5.out.trans (hB6.mono HB5.out.size))
      have HGX := hide (Nat.le_trans HB5.out.size hgx); have HGT := hide (Nat.le_trans HB5.out.size hgt)
      have HNE := hide hne; have HBX := hide hb1; have HBT := hide hb2
      have hcb6 := (HAr.out.below HB6.out).cluB
      rw [HG.out] at hcb6
      have k12 := hcb6.cell 12
      simp [rclC] at k12
      rw [HVM.out] at k12
      have hGl6 := hcb6.lt
      have HB2W := hide ((Below.refl w6.heap.size w6).alloc (Nat.le_refl _) (.cells #[.pointer (some ⟨gx, 0, none⟩)] 92))
      have HQ2 := hide ((HQ0.out.below HB6.out (Nat.le_refl _)).alloc (.cells #[.pointer (some ⟨gx, 0, none⟩)] 92))
      have HSZW : Hid (w9.heap.size ≤ (w6.alloc (.cells #[.pointer (some ⟨gx, 0, none⟩)] 92)).heap.size) := hide (by have h1 := HBr.out.size; have h2 := HB6.out.size; simp; omega)
      clear hB6 hgx hgt hne hb1 hb2 hcb6
      go_wp2_with (at_builtin; go_must (refine wpList_append_q _ rfl (.tmp 63) (.tmp 65) _ rfl w9.heap.size 92 iM _ 8 Tryz.underlying78 hiM hzM hzM1 hzM2 rfl vm ((List.range k).map fun i => ptrV (a'.gm i)) rfl (by exact HQ2.out) w6.heap.size 0 1 (.pointer (some ⟨gx, 0, none⟩)) rfl (by exact (Blk.new w6 92 #[.pointer (some ⟨gx, 0, none⟩)]).cells1.1) rfl HLQ.out.1 HLQ.out.2 (by exact HSZW.out) ?_); intro g1 o1 cap1 w3' hQ3 hgr ho hb1 hlt1; simp only [List.length_map, List.length_range] at hQ3; have hcb := HAr.out.addNodC (HB6.out.trans (HB2W.out.mono HB6.out.size)) (by rw [HVM.out]; exact hgr); rw [HG.out] at hcb; have hc12 := hcb.cell 12; have hf12 := hcb.frozen 12; simp [rclC] at hc12; have HQ3 := hide hQ3; have HGR := hide hgr; have HO := hide ho; have HL1 := hide hlt1; clear hQ3 hgr ho hb1 hlt1 hcb)
      have HCN := hide (HAr.out.addNod HBr.out.size (x := ⟨2 ^ p.nd.toNat - 1, 1, 0, false⟩) rfl HB6.out (by rw [HND.out]; exact HBX.out) (by show Blk w6 gt 4 (tkB p.nd.toNat ((2 ^ p.nd.toNat - 1).testBit ·)); rw [HND.out]; exact HBT.out) HNE.out HGX.out HGT.out HB2W.out HQ3.out (by rw [HVM.out]; exact HGR.out) (by rw [HVM.out]; exact HO.out) HL1.out)
      rw [HG.out] at HCN
      have HBN := hide (HCN.out.2.old HAr.out.fam HBr.out HBr.out.size)
      clear hc12 hf12 k12 hGl6
      go_roundw
      case rel => exact ⟨k + 1, { a' with g := G, nd := .slice (some ⟨g1, o1, none⟩) (k + 1) cap1, gm := updF a'.gm k gx, gt := updF a'.gt k gt }, by omega, by go_num, rfl, hide rfl, hide HCN.out.1, HBN⟩
      case measure => simp [intOf]; omega
    ·obtain rfl : nd = k := by omega
     obtain ⟨p0, p1, p2, p3, p4, p5, p6, p7, p8, p9⟩ := plan_cells HNr.out.x
     rw [HPN.out] at p0
     by_cases hli : p.fa < (liars fy nd : Nat)
     ·have e1 : e = 1 := by
       rcases HE.out with ⟨_, h⟩ | ⟨⟨fy', h1, _, h⟩, _⟩ | ⟨⟨fy', h1, _, h⟩, _⟩ | ⟨⟨fy', h1, _, h⟩, _⟩
       ·exact h
       all_goals (
        exfalso
        obtain rfl : fy = fy' := by omega
        rw [HND.out] at h
        omega)
      subst e1
      have d1 : decide (p.fa < ((liars fy nd : Nat) : Int)) = true := decide_eq_true hli
      have HBR := hide (bareF 1 wr)
      go_wp2_with fail
      refine (HBR.out).mono ?_
      rintro r9 w8 ⟨rfl, hB9⟩
      have HN9 := hide (HNr.out.below hB9)
      obtain ⟨r0, r1, r2, r3⟩ := HN9.out.r.cells2
      go_wp2_with fail
      exact bodyPost_ret (rnc_results _ _ (w.heap.size + 1) (.int .i64 1) (.int .i64 (-1)) _ rfl rfl ((HN9.out.r.set_ 0 (.int .i64 1)).set_ 1 (.int .i64 (-1)))) rfl (.inl ⟨by decide, rfl, (HN9.out.old.setCell (p := ⟨w.heap.size + 1, 0, none⟩) (Nat.le_succ _) _).setCell (p := ⟨w.heap.size + 1, 1, none⟩) (Nat.le_succ _) _⟩)
     ·have d1 : decide (p.fa < ((liars fy nd : Nat) : Int)) = false := decide_eq_false hli
      have HFO : Hid (FyOk p fy) := hide ⟨fy, rfl, by rw [HND.out, HN2.out]; exact hfl, by rw [HND.out]; omega⟩
      by_cases a4 : ln = nd
      case neg =>
       have e1 : e = 7 := by
        rcases HE.out with ⟨h, _⟩ | ⟨_, _, h⟩ | ⟨_, h, _⟩ | ⟨_, h, _⟩
        ·exact absurd HFO.out h
        ·exact h
        all_goals (rw [HLN.out, HND.out] at h; exact absurd h a4)
       subst e1
       have d4 : ((ln : Int) == (nd : Int)) = false := beq_eq_false_iff_ne.2 (fun h => a4 (Int.ofNat_inj.1 h))
       have d5 : decide ((ln : Int) = (nd : Int)) = false := decide_eq_false (fun h => a4 (Int.ofNat_inj.1 h))
       have HBR := hide (bareF 7 wr)
       go_wp2_with fail
       refine (HBR.out).mono ?_
       rintro r9 w8 ⟨rfl, hB9⟩
       have HN9 := hide (HNr.out.below hB9)
       obtain ⟨r0, r1, r2, r3⟩ := HN9.out.r.cells2
       go_wp2_with fail
       exact bodyPost_ret (rnc_results _ _ (w.heap.size + 1) (.int .i64 7) (.int .i64 (-1)) _ rfl rfl ((HN9.out.r.set_ 0 (.int .i64 7)).set_ 1 (.int .i64 (-1)))) rfl (.inl ⟨by decide, rfl, (HN9.out.old.setCell (p := ⟨w.heap.size + 1, 0, none⟩) (Nat.le_succ _) _).setCell (p := ⟨w.heap.size + 1, 1, none⟩) (Nat.le_succ _) _⟩)
      subst a4
      have HNO7 : Hid (e = 0 ∨ (e = 2 ∧ ¬ CkOk p fy zs)) := hide (by
       rcases HE.out with ⟨h, _⟩ | ⟨_, h, _⟩ | ⟨_, _, h1, h⟩ | ⟨_, _, _, h⟩
       ·exact absurd HFO.out h
       ·rw [HLN.out, HND.out] at h; exact absurd rfl h
       ·exact .inr ⟨h, h1⟩
       ·exact .inl h)
      clear hli hk hlt hlk
      go_wp2_with fail
      clear d1 p0 p1 p2 p3 p4 p5 p6 p7 p8 p9
      go_loopw [83] (fun v83 wx => ∃ j : Nat, j ≤ ln ∧ v83 = .int .i64 j ∧ wx = wr ∧ Hid (∀ i, i < j → -274877906944 ≤ zs.getD i 0 ∧ zs.getD i 0 ≤ 274877906944)) (fun v _ => ln - (intOf v).toNat)
      case atStart => exact ⟨0, by omega, rfl, rfl, hide (fun i hi => by omega)⟩
      case round =>
       obtain ⟨j, hj, rfl, rfl, HZ⟩ := hrel
       by_cases hjl : j < ln
       ·obtain ⟨b, o, rfl, cj⟩ := (HI.out.below (Nat.le_refl _) HNr.out.old) j (by rw [HLN.out]; exact hjl)
        obtain ⟨x, hx⟩ : ∃ x, zs.getD j 0 = x := ⟨_, rfl⟩
        rw [hx] at cj
        obtain ⟨vi, hvi⟩ : ∃ vi, inB x (-274877906944) 274877906944 = vi := ⟨_, rfl⟩
        have HIN := hide (fun W => in_q x (-274877906944) 274877906944 vi hvi W)
        have HX7 := hide hx
        cases vi
        ·have HWY : Hid (wildB zs = true) := hide (wild_yes (k := j) (by rw [HLN.out]; exact hjl) (by rw [HX7.out]; unfold inB at hvi; simp at hvi; omega))
         have e1 : e = 2 := by
          rcases HNO7.out with h | ⟨h, _⟩
          ·subst h
           have := HE.out.good.2.2.1
           rw [HWY.out] at this
           cases this
          ·exact h
         subst e1
         clear hvi hx
         go_wp2_with fail
         refine (HIN.out _).mono ?_
         rintro e5 w5 ⟨rfl, rfl⟩
         have HBR := hide (bareF 2 w5)
         go_wp2_with fail
         refine (HBR.out).mono ?_
         rintro r9 w8 ⟨rfl, hB9⟩
         have HN9 := hide (HNr.out.below hB9)
         obtain ⟨r0, r1, r2, r3⟩ := HN9.out.r.cells2
         go_wp2_with fail
         exact bodyPost_ret (rnc_results _ _ (w.heap.size + 1) (.int .i64 2) (.int .i64 (-1)) _ rfl rfl ((HN9.out.r.set_ 0 (.int .i64 2)).set_ 1 (.int .i64 (-1)))) rfl (.inl ⟨by decide, rfl, (HN9.out.old.setCell (p := ⟨w.heap.size + 1, 0, none⟩) (Nat.le_succ _) _).setCell (p := ⟨w.heap.size + 1, 1, none⟩) (Nat.le_succ _) _⟩)
        ·have hx2 : -274877906944 ≤ x ∧ x ≤ 274877906944 := by unfold inB at hvi; simpa using hvi
         have HX2' := hide hx2
         clear hvi hx hx2
         go_wp2_with fail
         refine (HIN.out _).mono ?_
         rintro e5 w5 ⟨rfl, rfl⟩
         go_wp2_with fail
         go_roundw
         case rel => exact ⟨j + 1, by omega, by go_num, trivial, hide (fun i hi => by
          by_cases ei : i = j
          ·subst ei; rw [HX7.out]; exact HX2'.out
          ·exact HZ.out i (by omega))⟩
         case measure => simp [intOf]; omega
       ·obtain rfl : j = ln := by omega
        clear hjl hj
        have HWN : Hid (wildB zs = false) := hide (wild_no (fun i hi => HZ.out i (by rw [← HLN.out]; exact hi)))
        obtain ⟨bk, ok, cpk, hck, hci⟩ := HAr.out.ckI HLN.out hnd1
        have HCK2 := hide hck
        have HSP : Hid (∀ W, Below wr.heap.size wr W → Calls Tryz.prog 24 #[.pointer (some ⟨G, 0, none⟩)] W fun e w' => (∃ R : Int, e = .returned (.int .i64 R) ∧ (R ≤ p.sk ↔ apartLe fy zs j p.sk)) ∧ Below W.heap.size W w' ∧ w'.cell? ⟨w.heap.size, 2, none⟩ = some (.int .i64 p.sk)) := hide (fun W hB => by
         have h1 := (HAr.out.below hB).cluB
         rw [HG.out, HCK2.out] at h1
         have h2 := rspr_any (zs := zs) (by rw [HLN.out]; exact h1) hf16 (hci.below (Nat.le_refl _) hB) (by rw [HLN.out]; exact hnd16) (fun q hq => by have := HZ.out q (by rw [← HLN.out]; exact hq); omega)
         refine h2.mono ?_
         rintro e8 w8 ⟨⟨R, rfl, hR⟩, hb⟩
         rw [HLN.out] at hR
         have hsk := HP.out.sk
         exact ⟨⟨R, rfl, dif_iff hR (by omega)⟩, hb, (plan_cells (HNr.out.below (hB.trans (hb.mono hB.size))).x).2.2.1⟩)
        have HN0 : Hid (∀ W, Below wr.heap.size wr W → W.cell? ⟨w.heap.size, 2, none⟩ = some (.int .i64 p.sk)) := hide (fun W hB => (plan_cells (HNr.out.below hB).x).2.2.1)
        clear hck hci
        by_cases ha : apartLe fy zs j p.sk
        case neg =>
         have e1 : e = 2 := by
          rcases HNO7.out with h | ⟨h, _⟩
          ·subst h
           have := HE.out.good.2.2.2
           rw [Int.toNat_natCast, HND.out] at this
           exact absurd this ha
          ·exact h
         subst e1
         have HSP2 : Hid (∀ W, Below wr.heap.size wr W → Calls Tryz.prog 24 #[.pointer (some ⟨G, 0, none⟩)] W fun e w' => (∃ R : Int, e = .returned (.int .i64 R) ∧ decide (p.sk < R) = true) ∧ Below W.heap.size W w' ∧ w'.cell? ⟨w.heap.size, 2, none⟩ = some (.int .i64 p.sk)) := hide (fun W hB => by
          refine (HSP.out W hB).mono ?_
          rintro e8 w8 ⟨⟨R, rfl, hR⟩, hb⟩
          exact ⟨⟨R, rfl, decide_eq_true (by
           rcases Int.lt_or_le p.sk R with h | h
           ·exact h
           ·exact absurd (hR.1 h) ha)⟩, hb⟩)
         clear ha
         go_wp2_with fail
         go_region_held3 (fun w' => w'.cell? ⟨w.heap.size, 2, none⟩ = some (.int .i64 p.sk)) (first | exact HN0.out _ (below_drewN (Below.refl _ _) 1) | exact S7.out)
          (first | (go_at_call 24; go_must (refine (HSP2.out _ (below_drewN (Below.refl _ _) 1)).mono ?_); rintro e7 w7 ⟨⟨R, rfl, hR⟩, hB7, S7⟩; replace S7 := hide S7; have HB7 := hide ((below_drewN (Below.refl wr.heap.size wr) 1).trans hB7); clear hB7))
         have HN7 := hide (HNr.out.below HB7.out)
         have HBR := hide (bareF 2 w7)
         go_wp2_with fail
         refine (HBR.out).mono ?_
         rintro r9 w8 ⟨rfl, hB9⟩
         have HN9 := hide (HN7.out.below hB9)
         obtain ⟨r0, r1, r2, r3⟩ := HN9.out.r.cells2
         go_wp2_with fail
         exact bodyPost_ret (rnc_results _ _ (w.heap.size + 1) (.int .i64 2) (.int .i64 (-1)) _ rfl rfl ((HN9.out.r.set_ 0 (.int .i64 2)).set_ 1 (.int .i64 (-1)))) rfl (.inl ⟨by decide, rfl, (HN9.out.old.setCell (p := ⟨w.heap.size + 1, 0, none⟩) (Nat.le_succ _) _).setCell (p := ⟨w.heap.size + 1, 1, none⟩) (Nat.le_succ _) _⟩)
        have e1 : e = 0 := by
         rcases HNO7.out with h | ⟨_, h⟩
         ·exact h
         ·refine absurd ⟨HWN.out, ?_⟩ h
          rw [Int.toNat_natCast, HND.out]
          exact ha
        subst e1
        have HSP2 : Hid (∀ W, Below wr.heap.size wr W → Calls Tryz.prog 24 #[.pointer (some ⟨G, 0, none⟩)] W fun e w' => (∃ R : Int, e = .returned (.int .i64 R) ∧ decide (p.sk < R) = false) ∧ Below W.heap.size W w' ∧ w'.cell? ⟨w.heap.size, 2, none⟩ = some (.int .i64 p.sk)) := hide (fun W hB => by
         refine (HSP.out W hB).mono ?_
         rintro e8 w8 ⟨⟨R, rfl, hR⟩, hb⟩
         exact ⟨⟨R, rfl, decide_eq_false (by have := hR.2 ha; omega)⟩, hb⟩)
        clear ha HSP
        go_wp2_with fail
        go_region_held3 (fun w' => w'.cell? ⟨w.heap.size, 2, none⟩ = some (.int .i64 p.sk)) (first | exact HN0.out _ (below_drewN (Below.refl _ _) 1) | exact S7.out)
         (first | (go_at_call 24; go_must (refine (HSP2.out _ (below_drewN (Below.refl _ _) 1)).mono ?_); rintro e7 w7 ⟨⟨R, rfl, hR⟩, hB7, S7⟩; replace S7 := hide S7; have HB7 := hide ((below_drewN (Below.refl wr.heap.size wr) 1).trans hB7); clear hB7))
        have HN7 := hide (HNr.out.below HB7.out)
        have HA7 := hide (HAr.out.below HB7.out)
        have HB97 := hide (HBr.out.trans (HB7.out.mono HBr.out.size))
        clear HSP2 HN0 HCK2 hR
        obtain ⟨p0, p1, p2, p3, p4, p5, p6, p7, p8, p9⟩ := plan_cells HN7.out.x
        rw [HPN.out] at p0
        obtain ⟨nl, hnl⟩ : ∃ nl, p.lk.length = nl := ⟨_, rfl⟩
        have HNL := hide hnl
        have hnl8 := HP.out.lk
        rw [hnl] at p7 hnl8
        clear hnl
        obtain ⟨iS, hiS, hzS, hzS1, hzS2⟩ := en_info_parts ptr_infoRS
        clear HZ HWN HNO7 HAr
        go_wp2_with fail
        clear p0 p1 p2 p3 p4 p5 p6 p7 p8 p9
        go_loopw [101] (fun v wr => ∃ (k : Nat) (a' : Ad2), k ≤ nl ∧ v = .int .i64 k ∧ Hid (a'.g = G) ∧ Hid (DcAt wr w9.heap.size a' ⟨j, k, 0, fun j_ => if j_ < k then j else 0⟩ p ⟨.slice A p.sl.length c, .slice AL p.lk.length cl, .slice AQ p.wn.length cq⟩ fy (startF p zs) 0) ∧ Hid (Below w9.heap.size w9 wr)) (fun v _ => nl - (intOf v).toNat)
        case atStart => exact ⟨0, a', by omega, rfl, HG, hide (by rw [nk_zero]; exact HA7.out), HB97⟩
        case round =>
         clear HG HA7
         obtain ⟨k, a', hk, rfl, HG, HAr, HBk⟩ := hrel
         have HNk := hide (HNC.out.below HBk.out)
         have hbk := HBk.out.size
         by_cases hkl : k < nl
         ·obtain ⟨bl, ol, hAL, lnk, hlk, f0, f1, f2, f3⟩ := (hL0 HL2.out (Nat.le_refl _) HNk.out.old) k (by rw [HNL.out]; exact hkl)
          have HLk := hide hlk
          obtain ⟨W0, hW0⟩ : ∃ W0, wr.alloc (.cells #[.int .i64 lnk.f, .int .i64 lnk.t, .int .i64 lnk.b, .int .i64 lnk.q] 54) = W0 := ⟨_, rfl⟩
          have HB0 : Hid (Below wr.heap.size wr W0) := hide (by rw [← hW0]; exact (Below.refl _ _).alloc (Nat.le_refl _) _)
          have HXL : Hid (Blk W0 wr.heap.size 54 #[.int .i64 lnk.f, .int .i64 lnk.t, .int .i64 lnk.b, .int .i64 lnk.q]) := hide (by rw [← hW0]; exact Blk.new wr _ _)
          have HW0 := hide hW0
          subst hAL
          clear hlk hW0
          go_upto_region 31 with fail
          rw [HW0.out]
          clear f0 f1 f2 f3
          obtain ⟨xl, hxl⟩ : ∃ xl, wr.heap.size = xl := ⟨_, rfl⟩
          have HXL0 := HXL.out
          rw [hxl] at HXL0 ⊢
          obtain ⟨l0, l1, l2, l3⟩ := HXL0.cells4
          have hxl0 := HXL0.lt
          have hcb0 := (HAr.out.below HB0.out).cluB
          rw [HG.out] at hcb0
          have k13 := hcb0.cell 13
          simp [rclC] at k13
          obtain ⟨vm, hvm⟩ : ∃ vm, a'.lk = vm := ⟨_, rfl⟩
          rw [hvm] at k13
          have HVM := hide hvm
          have hGl0 := hcb0.lt
          have hQ0 : QAt wr w9.heap.size 84 vm ((List.range k).map fun i => ptrV (a'.gs i)) := by rw [← hvm]; exact HAr.out.fam.at_ .lnkA
          have HLQ : Hid (((List.range k).map fun i => ptrV (a'.gs i)).length + 1 ≤ maxLen ∧ (((List.range k).map fun i => ptrV (a'.gs i)).length + 1) * 8 ≤ 140737488355328) := hide (by simp [maxLen]; omega)
          have HBS := hide ((Below.refl W0.heap.size W0).alloc (Nat.le_refl _) (.cells (rsC lnk.b lnk.q (.slice none 0 0) 0 0 0) 138))
          have HBP := hide (below_drewN ((Below.refl (W0.alloc (.cells (rsC lnk.b lnk.q (.slice none 0 0) 0 0 0) 138)).heap.size (W0.alloc (.cells (rsC lnk.b lnk.q (.slice none 0 0) 0 0 0) 138))).alloc (Nat.le_refl _) (.cells #[.pointer (some ⟨W0.heap.size, 0, none⟩)] 84)) 1)
          have HQ2 := hide ((((hQ0.below HB0.out (Nat.le_refl _)).alloc (.cells (rsC lnk.b lnk.q (.slice none 0 0) 0 0 0) 138)).alloc (.cells #[.pointer (some ⟨W0.heap.size, 0, none⟩)] 84)).drew)
          have HPT : Hid (((W0.alloc (.cells (rsC lnk.b lnk.q (.slice none 0 0) 0 0 0) 138)).alloc (.cells #[.pointer (some ⟨W0.heap.size, 0, none⟩)] 84)).drew.cell? ⟨W0.heap.size + 1, 0, none⟩ = some (.pointer (some ⟨W0.heap.size, 0, none⟩))) := hide ((blk_at (by simp)).drew.cells1.1)
          have HSZ : Hid (w9.heap.size ≤ ((W0.alloc (.cells (rsC lnk.b lnk.q (.slice none 0 0) 0 0 0) 138)).alloc (.cells #[.pointer (some ⟨W0.heap.size, 0, none⟩)] 84)).drew.heap.size) := hide (by have h1 := HB0.out.size; show _ ≤ ((W0.alloc _).alloc _).heap.size; simp; omega)
          have HXX := hide hxl
          clear hQ0 hvm hxl
          go_cut [16] from 106 to 120 (fun v16 wx => v16 = .int .i64 k ∧ ∃ a2 : Ad2, Hid (a2.g = G) ∧ Hid (DcAt wx w9.heap.size a2 ⟨j, k + 1, 0, fun j_ => if j_ < k then j else 0⟩ p ⟨.slice A p.sl.length c, .slice (some ⟨bl, ol, none⟩) p.lk.length cl, .slice AQ p.wn.length cq⟩ fy (startF p zs) 0) ∧ Hid (Below w9.heap.size w9 wx))
          case first =>
           go_region_law (first
            | (refine step_append_q _ rfl (.tmp 110) (.tmp 117) _ rfl w9.heap.size 84 iS _ 8 Tryz.underlying79 hiS hzS hzS1 hzS2 rfl vm ((List.range k).map fun i => ptrV (a'.gs i)) rfl (by exact HQ2.out) (W0.heap.size + 1) 0 1 (.pointer (some ⟨W0.heap.size, 0, none⟩)) rfl (by exact HPT.out) rfl HLQ.out.1 HLQ.out.2 (by exact HSZ.out) ?_; intro g1 o1 cap1 w3' hQ3 hgr ho hb1 hlt1; simp only [List.length_map, List.length_range] at hQ3; have hcb := HAr.out.addLnkC (HB0.out.trans ((HBS.out.trans (HBP.out.mono HBS.out.size)).mono HB0.out.size)) (by rw [HVM.out]; exact hgr); rw [HG.out] at hcb; have hc13 := hcb.cell 13; have hf13 := hcb.frozen 13; simp [rclC] at hc13; have HQ3 := hide hQ3; have HGR := hide hgr; have HO := hide ho; have HL1 := hide hlt1; clear hQ3 hgr ho hb1 hlt1 hcb))
           all_goals
            have HCN := hide (HAr.out.addLnk HBk.out.size HLk.out rfl (HB0.out.trans (HBS.out.mono HB0.out.size)) (Blk.new W0 _ _) HB0.out.size HBP.out HQ3.out (by rw [HVM.out]; exact HGR.out) (by rw [HVM.out]; exact HO.out) HL1.out)
            rw [HG.out] at HCN
            have HBN := hide (HCN.out.2.old HAr.out.fam HBk.out HBk.out.size)
            go_wp2_with fail
            go_meet
            case rel => exact ⟨rfl, { a' with g := G, lk := .slice (some ⟨g1, o1, none⟩) (k + 1) cap1, gs := updF a'.gs k W0.heap.size, vs := updF a'.vs k (.slice none 0 0), al := updF a'.al k [], wt := updF a'.wt k 0, ls := updF a'.ls k 0 }, hide rfl, hide HCN.out.1, HBN⟩
          case rest =>
           obtain ⟨rfl, a3, HG3, HA3, HB3⟩ := hcut
           clear HAr HQ2 HPT HSZ HBS HBP HXX HXL k13 l0 l1 l2 l3 HLQ HVM
           have HN3 := hide (HNC.out.below HB3.out)
           obtain ⟨p0, p1, p2, p3, p4, p5, p6, p7, p8, p9⟩ := plan_cells HN3.out.x
           rw [HPN.out] at p0
           go_wp2_with fail
           clear p0 p1 p2 p3 p4 p5 p6 p7 p8 p9
           go_loopw [123] (fun v wr => ∃ (i : Nat) (a2 : Ad2), i ≤ j ∧ v = .int .i64 i ∧ Hid (a2.g = G) ∧ Hid (DcAt wr w9.heap.size a2 ⟨j, k + 1, 0, updF (fun j_ => if j_ < k then j else 0) k i⟩ p ⟨.slice A p.sl.length c, .slice (some ⟨bl, ol, none⟩) p.lk.length cl, .slice AQ p.wn.length cq⟩ fy (startF p zs) 0) ∧ Hid (Below w9.heap.size w9 wr)) (fun v _ => j - (intOf v).toNat)
           case atStart => exact ⟨0, a3, by omega, rfl, HG3, hide (by rw [nk_at]; exact HA3.out), HB3⟩
           case round =>
            clear HG3 HA3 HB3 HN3
            obtain ⟨i, a2, hi2, rfl, HG2, HA2, HB2'⟩ := hrel
            by_cases hij : i < j
            ·have hcb := HA2.out.cluB
             rw [HG2.out] at hcb
             have k14 := hcb.cell 14
             simp [rclC] at k14
             obtain ⟨tm, htm⟩ : ∃ tm, a2.tm = tm := ⟨_, rfl⟩
             rw [htm] at k14
             have hGl := hcb.lt
             obtain ⟨W1, hW1⟩ : ∃ W1, wr.alloc (.cells #[.int .i64 (-1), .int .i64 0, .int .i64 0] 141) = W1 := ⟨_, rfl⟩
             obtain ⟨gx, hgx⟩ : ∃ gx, wr.heap.size = gx := ⟨_, rfl⟩
             have HBW : Hid (Below wr.heap.size wr W1) := hide (by rw [← hW1]; exact (Below.refl _ _).alloc (Nat.le_refl _) _)
             have HKW : Hid (Blk W1 gx 141 #[.int .i64 (-1), .int .i64 0, .int .i64 0]) := hide (by rw [← hW1, ← hgx]; exact Blk.new wr _ _)
             have hmp : MapP W1 tm a2.kt := by rw [← htm, ← hW1]; exact MapP.alloc HA2.out.takM _
             obtain ⟨W2, hrun, hm2, hg2⟩ := update_pair Tryz.underlying80 hmp k i (.pointer (some ⟨gx, 0, none⟩))
             have HM2 := hide hm2; have HG22 := hide hg2; have HW1' := hide hW1; have HGXX := hide hgx; have HTM := hide htm
             have HRUN := hide hrun
             clear hcb htm hW1 hgx hmp hm2 hg2 hrun
             go_upto_region 35 with fail
             have hrun : (Instr.mapUpdate 80 (.map (some tm)) (.agg #[.int .i64 (k : Int), .int .i64 (i : Int)]) (.pointer (some ⟨wr.heap.size, 0, none⟩))).run Tryz.prog (wr.alloc (.cells #[.int .i64 (-1), .int .i64 0, .int .i64 0] 141)) = .ok () W2 := by
              rw [HW1'.out, HGXX.out]
              exact HRUN.out
             go_wp2_with fail
             have HCN := hide (HA2.out.addTak HB2'.out.size (updF_self _ _ _) rfl HBW.out HKW.out (Nat.le_of_eq HGXX.out) (by rw [HTM.out]; exact HM2.out) (by rw [HTM.out]; exact HG22.out))
             have HBN := hide (HCN.out.2.old HA2.out.fam HB2'.out HB2'.out.size)
             clear hrun k14
             go_roundw
             case rel => exact ⟨i + 1, { a2 with kt := setK k i (ptrV gx) a2.kt, gk := upd2 a2.gk k i gx }, by omega, by go_num, HG2, hide (by have := HCN.out.1; rw [updF_upd] at this; exact this), HBN⟩
             case measure => simp [intOf]; omega
            ·obtain rfl : i = j := by omega
             go_wp2_with fail
             go_roundw
             case rel => exact ⟨k + 1, a2, by omega, by go_num, HG2, hide (by have := HA2.out; rw [nk_end] at this; exact this), HB2'⟩
             case measure => simp [intOf]; omega
         ·obtain rfl : nl = k := by omega
          have hfn : FinT wr := fin_below HF.out HNk.out.old
          obtain ⟨fn0, fn1⟩ := hfn
          obtain ⟨r0, r1, r2, r3⟩ := HNk.out.r.cells2
          have hrl := HNk.out.r.lt
          go_wp2_with fail
          go_region
          all_goals
           go_wp2_with fail
           refine bodyPost_ret (rnc_results _ _ (w.heap.size + 1) (.int .i64 0) (.int .i64 (-1)) _ rfl rfl (((HNk.out.r.set_ 0 (.int .i64 0)).set_ 1 (.int .i64 (-1))).drew)) rfl ?_
           have hfull : fullN p = ⟨j, nl, nl, fun j_ => if j_ < nl then j else 0⟩ := by unfold fullN; rw [HND.out, HNL.out]
           have hD := (((HAr.out.far (q := ⟨w.heap.size + 1, 0, none⟩) (Nat.lt_trans HNC.out.ne hr8l) (.int .i64 0)).far (q := ⟨w.heap.size + 1, 1, none⟩) (Nat.lt_trans HNC.out.ne hr8l) (.int .i64 (-1))).below (below_drewN (Below.refl _ _) 1)).mono (b := w.heap.size) HNC.out.old.size
           exact ⟨fy, rfl, a', by rw [HG.out]; rfl, below_drewN ((HNk.out.old.setCell (p := ⟨w.heap.size + 1, 0, none⟩) (Nat.le_succ _) _).setCell (p := ⟨w.heap.size + 1, 1, none⟩) (Nat.le_succ _) _) 1, by rw [hfull]; exact hD.setNa⟩
end
end
end Go.Proofs.YtdogdlnaacimpaaGreatDoor
