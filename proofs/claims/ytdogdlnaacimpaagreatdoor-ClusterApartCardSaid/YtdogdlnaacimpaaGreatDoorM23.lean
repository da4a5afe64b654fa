/- metronomekeep.ClusterOrder's walk; conditions: errors.errorType as laid, the plan and what is said lie in memory. -/
import Derived.Test.YtdogdlnaacimpaaGreatDoorM21
import Derived.Test.YtdogdlnaacimpaaGreatDoorM22
set_option linter.unusedVariables false
set_option linter.unusedSimpArgs false
namespace Go.Proofs.YtdogdlnaacimpaaGreatDoor
open Go Go.RowKit
attribute [local irreducible] chk begF pck playF putE putQ mkS

/-- What the law keeps. -/
structure OrI (p : Pl) (N R : Nat) (put : Nat → Nat) (last : Nat → Nat → Nat) (c : Cl) : Prop where
  ok : ClOk p N c
  rd : c.rd ≤ R
  od : OrdA mkS put last p c
  le : ∀ k i, last k i ≤ put k
section
variable {p : Pl} {N R : Nat} {put : Nat → Nat} {last : Nat → Nat → Nat} {c : Cl}
theorem OrI.putYes (hp : PlOk p) (h : OrI p N R put last c) {k : Nat} {l : Lk} (hl : p.lk[k]? = some l) (n : Nat) (hn : put k = n) (he : putE (mkS k (n + 1)).size (c.sd k).q.length l.q = 0) : OrI p N R (updF put k (n + 1)) last (clPut k l (mkS k (n + 1)) c) := by
  subst hn
  exact ⟨clPut_ok hp h.ok hl _, h.rd, h.od.put_ (fun i => h.le k i) he, fun j i => by
    unfold updF
    have := h.le j i
    split
    · rename_i e; subst e; omega
    · exact this⟩
theorem OrI.putNo (hp : PlOk p) (h : OrI p N R put last c) {k : Nat} {l : Lk} (hl : p.lk[k]? = some l) (d : ByteArray) (he : putE d.size (c.sd k).q.length l.q ≠ 0) : OrI p N R put last (clPut k l d c) :=
  ⟨clPut_ok hp h.ok hl d, h.rd, h.od.putNo d he, h.le⟩
theorem OrI.play {R : Nat} (hp : PlOk p) (h : OrI p (1 + 2592 * R) R put last c) (fy : Nat) (r : Rn) : OrI p (1 + 2592 * (R + 1)) (R + 1) put last (playF p fy r c) :=
  ⟨(playF_ok hp h.ok fy r).mono (by omega), by rcases playF_rd p fy r c with e | e <;> rw [e] <;> have := h.rd <;> omega, play_ord h.od fy r, h.le⟩
theorem OrI.recv (h : OrI p N R put last c) {k i : Nat} (hk : k < p.lk.length) {d : ByteArray} {q : List ByteArray} (hq : (c.pr k i).q = d :: q) : ∃ x, d = mkS k x ∧ last k i < x ∧ x ≤ put k ∧ OrI p N R put (upd2 last k i x) (clRecv k i c) := by
  obtain ⟨x, e, h2, h3, h4⟩ := h.od.recv hk hq
  exact ⟨x, e, h2, h3, clRecv_ok0 h.ok k i, h.rd, h4, fun a b => by
    unfold upd2
    split
    · rename_i e; obtain ⟨rfl, rfl⟩ := e; exact h3
    · exact h.le a b⟩
end
/-- The law's state at one time. -/
def OrS (w2 w : World) (pb nl nd N R g : Nat) (G : Nat → Nat) (put : Nat → Nat) (p : Pl) (P : Sv3) (fy : Nat) : Prop := ∃ (a : Ad) (c : Cl) (last : Nat → Nat → Nat), a.g = g ∧ ClAt w w2.heap.size a (fullN p) p P fy c ∧ Below w2.heap.size w2 w ∧ OrM w w2.heap.size pb (pb + 1) nl nd nl G put last (shape a (fullN p) p P fy c) ∧ OrI p N R put last c
theorem OrS.below {w2 w w' : World} {pb nl nd N R g : Nat} {G put : Nat → Nat} {p : Pl} {P : Sv3} {fy : Nat} (h : OrS w2 w pb nl nd N R g G put p P fy) (hB : Below w.heap.size w w') : OrS w2 w' pb nl nd N R g G put p P fy := by
  obtain ⟨a, c, last, h1, h2, h3, h4, h5⟩ := h
  exact ⟨a, c, last, h1, h2.below hB, h3.trans (hB.mono h3.size), h4.below hB, h5⟩
theorem OrS.bel {w2 w : World} {pb nl nd N R g : Nat} {G put : Nat → Nat} {p : Pl} {P : Sv3} {fy : Nat} (h : OrS w2 w pb nl nd N R g G put p P fy) : Below w2.heap.size w2 w := by
  obtain ⟨a, c, last, h1, h2, h3, h4, h5⟩ := h
  exact h3
theorem OrS.recv {w2 w : World} {pb nl nd N R g : Nat} {G put : Nat → Nat} {p : Pl} {P : Sv3} {fy : Nat} (h : OrS w2 w pb nl nd N R g G put p P fy) (hp : PlOk p) (AL : Option Addr) (cl : Nat) (hP : P.l = .slice AL p.lk.length cl) (hL : LinksAt w2 AL p.lk.length p.lk) (hnl : p.lk.length = nl) (hnd : p.nd = (nd : Int)) {k i : Nat} (hk : k < nl) (hi : i < nd) :
    Calls Tryz.prog 13 #[.pointer (some ⟨g, 0, none⟩), .int .i64 i, .int .i64 k] w fun e w' =>
      (∃ er : Int, er ≠ 0 ∧ e = .returned (.tuple #[.string ⟨#[]⟩, errV er]) ∧ OrS w2 w' pb nl nd N R g G put p P fy) ∨
      (∃ x la : Nat, e = .returned (.tuple #[.string (mkS k x), errV 0]) ∧ la < x ∧ x ≤ put k ∧ w'.cell? ⟨pb + 1, k, none⟩ = some (.slice (some ⟨G k, 0, none⟩) nd nd) ∧ w'.cell? ⟨G k, i, none⟩ = some (.int .i64 (la : Nat)) ∧ w'.frozen? ⟨G k, i, none⟩ = false ∧ w'.cell? ⟨pb, k, none⟩ = some (.int .i64 (put k : Nat)) ∧
        ∀ W, Below w'.heap.size w' W → OrS w2 (W.setCell ⟨G k, i, none⟩ (.int .i64 (x : Nat))) pb nl nd N R g G put p P fy) := by
  obtain ⟨a, c, last, h1, h2, h3, h4, h5⟩ := h
  obtain ⟨l, hl⟩ : ∃ l, p.lk[k]? = some l := ⟨_, List.getElem?_eq_getElem (by omega)⟩
  have hc := crecv_any w w2 AL cl hP h2 hp h5.ok hL h3 (Nat.le_refl _) h3.size k i l hl (by omega)
  rw [h1] at hc
  refine hc.mono ?_
  rintro e w' (⟨-, rfl, a', e1, hA, hK⟩ | ⟨-, -, rfl, a', e1, hA, hK⟩ | ⟨-, d, q, hq, rfl, a', e1, hA, hK⟩)
  · exact .inl ⟨2, by decide, rfl, a', c, last, e1.trans h1, hA, hK.old h2 h3 h3.size, h4.step hK, h5⟩
  · exact .inl ⟨8, by decide, rfl, a', c, last, e1.trans h1, hA, hK.old h2 h3 h3.size, h4.step hK, h5⟩
  · obtain ⟨x, rfl, x1, x2, x3⟩ := h5.recv (by omega : k < p.lk.length) (i := i) hq
    have hM := h4.step hK
    have hB := hK.old h2 h3 h3.size
    obtain ⟨r1, r2⟩ := (hM.la.row k hk).cell hi
    have hg := hM.la.lo k hk
    have hpt := hM.ptb
    exact .inr ⟨x, last k i, rfl, x1, x2, hM.la.cell hk, r1, r2, (hM.pu.cell hk).1, fun W hW => ⟨a', _, _, e1.trans h1, (hA.below hW).far (p := ⟨G k, i, none⟩) (hM.n3 k hk) _, (hB.trans (hW.mono hB.size)).setCell (p := ⟨G k, i, none⟩) (by show w2.heap.size ≤ G k; omega) _, (hM.below hW).setLast hk i x, x3⟩⟩
set_option maxRecDepth 100000 in
set_option maxHeartbeats 8000000 in
theorem order_any (w : World) (hE : ErrT w) (p : Pl) (A : Option Addr) (c : Nat) (AL : Option Addr) (cl : Nat) (AQ : Option Addr) (cq : Nat) (s2 : SlotsAt w A p.sl.length p.sl) (l2 : LinksAt w AL p.lk.length p.lk) (q2 : WinsAt w AQ p.wn.length p.wn)
    (f0 : Int) (D : Option Addr) (cd : Nat) (l : List (Int × Rn)) (hR : SaAt w D l) :
    Calls Tryz.prog 4 #[.agg (planC p.nd p.fa p.sk p.ji p.dr p.rd (.slice A p.sl.length c) (.slice AL p.lk.length cl) p.fr (.slice AQ p.wn.length cq)), .int .i64 f0, .slice D l.length cd] w fun e w' => e = .returned (.bool true) ∧ Below w.heap.size w w' := by
  obtain ⟨nr, hnr⟩ : ∃ nr, l.length = nr := ⟨_, rfl⟩
  obtain ⟨w1, hw1⟩ : ∃ w1, w.alloc (.cells (planC p.nd p.fa p.sk p.ji p.dr p.rd (.slice A p.sl.length c) (.slice AL p.lk.length cl) p.fr (.slice AQ p.wn.length cq)) 26) = w1 := ⟨_, rfl⟩
  have hB1 : Below w.heap.size w w1 := by rw [← hw1]; exact (Below.refl w.heap.size w).alloc (Nat.le_refl _) _
  have hX : Blk w1 w.heap.size 26 (planC p.nd p.fa p.sk p.ji p.dr p.rd (.slice A p.sl.length c) (.slice AL p.lk.length cl) p.fr (.slice AQ p.wn.length cq)) := by rw [← hw1]; exact Blk.new w _ _
  have HX := hide hX; have HB1 := hide hB1; have HW1 := hide hw1; have HS2 := hide s2; have HL2 := hide l2; have HQ2 := hide q2; have HR := hide hR; have HE := hide hE; have HNR := hide hnr
  rw [hnr]
  clear hX hB1 hw1 s2 l2 q2 hR hE hnr
  by_cases h60 : 50 < nr
  · have d1 : decide ((50 : Int) < (nr : Int)) = true := decide_eq_true (by omega)
    go_enter Tryz.func4, Tryz.ntmps4
    go_wp2_with fail
    rw [HW1.out]
    go_ret
    exact ⟨rfl, HB1.out⟩
  · have d1 : decide ((50 : Int) < (nr : Int)) = false := decide_eq_false (by omega)
    have HPL := hide (played_any w1 (errT_below HE.out (HB1.out)))
    go_enter Tryz.func4, Tryz.ntmps4
    go_wp2_with fail
    rw [HW1.out]
    refine HPL.out.mono ?_
    rintro e w2 ⟨rfl, hB2⟩
    have HX2 := hide (HX.out.below hB2 HX.out.lt)
    have HB2 := hide (HB1.out.trans (hB2.mono HB1.out.size))
    clear hB2
    obtain ⟨x0, x1, x2, x3, x4, x5, x6, x7, x8, x9⟩ := plan_cells HX2.out
    have HBG := hide (begun_any w2 p A c AL cl AQ cq (hS0 HS2.out (Nat.le_refl _) HB2.out) (hL0 HL2.out (Nat.le_refl _) HB2.out) (HQ2.out.below HB2.out) f0 none 0 [] (fun j h => by simp at h))
    simp only [List.length_nil] at HBG
    go_wp2_with fail
    refine HBG.out.mono ?_
    rintro e w3 ⟨hB3, rfl | ⟨hchk, a, rfl, hA⟩⟩
    · have HB3 := hide (HB2.out.trans (hB3.mono HB2.out.size))
      clear hB3
      go_wp2_with fail
      go_ret
      exact ⟨rfl, HB3.out⟩
    · have hp := PlOk.of hchk
      have hn16 := hp.n16
      have hn1 := hp.n1
      have hnl := hp.lk
      obtain ⟨fy, hfy⟩ : ∃ fy, (begF p.fa (pck f0 (2 ^ p.nd.toNat)) p.nd.toNat).1 = fy := ⟨_, rfl⟩
      have hfl : fy < 2 ^ p.nd.toNat := by rw [← hfy]; exact begF_lt p.fa (pck_lt f0 (Nat.two_pow_pos _)) _
      have hf16 : fy < 65536 := by
        have : (2 : Nat) ^ p.nd.toNat ≤ 2 ^ 16 := Nat.pow_le_pow_right (by omega) (by omega)
        omega
      rw [hfy] at hA
      have HP := hide hp; have HA := hide hA
      have HB3 := hide hB3
      have HS3 := hide (hS0 HS2.out (Nat.le_refl _) HB2.out); have HL3 := hide (hL0 HL2.out (Nat.le_refl _) HB2.out)
      have HE3 := hide (errT_below HE.out HB2.out)
      have HX3 := hide (HX2.out.below hB3 HX2.out.lt)
      obtain ⟨nd, hnd⟩ : ∃ nd, p.nd.toNat = nd := ⟨_, rfl⟩
      have hpn : p.nd = (nd : Int) := by omega
      obtain ⟨nl, hnl'⟩ : ∃ nl, p.lk.length = nl := ⟨_, rfl⟩
      have HNL := hide hnl'
      have hnl8 : nl ≤ 64 := by omega
      have hnd16 : nd ≤ 16 := by omega
      have HPN := hide hpn; have HND := hide hnd
      clear x0 x1 x2 x3 x4 x5 x6 x7 x8 x9
      obtain ⟨x0, x1, x2, x3, x4, x5, x6, x7, x8, x9⟩ := plan_cells HX3.out
      have hxl := HX3.out.lt
      obtain ⟨cs, hmk, hcs⟩ := make_nums nl (by omega)
      obtain ⟨ct, hmk2, hct, -⟩ := make_rows nl (by omega)
      have HCS := hide hcs; have HCT := hide hct
      rw [hnl'] at x7
      rw [hpn] at x0
      clear hp hA hB3 hfy hfl hchk hn16 hn1 hnl hcs hct hpn hnd hnl' x1 x2 x3 x4 x5 x6 x8 x9
      have HM0 := hide (OrM.start (base := w2.heap.size) (nd := nd) (S := shape a (fullN p) p ⟨.slice A p.sl.length c, .slice AL p.lk.length cl, .slice AQ p.wn.length cq⟩ fy (startF p (begC p []))) HCS.out HCT.out HB3.out.size (HA.out.not_new (Nat.le_refl _)) (HA.out.not_new (Nat.le_succ _)))
      have HB4 := hide ((HB3.out.alloc HB3.out.size (.cells cs 3)).alloc (Nat.le_trans HB3.out.size (by simp)) (.cells ct 27))
      obtain ⟨W4, hW4⟩ : ∃ W4, (w3.alloc (.cells cs 3)).alloc (.cells ct 27) = W4 := ⟨_, rfl⟩
      have HBW4 : Hid (Below w3.heap.size w3 W4) := hide (by rw [← hW4]; exact ((Below.refl _ _).alloc (Nat.le_refl _) _).alloc (by simp) _)
      rw [hW4] at HM0 HB4
      obtain ⟨cd', hmk3, hcd'⟩ := make_nums nd (by omega)
      have HCD := hide hcd'
      clear hcd'
      have HW4 := hide hW4
      clear hW4
      go_wp2_with fail
      rw [HW4.out]
      obtain ⟨pb, hpb⟩ : ∃ pb, w3.heap.size = pb := ⟨_, rfl⟩
      rw [hpb] at HM0 ⊢
      have hW4 := True.intro
      clear hW4 hpb x0 x7 hmk hmk2
      have HA4 := hide (HA.out.below HBW4.out)
      go_loopw [10] (fun v wr => ∃ (k : Nat) (G : Nat → Nat), k ≤ nl ∧ v = .int .i64 k ∧ Hid (OrM wr w2.heap.size pb (pb + 1) nl nd k G (fun _ => 0) (fun _ _ => 0) (shape a (fullN p) p ⟨.slice A p.sl.length c, .slice AL p.lk.length cl, .slice AQ p.wn.length cq⟩ fy (startF p (begC p [])))) ∧ Hid (ClAt wr w2.heap.size a (fullN p) p ⟨.slice A p.sl.length c, .slice AL p.lk.length cl, .slice AQ p.wn.length cq⟩ fy (startF p (begC p []))) ∧ Hid (Below w2.heap.size w2 wr) ) (fun v _ => nl - (intOf v).toNat)
      case atStart => exact ⟨0, fun _ => 0, by omega, rfl, HM0, HA4, HB4⟩
      case round =>
        obtain ⟨k, G, hk, rfl, HM, HAr, HBr⟩ := hrel
        have HXr := hide (HX2.out.below HBr.out HX2.out.lt)
        obtain ⟨x0, x1, x2, x3, x4, x5, x6, x7, x8, x9⟩ := plan_cells HXr.out
        have hxl := HXr.out.lt
        rw [HNL.out] at x7
        rw [HPN.out] at x0
        clear x1 x2 x3 x4 x5 x6 x8 x9
        by_cases hlt : k < nl
        · have htl := HM.out.la.lt
          obtain ⟨cw, hbt, hcw, -⟩ := HM.out.la.top
          have ht1 := hbt.cell k
          have ht2 := hbt.frozen k
          obtain ⟨uw, huw⟩ : ∃ uw, cw[k]? = some uw := ⟨_, Array.getElem?_eq_getElem (by omega)⟩
          rw [huw] at ht1
          clear hbt hcw huw
          go_wp2_with fail
          go_roundw
          case rel => exact ⟨k + 1, updF G k wr.heap.size, by omega, by go_num, hide (HM.out.addRow hlt HCD.out (HAr.out.not_new (Nat.le_refl _))), hide ((HAr.out.far (p := ⟨pb + 1, k, none⟩) HM.out.n2 _).alloc _), hide ((HBr.out.setCell (p := ⟨pb + 1, k, none⟩) (Nat.le_trans HM.out.ptb (Nat.le_succ _)) _).alloc (by simp [World.setCell]; exact HBr.out.size) _)⟩
          case measure => simp [intOf]; omega
        · obtain rfl : nl = k := by omega
          clear hmk3
          go_wp2_with fail
          clear x0 x7 hxl
          have HOI := hide (OrI.mk (put := fun _ => 0) (last := fun _ _ => 0) (start_ok HP.out (begC_len p []) (begC_wild HP.out [])) (by unfold startF; show (0 : Int) ≤ (0 : Nat); decide) (OrdA.start mkS p (begC p []) _ _) (fun _ _ => Nat.le_refl _))
          go_loopw [11] (fun v wr => ∃ (i : Nat) (a' : Ad) (cc : Cl) (put : Nat → Nat) (last : Nat → Nat → Nat), i ≤ nr ∧ v = .int .i64 i ∧ Hid (a'.g = a.g) ∧ Hid (ClAt wr w2.heap.size a' (fullN p) p ⟨.slice A p.sl.length c, .slice AL p.lk.length cl, .slice AQ p.wn.length cq⟩ fy cc) ∧ Hid (Below w2.heap.size w2 wr) ∧ Hid (OrM wr w2.heap.size pb (pb + 1) nl nd nl G put last (shape a' (fullN p) p ⟨.slice A p.sl.length c, .slice AL p.lk.length cl, .slice AQ p.wn.length cq⟩ fy cc)) ∧ Hid (OrI p (1 + 2592 * i) i put last cc) ∧ Hid (∀ j, put j ≤ i)) (fun v _ => nr - (intOf v).toNat)
          case atStart => exact ⟨0, a, _, _, _, by omega, rfl, hide rfl, HAr, HBr, HM, HOI, hide (fun _ => Nat.le_refl _)⟩
          case round =>
            obtain ⟨i, a', cc, put, last, hi, rfl, HG, HA5, HB5, HM5, HI5, HPU⟩ := hrel
            have HBw := hide (HB2.out.trans (HB5.out.mono HB2.out.size))
            by_cases hlt : i < nr
            · obtain ⟨r, hr⟩ : ∃ r, l[i]? = some r := ⟨_, List.getElem?_eq_getElem (by rw [HNR.out]; exact hlt)⟩
              obtain ⟨lk, r⟩ := r
              obtain ⟨b, o, rfl, z0, A1, c1, A2, c2, A3, c3, A4, c4, y0, y1, y2, y3, m1, m2, m3, m4, n1, n2, n3, n4⟩ := HR.out i _ hr
              have hbl : b < w.heap.size := World.block_lt_of_cell? _ _ y0
              have z0' := (HBw.out.cell (p := ⟨b, o + i * 5, none⟩) hbl).trans z0
              have y0' := (HBw.out.cell (p := ⟨b, o + i * 5 + 1, none⟩) hbl).trans y0
              have y1' := (HBw.out.cell (p := ⟨b, o + i * 5 + 1 + 1, none⟩) hbl).trans y1
              have y2' := (HBw.out.cell (p := ⟨b, o + i * 5 + 1 + 2, none⟩) hbl).trans y2
              have y3' := (HBw.out.cell (p := ⟨b, o + i * 5 + 1 + 3, none⟩) hbl).trans y3
              have hblr : b < wr.heap.size := Nat.lt_of_lt_of_le hbl HBw.out.size
              obtain ⟨l1, hl1⟩ : ∃ l1, r.ls.length = l1 := ⟨_, rfl⟩
              obtain ⟨l2, hl2⟩ : ∃ l2, r.rg.length = l2 := ⟨_, rfl⟩
              obtain ⟨l3, hl3⟩ : ∃ l3, r.dr.length = l3 := ⟨_, rfl⟩
              obtain ⟨l4, hl4⟩ : ∃ l4, r.md.length = l4 := ⟨_, rfl⟩
              dsimp only at z0' y0' y1' y2' y3'
              rw [hl1] at y0'
              rw [hl2] at y1'
              rw [hl3] at y2'
              rw [hl4] at y3'
              have HXr := hide (HX2.out.below HB5.out HX2.out.lt)
              obtain ⟨x0, x1, x2, x3, x4, x5, x6, x7, x8, x9⟩ := plan_cells HXr.out
              have hxl := HXr.out.lt
              rw [HNL.out] at x7
              rw [HPN.out] at x0
              obtain ⟨s1, e1⟩ : ∃ s1, IntKind.i64.wrap ((l1 : Int) + (l2 : Int)) = s1 := ⟨_, rfl⟩
              obtain ⟨s2, e2⟩ : ∃ s2, IntKind.i64.wrap (s1 + (l3 : Int)) = s2 := ⟨_, rfl⟩
              obtain ⟨s3, e3⟩ : ∃ s3, IntKind.i64.wrap (s2 + (l4 : Int)) = s3 := ⟨_, rfl⟩
              have HHR := hide hr; have HM1 := hide m1; have HM2 := hide m2; have HM3 := hide m3; have HM4 := hide m4; have HN1 := hide n1; have HN2 := hide n2; have HN3 := hide n3; have HN4 := hide n4; have HL1 := hide hl1; have HLe2 := hide hl2; have HLe3 := hide hl3; have HLe4 := hide hl4
              clear hr z0 y0 y1 y2 y3 m1 m2 m3 m4 n1 n2 n3 n4 hl1 hl2 hl3 hl4 x1 x2 x3 x4 x5 x6 x8 x9
              cases hsm : decide ((150 : Int) < s3)
              case true =>
                go_wp2_with fail
                go_ret
                exact ⟨rfl, HBw.out.alloc HBw.out.size _⟩
              case false =>
                go_upto_region 21 with fail
                clear e1 e2 e3 y0' y1' y2' y3' hsm
                obtain ⟨W5, hW5⟩ : ∃ W5, wr.alloc (.cells #[.slice A1 l1 c1, .slice A2 l2 c2, .slice A3 l3 c3, .slice A4 l4 c4] 35) = W5 := ⟨_, rfl⟩
                obtain ⟨rb, hrb⟩ : ∃ rb, wr.heap.size = rb := ⟨_, rfl⟩
                have HBW5 := hide ((Below.refl wr.heap.size wr).alloc (Nat.le_refl _) (.cells #[.slice A1 l1 c1, .slice A2 l2 c2, .slice A3 l3 c3, .slice A4 l4 c4] 35))
                have HR5 := hide (Blk.new wr 35 #[.slice A1 l1 c1, .slice A2 l2 c2, .slice A3 l3 c3, .slice A4 l4 c4])
                have HNF := hide (HA5.out.not_new (Nat.le_refl wr.heap.size))
                have HNP : Hid (wr.heap.size ≠ pb) := hide (by have := HM5.out.pu.lt; omega)
                rw [hW5] at HBW5 HR5 ⊢
                rw [hrb] at HR5 HNF HNP ⊢
                have HA6 := hide (HA5.out.below HBW5.out)
                have HM6 := hide (HM5.out.below HBW5.out)
                have HB6 := hide (HB5.out.trans (HBW5.out.mono HB5.out.size))
                clear hW5 hrb x0 x7 hxl hblr z0'
                have HXr := hide (HX2.out.below HB6.out HX2.out.lt)
                obtain ⟨x0, x1, x2, x3, x4, x5, x6, x7, x8, x9⟩ := plan_cells HXr.out
                rw [HNL.out] at x7
                clear x0 x1 x2 x3 x4 x5 x6 x8 x9
                go_cut [91] from 83 to 91 (fun v wx => ∃ b91 : Bool, v = .bool b91 ∧ Hid ((decide (0 ≤ lk) && decide (lk < (nl : Int))) = b91) ∧ wx = W5)
                case first =>
                  by_cases h0 : 0 ≤ lk
                  · have d2 : decide (0 ≤ lk) = true := decide_eq_true h0
                    go_wp2_with fail
                    go_meet
                    case rel => exact ⟨_, rfl, hide (by rw [d2, Bool.true_and]), rfl⟩
                  · have d2 : decide (0 ≤ lk) = false := decide_eq_false h0
                    go_wp2_with fail
                    go_meet
                    case rel => exact ⟨_, rfl, hide (by rw [d2, Bool.false_and]), rfl⟩
                case rest =>
                  obtain ⟨b91, rfl, HBB, rfl⟩ := hcut
                  clear x7
                  go_upto_if 91 with fail
                  go_cut [14] from 92 to 110 (fun v wx => ∃ (a4 : Ad) (c4' : Cl) (put' : Nat → Nat), Hid (a4.g = a.g) ∧ Hid (ClAt wx w2.heap.size a4 (fullN p) p ⟨.slice A p.sl.length c, .slice AL p.lk.length cl, .slice AQ p.wn.length cq⟩ fy c4') ∧ Hid (Below w2.heap.size w2 wx) ∧ Hid (OrM wx w2.heap.size pb (pb + 1) nl nd nl G put' last (shape a4 (fullN p) p ⟨.slice A p.sl.length c, .slice AL p.lk.length cl, .slice AQ p.wn.length cq⟩ fy c4')) ∧ Hid (OrI p (1 + 2592 * i) i put' last c4') ∧ Hid (∀ j, put' j ≤ i + 1) ∧ Hid (Blk wx rb 35 #[.slice A1 l1 c1, .slice A2 l2 c2, .slice A3 l3 c3, .slice A4 l4 c4]))
                  case first =>
                    cases b91
                    case false =>
                      go_wp2_with fail
                      go_meet
                      case rel => exact ⟨a', cc, put, HG, HA6, HB6, HM6, HI5, hide (fun j => Nat.le_succ_of_le (HPU.out j)), HR5⟩
                    case true =>
                      have hb := HBB.out
                      simp only [Bool.and_eq_true, decide_eq_true_eq] at hb
                      obtain ⟨kk, rfl⟩ := Int.eq_ofNat_of_zero_le hb.1
                      have hkk : kk < nl := by omega
                      obtain ⟨lx, hlx⟩ : ∃ lx, p.lk[kk]? = some lx := ⟨_, List.getElem?_eq_getElem (by rw [HNL.out]; exact hkk)⟩
                      obtain ⟨q1, q2⟩ := HM6.out.pu.cell hkk
                      have hpk := HPU.out kk
                      obtain ⟨n0, hn0⟩ : ∃ n0, put kk = n0 := ⟨_, rfl⟩
                      obtain ⟨e0, he0⟩ : ∃ e0, putE (mkS kk (n0 + 1)).size (cc.sd kk).q.length lx.q = e0 := ⟨_, rfl⟩
                      have HPT : Hid (∀ W, Below wc.heap.size wc W → Calls Tryz.prog 12 #[.pointer (some ⟨a.g, 0, none⟩), .int .i64 kk, .string (mkS kk (n0 + 1))] W fun e w' => e = .returned (errV e0) ∧ ClTo W w2.heap.size a' (fullN p) p ⟨.slice A p.sl.length c, .slice AL p.lk.length cl, .slice AQ p.wn.length cq⟩ fy cc w' (clPut kk lx (mkS kk (n0 + 1)) cc)) := hide (fun W hB => by
                        have h1 := cput_any W (HA6.out.below hB) HP.out HI5.out.ok (Nat.le_trans HB6.out.size hB.size) kk lx hlx (mkS kk (n0 + 1)) (by rw [mkS_size]; decide)
                        rw [HG.out, he0] at h1
                        exact h1)
                      have HLX := hide hlx; have HN0 := hide hn0; have HE0 := hide he0
                      rw [hn0] at q1 hpk
                      have hcv : (convert 48 9 (.slice (some ⟨wc.heap.size, 0, none⟩) 2 2)).run Tryz.prog (wc.alloc (.cells #[.int .u8 ((n0 : Int) + 1), .int .u8 (kk : Int)] 5)) = .ok (.string (mkS kk (n0 + 1))) (wc.alloc (.cells #[.int .u8 ((n0 : Int) + 1), .int .u8 (kk : Int)] 5)) := by
                        obtain ⟨c0, c1, -, -⟩ := (Blk.new wc 5 #[.int .u8 ((n0 : Int) + 1), .int .u8 (kk : Int)]).cells2
                        have := run_convert_bytes_arg (P := Tryz.prog) (wc.alloc (.cells #[.int .u8 ((n0 : Int) + 1), .int .u8 (kk : Int)] 5)) 48 5 Tryz.underlying48 Tryz.underlying5 wc.heap.size 0 2 2 [((n0 + 1 : Nat) : Int), (kk : Int)] rfl (fun i hi => by
                          match i, hi with
                          | 0, _ => exact c0
                          | 1, _ => exact c1) 9 Tryz.underlying9
                        unfold mkS
                        exact this
                      clear hlx hn0 he0 hb
                      go_wp2_with fail
                      refine (HPT.out _ (by exact (Below.refl _ _).alloc (Nat.le_refl _) _)).mono ?_
                      rintro e w7 ⟨rfl, a4, hg4, hA4, hK4⟩
                      have hBA : Below wc.heap.size wc (wc.alloc (.cells #[.int .u8 ((n0 : Int) + 1), .int .u8 (kk : Int)] 5)) := (Below.refl _ _).alloc (Nat.le_refl _) _
                      have HB7 := hide (hK4.old (HA6.out.below hBA) (HB6.out.trans (hBA.mono HB6.out.size)) (Nat.le_trans HB6.out.size hBA.size))
                      have HM7 := hide ((HM6.out.below hBA).step hK4)
                      have HR7 := hide (hK4.blk (HR5.out.below hBA HR5.out.lt) HNF.out)
                      have HA7 := hide hA4; have HG7 := hide (hg4.trans HG.out)
                      clear hBA hA4 hK4 hg4 hcv q1 q2
                      by_cases he : e0 = 0
                      · subst he
                        obtain ⟨q1, q2⟩ := HM7.out.pu.cell hkk
                        have HM8 := hide (HM7.out.setPut kk (n0 + 1))
                        have HA8 := hide (HA7.out.far (p := ⟨pb, kk, none⟩) HM7.out.n1 (.int .i64 ((n0 + 1 : Nat) : Int)))
                        have HB8 := hide (HB7.out.setCell (p := ⟨pb, kk, none⟩) HM7.out.ptb (.int .i64 ((n0 + 1 : Nat) : Int)))
                        have HR8 := hide (HR7.out.far (p := ⟨pb, kk, none⟩) HNP.out (.int .i64 ((n0 + 1 : Nat) : Int)))
                        have HI8 := hide (HI5.out.putYes HP.out HLX.out n0 HN0.out HE0.out)
                        go_wp2_with fail
                        go_meet
                        case rel => exact ⟨a4, _, _, HG7, HA8, HB8, HM8, HI8, hide (fun j => by unfold updF; have := HPU.out j; split <;> omega), HR8⟩
                      · have d3 : (e0 == 0) = false := beq_eq_false_iff_ne.2 he
                        have HI8 := hide (HI5.out.putNo HP.out HLX.out (mkS kk (n0 + 1)) (by rw [HE0.out]; exact he))
                        go_wp2_with fail
                        go_meet
                        case rel => exact ⟨a4, _, put, HG7, HA7, HB7, HM7, HI8, hide (fun j => Nat.le_succ_of_le (HPU.out j)), HR7⟩
                  case rest =>
                    obtain ⟨a4, c4', put', HG4, HA7, HB7, HM7, HI7, HPU7, HR7⟩ := hcut
                    have HPLY : Hid (Calls Tryz.prog 9 #[.pointer (some ⟨a.g, 0, none⟩), .agg #[.slice A1 l1 c1, .slice A2 l2 c2, .slice A3 l3 c3, .slice A4 l4 c4]] wc fun e w' => e = .returned (errV (playE p fy r c4')) ∧ ClTo wc w2.heap.size a4 (fullN p) p ⟨.slice A p.sl.length c, .slice AL p.lk.length cl, .slice AQ p.wn.length cq⟩ fy c4' w' (playF p fy r c4')) := hide (by
                      have h1 := play_any wc w2 A AL c cl rfl rfl HA7.out HP.out HI7.out.ok (by omega) (by have := HI7.out.rd; omega) hf16 HS3.out HL3.out HB7.out (Nat.le_refl _) HB7.out.size HE3.out A1 c1 r (HM1.out.below (Nat.le_refl _) HB2.out) HN1.out A2 c2 (HM2.out.below (Nat.le_refl _) HB2.out) HN2.out A3 c3 (HM3.out.below (Nat.le_refl _) HB2.out) HN3.out A4 c4 (HM4.out.below (Nat.le_refl _) HB2.out) HN4.out
                      rw [HG4.out, HL1.out, HLe2.out, HLe3.out, HLe4.out] at h1
                      exact h1)
                    obtain ⟨z0, z1, z2, z3⟩ := HR7.out.cells4
                    obtain ⟨pe, hpe⟩ : ∃ pe, playE p fy r c4' = pe := ⟨_, rfl⟩
                    rw [hpe] at HPLY
                    clear hpe
                    go_wp2_with fail
                    refine HPLY.out.mono ?_
                    rintro e w8 ⟨rfl, a5, hg5, hA5, hK5⟩
                    have HG5 := hide (hg5.trans HG4.out); have HA8 := hide hA5
                    have HB8 := hide (hK5.old HA7.out HB7.out HB7.out.size)
                    have HM8 := hide (HM7.out.step hK5)
                    have HI8 := hide (HI7.out.play HP.out fy r)
                    clear hg5 hA5 hK5 z0 z1 z2 z3
                    clear HPLY HR7 HI7 HM7 HB7 HA7 HG4 HM1 HM2 HM3 HM4 HN1 HN2 HN3 HN4 HL1 HLe2 HLe3 HLe4
                    go_wp2_with fail
                    have HS := hide (show OrS w2 w8 pb nl nd (1 + 2592 * (i + 1)) (i + 1) a.g G put' p ⟨.slice A p.sl.length c, .slice AL p.lk.length cl, .slice AQ p.wn.length cq⟩ fy from ⟨a5, _, _, HG5.out, HA8.out, HB8.out, HM8.out, HI8.out⟩)
                    clear HG5 HA8 HB8 HM8 HI8
                    go_loopw [15] (fun v wr => ∃ k : Nat, k ≤ nl ∧ v = .int .i64 k ∧ Hid (OrS w2 wr pb nl nd (1 + 2592 * (i + 1)) (i + 1) a.g G put' p ⟨.slice A p.sl.length c, .slice AL p.lk.length cl, .slice AQ p.wn.length cq⟩ fy)) (fun v _ => nl - (intOf v).toNat)
                    case atStart => exact ⟨0, by omega, rfl, HS⟩
                    case round =>
                      obtain ⟨k, hk, rfl, HSr⟩ := hrel
                      have HBr := hide HSr.out.bel
                      have HXr := hide (HX2.out.below HBr.out HX2.out.lt)
                      obtain ⟨x0, x1, x2, x3, x4, x5, x6, x7, x8, x9⟩ := plan_cells HXr.out
                      rw [HNL.out] at x7
                      clear x0 x1 x2 x3 x4 x5 x6 x8 x9
                      by_cases hlt : k < nl
                      · go_wp2_with fail
                        clear x7
                        go_loopw [16] (fun v wr => ∃ n : Nat, n ≤ nd ∧ v = .int .i64 n ∧ Hid (OrS w2 wr pb nl nd (1 + 2592 * (i + 1)) (i + 1) a.g G put' p ⟨.slice A p.sl.length c, .slice AL p.lk.length cl, .slice AQ p.wn.length cq⟩ fy)) (fun v _ => nd - (intOf v).toNat)
                        case atStart => exact ⟨0, by omega, rfl, HSr⟩
                        case round =>
                          obtain ⟨n, hn, rfl, HSn⟩ := hrel
                          have HBn := hide HSn.out.bel
                          have HXn := hide (HX2.out.below HBn.out HX2.out.lt)
                          obtain ⟨x0, x1, x2, x3, x4, x5, x6, x7, x8, x9⟩ := plan_cells HXn.out
                          rw [HPN.out] at x0
                          clear x1 x2 x3 x4 x5 x6 x7 x8 x9
                          by_cases hln : n < nd
                          · go_wp2_with fail
                            clear x0
                            go_loopw [17] (fun v wr => ∃ j : Nat, j ≤ 20 ∧ v = .int .i64 j ∧ Hid (OrS w2 wr pb nl nd (1 + 2592 * (i + 1)) (i + 1) a.g G put' p ⟨.slice A p.sl.length c, .slice AL p.lk.length cl, .slice AQ p.wn.length cq⟩ fy)) (fun v _ => 20 - (intOf v).toNat)
                            case atStart => exact ⟨0, by omega, rfl, HSn⟩
                            case round =>
                              obtain ⟨j, hj, rfl, HSj⟩ := hrel
                              by_cases hlj : j < 20
                              · have HRC := hide (HSj.out.recv HP.out AL cl rfl HL3.out HNL.out HPN.out hlt hln)
                                go_wp2_with fail
                                refine HRC.out.mono ?_
                                rintro e w9 (⟨er, hne, rfl, hS9⟩ | ⟨x, la, rfl, hla, hx, t1, t2, t3, t4, hS9⟩)
                                · have d3 : (er != 0) = true := bne_iff_ne.2 hne
                                  have HS9 := hide hS9
                                  clear hS9 hne
                                  go_wp2_with fail
                                  go_roundw
                                  case rel => exact ⟨n + 1, by omega, by go_num, HS9⟩
                                  case measure => simp [intOf]; omega
                                · have HS9 := hide hS9
                                  have hxp := HPU7.out k
                                  obtain ⟨px, hpx⟩ : ∃ px, put' k = px := ⟨_, rfl⟩
                                  rw [hpx] at hx t4 hxp
                                  have HPX := hide hpx
                                  obtain ⟨gr, hgr⟩ : ∃ gr, G k = gr := ⟨_, rfl⟩
                                  rw [hgr] at t1 t2 t3 HS9
                                  have hsi := fun W => mkS_idx (k := k) (n := x) (by omega) (by omega) W
                                  have hsz := mkS_size k x
                                  obtain ⟨ms, hms⟩ : ∃ ms, mkS k x = ms := ⟨_, rfl⟩
                                  rw [hms] at hsi hsz
                                  have hs0 := fun W => (hsi W).1
                                  have hs1 := fun W => (hsi W).2
                                  rw [hms]
                                  have hx8 : x < 256 := by omega
                                  have d4 : decide ((x : Int) ≤ (la : Int)) = false := decide_eq_false (by omega)
                                  have d4n : decide (x ≤ la) = false := decide_eq_false (by omega)
                                  have d5n : decide (px < x) = false := decide_eq_false (by omega)
                                  have d5 : decide ((px : Int) < (x : Int)) = false := decide_eq_false (by omega)
                                  clear hS9 hsi hms hgr hpx hxp hla hx
                                  go_wp2_with fail
                                  go_quiet (fail)
                                  clear d4 d4n d5 d5n
                                  obtain ⟨wq, hwq⟩ : ∃ wq, w9.drewN nq = wq := ⟨_, rfl⟩
                                  have HBq : Hid (Below w9.heap.size w9 wq) := hide (by rw [← hwq]; exact below_drewN (Below.refl _ _) nq)
                                  rw [hwq]
                                  clear hwq
                                  have t1q := (HBq.out.cell (p := ⟨pb + 1, k, none⟩) (World.block_lt_of_cell? _ _ t1)).trans t1
                                  have t2q := (HBq.out.cell (p := ⟨gr, n, none⟩) (World.block_lt_of_cell? _ _ t2)).trans t2
                                  have t3q : wq.frozen? ⟨gr, n, none⟩ = false := (HBq.out.frozen (p := ⟨gr, n, none⟩) (World.block_lt_of_cell? _ _ t2)).trans t3
                                  clear t1 t2 t3 t4
                                  go_wp2_with fail
                                  go_region
                                  go_wp2_with fail
                                  go_roundw
                                  case rel => exact ⟨j + 1, by omega, by go_num, hide ((HS9.out wq HBq.out).below (below_drewN (Below.refl _ _) 1))⟩
                                  case measure => simp [intOf]; omega
                              · obtain rfl : j = 20 := by omega
                                go_wp2_with fail
                                go_roundw
                                case rel => exact ⟨n + 1, by omega, by go_num, HSj⟩
                                case measure => simp [intOf]; omega
                          · obtain rfl : n = nd := by omega
                            go_wp2_with fail
                            go_roundw
                            case rel => exact ⟨k + 1, by omega, by go_num, HSn⟩
                            case measure => simp [intOf]; omega
                      · obtain rfl : k = nl := by omega
                        obtain ⟨a6, c6, last6, q1, q2, q3, q4, q5⟩ := HSr.out
                        have HQ1 := hide q1; have HQ2 := hide q2; have HQ3 := hide q3; have HQ4 := hide q4; have HQ5 := hide q5
                        clear q1 q2 q3 q4 q5
                        go_wp2_with fail
                        go_roundw
                        case rel => exact ⟨i + 1, a6, c6, put', last6, by omega, by go_num, HQ1, HQ2, HQ3, HQ4, HQ5, HPU7⟩
                        case measure => simp [intOf]; omega
            · obtain rfl : i = nr := by omega
              go_wp2_with fail
              go_ret
              exact ⟨rfl, HBw.out⟩
end Go.Proofs.YtdogdlnaacimpaaGreatDoor
