/- metronomekeep.ClusterApart's walk; conditions: errors.errorType as laid, the plan, what is said and the others lie in memory. -/
import Derived.Test.YtdogdlnaacimpaaGreatDoorM24
import Derived.Test.YtdogdlnaacimpaaGreatDoorM23
set_option linter.unusedVariables false
set_option linter.unusedSimpArgs false
namespace Go.Proofs.YtdogdlnaacimpaaGreatDoor
open Go Go.RowKit
attribute [local irreducible] chk begF pck playF playE putE putQ

/-- One byte. -/
def oneS (i : Nat) : ByteArray := strOfNums [(i : Int)]
theorem oneS_size (i : Nat) : (oneS i).size = 1 := by unfold oneS; rw [strOfNums_size]; rfl
theorem ApI.begin_ {p : Pl} (hp : PlOk p) (node : Int) (k1 k2 : List Int) : ApI p 1 0 node (startF p (begC p k1)) (startF p (begC p k2)) :=
  ⟨start_ok hp (begC_len p k1) (begC_wild hp k1), start_ok hp (begC_len p k2) (begC_wild hp k2), by unfold startF; show (0 : Int) ≤ (0 : Nat); decide, Ap.start p node _ _⟩
theorem ApI.play {p : Pl} (hp : PlOk p) {R : Nat} {node : Int} {x y : Cl} (h : ApI p (1 + 2592 * R) R node x y) (fy : Nat) {r r' : Rn} (h1 : r'.ls = r.ls) (h2 : r'.md = r.md) (e1 : playE p fy r x = 0) (e2 : playE p fy r' y = 0) : ApI p (1 + 2592 * (R + 1)) (R + 1) node (playF p fy r x) (playF p fy r' y) :=
  ⟨(playF_ok hp h.okx fy r).mono (by omega), (playF_ok hp h.oky fy r').mono (by omega), by rcases playF_rd p fy r x with e | e <;> rw [e] <;> have := h.rx <;> omega, h.ap.play fy h1 h2 e1 e2⟩
theorem ApI.putLR {p : Pl} (hp : PlOk p) {N R : Nat} {node : Int} {x y : Cl} (h : ApI p N R node x y) {k : Nat} {l : Lk} (hl : p.lk[k]? = some l) (d : ByteArray) : ApI p N R node (clPut k l d x) (clPut k l d y) :=
  ⟨clPut_ok hp h.okx hl d, clPut_ok hp h.oky hl d, h.rx, h.ap.put k l d⟩
theorem ApI.putL {p : Pl} (hp : PlOk p) {N R : Nat} {node : Int} {x y : Cl} (h : ApI p N R node x y) {k : Nat} {l : Lk} (hl : p.lk[k]? = some l) (d : ByteArray) (hf : l.f ≠ node) : ApI p N R node (clPut k l d x) y :=
  ⟨clPut_ok hp h.okx hl d, h.oky, h.rx, h.ap.putL k l d hl hf⟩
theorem ApI.putR {p : Pl} (hp : PlOk p) {N R : Nat} {node : Int} {x y : Cl} (h : ApI p N R node x y) {k : Nat} {l : Lk} (hl : p.lk[k]? = some l) (d : ByteArray) (hf : l.f ≠ node) : ApI p N R node x (clPut k l d y) :=
  ⟨h.okx, clPut_ok hp h.oky hl d, h.rx, h.ap.putR k l d hl hf⟩
theorem first_below {a W b : World} (h : Below W.heap.size W b) (h0 : Below a.heap.size a W) : Below a.heap.size a b := h0.trans (h.mono h0.size)
theorem tellV (e : Int) (w : World) (hg : ErrT w) : Calls Tryz.prog 10 #[errV e] w fun r w' => r = .returned (.int .i64 e) ∧ Below w.heap.size w w' := by
  by_cases h : e = 0
  · subst h
    exact (tell_nil w).mono fun r w' ⟨h1, h2⟩ => ⟨h1, by subst h2; exact Below.refl _ _⟩
  · exact tell_errV h w hg
theorem quiet_pck (a : Int) (n : Nat) (x : Nat) (hx : pck a n = x) (h0 : 0 < n) (h1 : n ≤ 9223372036854775807) (w : World) : Calls Tryz.prog 14 #[.int .i64 a, .int .i64 n] w fun e w' => e = .returned (.int .i64 (x : Int)) ∧ w' = w :=
  (pck_any a n w h0 h1).mono fun e w' ⟨h2, h3⟩ => ⟨by rw [← hx]; exact h2, h3.symm⟩
/-- A round's lists, as an argument. -/
theorem RnV.of {w : World} {r : Rn} {A1 A2 A3 A4 : Option Addr} {c1 c2 c3 c4 l1 l2 l3 l4 : Nat} (m1 : LossAt w A1 r.ls) (m2 : RgAt w A2 r.rg) (m3 : IsL w A3 r.dr) (m4 : IsL w A4 r.md) (n1 : r.ls.length ≤ 9223372036854775807) (n2 : r.rg.length ≤ 9223372036854775807) (n3 : r.dr.length ≤ 9223372036854775807) (n4 : r.md.length ≤ 9223372036854775807) (h1 : r.ls.length = l1) (h2 : r.rg.length = l2) (h3 : r.dr.length = l3) (h4 : r.md.length = l4) : RnV w (.agg #[.slice A1 l1 c1, .slice A2 l2 c2, .slice A3 l3 c3, .slice A4 l4 c4]) r :=
  ⟨A1, c1, A2, c2, A3, c3, A4, c4, by rw [h1, h2, h3, h4], m1, m2, m3, m4, n1, n2, n3, n4⟩
theorem RnV.quiet {w : World} {r : Rn} {A1 A4 : Option Addr} {c1 c4 l1 l4 : Nat} (m1 : LossAt w A1 r.ls) (m4 : IsL w A4 r.md) (n1 : r.ls.length ≤ 9223372036854775807) (n4 : r.md.length ≤ 9223372036854775807) (h1 : r.ls.length = l1) (h4 : r.md.length = l4) : RnV w (.agg #[.slice A1 l1 c1, .slice none 0 0, .slice none 0 0, .slice A4 l4 c4]) ⟨r.ls, [], [], r.md⟩ :=
  ⟨A1, c1, none, 0, none, 0, A4, c4, by rw [← h1, ← h4]; rfl, m1, fun j x h => by simp at h, fun j h => by simp at h, m4, n1, by simp, by simp, n4⟩
theorem conv_one (W : World) (i : Nat) : (convert 48 9 (.slice (some ⟨W.heap.size, 0, none⟩) 1 1)).run Tryz.prog (W.alloc (.cells #[.int .u8 (i : Int)] 5)) = .ok (.string (oneS i)) (W.alloc (.cells #[.int .u8 (i : Int)] 5)) := by
  obtain ⟨c0, -⟩ := (Blk.new W 5 #[.int .u8 (i : Int)]).cells1
  have := run_convert_bytes_arg (P := Tryz.prog) (W.alloc (.cells #[.int .u8 (i : Int)] 5)) 48 5 Tryz.underlying48 Tryz.underlying5 W.heap.size 0 1 1 [(i : Int)] rfl (fun j hj => by
    match j, hj with
    | 0, _ => exact c0) 9 Tryz.underlying9
  unfold oneS
  exact this
theorem link_from {w : World} {AL : Option Addr} {n k : Nat} {ws : List Lk} (h : LinksAt w AL n ws) (hk : k < n) : ∃ bl ol l, AL = some ⟨bl, ol, none⟩ ∧ ws[k]? = some l ∧ bl < w.heap.size ∧ w.cell? ⟨bl, ol + k * 4, none⟩ = some (.int .i64 l.f) := by
  obtain ⟨bl, ol, hA, l, hl, h1, -⟩ := h k hk
  exact ⟨bl, ol, l, hA, hl, World.block_lt_of_cell? _ _ h1, h1⟩
theorem cells44 {w : World} {g g2 : Nat} {t t2 : TypeId} {a0 a1 a2 a3 b0 b1 b2 b3 : Value} (h : Blk w g t #[a0, a1, a2, a3]) (h2 : Blk w g2 t2 #[b0, b1, b2, b3]) : w.cell? ⟨g, 0, none⟩ = some a0 ∧ w.cell? ⟨g, 1, none⟩ = some a1 ∧ w.cell? ⟨g, 2, none⟩ = some a2 ∧ w.cell? ⟨g, 3, none⟩ = some a3 ∧ w.cell? ⟨g2, 0, none⟩ = some b0 ∧ w.cell? ⟨g2, 1, none⟩ = some b1 ∧ w.cell? ⟨g2, 2, none⟩ = some b2 ∧ w.cell? ⟨g2, 3, none⟩ = some b3 :=
  ⟨by simpa using h.cell 0, by simpa using h.cell 1, by simpa using h.cell 2, by simpa using h.cell 3, by simpa using h2.cell 0, by simpa using h2.cell 1, by simpa using h2.cell 2, by simpa using h2.cell 3⟩
/-- What begun answers. -/
def BgPost (p : Pl) (P : Sv3) (fy : Nat) (ks : List Int) (W : World) (v : Value) (w' : World) : Prop := Below W.heap.size W w' ∧ (v = .pointer none ∨ (chk p = (0, -1) ∧ ∃ a : Ad, v = .pointer (some ⟨a.g, 0, none⟩) ∧ ClAt w' W.heap.size a (fullN p) p P fy (startF p (begC p ks))))
theorem BgPost.bel {p : Pl} {P : Sv3} {fy : Nat} {ks : List Int} {W w' : World} {v : Value} (h : BgPost p P fy ks W v w') : Below W.heap.size W w' := h.1
/-- Two begun. -/
def BgTwo (p : Pl) (P : Sv3) (fy : Nat) (k1 k2 : List Int) (w2 : World) (v1 v2 : Value) (w : World) : Prop := Below w2.heap.size w2 w ∧ (v1 = .pointer none ∨ ((∃ g, v1 = .pointer (some ⟨g, 0, none⟩)) ∧ v2 = .pointer none) ∨ ∃ ga gb, v1 = .pointer (some ⟨ga, 0, none⟩) ∧ v2 = .pointer (some ⟨gb, 0, none⟩) ∧ chk p = (0, -1) ∧ DuG w2 w ga gb p P fy (startF p (begC p k1)) (startF p (begC p k2)) w [])
theorem BgPost.two {p : Pl} {P : Sv3} {fy : Nat} {k1 k2 : List Int} {w2 W1 W2 W3 W4 : World} {v1 v2 : Value} (h1 : BgPost p P fy k1 W1 v1 W2) (hB : Below w2.heap.size w2 W1) (hC : Below W2.heap.size W2 W3) (h2 : BgPost p P fy k2 W3 v2 W4) : BgTwo p P fy k1 k2 w2 v1 v2 W4 := by
  obtain ⟨b1, c1⟩ := h1
  obtain ⟨b2, c2⟩ := h2
  have e1 := hB.trans (b1.mono hB.size)
  have e2 := e1.trans (hC.mono e1.size)
  have e3 := e2.trans (b2.mono e2.size)
  refine ⟨e3, ?_⟩
  rcases c1 with rfl | ⟨hc, a, rfl, hA⟩
  · exact .inl rfl
  · rcases c2 with rfl | ⟨-, b, rfl, hB2⟩
    · exact .inr (.inl ⟨⟨_, rfl⟩, rfl⟩)
    · refine .inr (.inr ⟨_, _, rfl, rfl, hc, a, b, rfl, rfl, ?_, e3, fun g hg => by simp at hg⟩)
      have hs := hB.size
      exact (DuoAt.start ((hA.mono hs).below hC) b2 hB2 e2.size)
set_option maxRecDepth 100000 in
set_option maxHeartbeats 8000000 in
theorem apart_any (w : World) (hE : ErrT w) (p : Pl) (A : Option Addr) (c : Nat) (AL : Option Addr) (cl : Nat) (AQ : Option Addr) (cq : Nat) (s2 : SlotsAt w A p.sl.length p.sl) (l2 : LinksAt w AL p.lk.length p.lk) (q2 : WinsAt w AQ p.wn.length p.wn)
    (f0 : Int) (D : Option Addr) (cd : Nat) (l : List (Int × Rn)) (hR : SaAt w D l) (B : Option Addr) (cb : Nat) (ot : List Int) (hI : IsL w B ot) (nx : Int) :
    Calls Tryz.prog 5 #[.agg (planC p.nd p.fa p.sk p.ji p.dr p.rd (.slice A p.sl.length c) (.slice AL p.lk.length cl) p.fr (.slice AQ p.wn.length cq)), .int .i64 f0, .slice D l.length cd, .slice B ot.length cb, .int .i64 nx] w fun e w' => e = .returned (.bool true) ∧ Below w.heap.size w w' := by
  obtain ⟨nr, hnr⟩ : ∃ nr, l.length = nr := ⟨_, rfl⟩
  obtain ⟨no, hno⟩ : ∃ no, ot.length = no := ⟨_, rfl⟩
  obtain ⟨w1, hw1⟩ : ∃ w1, w.alloc (.cells (planC p.nd p.fa p.sk p.ji p.dr p.rd (.slice A p.sl.length c) (.slice AL p.lk.length cl) p.fr (.slice AQ p.wn.length cq)) 26) = w1 := ⟨_, rfl⟩
  have hB1 : Below w.heap.size w w1 := by rw [← hw1]; exact (Below.refl w.heap.size w).alloc (Nat.le_refl _) _
  have hX : Blk w1 w.heap.size 26 (planC p.nd p.fa p.sk p.ji p.dr p.rd (.slice A p.sl.length c) (.slice AL p.lk.length cl) p.fr (.slice AQ p.wn.length cq)) := by rw [← hw1]; exact Blk.new w _ _
  have HX := hide hX; have HB1 := hide hB1; have HW1 := hide hw1; have HS2 := hide s2; have HL2 := hide l2; have HQ2 := hide q2; have HR := hide hR; have HE := hide hE; have HNR := hide hnr; have HI := hide hI; have HNO := hide hno
  rw [hnr, hno]
  clear hX hB1 hw1 s2 l2 q2 hR hE hnr hno hI
  by_cases h60 : 40 < nr
  · have d1 : decide ((40 : Int) < (nr : Int)) = true := decide_eq_true (by omega)
    go_enter Tryz.func5, Tryz.ntmps5
    go_wp2_with fail
    rw [HW1.out]
    go_ret
    exact ⟨rfl, HB1.out⟩
  · have d1 : decide ((40 : Int) < (nr : Int)) = false := decide_eq_false (by omega)
    have HPL := hide (played_any w1 (errT_below HE.out (HB1.out)))
    go_enter Tryz.func5, Tryz.ntmps5
    go_wp2_with fail
    rw [HW1.out]
    refine HPL.out.mono ?_
    rintro e w2 ⟨rfl, hB2⟩
    have HX2 := hide (HX.out.below hB2 HX.out.lt)
    have HB2 := hide (HB1.out.trans (hB2.mono HB1.out.size))
    clear hB2
    have HPQ : ∀ (W : World) (B : Option Addr) (cb : Nat) (ks : List Int), Below w2.heap.size w2 W → IsL W B ks → Calls Tryz.prog 8 #[.agg (planC p.nd p.fa p.sk p.ji p.dr p.rd (.slice A p.sl.length c) (.slice AL p.lk.length cl) p.fr (.slice AQ p.wn.length cq)), .int .i64 f0, .slice B ks.length cb] W fun e w' => ∃ v, e = .returned v ∧ BgPost p ⟨.slice A p.sl.length c, .slice AL p.lk.length cl, .slice AQ p.wn.length cq⟩ (begF p.fa (pck f0 (2 ^ p.nd.toNat)) p.nd.toNat).1 ks W v w' := fun W B cb ks hB hI => by
      have hBW := HB2.out.trans (hB.mono HB2.out.size)
      refine (begun_any W p A c AL cl AQ cq (hS0 HS2.out (Nat.le_refl _) hBW) (hL0 HL2.out (Nat.le_refl _) hBW) (HQ2.out.below hBW) f0 B cb ks hI).mono ?_
      rintro e w' ⟨h1, rfl | ⟨h2, a, rfl, h3⟩⟩
      · exact ⟨_, rfl, h1, .inl rfl⟩
      · exact ⟨_, rfl, h1, .inr ⟨h2, a, rfl, h3⟩⟩
    obtain ⟨fy, hfy⟩ : ∃ fy, (begF p.fa (pck f0 (2 ^ p.nd.toNat)) p.nd.toNat).1 = fy := ⟨_, rfl⟩
    rw [hfy] at HPQ
    have HFY := hide hfy
    have HBG1 : Hid (∀ W : World, Below w2.heap.size w2 W → Calls Tryz.prog 8 #[.agg #[.int .i64 p.nd, .int .i64 p.fa, .int .i64 p.sk, .int .i64 p.ji, .int .i64 p.dr, .int .i64 p.rd, .slice A p.sl.length c, .slice AL p.lk.length cl, .int .i64 p.fr, .slice AQ p.wn.length cq], .int .i64 f0, .slice none 0 0] W fun e w' => ∃ v, e = .returned v ∧ BgPost p ⟨.slice A p.sl.length c, .slice AL p.lk.length cl, .slice AQ p.wn.length cq⟩ fy [] W v w') := hide (fun W hB => HPQ W none 0 [] hB (fun j h => by simp at h))
    have HBG2 : Hid (∀ (W : World) (b : Nat), Below w2.heap.size w2 W → Blk W b 3 #[.int .i64 1, .int .i64 2, .int .i64 0, .int .i64 5, .int .i64 3] → Calls Tryz.prog 8 #[.agg #[.int .i64 p.nd, .int .i64 p.fa, .int .i64 p.sk, .int .i64 p.ji, .int .i64 p.dr, .int .i64 p.rd, .slice A p.sl.length c, .slice AL p.lk.length cl, .int .i64 p.fr, .slice AQ p.wn.length cq], .int .i64 f0, .slice (some ⟨b, 0, none⟩) 5 5] W fun e w' => ∃ v, e = .returned v ∧ BgPost p ⟨.slice A p.sl.length c, .slice AL p.lk.length cl, .slice AQ p.wn.length cq⟩ fy [1, 2, 0, 5, 3] W v w') := hide (fun W b hB hb => HPQ W (some ⟨b, 0, none⟩) 5 [1, 2, 0, 5, 3] hB (fun j h => by
      refine ⟨b, 0, rfl, ?_⟩
      have := hb.cell j
      rw [Nat.zero_add, this]
      match j, h with
      | 0, _ => rfl
      | 1, _ => rfl
      | 2, _ => rfl
      | 3, _ => rfl
      | 4, _ => rfl))
    have HXW : Hid (∀ W, Below w2.heap.size w2 W → Blk W w.heap.size 26 (planC p.nd p.fa p.sk p.ji p.dr p.rd (.slice A p.sl.length c) (.slice AL p.lk.length cl) p.fr (.slice AQ p.wn.length cq))) := hide (fun W hB => HX2.out.below hB HX2.out.lt)
    have HBD : Hid (Below w2.heap.size w2 w2.drew) := hide (below_drewN (Below.refl w2.heap.size w2) 1)
    have HBA : Hid (Below w2.heap.size w2 (w2.alloc (.cells #[.int .i64 1, .int .i64 2, .int .i64 0, .int .i64 5, .int .i64 3] 3)).drew) := hide (below_drewN ((Below.refl w2.heap.size w2).alloc (Nat.le_refl _) (.cells #[.int .i64 1, .int .i64 2, .int .i64 0, .int .i64 5, .int .i64 3] 3)) 1)
    have HBKA : Hid (Blk (w2.alloc (.cells #[.int .i64 1, .int .i64 2, .int .i64 0, .int .i64 5, .int .i64 3] 3)).drew w2.heap.size 3 #[.int .i64 1, .int .i64 2, .int .i64 0, .int .i64 5, .int .i64 3]) := hide (Blk.new w2 3 #[.int .i64 1, .int .i64 2, .int .i64 0, .int .i64 5, .int .i64 3])
    clear hfy HPQ
    go_upto_region 5 with fail
    go_cut [11, 12] from 34 to 40 (fun v11 v12 wx => Hid (BgTwo p ⟨.slice A p.sl.length c, .slice AL p.lk.length cl, .slice AQ p.wn.length cq⟩ fy [] [1, 2, 0, 5, 3] w2 v11 v12 wx))
    case first =>
      go_region_held3 (fun w' => w'.cell? ⟨w.heap.size, 0, none⟩ = some (.int .i64 p.nd) ∧ w'.cell? ⟨w.heap.size, 1, none⟩ = some (.int .i64 p.fa) ∧ w'.cell? ⟨w.heap.size, 2, none⟩ = some (.int .i64 p.sk) ∧ w'.cell? ⟨w.heap.size, 3, none⟩ = some (.int .i64 p.ji) ∧ w'.cell? ⟨w.heap.size, 4, none⟩ = some (.int .i64 p.dr) ∧ w'.cell? ⟨w.heap.size, 5, none⟩ = some (.int .i64 p.rd) ∧ w'.cell? ⟨w.heap.size, 6, none⟩ = some (.slice A p.sl.length c) ∧ w'.cell? ⟨w.heap.size, 7, none⟩ = some (.slice AL p.lk.length cl) ∧ w'.cell? ⟨w.heap.size, 8, none⟩ = some (.int .i64 p.fr) ∧ w'.cell? ⟨w.heap.size, 9, none⟩ = some (.slice AQ p.wn.length cq)) (first | (with_reducible exact plan_cells (HXW.out _ HBD.out)) | (with_reducible exact plan_cells (HXW.out _ HBA.out)) | (with_reducible exact plan_cells (HXW.out _ HB3.out)) | (with_reducible exact plan_cells (HXW.out _ HB3A.out)) | (with_reducible exact plan_cells (HXW.out _ HB4.out)))
        (first
          | (go_at_call 8; (with_reducible refine (HBG1.out _ (by first | (with_reducible exact HBD.out) | (with_reducible exact HBA.out))).mono ?_); rintro e w3 ⟨v3, rfl, hp3⟩; have HP3 := hide hp3; have HB3 : Hid (Below w2.heap.size w2 w3) := hide (by first | (with_reducible exact first_below hp3.bel HBD.out) | (with_reducible exact first_below hp3.bel HBA.out)); have HB3A := hide (HB3.out.alloc HB3.out.size (.cells #[.int .i64 1, .int .i64 2, .int .i64 0, .int .i64 5, .int .i64 3] 3)); have HBK3 := hide (Blk.new w3 3 #[.int .i64 1, .int .i64 2, .int .i64 0, .int .i64 5, .int .i64 3]); clear hp3)
          | (go_at_call 8; (with_reducible refine (HBG2.out _ _ (by first | (with_reducible exact HB3.out) | (with_reducible exact HB3A.out)) (by first | (with_reducible exact HBK3.out) | (with_reducible exact HBKA.out.below HP3.out.bel HBKA.out.lt))).mono ?_); rintro e w4 ⟨v4, rfl, hp4⟩; have HP4 := hide hp4; have HB4 : Hid (Below w2.heap.size w2 w4) := hide (by first | (with_reducible exact first_below hp4.bel HB3.out) | (with_reducible exact first_below hp4.bel HB3A.out)); clear hp4))
      all_goals (go_wp2_with fail; go_meet; case rel => exact hide (by first | (with_reducible exact HP3.out.two HBD.out (Below.refl _ _) HP4.out) | (with_reducible exact HP3.out.two HBA.out (Below.refl _ _) HP4.out) | (with_reducible exact HP3.out.two HBD.out ((Below.refl _ _).alloc (Nat.le_refl _) _) HP4.out)))
    case rest =>
      clear HBG1 HBG2 HXW HBD HBA HBKA
      obtain ⟨hB, rfl | ⟨⟨g, rfl⟩, rfl⟩ | ⟨ga, gb, rfl, rfl, hchk, hD⟩⟩ := hcut.out
      · have HB3 := hide (HB2.out.trans (hB.mono HB2.out.size))
        clear hB hcut
        go_wp2_with fail
        go_ret
        exact ⟨rfl, HB3.out⟩
      · have HB3 := hide (HB2.out.trans (hB.mono HB2.out.size))
        clear hB hcut
        go_wp2_with fail
        go_ret
        exact ⟨rfl, HB3.out⟩
      · have hp := PlOk.of hchk
        have hn16 := hp.n16
        have hn1 := hp.n1
        have hnl := hp.lk
        have hfl : fy < 2 ^ p.nd.toNat := by rw [← HFY.out]; exact begF_lt p.fa (pck_lt f0 (Nat.two_pow_pos _)) _
        have hf16 : fy < 65536 := by
          have : (2 : Nat) ^ p.nd.toNat ≤ 2 ^ 16 := Nat.pow_le_pow_right (by omega) (by omega)
          omega
        have HP := hide hp; have HD := hide hD
        have HB3 := hide hB
        have HS3 := hide (hS0 HS2.out (Nat.le_refl _) HB2.out); have HL3 := hide (hL0 HL2.out (Nat.le_refl _) HB2.out)
        have HE3 := hide (errT_below HE.out HB2.out)
        obtain ⟨nd, hnd⟩ : ∃ nd, p.nd.toNat = nd := ⟨_, rfl⟩
        have hpn : p.nd = (nd : Int) := by omega
        obtain ⟨nl, hnl'⟩ : ∃ nl, p.lk.length = nl := ⟨_, rfl⟩
        have HNL := hide hnl'
        have hnl8 : nl ≤ 64 := by omega
        have hnd16 : nd ≤ 16 := by omega
        have hnd1 : 0 < nd := by omega
        have HPN := hide hpn; have HND := hide hnd
        obtain ⟨nod, hnod⟩ : ∃ nod : Nat, pck nx nd = nod := ⟨_, rfl⟩
        have HPK := hide (quiet_pck nx nd nod hnod hnd1 (by omega))
        have HI0 := hide (ApI.begin_ hp (nod : Int) [] [1, 2, 0, 5, 3])
        clear hp hD hB hcut hchk hfl hn16 hn1 hnl hpn hnd hnl' hnod hnd1
        obtain ⟨x0, x1, x2, x3, x4, x5, x6, x7, x8, x9⟩ := plan_cells (HX2.out.below HB3.out HX2.out.lt)
        rw [HPN.out] at x0
        clear x1 x2 x3 x4 x5 x6 x7 x8 x9
        go_wp2_with fail
        refine (HPK.out _).mono ?_
        rintro e w3 ⟨rfl, rfl⟩
        clear x0 HPK
        go_wp2_with fail
        go_loopw [13] (fun v wr => ∃ (i : Nat) (x y : Cl), i ≤ nr ∧ v = .int .i64 i ∧ Hid (DuG w2 wr ga gb p ⟨.slice A p.sl.length c, .slice AL p.lk.length cl, .slice AQ p.wn.length cq⟩ fy x y wr []) ∧ Hid (ApI p (1 + 2592 * i) i (nod : Int) x y)) (fun v _ => nr - (intOf v).toNat)
        case atStart => exact ⟨0, _, _, by omega, rfl, HD, HI0⟩
        case round =>
          obtain ⟨i, x, y, hi, rfl, HDr, HI5⟩ := hrel
          have HB5 := hide HDr.out.bel
          have HBw := hide (HB2.out.trans (HB5.out.mono HB2.out.size))
          by_cases hlt : i < nr
          · obtain ⟨r, hr⟩ : ∃ r, l[i]? = some r := ⟨_, List.getElem?_eq_getElem (by rw [HNR.out]; exact hlt)⟩
            obtain ⟨lk, r⟩ := r
            obtain ⟨b, o, rfl, z0, A1, c1, A2, c2, A3, c3, A4, c4, y0, y1, y2, y3, m1, m2, m3, m4, n1, n2, n3, n4⟩ := HR.out i _ hr
            have hbl : b < w.heap.size := World.block_lt_of_cell? _ _ y0
            have z0' := (HBw.out.cell (p := ⟨b, o + i * 5, none⟩) hbl).trans z0
            have y0' := (HBw.out.cell (p := ⟨b, o + i * 5 + 1, none⟩) hbl).trans y0
            have y1' := (HBw.out.cell (p := ⟨b, o + i * 5 + 1 + 1, none⟩) hbl).trans y1
            have y2' := (HBw.out.cell (p := ⟨b, o + i * 5 + 1 + 2, none⟩) hbl).trans y2
            have y3' := (HBw.out.cell (p := ⟨b, o + i * 5 + 1 + 3, none⟩) hbl).trans y3
            have hblr : b < wr.heap.size := Nat.lt_of_lt_of_le hbl HBw.out.size
            obtain ⟨l1, hl1⟩ : ∃ l1, r.ls.length = l1 := ⟨_, rfl⟩
            obtain ⟨l2, hl2⟩ : ∃ l2, r.rg.length = l2 := ⟨_, rfl⟩
            obtain ⟨l3, hl3⟩ : ∃ l3, r.dr.length = l3 := ⟨_, rfl⟩
            obtain ⟨l4, hl4⟩ : ∃ l4, r.md.length = l4 := ⟨_, rfl⟩
            dsimp only at z0' y0' y1' y2' y3' m1 m2 m3 m4 n1 n2 n3 n4
            rw [hl1] at y0'
            rw [hl2] at y1'
            rw [hl3] at y2'
            rw [hl4] at y3'
            have HXr := hide (HX2.out.below HB5.out HX2.out.lt)
            obtain ⟨x0, x1, x2, x3, x4, x5, x6, x7, x8, x9⟩ := plan_cells HXr.out
            have hxl := HXr.out.lt
            rw [HNL.out] at x7
            rw [HPN.out] at x0
            obtain ⟨s1, e1⟩ : ∃ s1, IntKind.i64.wrap ((l1 : Int) + (l2 : Int)) = s1 := ⟨_, rfl⟩
            obtain ⟨s2, e2⟩ : ∃ s2, IntKind.i64.wrap (s1 + (l3 : Int)) = s2 := ⟨_, rfl⟩
            obtain ⟨s3, e3⟩ : ∃ s3, IntKind.i64.wrap (s2 + (l4 : Int)) = s3 := ⟨_, rfl⟩
            have HV1 := hide (RnV.of (c1 := c1) (c2 := c2) (c3 := c3) (c4 := c4) (m1.below (Nat.le_refl _) HB2.out) (m2.below (Nat.le_refl _) HB2.out) (m3.below (Nat.le_refl _) HB2.out) (m4.below (Nat.le_refl _) HB2.out) n1 n2 n3 n4 hl1 hl2 hl3 hl4)
            have HV2 := hide (RnV.quiet (c1 := c1) (c4 := c4) (m1.below (Nat.le_refl _) HB2.out) (m4.below (Nat.le_refl _) HB2.out) n1 n4 hl1 hl4)
            clear hr z0 y0 y1 y2 y3 m1 m2 m3 m4 n1 n2 n3 n4 hl1 hl2 hl3 hl4 x1 x2 x3 x4 x5 x6 x8 x9
            cases hsm : decide ((150 : Int) < s3)
            case true =>
              go_wp2_with fail
              go_ret
              exact ⟨rfl, HBw.out.alloc HBw.out.size _⟩
            case false =>
              go_upto_region 16 with fail
              clear e1 e2 e3 y0' y1' y2' y3' hsm
              obtain ⟨W5, hW5⟩ : ∃ W5, wr.alloc (.cells #[.slice A1 l1 c1, .slice A2 l2 c2, .slice A3 l3 c3, .slice A4 l4 c4] 35) = W5 := ⟨_, rfl⟩
              obtain ⟨rb, hrb⟩ : ∃ rb, wr.heap.size = rb := ⟨_, rfl⟩
              have HR5 := hide (Blk.new wr 35 #[.slice A1 l1 c1, .slice A2 l2 c2, .slice A3 l3 c3, .slice A4 l4 c4])
              have HD5 := hide (HDr.out.more _ _ hW5)
              rw [hW5] at HR5 ⊢
              rw [hrb] at HR5 HD5 ⊢
              have HB6 := hide HD5.out.bel
              clear hW5 hrb x0 x7 hxl hblr z0'
              have HXr := hide (HX2.out.below HB6.out HX2.out.lt)
              obtain ⟨x0, x1, x2, x3, x4, x5, x6, x7, x8, x9⟩ := plan_cells HXr.out
              rw [HNL.out] at x7
              clear x0 x1 x2 x3 x4 x5 x6 x8 x9
              go_cut [91] from 83 to 91 (fun v wx => ∃ b91 : Bool, v = .bool b91 ∧ Hid ((decide (0 ≤ lk) && decide (lk < (nl : Int))) = b91) ∧ wx = W5)
              case first =>
                by_cases h0 : 0 ≤ lk
                · have d2 : decide (0 ≤ lk) = true := decide_eq_true h0
                  go_wp2_with fail
                  go_meet
                  case rel => exact ⟨_, rfl, hide (by rw [d2, Bool.true_and]), rfl⟩
                · have d2 : decide (0 ≤ lk) = false := decide_eq_false h0
                  go_wp2_with fail
                  go_meet
                  case rel => exact ⟨_, rfl, hide (by rw [d2, Bool.false_and]), rfl⟩
              case rest =>
                obtain ⟨b91, rfl, HBB, hw⟩ := hcut
                obtain rfl := hw.symm
                clear x7
                go_upto_if 91 with fail
                go_cut [16, 17] from 92 to 118 (fun v16 v17 wx => ∃ x' y' : Cl, Hid (DuG w2 wx ga gb p ⟨.slice A p.sl.length c, .slice AL p.lk.length cl, .slice AQ p.wn.length cq⟩ fy x' y' W5 [rb]) ∧ Hid (ApI p (1 + 2592 * i) i (nod : Int) x' y'))
                case first =>
                  cases b91
                  case false =>
                    go_wp2_with fail
                    go_meet
                    case rel => exact ⟨x, y, HD5, HI5⟩
                  case true =>
                    have hb := HBB.out
                    simp only [Bool.and_eq_true, decide_eq_true_eq] at hb
                    obtain ⟨kk, rfl⟩ := Int.eq_ofNat_of_zero_le hb.1
                    have hkk : kk < nl := by omega
                    have hi8 : i < 256 := by omega
                    obtain ⟨bl, ol, lx, hAL, hlx, hbl2, kf⟩ := link_from HL2.out (k := kk) (by rw [HNL.out]; exact hkk)
                    obtain ⟨e0, he0⟩ : ∃ e0, putE (oneS i).size (x.sd kk).q.length lx.q = e0 := ⟨_, rfl⟩
                    have HPA : Hid (∀ W, Below W5.heap.size W5 W → Calls Tryz.prog 12 #[.pointer (some ⟨ga, 0, none⟩), .int .i64 kk, .string (oneS i)] W fun e w' => e = .returned (errV e0) ∧ DuG w2 w' ga gb p ⟨.slice A p.sl.length c, .slice AL p.lk.length cl, .slice AQ p.wn.length cq⟩ fy (clPut kk lx (oneS i) x) y W5 [rb]) := hide (fun W hB => by
                      have h1 := (HD5.out.below hB).putA HP.out HI5.out.okx kk lx hlx (oneS i) (by rw [oneS_size]; decide)
                      rw [he0] at h1
                      exact h1)
                    have HPB : Hid (∀ w7 : World, DuG w2 w7 ga gb p ⟨.slice A p.sl.length c, .slice AL p.lk.length cl, .slice AQ p.wn.length cq⟩ fy (clPut kk lx (oneS i) x) y W5 [rb] → lx.f = nod → ∀ W, Below w7.heap.size w7 W → Calls Tryz.prog 12 #[.pointer (some ⟨gb, 0, none⟩), .int .i64 kk, .string (oneS i)] W fun e w' => e = .returned (errV e0) ∧ DuG w2 w' ga gb p ⟨.slice A p.sl.length c, .slice AL p.lk.length cl, .slice AQ p.wn.length cq⟩ fy (clPut kk lx (oneS i) x) (clPut kk lx (oneS i) y) W5 [rb]) := hide (fun w7 hd hf W hB => by
                      have h1 := (hd.below hB).putB HP.out HI5.out.oky kk lx hlx (oneS i) (by rw [oneS_size]; decide)
                      rw [← HI5.out.ap.sd kk lx hlx hf, he0] at h1
                      exact h1)
                    have HLR := hide (HI5.out.putLR HP.out hlx (oneS i))
                    have HLL := hide (fun hf => HI5.out.putL HP.out hlx (oneS i) hf)
                    obtain ⟨lf, hlf⟩ : ∃ lf, lx.f = lf := ⟨_, rfl⟩
                    rw [hlf] at kf
                    have HLF := hide hlf
                    have hcv := conv_one W5 i
                    have HAL := hide hAL
                    clear hb he0 hlx hlf hAL
                    go_wp2_with fail
                    refine (HPA.out _ (by exact (Below.refl _ _).alloc (Nat.le_refl _) _)).mono ?_
                    rintro e w7 ⟨rfl, hD7⟩
                    have HD7 := hide hD7
                    have HB7 := hide hD7.bel
                    have hBw7 := HB2.out.trans (HB7.out.mono HB2.out.size)
                    have kf7 := (hBw7.cell (p := ⟨bl, ol + kk * 4, none⟩) hbl2).trans kf
                    clear hcv kf hD7 hBw7 hbl2
                    have HXr := hide (HX2.out.below HB7.out HX2.out.lt)
                    obtain ⟨x0, x1, x2, x3, x4, x5, x6, x7, x8, x9⟩ := plan_cells HXr.out
                    rw [HNL.out, HAL.out] at x7
                    clear x0 x1 x2 x3 x4 x5 x6 x8 x9
                    by_cases hfn : lf = (nod : Int)
                    · subst hfn
                      have hcv := conv_one w7 i
                      have HPC := hide (HPB.out w7 HD7.out HLF.out _ ((Below.refl _ _).alloc (Nat.le_refl _) (.cells #[.int .u8 (i : Int)] 5)))
                      go_wp2_with fail
                      refine HPC.out.mono ?_
                      rintro e w8 ⟨rfl, hD8⟩
                      have HD8 := hide hD8
                      have HT1 := hide (tellV e0 w8 (errT_below HE3.out hD8.bel))
                      clear hD8 hcv kf7 x7
                      go_wp2_with fail
                      refine HT1.out.mono ?_
                      rintro e w9 ⟨rfl, hB9⟩
                      have HD9 := hide (HD8.out.below hB9)
                      clear hB9
                      have HT2 := hide (tellV e0 w9 (errT_below HE3.out HD9.out.bel))
                      go_wp2_with fail
                      refine HT2.out.mono ?_
                      rintro e w10 ⟨rfl, hB10⟩
                      have HD10 := hide (HD9.out.below hB10)
                      clear hB10
                      go_wp2_with fail
                      go_meet
                      case rel => exact ⟨_, _, HD10, HLR⟩
                    · have d3 : (lf == (nod : Int)) = false := beq_eq_false_iff_ne.2 hfn
                      have HLM := hide (HLL.out (by rw [HLF.out]; exact hfn))
                      clear hfn
                      go_wp2_with fail
                      go_meet
                      case rel => exact ⟨_, _, HD7, HLM⟩
                case rest =>
                  clear HD5 HI5
                  obtain ⟨x', y', HD7, HI7⟩ := hcut
                  have HB7 := hide HD7.out.bel
                  have HXr := hide (HX2.out.below HB7.out HX2.out.lt)
                  obtain ⟨x0, x1, x2, x3, x4, x5, x6, x7, x8, x9⟩ := plan_cells HXr.out
                  rw [HNL.out] at x7
                  clear x0 x1 x2 x3 x4 x5 x6 x8 x9
                  obtain ⟨W7, hW7⟩ : ∃ W7, wc = W7 := ⟨_, rfl⟩
                  rw [hW7] at HD7 HB7 HXr x7 ⊢
                  clear hW7
                  go_upto_region 22 with fail
                  go_cut [127] from 119 to 127 (fun v wx => ∃ b127 : Bool, v = .bool b127 ∧ Hid ((decide (0 < no) && decide (0 < nl)) = b127) ∧ wx = W7)
                  case first =>
                    by_cases h0 : 0 < no
                    · have d2 : decide ((0 : Int) < (no : Int)) = true := decide_eq_true (by omega)
                      have d2n : decide (0 < no) = true := decide_eq_true h0
                      go_wp2_with fail
                      go_meet
                      case rel => exact ⟨_, rfl, hide (by rw [d2n, Bool.true_and]), rfl⟩
                    · have d2 : decide ((0 : Int) < (no : Int)) = false := decide_eq_false (by omega)
                      have d2n : decide (0 < no) = false := decide_eq_false h0
                      go_wp2_with fail
                      go_meet
                      case rel => exact ⟨_, rfl, hide (by rw [d2n, Bool.false_and]), rfl⟩
                  case rest =>
                    obtain ⟨b127, rfl, HBC, hw2⟩ := hcut
                    obtain rfl := hw2.symm
                    go_upto_if 127 with fail
                    go_cut [18] from 128 to 149 (fun v18 wx => ∃ y'' : Cl, Hid (DuG w2 wx ga gb p ⟨.slice A p.sl.length c, .slice AL p.lk.length cl, .slice AQ p.wn.length cq⟩ fy x' y'' W5 [rb]) ∧ Hid (ApI p (1 + 2592 * i) i (nod : Int) x' y''))
                    case first =>
                      cases b127
                      case false =>
                        go_wp2_with fail
                        go_meet
                        case rel => exact ⟨y', HD7, HI7⟩
                      case true =>
                        have hb := HBC.out
                        simp only [Bool.and_eq_true, decide_eq_true_eq] at hb
                        obtain ⟨hno0, hnl0⟩ := hb
                        obtain ⟨m, hm⟩ : ∃ m, i % no = m := ⟨_, rfl⟩
                        have hml : m < no := by rw [← hm]; exact Nat.mod_lt _ hno0
                        have hrem : (i : Int).tmod (no : Int) = (m : Int) := by rw [← hm]; rfl
                        have hnz : ((no : Int) == 0) = false := beq_eq_false_iff_ne.2 (by omega)
                        obtain ⟨ob, oo, rfl, hoc⟩ := HI.out m (by rw [HNO.out]; exact hml)
                        have hBw7 := HB2.out.trans (HB7.out.mono HB2.out.size)
                        have hoc7 := (hBw7.cell (p := ⟨ob, oo + m, none⟩) (World.block_lt_of_cell? _ _ hoc)).trans hoc
                        obtain ⟨ov, hov⟩ : ∃ ov, ot.getD m 0 = ov := ⟨_, rfl⟩
                        rw [hov] at hoc7
                        obtain ⟨kq, hkq⟩ : ∃ kq : Nat, pck ov nl = kq := ⟨_, rfl⟩
                        have hkql : kq < nl := by rw [← hkq]; exact pck_lt ov hnl0
                        have HPQ := hide (quiet_pck ov nl kq hkq hnl0 (by omega))
                        obtain ⟨bl, ol, lx, hAL, hlx, hbl2, kf⟩ := link_from HL2.out (k := kq) (by rw [HNL.out]; exact hkql)
                        have kf7 := (hBw7.cell (p := ⟨bl, ol + kq * 4, none⟩) hbl2).trans kf
                        have HPB : Hid (∀ W, Below W7.heap.size W7 W → Calls Tryz.prog 12 #[.pointer (some ⟨gb, 0, none⟩), .int .i64 kq, .string ⟨#[111, 116, 104, 101, 114]⟩] W fun e w' => (∃ e1, e = .returned (errV e1)) ∧ DuG w2 w' ga gb p ⟨.slice A p.sl.length c, .slice AL p.lk.length cl, .slice AQ p.wn.length cq⟩ fy x' (clPut kq lx ⟨#[111, 116, 104, 101, 114]⟩ y') W5 [rb]) := hide (fun W hB => ((HD7.out.below hB).putB HP.out HI7.out.oky kq lx hlx ⟨#[111, 116, 104, 101, 114]⟩ (by decide)).mono fun e w' ⟨h1, h2⟩ => ⟨⟨_, h1⟩, h2⟩)
                        have HLR := hide (fun hf => HI7.out.putR HP.out hlx ⟨#[111, 116, 104, 101, 114]⟩ hf)
                        obtain ⟨lf, hlf⟩ : ∃ lf, lx.f = lf := ⟨_, rfl⟩
                        rw [hlf] at kf7
                        have HLF := hide hlf
                        have HAL := hide hAL
                        have HNB := hide (hBw7.size)
                        clear hoc hov hkq hlx hlf hAL kf hm hBw7 hbl2 hno0
                        go_wp2_with fail
                        go_quiet ((go_at_call 14; (with_reducible exact Calls.quiet_of_same (HPQ.out _))))
                        obtain ⟨Wq, hWq⟩ : ∃ Wq, W7.drewN nq = Wq := ⟨_, rfl⟩
                        have HBq : Hid (Below W7.heap.size W7 Wq) := hide (by rw [← hWq]; exact below_drewN (Below.refl _ _) nq)
                        rw [hWq]
                        have kfq := (HBq.out.cell (p := ⟨bl, ol + kq * 4, none⟩) (World.block_lt_of_cell? _ _ kf7)).trans kf7
                        clear hWq hoc7 hrem hnz x7 kf7
                        have HXr := hide (HX2.out.below (HB7.out.trans (HBq.out.mono HB7.out.size)) HX2.out.lt)
                        obtain ⟨x0, x1, x2, x3, x4, x5, x6, x7, x8, x9⟩ := plan_cells HXr.out
                        rw [HNL.out, HAL.out] at x7
                        clear x0 x1 x2 x3 x4 x5 x6 x8 x9
                        by_cases hfn : lf = (nod : Int)
                        · subst hfn
                          go_wp2_with fail
                          go_meet
                          case rel => exact ⟨y', hide (HD7.out.below HBq.out), HI7⟩
                        · have d3 : (lf != (nod : Int)) = true := bne_iff_ne.2 hfn
                          have HLM := hide (HLR.out (by rw [HLF.out]; exact hfn))
                          clear hfn
                          go_wp2_with fail
                          refine (HPB.out _ HBq.out).mono ?_
                          rintro e w8 ⟨⟨e1, rfl⟩, hD8⟩
                          have HD8 := hide hD8
                          clear hD8 x7 kfq
                          go_wp2_with fail
                          go_meet
                          case rel => exact ⟨_, HD8, HLM⟩
                    case rest =>
                      clear HD7 HI7 x7 HXr HB7 HBC
                      obtain ⟨y2, HD8, HI8⟩ := hcut
                      obtain ⟨W8, hW8⟩ : ∃ W8, wc = W8 := ⟨_, rfl⟩
                      rw [hW8] at HD8 ⊢
                      clear hW8
                      have HR8 := hide (HD8.out.blk (List.mem_singleton.2 rfl) HR5.out)
                      obtain ⟨y0, y1, y2', y3, -⟩ := cells44 HR8.out HR8.out
                      clear y1 y2'
                      go_upto_region 27 with fail
                      clear y0 y3
                      obtain ⟨W9, hW9⟩ : ∃ W9, W8.alloc (.cells #[.slice A1 l1 c1, .slice none 0 0, .slice none 0 0, .slice A4 l4 c4] 35) = W9 := ⟨_, rfl⟩
                      obtain ⟨qb, hqb⟩ : ∃ qb, W8.heap.size = qb := ⟨_, rfl⟩
                      have HQ9 := hide (Blk.new W8 35 #[.slice A1 l1 c1, .slice none 0 0, .slice none 0 0, .slice A4 l4 c4])
                      have HR9 := hide (HR8.out.alloc (.cells #[.slice A1 l1 c1, .slice none 0 0, .slice none 0 0, .slice A4 l4 c4] 35))
                      have HD9 := hide (HD8.out.more _ _ hW9)
                      rw [hW9] at HQ9 HR9 ⊢
                      rw [hqb] at HQ9 HD9 ⊢
                      clear hW9 hqb HR8 HD8
                      obtain ⟨ex, hex⟩ : ∃ ex, playE p fy r x' = ex := ⟨_, rfl⟩
                      obtain ⟨ey, hey⟩ : ∃ ey, playE p fy ⟨r.ls, [], [], r.md⟩ y2 = ey := ⟨_, rfl⟩
                      have HPX : Hid (∀ W, Below W9.heap.size W9 W → Calls Tryz.prog 9 #[.pointer (some ⟨ga, 0, none⟩), .agg #[.slice A1 l1 c1, .slice A2 l2 c2, .slice A3 l3 c3, .slice A4 l4 c4]] W fun e w' => e = .returned (errV ex) ∧ DuG w2 w' ga gb p ⟨.slice A p.sl.length c, .slice AL p.lk.length cl, .slice AQ p.wn.length cq⟩ fy (playF p fy r x') y2 W9 [qb, rb]) := hide (fun W hB => by
                        have h1 := (HD9.out.below hB).playA HP.out HI8.out.okx (by omega) (by have := HI8.out.rx; omega) hf16 HS3.out HL3.out HE3.out HV1.out
                        rw [hex] at h1
                        exact h1)
                      have HPY : Hid (∀ W w0, Below W9.heap.size W9 W9 → DuG w2 w0 ga gb p ⟨.slice A p.sl.length c, .slice AL p.lk.length cl, .slice AQ p.wn.length cq⟩ fy (playF p fy r x') y2 W9 [qb, rb] → Below w0.heap.size w0 W → Calls Tryz.prog 9 #[.pointer (some ⟨gb, 0, none⟩), .agg #[.slice A1 l1 c1, .slice none 0 0, .slice none 0 0, .slice A4 l4 c4]] W fun e w' => e = .returned (errV ey) ∧ DuG w2 w' ga gb p ⟨.slice A p.sl.length c, .slice AL p.lk.length cl, .slice AQ p.wn.length cq⟩ fy (playF p fy r x') (playF p fy ⟨r.ls, [], [], r.md⟩ y2) W9 [qb, rb]) := hide (fun W w0 _ hd hB => by
                        have h1 := (hd.below hB).playB HP.out HI8.out.oky (by omega) (by have := HI8.out.ap.rd; have := HI8.out.rx; omega) hf16 HS3.out HL3.out HE3.out HV2.out
                        rw [hey] at h1
                        exact h1)
                      have HEX := hide hex; have HEY := hide hey
                      have HBD : Hid (Below W9.heap.size W9 W9.drew) := hide (below_drewN (Below.refl _ _) 1)
                      clear hex hey
                      go_cut [20, 21] from 155 to 160 (fun v20 v21 wx => v20 = errV ex ∧ v21 = errV ey ∧ Hid (DuG w2 wx ga gb p ⟨.slice A p.sl.length c, .slice AL p.lk.length cl, .slice AQ p.wn.length cq⟩ fy (playF p fy r x') (playF p fy ⟨r.ls, [], [], r.md⟩ y2) W9 [qb, rb]))
                      case first =>
                        go_region_held3 (fun w' => w'.cell? ⟨rb, 0, none⟩ = some (.slice A1 l1 c1) ∧ w'.cell? ⟨rb, 1, none⟩ = some (.slice A2 l2 c2) ∧ w'.cell? ⟨rb, 2, none⟩ = some (.slice A3 l3 c3) ∧ w'.cell? ⟨rb, 3, none⟩ = some (.slice A4 l4 c4) ∧ w'.cell? ⟨qb, 0, none⟩ = some (.slice A1 l1 c1) ∧ w'.cell? ⟨qb, 1, none⟩ = some (.slice none 0 0) ∧ w'.cell? ⟨qb, 2, none⟩ = some (.slice none 0 0) ∧ w'.cell? ⟨qb, 3, none⟩ = some (.slice A4 l4 c4)) (first | (with_reducible exact cells44 (HR9.out.below HBD.out HR9.out.lt) (HQ9.out.below HBD.out HQ9.out.lt)) | (with_reducible exact cells44 (HDA.out.blk (by simp) HR9.out) (HDA.out.blk (by simp) HQ9.out)) | (with_reducible exact cells44 (HDB.out.blk (by simp) HR9.out) (HDB.out.blk (by simp) HQ9.out)))
                          (first
                            | (go_at_call 9; (with_reducible refine (HPX.out _ HBD.out).mono ?_); rintro e wa ⟨rfl, hda⟩; have HDA := hide hda; clear hda)
                            | (go_at_call 9; (with_reducible refine (HPY.out _ _ (Below.refl _ _) HDA.out (Below.refl _ _)).mono ?_); rintro e wb ⟨rfl, hdb⟩; have HDB := hide hdb; clear hdb))
                        go_wp2_with fail
                        go_meet
                        case rel => exact ⟨rfl, rfl, HDB⟩
                      case rest =>
                        obtain ⟨rfl, rfl, HDW⟩ := hcut
                        clear HPX HPY HR9 HQ9 HBD
                        have HBW := hide (HB2.out.trans (HDW.out.bel.mono HB2.out.size))
                        by_cases hx0 : ex = 0
                        case neg =>
                          have d3 : (ex != 0) = true := bne_iff_ne.2 hx0
                          go_wp2_with fail
                          go_ret
                          exact ⟨rfl, HBW.out⟩
                        case pos =>
                          subst hx0
                          by_cases hy0 : ey = 0
                          case neg =>
                            have d3 : (ey != 0) = true := bne_iff_ne.2 hy0
                            go_wp2_with fail
                            go_ret
                            exact ⟨rfl, HBW.out⟩
                          case pos =>
                            subst hy0
                            have HS := hide (show DuS w2 wc (1 + 2592 * (i + 1)) (i + 1) ga gb (nod : Int) p ⟨.slice A p.sl.length c, .slice AL p.lk.length cl, .slice AQ p.wn.length cq⟩ fy from ⟨_, _, HDW.out.drop _, HI8.out.play HP.out fy rfl rfl HEX.out HEY.out⟩)
                            clear HDW HI8 HEX HEY HBW
                            go_wp2_with fail
                            go_loopw [22] (fun v wr => ∃ k : Nat, k ≤ nl ∧ v = .int .i64 k ∧ Hid (DuS w2 wr (1 + 2592 * (i + 1)) (i + 1) ga gb (nod : Int) p ⟨.slice A p.sl.length c, .slice AL p.lk.length cl, .slice AQ p.wn.length cq⟩ fy)) (fun v _ => nl - (intOf v).toNat)
                            case atStart => exact ⟨0, by omega, rfl, HS⟩
                            case round =>
                              obtain ⟨k, hk, rfl, HSr⟩ := hrel
                              have HBr := hide HSr.out.bel
                              have HXr := hide (HX2.out.below HBr.out HX2.out.lt)
                              obtain ⟨x0, x1, x2, x3, x4, x5, x6, x7, x8, x9⟩ := plan_cells HXr.out
                              rw [HNL.out] at x7
                              clear x0 x1 x2 x3 x4 x5 x6 x8 x9
                              by_cases hlk : k < nl
                              · obtain ⟨bl, ol, lx, hAL, hlx, hbl2, kf⟩ := link_from HL2.out (k := k) (by rw [HNL.out]; exact hlk)
                                have kfr := ((HB2.out.trans (HBr.out.mono HB2.out.size)).cell (p := ⟨bl, ol + k * 4, none⟩) hbl2).trans kf
                                rw [hAL] at x7
                                have HLX := hide hlx
                                obtain ⟨lf, hlf⟩ : ∃ lf, lx.f = lf := ⟨_, rfl⟩
                                rw [hlf] at kfr
                                have HLF := hide hlf
                                clear hAL hlx hlf kf hbl2
                                by_cases hfn : lf = (nod : Int)
                                case neg =>
                                  have d3 : (lf != (nod : Int)) = true := bne_iff_ne.2 hfn
                                  go_wp2_with fail
                                  go_roundw
                                  case rel => exact ⟨k + 1, by omega, by go_num, HSr⟩
                                  case measure => simp [intOf]; omega
                                case pos =>
                                  subst hfn
                                  go_wp2_with fail
                                  clear x7 kfr
                                  go_loopw [23] (fun v wr => ∃ n : Nat, n ≤ nd ∧ v = .int .i64 n ∧ Hid (DuS w2 wr (1 + 2592 * (i + 1)) (i + 1) ga gb (nod : Int) p ⟨.slice A p.sl.length c, .slice AL p.lk.length cl, .slice AQ p.wn.length cq⟩ fy)) (fun v _ => nd - (intOf v).toNat)
                                  case atStart => exact ⟨0, by omega, rfl, HSr⟩
                                  case round =>
                                    obtain ⟨n, hn, rfl, HSn⟩ := hrel
                                    have HBn := hide HSn.out.bel
                                    have HXn := hide (HX2.out.below HBn.out HX2.out.lt)
                                    obtain ⟨x0, x1, x2, x3, x4, x5, x6, x7, x8, x9⟩ := plan_cells HXn.out
                                    rw [HPN.out] at x0
                                    clear x1 x2 x3 x4 x5 x6 x7 x8 x9
                                    by_cases hln : n < nd
                                    · go_wp2_with fail
                                      clear x0
                                      go_loopw [24] (fun v wr => ∃ j : Nat, j ≤ 20 ∧ v = .int .i64 j ∧ Hid (DuS w2 wr (1 + 2592 * (i + 1)) (i + 1) ga gb (nod : Int) p ⟨.slice A p.sl.length c, .slice AL p.lk.length cl, .slice AQ p.wn.length cq⟩ fy)) (fun v _ => 20 - (intOf v).toNat)
                                      case atStart => exact ⟨0, by omega, rfl, HSn⟩
                                      case round =>
                                        obtain ⟨j, hj, rfl, HSj⟩ := hrel
                                        by_cases hlj : j < 20
                                        · have HRC := hide (HSj.out.recv HP.out HL3.out HLX.out HLF.out (by rw [HPN.out]; exact_mod_cast hln))
                                          go_wp2_with fail
                                          refine HRC.out.mono ?_
                                          rintro e w9 ⟨ss, er, -, rfl, hB9, hC⟩
                                          have HC := hide hC
                                          clear hC hB9
                                          go_wp2_with fail
                                          refine HC.out.mono ?_
                                          rintro e w10 ⟨rfl, hS10⟩
                                          have HS10 := hide hS10
                                          have HT1 := hide (tellV er w10 (errT_below HE3.out hS10.bel))
                                          clear hS10
                                          go_wp2_with fail
                                          refine HT1.out.mono ?_
                                          rintro e w11 ⟨rfl, hB11⟩
                                          have HS11 := hide (HS10.out.below hB11)
                                          clear hB11
                                          have HT2 := hide (tellV er w11 (errT_below HE3.out HS11.out.bel))
                                          go_wp2_with fail
                                          refine HT2.out.mono ?_
                                          rintro e w12 ⟨rfl, hB12⟩
                                          have HS12 := hide (HS11.out.below hB12)
                                          clear hB12
                                          by_cases he : er = 0
                                          case pos =>
                                            subst he
                                            go_wp2_with fail
                                            go_roundw
                                            case rel => exact ⟨j + 1, by omega, by go_num, HS12⟩
                                            case measure => simp [intOf]; omega
                                          case neg =>
                                            have d3 : (er != 0) = true := bne_iff_ne.2 he
                                            go_wp2_with fail
                                            go_roundw
                                            case rel => exact ⟨n + 1, by omega, by go_num, HS12⟩
                                            case measure => simp [intOf]; omega
                                        · obtain rfl : j = 20 := by omega
                                          go_wp2_with fail
                                          go_roundw
                                          case rel => exact ⟨n + 1, by omega, by go_num, HSj⟩
                                          case measure => simp [intOf]; omega
                                    · obtain rfl : n = nd := by omega
                                      go_wp2_with fail
                                      go_roundw
                                      case rel => exact ⟨k + 1, by omega, by go_num, HSn⟩
                                      case measure => simp [intOf]; omega
                              · obtain rfl : k = nl := by omega
                                obtain ⟨x6', y6', q1, q2⟩ := HSr.out
                                have HQ1 := hide q1; have HQ2' := hide q2
                                clear q1 q2
                                go_wp2_with fail
                                go_roundw
                                case rel => exact ⟨i + 1, x6', y6', by omega, by go_num, HQ1, HQ2'⟩
                                case measure => simp [intOf]; omega
          · obtain rfl : i = nr := by omega
            go_wp2_with fail
            go_ret
            exact ⟨rfl, HBw.out⟩
end Go.Proofs.YtdogdlnaacimpaaGreatDoor
