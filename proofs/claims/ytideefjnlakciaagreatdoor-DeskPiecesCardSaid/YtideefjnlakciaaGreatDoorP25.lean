/- The contracts of a desk's commands round; conditions: the desk and the words lie in memory. -/
import Derived.Test.YtideefjnlakciaaGreatDoorP23
import Derived.Test.YtideefjnlakciaaGreatDoorP24
import Derived.Test.YtideefjnlakciaaGreatDoorP15
import Derived.Test.YtideefjnlakciaaGreatDoorP22
import Derived.Test.YtideefjnlakciaaGreatDoorP01
import Derived.Test.YtideefjnlakciaaGreatDoorP21
import Derived.Defers
import Derived.Recover
import Derived.Lib.OthersKept
import Derived.RangeFuncKeeps
import Derived.RangeFuncLeaves
import Derived.Shelf.Abstract
import Derived.OwnWalkIn
import Derived.TacticsInMore
import Derived.LoopNIn
import Derived.LoopIn
import Derived.Shelf.Strings.BuilderK
set_option linter.unusedVariables false
set_option linter.unusedSimpArgs false
namespace Go.Proofs.YtideefjnlakciaaGreatDoor
section
open Go Go.RowKit
attribute [local irreducible] playF playE
section
variable {w0 w : World} {g k : Nat} {d : Dk} {L : Ly} {A : Option Addr} {ws : List ByteArray}
theorem set4 {W : World} {G : Nat} {t : TypeId} {a0 a1 a2 a3 a4 a5 a6 a7 a8 a9 a10 a11 a12 a13 a14 b11 b12 b13 b14 : Value} (h : Blk W G t #[a0, a1, a2, a3, a4, a5, a6, a7, a8, a9, a10, a11, a12, a13, a14]) : Blk (((((W.setCell ⟨G, 11, none⟩ b11).setCell ⟨G, 12, none⟩ b12).setCell ⟨G, 13, none⟩ b13).setCell ⟨G, 14, none⟩ b14)) G t #[a0, a1, a2, a3, a4, a5, a6, a7, a8, a9, a10, b11, b12, b13, b14] := by
 have h0 : Blk (W.setCell ⟨G, 11, none⟩ b11) G t #[a0, a1, a2, a3, a4, a5, a6, a7, a8, a9, a10, b11, a12, a13, a14] := h.set_ 11 b11
 have h1 : Blk ((W.setCell ⟨G, 11, none⟩ b11).setCell ⟨G, 12, none⟩ b12) G t #[a0, a1, a2, a3, a4, a5, a6, a7, a8, a9, a10, b11, b12, a13, a14] := h0.set_ 12 b12
 have h2 : Blk (((W.setCell ⟨G, 11, none⟩ b11).setCell ⟨G, 12, none⟩ b12).setCell ⟨G, 13, none⟩ b13) G t #[a0, a1, a2, a3, a4, a5, a6, a7, a8, a9, a10, b11, b12, b13, a14] := h1.set_ 13 b13
 have h3 : Blk ((((W.setCell ⟨G, 11, none⟩ b11).setCell ⟨G, 12, none⟩ b12).setCell ⟨G, 13, none⟩ b13).setCell ⟨G, 14, none⟩ b14) G t #[a0, a1, a2, a3, a4, a5, a6, a7, a8, a9, a10, b11, b12, b13, b14] := h2.set_ 14 b14
 exact h3
theorem set4G {W : World} {G : Nat} {b11 b12 b13 b14 : Value} : W.grownBy ((((W.setCell ⟨G, 11, none⟩ b11).setCell ⟨G, 12, none⟩ b12).setCell ⟨G, 13, none⟩ b13).setCell ⟨G, 14, none⟩ b14) (some G) := by
 have h0 : W.grownBy (W.setCell ⟨G, 11, none⟩ b11) (some G) := only_setCell (only_refl W (some G)) (.inl rfl) b11
 have h1 : W.grownBy ((W.setCell ⟨G, 11, none⟩ b11).setCell ⟨G, 12, none⟩ b12) (some G) := only_setCell (h0) (.inl rfl) b12
 have h2 : W.grownBy (((W.setCell ⟨G, 11, none⟩ b11).setCell ⟨G, 12, none⟩ b12).setCell ⟨G, 13, none⟩ b13) (some G) := only_setCell (h1) (.inl rfl) b13
 have h3 : W.grownBy ((((W.setCell ⟨G, 11, none⟩ b11).setCell ⟨G, 12, none⟩ b12).setCell ⟨G, 13, none⟩ b13).setCell ⟨G, 14, none⟩ b14) (some G) := only_setCell (h2) (.inl rfl) b14
 exact h3
theorem cell_same {W W' : World} {b : Nat} (e : W'.heap[b]? = W.heap[b]?) (o : Nat) : W'.cell? ⟨b, o, none⟩ = W.cell? ⟨b, o, none⟩ := World.cell?_of_block (a := ⟨b, o, none⟩) e
theorem slots_same {W W' : World} {AA : Option Addr} {n : Nat} {l : List Sl} (h : SlotsAt W AA n l) (hk : ∀ x, AA = some x → W'.heap[x.block]? = W.heap[x.block]?) : SlotsAt W' AA n l := fun j hj => by
 obtain ⟨b, off, hA, x, hx, c0, c1, c2⟩ := h j hj
 have e := hk _ hA
 exact ⟨b, off, hA, x, hx, (cell_same e _).trans c0, (cell_same e _).trans c1, (cell_same e _).trans c2⟩
theorem links_same {W W' : World} {AA : Option Addr} {n : Nat} {l : List Lk} (h : LinksAt W AA n l) (hk : ∀ x, AA = some x → W'.heap[x.block]? = W.heap[x.block]?) : LinksAt W' AA n l := fun j hj => by
 obtain ⟨b, off, hA, x, hx, c0, c1, c2, c3⟩ := h j hj
 have e := hk _ hA
 exact ⟨b, off, hA, x, hx, (cell_same e _).trans c0, (cell_same e _).trans c1, (cell_same e _).trans c2, (cell_same e _).trans c3⟩
theorem loss_same {W W' : World} {AA : Option Addr} {l : List Ls} (h : LossAt W AA l) (hk : ∀ x, AA = some x → W'.heap[x.block]? = W.heap[x.block]?) : LossAt W' AA l := fun j x hx => by
 obtain ⟨b, off, hA, c0, c1, c2⟩ := h j x hx
 have e := hk _ hA
 exact ⟨b, off, hA, (cell_same e _).trans c0, (cell_same e _).trans c1, (cell_same e _).trans c2⟩
theorem read_same {W W' : World} {AA : Option Addr} {l : List Rg} (h : RgAt W AA l) (hk : ∀ x, AA = some x → W'.heap[x.block]? = W.heap[x.block]?) : RgAt W' AA l := fun j x hx => by
 obtain ⟨b, off, hA, c0, c1, c2⟩ := h j x hx
 have e := hk _ hA
 exact ⟨b, off, hA, (cell_same e _).trans c0, (cell_same e _).trans c1, (cell_same e _).trans c2⟩
theorem isl_same {W W' : World} {AA : Option Addr} {l : List Int} (h : IsL W AA l) (hk : ∀ x, AA = some x → W'.heap[x.block]? = W.heap[x.block]?) : IsL W' AA l := fun j hj => by
 obtain ⟨b, off, hA, c0⟩ := h j hj
 have e := hk _ hA
 exact ⟨b, off, hA, (cell_same e _).trans c0⟩
/-- The plan and the round on a desk, as arguments, all in blocks beside the cluster's. -/
theorem DkL.rows_at {W : World} (h : DkL w0 W g d L) : ∃ A1 c1 A2 c2 A3 c3 A4 c4, L.v 2 = .slice A1 d.r.ls.length c1 ∧ L.v 3 = .slice A2 d.r.rg.length c2 ∧ L.v 4 = .slice A3 d.r.dr.length c3 ∧ L.v 5 = .slice A4 d.r.md.length c4 ∧
 LossAt W A1 d.r.ls ∧ RgAt W A2 d.r.rg ∧ IsL W A3 d.r.dr ∧ IsL W A4 d.r.md := by
 obtain ⟨A1, c1, e1, h1, -⟩ := own_loss (h.own 2 (by omega)) rfl
 obtain ⟨A2, c2, e2, h2, -⟩ := own_read (h.own 3 (by omega)) rfl
 obtain ⟨A3, c3, e3, -, h3, -⟩ := own_nums (h.own 4 (by omega)) rfl
 obtain ⟨A4, c4, e4, -, h4, -⟩ := own_nums (h.own 5 (by omega)) rfl
 exact ⟨A1, c1, A2, c2, A3, c3, A4, c4, e1, e2, e3, e4, h1, h2, h3, h4⟩
theorem DkL.off_fam {W : World} (h : DkL w0 W g d L) {j n cp : Nat} {AA : Option Addr} (hj : j < 6) (e : L.v j = .slice AA n cp) : ∀ x, AA = some x → x.block < W.heap.size ∧ ¬ Fmy L.S x.block := fun x hx => by
 subst hx
 have h1 : (L.v j).ownBlock = some x.block := by rw [e]; rfl
 exact ⟨(h.lo (.inr (.inl ⟨j, hj, h1⟩))).2, h.sepF j _ hj h1⟩
set_option maxHeartbeats 1000000 in
theorem DkL.play (h : DkL w0 w g d L) (hstd : StdOk w0) (ho : DkOk k d) (hk : k ≤ 6000) {y : Nat × Cl} (hd : d.c = some y) {a : Ad} {b : Nat} (hLS : L.S = shape a (fullN d.p) d.p ⟨L.v 0, L.v 1, .slice none 0 0⟩ y.1 y.2) (hb0 : w0.heap.size ≤ b) (hb1 : b ≤ w.heap.size) (hCl : ClAt w b a (fullN d.p) d.p ⟨L.v 0, L.v 1, .slice none 0 0⟩ y.1 y.2) :
 Calls Tryz.prog 104 #[.pointer (some ⟨a.g, 0, none⟩), .agg #[L.v 2, L.v 3, L.v 4, L.v 5]] w fun e w' => e = .returned (errV (playE d.p y.1 d.r y.2)) ∧ ClTo w b a (fullN d.p) d.p ⟨L.v 0, L.v 1, .slice none 0 0⟩ y.1 y.2 w' (playF d.p y.1 d.r y.2) := by
 obtain ⟨hck, hok, hrd, hfy, hli, hprb⟩ := ho.clu y hd
 obtain ⟨AS, cs, AL, cl, e6, e7, s2, l2, -⟩ := h.plan_at ho.wn
 obtain ⟨A1, c1, A2, c2, A3, c3, A4, c4, e1, e2, e3, e4, h1, h2, h3, h4⟩ := h.rows_at
 have o0 := h.off_fam (by omega) e6
 have o1 := h.off_fam (by omega) e7
 have o2 := h.off_fam (by omega) e1
 have o3 := h.off_fam (by omega) e2
 have o4 := h.off_fam (by omega) e3
 have o5 := h.off_fam (by omega) e4
 rw [hLS] at o0 o1 o2 o3 o4 o5
 have b1 := ho.ls; have b2 := ho.rg; have b3 := ho.dr; have b4 := ho.md
 have same : ∀ {AA : Option Addr}, (∀ x, AA = some x → x.block < w.heap.size ∧ ¬ Fmy (shape a (fullN d.p) d.p ⟨L.v 0, L.v 1, .slice none 0 0⟩ y.1 y.2) x.block) → ∀ (W : World) (S : Ix → Ob), KBes w (fun i => i < w.heap.size ∧ ¬ Fmy (shape a (fullN d.p) d.p ⟨L.v 0, L.v 1, .slice none 0 0⟩ y.1 y.2) i) W S → ∀ x, AA = some x → W.heap[x.block]? = w.heap[x.block]? := fun ho W S hK x hx => (hK.2 x.block (ho x hx)).2.2
 rw [e1, e2, e3, e4]
 refine play_gen w (KBes.cls w (fun i => i < w.heap.size ∧ ¬ Fmy (shape a (fullN d.p) d.p ⟨L.v 0, L.v 1, .slice none 0 0⟩ y.1 y.2) i)) AS AL cs cl e6 e7 hCl (PlOk.of hck) hok (by omega) (by omega) hfy (fun W S hK => slots_same s2 (same o0 W S hK)) (fun W S hK => links_same l2 (same o1 W S hK)) ⟨Nat.le_refl _, fun i hi => ⟨hi.1, hi.2, rfl⟩⟩ hb1 (fun W S hK => ?_)
  A1 c1 d.r (fun W S hK => loss_same h1 (same o2 W S hK)) (by omega) A2 c2 (fun W S hK => read_same h2 (same o3 W S hK)) (by omega) A3 c3 (fun W S hK => isl_same h3 (same o4 W S hK)) (by omega) A4 c4 (fun W S hK => isl_same h4 (same o5 W S hK)) (by omega)
 have hbig := hstd.big
 have hsz := h.low.size
 have hg4 : 4 < w.heap.size := by omega
 have hnf : ¬ Fmy (shape a (fullN d.p) d.p ⟨L.v 0, L.v 1, .slice none 0 0⟩ y.1 y.2) 4 := fun ⟨x, hx⟩ => by have := (hCl.own x _ hx).1; omega
 have e := (hK.2 4 ⟨hg4, hnf⟩).2.2
 exact (World.cell?_of_block (a := ⟨4, 0, none⟩) e).trans (hstd.below hstd.big h.low).err
set_option maxRecDepth 100000 in
set_option maxHeartbeats 4000000 in
theorem do_rounds (h : CmdIn w0 w g d L k A ws) (c : Nat) : Calls Tryz.prog 63 #[.pointer (some ⟨g, 0, none⟩), .slice A ws.length c] w (DoP w0 w g L (aRound d ws)) := by
 have HN := hide (h.nums (0) (by omega) (by omega) c)
 have H := hide h
 clear h
 go_enter Tryz.func63, Tryz.ntmps63
 go_wp2_with fail
 refine HN.out.mono ?_
 rintro r w1 ⟨⟨hn, rfl⟩ | ⟨l, v, hn, rfl, hown⟩, hB1⟩
 case inl =>
  have HP := hide (H.out.bad (x := aRound d ws) (withN_none hn) hB1)
  go_wp2_with fail
  exact ⟨rfl, HP.out⟩
 obtain ⟨Av, cv, rfl, -⟩ := own_at hown
 have HB1 := hide hB1; have HO := hide hown; have HNU := hide hn
 clear hB1 hown hn
 cases hd : d.c with
 | none =>
  have HR := hide (ready_bad w1 (H.out.stdB HB1.out).err g none true (H.out.noCell HB1.out hd) rfl)
  have HX : Hid (aRound d ws = ⟨.error 6, d⟩) := hide ((withN_some HNU.out).trans (hasC_none hd))
  go_wp2_with fail
  refine HR.out.mono ?_
  rintro r w2 ⟨rfl, hB2⟩
  have HP := hide (H.out.bad HX.out (HB1.out.trans (hB2.mono HB1.out.size)))
  go_wp2_with fail
  exact ⟨rfl, HP.out⟩
 | some y =>
  obtain ⟨a, b, c10, hcv, hLS, hb0, hb1, hCl⟩ := H.out.clCell HB1.out hd
  have HR := hide (ready_ok w1 g _ true c10 rfl)
  have HD := hide (H.out.dk.below HB1.out)
  obtain ⟨hck, hok, hrd, hfy, hli, hprb⟩ := H.out.ok.clu y hd
  have hp := PlOk.of hck
  have c11 := HD.out.blk.cell 11
  have f11 := HD.out.blk.frozen 11
  have c12 := HD.out.blk.cell 12
  have f12 := HD.out.blk.frozen 12
  have c13 := HD.out.blk.cell 13
  have f13 := HD.out.blk.frozen 13
  have c14 := HD.out.blk.cell 14
  have f14 := HD.out.blk.frozen 14
  simp at c11 c12 c13 c14
  have hlt : g < w1.heap.size := HD.out.blk.lt
  obtain ⟨A1, q1, A2, q2, A3, q3, A4, q4, e1, e2, e3, e4, -⟩ := HD.out.rows_at
  obtain ⟨E, hE⟩ : ∃ E, playE d.p y.1 d.r y.2 = E := ⟨_, rfl⟩
  have HPL : Hid (∀ n, Calls Tryz.prog 104 #[.pointer (some ⟨a.g, 0, none⟩), .agg #[L.v 2, L.v 3, L.v 4, L.v 5]] (w1.drewN n) fun e w' => e = .returned (errV E) ∧ ClTo w1 b a (fullN d.p) d.p ⟨L.v 0, L.v 1, .slice none 0 0⟩ y.1 y.2 w' (playF d.p y.1 d.r y.2)) := hide (fun n => by
   have hB := below_drewN (Below.refl w1.heap.size w1) n
   have := (HD.out.below hB).play H.out.std H.out.ok H.out.hk hd hLS hb0 hb1 (hCl.below hB)
   rw [hE] at this
   exact this.mono (fun e w' ⟨he, ht⟩ => ⟨he, ClTo.trans (.of_below hB) rfl ht⟩))
  have hok2 := playF_ok hp hok y.1 d.r
  have hrd2 := play_rd d.p y.1 d.r y.2
  have hk6 := H.out.hk
  have hgF : ¬ Fmy (shape a (fullN d.p) d.p ⟨L.v 0, L.v 1, .slice none 0 0⟩ y.1 y.2) g := by rw [← hLS]; exact H.out.dk.offF
  have HEND : Hid (∀ (w5 : World), ClTo w1 b a (fullN d.p) d.p ⟨L.v 0, L.v 1, .slice none 0 0⟩ y.1 y.2 w5 (playF d.p y.1 d.r y.2) → DkTo w0 w g L w5 { d with c := some (y.1, playF d.p y.1 d.r y.2) } ∧ Blk w5 g 37 (deskC d L) ∧ StdOk w5 ∧
   DkTo w0 w g L ((((w5.setCell ⟨g, 11, none⟩ (.slice none 0 0)).setCell ⟨g, 12, none⟩ (.slice none 0 0)).setCell ⟨g, 13, none⟩ (.slice none 0 0)).setCell ⟨g, 14, none⟩ (.slice none 0 0)) { d with c := some (y.1, playF d.p y.1 d.r y.2), r := ⟨[], [], [], []⟩ } ∧ StdOk ((((w5.setCell ⟨g, 11, none⟩ (.slice none 0 0)).setCell ⟨g, 12, none⟩ (.slice none 0 0)).setCell ⟨g, 13, none⟩ (.slice none 0 0)).setCell ⟨g, 14, none⟩ (.slice none 0 0)) ∧ Calls Tryz.prog 105 #[.pointer (some ⟨a.g, 0, none⟩)] ((((w5.setCell ⟨g, 11, none⟩ (.slice none 0 0)).setCell ⟨g, 12, none⟩ (.slice none 0 0)).setCell ⟨g, 13, none⟩ (.slice none 0 0)).setCell ⟨g, 14, none⟩ (.slice none 0 0)) fun e w' => e = .returned (.int .i64 (playF d.p y.1 d.r y.2).rd) ∧ w' = ((((w5.setCell ⟨g, 11, none⟩ (.slice none 0 0)).setCell ⟨g, 12, none⟩ (.slice none 0 0)).setCell ⟨g, 13, none⟩ (.slice none 0 0)).setCell ⟨g, 14, none⟩ (.slice none 0 0))) := hide (fun w5 ht => by
   have h0 := HD.out.clus (fy := y.1) (c := y.2) hd hLS hcv hb0 hb1 ht
   have h1 := DkTo.after HB1.out h0
   obtain ⟨a', hag, hA', hk⟩ := ht
   have hgb := hk.block g hlt hgF
   have hgF5 : ¬ Fmy (shape a' (fullN d.p) d.p ⟨L.v 0, L.v 1, .slice none 0 0⟩ y.1 (playF d.p y.1 d.r y.2)) g := hk.not hlt hgF
   have hb5 : Blk w5 g 37 (deskC d L) := hgb.trans HD.out.blk
   obtain ⟨L5, h2, h3⟩ := h1
   have hs5 := H.out.std.below H.out.std.big h2.low
   -- the round is put away
   have hv : deskC { d with c := some (y.1, playF d.p y.1 d.r y.2) } L5 = deskC d L := by
    have := h2.blk.symm.trans hb5
    injection this with this
    injection this
   have hv' : ∀ i : Nat, (deskC { d with c := some (y.1, playF d.p y.1 d.r y.2) } L5)[i]? = (deskC d L)[i]? := fun i => by rw [hv]
   have v0 : L5.v 0 = L.v 0 := by have := hv' 6; simpa using this
   have v1 : L5.v 1 = L.v 1 := by have := hv' 7; simpa using this
   have vc : L5.cv = L.cv := by have := hv' 10; simpa using this
   have hb6 : Blk ((((w5.setCell ⟨g, 11, none⟩ (.slice none 0 0)).setCell ⟨g, 12, none⟩ (.slice none 0 0)).setCell ⟨g, 13, none⟩ (.slice none 0 0)).setCell ⟨g, 14, none⟩ (.slice none 0 0)) g 37 (deskC { { d with c := some (y.1, playF d.p y.1 d.r y.2) } with r := ⟨[], [], [], []⟩ } { L5 with v := fun j => if j < 2 then L5.v j else .slice none 0 0 }) := set4 h2.blk
   have h4 := h2.reset set4G rfl hb6
   obtain ⟨L6, h5, h6⟩ := h4
   have hC6 : ClAt ((((w5.setCell ⟨g, 11, none⟩ (.slice none 0 0)).setCell ⟨g, 12, none⟩ (.slice none 0 0)).setCell ⟨g, 13, none⟩ (.slice none 0 0)).setCell ⟨g, 14, none⟩ (.slice none 0 0)) b a' (fullN d.p) d.p ⟨L.v 0, L.v 1, .slice none 0 0⟩ y.1 (playF d.p y.1 d.r y.2) := hA'.keepF (by simp [World.setCell]) (fun i hi hf => by
    have hne : i ≠ g := fun e => hgF5 (by rw [← e]; exact hf)
    exact (set4G (G := g)).block i hi (fun e => hne (by cases e; rfl)))
   have hR := rounds_any hC6
   rw [hag] at hR
   exact ⟨⟨L5, h2, h3⟩, hb5, hs5, ⟨L6, h5, h3.trans h6⟩, H.out.std.below H.out.std.big h5.low, hR⟩)
  have hlo : 0 ≤ (playF d.p y.1 d.r y.2).rd := hok2.rd
  have hhi : (playF d.p y.1 d.r y.2).rd ≤ 6001 := by omega
  have HXA : Hid (aRound d ws = if playE d.p y.1 d.r y.2 = 0 then ⟨.ok (itoB (playF d.p y.1 d.r y.2).rd), { d with c := some (y.1, playF d.p y.1 d.r y.2), r := ⟨[], [], [], []⟩ }⟩ else ⟨.error (playE d.p y.1 d.r y.2), { d with c := some (y.1, playF d.p y.1 d.r y.2) }⟩) := hide ((withN_some HNU.out).trans (hasC_some hd))
  rw [hE] at HXA
  generalize hX : playF d.p y.1 d.r y.2 = PF at HXA HEND HPL hlo hhi
  obtain ⟨S9, hS9⟩ : ∃ S9 : World → Prop, (fun W => W.cell? ⟨g, 10, none⟩ = some (.pointer (some ⟨a.g, 0, none⟩)) ∧ W.cell? ⟨g, 11, none⟩ = some (.slice A1 d.r.ls.length q1) ∧ W.cell? ⟨g, 12, none⟩ = some (.slice A2 d.r.rg.length q2) ∧ W.cell? ⟨g, 13, none⟩ = some (.slice A3 d.r.dr.length q3) ∧ W.cell? ⟨g, 14, none⟩ = some (.slice A4 d.r.md.length q4)) = S9 := ⟨_, rfl⟩
  have HS9 : Hid (S9 = fun W => W.cell? ⟨g, 10, none⟩ = some (.pointer (some ⟨a.g, 0, none⟩)) ∧ W.cell? ⟨g, 11, none⟩ = some (.slice A1 d.r.ls.length q1) ∧ W.cell? ⟨g, 12, none⟩ = some (.slice A2 d.r.rg.length q2) ∧ W.cell? ⟨g, 13, none⟩ = some (.slice A3 d.r.dr.length q3) ∧ W.cell? ⟨g, 14, none⟩ = some (.slice A4 d.r.md.length q4)) := hide hS9.symm
  have HC5 : Hid (∀ W, Blk W g 37 (deskC d L) → S9 W ∧ W.frozen? ⟨g, 11, none⟩ = false ∧ W.frozen? ⟨g, 12, none⟩ = false ∧ W.frozen? ⟨g, 13, none⟩ = false ∧ W.frozen? ⟨g, 14, none⟩ = false) := hide (fun W hb => by
   have k10 := hb.cell 10
   have k11 := hb.cell 11
   have k12 := hb.cell 12
   have k13 := hb.cell 13
   have k14 := hb.cell 14
   simp at k10 k11 k12 k13 k14
   rw [e1] at k11
   rw [e2] at k12
   rw [e3] at k13
   rw [e4] at k14
   rw [HS9.out]
   exact ⟨⟨by rw [k10, hcv], k11, k12, k13, k14⟩, hb.frozen 11, hb.frozen 12, hb.frozen 13, hb.frozen 14⟩)
  have HH : Hid (S9 w1.drew) := hide (HC5.out _ HD.out.blk.drew).1
  rw [e1, e2, e3, e4] at HPL
  clear hcv hLS hb0 hb1 hCl hck hok hrd hfy hli hprb hp hgF hok2 hrd2 e1 e2 e3 e4 hS9 c10 c11 c12 c13 c14 f11 f12 f13 f14 HN hX hE
  go_wp2_with fail
  refine HR.out.mono ?_
  rintro r w2 ⟨rfl, rfl⟩
  by_cases he : E = 0
  ·subst he
   have ez : errV 0 = .nilIface := rfl
   rw [ez] at HPL
   go_wp2_with fail
   refine wp_region_L (S := S9) (L := 8) (by kernel_rfl) ?_
   have hH := HH.out
   try simp only [List.size_toArray, List.length_cons, List.length_nil, Nat.reduceAdd]
   refine wpAnyL_takeM (i := 0) (v := ?va0) rfl (by kernel_rfl) (by kernel_rfl) (by kernel_rfl) (by kernel_rfl) (fun _ _ _ h => h) (Or.inl ⟨by rfl, ?ya0⟩) (by assumption) ?ra0
   case ya0 => (intro w9 _; go_simp <;> with_reducible rfl)
   try simp only [Act.put, List.setIfInBounds_toArray, List.set_cons_zero, List.set_cons_succ, List.getElem_toArray, List.getElem_cons_zero, List.getElem_cons_succ]
   refine wpAnyL_takeM (i := 1) (v := ?va1) rfl (by kernel_rfl) (by kernel_rfl) (by kernel_rfl) (by kernel_rfl) (fun _ _ _ h => h) (Or.inl ⟨by rfl, ?ya1⟩) (by assumption) ?ra1
   case ya1 => (intro w9 _; go_simp <;> with_reducible rfl)
   try simp only [Act.put, List.setIfInBounds_toArray, List.set_cons_zero, List.set_cons_succ, List.getElem_toArray, List.getElem_cons_zero, List.getElem_cons_succ]
   refine wpAnyL_takeM (i := 2) (v := ?va2) rfl (by kernel_rfl) (by kernel_rfl) (by kernel_rfl) (by kernel_rfl) (fun _ _ _ h => h) (Or.inl ⟨by rfl, ?ya2⟩) (by assumption) ?ra2
   case ya2 => (intro w9 _; go_simp <;> with_reducible rfl)
   try simp only [Act.put, List.setIfInBounds_toArray, List.set_cons_zero, List.set_cons_succ, List.getElem_toArray, List.getElem_cons_zero, List.getElem_cons_succ]
   refine wpAnyL_take (i := 3) (v := ?va3) rfl (by kernel_rfl) (by kernel_rfl) (by kernel_rfl) (by kernel_rfl) (fun _ _ _ h => h) (Or.inl ⟨by rfl, ?ya3⟩) (by assumption) ?ra3
   case ya3 => (intro w9 hSw; rw [HS9.out] at hSw; obtain ⟨q0, q1, q2, q3, q4⟩ := hSw; go_simp <;> with_reducible rfl)
   try simp only [Act.put, List.setIfInBounds_toArray, List.set_cons_zero, List.set_cons_succ, List.getElem_toArray, List.getElem_cons_zero, List.getElem_cons_succ]
   refine wpAnyL_takeM (i := 4) (v := ?va4) rfl (by kernel_rfl) (by kernel_rfl) (by kernel_rfl) (by kernel_rfl) (fun _ _ _ h => h) (Or.inl ⟨by rfl, ?ya4⟩) (by assumption) ?ra4
   case ya4 => (intro w9 _; go_simp <;> with_reducible rfl)
   try simp only [Act.put, List.setIfInBounds_toArray, List.set_cons_zero, List.set_cons_succ, List.getElem_toArray, List.getElem_cons_zero, List.getElem_cons_succ]
   refine wpAnyL_takeM (i := 5) (v := ?va5) rfl (by kernel_rfl) (by kernel_rfl) (by kernel_rfl) (by kernel_rfl) (fun _ _ _ h => h) (Or.inl ⟨by rfl, ?ya5⟩) (by assumption) ?ra5
   case ya5 => (intro w9 _; go_simp <;> with_reducible rfl)
   try simp only [Act.put, List.setIfInBounds_toArray, List.set_cons_zero, List.set_cons_succ, List.getElem_toArray, List.getElem_cons_zero, List.getElem_cons_succ]
   refine wpAnyL_takeM (i := 6) (v := ?va6) rfl (by kernel_rfl) (by kernel_rfl) (by kernel_rfl) (by kernel_rfl) (fun _ _ _ h => h) (Or.inl ⟨by rfl, ?ya6⟩) (by assumption) ?ra6
   case ya6 => (intro w9 _; go_simp <;> with_reducible rfl)
   try simp only [Act.put, List.setIfInBounds_toArray, List.set_cons_zero, List.set_cons_succ, List.getElem_toArray, List.getElem_cons_zero, List.getElem_cons_succ]
   refine wpAnyL_take (i := 7) (v := ?va7) rfl (by kernel_rfl) (by kernel_rfl) (by kernel_rfl) (by kernel_rfl) (fun _ _ _ h => h) (Or.inl ⟨by rfl, ?ya7⟩) (by assumption) ?ra7
   case ya7 => (intro w9 hSw; rw [HS9.out] at hSw; obtain ⟨q0, q1, q2, q3, q4⟩ := hSw; go_simp <;> with_reducible rfl)
   try simp only [Act.put, List.setIfInBounds_toArray, List.set_cons_zero, List.set_cons_succ, List.getElem_toArray, List.getElem_cons_zero, List.getElem_cons_succ]
   clear hH
   refine wpAnyL_one (i := 8) (by kernel_rfl) rfl (fun K9 hK9 => ?_)
   try simp only [List.getElem_toArray, List.getElem_cons_zero, List.getElem_cons_succ]
   go_simp
   refine (HPL.out 1).mono ?_
   rintro r w5 ⟨rfl, ht5⟩
   have HT5 := hide (HEND.out w5 ht5)
   clear ht5
   try go_simp
   refine hK9.out _ _ (fun h9 => absurd h9 (by decide)) ?_
   clear hK9 K9
   try simp only [Act.put, List.setIfInBounds_toArray, List.set_cons_zero, List.set_cons_succ]
   refine wpAnyL_one (i := 9) (by kernel_rfl) rfl (fun K9 hK9 => ?_)
   try simp only [List.getElem_toArray, List.getElem_cons_zero, List.getElem_cons_succ]
   go_simp
   refine (must_nil _).mono ?_
   rintro r w6 ⟨rfl, rfl⟩
   try go_simp
   refine hK9.out _ _ (fun h9 => absurd h9 (by decide)) ?_
   clear hK9 K9
   try simp only [Act.put, List.setIfInBounds_toArray, List.set_cons_zero, List.set_cons_succ]
   refine wpAnyL_done (by kernel_rfl) ?_ _
   obtain ⟨hs5, g11, g12, g13, g14⟩ := HC5.out _ HT5.out.2.1
   rw [HS9.out] at hs5
   obtain ⟨k10, k11, k12, k13, k14⟩ := hs5
   have HRO := hide HT5.out.2.2.2.2.2
   have HIT := hide (itoa_any PF.rd _ HT5.out.2.2.2.2.1 (by omega) (by omega))
   have HT4 := hide HT5.out.2.2.2.1
   clear HT5 HEND HPL
   go_wp2_with fail
   refine HRO.out.mono ?_
   rintro r w7 ⟨rfl, rfl⟩
   go_wp2_with fail
   refine HIT.out.mono ?_
   rintro r w8 ⟨rfl, hB8⟩
   have HP : Hid (DoP w0 w g L (aRound d ws) (.returned (.string (itoB PF.rd))) w8) := hide (by rw [HXA.out]; exact ⟨rfl, HT4.out.below hB8⟩)
   clear hB8
   go_wp2_with fail
   go_ret
   exact HP.out
  ·have he9 : errV E = .iface 61 (.int .i64 E) := by unfold errV; rw [if_neg he]
   have HE0 := hide he
   rw [he9] at HPL
   clear he he9
   go_wp2_with fail
   refine wp_region_L (S := S9) (L := 8) (by kernel_rfl) ?_
   have hH := HH.out
   try simp only [List.size_toArray, List.length_cons, List.length_nil, Nat.reduceAdd]
   refine wpAnyL_takeM (i := 0) (v := ?vb0) rfl (by kernel_rfl) (by kernel_rfl) (by kernel_rfl) (by kernel_rfl) (fun _ _ _ h => h) (Or.inl ⟨by rfl, ?yb0⟩) (by assumption) ?rb0
   case yb0 => (intro w9 _; go_simp <;> with_reducible rfl)
   try simp only [Act.put, List.setIfInBounds_toArray, List.set_cons_zero, List.set_cons_succ, List.getElem_toArray, List.getElem_cons_zero, List.getElem_cons_succ]
   refine wpAnyL_takeM (i := 1) (v := ?vb1) rfl (by kernel_rfl) (by kernel_rfl) (by kernel_rfl) (by kernel_rfl) (fun _ _ _ h => h) (Or.inl ⟨by rfl, ?yb1⟩) (by assumption) ?rb1
   case yb1 => (intro w9 _; go_simp <;> with_reducible rfl)
   try simp only [Act.put, List.setIfInBounds_toArray, List.set_cons_zero, List.set_cons_succ, List.getElem_toArray, List.getElem_cons_zero, List.getElem_cons_succ]
   refine wpAnyL_takeM (i := 2) (v := ?vb2) rfl (by kernel_rfl) (by kernel_rfl) (by kernel_rfl) (by kernel_rfl) (fun _ _ _ h => h) (Or.inl ⟨by rfl, ?yb2⟩) (by assumption) ?rb2
   case yb2 => (intro w9 _; go_simp <;> with_reducible rfl)
   try simp only [Act.put, List.setIfInBounds_toArray, List.set_cons_zero, List.set_cons_succ, List.getElem_toArray, List.getElem_cons_zero, List.getElem_cons_succ]
   refine wpAnyL_take (i := 3) (v := ?vb3) rfl (by kernel_rfl) (by kernel_rfl) (by kernel_rfl) (by kernel_rfl) (fun _ _ _ h => h) (Or.inl ⟨by rfl, ?yb3⟩) (by assumption) ?rb3
   case yb3 => (intro w9 hSw; rw [HS9.out] at hSw; obtain ⟨q0, q1, q2, q3, q4⟩ := hSw; go_simp <;> with_reducible rfl)
   try simp only [Act.put, List.setIfInBounds_toArray, List.set_cons_zero, List.set_cons_succ, List.getElem_toArray, List.getElem_cons_zero, List.getElem_cons_succ]
   refine wpAnyL_takeM (i := 4) (v := ?vb4) rfl (by kernel_rfl) (by kernel_rfl) (by kernel_rfl) (by kernel_rfl) (fun _ _ _ h => h) (Or.inl ⟨by rfl, ?yb4⟩) (by assumption) ?rb4
   case yb4 => (intro w9 _; go_simp <;> with_reducible rfl)
   try simp only [Act.put, List.setIfInBounds_toArray, List.set_cons_zero, List.set_cons_succ, List.getElem_toArray, List.getElem_cons_zero, List.getElem_cons_succ]
   refine wpAnyL_takeM (i := 5) (v := ?vb5) rfl (by kernel_rfl) (by kernel_rfl) (by kernel_rfl) (by kernel_rfl) (fun _ _ _ h => h) (Or.inl ⟨by rfl, ?yb5⟩) (by assumption) ?rb5
   case yb5 => (intro w9 _; go_simp <;> with_reducible rfl)
   try simp only [Act.put, List.setIfInBounds_toArray, List.set_cons_zero, List.set_cons_succ, List.getElem_toArray, List.getElem_cons_zero, List.getElem_cons_succ]
   refine wpAnyL_takeM (i := 6) (v := ?vb6) rfl (by kernel_rfl) (by kernel_rfl) (by kernel_rfl) (by kernel_rfl) (fun _ _ _ h => h) (Or.inl ⟨by rfl, ?yb6⟩) (by assumption) ?rb6
   case yb6 => (intro w9 _; go_simp <;> with_reducible rfl)
   try simp only [Act.put, List.setIfInBounds_toArray, List.set_cons_zero, List.set_cons_succ, List.getElem_toArray, List.getElem_cons_zero, List.getElem_cons_succ]
   refine wpAnyL_take (i := 7) (v := ?vb7) rfl (by kernel_rfl) (by kernel_rfl) (by kernel_rfl) (by kernel_rfl) (fun _ _ _ h => h) (Or.inl ⟨by rfl, ?yb7⟩) (by assumption) ?rb7
   case yb7 => (intro w9 hSw; rw [HS9.out] at hSw; obtain ⟨q0, q1, q2, q3, q4⟩ := hSw; go_simp <;> with_reducible rfl)
   try simp only [Act.put, List.setIfInBounds_toArray, List.set_cons_zero, List.set_cons_succ, List.getElem_toArray, List.getElem_cons_zero, List.getElem_cons_succ]
   clear hH
   refine wpAnyL_one (i := 8) (by kernel_rfl) rfl (fun K9 hK9 => ?_)
   try simp only [List.getElem_toArray, List.getElem_cons_zero, List.getElem_cons_succ]
   go_simp
   refine (HPL.out 1).mono ?_
   rintro r w5 ⟨rfl, ht5⟩
   have HT5 := hide (HEND.out w5 ht5)
   clear ht5
   try go_simp
   refine hK9.out _ _ (fun h9 => absurd h9 (by decide)) ?_
   clear hK9 K9
   try simp only [Act.put, List.setIfInBounds_toArray, List.set_cons_zero, List.set_cons_succ]
   refine wpAnyL_one (i := 9) (by kernel_rfl) rfl (fun K9 hK9 => ?_)
   try simp only [List.getElem_toArray, List.getElem_cons_zero, List.getElem_cons_succ]
   go_simp
   refine (must_errno E _ HT5.out.2.2.1.err).mono ?_
   rintro r w6 ⟨rfl, hB6⟩
   have HP : Hid (DoP w0 w g L (aRound d ws) (.panicked (wrongP E)) w6) := hide (by rw [HXA.out, if_neg HE0.out]; exact ⟨rfl, HT5.out.1.below hB6⟩)
   exact ⟨rfl, HP.out⟩
end
end
section
open Go Go.RowKit
attribute [local irreducible] startF
section
variable {w0 w : World} {g k : Nat} {d : Dk} {L : Ly} {A : Option Addr} {ws : List ByteArray}
set_option maxRecDepth 100000 in
set_option maxHeartbeats 4000000 in
theorem do_start (h : CmdIn w0 w g d L k A ws) (c : Nat) : Calls Tryz.prog 66 #[.pointer (some ⟨g, 0, none⟩), .slice A ws.length c] w (DoP w0 w g L (aStart d ws)) := by
 have HN := hide (h.nums (-1) (by omega) (by omega) c)
 have H := hide h
 clear h
 go_enter Tryz.func66, Tryz.ntmps66
 go_wp2_with fail
 refine HN.out.mono ?_
 rintro r w1 ⟨⟨hn, rfl⟩ | ⟨l, v, hn, rfl, hown⟩, hB1⟩
 case inl =>
  have HP := hide (H.out.bad (x := aStart d ws) (withN_none hn) hB1)
  go_wp2_with fail
  exact ⟨rfl, HP.out⟩
 have hl1 := (numbersF_len hn).2
 obtain ⟨gk, cp, rfl, hle, hgk0, hgk1, hc⟩ := nums_cells hown (by omega)
 match l, hl1, hn, hown, hle, hc with
 | x0 :: t, _, hn, hown, hle, hc =>
 have n0 := hc 0 x0 rfl
 have HI : Hid (IsL w1 (if cp = 1 then some ⟨gk, 0, none⟩ else some ⟨gk, 1, none⟩) t) := hide (fun j hj => by
  rw [if_neg (by rw [List.length_cons] at hle; omega)]
  refine ⟨gk, 1, rfl, ?_⟩
  have := hc (j + 1) (t.getD j 0) (by rw [List.getElem?_cons_succ, List.getElem?_eq_getElem hj, List.getD_eq_getElem?_getD, List.getElem?_eq_getElem hj]; rfl)
  rw [Nat.add_comm 1 j]
  exact this)
 have htl : t.length ≤ 50000 := by have h1 := numbersF_le hn; have h2 := H.out.wl; rw [List.length_cons] at h1; omega
 have HB1 := hide hB1; have HNU := hide hn
 obtain ⟨q, hq⟩ : ∃ q, t.length = q := ⟨_, rfl⟩
 have hlq : (x0 :: t).length = q + 1 := by simp [hq]
 rw [hlq] at hle ⊢
 clear hB1 hn hown hc hlq hl1
 have b1 : (1 : Int) ≤ ((q + 1 : Nat) : Int) := by omega
 have b2 : ((q + 1 : Nat) : Int) ≤ (cp : Int) := by omega
 have b3 : (1 : Int) ≤ (q : Int) + 1 := by omega
 have b4 : (q : Int) + 1 ≤ (cp : Int) := by omega
 have b5 : 1 ≤ q + 1 := by omega
 cases hd : d.c with
 | some y =>
  obtain ⟨a, b, c10, -⟩ := H.out.clCell HB1.out hd
  have HR := hide (ready_bad w1 (H.out.stdB HB1.out).err g _ false c10 rfl)
  have HX : Hid (aStart d ws = ⟨.error 6, d⟩) := hide ((withN_some HNU.out).trans (noC_some hd))
  clear c10
  go_wp2_with fail
  refine HR.out.mono ?_
  rintro r w2 ⟨rfl, hB2⟩
  have HP := hide (H.out.bad HX.out (HB1.out.trans (hB2.mono HB1.out.size)))
  go_wp2_with fail
  exact ⟨rfl, HP.out⟩
 | none =>
  have HR := hide (ready_ok w1 g none false (H.out.noCell HB1.out hd) rfl)
  have HD := hide (H.out.dk.below HB1.out)
  obtain ⟨AS, cs, AL, cl, e6, e7, s2, l2, q2⟩ := HD.out.plan_at H.out.ok.wn
  have q2' : WinsAt w1 none d.p.wn.length d.p.wn := by rw [H.out.ok.wn]; exact fun j hj => by simp at hj
  have hw0 : d.p.wn.length = 0 := by rw [H.out.ok.wn]; rfl
  have c0 := HD.out.blk.cell 0
  have f0 := HD.out.blk.frozen 0
  have c1 := HD.out.blk.cell 1
  have f1 := HD.out.blk.frozen 1
  have c2 := HD.out.blk.cell 2
  have f2 := HD.out.blk.frozen 2
  have c3 := HD.out.blk.cell 3
  have f3 := HD.out.blk.frozen 3
  have c4 := HD.out.blk.cell 4
  have f4 := HD.out.blk.frozen 4
  have c5 := HD.out.blk.cell 5
  have f5 := HD.out.blk.frozen 5
  have c6 := HD.out.blk.cell 6
  have f6 := HD.out.blk.frozen 6
  have c7 := HD.out.blk.cell 7
  have f7 := HD.out.blk.frozen 7
  have c8 := HD.out.blk.cell 8
  have f8 := HD.out.blk.frozen 8
  have c9 := HD.out.blk.cell 9
  have f9 := HD.out.blk.frozen 9
  have c10 := HD.out.blk.cell 10
  have f10 := HD.out.blk.frozen 10
  simp at c0 c1 c2 c3 c4 c5 c6 c7 c8 c9 c10
  rw [e6] at c6
  rw [e7] at c7
  have hlt : g < w1.heap.size := HD.out.blk.lt
  have HNN : Hid (∀ W', Below w1.heap.size w1 W' → W'.cell? ⟨g, 0, none⟩ = some (.int .i64 d.p.nd) ∧ W'.cell? ⟨g, 1, none⟩ = some (.int .i64 d.p.fa) ∧ W'.cell? ⟨g, 2, none⟩ = some (.int .i64 d.p.sk) ∧ W'.cell? ⟨g, 3, none⟩ = some (.int .i64 d.p.ji) ∧ W'.cell? ⟨g, 4, none⟩ = some (.int .i64 d.p.dr) ∧ W'.cell? ⟨g, 5, none⟩ = some (.int .i64 d.p.rd) ∧ W'.cell? ⟨g, 6, none⟩ = some (.slice AS d.p.sl.length cs) ∧ W'.cell? ⟨g, 7, none⟩ = some (.slice AL d.p.lk.length cl) ∧ W'.cell? ⟨g, 8, none⟩ = some (.int .i64 d.p.fr) ∧ W'.cell? ⟨g, 9, none⟩ = some (.slice none 0 0) ∧ W'.cell? ⟨gk, 0, none⟩ = some (.int .i64 x0)) := hide (fun W' hB => ⟨(hB.cell (p := ⟨g, 0, none⟩) hlt).trans c0, (hB.cell (p := ⟨g, 1, none⟩) hlt).trans c1, (hB.cell (p := ⟨g, 2, none⟩) hlt).trans c2, (hB.cell (p := ⟨g, 3, none⟩) hlt).trans c3, (hB.cell (p := ⟨g, 4, none⟩) hlt).trans c4, (hB.cell (p := ⟨g, 5, none⟩) hlt).trans c5, (hB.cell (p := ⟨g, 6, none⟩) hlt).trans c6, (hB.cell (p := ⟨g, 7, none⟩) hlt).trans c7, (hB.cell (p := ⟨g, 8, none⟩) hlt).trans c8, (hB.cell (p := ⟨g, 9, none⟩) hlt).trans c9, (hB.cell (p := ⟨gk, 0, none⟩) hgk1).trans n0⟩)
  have HA : Hid (aStart d ws = if newE d.p x0 t = 0 then ⟨.ok ⟨#[115, 116, 97, 114, 116]⟩, { d with c := some (x0.toNat, startF d.p t) }⟩ else ⟨.error (newE d.p x0 t), d⟩) := hide ((withN_some HNU.out).trans (noC_none hd))
  have f10' := f10
  by_cases hchk : chk d.p = (0, -1)
  case neg =>
   obtain ⟨hn1, hn2⟩ := newE_chk (f0 := x0) (zs := t) hchk
   have HX : Hid (aStart d ws = ⟨.error (chk d.p).1, d⟩) := hide (by rw [HA.out, hn1, if_neg hn2])
   have HNW : Hid (∀ B cz W, Below w1.heap.size w1 W → Calls Tryz.prog 107 #[.agg (planC d.p.nd d.p.fa d.p.sk d.p.ji d.p.dr d.p.rd (.slice AS d.p.sl.length cs) (.slice AL d.p.lk.length cl) d.p.fr (.slice none 0 0)), .int .i64 x0, .slice B q cz] W fun e w' =>
    ∃ v, e = .returned (.tuple #[.pointer none, v]) ∧ AtV w' v (chk d.p).1 (chk d.p).2 ∧ Below w1.heap.size w1 w') := hide (fun B cz W hB => by
    have := new_chk d.p AS cs AL cl none 0 x0 B q cz W hchk (s2.below hB) (l2.below hB) (q2'.below hB)
    rw [hw0] at this
    refine this.mono ?_
    rintro e w' ⟨v, he, hv | ⟨_, hv⟩, hb⟩
    ·exact absurd hv.1 (fun e => hchk (Prod.ext e hv.2.1))
    ·exact ⟨v, he, hv, hB.trans (hb.mono hB.size)⟩)
   clear HI hchk hn1 hn2 s2 l2 q2 q2' hw0 e6 e7 HA f0 f1 f2 f3 f4 f5 f6 f7 f8 f9 f10 c10 hq htl
   go_wp2_with fail
   refine HR.out.mono ?_
   rintro r w2 ⟨rfl, rfl⟩
   by_cases hcp : cp = 1
   all_goals
    go_wp2_with fail
    go_region_held3 (fun W' => W'.cell? ⟨g, 0, none⟩ = some (.int .i64 d.p.nd) ∧ W'.cell? ⟨g, 1, none⟩ = some (.int .i64 d.p.fa) ∧ W'.cell? ⟨g, 2, none⟩ = some (.int .i64 d.p.sk) ∧ W'.cell? ⟨g, 3, none⟩ = some (.int .i64 d.p.ji) ∧ W'.cell? ⟨g, 4, none⟩ = some (.int .i64 d.p.dr) ∧ W'.cell? ⟨g, 5, none⟩ = some (.int .i64 d.p.rd) ∧ W'.cell? ⟨g, 6, none⟩ = some (.slice AS d.p.sl.length cs) ∧ W'.cell? ⟨g, 7, none⟩ = some (.slice AL d.p.lk.length cl) ∧ W'.cell? ⟨g, 8, none⟩ = some (.int .i64 d.p.fr) ∧ W'.cell? ⟨g, 9, none⟩ = some (.slice none 0 0) ∧ W'.cell? ⟨gk, 0, none⟩ = some (.int .i64 x0)) (first | exact HNN.out _ (below_drewN (Below.refl _ _) 1) | exact HNN.out _ HB5.out)
     (first | (go_at_call 107; go_must (refine (HNW.out _ _ _ (below_drewN (Below.refl _ _) 1)).mono ?_); rintro r w5 ⟨v5, rfl, hv5, hB5⟩; have HB5 := hide hB5; have HV5 := hide hv5; clear hB5 hv5))
    all_goals
     have HB6 := hide (HB1.out.trans (HB5.out.mono HB1.out.size))
     have HMU := hide (must_erV HV5.out (H.out.stdB HB6.out).err)
     obtain ⟨tv, uv, rfl⟩ := HV5.out.iface
     go_wp2_with fail
     refine HMU.out.mono ?_
     rintro r w6 ⟨rfl, hB6⟩
     have HP := hide (H.out.bad HX.out (HB6.out.trans (hB6.mono HB6.out.size)))
     go_wp2_with fail
     exact ⟨rfl, HP.out⟩
  have hNI := newE_is (f0 := x0) (zs := t) hchk
  obtain ⟨E, hE⟩ : ∃ E, newE d.p x0 t = E := ⟨_, rfl⟩
  rw [hE] at hNI HA
  by_cases he : E = 0
  case neg =>
   have HX : Hid (aStart d ws = ⟨.error E, d⟩) := hide (by rw [HA.out, if_neg he])
   have he9 : errV E = .iface 61 (.int .i64 E) := by unfold errV; rw [if_neg he]
   have HNW : Hid (∀ W, Below w1.heap.size w1 W → Calls Tryz.prog 107 #[.agg (planC d.p.nd d.p.fa d.p.sk d.p.ji d.p.dr d.p.rd (.slice AS d.p.sl.length cs) (.slice AL d.p.lk.length cl) d.p.fr (.slice none 0 0)), .int .i64 x0, .slice (if cp = 1 then some ⟨gk, 0, none⟩ else some ⟨gk, 1, none⟩) q (cp - 1)] W fun e w' =>
    e = .returned (.tuple #[.pointer none, .iface 61 (.int .i64 E)]) ∧ Below w1.heap.size w1 w') := hide (fun W hB => by
    have := new_bad d.p AS cs AL cl none 0 x0 (if cp = 1 then some ⟨gk, 0, none⟩ else some ⟨gk, 1, none⟩) q (cp - 1) W hchk (s2.below hB) (l2.below hB) (q2'.below hB) t hq (HI.out.below (Nat.le_refl _) hB) (by omega) (by omega) E hNI he
    rw [hw0, he9] at this
    exact this.mono (fun e w' ⟨h1, h2⟩ => ⟨h1, hB.trans (h2.mono hB.size)⟩))
   clear HI hchk s2 l2 q2 q2' hw0 e6 e7 HA f0 f1 f2 f3 f4 f5 f6 f7 f8 f9 f10 c10 hq htl hE hNI he he9
   go_wp2_with fail
   refine HR.out.mono ?_
   rintro r w2 ⟨rfl, rfl⟩
   by_cases hcp : cp = 1
   all_goals
    simp only [hcp, if_true, if_false] at HNW
    go_wp2_with fail
    go_region_held3 (fun W' => W'.cell? ⟨g, 0, none⟩ = some (.int .i64 d.p.nd) ∧ W'.cell? ⟨g, 1, none⟩ = some (.int .i64 d.p.fa) ∧ W'.cell? ⟨g, 2, none⟩ = some (.int .i64 d.p.sk) ∧ W'.cell? ⟨g, 3, none⟩ = some (.int .i64 d.p.ji) ∧ W'.cell? ⟨g, 4, none⟩ = some (.int .i64 d.p.dr) ∧ W'.cell? ⟨g, 5, none⟩ = some (.int .i64 d.p.rd) ∧ W'.cell? ⟨g, 6, none⟩ = some (.slice AS d.p.sl.length cs) ∧ W'.cell? ⟨g, 7, none⟩ = some (.slice AL d.p.lk.length cl) ∧ W'.cell? ⟨g, 8, none⟩ = some (.int .i64 d.p.fr) ∧ W'.cell? ⟨g, 9, none⟩ = some (.slice none 0 0) ∧ W'.cell? ⟨gk, 0, none⟩ = some (.int .i64 x0)) (first | exact HNN.out _ (below_drewN (Below.refl _ _) 1) | exact HNN.out _ HB5.out)
     (first | (go_at_call 107; go_must (refine (HNW.out _ (below_drewN (Below.refl _ _) 1)).mono ?_); rintro r w5 ⟨rfl, hB5⟩; have HB5 := hide hB5; clear hB5))
    all_goals
     have HB6 := hide (HB1.out.trans (HB5.out.mono HB1.out.size))
     have HMU := hide (must_errno E w5 (H.out.stdB HB6.out).err)
     go_wp2_with fail
     refine HMU.out.mono ?_
     rintro r w6 ⟨rfl, hB6⟩
     have HP := hide (H.out.bad HX.out (HB6.out.trans (hB6.mono HB6.out.size)))
     go_wp2_with fail
     exact ⟨rfl, HP.out⟩
  subst he
  obtain ⟨⟨fy, rfl, hfy, hli⟩, hlen, hck⟩ := hNI.good
  have hp := PlOk.of hchk
  have hn1 := hp.n1
  have hcp : cp ≠ 1 := by omega
  have HX : Hid (aStart d ws = ⟨.ok ⟨#[115, 116, 97, 114, 116]⟩, { d with c := some (fy, startF d.p t) }⟩) := hide (by rw [HA.out, if_pos rfl]; rfl)
  have HNW : Hid (∀ W, Below w1.heap.size w1 W → Calls Tryz.prog 107 #[.agg (planC d.p.nd d.p.fa d.p.sk d.p.ji d.p.dr d.p.rd (.slice AS d.p.sl.length cs) (.slice AL d.p.lk.length cl) d.p.fr (.slice none 0 0)), .int .i64 (fy : Nat), .slice (some ⟨gk, 1, none⟩) q (cp - 1)] W fun e w' =>
   ∃ a : Ad, e = .returned (.tuple #[.pointer (some ⟨a.g, 0, none⟩), .nilIface]) ∧ Below w1.heap.size w1 w' ∧ DkTo w0 w g L (w'.setCell ⟨g, 10, none⟩ (ptrV a.g)) { d with c := some (fy, startF d.p t) }) := hide (fun W hB => by
   have hi := HI.out.below (Nat.le_refl _) hB
   rw [if_neg hcp] at hi
   have := new_any W d.p AS cs AL cl none 0 hchk (s2.below hB) (l2.below hB) (q2'.below hB) fy hfy hli gk 1 (cp - 1) t hi (by omega) hlen (wild_all hck.1) hck.2
   rw [hw0, ← hlen, hq] at this
   refine this.mono ?_
   rintro e w' ⟨a, he, hb, hA⟩
   refine ⟨a, he, hB.trans (hb.mono hB.size), ?_⟩
   rw [← e6, ← e7] at hA
   exact DkTo.after HB1.out (HD.out.start hd (hB.trans (hb.mono hB.size)) hB.size hA))
  have HG : Hid (∀ W, Below w1.heap.size w1 W → W.cell? ⟨g, 10, none⟩ = some L.cv ∧ W.frozen? ⟨g, 10, none⟩ = false) := hide (fun W hB => ⟨(hB.cell (p := ⟨g, 10, none⟩) hlt).trans c10, (hB.frozen (p := ⟨g, 10, none⟩) hlt).trans f10⟩)
  clear HI hchk s2 l2 q2 q2' hw0 e6 e7 HA f0 f1 f2 f3 f4 f5 f6 f7 f8 f9 f10 f10' c10 hq htl hE hNI hli hfy hlen hck hp hn1
  go_wp2_with fail
  refine HR.out.mono ?_
  rintro r w2 ⟨rfl, rfl⟩
  go_wp2_with fail
  go_region_held3 (fun W' => W'.cell? ⟨g, 0, none⟩ = some (.int .i64 d.p.nd) ∧ W'.cell? ⟨g, 1, none⟩ = some (.int .i64 d.p.fa) ∧ W'.cell? ⟨g, 2, none⟩ = some (.int .i64 d.p.sk) ∧ W'.cell? ⟨g, 3, none⟩ = some (.int .i64 d.p.ji) ∧ W'.cell? ⟨g, 4, none⟩ = some (.int .i64 d.p.dr) ∧ W'.cell? ⟨g, 5, none⟩ = some (.int .i64 d.p.rd) ∧ W'.cell? ⟨g, 6, none⟩ = some (.slice AS d.p.sl.length cs) ∧ W'.cell? ⟨g, 7, none⟩ = some (.slice AL d.p.lk.length cl) ∧ W'.cell? ⟨g, 8, none⟩ = some (.int .i64 d.p.fr) ∧ W'.cell? ⟨g, 9, none⟩ = some (.slice none 0 0) ∧ W'.cell? ⟨gk, 0, none⟩ = some (.int .i64 (fy : Nat))) (first | exact HNN.out _ (below_drewN (Below.refl _ _) 1) | exact HNN.out _ HB5.out)
   (first | (go_at_call 107; go_must (refine (HNW.out _ (below_drewN (Below.refl _ _) 1)).mono ?_); rintro r w5 ⟨a5, rfl, hB5, ht5⟩; have HB5 := hide hB5; have HT5 := hide ht5; clear hB5 ht5))
  all_goals
   have HMU := hide (must_nil w5)
   obtain ⟨g10, g10f⟩ := HG.out w5 HB5.out
   have HP : Hid (DoP w0 w g L (aStart d ws) (.returned (.string ⟨#[115, 116, 97, 114, 116]⟩)) (w5.setCell ⟨g, 10, none⟩ (ptrV a5.g))) := hide (by rw [HX.out]; exact ⟨rfl, HT5.out⟩)
   go_wp2_with fail
   refine HMU.out.mono ?_
   rintro r w6 ⟨rfl, rfl⟩
   go_wp2_with fail
   go_ret
   exact HP.out
end
end
section
open Go Go.RowKit
/-- A command's contract. -/
def CmdR (g : Nat) (v : Value) (f : Dk → List ByteArray → Ans) : Prop := ∃ fn, v = .func (.func fn) #[.pointer (some ⟨g, 0, none⟩)] #[] ∧ (∀ args w, (callFunc fn args).run Tryz.prog w = .ok (.enter fn args) w) ∧
 ∀ (w0 w : World) (d : Dk) (L : Ly) (k : Nat) (A : Option Addr) (ws : List ByteArray) (c : Nat), CmdIn w0 w g d L k A ws → ws.length ≤ c → Calls Tryz.prog fn #[.pointer (some ⟨g, 0, none⟩), .slice A ws.length c] w (DoP w0 w g L (f d ws))
theorem does_twin (g : Nat) : TwinL (CmdR g) (doesL g) cmdL := by
 unfold doesL cmdL
 refine ⟨⟨rfl, _, rfl, enters_of Tryz.func47 (by kernel_rfl) rfl, fun w0 w d L k A ws c h _ => do_bytes h c⟩, ?_⟩
 refine ⟨⟨rfl, _, rfl, enters_of Tryz.func48 (by kernel_rfl) rfl, fun w0 w d L k A ws c h _ => do_clear h c⟩, ?_⟩
 refine ⟨⟨rfl, _, rfl, enters_of Tryz.func49 (by kernel_rfl) rfl, fun w0 w d L k A ws c h _ => do_clocks h c⟩, ?_⟩
 refine ⟨⟨rfl, _, rfl, enters_of Tryz.func50 (by kernel_rfl) rfl, fun w0 w d L k A ws c h _ => do_drift h c⟩, ?_⟩
 refine ⟨⟨rfl, _, rfl, enters_of Tryz.func51 (by kernel_rfl) rfl, fun w0 w d L k A ws c h _ => do_help h c⟩, ?_⟩
 refine ⟨⟨rfl, _, rfl, enters_of Tryz.func52 (by kernel_rfl) rfl, fun w0 w d L k A ws c h _ => do_link h c⟩, ?_⟩
 refine ⟨⟨rfl, _, rfl, enters_of Tryz.func53 (by kernel_rfl) rfl, fun w0 w d L k A ws c h _ => do_local h c⟩, ?_⟩
 refine ⟨⟨rfl, _, rfl, enters_of Tryz.func54 (by kernel_rfl) rfl, fun w0 w d L k A ws c h _ => do_lose h c⟩, ?_⟩
 refine ⟨⟨rfl, _, rfl, enters_of Tryz.func55 (by kernel_rfl) rfl, fun w0 w d L k A ws c h _ => do_members h c⟩, ?_⟩
 refine ⟨⟨rfl, _, rfl, enters_of Tryz.func56 (by kernel_rfl) rfl, fun w0 w d L k A ws c h _ => do_midpoint h c⟩, ?_⟩
 refine ⟨⟨rfl, _, rfl, enters_of Tryz.func57 (by kernel_rfl) rfl, fun w0 w d L k A ws c h _ => do_mode h c⟩, ?_⟩
 refine ⟨⟨rfl, _, rfl, enters_of Tryz.func58 (by kernel_rfl) rfl, fun w0 w d L k A ws c h _ => do_plans h c⟩, ?_⟩
 refine ⟨⟨rfl, _, rfl, enters_of Tryz.func59 (by kernel_rfl) rfl, fun w0 w d L k A ws c h hc => do_put h c hc⟩, ?_⟩
 refine ⟨⟨rfl, _, rfl, enters_of Tryz.func60 (by kernel_rfl) rfl, fun w0 w d L k A ws c h _ => do_read h c⟩, ?_⟩
 refine ⟨⟨rfl, _, rfl, enters_of Tryz.func61 (by kernel_rfl) rfl, fun w0 w d L k A ws c h _ => do_real h c⟩, ?_⟩
 refine ⟨⟨rfl, _, rfl, enters_of Tryz.func62 (by kernel_rfl) rfl, fun w0 w d L k A ws c h _ => do_receive h c⟩, ?_⟩
 refine ⟨⟨rfl, _, rfl, enters_of Tryz.func63 (by kernel_rfl) rfl, fun w0 w d L k A ws c h _ => do_rounds h c⟩, ?_⟩
 refine ⟨⟨rfl, _, rfl, enters_of Tryz.func64 (by kernel_rfl) rfl, fun w0 w d L k A ws c h _ => do_slot h c⟩, ?_⟩
 refine ⟨⟨rfl, _, rfl, enters_of Tryz.func65 (by kernel_rfl) rfl, fun w0 w d L k A ws c h _ => do_spread h c⟩, ?_⟩
 exact ⟨⟨rfl, _, rfl, enters_of Tryz.func66 (by kernel_rfl) rfl, fun w0 w d L k A ws c h _ => do_start h c⟩, trivial⟩
/-- What a word names, and its contract. -/
theorem does_of (g : Nat) (s : ByteArray) : (cmdF s = none ∧ doesV g s = .nilFunc) ∨ ∃ f, cmdF s = some f ∧ CmdR g (doesV g s) f := by
 rcases lookS_two (s := s) (does_twin g) with ⟨h1, h2⟩ | ⟨x, y, h1, h2, h3⟩
 ·exact .inl ⟨h2, by rw [does_look, h1]; rfl⟩
 ·exact .inr ⟨y, h2, by rw [does_look, h1]; exact h3⟩
end
section
open Go Go.RowKit
/-- An error's number. -/
def ErB (e : Int) : Prop := 0 ≤ e ∧ e ≤ 100
theorem erB_if {c : Prop} [Decidable c] {a b : Int} (ha : ErB a) (hb : ErB b) : ErB (if c then a else b) := by split <;> assumption
theorem er0 : ErB 0 := by unfold ErB; omega
theorem er1 : ErB 1 := by unfold ErB; omega
theorem er2 : ErB 2 := by unfold ErB; omega
theorem er4 : ErB 4 := by unfold ErB; omega
theorem er6 : ErB 6 := by unfold ErB; omega
theorem er7 : ErB 7 := by unfold ErB; omega
theorem er10 : ErB 10 := by unfold ErB; omega
theorem er12 : ErB 12 := by unfold ErB; omega
theorem er13 : ErB 13 := by unfold ErB; omega
theorem firstE_bd : ∀ {l : List Int} {k : Nat}, (∀ x ∈ l, ErB x) → ErB (firstE l k).1
 | [], _, _ => er0
 | x :: l, k, h => by
  unfold firstE
  split
  ·exact firstE_bd (fun y hy => h y (by simp [hy]))
  ·exact h x (by simp)
theorem spE_bd (f t lo hi : Int) : ErB (spE f t lo hi) := erB_if er1 (erB_if er10 (erB_if er2 er0))
theorem slEs_bd (sk rd nd : Int) : ∀ (l : List Sl) (lo : Int), ∀ x ∈ slEs sk rd nd lo l, ErB x
 | [], _, x, h => by simp [slEs] at h
 | s :: l, lo, x, h => by
  unfold slEs at h
  rcases List.mem_cons.1 h with rfl | h
  ·exact erB_if (spE_bd _ _ _ _) (erB_if er7 er0)
  ·exact slEs_bd sk rd nd l _ x h
theorem wnEs_bd (fr : Int) : ∀ (l : List Wn) (lo : Int), ∀ x ∈ wnEs fr lo l, ErB x
 | [], _, x, h => by simp [wnEs] at h
 | s :: l, lo, x, h => by
  unfold wnEs at h
  rcases List.mem_cons.1 h with rfl | h
  ·exact erB_if (spE_bd _ _ _ _) (erB_if er7 er0)
  ·exact wnEs_bd fr l _ x h
theorem chk_bd (p : Pl) : ErB (chk p).1 := by
 have hh : ErB (headE p) := erB_if er1 (erB_if er2 (erB_if er4 (erB_if er13 er0)))
 have h1 := firstE_bd (k := 0) (slEs_bd p.sk p.rd p.nd p.sl 0)
 have h2 : ErB (firstE (p.lk.map (lkE p.nd)) 0).1 := firstE_bd (fun x hx => by
  obtain ⟨l, _, rfl⟩ := List.mem_map.1 hx
  exact erB_if er7 (erB_if er1 (erB_if er2 er0)))
 have h3 := firstE_bd (k := 0) (wnEs_bd p.fr p.wn 0)
 unfold chk
 split
 ·exact hh
 ·split
  ·exact h1
  ·split
   ·exact h2
   ·split
    ·exact h3
    ·exact er0
theorem newE_bd (p : Pl) (f0 : Int) (zs : List Int) : ErB (newE p f0 zs) := by
 by_cases h : chk p = (0, -1)
 ·rcases newE_is (f0 := f0) (zs := zs) h with ⟨_, e⟩ | ⟨_, _, e⟩ | ⟨_, _, _, e⟩ | ⟨_, _, _, e⟩ <;> rw [e]
  ·exact er1
  ·exact er7
  ·exact er2
  ·exact er0
 ·rw [(newE_chk h).1]
  exact chk_bd p
theorem midE_bd (l : List Int) (f : Int) : ErB (midE l f) := erB_if er1 (erB_if er2 er0)
theorem localE_bd (f s n d t : Int) : ErB (localE f s n d t) := erB_if er1 (erB_if er2 (erB_if er2 er0))
theorem realE_bd (f s n d t : Int) : ErB (realE f s n d t) := erB_if er1 (erB_if er2 (erB_if er0 (erB_if er2 er0)))
theorem playE_bd (p : Pl) (fy : Nat) (r : Rn) (c : Cl) : ErB (playE p fy r c) := erB_if er6 er0
theorem putE_bd (n q : Nat) (u : Int) : ErB (putE n q u) := erB_if er4 (erB_if er12 er0)
/-- An answer's error. -/
def AnB (x : Ans) : Prop := ∀ e, x.o = .error e → ErB e
section
variable {d : Dk} {w : List ByteArray}
theorem anB_ok {o : ByteArray} {d' : Dk} : AnB ⟨.ok o, d'⟩ := fun e h => by cases h
theorem anB_er {e : Int} {d' : Dk} (h : ErB e) : AnB ⟨.error e, d'⟩ := fun e' h' => by cases h'; exact h
theorem anB_if {c : Prop} [Decidable c] {a b : Ans} (ha : AnB a) (hb : AnB b) : AnB (if c then a else b) := by split <;> assumption
theorem anB_or {e : Int} {o : ByteArray} {d' : Dk} (h : ErB e) : AnB (orE e o d') := by
 unfold orE
 intro e' h'
 dsimp only at h'
 split at h'
 ·cases h'
 ·cases h'; exact h
theorem er3 : ErB 3 := by unfold ErB; omega
theorem er8 : ErB 8 := by unfold ErB; omega
theorem anB_with {n : Int} {f : List Int → Ans} (h : ∀ l, AnB (f l)) : AnB (withN d w n f) := by
 unfold withN
 split
 ·exact anB_er er3
 ·exact h _
theorem anB_no {x : Ans} (h : AnB x) : AnB (noC d x) := by
 unfold noC
 split
 ·exact h
 ·exact anB_er er6
theorem anB_has {x : Nat → Cl → Ans} (h : ∀ fy c, AnB (x fy c)) : AnB (hasC d x) := by
 unfold hasC
 split
 ·exact anB_er er6
 ·exact h _ _
theorem cmd_err {s : ByteArray} {f : Dk → List ByteArray → Ans} (hf : cmdF s = some f) : AnB (f d w) := by
 obtain ⟨x, hx, -, rfl⟩ := lookS_mem hf
 unfold cmdL at hx
 simp only [List.mem_cons, List.not_mem_nil, or_false] at hx
 rcases hx with rfl | rfl | rfl | rfl | rfl | rfl | rfl | rfl | rfl | rfl | rfl | rfl | rfl | rfl | rfl | rfl | rfl | rfl | rfl | rfl
 ·exact anB_with fun _ => anB_or (chk_bd _)
 ·exact anB_with fun _ => anB_ok
 ·exact anB_with fun _ => anB_has fun _ _ => anB_ok
 ·exact anB_with fun _ => anB_has fun _ _ => anB_ok
 ·exact anB_with fun _ => anB_ok
 ·exact anB_with fun _ => anB_no (anB_if (anB_er er4) anB_ok)
 ·exact anB_with fun _ => anB_or (localE_bd _ _ _ _ _)
 ·exact anB_with fun _ => anB_has fun _ _ => anB_ok
 ·exact anB_with fun _ => anB_has fun _ _ => anB_if (anB_er er2) anB_ok
 ·exact anB_with fun _ => anB_or (midE_bd _ _)
 ·exact anB_with fun _ => anB_has fun _ _ => anB_ok
 ·exact anB_with fun _ => anB_no anB_ok
 ·refine anB_if (anB_er er3) (anB_with fun _ => anB_has fun _ _ => anB_if (anB_er er2) ?_)
  split
  ·exact anB_er er2
  ·exact anB_or (putE_bd _ _ _)
 ·exact anB_with fun _ => anB_has fun _ _ => anB_ok
 ·exact anB_with fun _ => anB_or (realE_bd _ _ _ _ _)
 ·refine anB_with fun _ => anB_has fun _ _ => anB_if (anB_er er2) ?_
  split
  ·exact anB_er er2
  ·refine anB_if (anB_er er2) ?_
   split
   ·exact anB_er er8
   ·exact anB_ok
 ·exact anB_with fun _ => anB_has fun _ _ => anB_if anB_ok (anB_er (playE_bd _ _ _ _))
 ·exact anB_with fun _ => anB_no (anB_if (anB_er er4) anB_ok)
 ·exact anB_with fun _ => anB_has fun _ _ => anB_ok
 ·exact anB_with fun _ => anB_no (anB_if anB_ok (anB_er (newE_bd _ _ _)))
end
end
section
open Go Go.RowKit
section
variable {w0 w : World} {g k : Nat} {d : Dk} {L : Ly}
/-- A block beside the desk changes. -/
theorem DkTo.far {w3 w4 : World} {po : Nat} {d' : Dk} (hD : DkL w0 w3 g d L) (hw : w0.heap.size ≤ w.heap.size) (hB : Below w.heap.size w w3) (hpo : w.heap.size ≤ po) (hpo3 : po < w3.heap.size) (hn : ¬ DFoot g L po) (ht : DkTo w0 w3 g L w4 d') (v : Value) : DkTo w0 w g L (w4.setCell ⟨po, 0, none⟩ v) d' ∧ w4.heap[po]? = w3.heap[po]? := by
 obtain ⟨L', h1, h2⟩ := ht
 have hn' : ¬ DFoot g L' po := fun hf => (h2.fam po hf).elim hn (fun e => by omega)
 have hk0 : KeptD w w4 g L L' := (KeptD.of_below hB).trans h2
 have hs : ∀ i, i ≠ po → (w4.setCell ⟨po, 0, none⟩ v).heap[i]? = w4.heap[i]? := fun i hi => Below.heap_setCell w4 _ v i hi
 have hk : KeptD w (w4.setCell ⟨po, 0, none⟩ v) g L L' := ⟨hk0.os, hk0.tape, hk0.output, by simpa [World.setCell] using hk0.size, fun i hi hf => (hs i (by omega)).trans (hk0.block i hi hf), hk0.fam⟩
 have hsz : (w4.setCell ⟨po, 0, none⟩ v).heap.size = w4.heap.size := by simp [World.setCell]
 have hlow : Below w0.heap.size w0 (w4.setCell ⟨po, 0, none⟩ v) := ⟨h1.low.os, h1.low.tape, h1.low.output, by rw [hsz]; exact h1.low.size, fun i hi => (hs i (fun e => by omega)).trans (h1.low.block i hi)⟩
 exact ⟨⟨L', h1.same (by rw [hsz]; exact Nat.le_refl _) hlow (fun i _ hf => hs i (fun e => hn' (by rw [← e]; exact hf))), hk⟩, h2.block po hpo3 hn⟩
set_option maxRecDepth 100000 in
set_option maxHeartbeats 4000000 in
theorem line_any (hstd : StdOk w0) (hD : DkL w0 w g d L) (ho : DkOk k d) (hk : k ≤ 6000) (s : ByteArray) (hs : s.size ≤ 40000) :
 Calls Tryz.prog 11 #[.pointer (some ⟨g, 0, none⟩), .string s] w fun e w' => e = .returned (.string (lineF d s).1) ∧ DkTo w0 w g L w' (lineF d s).2 := by
 obtain ⟨w1, hw1⟩ : ∃ w1, w.alloc (.cells #[.string ⟨#[]⟩] 9) = w1 := ⟨_, rfl⟩
 have hB1 : Below w.heap.size w w1 := by rw [← hw1]; exact (Below.refl _ _).alloc (Nat.le_refl _) _
 have hK1 : Blk w1 w.heap.size 9 #[.string ⟨#[]⟩] := by rw [← hw1]; exact Blk.new w _ _
 have HW1 := hide hw1; have HB1 := hide hB1; have HK1 := hide hK1; have HD := hide hD; have HO := hide ho; have HS := hide hstd; have HK := hide hk
 have HWD := hide (words_any s w1 (by omega))
 have HWL := hide (words_len s)
 have HWZ := hide (words_size s)
 have HWF : Hid (wordsF s = wordsD s) := hide rfl
 generalize wordsD s = ws at HWD HWL HWZ HWF
 have hmf : ∀ (fn : Fn) (first cap : Array Value) (w : World), (Instr.makeFunc fn first cap).run Tryz.prog w = .ok (.func fn first cap) w := fun _ _ _ _ => rfl
 clear hw1 hB1 hK1 hD ho hstd hk
 go_enter_defers Tryz.func11, Tryz.ntmps11
 go_wp2_with fail
 rw [HW1.out]
 refine HWD.out.mono ?_
 rintro r w2 ⟨AW, rfl, hAW, hown, hB2⟩
 have HB2 := hide (HB1.out.trans (hB2.mono HB1.out.size))
 have HK2 := hide (HK1.out.below hB2 HK1.out.lt)
 have HOW := hide hown
 have k0 := HK2.out.cells1
 clear hB2 hown HWD
 cases ws with
 | nil =>
  have HX : Hid (lineF d s = (⟨#[111, 107]⟩, d)) := hide (by unfold lineF; rw [HWF.out])
  have hk3 := HK2.out.set_ 0 (.string ⟨#[111, 107]⟩)
  have k1 := hk3.cell 0
  simp at k1
  have HEND : Hid (DkTo w0 w g L (w2.setCell ⟨w.heap.size, 0, none⟩ (.string ⟨#[111, 107]⟩)) d) := hide (HD.out.to (HB2.out.setCell (Nat.le_refl _) _))
  clear hk3
  go_wp2_with fail
  refine leaves_cons (f := 20) (args := #[.pointer (some ⟨w.heap.size, 0, none⟩)]) (by simp) (by simp [go_sem]) ?_
  refine (catch_idle ⟨w.heap.size, 0, none⟩ _).mono ?_
  rintro e u' w'' ⟨rfl, rfl, rfl⟩
  refine ⟨.string ⟨#[111, 107]⟩, by simp [results, Tryz.results11, go_sem, k1], ?_⟩
  rw [HX.out]
  exact ⟨rfl, HEND.out⟩
 | cons x ws =>
  have HWF2 := HWF
  have hc0 : w2.cell? ⟨AW, 0, none⟩ = some (.string x) := by
   have := own_cellJ HOW.out (i := 0) (by simp)
   exact this
  have HDO := hide (does_any g x w2)
  obtain ⟨n, hn⟩ : ∃ n, ws.length = n := ⟨_, rfl⟩
  have hlen : (x :: ws).length = n + 1 := by simp [hn]
  rw [hlen] at HOW ⊢
  have b1 : (1 : Int) ≤ ((n + 1 : Nat) : Int) := by omega
  have b3 : (1 : Int) ≤ (n : Int) + 1 := by omega
  have b5 : 1 ≤ n + 1 := by omega
  have d1 : (((n + 1 : Nat) : Int) == 0) = false := beq_eq_false_iff_ne.2 (by omega)
  have d2 : ((n : Int) + 1 == 0) = false := beq_eq_false_iff_ne.2 (by omega)
  have d3 : ¬ ((n : Int) + 1 = 0) := by omega
  have hlw := HD.out.low.size
  have bn : ∀ W : World, (binOp .eql 75 .nilFunc .nilFunc).run Tryz.prog W = .ok (.bool true) W := fun W => by kernel_rfl
  have bf : ∀ (W : World) (fn : Nat) (v : Value), (binOp .eql 75 (.func (.func fn) #[v] #[]) .nilFunc).run Tryz.prog W = .ok (.bool false) W := fun W fn v => by kernel_rfl
  go_wp2_with fail
  refine HDO.out.mono ?_
  rintro r w3 ⟨rfl, hB3⟩
  have HB3 := hide (HB2.out.trans (hB3.mono HB2.out.size))
  have HK3 := hide (HK2.out.below hB3 HK2.out.lt)
  have HD3 := hide (HD.out.below HB3.out)
  have HS3 := hide (HS.out.below HS.out.big HD3.out.low)
  have hO3 := own_keepB HOW.out hB3
  have hAWlt : AW < w3.heap.size := (hO3.lt AW rfl).2
  have hpo3 := HK3.out.lt
  have hnpo : ¬ DFoot g L w.heap.size := fun hf => by have := (HD.out.lo hf).2; omega
  have HNPO := hide hnpo
  have hAWn : ¬ DFoot g L AW := fun hf => by have := (HD.out.lo hf).2; have := HB1.out.size; omega
  have HCELL : Hid (∀ j y, ws[j]? = some y → w3.cell? ⟨AW, j + 1, none⟩ = some (.string y)) := hide (fun j y hy => by
   have hj := (List.getElem?_eq_some_iff.1 hy).1
   rw [own_cellJ hO3 (i := j + 1) (by omega), List.map_cons, List.getElem?_cons_succ, List.getElem?_map, hy]
   rfl)
  have k3 := HK3.out.cells1
  clear hB3 hO3 hc0 k0 HDO hnpo
  rcases does_of g x with ⟨h1, h2⟩ | ⟨f, h1, fn, h2, eg, hc⟩
  ·have HX : Hid (lineF d s = (errB 3, d)) := hide (by unfold lineF; rw [HWF.out]; dsimp only; rw [h1])
   have HMU := hide (must_errno 3 w3 HS3.out.err)
   rw [h2]
   clear h1 h2
   go_wp2_with fail
   refine HMU.out.mono ?_
   rintro r w4 ⟨rfl, hB4⟩
   have HB4 := hide (HB3.out.trans (hB4.mono HB3.out.size))
   have HK4 := hide (HK3.out.below hB4 HK3.out.lt)
   have HS4 := hide (HS3.out.next hB4)
   clear hB4
   go_wp2_with fail
   refine leaves_cons (f := 20) (args := #[.pointer (some ⟨w.heap.size, 0, none⟩)]) (by simp) (by simp [go_sem]) ?_
   refine (catch_wrong w.heap.size ⟨#[]⟩ 3 [] w4 HS4.out HK4.out (by omega) (by omega)).mono ?_
   rintro e u' w'' ⟨rfl, rfl, w5, hB5, rfl⟩
   have hk5 := (HK4.out.below hB5 HK4.out.lt).set_ 0 (.string (errB 3))
   have k1 := hk5.cell 0
   simp at k1
   refine ⟨.string (errB 3), by simp [results, Tryz.results11, go_sem, k1], ?_⟩
   rw [HX.out]
   exact ⟨rfl, HD.out.to ((HB4.out.trans (hB5.mono HB4.out.size)).setCell (Nat.le_refl _) _)⟩
  ·have HX : Hid (lineF d s = (ansB (f d ws).o, (f d ws).d)) := hide (by unfold lineF; rw [HWF.out]; dsimp only; rw [h1])
   have HER := hide (cmd_err (d := d) (w := ws) h1)
   rw [h2]
   have HCM : Hid (∀ AA, (∀ j y, ws[j]? = some y → ∃ b off, AA = some ⟨b, off, none⟩ ∧ w3.cell? ⟨b, off + j, none⟩ = some (.string y)) → (∀ z, AA = some z → z.block = AW) → Calls Tryz.prog fn #[.pointer (some ⟨g, 0, none⟩), .slice AA n n] w3 (DoP w0 w3 g L (f d ws))) := hide (fun AA hAA hAB => by
    have hl := HWL.out
    rw [hlen] at hl
    have := hc w0 w3 d L k AA ws n ⟨HS.out, HD3.out, HO.out, HK.out, by omega, fun j => by
     rw [List.getD_eq_getElem?_getD]
     cases hj : ws[j]? with
     | none => exact Nat.zero_le _
     | some y =>
      have := HWZ.out y (List.mem_cons_of_mem _ (List.mem_of_getElem? hj))
      show y.size ≤ 100000
      omega, fun j hj => by
     obtain ⟨b, off, e, hcell⟩ := hAA j ws[j] (List.getElem?_eq_getElem hj)
     exact ⟨b, off, e, by rw [hcell, List.getD_eq_getElem?_getD, List.getElem?_eq_getElem hj]; rfl⟩, fun z hz => by rw [hAB z hz]; exact hAWn⟩ (by omega)
    rw [hn] at this
    exact this)
   clear h1 h2 hc
   have HFAR : Hid (∀ (w4 : World) (d' : Dk) (v : Value), DkTo w0 w3 g L w4 d' → DkTo w0 w g L (w4.setCell ⟨w.heap.size, 0, none⟩ v) d' ∧ Blk w4 w.heap.size 9 #[.string ⟨#[]⟩] ∧ StdOk w4) := hide (fun w4 d' v ht => by
    obtain ⟨h1, h2⟩ := DkTo.far HD3.out hlw HB3.out (Nat.le_refl _) hpo3 HNPO.out ht v
    obtain ⟨L', h3, _⟩ := ht
    exact ⟨h1, h2.trans HK3.out, HS.out.below HS.out.big h3.low⟩)
   have HC2 : Hid (Calls Tryz.prog fn #[.pointer (some ⟨g, 0, none⟩), .slice (if n = 0 then some ⟨AW, 0, none⟩ else some ⟨AW, 1, none⟩) n n] w3 (DoP w0 w3 g L (f d ws))) := hide (HCM.out _ (fun j y hy => by
    have hj := (List.getElem?_eq_some_iff.1 hy).1
    rw [if_neg (by omega)]
    exact ⟨AW, 1, rfl, by rw [Nat.add_comm 1 j]; exact HCELL.out j y hy⟩) (fun z hz => by split at hz <;> cases hz <;> rfl))
   clear HCM HCELL
   obtain ⟨oo, hoo⟩ : ∃ oo, (f d ws).o = oo := ⟨_, rfl⟩
   rw [hoo] at HX
   have HOO := hide hoo
   clear hoo
   by_cases hn0 : n = 0
   all_goals
    simp only [hn0, if_true, if_false] at HC2
    go_wp2_with fail
    refine HC2.out.mono ?_
    intro r w4 hp
    obtain ⟨ha, ht⟩ := hp
    rw [HOO.out] at ha
    cases oo with
    | ok o =>
     obtain rfl : r = .returned (.string o) := ha
     obtain ⟨h1, h2, -⟩ := HFAR.out w4 (f d ws).d (.string o) ht
     have HEND := hide h1
     have k4 := h2.cells1
     have hk5 := h2.set_ 0 (.string o)
     have k1 := hk5.cell 0
     simp at k1
     clear ht h1 h2 hk5
     go_wp2_with fail
     refine leaves_cons (f := 20) (args := #[.pointer (some ⟨w.heap.size, 0, none⟩)]) (by simp) (by simp [go_sem]) ?_
     refine (catch_idle ⟨w.heap.size, 0, none⟩ _).mono ?_
     rintro e u' w'' ⟨rfl, rfl, rfl⟩
     refine ⟨.string o, by simp [results, Tryz.results11, go_sem, k1], ?_⟩
     rw [HX.out]
     exact ⟨rfl, HEND.out⟩
    | error en =>
     obtain rfl : r = .panicked (wrongP en) := ha
     have heb := HER.out en HOO.out
     obtain ⟨e0, e1⟩ := heb
     obtain ⟨-, h2, h3⟩ := HFAR.out w4 (f d ws).d (.string ⟨#[]⟩) ht
     have HK4 := hide h2; have HS4 := hide h3; have HT := hide ht
     clear ht h2 h3
     go_wp2_with fail
     refine leaves_cons (f := 20) (args := #[.pointer (some ⟨w.heap.size, 0, none⟩)]) (by simp) (by simp [go_sem]) ?_
     refine (catch_wrong w.heap.size ⟨#[]⟩ en [] w4 HS4.out HK4.out (by omega) (by omega)).mono ?_
     rintro e u' w'' ⟨rfl, rfl, w5, hB5, rfl⟩
     have hk5 := (HK4.out.below hB5 HK4.out.lt).set_ 0 (.string (errB en))
     have k1 := hk5.cell 0
     simp at k1
     refine ⟨.string (errB en), by simp [results, Tryz.results11, go_sem, k1], ?_⟩
     rw [HX.out]
     exact ⟨rfl, (HFAR.out w5 (f d ws).d (.string (errB en)) (HT.out.below hB5)).1⟩
end
end
section
open Go Go.RowKit
section
variable {w0 w w' : World} {base g b : Nat} {d : Dk} {L : Ly}
/-- No row of bytes. -/
def NoE (e : TypeId) : Ob → Prop
 | .arr t _ _ => t ≠ e
 | .blk _ t _ => t ≠ e
 | _ => True
theorem obj_typed {o : Ob} (h : o.At w base) (ho : NoE 5 o) {i : Nat} (hi : i ∈ o.foot) : ∃ c t, w.heap[i]? = some (.cells c t (0, 0)) ∧ t ≠ 5 := by
 have que : ∀ {t : TypeId} {v : Value} {l : List Value}, QAt w base t v l → t ≠ 5 → v.ownBlock = some i → ∃ c t, w.heap[i]? = some (.cells c t (0, 0)) ∧ t ≠ 5 := by
  intro t v l hq ht e
  rcases hq with ⟨_, ao, rfl, h3⟩ | ⟨g, off, cap, cur, rfl, hg, hh, r⟩
  ·cases ao with
   | none => cases e
   | some x =>
    cases e
    obtain ⟨_, cur, hh⟩ := h3 x rfl
    exact ⟨cur, t, hh, ht⟩
  ·cases e
   exact ⟨cur, t, hh, ht⟩
 cases o with
 | none => simp [Ob.foot] at hi
 | mem => simp only [Ob.foot, List.mem_singleton] at hi; subst hi; exact ⟨_, _, h, by decide⟩
 | tak => simp only [Ob.foot, List.mem_singleton] at hi; subst hi; exact ⟨_, _, h, by decide⟩
 | snd =>
  simp only [Ob.foot, List.mem_cons, Option.mem_toList] at hi
  rcases hi with rfl | hi
  ·exact ⟨_, _, h.1, by decide⟩
  ·exact que h.2.1 (by decide) hi
 | prt =>
  simp only [Ob.foot, List.mem_cons, Option.mem_toList] at hi
  rcases hi with rfl | hi
  ·exact ⟨_, _, h.1, by decide⟩
  ·exact que h.2.1 (by decide) hi
 | arr => exact que h ho (by simpa [Ob.foot] using hi)
 | blk => simp only [Ob.foot, List.mem_singleton] at hi; subst hi; exact ⟨_, _, h, ho⟩
theorem shape_no (a : Ad) (n : Cn) (p : Pl) (P : Sv3) (fy : Nat) (c : Cl) (x : Ix) : NoE 5 (shape a n p P fy c x) := by
 cases x
 case mem i => dsimp only [shape]; split <;> trivial
 case snd k =>
  dsimp only [shape]
  split
  ·split <;> trivial
  ·trivial
 case tak k i => dsimp only [shape]; split <;> trivial
 case prt k i => dsimp only [shape]; split <;> trivial
 case loc j => trivial
 all_goals
  dsimp only [shape, NoE]
  decide
theorem DkL.typed (h : DkL w0 w g d L) {i : Nat} (hf : DFoot g L i) : ∃ c t, w.heap[i]? = some (.cells c t (0, 0)) ∧ t ≠ 5 := by
 rcases hf with rfl | ⟨j, hj, e⟩ | ⟨x, hx⟩
 ·exact ⟨_, _, h.blk, by decide⟩
 ·obtain ⟨_, ⟨hv, _⟩ | ⟨b, cap, cur, hv, hb, hh, _⟩⟩ := h.own j hj
  ·rw [hv] at e; cases e
  ·rw [hv] at e
   cases e
   refine ⟨cur, _, hh, ?_⟩
   obtain rfl | rfl | rfl | rfl | rfl | rfl : j = 0 ∨ j = 1 ∨ j = 2 ∨ j = 3 ∨ j = 4 ∨ j = 5 := by omega
   all_goals decide
 ·obtain ⟨b0, h1, h2, hO⟩ := h.fam
  refine obj_typed (hO.at_ x) ?_ hx
  have hcl := h.clu
  unfold CluAt at hcl
  cases hd : d.c with
  | none => rw [hd] at hcl; rw [hcl.2]; trivial
  | some y =>
   rw [hd] at hcl
   obtain ⟨a, _, h4⟩ := hcl
   rw [h4]
   exact shape_no a _ _ _ _ _ x
theorem DkL.others (h : DkL w0 w g d L) (hk : Lib.OthersKept 5 (some b) w w') (hl : Below w0.heap.size w0 w') (hs : w.heap.size ≤ w'.heap.size) (hb : ¬ DFoot g L b) : DkL w0 w' g d L :=
 h.same hs hl (fun i _ hf => by
  obtain ⟨c, t, h1, h2⟩ := h.typed hf
  exact (hk i _ h1 (fun e => hb (by cases e; exact hf)) (fun c' fz e => h2 (by cases e; rfl))).trans h1.symm)
end
end
section
open Go Go.RowKit
section
variable {α : Type} {F : Fence} {n : Nat} {P : Program}
/-- What such an iterator does with a body that always goes on. -/
def BoxSeq (F : Fence) (n : Nat) (P : Program) (gf : Nat) (lb : Array Value) (encs : α → Array Value) (sb : Nat) (K : Nat → Prop) (xs : List α) (w : World) : Prop :=
 ∀ (l : Nat) (J : List α → World → Prop) (W : World), Below w.heap.size w W → (∀ s W v, J s W → J s (W.setCell ⟨sb, 0, none⟩ v)) →
  (∀ s x W1, J s W1 → (∃ r, xs = s ++ x :: r) → YieldAt F (n - 1) P l (encs x) W1 fun e W' => e = .returned (.bool true) ∧ J (s ++ [x]) W' ∧ ∀ i, K i → W'.heap[i]? = W1.heap[i]?) →
  J [] W → CallsIn F n P gf (#[.func (.yield l) #[] #[]] ++ lb) W fun e W' => (∃ v, e = .returned v) ∧ J xs W'
theorem wpIn_rangeBox {g : Operand} {ps : Array Tmp} {assign body : Code} {Q : Exit → Act → World → Prop} {a : Act} {w : World}
 (hro : F.round = none) (h1 : 1 ≤ n) {gf : Nat} {lb : Array Value} (hg : a.eval g = .func (.func gf) #[] lb) (hF : F.fn gf) (eg : ∀ args w, (callFunc gf args).run P w = .ok (.enter gf args) w)
 {encs : α → Array Value} (hps : ∀ x, (encs x).size = ps.size) {sb : Nat} (hsb : sb < w.heap.size) {K : Nat → Prop} (hKs : ∀ i, K i → i < w.heap.size) {xs : List α} (hseq : BoxSeq F (n - 1) P gf lb encs sb K xs w)
 (I : List α → World → Prop) (hIa : ∀ s W o, I s W → I s (W.alloc o)) (hIp : ∀ s W o, I s W → (∃ o' : Obj, W.heap[w.heap.size + 1]? = some o' ∧ o'.isCells = false) → I s (W.putObj (w.heap.size + 1) o)) (hIb : ∀ s W v, I s W → I s (W.setCell ⟨sb, 0, none⟩ v)) (h0 : I [] w) (a₁ : α → Act)
 (hassign : ∀ (l : Nat) (x : α) (W : World) (K : Act → World → Prop), K (a₁ x) W →
  assign.wpIn (F.inRound l) (n - 1 - 1) P (Exit.then K (fun _ _ _ => False)) { tmps := (ps.zip (encs x)).foldl (fun t (p, v) => t.setIfInBounds p v) a.tmps, defers := [] } W)
 (hbody : ∀ (l : Nat) (s : List α) (x : α) (W : World), I s W → (∃ r, xs = s ++ x :: r) → (∀ i, i = w.heap.size ∨ i = w.heap.size + 1 → ∃ o : Obj, W.heap[i]? = some o ∧ o.isCells = false) → body.wpIn (F.inRound l) (n - 1 - 1) P (fun e _ W' => e = .normal ∧ (∀ i, K i ∨ i = w.heap.size ∨ i = w.heap.size + 1 → W'.heap[i]? = W.heap[i]?) ∧ I (s ++ [x]) W') (a₁ x) W)
 (hdone : ∀ (D : Nat) (W : World), w.heap.size ≤ D → I xs W → W.heap[D]? = some (.deferred (some [])) → Q .normal { a with defers := { target := .collected D, args := #[] } :: a.defers } W) :
 (Code.rangeFunc g ps assign body).wpIn F n P Q a w := by
 refine wpIn_rangeFunc fun fn hfn => ?_
 rw [hro]
 let M : LoopState → Option Code → Loop := fun st pe => { state := st, pending := pe, fn, tmps := a.tmps, params := ps, assign, body, defers := w.heap.size }
 let W1 := (w.alloc (.deferred (some []))).alloc (.loop (M .ready none))
 have e1 : W1.heap[w.heap.size + 1]? = some (.loop (M .ready none)) := by
  have := World.alloc_heap_new (w.alloc (.deferred (some []))) (.loop (M .ready none))
  rwa [World.size_alloc] at this
 have e2 : W1.heap[w.heap.size]? = some (.deferred (some [])) := (Below.heap_alloc _ _ _ (by simp)).trans (World.alloc_heap_new w _)
 have hB : Below w.heap.size w W1 := ((Below.refl _ w).alloc (Nat.le_refl _) _).alloc (by simp) _
 refine ⟨w.heap.size + 1, [{ target := .collected w.heap.size, args := #[] }], W1, { target := .fn (.func gf) lb, args := #[.func (.yield (w.heap.size + 1)) #[] #[]] }, W1, gf,
  #[.func (.yield (w.heap.size + 1)) #[] #[]] ++ lb, W1, run_enterLoop_outer _ _ _ _ _, by simp only [resolve, hg]; simp [go_sem], fun f' hf' => by simp [Target.leads] at hf'; subst hf'; exact hF, by simp [invoke, go_sem, eg], fun _ => h1, ?_⟩
 have hset : ∀ (W : World) (v : Value) (i : Nat), i ≠ sb → (W.setCell ⟨sb, 0, none⟩ v).heap[i]? = W.heap[i]? := fun W v i hi => Below.heap_setCell W _ v i hi
 refine (hseq (w.heap.size + 1) (fun s W => I s W ∧ W.heap[w.heap.size + 1]? = some (.loop (M .ready none)) ∧ W.heap[w.heap.size]? = some (.deferred (some []))) W1 hB
  (fun s W v h => ⟨hIb s W v h.1, (hset W v _ (by omega)).trans h.2.1, (hset W v _ (by omega)).trans h.2.2⟩) ?_ ⟨hIa _ _ _ (hIa _ _ _ h0), e1, e2⟩).mono ?_
 ·rintro s x W ⟨hi, hl, hk⟩ hlen
  have hlt : w.heap.size + 1 < W.heap.size := (Array.getElem?_eq_some_iff.1 hl).1
  refine ⟨fn, _, assign, body, run_yield hl (hps x), roundIn_of_wpIn hfn (hassign _ x W _ ⟨_, run_beginRound hl rfl, ?_⟩)⟩
  have b1 : (W.putObj (w.heap.size + 1) (.loop (M .busy none))).heap[w.heap.size + 1]? = some (.loop (M .busy none)) := World.putObj_heap_same hlt
  have b2 : (W.putObj (w.heap.size + 1) (.loop (M .busy none))).heap[w.heap.size]? = some (.deferred (some [])) := (World.putObj_heap_other (by omega)).trans hk
  refine wpIn_mono (hbody _ s x _ (hIp _ _ _ hi ⟨_, hl, rfl⟩) hlen (fun i hi => by
   rcases hi with rfl | rfl
   ·exact ⟨_, b2, rfl⟩
   ·exact ⟨_, b1, rfl⟩)) ?_
  rintro e a3 W3 ⟨rfl, hs3, hi3⟩
  have b3 := (hs3 _ (.inr (.inr rfl))).trans b1
  have b4 := (hs3 _ (.inr (.inl rfl))).trans b2
  exact ⟨_, _, run_endRound none b3, rfl, ⟨hIp _ _ _ hi3 ⟨_, b3, rfl⟩, World.putObj_heap_same (Array.getElem?_eq_some_iff.1 b3).1, (World.putObj_heap_other (by omega)).trans b4⟩,
   fun i hi => ((World.putObj_heap_other (by have := hKs i hi; omega)).trans (hs3 i (.inl hi))).trans (World.putObj_heap_other (by have := hKs i hi; omega))⟩
 ·rintro e W2 ⟨⟨v, rfl⟩, hi, hl, hk⟩
  exact ⟨none, _, run_endLoop hl (by simp [M]), hdone _ _ (Nat.le_refl _) (hIp _ _ _ hi ⟨_, hl, rfl⟩) ((World.putObj_heap_other (by omega)).trans hk)⟩
end
end
section
open Go Go.RowKit Go.Shelf
attribute [local go_sem] Oper.semAt_some
/-- How much of the text is left. -/
def leftB (b : Nat) (w : World) : Nat := match w.cell? ⟨b, 0, none⟩ with
 | some (.string s) => s.size
 | _ => 0
theorem ext_list (r : ByteArray) (a b : Nat) (hb : b ≤ r.size) : (r.extract a b).data.toList = (r.data.toList.drop a).take (b - a) := by
 rw [ByteArray.data_extract, Array.toList_extract, List.extract_eq_take_drop]
theorem ext_pre (r : ByteArray) (m : Nat) (hm : m ≤ r.size) : (⟨(r.data.toList.take m).toArray⟩ : ByteArray) = r.extract 0 m := by
 apply ByteArray.ext
 apply Array.ext'
 rw [ext_list r 0 m hm]
 simp
theorem ext_suf (r : ByteArray) (m : Nat) : r.data.toList.drop m = (r.extract m r.size).data.toList := by
 rw [ext_list r m r.size (Nat.le_refl _)]
 rw [List.take_of_length_le]
 simp
def linesB (s : ByteArray) : List ByteArray := (nlF s.data.toList).map fun l => ⟨l.toArray⟩
set_option maxRecDepth 100000 in
set_option maxHeartbeats 4000000 in
theorem split_box (n : Nat) (hn : 1 ≤ n) (b : Nat) (s : ByteArray) (hs : s.size ≤ 1000000) (w : World) (h0 : Blk w b 9 #[.string s]) (h1 : Blk w (b + 1) 9 #[.string ⟨#[10]⟩]) (h2 : Blk w (b + 2) 3 #[.int .i64 0]) :
 BoxSeq Fence.wide n Tryz.prog 41 #[.pointer (some ⟨b + 1, 0, none⟩), .pointer (some ⟨b, 0, none⟩), .pointer (some ⟨b + 2, 0, none⟩)] (fun x : ByteArray => #[.string x]) b (fun i => i = b ∨ i = b + 1 ∨ i = b + 2) (linesB s) w := by
 intro l J W hB hJ hY hJ0
 have g0 := h0.below hB h0.lt
 have g1 := h1.below hB h1.lt
 have g2 := h2.below hB h2.lt
 clear h0 h1 h2 hB
 have c1 := g1.cells1
 refine callsIn_of_wp Tryz.func41 rfl trivial ?_ rfl
 simp only [Tryz.ntmps41, List.size_toArray, List.length_cons, List.length_nil, Nat.reduceAdd, Nat.reduceSub, Array.replicate_succ, Array.replicate_zero, List.push_toArray, List.append_toArray, List.nil_append, List.cons_append]
 gi_wp2
 gi_loopw [7] (fun v7 wr => ∃ (pre : List ByteArray) (r : ByteArray), Hid (linesB s = pre ++ linesB r) ∧ r.size ≤ s.size ∧ Blk wr b 9 #[.string r] ∧ Blk wr (b + 1) 9 #[.string ⟨#[10]⟩] ∧ Blk wr (b + 2) 3 #[.int .i64 0] ∧ Hid (J pre wr)) (fun _ wr => leftB b wr)
 case atStart => exact ⟨[], s, hide rfl, Nat.le_refl _, g0, g1, g2, hide hJ0⟩
 case round =>
  obtain ⟨pre, r, HX, hrs, r0, r1, r2, HJr⟩ := hrel
  clear c1 g0 g1 g2 hJ0
  have c0 := r0.cells1
  have c1 := r1.cells1
  have c2 := r2.cells1
  obtain ⟨x, hx⟩ : ∃ x, Lib.indexByte r.data.toList 10 = x := ⟨_, rfl⟩
  have HI := hide (Tryz.strings_Index_one r 10 wr)
  rw [hx] at HI
  by_cases hn1 : x = -1
  ·subst hn1
   have hlb : linesB r = [r] := by
    unfold linesB
    rw [nl_index_no hx]
    simp
   have HLB := hide hlb
   obtain ⟨fn, tmps, assign, body, hy, hR⟩ := hY pre r wr HJr.out ⟨[], by rw [HX.out, hlb]⟩
   have HR := hide hR
   clear hlb hx hY hR r0 r1 r2
   gi_wp2_with (refine ⟨trivial, (callsIn_wide.2 HI.out).mono ?_⟩; rintro e w2 ⟨rfl, rfl⟩)
   refine HR.out.mono ?_
   rintro e W3 ⟨rfl, hJ3, -⟩
   gi_wp2
   go_end0
   exact ⟨⟨_, rfl⟩, by rw [HX.out, HLB.out]; exact hJ3⟩
  ·obtain ⟨m, rfl⟩ : ∃ m : Nat, x = m := Int.eq_ofNat_of_zero_le (by have := Lib.indexByte_ge r.data.toList 10; rw [hx] at this; omega)
   obtain ⟨hm, hnl⟩ := nl_index hx
   have hm2 : m < r.size := by simpa using hm
   have hlb : linesB r = r.extract 0 m :: linesB (r.extract (m + 1) r.size) := by
    unfold linesB
    rw [hnl, List.map_cons, ext_pre r m (by omega), ext_suf]
   have HLB := hide hlb
   obtain ⟨fn, tmps, assign, body, hy, hR⟩ := hY pre (r.extract 0 m) wr HJr.out ⟨_, by rw [HX.out, hlb]⟩
   have HR := hide hR
   have d1 : decide ((m : Int) < 0) = false := decide_eq_false (by omega)
   have e1 : wrap64 (m : Int) = m := by unfold wrap64; omega
   have e2 : wrap64 ((m : Int) + 1) = m + 1 := by unfold wrap64; omega
   clear hlb hx hnl hm hR hn1
   gi_wp2_with (refine ⟨trivial, (callsIn_wide.2 HI.out).mono ?_⟩; rintro e w2 ⟨rfl, rfl⟩)
   refine HR.out.mono ?_
   rintro e W3 ⟨rfl, hJ3, hk3⟩
   have r0' : Blk W3 b 9 #[.string r] := (hk3 b (.inl rfl)).trans r0
   have r1' : Blk W3 (b + 1) 9 #[.string ⟨#[10]⟩] := (hk3 (b + 1) (.inr (.inl rfl))).trans r1
   have r2' : Blk W3 (b + 2) 3 #[.int .i64 0] := (hk3 (b + 2) (.inr (.inr rfl))).trans r2
   have HJ3 := hide hJ3
   have HC0 := hide c0.1
   clear c0 c1 c2 r0 r1 r2 HJr HI HR hy hJ3 hk3
   have c0 := r0'.cells1
   have c1 := r1'.cells1
   have c2 := r2'.cells1
   gi_wp2
   go_roundw
   case rel => exact ⟨pre ++ [r.extract 0 m], r.extract (m + 1) r.size, hide (by rw [HX.out, HLB.out]; simp), by rw [ByteArray.size_extract]; omega, by simpa using r0'.set_ 0 _, r1'.far (by simp) _, r2'.far (by simp) _, hide (hJ _ _ _ HJ3.out)⟩
   case measure =>
    have h1 : (W3.setCell ⟨b, 0, none⟩ (.string (r.extract (m + 1) r.size))).cell? ⟨b, 0, none⟩ = some (.string (r.extract (m + 1) r.size)) := by
     have := (r0'.set_ 0 (.string (r.extract (m + 1) r.size))).cell 0
     simpa using this
    unfold leftB
    rw [h1, HC0.out]
    dsimp only
    rw [ByteArray.size_extract]
    omega
theorem splitSeq_any (s p : ByteArray) (w : World) : Calls Tryz.prog 17 #[.string s, .string p, .int .i64 0] w fun e w' =>
 e = .returned (.func (.func 41) #[] #[.pointer (some ⟨w.heap.size + 1, 0, none⟩), .pointer (some ⟨w.heap.size, 0, none⟩), .pointer (some ⟨w.heap.size + 2, 0, none⟩)]) ∧
 w' = ((w.alloc (.cells #[.string s] 9)).alloc (.cells #[.string p] 9)).alloc (.cells #[.int .i64 0] 3) := by
 go_enter Tryz.func17, Tryz.ntmps17
 go_wp2_with fail
 go_ret
 exact ⟨rfl, rfl⟩
theorem split_any (s p : ByteArray) (w : World) : Calls Tryz.prog 8 #[.string s, .string p] w fun e w' =>
 e = .returned (.func (.func 41) #[] #[.pointer (some ⟨w.heap.size + 1, 0, none⟩), .pointer (some ⟨w.heap.size, 0, none⟩), .pointer (some ⟨w.heap.size + 2, 0, none⟩)]) ∧
 w' = ((w.alloc (.cells #[.string s] 9)).alloc (.cells #[.string p] 9)).alloc (.cells #[.int .i64 0] 3) := by
 have HS := hide (splitSeq_any s p w)
 go_enter Tryz.func8, Tryz.ntmps8
 go_wp2_with fail
 refine HS.out.mono ?_
 rintro e w2 ⟨rfl, rfl⟩
 go_wp2_with fail
 go_ret
 exact ⟨rfl, rfl⟩
end
section
open Go Go.RowKit
/-- How long lines are, with their ends. -/
def sumL (l : List ByteArray) : Nat := (l.map fun s => s.size + 1).sum
theorem sumL_app (l m : List ByteArray) : sumL (l ++ m) = sumL l + sumL m := by simp [sumL]
theorem nlF_sum : ∀ l : List UInt8, ((nlF l).map fun s => s.length + 1).sum = l.length + 1
 | [] => rfl
 | x :: l => by
  have ih := nlF_sum l
  obtain ⟨y, r, h⟩ := nlF_cons l
  unfold nlF
  rw [h] at ih ⊢
  split
  ·simp at ih ⊢
   omega
  ·simp at ih ⊢
   omega
theorem linesB_sum (s : ByteArray) : sumL (linesB s) = s.size + 1 := by
 unfold sumL linesB
 rw [List.map_map]
 have := nlF_sum s.data.toList
 rw [show (s.size : Nat) = s.data.toList.length by simp]
 rw [← this]
 rfl
theorem runG_snoc {D : Type} (f : D → ByteArray → ByteArray × D) (d : D) (l : List ByteArray) (s : ByteArray) : runG f d (l ++ [s]) = runG f d l ++ ((f (endG f d l) s).1.data.toList ++ [10]) := by
 rw [runG_app]
 simp [runG]
theorem endG_snoc {D : Type} (f : D → ByteArray → ByteArray × D) : ∀ (l : List ByteArray) (d : D) (s : ByteArray), endG f d (l ++ [s]) = (f (endG f d l) s).2
 | [], d, s => rfl
 | x :: l, d, s => by
  rw [List.cons_append, endG, endG_snoc f l]
  rfl
theorem endG_ok : ∀ (l : List ByteArray) (d : Dk) (k : Nat), DkOk k d → DkOk (k + sumL l) (endG lineF d l)
 | [], d, k, h => h.mono (by omega)
 | s :: l, d, k, h => by
  have h1 : DkOk (k + (s.size + 1)) (lineF d s).2 := by
   unfold lineF
   split
   ·exact h.mono (by omega)
   ·rename_i x ws hw
    split
    ·exact h.mono (by omega)
    ·rename_i f hf
     have hl := words_len s
     have hl2 : (wordsF s).length ≤ s.size + 1 := hl
     rw [hw, List.length_cons] at hl2
     exact (cmd_ok h hf).mono (by omega)
  have := endG_ok l _ _ h1
  rw [endG]
  exact this.mono (by simp [sumL]; omega)
/-- A builder stays where neither its block nor rows of bytes change. -/
theorem isb_keep {W W' : World} {B b : Nat} {bs : List Value} (h : Lib.IsBuilderF 42 5 B b bs W) (hb : W'.heap[b]? = W.heap[b]?) (hr : ∀ (i : Nat) (c : Array Value) (fz : Nat × Nat), W.heap[i]? = some (Obj.cells c 5 fz) → W'.heap[i]? = W.heap[i]?) : Lib.IsBuilderF 42 5 B b bs W' := by
 have one : ∀ p, Lib.BuilderAtF 42 5 B b p bs W → Lib.BuilderAtF 42 5 B b p bs W' := by
  rintro p ⟨h1, v, h2, ⟨h3, h4⟩, h5⟩
  refine ⟨h1, v, hb.trans h2, ⟨h3, ?_⟩, h5⟩
  rcases h4 with h4 | ⟨g, cap, cur, fz, e1, e2, e3, e4⟩
  ·exact .inl h4
  ·exact .inr ⟨g, cap, cur, fz, e1, e2, (hr g cur fz e3).trans e3, e4⟩
 exact h.imp (one _) (one _)
section
variable {w0 W W2 W3 : World} {g b hi k : Nat} {d d' : Dk} {acc : List UInt8}
/-- A session under way. -/
def SesK (w0 : World) (g b hi : Nat) (d : Dk) (acc : List UInt8) (W : World) : Prop := ∃ L, DkL w0 W g d L ∧ (∀ i, g < i → i < hi → ¬ DFoot g L i) ∧
 Lib.IsBuilderF 42 5 w0.heap.size b (Lib.byteCells acc) W ∧ b < W.heap.size ∧ (∃ cs, Blk W (b + 1) 9 cs) ∧ (∃ cs, Blk W (b + 2) 9 cs) ∧ (∃ cs, Blk W (b + 3) 3 cs)
/-- Only blocks that are nothing of it change. -/
theorem SesK.keep (h : SesK w0 g b hi d acc W) (hl : Below w0.heap.size w0 W2) (hs : W.heap.size ≤ W2.heap.size) (hgb : g < b) (hbh : b < hi)
 (hk : ∀ (i : Nat) (c : Array Value) (t : TypeId) (fz : Nat × Nat), W.heap[i]? = some (Obj.cells c t fz) → W2.heap[i]? = some (Obj.cells c t fz)) : SesK w0 g b hi d acc W2 := by
 obtain ⟨L, h1, h2, h3, h4, ⟨c1, k1⟩, ⟨c2, k2⟩, ⟨c3, k3⟩⟩ := h
 refine ⟨L, h1.same hs hl (fun i _ hf => ?_), h2, isb_keep h3 ?_ (fun i c fz hc => (hk i c _ fz hc).trans hc.symm), by omega, ⟨c1, hk _ _ _ _ k1⟩, ⟨c2, hk _ _ _ _ k2⟩, ⟨c3, hk _ _ _ _ k3⟩⟩
 ·obtain ⟨c, t, e, _⟩ := h1.typed hf
  exact (hk i _ _ _ e).trans e.symm
 ·rcases h3 with ⟨_, v, hb, _⟩ | ⟨_, v, hb, _⟩
  ·exact (hk _ _ _ _ hb).trans hb.symm
  ·exact (hk _ _ _ _ hb).trans hb.symm
theorem SesK.alloc (h : SesK w0 g b hi d acc W) (hgb : g < b) (hbh : b < hi) (o : Obj) : SesK w0 g b hi d acc (W.alloc o) := by
 have hl : Below w0.heap.size w0 W := by obtain ⟨L, h1, _⟩ := h; exact h1.low
 exact h.keep (hl.alloc hl.size _) (by simp) hgb hbh (fun i c t fz e => (Below.heap_alloc W o i (Array.getElem?_eq_some_iff.1 e).1).trans e)
theorem SesK.put (h : SesK w0 g b hi d acc W) (hgb : g < b) (hbh : b < hi) {q : Nat} (hq : g < q) (hqo : ∃ o' : Obj, W.heap[q]? = some o' ∧ o'.isCells = false) (o : Obj) : SesK w0 g b hi d acc (W.putObj q o) := by
 obtain ⟨o', ho, hc⟩ := hqo
 have hlow : Below w0.heap.size w0 W ∧ w0.heap.size ≤ g := by obtain ⟨L, h1, _⟩ := h; exact ⟨h1.low, h1.gb⟩
 have hs : ∀ i, i ≠ q → (W.putObj q o).heap[i]? = W.heap[i]? := fun i hi => World.putObj_heap_other hi
 have hg := grownBy_putObj' W q o
 refine h.keep ⟨hg.os.trans hlow.1.os, hg.tape.trans hlow.1.tape, hg.output.trans hlow.1.output, Nat.le_trans hlow.1.size hg.size, fun i hi => (hs i (by omega)).trans (hlow.1.block i hi)⟩ hg.size hgb hbh (fun i c t fz e => ?_)
 refine (hs i (fun e2 => ?_)).trans e
 subst e2
 rw [ho] at e
 cases e
 cases hc
/-- A box of the iterator's is written. -/
theorem SesK.box (h : SesK w0 g b hi d acc W) (hgb : g < b) (hbh : b + 3 < hi) (v : Value) : SesK w0 g b hi d acc (W.setCell ⟨b + 1, 0, none⟩ v) := by
 obtain ⟨L, h1, h2, h3, h4, ⟨c1, k1⟩, ⟨c2, k2⟩, ⟨c3, k3⟩⟩ := h
 have hs : ∀ i, i ≠ b + 1 → (W.setCell ⟨b + 1, 0, none⟩ v).heap[i]? = W.heap[i]? := fun i hi => Below.heap_setCell W _ v i hi
 have hsz : (W.setCell ⟨b + 1, 0, none⟩ v).heap.size = W.heap.size := by simp [World.setCell]
 have hgw := h1.gb
 refine ⟨L, h1.same (by rw [hsz]; exact Nat.le_refl _) ⟨h1.low.os, h1.low.tape, h1.low.output, by rw [hsz]; exact h1.low.size, fun i hi => (hs i (by omega)).trans (h1.low.block i hi)⟩ (fun i _ hf => hs i (fun e => h2 (b + 1) (by omega) (by omega) (by rw [← e]; exact hf))), h2, isb_keep h3 (hs b (by omega)) (fun i c fz hc => hs i (fun e => ?_)), by rw [hsz]; exact h4, ⟨_, k1.set_ 0 v⟩, ⟨c2, k2.far (by simp) _⟩, ⟨c3, k3.far (by simp) _⟩⟩
 subst e
 have := k1.symm.trans hc
 injection this with this
 injection this with _ e
 exact absurd e (by decide)
/-- A line is answered. -/
theorem SesK.line (h : SesK w0 g b hi d acc W) (hstd : StdOk w0) (hgb : g < b) (hbh : b + 3 < hi) (hhi : hi ≤ W.heap.size) {k : Nat} (ho : DkOk k d) (hk : k ≤ 6000) (s : ByteArray) (hs : s.size ≤ 40000) :
 Calls Tryz.prog 11 #[.pointer (some ⟨g, 0, none⟩), .string s] W fun e w' => e = .returned (.string (lineF d s).1) ∧ SesK w0 g b hi (lineF d s).2 acc w' ∧ (∀ i, g < i → i < hi → w'.heap[i]? = W.heap[i]?) ∧ W.heap.size ≤ w'.heap.size := by
 obtain ⟨L, h1, h2, h3, h4, ⟨c1, k1⟩, ⟨c2, k2⟩, ⟨c3, k3⟩⟩ := h
 refine (line_any hstd h1 ho hk s hs).mono ?_
 rintro e w' ⟨he, L', g1, g2⟩
 have hp : ∀ i, g < i → i < hi → w'.heap[i]? = W.heap[i]? := fun i h5 h6 => g2.block i (by omega) (h2 i h5 h6)
 refine ⟨he, ⟨L', g1, fun i h5 h6 hf => ?_, isb_keep h3 (hp b hgb (by omega)) (fun i c fz hc => ?_), Nat.lt_of_lt_of_le h4 g2.size, ⟨c1, (hp _ (by omega) (by omega)).trans k1⟩, ⟨c2, (hp _ (by omega) (by omega)).trans k2⟩, ⟨c3, (hp _ (by omega) (by omega)).trans k3⟩⟩, hp, g2.size⟩
 ·rcases g2.fam i hf with h7 | h7
  ·exact h2 i h5 h6 h7
  ·omega
 ·refine g2.block i (Array.getElem?_eq_some_iff.1 hc).1 (fun hf => ?_)
  obtain ⟨c', t, e1, e2⟩ := h1.typed hf
  rw [hc] at e1
  injection e1 with e1
  injection e1 with _ e1 _
  exact e2 e1.symm
/-- An answer is written. -/
theorem SesK.write (h : SesK w0 g b hi d acc W2) (hgb : g < b) (hbh : b + 3 < hi) (s : ByteArray) (hat : Lib.BuilderAtF 42 5 w0.heap.size b (.pointer (some ⟨b, 0, none⟩)) (Lib.byteCells acc ++ Lib.strCells s) W3) (hB : Below w0.heap.size W2 W3) (ho : Lib.OthersKept 5 (some b) W2 W3) :
 SesK w0 g b hi d (acc ++ s.data.toList) W3 := by
 obtain ⟨L, h1, h2, h3, h4, ⟨c1, k1⟩, ⟨c2, k2⟩, ⟨c3, k3⟩⟩ := h
 have hbk : ∀ i t cs, Blk W2 i t cs → i ≠ b → t ≠ 5 → Blk W3 i t cs := fun i t cs hb hi ht => ho i _ hb (fun e => hi (by cases e; rfl)) (fun c fz e => ht (by cases e; rfl))
 refine ⟨L, h1.others ho (h1.low.trans hB) hB.size (h2 b hgb (by omega)), h2, .inr ?_, Nat.lt_of_lt_of_le h4 hB.size, ⟨c1, hbk _ _ _ k1 (by omega) (by decide)⟩, ⟨c2, hbk _ _ _ k2 (by omega) (by decide)⟩, ⟨c3, hbk _ _ _ k3 (by omega) (by decide)⟩⟩
 have e : Lib.byteCells (acc ++ s.data.toList) = Lib.byteCells acc ++ Lib.strCells s := by
  unfold Lib.byteCells Lib.strCells
  rw [List.map_append]
 rw [e]
 exact hat
end
end
end Go.Proofs.YtideefjnlakciaaGreatDoor
