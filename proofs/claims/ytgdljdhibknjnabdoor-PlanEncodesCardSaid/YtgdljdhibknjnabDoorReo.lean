/- The contract of metronomeref.Encode; conditions: slots, links and windows lie in memory; metronomeref.Fine holds what start-up lays there. -/
import Derived.Test.YtgdljdhibknjnabDoorEo
import Derived.Test.YtgdljdhibknjnabDoorRk
import Derived.Test.YtgdljdhibknjnabDoorRnu
namespace Go.Proofs.YtgdljdhibknjnabDoor
open Go.RowKit

/-- Numbers as cells. -/
def ivN (l : List Nat) : List Value := l.map fun (n : Nat) => Value.int .i64 (n : Int)
theorem ivN_len (l : List Nat) : (ivN l).length = l.length := by simp [ivN]
theorem ivN_app (l m : List Nat) : ivN (l ++ m) = ivN l ++ ivN m := by simp [ivN]
theorem ivN_one (l : List Nat) : ∀ u ∈ ivN l, u.oneCell' = true := by
  intro u hu
  obtain ⟨n, _, rfl⟩ := List.mem_map.1 hu
  rfl
theorem iv1 {a : Int} (ha : 0 ≤ a) : [Value.int .i64 a] = ivN [a.toNat] := by simp [ivN]; omega
theorem iv2 {a b : Int} (ha : 0 ≤ a) (hb : 0 ≤ b) : [Value.int .i64 a, .int .i64 b] = ivN [a.toNat, b.toNat] := by simp [ivN]; omega
theorem iv3 {a b c : Int} (ha : 0 ≤ a) (hb : 0 ≤ b) (hc : 0 ≤ c) : [Value.int .i64 a, .int .i64 b, .int .i64 c] = ivN [a.toNat, b.toNat, c.toNat] := by simp [ivN]; omega
theorem iv4 {a b c d : Int} (ha : 0 ≤ a) (hb : 0 ≤ b) (hc : 0 ≤ c) (hd : 0 ≤ d) : [Value.int .i64 a, .int .i64 b, .int .i64 c, .int .i64 d] = ivN [a.toNat, b.toNat, c.toNat, d.toNat] := by simp [ivN]; omega
theorem iv7 {a b c d e f i : Int} (ha : 0 ≤ a) (hb : 0 ≤ b) (hc : 0 ≤ c) (hd : 0 ≤ d) (he : 0 ≤ e) (hf : 0 ≤ f) (hi : 0 ≤ i) : [Value.int .i64 a, .int .i64 b, .int .i64 c, .int .i64 d, .int .i64 e, .int .i64 f, .int .i64 i] = ivN [a.toNat, b.toNat, c.toNat, d.toNat, e.toNat, f.toNat, i.toNat] := by simp [ivN]; omega
theorem re_info : (Tryd.prog.info? 3).map (fun i => (i.zero, i.size, i.bytes)) = some (some (.int .i64 0), 1, 8) := by kernel_rfl
/-- What Encode keeps in memory. -/
structure ReAt (w wr : World) (G : Array Value) (v : Value) (L : List Nat) : Prop where
  g : Blk wr w.heap.size 78 G
  r : Blk wr (w.heap.size + 1) 129 #[.int .i64 0, .int .i64 0]
  q : wr.ownsRow (w.heap.size + 1 + 1) 3 1 v L.length (ivN L)
  old : Below w.heap.size w wr
section
variable {w w1 w2 w3 : World} {G : Array Value} {v v' : Value} {L : List Nat}
theorem ReAt.below (h : ReAt w w1 G v L) (hB : Below w1.heap.size w1 w2) : ReAt w w2 G v L :=
  ⟨h.g.below hB h.g.lt, h.r.below hB h.r.lt, rn_keep h.q fun g _ hlt => hB.block g hlt, h.old.trans (hB.mono h.old.size)⟩
theorem ReAt.alloc (h : ReAt w w1 G v L) (o : Obj) : ReAt w (w1.alloc o) G v L := h.below ((Below.refl _ _).alloc (Nat.le_refl _) o)
theorem ReAt.step (h : ReAt w w1 G v L) {zs : List Nat} {m : Nat} (hz : zs.length = m) (ho : w2.ownsRow (w.heap.size + 1 + 1) 3 1 v' (L.length + m) (ivN L ++ ivN zs)) (hg : w1.grownBy w2 v.ownBlock) : ReAt w w2 G v' (L ++ zs) := by
  have hb := fun k e => (rn_base h.q k e).1
  exact ⟨h.g.grown hg (fun e => by have := hb _ e.symm; omega), h.r.grown hg (fun e => by have := hb _ e.symm; omega), by rw [List.length_append, hz, ivN_app]; exact ho, rn_below h.old hg (fun j e => by have := hb j e; omega)⟩
end
theorem reo_results (tmps : Array Value) (w : World) (g : Nat) (v a b : Value) (h1 : tmps[2]? = some v) (h2 : tmps[3]? = some (.pointer (some ⟨g, 0, none⟩))) (hb : Blk w g 129 #[a, b]) :
    (results Tryd.f68 tmps).run Tryd.prog w = .ok (.tuple #[v, .agg #[a, b]]) w := by
  obtain ⟨k0, k1, _⟩ := hb.cells2
  simp [results, Tryd.results68, go_sem, h1, h2, k0, k1]
theorem reo_set {w w1 : World} {a b c d : Value} (h : Below w.heap.size w w1) : Below w.heap.size w ((((w1.setCell ⟨w.heap.size + 1, 0, none⟩ a).setCell ⟨w.heap.size + 1, 1, none⟩ b).setCell ⟨w.heap.size + 1, 0, none⟩ c).setCell ⟨w.heap.size + 1, 1, none⟩ d) :=
  (((h.setCell (p := ⟨w.heap.size + 1, 0, none⟩) (Nat.le_succ _) _).setCell (p := ⟨w.heap.size + 1, 1, none⟩) (Nat.le_succ _) _).setCell (p := ⟨w.heap.size + 1, 0, none⟩) (Nat.le_succ _) _).setCell (p := ⟨w.heap.size + 1, 1, none⟩) (Nat.le_succ _) _
/-- What Encode answers. -/
def ReoPost (w : World) (p : Pl) (r : Ending) (w' : World) : Prop :=
  if (chk p).1 = 0 then ∃ v, r = .returned (.tuple #[v, .agg #[.int .i64 0, .int .i64 (-1)]]) ∧ w'.ownsRow w.heap.size 5 1 v (vnums (plN p)).length (bvN (vnums (plN p))) ∧ Below w.heap.size w w'
  else r = .returned (.tuple #[.slice none 0 0, .agg #[.int .i64 (chk p).1, .int .i64 (chk p).2]]) ∧ Below w.heap.size w w'
/-- What Encode keeps at its end. -/
structure ReF (w wr : World) (a b v : Value) (l : List Nat) : Prop where
  r : Blk wr (w.heap.size + 1) 129 #[a, b]
  q : wr.ownsRow (w.heap.size + 1 + 1) 5 1 v l.length (bvN l)
  old : Below w.heap.size w wr
theorem ReF.set0 {w wr : World} {a b v : Value} {l : List Nat} (h : ReF w wr a b v l) (u : Value) : ReF w (wr.setCell ⟨w.heap.size + 1, 0, none⟩ u) u b v l :=
  ⟨h.r.set_ 0 u, rn_keep h.q fun g hg _ => Below.heap_setCell wr ⟨w.heap.size + 1, 0, none⟩ u g (by show g ≠ w.heap.size + 1; omega), h.old.setCell (p := ⟨w.heap.size + 1, 0, none⟩) (Nat.le_succ _) u⟩
theorem ReF.set1 {w wr : World} {a b v : Value} {l : List Nat} (h : ReF w wr a b v l) (u : Value) : ReF w (wr.setCell ⟨w.heap.size + 1, 1, none⟩ u) a u v l :=
  ⟨h.r.set_ 1 u, rn_keep h.q fun g hg _ => Below.heap_setCell wr ⟨w.heap.size + 1, 1, none⟩ u g (by show g ≠ w.heap.size + 1; omega), h.old.setCell (p := ⟨w.heap.size + 1, 1, none⟩) (Nat.le_succ _) u⟩
theorem ReF.drew {w wr : World} {a b v : Value} {l : List Nat} (h : ReF w wr a b v l) : ReF w wr.drew a b v l := ⟨h.r.drew, rn_keep h.q fun g _ _ => rfl, below_drewN h.old 1⟩
theorem ReF.post {w wr : World} {p : Pl} {v : Value} {l : List Nat} (h : ReF w wr (.int .i64 0) (.int .i64 (-1)) v l) (h0 : (chk p).1 = 0) (hl : l = vnums (plN p)) : ReoPost w p (.returned (.tuple #[v, .agg #[.int .i64 0, .int .i64 (-1)]])) wr := by
  unfold ReoPost
  rw [if_pos h0, ← hl]
  exact ⟨v, rfl, rn_up h.q (by omega), h.old⟩
theorem rn_at {w : World} {base n : Nat} {e : TypeId} {v : Value} {xs : List Value} (h : w.ownsRow base e 1 v n xs) (hn : 0 < n) : ∃ g c, v = .slice (some ⟨g, 0, none⟩) n c ∧ base ≤ g ∧ g < w.heap.size ∧ ∀ j, j < n → w.cell? ⟨g, j, none⟩ = xs[j]? := by
  obtain ⟨g, c, rfl, h1, h2, h3, hc⟩ := rn_cells h hn
  refine ⟨g, c, rfl, h1, h2, fun j hj => ?_⟩
  have hl : j < xs.length := by rw [h.1]; omega
  have := hc j xs[j] (List.getElem?_eq_getElem hl)
  have e : (⟨g, 0, none⟩ : Addr).add j = ⟨g, j, none⟩ := by unfold Addr.add; split <;> simp_all
  rw [e] at this
  rw [this, List.getElem?_eq_getElem hl]
theorem ivN_get {L : List Nat} {j : Nat} (h : j < L.length) : (ivN L)[j]? = some (.int .i64 (L.getD j 0 : Nat)) := by simp [ivN, h]
theorem bvN_app (l m : List Nat) : bvN (l ++ m) = bvN l ++ bvN m := by simp [bvN]
theorem vnums_pos {L : List Nat} (h : 0 < L.length) : 0 < (vnums L).length := by
  cases L with
  | nil => simp at h
  | cons a l => rw [vnums_cons, List.length_append]; have := vnum_pos a; omega
theorem vnums_len6 (L : List Nat) (h : ∀ z ∈ L, z ≤ 2 ^ 40) (k : Nat) : (vnums (L.take k)).length ≤ 6 * k := by
  have h1 := vnums_len (L.take k) (fun z hz => h z (List.mem_of_mem_take hz))
  rw [List.length_take] at h1
  omega
section
variable (p : Pl) (A : Option Addr) (len c : Nat) (AL : Option Addr) (ll cl : Nat) (AQ : Option Addr) (lq cq : Nat)
set_option maxRecDepth 100000 in
set_option maxHeartbeats 8000000 in
theorem reo_bad (w : World) (h0 : (chk p).1 ≠ 0) (s1 : p.sl.length = len) (l1 : p.lk.length = ll) (q1 : p.wn.length = lq) (s2 : SlotsAt w A len p.sl) (l2 : LinksAt w AL ll p.lk) (q2 : WinsAt w AQ lq p.wn) (hF : FinT w) :
    Calls Tryd.prog 68 #[.agg (planC p.nd p.fa p.sk p.ji p.dr p.rd (.slice A len c) (.slice AL ll cl) p.fr (.slice AQ lq cq))] w (ReoPost w p) := by
  have HP := hide (RcAt.new w (planC p.nd p.fa p.sk p.ji p.dr p.rd (.slice A len c) (.slice AL ll cl) p.fr (.slice AQ lq cq)))
  obtain ⟨i0, i1, i2, i3, i4, i5, i6, i7, i8, i9⟩ := HP.out.g.cells10
  have HCK : Hid (∀ w0 : World, Below w.heap.size w w0 → Calls Tryd.prog 67 #[.agg (planC p.nd p.fa p.sk p.ji p.dr p.rd (.slice A len c) (.slice AL ll cl) p.fr (.slice AQ lq cq))] w0 (RckPost w0 (chk p))) := hide fun w0 hB => rck_any p A len c AL ll cl AQ lq cq w0 s1 l1 q1 (s2.below hB) (l2.below hB) (q2.below hB) (hF.below hB)
  suffices hg : Calls Tryd.prog 68 #[.agg (planC p.nd p.fa p.sk p.ji p.dr p.rd (.slice A len c) (.slice AL ll cl) p.fr (.slice AQ lq cq))] w (fun r w' => r = .returned (.tuple #[.slice none 0 0, .agg #[.int .i64 (chk p).1, .int .i64 (chk p).2]]) ∧ Below w.heap.size w w') from hg.mono fun r w' h => by unfold ReoPost; rw [if_neg h0]; exact h
  unfold RckPost at HCK
  generalize (chk p).1 = ce at h0 HCK ⊢
  generalize (chk p).2 = cp at HCK ⊢
  have d0 : (ce != 0) = true := by simp [h0]
  clear s1 l1 q1 s2 l2 q2 hF h0
  go_enter Tryd.func68, Tryd.ntmps68
  go_wp2_with fail
  refine (HCK.out _ HP.out.old).mono ?_
  rintro e w3 ⟨rfl, hB⟩
  have HP3 := hide ((HP.out.below hB).alloc (.cells #[.int .i64 ce, .int .i64 cp] 129))
  obtain ⟨k0, k1, f0, f1⟩ := HP3.out.r.cells2
  clear hB HP HCK i0 i1 i2 i3 i4 i5 i6 i7 i8 i9
  go_wp2_with fail
  go_region
  all_goals (go_wp2_with fail; exact bodyPost_ret (reo_results _ _ (w.heap.size + 1) _ _ _ rfl rfl (HP3.out.blk _ _)) rfl ⟨rfl, (by first | exact (HP3.out.post (c := (ce, cp)) rfl).2 | exact below_drewN (HP3.out.post (c := (ce, cp)) rfl).2 1 | exact ((HP3.out.drewN 1).post (c := (ce, cp)) rfl).2 | exact reo_set (HP3.out.old) | exact reo_set (below_drewN HP3.out.old 1))⟩)
set_option maxRecDepth 100000 in
set_option maxHeartbeats 8000000 in
theorem reo_ok (w : World) (h0 : (chk p).1 = 0) (s1 : p.sl.length = len) (l1 : p.lk.length = ll) (q1 : p.wn.length = lq) (s2 : SlotsAt w A len p.sl) (l2 : LinksAt w AL ll p.lk) (q2 : WinsAt w AQ lq p.wn) (hF : FinT w) :
    Calls Tryd.prog 68 #[.agg (planC p.nd p.fa p.sk p.ji p.dr p.rd (.slice A len c) (.slice AL ll cl) p.fr (.slice AQ lq cq))] w (ReoPost w p) := by
  obtain ⟨hb1, hb2, hb3, hb4, hb5⟩ := chk_bounds h0
  have HB1 := hide hb1; have HB3 := hide hb3; have HB4 := hide hb4; have HB5 := hide hb5
  have n1 : len ≤ 32 := by omega
  have n2 : ll ≤ 8 := by omega
  have n3 : lq ≤ 32 := by omega
  obtain ⟨i0', hi, hz0, hz1, hz2⟩ := en_info_parts re_info
  obtain ⟨i1', hi', hy0, hy1, hy2⟩ := en_info_parts en_u8_info
  have HP := hide (RcAt.new w (planC p.nd p.fa p.sk p.ji p.dr p.rd (.slice A len c) (.slice AL ll cl) p.fr (.slice AQ lq cq)))
  obtain ⟨i0, i1, i2, i3, i4, i5, i6, i7, i8, i9⟩ := HP.out.g.cells10
  have HCK : Hid (∀ w0 : World, Below w.heap.size w w0 → Calls Tryd.prog 67 #[.agg (planC p.nd p.fa p.sk p.ji p.dr p.rd (.slice A len c) (.slice AL ll cl) p.fr (.slice AQ lq cq))] w0 (RckPost w0 (chk p))) := hide fun w0 hB => rck_any p A len c AL ll cl AQ lq cq w0 s1 l1 q1 (s2.below hB) (l2.below hB) (q2.below hB) (hF.below hB)
  have H0 := hide h0; have S1 := hide s1; have L1 := hide l1; have Q1 := hide q1; have S2 := hide s2; have L2 := hide l2; have Q2 := hide q2; have HF := hide hF
  unfold RckPost at HCK
  rw [h0] at HCK
  generalize (chk p).2 = cp at HCK
  clear s1 l1 q1 s2 l2 q2 hF h0 hb1 hb2 hb3 hb4 hb5
  go_enter Tryd.func68, Tryd.ntmps68
  go_wp2_with fail
  refine (HCK.out _ HP.out.old).mono ?_
  rintro e w3 ⟨rfl, hB⟩
  have HP3 := hide ((HP.out.below hB).alloc (.cells #[.int .i64 0, .int .i64 cp] 129))
  clear hB HP HCK i0 i1 i2 i3 i4 i5 i6 i7 i8 i9
  obtain ⟨i0, i1, i2, i3, i4, i5, i6, i7, i8, i9⟩ := HP3.out.g.cells10
  obtain ⟨A1, hA1⟩ : ∃ A1, [p.nd.toNat, p.fa.toNat, p.sk.toNat, p.ji.toNat, p.dr.toNat, p.rd.toNat, (len : Int).toNat] = A1 := ⟨_, rfl⟩
  have hA7 : A1.length = 7 := by rw [← hA1]; rfl
  have hiv : [Value.int .i64 p.nd, .int .i64 p.fa, .int .i64 p.sk, .int .i64 p.ji, .int .i64 p.dr, .int .i64 p.rd, .int .i64 (len : Int)] = ivN A1 := by
    rw [← hA1]; exact iv7 (by have := HB1.out; omega) (by have := HB1.out; omega) (by have := HB1.out; omega) (by have := HB1.out; omega) (by have := HB1.out; omega) (by have := HB1.out; omega) (by omega)
  have HE : Hid (ReAt w ((w3.alloc (.cells #[.int .i64 0, .int .i64 cp] 129)).alloc (.cells #[.int .i64 p.nd, .int .i64 p.fa, .int .i64 p.sk, .int .i64 p.ji, .int .i64 p.dr, .int .i64 p.rd, .int .i64 (len : Int)] 3)) (planC p.nd p.fa p.sk p.ji p.dr p.rd (.slice A len c) (.slice AL ll cl) p.fr (.slice AQ lq cq)) (.slice (some ⟨w3.heap.size + 1, 0, none⟩) 7 7) A1) := hide ⟨HP3.out.g.alloc _, HP3.out.r.alloc _, by
    rw [hA7, ← hiv]
    exact rn_own (by simpa using Blk.new (w3.alloc _) 3 _) (by have := HP3.out.r.lt; simp at this; omega) rfl (by decide), HP3.out.old.alloc HP3.out.old.size _⟩
  have HA1 := hide hA1; have HA7 := hide hA7
  clear hiv hA1 hA7 HP3
  obtain ⟨j0, j1, j2, j3, j4, j5, j6, j7, j8, j9⟩ := HE.out.g.cells10
  go_wp2_with fail
  clear j0 j1 j2 j3 j4 j5 j6 j7 j8 j9
  go_loopw [5, 40] (fun v i wr => ∃ k : Nat, k ≤ len ∧ i = .int .i64 k ∧ Hid (ReAt w wr (planC p.nd p.fa p.sk p.ji p.dr p.rd (.slice A len c) (.slice AL ll cl) p.fr (.slice AQ lq cq)) v (A1 ++ ((p.sl.take k).map slN).flatten))) (fun _ i _ => len - (intOf i).toNat)
  case atStart => exact ⟨0, by omega, rfl, by simpa using HE⟩
  case round =>
    clear HE i0 i1 i2 i3 i4 i5 i6 i7 i8 i9
    obtain ⟨k, hk, rfl, HE⟩ := hrel
    obtain ⟨i0, i1, i2, i3, i4, i5, i6, i7, i8, i9⟩ := HE.out.g.cells10
    by_cases hlt : k < len
    · obtain ⟨b, off, rfl, x, hx, c0, c1, c2⟩ := (S2.out.below HE.out.old) k hlt
      have HX := hide hx
      have HM := hide (HB3.out x (List.mem_of_getElem? hx))
      have HEQ : Hid ([Value.int .i64 x.n, Value.int .i64 x.f, Value.int .i64 x.t] = ivN (slN x)) := hide (iv3 (by have := HM.out; omega) (by have := HM.out; omega) (by have := HM.out; omega))
      have HE2 := hide ((HE.out.alloc (.cells #[.int .i64 x.n, .int .i64 x.f, .int .i64 x.t] 152)).alloc (.cells #[.int .i64 x.n, .int .i64 x.f, .int .i64 x.t] 3))
      have HLN := hide (show (A1 ++ ((p.sl.take k).map slN).flatten).length ≤ 300 by have := HA7.out; rw [List.length_append, flat_len (j := 3) (f := slN) (fun _ => rfl), List.length_take]; omega)
      clear hx
      go_wp2_with (at_builtin; go_must (refine wpList_append_own _ rfl (.tmp 44) (.tmp 53) _ rfl (w.heap.size + 1 + 1) 3 i0' _ 1 8 Tryd.underlying124 hi hz0 hz1 hz2 rfl (by decide) u5 (A1 ++ ((p.sl.take k).map slN).flatten).length (ivN (A1 ++ ((p.sl.take k).map slN).flatten)) rfl (by exact HE2.out.q) ⟨wr.heap.size + 1, 0, none⟩ 3 3 (ivN (slN x)) rfl rfl (by rw [← HEQ.out]; exact rn_news (by simpa using Blk.new (wr.alloc _) _ _)) (ivN_one _) (by have := HLN.out; unfold maxLen; omega) (by have := HLN.out; omega) (by have := HE2.out.old.size; have := HE2.out.r.lt; omega) ?_); intro v7 w7 hown7 hg7 _; have HE7 := hide (HE2.out.step (zs := slN x) rfl hown7 hg7); obtain ⟨j0, j1, j2, j3, j4, j5, j6, j7, j8, j9⟩ := HE7.out.g.cells10; clear hown7 hg7)
      go_roundw
      case rel => exact ⟨k + 1, by omega, by go_num, hide (by rw [flat_take slN _ _ _ HX.out, ← List.append_assoc]; exact HE7.out)⟩
      case measure => simp [intOf]; omega
    · obtain rfl : len = k := by omega
      have HS2 : Hid (ReAt w wr (planC p.nd p.fa p.sk p.ji p.dr p.rd (.slice A len c) (.slice AL ll cl) p.fr (.slice AQ lq cq)) u5 (A1 ++ (p.sl.map slN).flatten)) := hide (by
        have := HE.out
        rw [List.take_of_length_le (by rw [S1.out]; omega)] at this
        exact this)
      clear HE hlt hk
      obtain ⟨A2, hA2⟩ : ∃ A2, A1 ++ (p.sl.map slN).flatten = A2 := ⟨_, rfl⟩
      have hA2l : A2.length ≤ 103 := by rw [← hA2, List.length_append, flat_len (j := 3) (f := slN) (fun _ => rfl)]; have := HA7.out; have := S1.out; omega
      rw [hA2] at HS2
      have HA2 := hide hA2; clear hA2
      have HEQ : Hid ([Value.int .i64 (ll : Int)] = ivN [(ll : Int).toNat]) := hide (iv1 (by omega))
      have HE2 := hide (HS2.out.alloc (.cells #[.int .i64 (ll : Int)] 3))
      go_wp2_with (at_builtin; go_must (refine wpList_append_own _ rfl (.tmp 56) (.tmp 60) _ rfl (w.heap.size + 1 + 1) 3 i0' _ 1 8 Tryd.underlying124 hi hz0 hz1 hz2 rfl (by decide) u5 (A2).length (ivN (A2)) rfl (by exact HE2.out.q) ⟨wr.heap.size, 0, none⟩ 1 1 (ivN ([(ll : Int).toNat])) rfl rfl (by rw [← HEQ.out]; exact rn_news (by simpa using Blk.new wr _ _)) (ivN_one _) (by have := hA2l; unfold maxLen; omega) (by have := hA2l; omega) (by have := HE2.out.old.size; have := HE2.out.r.lt; omega) ?_); intro v7 w7 hown7 hg7 _; have HE := hide (HE2.out.step (zs := [(ll : Int).toNat]) rfl hown7 hg7); obtain ⟨j0, j1, j2, j3, j4, j5, j6, j7, j8, j9⟩ := HE.out.g.cells10; clear hown7 hg7)
      obtain ⟨A3, hA3⟩ : ∃ A3, A2 ++ [(ll : Int).toNat] = A3 := ⟨_, rfl⟩
      have hA3l : A3.length ≤ 104 := by rw [← hA3, List.length_append]; simp; omega
      rw [hA3] at HE
      have HA3 := hide hA3; clear hA3 HE2 HS2 HEQ i0 i1 i2 i3 i4 i5 i6 i7 i8 i9
      obtain ⟨i0, i1, i2, i3, i4, i5, i6, i7, i8, i9⟩ := HE.out.g.cells10
      obtain ⟨wo, rfl⟩ : ∃ wo : World, wo = wr := ⟨_, rfl⟩
      go_loopw [5, 65] (fun v i wr => ∃ k : Nat, k ≤ ll ∧ i = .int .i64 k ∧ Hid (ReAt w wr (planC p.nd p.fa p.sk p.ji p.dr p.rd (.slice A len c) (.slice AL ll cl) p.fr (.slice AQ lq cq)) v (A3 ++ ((p.lk.take k).map lkN).flatten))) (fun _ i _ => ll - (intOf i).toNat)
      case atStart => exact ⟨0, by omega, rfl, by simpa using HE⟩
      case round =>
        clear HE i0 i1 i2 i3 i4 i5 i6 i7 i8 i9
        obtain ⟨k, hk, rfl, HE⟩ := hrel
        obtain ⟨i0, i1, i2, i3, i4, i5, i6, i7, i8, i9⟩ := HE.out.g.cells10
        by_cases hlt : k < ll
        · obtain ⟨b, off, rfl, x, hx, c0, c1, c2, c3⟩ := (L2.out.below HE.out.old) k hlt
          have HX := hide hx
          have HM := hide (HB4.out x (List.mem_of_getElem? hx))
          have HEQ : Hid ([Value.int .i64 x.f, Value.int .i64 x.t, Value.int .i64 x.b, Value.int .i64 x.q] = ivN (lkN x)) := hide (iv4 (by have := HM.out; omega) (by have := HM.out; omega) (by have := HM.out; omega) (by have := HM.out; omega))
          have HE2 := hide ((HE.out.alloc (.cells #[.int .i64 x.f, .int .i64 x.t, .int .i64 x.b, .int .i64 x.q] 51)).alloc (.cells #[.int .i64 x.f, .int .i64 x.t, .int .i64 x.b, .int .i64 x.q] 3))
          have HLN := hide (show (A3 ++ ((p.lk.take k).map lkN).flatten).length ≤ 300 by have := hA3l; rw [List.length_append, flat_len (j := 4) (f := lkN) (fun _ => rfl), List.length_take]; omega)
          clear hx
          go_wp2_with (at_builtin; go_must (refine wpList_append_own _ rfl (.tmp 69) (.tmp 78) _ rfl (w.heap.size + 1 + 1) 3 i0' _ 1 8 Tryd.underlying124 hi hz0 hz1 hz2 rfl (by decide) u5 (A3 ++ ((p.lk.take k).map lkN).flatten).length (ivN (A3 ++ ((p.lk.take k).map lkN).flatten)) rfl (by exact HE2.out.q) ⟨wr.heap.size + 1, 0, none⟩ 4 4 (ivN (lkN x)) rfl rfl (by rw [← HEQ.out]; exact rn_news (by simpa using Blk.new (wr.alloc _) _ _)) (ivN_one _) (by have := HLN.out; unfold maxLen; omega) (by have := HLN.out; omega) (by have := HE2.out.old.size; have := HE2.out.r.lt; omega) ?_); intro v7 w7 hown7 hg7 _; have HE7 := hide (HE2.out.step (zs := lkN x) rfl hown7 hg7); obtain ⟨j0, j1, j2, j3, j4, j5, j6, j7, j8, j9⟩ := HE7.out.g.cells10; clear hown7 hg7)
          go_roundw
          case rel => exact ⟨k + 1, by omega, by go_num, hide (by rw [flat_take lkN _ _ _ HX.out, ← List.append_assoc]; exact HE7.out)⟩
          case measure => simp [intOf]; omega
        · obtain rfl : ll = k := by omega
          have HS2 : Hid (ReAt w wr (planC p.nd p.fa p.sk p.ji p.dr p.rd (.slice A len c) (.slice AL ll cl) p.fr (.slice AQ lq cq)) u5 (A3 ++ (p.lk.map lkN).flatten)) := hide (by
            have := HE.out
            rw [List.take_of_length_le (by rw [L1.out]; omega)] at this
            exact this)
          clear HE hlt hk
          obtain ⟨A4, hA4⟩ : ∃ A4, A3 ++ (p.lk.map lkN).flatten = A4 := ⟨_, rfl⟩
          have hA4l : A4.length ≤ 136 := by rw [← hA4, List.length_append, flat_len (j := 4) (f := lkN) (fun _ => rfl)]; have := L1.out; omega
          rw [hA4] at HS2
          have HA4 := hide hA4; clear hA4
          have HEQ : Hid ([Value.int .i64 p.fr, .int .i64 (lq : Int)] = ivN [p.fr.toNat, (lq : Int).toNat]) := hide (iv2 (by have := HB1.out; omega) (by omega))
          have HE2 := hide (HS2.out.alloc (.cells #[.int .i64 p.fr, .int .i64 (lq : Int)] 3))
          go_wp2_with (at_builtin; go_must (refine wpList_append_own _ rfl (.tmp 81) (.tmp 87) _ rfl (w.heap.size + 1 + 1) 3 i0' _ 1 8 Tryd.underlying124 hi hz0 hz1 hz2 rfl (by decide) u5 (A4).length (ivN (A4)) rfl (by exact HE2.out.q) ⟨wr.heap.size, 0, none⟩ 2 2 (ivN ([p.fr.toNat, (lq : Int).toNat])) rfl rfl (by rw [← HEQ.out]; exact rn_news (by simpa using Blk.new wr _ _)) (ivN_one _) (by have := hA4l; unfold maxLen; omega) (by have := hA4l; omega) (by have := HE2.out.old.size; have := HE2.out.r.lt; omega) ?_); intro v7 w7 hown7 hg7 _; have HE := hide (HE2.out.step (zs := [p.fr.toNat, (lq : Int).toNat]) rfl hown7 hg7); obtain ⟨j0, j1, j2, j3, j4, j5, j6, j7, j8, j9⟩ := HE.out.g.cells10; clear hown7 hg7)
          obtain ⟨A5, hA5⟩ : ∃ A5, A4 ++ [p.fr.toNat, (lq : Int).toNat] = A5 := ⟨_, rfl⟩
          have hA5l : A5.length ≤ 138 := by rw [← hA5, List.length_append]; simp; omega
          rw [hA5] at HE
          have HA5 := hide hA5; clear hA5 HE2 HS2 HEQ i0 i1 i2 i3 i4 i5 i6 i7 i8 i9
          obtain ⟨i0, i1, i2, i3, i4, i5, i6, i7, i8, i9⟩ := HE.out.g.cells10
          obtain ⟨wo, rfl⟩ : ∃ wo : World, wo = wr := ⟨_, rfl⟩
          go_loopw [5, 92] (fun v i wr => ∃ k : Nat, k ≤ lq ∧ i = .int .i64 k ∧ Hid (ReAt w wr (planC p.nd p.fa p.sk p.ji p.dr p.rd (.slice A len c) (.slice AL ll cl) p.fr (.slice AQ lq cq)) v (A5 ++ ((p.wn.take k).map wnN).flatten))) (fun _ i _ => lq - (intOf i).toNat)
          case atStart => exact ⟨0, by omega, rfl, by simpa using HE⟩
          case round =>
            clear HE i0 i1 i2 i3 i4 i5 i6 i7 i8 i9
            obtain ⟨k, hk, rfl, HE⟩ := hrel
            obtain ⟨i0, i1, i2, i3, i4, i5, i6, i7, i8, i9⟩ := HE.out.g.cells10
            by_cases hlt : k < lq
            · obtain ⟨b, off, rfl, x, hx, c0, c1, c2⟩ := (Q2.out.below HE.out.old) k hlt
              have HX := hide hx
              have HM := hide (HB5.out x (List.mem_of_getElem? hx))
              have HEQ : Hid ([Value.int .i64 x.p, Value.int .i64 x.f, Value.int .i64 x.t] = ivN (wnN x)) := hide (iv3 (by have := HM.out; omega) (by have := HM.out; omega) (by have := HM.out; omega))
              have HE2 := hide ((HE.out.alloc (.cells #[.int .i64 x.p, .int .i64 x.f, .int .i64 x.t] 133)).alloc (.cells #[.int .i64 x.p, .int .i64 x.f, .int .i64 x.t] 3))
              have HLN := hide (show (A5 ++ ((p.wn.take k).map wnN).flatten).length ≤ 300 by have := hA5l; rw [List.length_append, flat_len (j := 3) (f := wnN) (fun _ => rfl), List.length_take]; omega)
              clear hx
              go_wp2_with (at_builtin; go_must (refine wpList_append_own _ rfl (.tmp 96) (.tmp 105) _ rfl (w.heap.size + 1 + 1) 3 i0' _ 1 8 Tryd.underlying124 hi hz0 hz1 hz2 rfl (by decide) u5 (A5 ++ ((p.wn.take k).map wnN).flatten).length (ivN (A5 ++ ((p.wn.take k).map wnN).flatten)) rfl (by exact HE2.out.q) ⟨wr.heap.size + 1, 0, none⟩ 3 3 (ivN (wnN x)) rfl rfl (by rw [← HEQ.out]; exact rn_news (by simpa using Blk.new (wr.alloc _) _ _)) (ivN_one _) (by have := HLN.out; unfold maxLen; omega) (by have := HLN.out; omega) (by have := HE2.out.old.size; have := HE2.out.r.lt; omega) ?_); intro v7 w7 hown7 hg7 _; have HE7 := hide (HE2.out.step (zs := wnN x) rfl hown7 hg7); obtain ⟨j0, j1, j2, j3, j4, j5, j6, j7, j8, j9⟩ := HE7.out.g.cells10; clear hown7 hg7)
              go_roundw
              case rel => exact ⟨k + 1, by omega, by go_num, hide (by rw [flat_take wnN _ _ _ HX.out, ← List.append_assoc]; exact HE7.out)⟩
              case measure => simp [intOf]; omega
            · obtain rfl : lq = k := by omega
              have HS2 : Hid (ReAt w wr (planC p.nd p.fa p.sk p.ji p.dr p.rd (.slice A len c) (.slice AL ll cl) p.fr (.slice AQ lq cq)) u5 (A5 ++ (p.wn.map wnN).flatten)) := hide (by
                have := HE.out
                rw [List.take_of_length_le (by rw [Q1.out]; omega)] at this
                exact this)
              clear HE hlt hk
              have HL : Hid (A5 ++ (p.wn.map wnN).flatten = plN p) := hide (by rw [plN_eq p S1.out L1.out Q1.out, HA1.out, HA2.out, HA3.out, HA4.out, HA5.out])
              rw [HL.out] at HS2
              have HZ := hide (plN_le H0.out)
              have hsh : (vnums (plN p)).length ≤ 2000 := plN_short H0.out
              have hpl : (plN p).length ≤ 300 ∧ 0 < (plN p).length := by rw [plN_len]; have := S1.out; have := L1.out; have := Q1.out; omega
              obtain ⟨L, hL⟩ : ∃ L, plN p = L := ⟨_, rfl⟩
              rw [hL] at HS2 HZ hsh hpl
              obtain ⟨n, hn⟩ : ∃ n, L.length = n := ⟨_, rfl⟩
              obtain ⟨hp1, hp2⟩ := hpl
              obtain ⟨g, cc, hvv, -, hg2, hc⟩ := rn_at HS2.out.q hp2
              rw [hn] at hp1 hp2 hvv hc
              have HC := hide hc; have HLp := hide hL; have HN := hide hn; have HSH := hide hsh
              subst hvv
              clear hc hL hn hsh HL HA1 HA2 HA3 HA4 HA5 i0 i1 i2 i3 i4 i5 i6 i7 i8 i9
              go_wp2_with fail
              obtain ⟨wb, rfl⟩ : ∃ wb : World, wb = wr := ⟨_, rfl⟩
              go_loopw [12, 110] (fun b i wr => ∃ k : Nat, k ≤ n ∧ i = .int .i64 k ∧ Hid (Below wb.heap.size wb wr) ∧ Hid (wr.ownsRow wb.heap.size 5 1 b (vnums (L.take k)).length (bvN (vnums (L.take k))))) (fun _ i _ => n - (intOf i).toNat)
              case atStart => exact ⟨0, by omega, rfl, hide (Below.refl _ _), hide (by simpa [vnums_nil, bvN] using World.ownsRow_nil wb wb.heap.size _ 1)⟩
              case round =>
                obtain ⟨k, hk, rfl, HB, HO⟩ := hrel
                by_cases hlt : k < n
                · obtain ⟨z, hz⟩ : ∃ z, L.getD k 0 = z := ⟨_, rfl⟩
                  have hkl : k < L.length := by rw [HN.out]; exact hlt
                  have c0 : wr.cell? ⟨g, k, none⟩ = some (.int .i64 (z : Nat)) := by rw [HB.out.cell (p := ⟨g, k, none⟩) hg2, HC.out k hlt, ivN_get hkl, hz]
                  have hz40 : z ≤ 2 ^ 40 := HZ.out z (by rw [← hz]; simp [hkl])
                  have hz63 : z < 9223372036854775808 := Nat.lt_of_le_of_lt hz40 (by decide)
                  have hvl : (vnum z).length ≤ 6 := vnum_len z 6 (by omega) (Nat.lt_of_le_of_lt hz40 (by decide))
                  have hvt := vnums_len6 L HZ.out k
                  have HZK := hide hz; have HKL := hide hkl
                  clear hz hkl hz40
                  go_wp2_with fail
                  refine (rnum_any z hz63 _).mono ?_
                  rintro e w5 ⟨v5, rfl, hown5, hB5⟩
                  obtain ⟨g5, c5, rfl, -, -, -, hc5⟩ := rn_cells hown5 (vnum_pos z)
                  have HB5 := hide (HB.out.trans (hB5.mono HB.out.size))
                  have HC5 := hide hc5
                  have HO5 := hide (rn_keep HO.out (w' := w5) fun g _ hlt => hB5.block g hlt)
                  clear hown5 hB5 hc5 c0
                  go_wp2_with (at_builtin; go_must (refine wpList_append_own _ rfl (.tmp 114) (.tmp 116) _ rfl wb.heap.size 5 i1' _ 1 1 Tryd.underlying38 hi' hy0 hy1 hy2 rfl (by decide) u12 (vnums (L.take k)).length (bvN (vnums (L.take k))) rfl (by exact HO5.out) ⟨g5, 0, none⟩ (vnum z).length c5 (bvN (vnum z)) rfl (by rw [bvN_len]; omega) (by exact HC5.out) (rn_one _) (by unfold maxLen; omega) (by omega) (by have := HB5.out.size; omega) ?_); intro v7 w7 hown7 hg7 _; have HO7 := hide hown7; have HB7 := hide (rn_below HB5.out hg7 (fun j e => (rn_base HO5.out j e).1)); clear hown7 hg7)
                  go_roundw
                  case rel => exact ⟨k + 1, by omega, by go_num, HB7, hide (by rw [vnums_take L k HKL.out, HZK.out, bvN_app, List.length_append]; exact HO7.out)⟩
                  case measure => simp [intOf]; omega
                · obtain rfl : n = k := by omega
                  have HF0 : Hid (ReF w wr (.int .i64 0) (.int .i64 0) u12 (vnums L)) := hide ⟨HS2.out.r.below HB.out HS2.out.r.lt, rn_up (by have := HO.out; rw [List.take_of_length_le (by rw [HN.out]; omega)] at this; exact this) (by have := HS2.out.r.lt; omega), HS2.out.old.trans (HB.out.mono HS2.out.old.size)⟩
                  obtain ⟨k0, k1, f0, f1⟩ := HF0.out.r.cells2
                  obtain ⟨g0, g1⟩ := HF.out.below HF0.out.old
                  obtain ⟨g2, c2, hvv, -, -, -⟩ := rn_at HF0.out.q (vnums_pos (by rw [HN.out]; exact hp2))
                  obtain ⟨N, hNN⟩ : ∃ N, (vnums L).length = N := ⟨_, rfl⟩
                  have hN2 : N ≤ 2000 := by rw [← hNN]; exact HSH.out
                  rw [hNN] at hvv
                  have d9 : decide ((2000 : Int) < (N : Int)) = false := decide_eq_false (by omega)
                  subst hvv
                  clear hNN HB HO HC hlt hk
                  go_wp2_with fail
                  go_region
                  all_goals (go_wp2_with fail; refine bodyPost_ret (reo_results _ _ (w.heap.size + 1) _ _ _ rfl rfl (ReF.r ?h)) rfl (ReF.post ?h H0.out (by rw [HLp.out])); first | exact (HF0.out.set0 _).set1 _ | exact ((HF0.out.set0 _).set1 _).drew | exact (HF0.out.drew.set0 _).set1 _ | exact (((HF0.out.set0 _).set1 _).set0 _).set1 _ | exact ((((HF0.out.set0 _).set1 _).set0 _).set1 _).drew | exact (((HF0.out.drew.set0 _).set1 _).set0 _).set1 _)
/-- Encode, whatever the plan. -/
theorem reo_any (w : World) (s1 : p.sl.length = len) (l1 : p.lk.length = ll) (q1 : p.wn.length = lq) (s2 : SlotsAt w A len p.sl) (l2 : LinksAt w AL ll p.lk) (q2 : WinsAt w AQ lq p.wn) (hF : FinT w) :
    Calls Tryd.prog 68 #[.agg (planC p.nd p.fa p.sk p.ji p.dr p.rd (.slice A len c) (.slice AL ll cl) p.fr (.slice AQ lq cq))] w (ReoPost w p) := by
  by_cases h0 : (chk p).1 = 0
  · exact reo_ok p A len c AL ll cl AQ lq cq w h0 s1 l1 q1 s2 l2 q2 hF
  · exact reo_bad p A len c AL ll cl AQ lq cq w h0 s1 l1 q1 s2 l2 q2 hF
end
end Go.Proofs.YtgdljdhibknjnabDoor
