/- The contract of plan.Encode; conditions: slots, links and windows lie in memory. -/
import Derived.Test.YtgdljdhibknjnaaEn
import Derived.Test.YtgdljdhibknjnaaPr
import Derived.Test.YtgdljdhibknjnaaPd
namespace Go.Proofs.Ytgdljdhibknjnaa
open Go.RowKit

/-- What Encode keeps in memory. -/
structure EnAt (w wr : World) (G : Array Value) (v : Value) (l : List Nat) : Prop where
  g : Blk wr w.heap.size 86 G
  q : QAt wr (w.heap.size + 1) 5 v (bvN l)
  o : ∀ k, v.ownBlock = some k → w.heap.size < k ∧ k < wr.heap.size
  old : Below w.heap.size w wr
section
variable {w w1 w2 : World} {G : Array Value} {v v' : Value} {l : List Nat}
theorem EnAt.below (h : EnAt w w1 G v l) (hB : Below w1.heap.size w1 w2) : EnAt w w2 G v l :=
  ⟨h.g.below hB h.g.lt, h.q.below hB (Nat.le_refl _), fun k e => ⟨(h.o k e).1, Nat.lt_of_lt_of_le (h.o k e).2 hB.size⟩, h.old.trans (hB.mono h.old.size)⟩
theorem EnAt.alloc (h : EnAt w w1 G v l) (o : Obj) : EnAt w (w1.alloc o) G v l := h.below ((Below.refl _ _).alloc (Nat.le_refl _) o)
theorem EnAt.put (h : EnAt w w1 G v l) {l' : List Nat} (hq : QAt w2 (w.heap.size + 1) 5 v' (bvN l')) (ho : OwnTo w1 w2 v v') : EnAt w w2 G v' l' := by
  have hne : v.ownBlock ≠ some w.heap.size := fun e => by have := (h.o _ e).1; omega
  have hlt := h.g.lt
  refine ⟨h.g.grown ho.1 hne.symm, hq, fun k e => ?_, ⟨ho.1.os.trans h.old.os, ho.1.tape.trans h.old.tape, ho.1.output.trans h.old.output, Nat.le_trans h.old.size ho.1.size, fun i hi => ?_⟩⟩
  · obtain ⟨a, b | b⟩ := ho.2 k e
    · exact ⟨(h.o k b).1, a⟩
    · exact ⟨by omega, a⟩
  · rw [ho.1.block i (by omega) (fun e => by have := (h.o i e.symm).1; omega)]
    exact h.old.block i hi
end
theorem nums1 {w : World} {g : Nat} {a : Int} (h : Blk w g 3 #[.int .i64 a]) (ha : 0 ≤ a) : NumsAt w (some ⟨g, 0, none⟩) 1 [a.toNat] := by
  intro j hj
  refine ⟨g, 0, rfl, ?_⟩
  match j, hj with
  | 0, _ => rw [h.cell 0]; simp; omega
theorem nums2 {w : World} {g : Nat} {a b : Int} (h : Blk w g 3 #[.int .i64 a, .int .i64 b]) (ha : 0 ≤ a) (hb : 0 ≤ b) : NumsAt w (some ⟨g, 0, none⟩) 2 [a.toNat, b.toNat] := by
  intro j hj
  refine ⟨g, 0, rfl, ?_⟩
  match j, hj with
  | 0, _ => rw [h.cell 0]; simp; omega
  | 1, _ => rw [h.cell 1]; simp; omega
theorem nums3 {w : World} {g : Nat} {a b c : Int} (h : Blk w g 3 #[.int .i64 a, .int .i64 b, .int .i64 c]) (ha : 0 ≤ a) (hb : 0 ≤ b) (hc : 0 ≤ c) : NumsAt w (some ⟨g, 0, none⟩) 3 [a.toNat, b.toNat, c.toNat] := by
  intro j hj
  refine ⟨g, 0, rfl, ?_⟩
  match j, hj with
  | 0, _ => rw [h.cell 0]; simp; omega
  | 1, _ => rw [h.cell 1]; simp; omega
  | 2, _ => rw [h.cell 2]; simp; omega
theorem nums4 {w : World} {g : Nat} {a b c d : Int} (h : Blk w g 3 #[.int .i64 a, .int .i64 b, .int .i64 c, .int .i64 d]) (ha : 0 ≤ a) (hb : 0 ≤ b) (hc : 0 ≤ c) (hd : 0 ≤ d) : NumsAt w (some ⟨g, 0, none⟩) 4 [a.toNat, b.toNat, c.toNat, d.toNat] := by
  intro j hj
  refine ⟨g, 0, rfl, ?_⟩
  match j, hj with
  | 0, _ => rw [h.cell 0]; simp; omega
  | 1, _ => rw [h.cell 1]; simp; omega
  | 2, _ => rw [h.cell 2]; simp; omega
  | 3, _ => rw [h.cell 3]; simp; omega
theorem nums7 {w : World} {g : Nat} {a b c d e f i : Int} (h : Blk w g 3 #[.int .i64 a, .int .i64 b, .int .i64 c, .int .i64 d, .int .i64 e, .int .i64 f, .int .i64 i]) (ha : 0 ≤ a) (hb : 0 ≤ b) (hc : 0 ≤ c) (hd : 0 ≤ d) (he : 0 ≤ e) (hf : 0 ≤ f) (hi : 0 ≤ i) : NumsAt w (some ⟨g, 0, none⟩) 7 [a.toNat, b.toNat, c.toNat, d.toNat, e.toNat, f.toNat, i.toNat] := by
  intro j hj
  refine ⟨g, 0, rfl, ?_⟩
  match j, hj with
  | 0, _ => rw [h.cell 0]; simp; omega
  | 1, _ => rw [h.cell 1]; simp; omega
  | 2, _ => rw [h.cell 2]; simp; omega
  | 3, _ => rw [h.cell 3]; simp; omega
  | 4, _ => rw [h.cell 4]; simp; omega
  | 5, _ => rw [h.cell 5]; simp; omega
  | 6, _ => rw [h.cell 6]; simp; omega
/-- Numbers from 0 to MaxTime, not too many. -/
def Fit (L : List Nat) (N : Nat) : Prop := (∀ n ∈ L, n ≤ 2 ^ 40) ∧ L.length ≤ N
theorem Fit.app {L M : List Nat} {N K : Nat} (h : Fit L N) (k : Fit M K) : Fit (L ++ M) (N + K) := ⟨fun n hn => (List.mem_append.1 hn).elim (h.1 n) (k.1 n), by have := h.2; have := k.2; rw [List.length_append]; omega⟩
theorem put_fit {w w1 : World} {G : Array Value} {v : Value} {L zs : List Nat} {N n : Nat} (h : EnAt w w1 G v (vnums L)) (hL : Fit L N) (hN : N ≤ 300) (hz : Fit zs n) (hzn : zs.length = n) (hn : n ≤ 10) (g : Nat) (hg : ∀ k, v.ownBlock = some k → k < g) (hA : NumsAt w1 (some ⟨g, 0, none⟩) n zs) :
    Calls Try.prog 63 #[v, .slice (some ⟨g, 0, none⟩) n n] w1 fun r w2 => ∃ v', r = .returned v' ∧ EnAt w w2 G v' (vnums (L ++ zs)) := by
  have h6 : ∀ z, z ≤ 2 ^ 40 → (vnum z).length ≤ 6 := fun z hz => vnum_len z 6 (by omega) (Nat.lt_of_le_of_lt hz (by decide))
  have hlen := vnums_len L hL.1
  have hl := hL.2
  refine (put_any (w.heap.size + 1) v (vnums L) (some ⟨g, 0, none⟩) n n zs w1 h.q (fun k e => (h.o k e).2) h.g.lt hA hzn (fun b off e e2 => ?_) (fun z hm => Nat.lt_of_le_of_lt (hz.1 z hm) (by decide)) (by omega) (fun z hm => Nat.le_trans (h6 z (hz.1 z hm)) (by omega))).mono ?_
  · cases e; exact Nat.lt_irrefl _ (hg _ e2)
  · rintro r w2 ⟨v', rfl, hq, ho⟩
    exact ⟨v', rfl, by rw [vnums_app]; exact h.put hq ho⟩
theorem toNat_le40 {x : Int} (h : x ≤ 2 ^ 40) : x.toNat ≤ 2 ^ 40 := toNat_le h
theorem fit1 {a : Nat} (ha : a ≤ 1000) : Fit [a] 1 := ⟨by intro n hn; simp at hn; subst hn; exact Nat.le_trans ha (by decide), by simp⟩
theorem fit2 {a : Int} {b : Nat} (ha : a ≤ 2 ^ 40) (hb : b ≤ 1000) : Fit [a.toNat, b] 2 := ⟨by
  intro n hn; simp at hn
  rcases hn with rfl | rfl
  · exact toNat_le ha
  · exact Nat.le_trans hb (by decide), by simp⟩
theorem fit7 {a b c d e f : Int} {i : Nat} (ha : a ≤ 2 ^ 40) (hb : b ≤ 2 ^ 40) (hc : c ≤ 2 ^ 40) (hd : d ≤ 2 ^ 40) (he : e ≤ 2 ^ 40) (hf : f ≤ 2 ^ 40) (hi : i ≤ 1000) : Fit [a.toNat, b.toNat, c.toNat, d.toNat, e.toNat, f.toNat, i] 7 := ⟨by
  intro n hn; simp at hn
  rcases hn with rfl | rfl | rfl | rfl | rfl | rfl | rfl
  · exact toNat_le ha
  · exact toNat_le hb
  · exact toNat_le hc
  · exact toNat_le hd
  · exact toNat_le he
  · exact toNat_le hf
  · exact Nat.le_trans hi (by decide), by simp⟩
theorem slN_fit {s : Sl} (h : (0 ≤ s.n ∧ 0 ≤ s.f ∧ 0 ≤ s.t) ∧ s.n ≤ 2 ^ 40 ∧ s.f ≤ 2 ^ 40 ∧ s.t ≤ 2 ^ 40) : Fit (slN s) 3 := ⟨by
  intro n hn; simp [slN] at hn
  rcases hn with rfl | rfl | rfl <;> exact toNat_le (by omega), by simp [slN]⟩
theorem wnN_fit {s : Wn} (h : (0 ≤ s.p ∧ 0 ≤ s.f ∧ 0 ≤ s.t) ∧ s.p ≤ 2 ^ 40 ∧ s.f ≤ 2 ^ 40 ∧ s.t ≤ 2 ^ 40) : Fit (wnN s) 3 := ⟨by
  intro n hn; simp [wnN] at hn
  rcases hn with rfl | rfl | rfl <;> exact toNat_le (by omega), by simp [wnN]⟩
theorem lkN_fit {s : Lk} (h : (0 ≤ s.f ∧ 0 ≤ s.t ∧ 0 ≤ s.b ∧ 0 ≤ s.q) ∧ s.f ≤ 2 ^ 40 ∧ s.t ≤ 2 ^ 40 ∧ s.b ≤ 2 ^ 40 ∧ s.q ≤ 2 ^ 40) : Fit (lkN s) 4 := ⟨by
  intro n hn; simp [lkN] at hn
  rcases hn with rfl | rfl | rfl | rfl <;> exact toNat_le (by omega), by simp [lkN]⟩
theorem flat_fit {α : Type} {f : α → List Nat} {l : List α} {j : Nat} (h : ∀ s ∈ l, Fit (f s) j) (k : Nat) : Fit ((l.take k).map f).flatten (j * k) := by
  induction l generalizing k with
  | nil => simp [Fit]
  | cons s l ih =>
    cases k with
    | zero => simp [Fit]
    | succ k =>
      have h1 := h s (by simp)
      have h2 := ih (fun x hx => h x (by simp [hx])) k
      simp only [List.take_succ_cons, List.map_cons, List.flatten_cons]
      have := h1.app h2
      exact ⟨this.1, by have := this.2; rw [Nat.mul_succ]; omega⟩
theorem flat_take {α : Type} (f : α → List Nat) (l : List α) (k : Nat) (x : α) (h : l[k]? = some x) : ((l.take (k + 1)).map f).flatten = ((l.take k).map f).flatten ++ f x := by
  obtain ⟨hk, e⟩ := List.getElem?_eq_some_iff.1 h
  rw [List.take_succ_eq_append_getElem hk, e]
  simp
theorem plN_eq (p : Pl) {len ll lq : Nat} (h1 : p.sl.length = len) (h2 : p.lk.length = ll) (h3 : p.wn.length = lq) : plN p = [p.nd.toNat, p.fa.toNat, p.sk.toNat, p.ji.toNat, p.dr.toNat, p.rd.toNat, (len : Int).toNat] ++ (p.sl.map slN).flatten ++ [(ll : Int).toNat] ++ (p.lk.map lkN).flatten ++ [p.fr.toNat, (lq : Int).toNat] ++ (p.wn.map wnN).flatten := by
  subst h1 h2 h3
  unfold plN
  simp
/-- What Encode answers. -/
def EoPost (w : World) (p : Pl) (r : Ending) (w' : World) : Prop :=
  if (chk p).1 = 0 then ∃ v, r = .returned (.tuple #[v, .nilIface]) ∧ QAt w' (w.heap.size + 1) 5 v (bvN (vnums (plN p))) ∧ (∀ k, v.ownBlock = some k → w.heap.size < k ∧ k < w'.heap.size) ∧ Below w.heap.size w w'
  else ∃ v, r = .returned (.tuple #[.slice none 0 0, v]) ∧ AtV w' v (chk p).1 (chk p).2 ∧ Below w.heap.size w w'
section
variable (p : Pl) (A : Option Addr) (len c : Nat) (AL : Option Addr) (ll cl : Nat) (AQ : Option Addr) (lq cq : Nat)
set_option maxRecDepth 100000 in
set_option maxHeartbeats 8000000 in
theorem encode_bad (w : World) (h0 : (chk p).1 ≠ 0) (s1 : p.sl.length = len) (l1 : p.lk.length = ll) (q1 : p.wn.length = lq) (s2 : SlotsAt w A len p.sl) (l2 : LinksAt w AL ll p.lk) (q2 : WinsAt w AQ lq p.wn) :
    Calls Try.prog 47 #[.agg (planC p.nd p.fa p.sk p.ji p.dr p.rd (.slice A len c) (.slice AL ll cl) p.fr (.slice AQ lq cq))] w (EoPost w p) := by
  have hP0 : PcAt w (w.alloc (.cells (planC p.nd p.fa p.sk p.ji p.dr p.rd (.slice A len c) (.slice AL ll cl) p.fr (.slice AQ lq cq)) 86)) (planC p.nd p.fa p.sk p.ji p.dr p.rd (.slice A len c) (.slice AL ll cl) p.fr (.slice AQ lq cq)) := ⟨Blk.new w _ _, (Below.refl _ _).alloc (Nat.le_refl _) _⟩
  have HP := hide hP0
  obtain ⟨i0, i1, i2, i3, i4, i5, i6, i7, i8, i9⟩ := hP0.g.cells10
  have HCK : Hid (∀ w0 : World, Below w.heap.size w w0 → Calls Try.prog 44 #[.agg (planC p.nd p.fa p.sk p.ji p.dr p.rd (.slice A len c) (.slice AL ll cl) p.fr (.slice AQ lq cq))] w0 (PcPost w0 (chk p))) := hide fun w0 hB => check_any p A len c AL ll cl AQ lq cq w0 s1 l1 q1 (s2.below hB) (l2.below hB) (q2.below hB)
  have H0 := hide h0
  clear hP0 s1 l1 q1 s2 l2 q2 h0
  go_enter Try.func47, Try.ntmps47
  go_wp2_with fail
  refine (HCK.out _ HP.out.old).mono ?_
  rintro e w3 hpost
  rcases hpost.2 with ⟨h, _⟩ | ⟨_, v, rfl, hv⟩
  · exact absurd h H0.out
  have HV := hide hv
  have HB := hide (HP.out.old.trans (hpost.1.mono HP.out.old.size))
  obtain ⟨t, u, rfl⟩ := hv.iface
  clear hpost hv HP HCK i0 i1 i2 i3 i4 i5 i6 i7 i8 i9
  go_wp2_with fail
  go_ret2
  unfold EoPost
  rw [if_neg H0.out]
  exact ⟨_, rfl, HV.out, HB.out⟩
set_option maxRecDepth 100000 in
set_option maxHeartbeats 8000000 in
theorem encode_ok (w : World) (h0 : (chk p).1 = 0) (s1 : p.sl.length = len) (l1 : p.lk.length = ll) (q1 : p.wn.length = lq) (s2 : SlotsAt w A len p.sl) (l2 : LinksAt w AL ll p.lk) (q2 : WinsAt w AQ lq p.wn) :
    Calls Try.prog 47 #[.agg (planC p.nd p.fa p.sk p.ji p.dr p.rd (.slice A len c) (.slice AL ll cl) p.fr (.slice AQ lq cq))] w (EoPost w p) := by
  obtain ⟨hb1, hb2, hb3, hb4, hb5⟩ := chk_bounds h0
  have HB1 := hide hb1; have HB3 := hide hb3; have HB4 := hide hb4; have HB5 := hide hb5
  have n1 : len ≤ 32 := by omega
  have n2 : ll ≤ 8 := by omega
  have n3 : lq ≤ 32 := by omega
  have hP0 : PcAt w (w.alloc (.cells (planC p.nd p.fa p.sk p.ji p.dr p.rd (.slice A len c) (.slice AL ll cl) p.fr (.slice AQ lq cq)) 86)) (planC p.nd p.fa p.sk p.ji p.dr p.rd (.slice A len c) (.slice AL ll cl) p.fr (.slice AQ lq cq)) := ⟨Blk.new w _ _, (Below.refl _ _).alloc (Nat.le_refl _) _⟩
  have HP := hide hP0
  obtain ⟨i0, i1, i2, i3, i4, i5, i6, i7, i8, i9⟩ := hP0.g.cells10
  have HCK : Hid (∀ w0 : World, Below w.heap.size w w0 → Calls Try.prog 44 #[.agg (planC p.nd p.fa p.sk p.ji p.dr p.rd (.slice A len c) (.slice AL ll cl) p.fr (.slice AQ lq cq))] w0 (PcPost w0 (chk p))) := hide fun w0 hB => check_any p A len c AL ll cl AQ lq cq w0 s1 l1 q1 (s2.below hB) (l2.below hB) (q2.below hB)
  have H0 := hide h0; have S1 := hide s1; have L1 := hide l1; have Q1 := hide q1; have S2 := hide s2; have L2 := hide l2; have Q2 := hide q2
  clear hP0 s1 l1 q1 s2 l2 q2 h0 hb1 hb2 hb3 hb4 hb5
  go_enter Try.func47, Try.ntmps47
  go_wp2_with fail
  refine (HCK.out _ HP.out.old).mono ?_
  rintro e w3 hpost
  rcases hpost.2 with ⟨-, rfl⟩ | ⟨h, _⟩
  rotate_left
  · exact absurd H0.out h
  have HP3 := hide (HP.out.below hpost.1)
  clear hpost HP HCK i0 i1 i2 i3 i4 i5 i6 i7 i8 i9
  obtain ⟨i0, i1, i2, i3, i4, i5, i6, i7, i8, i9⟩ := HP3.out.g.cells10
  have HE0 : Hid (EnAt w (w3.alloc (.cells #[.int .i64 p.nd, .int .i64 p.fa, .int .i64 p.sk, .int .i64 p.ji, .int .i64 p.dr, .int .i64 p.rd, .int .i64 (len : Int)] 3)) (planC p.nd p.fa p.sk p.ji p.dr p.rd (.slice A len c) (.slice AL ll cl) p.fr (.slice AQ lq cq)) (.slice none 0 0) (vnums [])) := hide (EnAt.alloc ⟨HP3.out.g, QAt.nil _ _ _ _, fun k e => by simp [Value.ownBlock] at e, HP3.out.old⟩ _)
  go_wp2_with fail
  have HFIT : Hid (Fit [p.nd.toNat, p.fa.toNat, p.sk.toNat, p.ji.toNat, p.dr.toNat, p.rd.toNat, (len : Int).toNat] 7) := hide (fit7 (by have := HB1.out; omega) (by have := HB1.out; omega) (by have := HB1.out; omega) (by have := HB1.out; omega) (by have := HB1.out; omega) (by have := HB1.out; omega) (by omega))
  refine (put_fit HE0.out (N := 0) ⟨by simp, by simp⟩ (by omega) (zs := [p.nd.toNat, p.fa.toNat, p.sk.toNat, p.ji.toNat, p.dr.toNat, p.rd.toNat, (len : Int).toNat]) (n := 7) HFIT.out rfl (by omega) w3.heap.size (fun k e => by simp [Value.ownBlock] at e) (by exact nums7 (Blk.new w3 _ _) (by have := HB1.out; omega) (by have := HB1.out; omega) (by have := HB1.out; omega) (by have := HB1.out; omega) (by have := HB1.out; omega) (by have := HB1.out; omega) (by omega))).mono ?_
  rintro e w4 ⟨v4, rfl, hE⟩
  have HE := hide hE; clear hE HE0 HP3 i0 i1 i2 i3 i4 i5 i6 i7 i8 i9
  obtain ⟨i0, i1, i2, i3, i4, i5, i6, i7, i8, i9⟩ := HE.out.g.cells10
  obtain ⟨A1, hA1⟩ : ∃ A1, [p.nd.toNat, p.fa.toNat, p.sk.toNat, p.ji.toNat, p.dr.toNat, p.rd.toNat, (len : Int).toNat] = A1 := ⟨_, rfl⟩
  rw [List.nil_append, hA1] at HE
  have HFA1 : Hid (Fit A1 7) := hide (by rw [← hA1]; exact HFIT.out)
  have HA1 := hide hA1
  clear hA1 HFIT
  have HFS : Hid (∀ k, Fit ((p.sl.take k).map slN).flatten (3 * k)) := hide (fun k => flat_fit (fun s hs => slN_fit (HB3.out s hs)) k)
  have HFL : Hid (∀ k, Fit ((p.lk.take k).map lkN).flatten (4 * k)) := hide (fun k => flat_fit (fun s hs => lkN_fit (HB4.out s hs)) k)
  have HFW : Hid (∀ k, Fit ((p.wn.take k).map wnN).flatten (3 * k)) := hide (fun k => flat_fit (fun s hs => wnN_fit (HB5.out s hs)) k)
  go_wp2_with fail

  go_loopw [5, 37] (fun v i wr => ∃ k : Nat, k ≤ len ∧ i = .int .i64 k ∧ Hid (EnAt w wr (planC p.nd p.fa p.sk p.ji p.dr p.rd (.slice A len c) (.slice AL ll cl) p.fr (.slice AQ lq cq)) v (vnums (A1 ++ ((p.sl.take k).map slN).flatten)))) (fun _ i _ => len - (intOf i).toNat)
  case atStart => exact ⟨0, by omega, rfl, by simpa using HE⟩
  case round =>
    clear HE i0 i1 i2 i3 i4 i5 i6 i7 i8 i9
    obtain ⟨k, hk, rfl, HE⟩ := hrel
    obtain ⟨i0, i1, i2, i3, i4, i5, i6, i7, i8, i9⟩ := HE.out.g.cells10
    by_cases hlt : k < len
    · obtain ⟨b, off, rfl, x, hx, c0, c1, c2⟩ := (S2.out.below HE.out.old) k hlt
      have hmem : x ∈ p.sl := List.mem_of_getElem? hx
      have HX := hide hx
      have HM := hide (HB3.out x hmem)
      have HE2 := hide ((HE.out.alloc (.cells #[.int .i64 x.n, .int .i64 x.f, .int .i64 x.t] 127)).alloc (.cells #[.int .i64 x.n, .int .i64 x.f, .int .i64 x.t] 3))
      obtain ⟨j0, j1, j2, j3, j4, j5, j6, j7, j8, j9⟩ := (HE.out.alloc (.cells #[.int .i64 x.n, .int .i64 x.f, .int .i64 x.t] 127)).g.cells10
      clear hx hmem
      go_wp2_with fail
      refine (put_fit (zs := slN x) (n := 3) HE2.out ((HFA1.out.app (HFS.out k)) : Fit _ _) (by omega) (slN_fit HM.out) rfl (by omega) (wr.heap.size + 1) (fun k e => Nat.lt_succ_of_lt (HE.out.o k e).2) (by exact nums3 (by simpa using Blk.new (wr.alloc _) _ _) (by have := HM.out; omega) (by have := HM.out; omega) (by have := HM.out; omega))).mono ?_
      rintro e w6 ⟨v6, rfl, hE⟩
      have HE6 := hide hE
      clear hE HE2 HE i0 i1 i2 i3 i4 i5 i6 i7 i8 i9 j0 j1 j2 j3 j4 j5 j6 j7 j8 j9
      go_wp2_with fail
      go_roundw
      case rel => exact ⟨k + 1, by omega, by go_num, hide (by rw [flat_take slN _ _ _ HX.out, ← List.append_assoc]; exact HE6.out)⟩
      case measure => simp [intOf]; omega
    · obtain rfl : len = k := by omega
      have HS2 : Hid (EnAt w wr (planC p.nd p.fa p.sk p.ji p.dr p.rd (.slice A len c) (.slice AL ll cl) p.fr (.slice AQ lq cq)) u5 (vnums (A1 ++ (p.sl.map slN).flatten))) := hide (by
        have := HE.out
        rw [List.take_of_length_le (by rw [S1.out]; omega)] at this
        exact this)
      have HF2 : Hid (Fit (A1 ++ (p.sl.map slN).flatten) (7 + 3 * len)) := hide (by
        have := HFA1.out.app (HFS.out len)
        rw [List.take_of_length_le (by rw [S1.out]; omega)] at this
        exact this)
      have HE2 := hide (HS2.out.alloc (.cells #[.int .i64 (ll : Int)] 3))
      clear HE hlt hk
      go_wp2_with fail
      refine (put_fit (zs := [(ll : Int).toNat]) (n := 1) HE2.out HF2.out (by omega) (fit1 (by omega)) rfl (by omega) wr.heap.size (fun k e => (HS2.out.o k e).2) (by exact nums1 (Blk.new wr _ _) (by omega))).mono ?_
      rintro e w7 ⟨v7, rfl, hE⟩
      have HE := hide hE
      obtain ⟨A2, hA2⟩ : ∃ A2, A1 ++ (p.sl.map slN).flatten ++ [(ll : Int).toNat] = A2 := ⟨_, rfl⟩
      rw [hA2] at HE
      have HFA2 : Hid (Fit A2 104) := hide (by rw [← hA2]; have := (HF2.out.app (fit1 (show (ll : Int).toNat ≤ 1000 by omega)) : Fit _ _); exact ⟨this.1, by have := this.2; omega⟩)
      have HA2 := hide hA2
      clear hE HE2 HS2 HF2 hA2 i0 i1 i2 i3 i4 i5 i6 i7 i8 i9
      obtain ⟨i0, i1, i2, i3, i4, i5, i6, i7, i8, i9⟩ := HE.out.g.cells10
      go_wp2_with fail
      obtain ⟨wo, rfl⟩ : ∃ wo : World, wo = wr := ⟨_, rfl⟩
      go_loopw [5, 62] (fun v i wr => ∃ k : Nat, k ≤ ll ∧ i = .int .i64 k ∧ Hid (EnAt w wr (planC p.nd p.fa p.sk p.ji p.dr p.rd (.slice A len c) (.slice AL ll cl) p.fr (.slice AQ lq cq)) v (vnums (A2 ++ ((p.lk.take k).map lkN).flatten)))) (fun _ i _ => ll - (intOf i).toNat)
      case atStart => exact ⟨0, by omega, rfl, by simpa using HE⟩
      case round =>
        clear HE i0 i1 i2 i3 i4 i5 i6 i7 i8 i9
        obtain ⟨k, hk, rfl, HE⟩ := hrel
        obtain ⟨i0, i1, i2, i3, i4, i5, i6, i7, i8, i9⟩ := HE.out.g.cells10
        by_cases hlt : k < ll
        · obtain ⟨b, off, rfl, x, hx, c0, c1, c2, c3⟩ := (L2.out.below HE.out.old) k hlt
          have hmem : x ∈ p.lk := List.mem_of_getElem? hx
          have HX := hide hx
          have HM := hide (HB4.out x hmem)
          have HE2 := hide ((HE.out.alloc (.cells #[.int .i64 x.f, .int .i64 x.t, .int .i64 x.b, .int .i64 x.q] 67)).alloc (.cells #[.int .i64 x.f, .int .i64 x.t, .int .i64 x.b, .int .i64 x.q] 3))
          obtain ⟨j0, j1, j2, j3, j4, j5, j6, j7, j8, j9⟩ := (HE.out.alloc (.cells #[.int .i64 x.f, .int .i64 x.t, .int .i64 x.b, .int .i64 x.q] 67)).g.cells10
          clear hx hmem
          go_wp2_with fail
          refine (put_fit (zs := lkN x) (n := 4) HE2.out ((HFA2.out.app (HFL.out k)) : Fit _ _) (by omega) (lkN_fit HM.out) rfl (by omega) (wr.heap.size + 1) (fun k e => Nat.lt_succ_of_lt (HE.out.o k e).2) (by exact nums4 (by simpa using Blk.new (wr.alloc _) _ _) (by have := HM.out; omega) (by have := HM.out; omega) (by have := HM.out; omega) (by have := HM.out; omega))).mono ?_
          rintro e w6 ⟨v6, rfl, hE⟩
          have HE6 := hide hE
          clear hE HE2 HE i0 i1 i2 i3 i4 i5 i6 i7 i8 i9 j0 j1 j2 j3 j4 j5 j6 j7 j8 j9
          go_wp2_with fail
          go_roundw
          case rel => exact ⟨k + 1, by omega, by go_num, hide (by rw [flat_take lkN _ _ _ HX.out, ← List.append_assoc]; exact HE6.out)⟩
          case measure => simp [intOf]; omega
        · obtain rfl : ll = k := by omega
          have HS2 : Hid (EnAt w wr (planC p.nd p.fa p.sk p.ji p.dr p.rd (.slice A len c) (.slice AL ll cl) p.fr (.slice AQ lq cq)) u5 (vnums (A2 ++ (p.lk.map lkN).flatten))) := hide (by
            have := HE.out
            rw [List.take_of_length_le (by rw [L1.out]; omega)] at this
            exact this)
          have HF2 : Hid (Fit (A2 ++ (p.lk.map lkN).flatten) (104 + 4 * ll)) := hide (by
            have := HFA2.out.app (HFL.out ll)
            rw [List.take_of_length_le (by rw [L1.out]; omega)] at this
            exact this)
          have HE2 := hide (HS2.out.alloc (.cells #[.int .i64 p.fr, .int .i64 (lq : Int)] 3))
          clear HE hlt hk
          go_wp2_with fail
          refine (put_fit (zs := [p.fr.toNat, (lq : Int).toNat]) (n := 2) HE2.out HF2.out (by omega) (fit2 (by have := HB1.out; omega) (by omega)) rfl (by omega) wr.heap.size (fun k e => (HS2.out.o k e).2) (by exact nums2 (Blk.new wr _ _) (by have := HB1.out; omega) (by omega))).mono ?_
          rintro e w8 ⟨v8, rfl, hE⟩
          have HE := hide hE
          obtain ⟨A3, hA3⟩ : ∃ A3, A2 ++ (p.lk.map lkN).flatten ++ [p.fr.toNat, (lq : Int).toNat] = A3 := ⟨_, rfl⟩
          rw [hA3] at HE
          have HFA3 : Hid (Fit A3 (104 + 4 * ll + 2)) := hide (by rw [← hA3]; exact (HF2.out.app (fit2 (a := p.fr) (b := (lq : Int).toNat) (by have := HB1.out; omega) (by omega)) : Fit _ _))
          have HA3 : Hid (A1 ++ (p.sl.map slN).flatten ++ [(ll : Int).toNat] ++ (p.lk.map lkN).flatten ++ [p.fr.toNat, (lq : Int).toNat] = A3) := hide (by rw [← hA3, ← HA2.out])
          clear hE HE2 HS2 HF2 hA3 i0 i1 i2 i3 i4 i5 i6 i7 i8 i9
          obtain ⟨i0, i1, i2, i3, i4, i5, i6, i7, i8, i9⟩ := HE.out.g.cells10
          go_wp2_with fail
          obtain ⟨wo, rfl⟩ : ∃ wo : World, wo = wr := ⟨_, rfl⟩
          go_loopw [5, 89] (fun v i wr => ∃ k : Nat, k ≤ lq ∧ i = .int .i64 k ∧ Hid (EnAt w wr (planC p.nd p.fa p.sk p.ji p.dr p.rd (.slice A len c) (.slice AL ll cl) p.fr (.slice AQ lq cq)) v (vnums (A3 ++ ((p.wn.take k).map wnN).flatten)))) (fun _ i _ => lq - (intOf i).toNat)
          case atStart => exact ⟨0, by omega, rfl, by simpa using HE⟩
          case round =>
            clear HE i0 i1 i2 i3 i4 i5 i6 i7 i8 i9
            obtain ⟨k, hk, rfl, HE⟩ := hrel
            obtain ⟨i0, i1, i2, i3, i4, i5, i6, i7, i8, i9⟩ := HE.out.g.cells10
            by_cases hlt : k < lq
            · obtain ⟨b, off, rfl, x, hx, c0, c1, c2⟩ := (Q2.out.below HE.out.old) k hlt
              have hmem : x ∈ p.wn := List.mem_of_getElem? hx
              have HX := hide hx
              have HM := hide (HB5.out x hmem)
              have HE2 := hide ((HE.out.alloc (.cells #[.int .i64 x.p, .int .i64 x.f, .int .i64 x.t] 118)).alloc (.cells #[.int .i64 x.p, .int .i64 x.f, .int .i64 x.t] 3))
              obtain ⟨j0, j1, j2, j3, j4, j5, j6, j7, j8, j9⟩ := (HE.out.alloc (.cells #[.int .i64 x.p, .int .i64 x.f, .int .i64 x.t] 118)).g.cells10
              clear hx hmem
              go_wp2_with fail
              refine (put_fit (zs := wnN x) (n := 3) HE2.out ((HFA3.out.app (HFW.out k)) : Fit _ _) (by omega) (wnN_fit HM.out) rfl (by omega) (wr.heap.size + 1) (fun k e => Nat.lt_succ_of_lt (HE.out.o k e).2) (by exact nums3 (by simpa using Blk.new (wr.alloc _) _ _) (by have := HM.out; omega) (by have := HM.out; omega) (by have := HM.out; omega))).mono ?_
              rintro e w6 ⟨v6, rfl, hE⟩
              have HE6 := hide hE
              clear hE HE2 HE i0 i1 i2 i3 i4 i5 i6 i7 i8 i9 j0 j1 j2 j3 j4 j5 j6 j7 j8 j9
              go_wp2_with fail
              go_roundw
              case rel => exact ⟨k + 1, by omega, by go_num, hide (by rw [flat_take wnN _ _ _ HX.out, ← List.append_assoc]; exact HE6.out)⟩
              case measure => simp [intOf]; omega
            · obtain rfl : lq = k := by omega
              have HF : Hid (EnAt w wr (planC p.nd p.fa p.sk p.ji p.dr p.rd (.slice A len c) (.slice AL ll cl) p.fr (.slice AQ lq cq)) u5 (vnums (plN p))) := hide (by
                have := HE.out
                rw [List.take_of_length_le (by rw [Q1.out]; omega), ← HA3.out] at this
                rw [plN_eq p S1.out L1.out Q1.out, HA1.out]
                exact this)
              obtain ⟨ao, cc, hvv, -⟩ := HF.out.q.shape
              rw [bvN_len] at hvv
              have hsh : (vnums (plN p)).length ≤ 2000 := plN_short H0.out
              have HH : Hid (EoPost w p (.returned (.tuple #[u5, .nilIface])) wr) := hide (by
                unfold EoPost
                rw [if_pos H0.out]
                exact ⟨_, rfl, HF.out.q, HF.out.o, HF.out.old⟩)
              subst hvv
              clear HF HE hlt hk
              go_wp2_with fail
              go_ret2
              exact HH.out
/-- Encode, whatever the plan. -/
theorem encode_any (w : World) (s1 : p.sl.length = len) (l1 : p.lk.length = ll) (q1 : p.wn.length = lq) (s2 : SlotsAt w A len p.sl) (l2 : LinksAt w AL ll p.lk) (q2 : WinsAt w AQ lq p.wn) :
    Calls Try.prog 47 #[.agg (planC p.nd p.fa p.sk p.ji p.dr p.rd (.slice A len c) (.slice AL ll cl) p.fr (.slice AQ lq cq))] w (EoPost w p) := by
  by_cases h0 : (chk p).1 = 0
  · exact encode_ok p A len c AL ll cl AQ lq cq w h0 s1 l1 q1 s2 l2 q2
  · exact encode_bad p A len c AL ll cl AQ lq cq w h0 s1 l1 q1 s2 l2 q2
end
end Go.Proofs.Ytgdljdhibknjnaa
