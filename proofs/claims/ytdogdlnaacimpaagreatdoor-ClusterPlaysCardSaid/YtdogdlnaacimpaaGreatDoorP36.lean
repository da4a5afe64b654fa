/- Of the cluster and the document's: Put, Receive and Members beyond what there is; Clocks; Members. Conditions: as each says. -/
import Derived.Test.YtdogdlnaacimpaaGreatDoorP32
import Derived.Test.YtdogdlnaacimpaaGreatDoorP35
import Derived.Test.YtdogdlnaacimpaaGreatDoorP21
import Derived.Test.YtdogdlnaacimpaaGreatDoorP05
set_option linter.unusedVariables false
set_option linter.unusedSimpArgs false
namespace Go.Proofs.YtdogdlnaacimpaaGreatDoor
section
open Go Go.RowKit
attribute [local irreducible] liesB
section
variable {P0 : Program}
theorem wpList_append_all (w : World) {ops : Array Oper} {rest : List Oper} {o : Oper} {a : Act} {Q : Exit → Act → World → Prop} (hgd : o.guard = none) (s x : Operand) (t : TypeId)
 (ho : o.op = .call { callee := .builtin .append, args := #[s, x], argTypes := #[t, t] })
 (base : Nat) (e : TypeId) (i : TypeInfo) (z : Value) (bytes : Nat) (ht : P0.underlying t = some (.slice e)) (hi : P0.info? e = some i) (hz : i.zero = some z) (hsize : i.size = 1) (hby : i.bytes = bytes) (hzs : z.cells.size = 1)
 (v : Value) (n : Nat) (xs : List Value) (hs : a.eval s = v) (hown : w.ownsRow base e 1 v n xs) (b2 : Nat) (vx : Value) (l : List Value) (hx : a.eval x = vx) (hQ : QAt w b2 e vx l) (h1 : ∀ u ∈ l, u.oneCell' = true)
 (h63 : n + l.length ≤ maxLen) (hbytes : (n + l.length) * bytes ≤ 140737488355328) (hbase : base ≤ w.heap.size)
 (h : ∀ v' w', w'.ownsRow base e 1 v' (n + l.length) (xs ++ l) → w.grownBy w' v.ownBlock → (v'.ownBlock = v.ownBlock ∨ ∀ k, v'.ownBlock = some k → w.heap.size ≤ k) → wpList P0 ops Q rest (a.put o.dst v') w') : wpList P0 ops Q (o :: rest) a w :=
 wpList_plain hgd fun _ hK => wp_append_all w s x t ho base e i z bytes ht hi hz hsize hby hzs v n xs hs hown b2 vx l hx hQ h1 h63 hbytes hbase fun v' w' h2 h3 h4 => hK _ _ (h v' w' h2 h3 h4)
end
section
variable {w : World} {base : Nat} {a : Ad} {p : Pl} {P : Sv3} {fy : Nat} {c : Cl}
set_option maxRecDepth 100000 in
set_option maxHeartbeats 4000000 in
theorem cput_out (h : ClAt w base a (fullN p) p P fy c) (hp : PlOk p) (k : Int) (hk : k < 0 ∨ (p.lk.length : Int) ≤ k) (d : ByteArray) :
 Calls Tryz.prog 12 #[.pointer (some ⟨a.g, 0, none⟩), .int .i64 k, .string d] w fun e w' => e = .returned (errV 2) ∧ w' = w := by
 have hl8 := hp.lk
 have k13 := h.cluB.cell 13
 simp at k13
 obtain ⟨ao, cp, e, -⟩ := (h.at_ .sndA : QAt w base 115 a.sd ((List.range (fullN p).ns).map fun i => ptrV (a.gs i))).shape
 rw [List.length_map, List.length_range] at e
 obtain ⟨nl, hnl⟩ : ∃ nl, p.lk.length = nl := ⟨_, rfl⟩
 have e2 : (fullN p).ns = nl := hnl
 rw [e2] at e
 rw [e] at k13
 rw [hnl] at hk hl8
 clear h hnl e e2
 go_enter Tryz.func12, Tryz.ntmps12
 by_cases h0 : k < 0
 ·have d1 : decide (k < 0) = true := decide_eq_true h0
  go_wp2_with fail
  go_ret
  exact ⟨rfl, rfl⟩
 ·have d1 : decide (k < 0) = false := decide_eq_false h0
  have d2 : decide ((nl : Int) ≤ k) = true := decide_eq_true (by omega)
  go_wp2_with fail
  go_ret
  exact ⟨rfl, rfl⟩
set_option maxRecDepth 100000 in
set_option maxHeartbeats 4000000 in
theorem crecv_out (h : ClAt w base a (fullN p) p P fy c) (hp : PlOk p) (i k : Int) (hk : i < 0 ∨ p.nd ≤ i ∨ k < 0 ∨ (p.lk.length : Int) ≤ k) :
 Calls Tryz.prog 13 #[.pointer (some ⟨a.g, 0, none⟩), .int .i64 i, .int .i64 k] w fun e w' => e = .returned (.tuple #[.string ⟨#[]⟩, errV 2]) ∧ w' = w := by
 have hl8 := hp.lk
 have k15 := h.cluB.cell 15
 have k0 := h.cluB.cell 0
 simp at k15 k0
 obtain ⟨ao, cp, e, -⟩ := (h.at_ .prtA : QAt w base 118 a.pr ((List.range (fullN p).na).map a.rp)).shape
 rw [List.length_map, List.length_range] at e
 obtain ⟨nl, hnl⟩ : ∃ nl, p.lk.length = nl := ⟨_, rfl⟩
 have e2 : (fullN p).na = nl := hnl
 rw [e2] at e
 rw [e] at k15
 rw [hnl] at hk hl8
 clear h hnl e e2
 go_enter Tryz.func13, Tryz.ntmps13
 by_cases h0 : i < 0
 ·have d1 : decide (i < 0) = true := decide_eq_true h0
  go_wp2_with fail
  go_ret2
  exact ⟨rfl, rfl⟩
 ·have d1 : decide (i < 0) = false := decide_eq_false h0
  by_cases h1 : p.nd ≤ i
  ·have d2 : decide (p.nd ≤ i) = true := decide_eq_true h1
   go_wp2_with fail
   go_ret2
   exact ⟨rfl, rfl⟩
  ·have d2 : decide (p.nd ≤ i) = false := decide_eq_false h1
   by_cases h2 : k < 0
   ·have d3 : decide (k < 0) = true := decide_eq_true h2
    go_wp2_with fail
    go_ret2
    exact ⟨rfl, rfl⟩
   ·have d3 : decide (k < 0) = false := decide_eq_false h2
    have d4 : decide ((nl : Int) ≤ k) = true := decide_eq_true (by omega)
    go_wp2_with fail
    go_ret2
    exact ⟨rfl, rfl⟩
set_option maxRecDepth 100000 in
set_option maxHeartbeats 4000000 in
theorem clocks_any (h : ClAt w base a (fullN p) p P fy c) (hp : PlOk p) (hlen : c.ck.length = p.nd.toNat) :
 Calls Tryz.prog 26 #[.pointer (some ⟨a.g, 0, none⟩)] w fun e w' => (∃ A cp, e = .returned (.slice A p.nd.toNat cp) ∧ IsL w' A c.ck) ∧ Below w.heap.size w w' := by
 have h16 := hp.n16
 have h1 := hp.n1
 have hQ : QAt w base 3 a.ck (c.ck.map (Value.int .i64)) := h.at_ .nums
 have k11 := h.cluB.cell 11
 simp at k11
 obtain ⟨nd, hnd⟩ : ∃ nd, p.nd.toNat = nd := ⟨_, rfl⟩
 rw [hnd] at hlen ⊢
 have hnd1 : 0 < nd := by omega
 have hgl := h.cluB.lt
 obtain ⟨G, hG⟩ : ∃ G, a.g = G := ⟨_, rfl⟩
 obtain ⟨v, hv⟩ : ∃ v, a.ck = v := ⟨_, rfl⟩
 rw [hv] at k11 hQ
 rw [hG] at k11 hgl ⊢
 obtain ⟨zs, hzs⟩ : ∃ zs, c.ck = zs := ⟨_, rfl⟩
 rw [hzs] at hQ hlen ⊢
 obtain ⟨ao, cp, e, -⟩ := hQ.shape
 rw [List.length_map, hlen] at e
 subst e
 have HQ := hide (hQ.alloc (.cells #[] 3)); have HL := hide hlen
 have HE1 : Hid ((w.alloc (.cells #[] 3)).ownsRow w.heap.size 3 1 (.slice (some ⟨w.heap.size, 0, none⟩) 0 0) 0 []) := hide (own_empty (Blk.new w 3 #[]) (Nat.le_refl _))
 have HLM : Hid ((∀ u ∈ zs.map (Value.int .i64), u.oneCell' = true) ∧ 0 + (zs.map (Value.int .i64)).length ≤ maxLen ∧ (0 + (zs.map (Value.int .i64)).length) * 8 ≤ 140737488355328 ∧ w.heap.size ≤ (w.alloc (.cells #[] 3)).heap.size) := hide ⟨by intro u hu; obtain ⟨q, _, rfl⟩ := List.mem_map.1 hu; rfl, by simp [maxLen]; omega, by simp; omega, by simp⟩
 obtain ⟨i0, hi, hz0, hz1, hz2⟩ := en_info_parts ar_info
 clear h hQ hlen hnd hG hv hzs
 go_enter Tryz.func26, Tryz.ntmps26
 go_wp2_with (at_builtin; go_must (refine wpList_append_all _ rfl (.tmp 3) (.tmp 7) _ rfl w.heap.size 3 i0 _ 8 Tryz.underlying27 hi hz0 hz1 hz2 rfl (.slice (some ⟨w.heap.size, 0, none⟩) 0 0) 0 [] rfl (by exact HE1.out) base _ (zs.map (Value.int .i64)) rfl (by exact HQ.out) HLM.out.1 HLM.out.2.1 HLM.out.2.2.1 HLM.out.2.2.2 ?_); intro v8 w8 hown hg hat; rw [Nat.zero_add, List.nil_append, List.length_map, HL.out] at hown; have HO8 := hide hown; have HG8 := hide hg; clear hown hg hat)
 obtain ⟨gk, cpk, cur, rfl, -, -, -, -, -, -⟩ := block_of_own HO8.out hnd1
 go_ret
 refine ⟨⟨_, _, rfl, isl_of_own HO8.out HL.out⟩, ?_⟩
 exact ((Below.refl w.heap.size w).alloc (Nat.le_refl _) (.cells #[] 3)).grown HG8.out (by simp) (fun k e => by cases e; exact Nat.le_refl _)
/-- A node's members. -/
theorem members_out (h : ClAt w base a (fullN p) p P fy c) (i : Int) (hi : p.nd ≤ i) (h0 : 0 ≤ i) :
 Calls Tryz.prog 27 #[.pointer (some ⟨a.g, 0, none⟩), .int .i64 i] w fun e w' => e = .returned (.tuple #[.int .i64 0, .bool false, errV 2]) ∧ w' = w := by
 have k0 := h.cluB.cell 0
 simp at k0
 clear h
 have d1 : decide (i < 0) = false := decide_eq_false (by omega)
 have d2 : decide (p.nd ≤ i) = true := decide_eq_true hi
 go_enter Tryz.func27, Tryz.ntmps27
 go_wp2_with fail
 exact bodyPost_ret (v := .tuple #[.int .i64 0, .bool false, .iface 39 (.int .i64 2)]) (by simp [results, Tryz.results27, go_sem]) rfl ⟨rfl, rfl⟩
set_option maxRecDepth 100000 in
set_option maxHeartbeats 4000000 in
theorem members_of (h : ClAt w base a (fullN p) p P fy c) (hp : PlOk p) (i : Nat) (hi : i < p.nd.toNat) :
 Calls Tryz.prog 27 #[.pointer (some ⟨a.g, 0, none⟩), .int .i64 i] w fun e w' => e = .returned (.tuple #[.int .i64 ((c.mm i).m : Nat), .bool (c.mm i).fz, .nilIface]) ∧ Below w.heap.size w w' := by
 have h16 := hp.n16
 have k0 := h.cluB.cell 0
 have k12 := h.cluB.cell 12
 simp at k0 k12
 obtain ⟨bn, on, cpn, kA, kN⟩ := h.memC rfl (M := p.nd.toNat) rfl hi
 have hb : Blk w (a.gm i) 183 (nodeC i p.nd.toNat (c.mm i).m (c.mm i).gd (c.mm i).bd (c.mm i).fz) := by
  have := h.at_ (.mem i)
  simpa [shape, Ob.At, fullN, hi] using this
 have HMB := hide (fun q => members_in (a.gm i) i p.nd.toNat (c.mm i).m (c.mm i).gd (c.mm i).bd (c.mm i).fz (w.drewN q) (hb.drewN q))
 have HFZ := hide (fun q => frozen_in (a.gm i) i p.nd.toNat (c.mm i).m (c.mm i).gd (c.mm i).bd (c.mm i).fz (w.drewN q) (hb.drewN q))
 obtain ⟨nd, hnd⟩ : ∃ nd, p.nd.toNat = nd := ⟨_, rfl⟩
 have hpn : p.nd = (nd : Int) := by have := hp.n1; omega
 rw [hnd] at kA hi
 rw [hpn] at k0
 have h16' : nd ≤ 16 := by omega
 obtain ⟨G, hG⟩ : ∃ G, a.g = G := ⟨_, rfl⟩
 obtain ⟨gm, hgm⟩ : ∃ gm, a.gm i = gm := ⟨_, rfl⟩
 obtain ⟨fz, hfz⟩ : ∃ fz, (c.mm i).fz = fz := ⟨_, rfl⟩
 obtain ⟨m, hm⟩ : ∃ m, (c.mm i).m = m := ⟨_, rfl⟩
 rw [hG] at kA k0 ⊢
 rw [hgm] at kN HMB HFZ
 rw [hfz] at HFZ ⊢
 rw [hm] at HMB ⊢
 clear h k12 hb hnd hpn h16 hG hgm hfz hm
 go_enter Tryz.func27, Tryz.ntmps27
 go_wp2_with fail
 go_quiet ((first
  | (go_at_call 56; with_reducible exact Calls.quiet_of_same (HMB.out _))
  | (go_at_call 57; with_reducible exact Calls.quiet_of_same (HFZ.out _))))
 go_wp2_with fail
 exact bodyPost_ret (v := .tuple #[.int .i64 (m : Nat), .bool fz, .nilIface]) (by simp [results, Tryz.results27, go_sem]) rfl ⟨rfl, below_drewN (Below.refl _ _) _⟩
end
section
variable {w : World} {base : Nat} {a : Ad2} {p : Pl} {P : Sv3} {fy M : Nat} {c : Cl}
set_option maxRecDepth 100000 in
set_option maxHeartbeats 4000000 in
theorem rrecv_out (h : DcAt w base a (fullN p) p P fy c M) (hp : PlOk p) (i k : Int) (hk : i < 0 ∨ p.nd ≤ i ∨ k < 0 ∨ (p.lk.length : Int) ≤ k) :
 Calls Tryz.prog 22 #[.pointer (some ⟨a.g, 0, none⟩), .int .i64 i, .int .i64 k] w fun e w' => e = .returned (.tuple #[.string ⟨#[]⟩, .int .i64 2]) ∧ Below w.heap.size w w' := by
 have hl8 := hp.lk
 have h16 := hp.n16
 have h1 := hp.n1
 have k13 := h.cluB.cell 13
 have k0 := h.cluB.cell 0
 simp [rclC] at k13 k0
 obtain ⟨ao, cp, e, -⟩ := (h.fam.at_ .lnkA : QAt w base 84 a.lk ((List.range (fullN p).ns).map fun i => ptrV (a.gs i))).shape
 rw [List.length_map, List.length_range] at e
 obtain ⟨nl, hnl⟩ : ∃ nl, p.lk.length = nl := ⟨_, rfl⟩
 have e2 : (fullN p).ns = nl := hnl
 rw [e2] at e
 rw [e] at k13
 rw [hnl] at hk hl8
 obtain ⟨nd, hnd⟩ : ∃ nd, p.nd.toNat = nd := ⟨_, rfl⟩
 have hpn : p.nd = (nd : Int) := by omega
 rw [hpn] at k0 hk h16 h1
 obtain ⟨v1, hv1⟩ : ∃ v, inB i 0 ((nd : Int) - 1) = v := ⟨_, rfl⟩
 obtain ⟨v2, hv2⟩ : ∃ v, inB k 0 ((nl : Int) - 1) = v := ⟨_, rfl⟩
 have HV1 := hide (fun W => in_q i 0 ((nd : Int) - 1) v1 hv1 W)
 have HV2 := hide (fun W => in_q k 0 ((nl : Int) - 1) v2 hv2 W)
 have hor : v1 = false ∨ (v1 = true ∧ v2 = false) := by
  cases v1
  ·exact .inl rfl
  ·refine .inr ⟨rfl, ?_⟩
   rw [← hv2]
   unfold inB at hv1 ⊢
   simp at hv1 ⊢
   omega
 clear h hnl e e2 hnd hpn hv1 hv2 hk
 go_enter Tryz.func22, Tryz.ntmps22
 rcases hor with rfl | ⟨rfl, rfl⟩
 ·go_wp2_with fail
  go_quiet ((go_at_call 43; first | (with_reducible exact Calls.quiet_of_same (HV1.out _)) | (with_reducible exact Calls.quiet_of_same (HV2.out _))))
  go_wp2_with fail
  go_ret2
  exact ⟨rfl, below_drewN (Below.refl _ _) _⟩
 ·go_wp2_with fail
  go_quiet ((go_at_call 43; first | (with_reducible exact Calls.quiet_of_same (HV1.out _)) | (with_reducible exact Calls.quiet_of_same (HV2.out _))))
  go_wp2_with fail
  go_ret2
  exact ⟨rfl, below_drewN (Below.refl _ _) _⟩
end
end
section
open Go Go.RowKit
theorem own_cell3 {w : World} {base n g i : Nat} {cp : Nat} {e : TypeId} {xs : List Value} (h : w.ownsRow base e 3 (.slice (some ⟨g, 0, none⟩) n cp) n xs) (hi : i < n * 3) : w.cell? ⟨g, i, none⟩ = xs[i]? := by
 rcases h.2 with ⟨h1, _⟩ | ⟨g2, cap, cur, hv, hb, hg, hnc, hm, hs, ht⟩
 ·cases h1
 ·cases hv
  rw [cell_of_row w g i cur e (0, 0) hg, ← ht, List.getElem?_take, if_pos hi]
  simp
/-- Losses, readings, one number behind the other. -/
def lsV : List Ls → List Value
 | [] => []
 | x :: l => .int .i64 x.s :: .int .i64 x.c :: .int .i64 x.t :: lsV l
def rgV : List Rg → List Value
 | [] => []
 | x :: l => .int .i64 x.n :: .int .i64 x.o :: .int .i64 x.i :: rgV l
theorem lsV_snoc (x : Ls) : ∀ l, lsV (l ++ [x]) = lsV l ++ [.int .i64 x.s, .int .i64 x.c, .int .i64 x.t]
 | [] => rfl
 | y :: l => by rw [List.cons_append, lsV, lsV_snoc x l]; rfl
theorem rgV_snoc (x : Rg) : ∀ l, rgV (l ++ [x]) = rgV l ++ [.int .i64 x.n, .int .i64 x.o, .int .i64 x.i]
 | [] => rfl
 | y :: l => by rw [List.cons_append, rgV, rgV_snoc x l]; rfl
theorem lsV_at : ∀ {l : List Ls} {j : Nat} {x : Ls}, l[j]? = some x → (lsV l)[j * 3]? = some (.int .i64 x.s) ∧ (lsV l)[j * 3 + 1]? = some (.int .i64 x.c) ∧ (lsV l)[j * 3 + 2]? = some (.int .i64 x.t)
 | [], j, x, h => by simp at h
 | y :: l, 0, x, h => by
  simp at h
  subst h
  exact ⟨rfl, rfl, rfl⟩
 | y :: l, j + 1, x, h => by
  have ih := lsV_at (l := l) (j := j) (x := x) (by simpa using h)
  rw [show (j + 1) * 3 = j * 3 + 3 by omega]
  exact ih
theorem rgV_at : ∀ {l : List Rg} {j : Nat} {x : Rg}, l[j]? = some x → (rgV l)[j * 3]? = some (.int .i64 x.n) ∧ (rgV l)[j * 3 + 1]? = some (.int .i64 x.o) ∧ (rgV l)[j * 3 + 2]? = some (.int .i64 x.i)
 | [], j, x, h => by simp at h
 | y :: l, 0, x, h => by
  simp at h
  subst h
  exact ⟨rfl, rfl, rfl⟩
 | y :: l, j + 1, x, h => by
  have ih := rgV_at (l := l) (j := j) (x := x) (by simpa using h)
  rw [show (j + 1) * 3 = j * 3 + 3 by omega]
  exact ih
/-- Such a row, as an argument. -/
theorem own_loss {w : World} {b n : Nat} {e : TypeId} {v : Value} {l : List Ls} (h : w.ownsRow b e 3 v n (lsV l)) (hn : l.length = n) : ∃ A cp, v = .slice A n cp ∧ LossAt w A l ∧ ∀ x, A = some x → b ≤ x.block ∧ x.block < w.heap.size := by
 rcases h.2 with ⟨rfl, h2⟩ | ⟨g, cap, cur, rfl, hg, hh, _⟩
 ·subst h2
  exact ⟨none, 0, rfl, fun j x hj => by rw [List.eq_nil_of_length_eq_zero hn] at hj; simp at hj, fun x e => by cases e⟩
 ·refine ⟨some ⟨g, 0, none⟩, cap, rfl, fun j x hj => ?_, fun x e => by cases e; exact ⟨hg, by
   rcases Nat.lt_or_ge g w.heap.size with h1 | h1
   ·exact h1
   ·rw [Array.getElem?_eq_none h1] at hh; cases hh⟩⟩
  have hjl : j < n := by have := (List.getElem?_eq_some_iff.1 hj).1; omega
  obtain ⟨a1, a2, a3⟩ := lsV_at hj
  exact ⟨g, 0, rfl, by rw [own_cell3 h (by omega), Nat.zero_add]; exact a1, by rw [own_cell3 h (by omega), Nat.zero_add]; exact a2, by rw [own_cell3 h (by omega), Nat.zero_add]; exact a3⟩
theorem own_read {w : World} {b n : Nat} {e : TypeId} {v : Value} {l : List Rg} (h : w.ownsRow b e 3 v n (rgV l)) (hn : l.length = n) : ∃ A cp, v = .slice A n cp ∧ RgAt w A l ∧ ∀ x, A = some x → b ≤ x.block ∧ x.block < w.heap.size := by
 rcases h.2 with ⟨rfl, h2⟩ | ⟨g, cap, cur, rfl, hg, hh, _⟩
 ·subst h2
  exact ⟨none, 0, rfl, fun j x hj => by rw [List.eq_nil_of_length_eq_zero hn] at hj; simp at hj, fun x e => by cases e⟩
 ·refine ⟨some ⟨g, 0, none⟩, cap, rfl, fun j x hj => ?_, fun x e => by cases e; exact ⟨hg, by
   rcases Nat.lt_or_ge g w.heap.size with h1 | h1
   ·exact h1
   ·rw [Array.getElem?_eq_none h1] at hh; cases hh⟩⟩
  have hjl : j < n := by have := (List.getElem?_eq_some_iff.1 hj).1; omega
  obtain ⟨a1, a2, a3⟩ := rgV_at hj
  exact ⟨g, 0, rfl, by rw [own_cell3 h (by omega), Nat.zero_add]; exact a1, by rw [own_cell3 h (by omega), Nat.zero_add]; exact a2, by rw [own_cell3 h (by omega), Nat.zero_add]; exact a3⟩
section
variable {w0 w w' w1 : World} {base ga gb : Nat} {p : Pl} {fy M N : Nat} {x y : Cl} {bs : List Nat} {A AL : Option Addr} {c cl : Nat} {q : Value}
theorem TwG.playL (h : TwG w0 w base ga gb p ⟨.slice A p.sl.length c, .slice AL p.lk.length cl, q⟩ fy x y M w1 bs) (hp : PlOk p) (hc : ClOk p N x) (hN : N ≤ 700000) (hr : x.rd ≤ 100) (hf : fy < 65536) (hS : SlotsAt w0 A p.sl.length p.sl) (hL : LinksAt w0 AL p.lk.length p.lk) (h0 : w0.heap.size ≤ base) (hE : ErrT w0) {v : Value} {r : Rn} (hv : RnV w0 v r) :
 Calls Tryz.prog 9 #[.pointer (some ⟨ga, 0, none⟩), v] w fun e w' => e = .returned (errV (playE p fy r x)) ∧ TwG w0 w' base ga gb p ⟨.slice A p.sl.length c, .slice AL p.lk.length cl, q⟩ fy (playF p fy r x) y M w1 bs := by
 obtain ⟨a, b, e1, e2, h1, h2, h3, h4, h5, h6⟩ := h
 obtain ⟨A1, c1, A2, c2, A3, c3, A4, c4, rfl, m1, m2, m3, m4, n1, n2, n3, n4⟩ := hv
 have hx := play_any w w0 A AL c cl rfl rfl h1 hp hc hN hr hf hS hL h4 h0 h5 hE A1 c1 r m1 n1 A2 c2 m2 n2 A3 c3 m3 n3 A4 c4 m4 n4
 rw [e1] at hx
 exact hx.mono fun e w' ⟨he, ht⟩ => ⟨he, .ofL e1 e2 h1 h2 h3 h4 h5 h6 ht⟩
theorem TwG.playR (h : TwG w0 w base ga gb p ⟨.slice A p.sl.length c, .slice AL p.lk.length cl, q⟩ fy x y M w1 bs) (hp : PlOk p) (hc : ClOk p N y) (hN : N ≤ 700000) (hmm : MmOk p y) (hM : M < 1000) (hr : y.rd ≤ 100) (hf : fy < 65536) (hli : (liars fy p.nd.toNat : Int) ≤ p.fa) (hS : SlotsAt w0 A p.sl.length p.sl) (hL : LinksAt w0 AL p.lk.length p.lk) (h0 : w0.heap.size ≤ base) (hF : FinT w0) {r : Rn}
 {A1 A2 A3 A4 : Option Addr} {c1 c2 c3 c4 : Nat} (m1 : LossAt w1 A1 r.ls) (hb1 : ∀ z, A1 = some z → z.block ∈ bs) (n1 : r.ls.length ≤ 9223372036854775807) (m2 : RgAt w1 A2 r.rg) (hb2 : ∀ z, A2 = some z → z.block ∈ bs) (n2 : r.rg.length ≤ 9223372036854775807) (m3 : IsL w0 A3 r.dr) (n3 : r.dr.length ≤ 9223372036854775807) (m4 : IsL w0 A4 r.md) (n4 : r.md.length ≤ 9223372036854775807) :
 Calls Tryz.prog 20 #[.pointer (some ⟨gb, 0, none⟩), .slice A1 r.ls.length c1, .slice A2 r.rg.length c2, .slice A3 r.dr.length c3, .slice A4 r.md.length c4] w fun e w' => e = .returned (.int .i64 (playE p fy r y)) ∧ TwG w0 w' base ga gb p ⟨.slice A p.sl.length c, .slice AL p.lk.length cl, q⟩ fy x (playF p fy r y) M w1 bs := by
 obtain ⟨l, hD, hl, hlb, hback⟩ := h.ofR
 have hB := h.bel
 have g1 : LossAt w A1 r.ls := loss_keep m1 (fun z hz => h.heap (hb1 z hz))
 have g2 : RgAt w A2 r.rg := fun j z hz => by
  obtain ⟨b, off, e, k0, k1, k2⟩ := m2 j z hz
  have hh := h.heap (hb2 _ e)
  exact ⟨b, off, e, (cell_heap hh _).trans k0, (cell_heap hh _).trans k1, (cell_heap hh _).trans k2⟩
 have hx := rplay_any w w0 hD hp hc (by omega) hmm hM (by omega) hf hli hS hL h0 (fin_below hF (hB.mono h0)) r A1 c1 g1 (fun z hz => hl _ (hb1 z hz)) n1 A2 c2 g2 n2 A3 c3 (m3.below h0 hB) n3 A4 c4 (m4.below h0 hB) (fun hp4 z hz => by
  obtain ⟨b, off, e, k⟩ := m4 0 hp4
  rw [hz] at e
  cases e
  exact hlb _ (Nat.lt_of_lt_of_le (World.block_lt_of_cell? _ _ k) h0)) n4
 exact hx.mono fun e w' ⟨he, ht⟩ => ⟨he, hback w' _ _ ht⟩
theorem TwG.putL {P : Sv3} (h : TwG w0 w base ga gb p P fy x y M w1 bs) (hp : PlOk p) (hc : ClOk p N x) (k : Nat) (l : Lk) (hl : p.lk[k]? = some l) (d : ByteArray) (hd : d.size ≤ maxLen) :
 Calls Tryz.prog 12 #[.pointer (some ⟨ga, 0, none⟩), .int .i64 k, .string d] w fun e w' => e = .returned (errV (putE d.size (x.sd k).q.length l.q)) ∧ TwG w0 w' base ga gb p P fy (clPut k l d x) y M w1 bs := by
 obtain ⟨a, b, e1, e2, h1, h2, h3, h4, h5, h6⟩ := h
 have hx := cput_any w h1 hp hc h5 k l hl d hd
 rw [e1] at hx
 exact hx.mono fun e w' ⟨he, ht⟩ => ⟨he, .ofL e1 e2 h1 h2 h3 h4 h5 h6 ht⟩
theorem TwG.recvL (h : TwG w0 w base ga gb p ⟨.slice A p.sl.length c, .slice AL p.lk.length cl, q⟩ fy x y M w1 bs) (hp : PlOk p) (hc : ClOk p N x) (hL : LinksAt w0 AL p.lk.length p.lk) (h0 : w0.heap.size ≤ base) (k i : Nat) (l : Lk) (hl : p.lk[k]? = some l) (hi : (i : Int) < p.nd) :
 Calls Tryz.prog 13 #[.pointer (some ⟨ga, 0, none⟩), .int .i64 i, .int .i64 k] w fun e w' =>
  (bitB l.t i = false ∧ e = .returned (.tuple #[.string ⟨#[]⟩, errV 2]) ∧ TwG w0 w' base ga gb p ⟨.slice A p.sl.length c, .slice AL p.lk.length cl, q⟩ fy x y M w1 bs) ∨
  (bitB l.t i = true ∧ (x.pr k i).q = [] ∧ e = .returned (.tuple #[.string ⟨#[]⟩, errV 8]) ∧ TwG w0 w' base ga gb p ⟨.slice A p.sl.length c, .slice AL p.lk.length cl, q⟩ fy x y M w1 bs) ∨
  (bitB l.t i = true ∧ ∃ d r, (x.pr k i).q = d :: r ∧ e = .returned (.tuple #[.string d, errV 0]) ∧ TwG w0 w' base ga gb p ⟨.slice A p.sl.length c, .slice AL p.lk.length cl, q⟩ fy (clRecv k i x) y M w1 bs) := by
 obtain ⟨a, b, e1, e2, h1, h2, h3, h4, h5, h6⟩ := h
 have hx := crecv_any w w0 AL cl rfl h1 hp hc hL h4 h0 h5 k i l hl hi
 rw [e1] at hx
 refine hx.mono fun e w' hh => ?_
 rcases hh with ⟨g1, g2, g3⟩ | ⟨g1, g2, g3, g4⟩ | ⟨g1, d, r, g2, g3, g4⟩
 ·exact .inl ⟨g1, g2, .ofL e1 e2 h1 h2 h3 h4 h5 h6 g3⟩
 ·exact .inr (.inl ⟨g1, g2, g3, .ofL e1 e2 h1 h2 h3 h4 h5 h6 g4⟩)
 ·exact .inr (.inr ⟨g1, d, r, g2, g3, .ofL e1 e2 h1 h2 h3 h4 h5 h6 g4⟩)
theorem TwG.recvR (h : TwG w0 w base ga gb p ⟨.slice A p.sl.length c, .slice AL p.lk.length cl, q⟩ fy x y M w1 bs) (hp : PlOk p) (hc : ClOk p N y) (hL : LinksAt w0 AL p.lk.length p.lk) (h0 : w0.heap.size ≤ base) (k i : Nat) (l : Lk) (hl : p.lk[k]? = some l) (hi : (i : Int) < p.nd) :
 Calls Tryz.prog 22 #[.pointer (some ⟨gb, 0, none⟩), .int .i64 i, .int .i64 k] w fun e w' =>
  (bitB l.t i = false ∧ e = .returned (.tuple #[.string ⟨#[]⟩, .int .i64 2]) ∧ TwG w0 w' base ga gb p ⟨.slice A p.sl.length c, .slice AL p.lk.length cl, q⟩ fy x y M w1 bs) ∨
  (bitB l.t i = true ∧ (y.pr k i).q = [] ∧ e = .returned (.tuple #[.string ⟨#[]⟩, .int .i64 8]) ∧ TwG w0 w' base ga gb p ⟨.slice A p.sl.length c, .slice AL p.lk.length cl, q⟩ fy x y M w1 bs) ∨
  (bitB l.t i = true ∧ ∃ d r, (y.pr k i).q = d :: r ∧ e = .returned (.tuple #[.string d, .int .i64 0]) ∧ TwG w0 w' base ga gb p ⟨.slice A p.sl.length c, .slice AL p.lk.length cl, q⟩ fy x (clRecv k i y) M w1 bs) := by
 obtain ⟨l', ⟨b, e2, h2, h4, h5, h6⟩, hl', hlb, hback⟩ := h.ofR
 have hx := rrecv_any w w0 AL cl rfl h2 hp hc hL h4 h0 h5 k i l hl hi
 rw [e2] at hx
 refine hx.mono fun e w' hh => ?_
 rcases hh with ⟨g1, g2, g3⟩ | ⟨g1, g2, g3, g4⟩ | ⟨g1, d, r, g2, g3, g4⟩
 ·exact .inl ⟨g1, g2, hback w' _ _ (.ofTo e2 h2 h4 h5 h6 g3)⟩
 ·exact .inr (.inl ⟨g1, g2, g3, hback w' _ _ (.ofTo e2 h2 h4 h5 h6 g4)⟩)
 ·exact .inr (.inr ⟨g1, d, r, g2, g3, hback w' _ _ (.ofTo e2 h2 h4 h5 h6 g4)⟩)
end
end
section
open Go Go.RowKit
attribute [local irreducible] playF clPut clRecv liesB honL
theorem ex_top : ∀ {l : List Int} {n : Nat}, 0 < n → n ≤ l.length → ∃ m, (∃ j, j < n ∧ l.getD j 0 = m) ∧ ∀ j, j < n → l.getD j 0 ≤ m
 | l, 0, h, _ => absurd h (by omega)
 | l, 1, _, _ => ⟨l.getD 0 0, ⟨0, by omega, rfl⟩, fun j hj => by
  obtain rfl : j = 0 := by omega
  exact Int.le_refl _⟩
 | l, n + 2, _, hl => by
  obtain ⟨m, ⟨j, hj, e⟩, h⟩ := ex_top (l := l) (n := n + 1) (by omega) (by omega)
  by_cases hm : l.getD (n + 1) 0 ≤ m
  ·exact ⟨m, ⟨j, by omega, e⟩, fun i hi => by
    by_cases ei : i = n + 1
    ·subst ei; exact hm
    ·exact h i (by omega)⟩
  ·exact ⟨l.getD (n + 1) 0, ⟨n + 1, by omega, rfl⟩, fun i hi => by
    by_cases ei : i = n + 1
    ·subst ei; exact Int.le_refl _
    ·have := h i (by omega); omega⟩
theorem ex_low : ∀ {l : List Int} {n : Nat}, 0 < n → n ≤ l.length → ∃ m, (∃ j, j < n ∧ l.getD j 0 = m) ∧ ∀ j, j < n → m ≤ l.getD j 0
 | l, 0, h, _ => absurd h (by omega)
 | l, 1, _, _ => ⟨l.getD 0 0, ⟨0, by omega, rfl⟩, fun j hj => by
  obtain rfl : j = 0 := by omega
  exact Int.le_refl _⟩
 | l, n + 2, _, hl => by
  obtain ⟨m, ⟨j, hj, e⟩, h⟩ := ex_low (l := l) (n := n + 1) (by omega) (by omega)
  by_cases hm : m ≤ l.getD (n + 1) 0
  ·exact ⟨m, ⟨j, by omega, e⟩, fun i hi => by
    by_cases ei : i = n + 1
    ·subst ei; exact hm
    ·exact h i (by omega)⟩
  ·exact ⟨l.getD (n + 1) 0, ⟨n + 1, by omega, rfl⟩, fun i hi => by
    by_cases ei : i = n + 1
    ·subst ei; exact Int.le_refl _
    ·have := h i (by omega); omega⟩
theorem top_uniq {l : List Int} {x y : Int} (hx : IsTop l x) (hy : IsTop l y) : x = y := by
 obtain ⟨⟨i, hi, rfl⟩, h1⟩ := hx
 obtain ⟨⟨j, hj, rfl⟩, h2⟩ := hy
 have := h1 j hj
 have := h2 i hi
 omega
theorem low_uniq {l : List Int} {x y : Int} (hx : IsLow l x) (hy : IsLow l y) : x = y := by
 obtain ⟨⟨i, hi, rfl⟩, h1⟩ := hx
 obtain ⟨⟨j, hj, rfl⟩, h2⟩ := hy
 have := h1 j hj
 have := h2 i hi
 omega
section
variable {w0 w w' w1 : World} {base ga gb : Nat} {p : Pl} {P : Sv3} {fy M N : Nat} {c : Cl} {bs : List Nat}
/-- How far clocks are apart: both say the same. -/
theorem TwG.spr (h : TwG w0 w base ga gb p P fy c c M w1 bs) (hp : PlOk p) (hc : ClOk p N c) (hf : fy < 65536) (hli : (liars fy p.nd.toNat : Int) ≤ p.fa) : ∃ sp : Int, ∀ W, Below w.heap.size w W →
 Calls Tryz.prog 11 #[.pointer (some ⟨ga, 0, none⟩)] W (fun e w' => e = .returned (.int .i64 sp) ∧ Below W.heap.size W w') ∧ Calls Tryz.prog 24 #[.pointer (some ⟨gb, 0, none⟩)] W (fun e w' => e = .returned (.int .i64 sp) ∧ Below W.heap.size W w') := by
 obtain ⟨a, b, e1, e2, h1, h2, h3, h4, h5, h6⟩ := h
 have h16 := hp.n16
 have hn1 := hp.n1
 obtain ⟨q0, hq1, hq2⟩ := some_right (fy := fy) hp hli
 have hne := honL_some c.ck hq1 hq2
 obtain ⟨x, hx⟩ := ex_top hne (Nat.le_refl _)
 obtain ⟨y, hy⟩ := ex_low hne (Nat.le_refl _)
 refine ⟨x - y, fun W hB => ⟨?_, ?_⟩⟩
 ·have g := spr_any (h1.below hB) hp hc.len hc.ck hf hli
  rw [e1] at g
  refine g.mono ?_
  rintro e w' ⟨⟨x', y', rfl, ht, hl⟩, hb⟩
  rw [top_uniq ht hx, low_uniq hl hy]
  exact ⟨rfl, hb⟩
 ·obtain ⟨bk, ok, cp, hck, hI⟩ := h2.ckI hc.len (by omega)
  have hcl := (h2.below hB).cluB
  rw [e2, hck] at hcl
  have g := rspr_any (zs := c.ck) (by rw [hc.len]; exact hcl) hf (hI.below (Nat.le_refl _) hB) (by rw [hc.len]; omega) (fun j _ => by have := hc.ck j; omega)
  refine g.mono ?_
  rintro e w' ⟨⟨R, rfl, hR⟩, hb⟩
  rw [hc.len] at hR
  rw [hR.is_ hx hy]
  exact ⟨rfl, hb⟩
/-- What else the law reads. -/
theorem TwG.reads (h : TwG w0 w base ga gb p P fy c c M w1 bs) (hp : PlOk p) (hc : ClOk p N c) (hmm : MmOk p c) : ∃ (A : Option Addr) (cp : Nat) (An : Option Addr) (cn nb on : Nat), An = some ⟨nb, on, none⟩ ∧ ∀ W, Below w.heap.size w W →
 Calls Tryz.prog 23 #[.pointer (some ⟨ga, 0, none⟩)] W (fun e w' => e = .returned (.int .i64 c.rd) ∧ w' = W) ∧
 W.cell? ⟨gb, 16, none⟩ = some (.int .i64 c.rd) ∧ W.cell? ⟨gb, 11, none⟩ = some (.slice A p.nd.toNat cp) ∧ IsL W A c.ck ∧ W.cell? ⟨gb, 12, none⟩ = some (.slice An p.nd.toNat cn) ∧
 Calls Tryz.prog 26 #[.pointer (some ⟨ga, 0, none⟩)] W (fun e w' => (∃ A cp, e = .returned (.slice A p.nd.toNat cp) ∧ IsL w' A c.ck) ∧ Below W.heap.size W w') ∧
 (∀ i : Nat, i < p.nd.toNat → Calls Tryz.prog 27 #[.pointer (some ⟨ga, 0, none⟩), .int .i64 i] W (fun e w' => e = .returned (.tuple #[.int .i64 ((c.mm i).m : Nat), .bool (c.mm i).fz, .nilIface]) ∧ Below W.heap.size W w')) ∧
 Calls Tryz.prog 27 #[.pointer (some ⟨ga, 0, none⟩), .int .i64 p.nd.toNat] W (fun e w' => e = .returned (.tuple #[.int .i64 0, .bool false, errV 2]) ∧ w' = W) ∧
 (∀ i : Nat, i < p.nd.toNat → ∃ gm, W.cell? ⟨nb, on + i, none⟩ = some (ptrV gm) ∧ W.cell? ⟨gm, 5, none⟩ = some (.bool (c.mm i).fz) ∧ Calls Tryz.prog 28 #[ptrV gm] W (fun e w' => e = .returned (.int .i64 ((c.mm i).m : Nat)) ∧ w' = W)) := by
 obtain ⟨a, b, e1, e2, h1, h2, h3, h4, h5, h6⟩ := h
 have h16 := hp.n16
 have hn1 := hp.n1
 obtain ⟨bk, ok, cp, hck, hI⟩ := h2.ckI hc.len (by omega)
 obtain ⟨bn, on, cn, hnd, -⟩ := h2.nodC (i := 0) (show 0 < (fullN p).nm by show 0 < p.nd.toNat; omega)
 refine ⟨some ⟨bk, ok, none⟩, cp, some ⟨bn, on, none⟩, cn, bn, on, rfl, fun W hB => ⟨?_, ?_, ?_, hI.below (Nat.le_refl _) hB, ?_, ?_, fun i hi => ?_, ?_, fun i hi => ?_⟩⟩
 ·have := rounds_any (h1.below hB); rw [e1] at this; exact this
 ·have := (h2.below hB).cluB; rw [e2] at this; have := this.cell 16; simpa [rclC] using this
 ·have := (h2.below hB).cluB; rw [e2, hck] at this; have := this.cell 11; simpa [rclC] using this
 ·have := (h2.below hB).cluB; rw [e2, hnd] at this; have := this.cell 12; simpa [rclC, fullN] using this
 ·have := clocks_any (h1.below hB) hp hc.len; rw [e1] at this; exact this
 ·have := members_of (h1.below hB) hp i hi; rw [e1] at this; exact this
 ·have := members_out (h1.below hB) (p.nd.toNat : Int) (by omega) (by omega); rw [e1] at this; exact this
 ·obtain ⟨bn', on', cn', hnd', kn⟩ := (h2.below hB).nodC (i := i) (show i < (fullN p).nm from hi)
  rw [hnd] at hnd'
  cases hnd'
  obtain ⟨m1, m2, m3⟩ := (h2.below hB).nodB (i := i) (show i < (fullN p).nm from hi)
  refine ⟨b.gm i, kn, ?_, rbits_any _ _ _ _ _ _ _ _ W m1 m2 (by omega) (hmm i)⟩
  have := m1.cell 5
  simpa [refC] using this
end
set_option maxRecDepth 100000 in
set_option maxHeartbeats 1000000 in
theorem small_B (nd fa sk ji dr R : Int) (A : Option Addr) (len c : Nat) (AL : Option Addr) (ll cl : Nat) (fr : Int) (AQ : Option Addr) (lq cq : Nat) (w : World) :
 Calls Tryz.prog 15 #[.agg (planC nd fa sk ji dr R (.slice A len c) (.slice AL ll cl) fr (.slice AQ lq cq))] w fun e w' => (∃ b, e = .returned (.bool b)) ∧ Below w.heap.size w w' := by
 have hB := hide ((Below.refl w.heap.size w).alloc (Nat.le_refl _) (.cells (planC nd fa sk ji dr R (.slice A len c) (.slice AL ll cl) fr (.slice AQ lq cq)) 26))
 go_enter Tryz.func15, Tryz.ntmps15
 go_wp2_with fail
 go_ret
 exact ⟨⟨_, rfl⟩, hB.out⟩
/-- A step of the law. -/
structure St where
 wh : Int
 nd : Int
 lk : Int
 d : ByteArray
 r : Rn
/-- Steps lie in memory. -/
def StsAt (w : World) (A : Option Addr) (l : List St) : Prop := ∀ (j : Nat) (x : St), l[j]? = some x → ∃ b off, A = some ⟨b, off, none⟩ ∧ ∃ A1 c1 A2 c2 A3 c3 A4 c4, w.cell? ⟨b, off + j * 8, none⟩ = some (.int .i64 x.wh) ∧ w.cell? ⟨b, off + j * 8 + 1, none⟩ = some (.int .i64 x.nd) ∧ w.cell? ⟨b, off + j * 8 + 2, none⟩ = some (.int .i64 x.lk) ∧ w.cell? ⟨b, off + j * 8 + 3, none⟩ = some (.string x.d) ∧
 w.cell? ⟨b, off + j * 8 + 4, none⟩ = some (.slice A1 x.r.ls.length c1) ∧ w.cell? ⟨b, off + j * 8 + 5, none⟩ = some (.slice A2 x.r.rg.length c2) ∧ w.cell? ⟨b, off + j * 8 + 6, none⟩ = some (.slice A3 x.r.dr.length c3) ∧ w.cell? ⟨b, off + j * 8 + 7, none⟩ = some (.slice A4 x.r.md.length c4) ∧
 LossAt w A1 x.r.ls ∧ RgAt w A2 x.r.rg ∧ IsL w A3 x.r.dr ∧ IsL w A4 x.r.md ∧ x.r.ls.length ≤ 140737488355328 ∧ x.r.rg.length ≤ 140737488355328 ∧ x.r.dr.length ≤ 140737488355328 ∧ x.r.md.length ≤ 140737488355328 ∧ x.d.size ≤ maxLen
end
end Go.Proofs.YtdogdlnaacimpaaGreatDoor
