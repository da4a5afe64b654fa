/- Contracts of a cluster beside Put, Receive and Play: Rounds, Spread, Clocks, Members, and what is beyond; bounds are kept. Conditions: as each says. -/
import Derived.Test.YtideefjnlakciaaGreatDoorP16
import Derived.Test.YtideefjnlakciaaGreatDoorP13
import Derived.Test.YtideefjnlakciaaGreatDoorP20
import Derived.Test.YtideefjnlakciaaGreatDoorP12
import Derived.Test.YtideefjnlakciaaGreatDoorP05
import Derived.Test.YtideefjnlakciaaGreatDoorP01
import Derived.Test.YtideefjnlakciaaGreatDoorP02
import Derived.Lib.Strings
import Derived.Lib.IndexLaws
import Derived.IntWalk
set_option linter.unusedVariables false
set_option linter.unusedSimpArgs false
namespace Go.Proofs.YtideefjnlakciaaGreatDoor
section
open Go Go.RowKit
section
variable {p : Pl} {N : Nat} {c : Cl}
theorem clPut_ok (hp : PlOk p) (h : ClOk p N c) {k : Nat} {l : Lk} (hl : p.lk[k]? = some l) (d : ByteArray) : ClOk p N (clPut k l d c) := by
 have h1 := h.sd k
 have h2 := hp.link k l hl
 refine h.setSd k ⟨h1.1, h1.2.1, h1.2.2.1, h1.2.2.2.1, ?_, fun x hx => ?_⟩
 ·show (putQ _ _ _).length ≤ 16
  unfold putQ putE
  repeat' split
  all_goals first
   | (exact absurd ‹_› (by decide))
   | exact h1.2.2.2.2.1
   | (rw [List.length_append, List.length_singleton]; omega)
 ·have hx' : x ∈ putQ (c.sd k).q d (putE d.size (c.sd k).q.length l.q) := hx
  unfold putQ putE at hx'
  repeat' split at hx'
  all_goals first
   | (exact absurd ‹_› (by decide))
   | exact h1.2.2.2.2.2 x hx'
   | (rcases List.mem_append.1 hx' with h3 | h3
      ·exact h1.2.2.2.2.2 x h3
      ·simp at h3; subst h3; omega)
theorem clRecv_ok (h : ClOk p N c) (k i : Nat) : ClOk p (N + 1) (clRecv k i c) := by
 have h1 := h.pr k i
 refine h.setPr k i ⟨h1.1, by show (c.pr k i).lost ≤ _; omega, ?_⟩
 show (c.pr k i).q.tail.length ≤ 16
 rw [List.length_tail]; omega
end
theorem playF_ok {p : Pl} {N : Nat} {c : Cl} (hp : PlOk p) (h : ClOk p N c) (fy : Nat) (r : Rn) : ClOk p (N + 2592) (playF p fy r c) := by
 have h32 := hp.sl
 unfold playF
 split
 ·exact h.mono (by omega)
 ·rename_i hw
  have h1 := (slotsF_ok h hp fy r p.sl.length).mono (show N + 81 * p.sl.length ≤ N + 2592 by omega)
  have hw2 : wildB (setsF p fy c.ck r) = false := by cases e : wildB (setsF p fy c.ck r); rfl; exact absurd e hw
  have hlen : (setsF p fy c.ck r).length = p.nd.toNat := by unfold setsF; rw [driftF_len, setL_len, h.len]
  refine ⟨hlen, fun j => ?_, by show 0 ≤ c.rd + 1; have := h.rd; omega, h1.mm, h1.sd, h1.tk, h1.pr⟩
  by_cases hj : j < (setsF p fy c.ck r).length
  ·unfold wildB at hw2
   rw [List.any_eq_false] at hw2
   have := hw2 _ (getD_memC hj)
   simp only [Bool.or_eq_true, decide_eq_true_eq] at this
   show _ ≤ (setsF p fy c.ck r).getD j 0 ∧ (setsF p fy c.ck r).getD j 0 ≤ _
   omega
  ·show _ ≤ (setsF p fy c.ck r).getD j 0 ∧ (setsF p fy c.ck r).getD j 0 ≤ _
   rw [List.getD_eq_getElem?_getD, List.getElem?_eq_none (by omega)]
   simp
section
attribute [local irreducible] playF startF clPut clRecv honL
set_option maxRecDepth 100000 in
theorem rounds_any {w : World} {base : Nat} {a : Ad} {n : Cn} {p : Pl} {P : Sv3} {fy : Nat} {c : Cl} (h : ClAt w base a n p P fy c) :
 Calls Tryz.prog 105 #[.pointer (some ⟨a.g, 0, none⟩)] w fun e w' => e = .returned (.int .i64 c.rd) ∧ w' = w := by
 have k16 := (h.cluC rfl).2.2.2.2.2.2.2.2
 clear h
 go_enter Tryz.func105, Tryz.ntmps105
 go_wp2_with fail
 go_ret
 exact ⟨rfl, rfl⟩
/-- How far clocks are apart, of a cluster. -/
theorem spr_any {w : World} {base : Nat} {a : Ad} {n : Cn} {p : Pl} {P : Sv3} {fy : Nat} {c : Cl} (h : ClAt w base a n p P fy c) (hp : PlOk p) (hlen : c.ck.length = p.nd.toNat) (hck : ∀ j, -274877906944 ≤ c.ck.getD j 0 ∧ c.ck.getD j 0 ≤ 274877906944) (hf : fy < 65536) (hli : (liars fy p.nd.toNat : Int) ≤ p.fa) :
 Calls Tryz.prog 106 #[.pointer (some ⟨a.g, 0, none⟩)] w fun e w' => (∃ x y, e = .returned (.int .i64 (x - y)) ∧ IsTop (honL fy c.ck p.nd.toNat) x ∧ IsLow (honL fy c.ck p.nd.toNat) y) ∧ Below w.heap.size w w' := by
 have h16 := hp.n16
 have h1 := hp.n1
 obtain ⟨b, off, cp, e⟩ := h.ckV hlen (by omega)
 have hI := h.ckI hlen e
 obtain ⟨q, hq1, hq2⟩ := some_right hp hli
 have hb := h.cluB
 rw [e, ← hlen] at hb
 have := spreadC_any a.g p.nd p.fa p.sk p.ji p.dr p.rd P.s P.l p.fr P.q a.mm a.sd a.tk a.pr c.rd fy (some ⟨b, off, none⟩) cp c.ck w hb hf hI (by omega) (by rw [hlen]; exact honL_some c.ck hq1 hq2) (fun j _ => by have := hck j; omega)
 rw [hlen] at this
 exact this
end
section
attribute [local irreducible] liesB
section
variable {P0 : Program}
theorem wpList_append_all (w : World) {ops : Array Oper} {rest : List Oper} {o : Oper} {a : Act} {Q : Exit → Act → World → Prop} (hgd : o.guard = none) (s x : Operand) (t : TypeId)
 (ho : o.op = .call { callee := .builtin .append, args := #[s, x], argTypes := #[t, t] })
 (base : Nat) (e : TypeId) (i : TypeInfo) (z : Value) (bytes : Nat) (ht : P0.underlying t = some (.slice e)) (hi : P0.info? e = some i) (hz : i.zero = some z) (hsize : i.size = 1) (hby : i.bytes = bytes) (hzs : z.cells.size = 1)
 (v : Value) (n : Nat) (xs : List Value) (hs : a.eval s = v) (hown : w.ownsRow base e 1 v n xs) (b2 : Nat) (vx : Value) (l : List Value) (hx : a.eval x = vx) (hQ : QAt w b2 e vx l) (h1 : ∀ u ∈ l, u.oneCell' = true)
 (h63 : n + l.length ≤ maxLen) (hbytes : (n + l.length) * bytes ≤ 140737488355328) (hbase : base ≤ w.heap.size)
 (h : ∀ v' w', w'.ownsRow base e 1 v' (n + l.length) (xs ++ l) → w.grownBy w' v.ownBlock → (v'.ownBlock = v.ownBlock ∨ ∀ k, v'.ownBlock = some k → w.heap.size ≤ k) → wpList P0 ops Q rest (a.put o.dst v') w') : wpList P0 ops Q (o :: rest) a w :=
 wpList_plain hgd fun _ hK => wp_append_all w s x t ho base e i z bytes ht hi hz hsize hby hzs v n xs hs hown b2 vx l hx hQ h1 h63 hbytes hbase fun v' w' h2 h3 h4 => hK _ _ (h v' w' h2 h3 h4)
end
section
variable {w : World} {base : Nat} {a : Ad} {p : Pl} {P : Sv3} {fy : Nat} {c : Cl}
set_option maxRecDepth 100000 in
set_option maxHeartbeats 4000000 in
theorem cput_out (h : ClAt w base a (fullN p) p P fy c) (hp : PlOk p) (k : Int) (hk : k < 0 ∨ (p.lk.length : Int) ≤ k) (d : ByteArray) :
 Calls Tryz.prog 101 #[.pointer (some ⟨a.g, 0, none⟩), .int .i64 k, .string d] w fun e w' => e = .returned (errV 2) ∧ w' = w := by
 have hl8 := hp.lk
 have k13 := h.cluB.cell 13
 simp at k13
 obtain ⟨ao, cp, e, -⟩ := (h.at_ .sndA : QAt w base 217 a.sd ((List.range (fullN p).ns).map fun i => ptrV (a.gs i))).shape
 rw [List.length_map, List.length_range] at e
 obtain ⟨nl, hnl⟩ : ∃ nl, p.lk.length = nl := ⟨_, rfl⟩
 have e2 : (fullN p).ns = nl := hnl
 rw [e2] at e
 rw [e] at k13
 rw [hnl] at hk hl8
 clear h hnl e e2
 go_enter Tryz.func101, Tryz.ntmps101
 by_cases h0 : k < 0
 ·have d1 : decide (k < 0) = true := decide_eq_true h0
  go_wp2_with fail
  go_ret
  exact ⟨rfl, rfl⟩
 ·have d1 : decide (k < 0) = false := decide_eq_false h0
  have d2 : decide ((nl : Int) ≤ k) = true := decide_eq_true (by omega)
  go_wp2_with fail
  go_ret
  exact ⟨rfl, rfl⟩
set_option maxRecDepth 100000 in
set_option maxHeartbeats 4000000 in
theorem crecv_out (h : ClAt w base a (fullN p) p P fy c) (hp : PlOk p) (i k : Int) (hk : i < 0 ∨ p.nd ≤ i ∨ k < 0 ∨ (p.lk.length : Int) ≤ k) :
 Calls Tryz.prog 103 #[.pointer (some ⟨a.g, 0, none⟩), .int .i64 i, .int .i64 k] w fun e w' => e = .returned (.tuple #[.string ⟨#[]⟩, errV 2]) ∧ w' = w := by
 have hl8 := hp.lk
 have k15 := h.cluB.cell 15
 have k0 := h.cluB.cell 0
 simp at k15 k0
 obtain ⟨ao, cp, e, -⟩ := (h.at_ .prtA : QAt w base 220 a.pr ((List.range (fullN p).na).map a.rp)).shape
 rw [List.length_map, List.length_range] at e
 obtain ⟨nl, hnl⟩ : ∃ nl, p.lk.length = nl := ⟨_, rfl⟩
 have e2 : (fullN p).na = nl := hnl
 rw [e2] at e
 rw [e] at k15
 rw [hnl] at hk hl8
 clear h hnl e e2
 go_enter Tryz.func103, Tryz.ntmps103
 by_cases h0 : i < 0
 ·have d1 : decide (i < 0) = true := decide_eq_true h0
  go_wp2_with fail
  go_ret2
  exact ⟨rfl, rfl⟩
 ·have d1 : decide (i < 0) = false := decide_eq_false h0
  by_cases h1 : p.nd ≤ i
  ·have d2 : decide (p.nd ≤ i) = true := decide_eq_true h1
   go_wp2_with fail
   go_ret2
   exact ⟨rfl, rfl⟩
  ·have d2 : decide (p.nd ≤ i) = false := decide_eq_false h1
   by_cases h2 : k < 0
   ·have d3 : decide (k < 0) = true := decide_eq_true h2
    go_wp2_with fail
    go_ret2
    exact ⟨rfl, rfl⟩
   ·have d3 : decide (k < 0) = false := decide_eq_false h2
    have d4 : decide ((nl : Int) ≤ k) = true := decide_eq_true (by omega)
    go_wp2_with fail
    go_ret2
    exact ⟨rfl, rfl⟩
set_option maxRecDepth 100000 in
set_option maxHeartbeats 4000000 in
theorem clocks_any (h : ClAt w base a (fullN p) p P fy c) (hp : PlOk p) (hlen : c.ck.length = p.nd.toNat) :
 Calls Tryz.prog 96 #[.pointer (some ⟨a.g, 0, none⟩)] w fun e w' => (∃ A cp, e = .returned (.slice A p.nd.toNat cp) ∧ IsL w' A c.ck) ∧ Below w.heap.size w w' := by
 have h16 := hp.n16
 have h1 := hp.n1
 have hQ : QAt w base 3 a.ck (c.ck.map (Value.int .i64)) := h.at_ .nums
 have k11 := h.cluB.cell 11
 simp at k11
 obtain ⟨nd, hnd⟩ : ∃ nd, p.nd.toNat = nd := ⟨_, rfl⟩
 rw [hnd] at hlen ⊢
 have hnd1 : 0 < nd := by omega
 have hgl := h.cluB.lt
 obtain ⟨G, hG⟩ : ∃ G, a.g = G := ⟨_, rfl⟩
 obtain ⟨v, hv⟩ : ∃ v, a.ck = v := ⟨_, rfl⟩
 rw [hv] at k11 hQ
 rw [hG] at k11 hgl ⊢
 obtain ⟨zs, hzs⟩ : ∃ zs, c.ck = zs := ⟨_, rfl⟩
 rw [hzs] at hQ hlen ⊢
 obtain ⟨ao, cp, e, -⟩ := hQ.shape
 rw [List.length_map, hlen] at e
 subst e
 have HQ := hide (hQ.alloc (.cells #[] 3)); have HL := hide hlen
 have HE1 : Hid ((w.alloc (.cells #[] 3)).ownsRow w.heap.size 3 1 (.slice (some ⟨w.heap.size, 0, none⟩) 0 0) 0 []) := hide (own_empty (Blk.new w 3 #[]) (Nat.le_refl _))
 have HLM : Hid ((∀ u ∈ zs.map (Value.int .i64), u.oneCell' = true) ∧ 0 + (zs.map (Value.int .i64)).length ≤ maxLen ∧ (0 + (zs.map (Value.int .i64)).length) * 8 ≤ 140737488355328 ∧ w.heap.size ≤ (w.alloc (.cells #[] 3)).heap.size) := hide ⟨by intro u hu; obtain ⟨q, _, rfl⟩ := List.mem_map.1 hu; rfl, by simp [maxLen]; omega, by simp; omega, by simp⟩
 obtain ⟨i0, hi, hz0, hz1, hz2⟩ := en_info_parts ar_info
 clear h hQ hlen hnd hG hv hzs
 go_enter Tryz.func96, Tryz.ntmps96
 go_wp2_with (at_builtin; go_must (refine wpList_append_all _ rfl (.tmp 3) (.tmp 7) _ rfl w.heap.size 3 i0 _ 8 Tryz.underlying33 hi hz0 hz1 hz2 rfl (.slice (some ⟨w.heap.size, 0, none⟩) 0 0) 0 [] rfl (by exact HE1.out) base _ (zs.map (Value.int .i64)) rfl (by exact HQ.out) HLM.out.1 HLM.out.2.1 HLM.out.2.2.1 HLM.out.2.2.2 ?_); intro v8 w8 hown hg hat; rw [Nat.zero_add, List.nil_append, List.length_map, HL.out] at hown; have HO8 := hide hown; have HG8 := hide hg; clear hown hg hat)
 obtain ⟨gk, cpk, cur, rfl, -, -, -, -, -, -⟩ := block_of_own HO8.out hnd1
 go_ret
 refine ⟨⟨_, _, rfl, isl_of_own HO8.out HL.out⟩, ?_⟩
 exact ((Below.refl w.heap.size w).alloc (Nat.le_refl _) (.cells #[] 3)).grown HG8.out (by simp) (fun k e => by cases e; exact Nat.le_refl _)
/-- A node's members. -/
theorem members_out (h : ClAt w base a (fullN p) p P fy c) (i : Int) (hi : p.nd ≤ i) (h0 : 0 ≤ i) :
 Calls Tryz.prog 99 #[.pointer (some ⟨a.g, 0, none⟩), .int .i64 i] w fun e w' => e = .returned (.tuple #[.int .i64 0, .bool false, errV 2]) ∧ w' = w := by
 have k0 := h.cluB.cell 0
 simp at k0
 clear h
 have d1 : decide (i < 0) = false := decide_eq_false (by omega)
 have d2 : decide (p.nd ≤ i) = true := decide_eq_true hi
 go_enter Tryz.func99, Tryz.ntmps99
 go_wp2_with fail
 exact bodyPost_ret (v := .tuple #[.int .i64 0, .bool false, .iface 61 (.int .i64 2)]) (by simp [results, Tryz.results99, go_sem]) rfl ⟨rfl, rfl⟩
theorem members_neg (h : ClAt w base a (fullN p) p P fy c) (i : Int) (h0 : i < 0) :
 Calls Tryz.prog 99 #[.pointer (some ⟨a.g, 0, none⟩), .int .i64 i] w fun e w' => e = .returned (.tuple #[.int .i64 0, .bool false, errV 2]) ∧ w' = w := by
 clear h
 have d1 : decide (i < 0) = true := decide_eq_true h0
 go_enter Tryz.func99, Tryz.ntmps99
 go_wp2_with fail
 exact bodyPost_ret (v := .tuple #[.int .i64 0, .bool false, .iface 61 (.int .i64 2)]) (by simp [results, Tryz.results99, go_sem]) rfl ⟨rfl, rfl⟩
set_option maxRecDepth 100000 in
set_option maxHeartbeats 4000000 in
theorem members_of (h : ClAt w base a (fullN p) p P fy c) (hp : PlOk p) (i : Nat) (hi : i < p.nd.toNat) :
 Calls Tryz.prog 99 #[.pointer (some ⟨a.g, 0, none⟩), .int .i64 i] w fun e w' => e = .returned (.tuple #[.int .i64 ((c.mm i).m : Nat), .bool (c.mm i).fz, .nilIface]) ∧ Below w.heap.size w w' := by
 have h16 := hp.n16
 have k0 := h.cluB.cell 0
 have k12 := h.cluB.cell 12
 simp at k0 k12
 obtain ⟨bn, on, cpn, kA, kN⟩ := h.memC rfl (M := p.nd.toNat) rfl hi
 have hb : Blk w (a.gm i) 261 (nodeC i p.nd.toNat (c.mm i).m (c.mm i).gd (c.mm i).bd (c.mm i).fz) := by
  have := h.at_ (.mem i)
  simpa [shape, Ob.At, fullN, hi] using this
 have HMB := hide (fun q => members_in (a.gm i) i p.nd.toNat (c.mm i).m (c.mm i).gd (c.mm i).bd (c.mm i).fz (w.drewN q) (hb.drewN q))
 have HFZ := hide (fun q => frozen_in (a.gm i) i p.nd.toNat (c.mm i).m (c.mm i).gd (c.mm i).bd (c.mm i).fz (w.drewN q) (hb.drewN q))
 obtain ⟨nd, hnd⟩ : ∃ nd, p.nd.toNat = nd := ⟨_, rfl⟩
 have hpn : p.nd = (nd : Int) := by have := hp.n1; omega
 rw [hnd] at kA hi
 rw [hpn] at k0
 have h16' : nd ≤ 16 := by omega
 obtain ⟨G, hG⟩ : ∃ G, a.g = G := ⟨_, rfl⟩
 obtain ⟨gm, hgm⟩ : ∃ gm, a.gm i = gm := ⟨_, rfl⟩
 obtain ⟨fz, hfz⟩ : ∃ fz, (c.mm i).fz = fz := ⟨_, rfl⟩
 obtain ⟨m, hm⟩ : ∃ m, (c.mm i).m = m := ⟨_, rfl⟩
 rw [hG] at kA k0 ⊢
 rw [hgm] at kN HMB HFZ
 rw [hfz] at HFZ ⊢
 rw [hm] at HMB ⊢
 clear h k12 hb hnd hpn h16 hG hgm hfz hm
 go_enter Tryz.func99, Tryz.ntmps99
 go_wp2_with fail
 go_quiet ((first
  | (go_at_call 132; with_reducible exact Calls.quiet_of_same (HMB.out _))
  | (go_at_call 133; with_reducible exact Calls.quiet_of_same (HFZ.out _))))
 go_wp2_with fail
 exact bodyPost_ret (v := .tuple #[.int .i64 (m : Nat), .bool fz, .nilIface]) (by simp [results, Tryz.results99, go_sem]) rfl ⟨rfl, below_drewN (Below.refl _ _) _⟩
end
end
end
section
open Go Go.RowKit
theorem own_cell3 {w : World} {base n g i : Nat} {cp : Nat} {e : TypeId} {xs : List Value} (h : w.ownsRow base e 3 (.slice (some ⟨g, 0, none⟩) n cp) n xs) (hi : i < n * 3) : w.cell? ⟨g, i, none⟩ = xs[i]? := by
 rcases h.2 with ⟨h1, _⟩ | ⟨g2, cap, cur, hv, hb, hg, hnc, hm, hs, ht⟩
 ·cases h1
 ·cases hv
  rw [cell_of_row w g i cur e (0, 0) hg, ← ht, List.getElem?_take, if_pos hi]
  simp
/-- Losses, readings, one number behind the other. -/
def lsV : List Ls → List Value
 | [] => []
 | x :: l => .int .i64 x.s :: .int .i64 x.c :: .int .i64 x.t :: lsV l
def rgV : List Rg → List Value
 | [] => []
 | x :: l => .int .i64 x.n :: .int .i64 x.o :: .int .i64 x.i :: rgV l
theorem lsV_snoc (x : Ls) : ∀ l, lsV (l ++ [x]) = lsV l ++ [.int .i64 x.s, .int .i64 x.c, .int .i64 x.t]
 | [] => rfl
 | y :: l => by rw [List.cons_append, lsV, lsV_snoc x l]; rfl
theorem rgV_snoc (x : Rg) : ∀ l, rgV (l ++ [x]) = rgV l ++ [.int .i64 x.n, .int .i64 x.o, .int .i64 x.i]
 | [] => rfl
 | y :: l => by rw [List.cons_append, rgV, rgV_snoc x l]; rfl
theorem lsV_at : ∀ {l : List Ls} {j : Nat} {x : Ls}, l[j]? = some x → (lsV l)[j * 3]? = some (.int .i64 x.s) ∧ (lsV l)[j * 3 + 1]? = some (.int .i64 x.c) ∧ (lsV l)[j * 3 + 2]? = some (.int .i64 x.t)
 | [], j, x, h => by simp at h
 | y :: l, 0, x, h => by
  simp at h
  subst h
  exact ⟨rfl, rfl, rfl⟩
 | y :: l, j + 1, x, h => by
  have ih := lsV_at (l := l) (j := j) (x := x) (by simpa using h)
  rw [show (j + 1) * 3 = j * 3 + 3 by omega]
  exact ih
theorem rgV_at : ∀ {l : List Rg} {j : Nat} {x : Rg}, l[j]? = some x → (rgV l)[j * 3]? = some (.int .i64 x.n) ∧ (rgV l)[j * 3 + 1]? = some (.int .i64 x.o) ∧ (rgV l)[j * 3 + 2]? = some (.int .i64 x.i)
 | [], j, x, h => by simp at h
 | y :: l, 0, x, h => by
  simp at h
  subst h
  exact ⟨rfl, rfl, rfl⟩
 | y :: l, j + 1, x, h => by
  have ih := rgV_at (l := l) (j := j) (x := x) (by simpa using h)
  rw [show (j + 1) * 3 = j * 3 + 3 by omega]
  exact ih
/-- Such a row, as an argument. -/
theorem own_loss {w : World} {b n : Nat} {e : TypeId} {v : Value} {l : List Ls} (h : w.ownsRow b e 3 v n (lsV l)) (hn : l.length = n) : ∃ A cp, v = .slice A n cp ∧ LossAt w A l ∧ ∀ x, A = some x → b ≤ x.block ∧ x.block < w.heap.size := by
 rcases h.2 with ⟨rfl, h2⟩ | ⟨g, cap, cur, rfl, hg, hh, _⟩
 ·subst h2
  exact ⟨none, 0, rfl, fun j x hj => by rw [List.eq_nil_of_length_eq_zero hn] at hj; simp at hj, fun x e => by cases e⟩
 ·refine ⟨some ⟨g, 0, none⟩, cap, rfl, fun j x hj => ?_, fun x e => by cases e; exact ⟨hg, by
   rcases Nat.lt_or_ge g w.heap.size with h1 | h1
   ·exact h1
   ·rw [Array.getElem?_eq_none h1] at hh; cases hh⟩⟩
  have hjl : j < n := by have := (List.getElem?_eq_some_iff.1 hj).1; omega
  obtain ⟨a1, a2, a3⟩ := lsV_at hj
  exact ⟨g, 0, rfl, by rw [own_cell3 h (by omega), Nat.zero_add]; exact a1, by rw [own_cell3 h (by omega), Nat.zero_add]; exact a2, by rw [own_cell3 h (by omega), Nat.zero_add]; exact a3⟩
theorem own_read {w : World} {b n : Nat} {e : TypeId} {v : Value} {l : List Rg} (h : w.ownsRow b e 3 v n (rgV l)) (hn : l.length = n) : ∃ A cp, v = .slice A n cp ∧ RgAt w A l ∧ ∀ x, A = some x → b ≤ x.block ∧ x.block < w.heap.size := by
 rcases h.2 with ⟨rfl, h2⟩ | ⟨g, cap, cur, rfl, hg, hh, _⟩
 ·subst h2
  exact ⟨none, 0, rfl, fun j x hj => by rw [List.eq_nil_of_length_eq_zero hn] at hj; simp at hj, fun x e => by cases e⟩
 ·refine ⟨some ⟨g, 0, none⟩, cap, rfl, fun j x hj => ?_, fun x e => by cases e; exact ⟨hg, by
   rcases Nat.lt_or_ge g w.heap.size with h1 | h1
   ·exact h1
   ·rw [Array.getElem?_eq_none h1] at hh; cases hh⟩⟩
  have hjl : j < n := by have := (List.getElem?_eq_some_iff.1 hj).1; omega
  obtain ⟨a1, a2, a3⟩ := rgV_at hj
  exact ⟨g, 0, rfl, by rw [own_cell3 h (by omega), Nat.zero_add]; exact a1, by rw [own_cell3 h (by omega), Nat.zero_add]; exact a2, by rw [own_cell3 h (by omega), Nat.zero_add]; exact a3⟩
end
section
open Go Go.RowKit
/-- The lines of a text. -/
def nlF : List UInt8 → List (List UInt8)
 | [] => [[]]
 | x :: l => if x = 10 then [] :: nlF l else match nlF l with
  | [] => [[x]]
  | y :: r => (x :: y) :: r
theorem nlF_cons : ∀ l : List UInt8, ∃ y r, nlF l = y :: r
 | [] => ⟨_, _, rfl⟩
 | x :: l => by
  unfold nlF
  split
  ·exact ⟨_, _, rfl⟩
  ·obtain ⟨y, r, h⟩ := nlF_cons l
   rw [h]
   exact ⟨_, _, rfl⟩
theorem nlF_app (b : List UInt8) : ∀ a : List UInt8, nlF (a ++ 10 :: b) = nlF a ++ nlF b
 | [] => by simp [nlF]
 | x :: a => by
  have ih := nlF_app b a
  obtain ⟨y, r, h⟩ := nlF_cons a
  rw [List.cons_append]
  by_cases hx : x = 10
  ·subst hx
   rw [nlF, if_pos rfl, ih, nlF, if_pos rfl]
   rfl
  ·rw [nlF, if_neg hx, ih, nlF, if_neg hx, h]
   rfl
theorem nlF_no : ∀ {l : List UInt8}, (10 : UInt8) ∉ l → nlF l = [l]
 | [], _ => rfl
 | x :: l, h => by
  have h1 : ¬ x = 10 := fun e => h (by simp [e])
  rw [nlF, if_neg h1, nlF_no (fun e => h (by simp [e]))]
section
variable {D : Type} (f : D → ByteArray → ByteArray × D)
def runG (d : D) : List ByteArray → List UInt8
 | [] => []
 | s :: l => (f d s).1.data.toList ++ 10 :: runG (f d s).2 l
def endG (d : D) : List ByteArray → D
 | [] => d
 | s :: l => endG (f d s).2 l
theorem runG_app (ys : List ByteArray) : ∀ (xs : List ByteArray) (d : D), runG f d (xs ++ ys) = runG f d xs ++ runG f (endG f d xs) ys
 | [], d => rfl
 | x :: xs, d => by
  rw [List.cons_append, runG, runG_app ys xs, runG, endG]
  simp
end
theorem trim_nl (a : List UInt8) : Lib.trimSuffix (a ++ [10]) [10] = a := by
 unfold Lib.trimSuffix Lib.hasSuffix
 simp
theorem trim_two (a b : List UInt8) : ∃ c, nlF (Lib.trimSuffix (a ++ 10 :: b) [10]) = nlF a ++ c := by
 rcases List.eq_nil_or_concat b with rfl | ⟨b', x, rfl⟩
 ·exact ⟨[], by rw [trim_nl]; simp⟩
 ·by_cases hx : x = 10
  ·subst hx
   have : a ++ 10 :: (b' ++ [10]) = (a ++ 10 :: b') ++ [10] := by simp
   rw [show b'.concat 10 = b' ++ [10] by simp, this, trim_nl, nlF_app]
   exact ⟨_, rfl⟩
  ·have : Lib.trimSuffix (a ++ 10 :: (b' ++ [x])) [10] = a ++ 10 :: (b' ++ [x]) := by
    unfold Lib.trimSuffix
    rw [if_neg]
    intro h
    unfold Lib.hasSuffix at h
    have h2 : [10] <:+ (a ++ 10 :: b') ++ [x] := by simpa [List.isSuffixOf_iff_suffix] using h
    obtain ⟨t, ht⟩ := h2
    have := (List.append_inj' ht rfl).2
    simp at this
    exact hx this.symm
   rw [show b'.concat x = b' ++ [x] by simp, this, nlF_app]
   exact ⟨_, rfl⟩
theorem nl_index_no {l : List UInt8} (h : Lib.indexByte l 10 = -1) : nlF l = [l] := nlF_no (fun hm => by
 obtain ⟨k, hk, e⟩ := List.mem_iff_getElem.1 hm
 exact Lib.indexByte_none h k (by rw [List.getElem?_eq_getElem hk, e]))
theorem nl_index {l : List UInt8} {m : Nat} (h : Lib.indexByte l 10 = m) : m < l.length ∧ nlF l = l.take m :: nlF (l.drop (m + 1)) := by
 obtain ⟨h1, h2⟩ := Lib.indexByte_some h
 obtain ⟨hm, e⟩ := List.getElem?_eq_some_iff.1 h1
 refine ⟨hm, ?_⟩
 have h3 : l = l.take m ++ 10 :: l.drop (m + 1) := by
  conv => lhs; rw [← List.take_append_drop m l, List.drop_eq_getElem_cons hm, e]
 have h4 : (10 : UInt8) ∉ l.take m := fun hx => by
  obtain ⟨k, hk, e2⟩ := List.mem_iff_getElem.1 hx
  rw [List.length_take] at hk
  refine h2 k (by omega) ?_
  rw [List.getElem_take] at e2
  rw [List.getElem?_eq_getElem (by omega), e2]
 conv => lhs; rw [h3]
 rw [nlF_app, nlF_no h4]
 rfl
/-- What comes of a text's lines, put in order. -/
def linesF (s : List UInt8) : List ByteArray := (nlF (Lib.trimSuffix s [10])).map fun l => ⟨l.toArray⟩
theorem lines_pre {D : Type} (f : D → ByteArray → ByteArray × D) (d : D) (a b : List UInt8) : ∃ r, runG f d (linesF (a ++ 10 :: b)) = runG f d (linesF (a ++ [10])) ++ r := by
 obtain ⟨c, hc⟩ := trim_two a b
 unfold linesF
 rw [hc, trim_nl, List.map_append, runG_app]
 exact ⟨_, rfl⟩
end
end Go.Proofs.YtideefjnlakciaaGreatDoor
namespace Go.Proofs.YtideefjnlakciaaGreatDoor.Tkp
/-- what a clock shows -/
def localV (f s n d t : Int) : Int := s + (t - f) / d * n + (t - f) % d * n / d
/-- how long till a clock shows k more -/
def waitV (n d k : Int) : Int := k / n * d + (k % n * d + n - 1) / n
theorem waitV_eq (n d k : Int) (hn : 1 ≤ n) : waitV n d k = (k * d + n - 1) / n := by
 unfold waitV
 have h : k * d + n - 1 = (k % n * d + n - 1) + (k / n * d) * n := by
  have := Int.emod_add_mul_ediv k n
  have h2 : k * d = k % n * d + (k / n * d) * n := by
   calc k * d = (k % n + n * (k / n)) * d := by rw [this]
    _ = k % n * d + (k / n * d) * n := by rw [Int.add_mul, Int.mul_assoc, Int.mul_comm n]
  omega
 rw [h, Int.add_mul_ediv_right _ _ (by omega)]
 omega
theorem wait_nonneg (n d k : Int) (hn : 1 ≤ n) (hd : 1 ≤ d) (hk : 0 ≤ k) : 0 ≤ waitV n d k := by
 rw [waitV_eq _ _ _ hn]
 have : 0 ≤ k * d := Int.mul_nonneg hk (by omega)
 exact Int.ediv_nonneg (by omega) (by omega)
theorem wait_one (n d k : Int) (hn : 1 ≤ n) (hd : 1 ≤ d) (hk : 1 ≤ k) : 1 ≤ waitV n d k := by
 rw [waitV_eq _ _ _ hn]
 have : 1 * 1 ≤ k * d := Int.mul_le_mul (by omega) (by omega) (by omega) (by omega)
 rw [Int.le_ediv_iff_mul_le (by omega)]
 omega
/-- bounds of the parts -/
theorem part_le (x n d : Int) (hx : 0 ≤ x) (_hx' : x ≤ 4398046511104) (hn : 1 ≤ n) (hn' : n ≤ 1000000) (hd : 1 ≤ d) (hd' : d ≤ 1000000) (h2 : n ≤ 2 * d) :
 0 ≤ x / d ∧ x / d ≤ x ∧ 0 ≤ x / d * n ∧ x / d * n ≤ 2 * x ∧ 0 ≤ x % d ∧ x % d < d ∧ 0 ≤ x % d * n ∧ x % d * n ≤ 1000000000000 := by
 have a := Int.ediv_nonneg hx (by omega : 0 ≤ d)
 have b := Int.emod_nonneg x (by omega : d ≠ 0)
 have c := Int.emod_lt_of_pos x (by omega : 0 < d)
 have e := Int.emod_add_mul_ediv x d
 have m1 : x / d * n ≤ x / d * (2 * d) := Int.mul_le_mul_of_nonneg_left h2 a
 have m2 : x / d * (2 * d) = 2 * (d * (x / d)) := by rw [Int.mul_left_comm, Int.mul_comm (x / d) d]
 have m3 : x % d * n ≤ 1000000 * 1000000 := Int.mul_le_mul (by omega) hn' (by omega) (by omega)
 have m4 : 1 * (x / d) ≤ d * (x / d) := Int.mul_le_mul_of_nonneg_right hd a
 refine ⟨a, by omega, Int.mul_nonneg a (by omega), by omega, b, c, Int.mul_nonneg b (by omega), by omega⟩
end Go.Proofs.YtideefjnlakciaaGreatDoor.Tkp
namespace Go.Proofs.YtideefjnlakciaaGreatDoor
section
open Go.RowKit
def rightB (f s n d : Int) : Bool := decide (0 ≤ f ∧ f ≤ 1099511627776 ∧ -1099511627776 ≤ s ∧ s ≤ 1099511627776 ∧ 1 ≤ n ∧ n ≤ 1000000 ∧ 1 ≤ d ∧ d ≤ 1000000 ∧ n ≤ 2 * d ∧ d ≤ 2 * n)
abbrev clk (f s n d : Int) : Value := .agg #[.int .i64 f, .int .i64 s, .int .i64 n, .int .i64 d]
set_option maxRecDepth 100000 in
set_option maxHeartbeats 1000000 in
theorem right_any (f s n d : Int) (w : World) :
 Calls Tryz.prog 131 #[clk f s n d] w fun e w' => e = .returned (.bool (rightB f s n d)) ∧ w.alloc (.cells #[.int .i64 f, .int .i64 s, .int .i64 n, .int .i64 d] 166) = w' := by
 go_enter Tryz.func131, Tryz.ntmps131
 go_wp2
 all_goals (go_ret; exact ⟨ret_bool (by unfold rightB; symm; first | (apply decide_eq_false; omega) | (apply decide_eq_decide.2; omega)), rfl⟩)
theorem rightB_iff {f s n d : Int} (h : rightB f s n d = true) : 0 ≤ f ∧ f ≤ 1099511627776 ∧ -1099511627776 ≤ s ∧ s ≤ 1099511627776 ∧ 1 ≤ n ∧ n ≤ 1000000 ∧ 1 ≤ d ∧ d ≤ 1000000 ∧ n ≤ 2 * d ∧ d ≤ 2 * n := by simpa [rightB] using h
theorem local_wrap (f s n d t : Int) (hr : rightB f s n d = true) (h1 : f ≤ t) (h2 : t ≤ 1099511627776) :
 wrap64 (wrap64 (s + wrap64 ((t - f) / d * n)) + wrap64 ((wrap64 ((t - f) % d * n)).tdiv d)) = Tkp.localV f s n d t ∧ s ≤ Tkp.localV f s n d t ∧ Tkp.localV f s n d t ≤ 5000000000000 := by
 obtain ⟨r1, r2, r3, r4, r5, r6, r7, r8, r9, r10⟩ := rightB_iff hr
 obtain ⟨a, b, c, e, g, h, i, j⟩ := Tkp.part_le (t - f) n d (by omega) (by omega) r5 r6 r7 r8 r9
 have k0 : 0 ≤ (t - f) % d * n / d := Int.ediv_nonneg i (by omega)
 have k1 : (t - f) % d * n / d ≤ (t - f) % d * n := Int.ediv_le_self _ i
 rw [IntWalk.wrap64_in ((t - f) / d * n) ⟨by omega, by omega⟩, IntWalk.wrap64_in ((t - f) % d * n) ⟨by omega, by omega⟩, Int.tdiv_eq_ediv_of_nonneg i, IntWalk.wrap64_in ((t - f) % d * n / d) ⟨by omega, by omega⟩,
  IntWalk.wrap64_in (s + (t - f) / d * n) ⟨by omega, by omega⟩, IntWalk.wrap64_in (s + (t - f) / d * n + (t - f) % d * n / d) ⟨by omega, by omega⟩]
 exact ⟨rfl, by unfold Tkp.localV; omega, by unfold Tkp.localV; omega⟩
/-- Local's error: 0, 1 or 2. -/
def localE (f s n d t : Int) : Int := if rightB f s n d = false then 1 else if t < f ∨ 1099511627776 < t then 2 else if 1099511627776 < Tkp.localV f s n d t then 2 else 0
set_option maxRecDepth 100000 in
set_option maxHeartbeats 1000000 in
theorem local_ok (f s n d t : Int) (w : World) (h : localE f s n d t = 0) :
 Calls Tryz.prog 98 #[clk f s n d, .int .i64 t] w fun e w' => e = .returned (.tuple #[.int .i64 (Tkp.localV f s n d t), .nilIface]) ∧ Below w.heap.size w w' := by
 unfold localE at h
 by_cases hr : rightB f s n d = false
 ·simp [hr] at h
 rw [if_neg hr] at h
 by_cases h1 : t < f ∨ 1099511627776 < t
 ·simp [h1] at h
 rw [if_neg h1] at h
 by_cases h2 : 1099511627776 < Tkp.localV f s n d t
 ·simp [h2] at h
 clear h
 have hr : rightB f s n d = true := by simpa using hr
 obtain ⟨r1, r2, r3, r4, r5, r6, r7, r8, r9, r10⟩ := rightB_iff hr
 obtain ⟨le, l0, l1⟩ := local_wrap f s n d t hr (by omega) (by omega)
 have t1 : f ≤ t := by omega
 have t2 : t ≤ 1099511627776 := by omega
 clear h1
 have HR := hide hr; clear hr
 have LE := hide le; clear le
 go_enter Tryz.func98, Tryz.ntmps98
 go_wp2_with (go_at_call 131; refine (right_any _ _ _ _ _).mono ?_; rw [HR.out]; rintro e w' ⟨rfl, rfl⟩)
 go_quiet (fail)
 rw [LE.out]
 go_wp2
 go_ret2
 exact ⟨rfl, below_drewN (((Below.refl _ _).alloc (Nat.le_refl _) _).alloc (by simp) _) _⟩
set_option maxRecDepth 100000 in
set_option maxHeartbeats 1000000 in
theorem local_bad (f s n d t : Int) (w : World) (h : localE f s n d t ≠ 0) :
 Calls Tryz.prog 98 #[clk f s n d, .int .i64 t] w fun e w' => e = .returned (.tuple #[.int .i64 0, .iface 61 (.int .i64 (localE f s n d t))]) ∧ Below w.heap.size w w' := by
 by_cases hr : rightB f s n d = false
 ·have he : localE f s n d t = 1 := by simp [localE, hr]
  rw [he]
  have HR := hide hr; clear hr he h
  go_enter Tryz.func98, Tryz.ntmps98
  go_wp2_with (go_at_call 131; refine (right_any _ _ _ _ _).mono ?_; rw [HR.out]; rintro e w' ⟨rfl, rfl⟩)
  go_ret2
  exact ⟨rfl, ((Below.refl _ _).alloc (Nat.le_refl _) _).alloc (by simp) _⟩
 have hr : rightB f s n d = true := by simpa using hr
 obtain ⟨r1, r2, r3, r4, r5, r6, r7, r8, r9, r10⟩ := rightB_iff hr
 by_cases h1 : t < f ∨ 1099511627776 < t
 ·have he : localE f s n d t = 2 := by simp [localE, hr, h1]
  rw [he]
  have HR := hide hr; clear hr he h
  rcases h1 with h1 | h1
  ·go_enter Tryz.func98, Tryz.ntmps98
   go_wp2_with (go_at_call 131; refine (right_any _ _ _ _ _).mono ?_; rw [HR.out]; rintro e w' ⟨rfl, rfl⟩)
   go_ret2
   exact ⟨rfl, ((Below.refl _ _).alloc (Nat.le_refl _) _).alloc (by simp) _⟩
  ·have h0 : f ≤ t := by omega
   go_enter Tryz.func98, Tryz.ntmps98
   go_wp2_with (go_at_call 131; refine (right_any _ _ _ _ _).mono ?_; rw [HR.out]; rintro e w' ⟨rfl, rfl⟩)
   go_ret2
   exact ⟨rfl, ((Below.refl _ _).alloc (Nat.le_refl _) _).alloc (by simp) _⟩
 have t1 : f ≤ t := by omega
 have t2 : t ≤ 1099511627776 := by omega
 by_cases h2 : 1099511627776 < Tkp.localV f s n d t
 ·have he : localE f s n d t = 2 := by simp [localE, h2]; omega
  obtain ⟨le, l0, l1⟩ := local_wrap f s n d t hr (by omega) (by omega)
  rw [he]
  clear h1 he h
  have HR := hide hr; clear hr
  have LE := hide le; clear le
  go_enter Tryz.func98, Tryz.ntmps98
  go_wp2_with (go_at_call 131; refine (right_any _ _ _ _ _).mono ?_; rw [HR.out]; rintro e w' ⟨rfl, rfl⟩)
  go_quiet (fail)
  rw [LE.out]
  go_wp2
  go_ret2
  exact ⟨rfl, below_drewN (((Below.refl _ _).alloc (Nat.le_refl _) _).alloc (by simp) _) _⟩
 ·exact absurd (by simp [localE, hr]; omega) h
end
section
open Go.RowKit
theorem real_wrap (f s n d l : Int) (hr : rightB f s n d = true) (h1 : s < l) (h2 : l ≤ 1099511627776) :
 wrap64 (wrap64 ((l - s) / n * d) + wrap64 ((wrap64 (wrap64 (wrap64 ((l - s) % n * d) + n) - 1)).tdiv n)) = Tkp.waitV n d (l - s) ∧ 1 ≤ Tkp.waitV n d (l - s) ∧ Tkp.waitV n d (l - s) ≤ 6000000000000 := by
 obtain ⟨r1, r2, r3, r4, r5, r6, r7, r8, r9, r10⟩ := rightB_iff hr
 obtain ⟨a, b, c, e, g, h, i, j⟩ := Tkp.part_le (l - s) d n (by omega) (by omega) r7 r8 r5 r6 r10
 have k0 : 0 ≤ ((l - s) % n * d + n - 1) / n := Int.ediv_nonneg (by omega) (by omega)
 have k1 : ((l - s) % n * d + n - 1) / n ≤ (l - s) % n * d + n - 1 := Int.ediv_le_self _ (by omega)
 rw [IntWalk.wrap64_in ((l - s) / n * d) ⟨by omega, by omega⟩, IntWalk.wrap64_in ((l - s) % n * d) ⟨by omega, by omega⟩, IntWalk.wrap64_in ((l - s) % n * d + n) ⟨by omega, by omega⟩, IntWalk.wrap64_in ((l - s) % n * d + n - 1) ⟨by omega, by omega⟩,
  Int.tdiv_eq_ediv_of_nonneg (by omega), IntWalk.wrap64_in (((l - s) % n * d + n - 1) / n) ⟨by omega, by omega⟩,
  IntWalk.wrap64_in ((l - s) / n * d + ((l - s) % n * d + n - 1) / n) ⟨by omega, by omega⟩]
 exact ⟨rfl, Tkp.wait_one n d (l - s) r5 r7 (by omega), by unfold Tkp.waitV; omega⟩
/-- Real's error, and its answer. -/
def realE (f s n d l : Int) : Int := if rightB f s n d = false then 1 else if l < -1099511627776 ∨ 1099511627776 < l then 2 else if l ≤ s then 0 else if 1099511627776 < f + Tkp.waitV n d (l - s) then 2 else 0
def realV (f s n d l : Int) : Int := if l ≤ s then f else f + Tkp.waitV n d (l - s)
set_option maxRecDepth 100000 in
set_option maxHeartbeats 1000000 in
theorem real_ok (f s n d l : Int) (w : World) (h : realE f s n d l = 0) :
 Calls Tryz.prog 102 #[clk f s n d, .int .i64 l] w fun e w' => e = .returned (.tuple #[.int .i64 (realV f s n d l), .nilIface]) ∧ Below w.heap.size w w' := by
 unfold realE at h
 by_cases hr : rightB f s n d = false
 ·simp [hr] at h
 rw [if_neg hr] at h
 by_cases h1 : l < -1099511627776 ∨ 1099511627776 < l
 ·simp [h1] at h
 rw [if_neg h1] at h
 have hr : rightB f s n d = true := by simpa using hr
 obtain ⟨r1, r2, r3, r4, r5, r6, r7, r8, r9, r10⟩ := rightB_iff hr
 have t1 : -1099511627776 ≤ l := by omega
 have t2 : l ≤ 1099511627776 := by omega
 clear h1
 by_cases h2 : l ≤ s
 ·have hv : realV f s n d l = f := by simp [realV, h2]
  rw [hv]
  have HR := hide hr; clear hr h hv
  go_enter Tryz.func102, Tryz.ntmps102
  go_wp2_with (go_at_call 131; refine (right_any _ _ _ _ _).mono ?_; rw [HR.out]; rintro e w' ⟨rfl, rfl⟩)
  go_ret2
  exact ⟨rfl, (((Below.refl _ _).alloc (Nat.le_refl _) _).alloc (by simp) _)⟩
 rw [if_neg h2] at h
 have hv : realV f s n d l = f + Tkp.waitV n d (l - s) := by simp [realV, h2]
 rw [hv]
 by_cases h3 : 1099511627776 < f + Tkp.waitV n d (l - s)
 ·simp [h3] at h
 clear h
 obtain ⟨le, l0, l1⟩ := real_wrap f s n d l hr (by omega) (by omega)
 have HR := hide hr; clear hr hv
 have LE := hide le; clear le
 go_enter Tryz.func102, Tryz.ntmps102
 go_wp2_with (go_at_call 131; refine (right_any _ _ _ _ _).mono ?_; rw [HR.out]; rintro e w' ⟨rfl, rfl⟩)
 go_quiet (fail)
 rw [LE.out]
 go_wp2
 go_ret2
 exact ⟨rfl, below_drewN (((Below.refl _ _).alloc (Nat.le_refl _) _).alloc (by simp) _) _⟩
set_option maxRecDepth 100000 in
set_option maxHeartbeats 1000000 in
theorem real_bad (f s n d l : Int) (w : World) (h : realE f s n d l ≠ 0) :
 Calls Tryz.prog 102 #[clk f s n d, .int .i64 l] w fun e w' => e = .returned (.tuple #[.int .i64 0, .iface 61 (.int .i64 (realE f s n d l))]) ∧ Below w.heap.size w w' := by
 by_cases hr : rightB f s n d = false
 ·have he : realE f s n d l = 1 := by simp [realE, hr]
  rw [he]
  have HR := hide hr; clear hr he h
  go_enter Tryz.func102, Tryz.ntmps102
  go_wp2_with (go_at_call 131; refine (right_any _ _ _ _ _).mono ?_; rw [HR.out]; rintro e w' ⟨rfl, rfl⟩)
  go_ret2
  exact ⟨rfl, ((Below.refl _ _).alloc (Nat.le_refl _) _).alloc (by simp) _⟩
 have hr : rightB f s n d = true := by simpa using hr
 obtain ⟨r1, r2, r3, r4, r5, r6, r7, r8, r9, r10⟩ := rightB_iff hr
 by_cases h1 : l < -1099511627776 ∨ 1099511627776 < l
 ·have he : realE f s n d l = 2 := by simp [realE, hr, h1]
  rw [he]
  have HR := hide hr; clear hr he h
  rcases h1 with h1 | h1
  ·go_enter Tryz.func102, Tryz.ntmps102
   go_wp2_with (go_at_call 131; refine (right_any _ _ _ _ _).mono ?_; rw [HR.out]; rintro e w' ⟨rfl, rfl⟩)
   go_ret2
   exact ⟨rfl, ((Below.refl _ _).alloc (Nat.le_refl _) _).alloc (by simp) _⟩
  ·have h0 : -1099511627776 ≤ l := by omega
   go_enter Tryz.func102, Tryz.ntmps102
   go_wp2_with (go_at_call 131; refine (right_any _ _ _ _ _).mono ?_; rw [HR.out]; rintro e w' ⟨rfl, rfl⟩)
   go_ret2
   exact ⟨rfl, ((Below.refl _ _).alloc (Nat.le_refl _) _).alloc (by simp) _⟩
 have t1 : -1099511627776 ≤ l := by omega
 have t2 : l ≤ 1099511627776 := by omega
 by_cases h2 : l ≤ s
 ·exact absurd (by simp [realE, hr, h2]; omega) h
 by_cases h3 : 1099511627776 < f + Tkp.waitV n d (l - s)
 ·have he : realE f s n d l = 2 := by simp [realE, hr, h2, h3]
  obtain ⟨le, l0, l1⟩ := real_wrap f s n d l hr (by omega) (by omega)
  rw [he]
  clear h1 he h
  have HR := hide hr; clear hr
  have LE := hide le; clear le
  go_enter Tryz.func102, Tryz.ntmps102
  go_wp2_with (go_at_call 131; refine (right_any _ _ _ _ _).mono ?_; rw [HR.out]; rintro e w' ⟨rfl, rfl⟩)
  go_quiet (fail)
  rw [LE.out]
  go_wp2
  go_ret2
  exact ⟨rfl, below_drewN (((Below.refl _ _).alloc (Nat.le_refl _) _).alloc (by simp) _) _⟩
 ·exact absurd (by simp [realE, hr, h2, h3]; omega) h
end
section
open Go.RowKit
def localN (f s n d t : Int) : Int := if localE f s n d t = 0 then Tkp.localV f s n d t else 0
theorem local_any (f s n d t : Int) (w : World) :
 Calls Tryz.prog 98 #[clk f s n d, .int .i64 t] w fun e w' => e = .returned (.tuple #[.int .i64 (localN f s n d t), errV (localE f s n d t)]) ∧ Below w.heap.size w w' := by
 by_cases h : localE f s n d t = 0
 ·refine (local_ok f s n d t w h).mono fun e w' ⟨he, hb⟩ => ⟨?_, hb⟩
  rw [he, localN, errV, if_pos h, if_pos h]
 ·refine (local_bad f s n d t w h).mono fun e w' ⟨he, hb⟩ => ⟨?_, hb⟩
  rw [he, localN, errV, if_neg h, if_neg h]
def realN (f s n d t : Int) : Int := if realE f s n d t = 0 then realV f s n d t else 0
theorem real_any (f s n d t : Int) (w : World) :
 Calls Tryz.prog 102 #[clk f s n d, .int .i64 t] w fun e w' => e = .returned (.tuple #[.int .i64 (realN f s n d t), errV (realE f s n d t)]) ∧ Below w.heap.size w w' := by
 by_cases h : realE f s n d t = 0
 ·refine (real_ok f s n d t w h).mono fun e w' ⟨he, hb⟩ => ⟨?_, hb⟩
  rw [he, realN, errV, if_pos h, if_pos h]
 ·refine (real_bad f s n d t w h).mono fun e w' ⟨he, hb⟩ => ⟨?_, hb⟩
  rw [he, realN, errV, if_neg h, if_neg h]
theorem realN_bd (f s n d l : Int) : 0 ≤ realN f s n d l ∧ realN f s n d l ≤ 1099511627776 := by
 unfold realN
 by_cases h : realE f s n d l = 0
 ·rw [if_pos h]
  unfold realE at h
  by_cases hr : rightB f s n d = false
  ·simp [hr] at h
  rw [if_neg hr] at h
  have hr : rightB f s n d = true := by simpa using hr
  obtain ⟨r1, r2, r3, r4, r5, r6, r7, r8, r9, r10⟩ := rightB_iff hr
  by_cases h1 : l < -1099511627776 ∨ 1099511627776 < l
  ·simp [h1] at h
  rw [if_neg h1] at h
  unfold realV
  by_cases h2 : l ≤ s
  ·rw [if_pos h2]; omega
  ·rw [if_neg h2] at h ⊢
   have := Tkp.wait_nonneg n d (l - s) r5 r7 (by omega)
   by_cases h3 : 1099511627776 < f + Tkp.waitV n d (l - s)
   ·simp [h3] at h
   ·omega
 ·rw [if_neg h]; omega
end
section
open Go.RowKit
/-- What put leaves. -/
def PutPost (w : World) (base : Nat) (v : Value) (l : List Nat) (r : Ending) (w' : World) : Prop := ∃ v', r = .returned v' ∧ QAt w' base 5 v' (bvN l) ∧ OwnTo w w' v v'
section
variable (base : Nat) (v : Value) (l : List Nat) (A : Option Addr) (n c : Nat) (zs : List Nat)
set_option maxRecDepth 100000 in
set_option maxHeartbeats 4000000 in
theorem put_any (w : World) (hQ : QAt w base 5 v (bvN l)) (hv : ∀ k, v.ownBlock = some k → k < w.heap.size) (hbase : base ≤ w.heap.size) (hN : NumsAt w A n zs) (hz : zs.length = n) (hA : ∀ b off, A = some ⟨b, off, none⟩ → v.ownBlock ≠ some b) (hb : ∀ z ∈ zs, z < 9223372036854775808) (hlen : l.length + 10 * n ≤ 100000) (hl2 : ∀ z ∈ zs, (vnum z).length ≤ 10) :
 Calls Tryz.prog 130 #[v, .slice A n c] w (PutPost w base v (l ++ vnums zs)) := by
 have hn : n ≤ 100000 := by omega
 have HQ := hide hQ; have HV := hide hv; have HBA := hide hbase; have HN := hide hN; have HZ := hide hz; have HA := hide hA; have HB := hide hb; have HL := hide hlen; have HL2 := hide hl2
 obtain ⟨i0, hi, hz0, hz1, hz2⟩ := en_info_parts en_u8_info
 clear hQ hv hbase hN hz hA hb hlen hl2
 go_enter Tryz.func130, Tryz.ntmps130
 go_wp2_with fail
 go_loopw [0, 6, 9] (fun b _ i wr => ∃ k : Nat, k ≤ n ∧ i = .int .i64 k ∧ Hid (QAt wr base 5 b (bvN (l ++ vnums (zs.take k))) ∧ OwnTo w wr v b)) (fun _ _ i _ => n - (intOf i).toNat)
 case atStart => exact ⟨0, by omega, rfl, hide ⟨by simpa [vnums_nil] using HQ.out, OwnTo.refl w v HV.out⟩⟩
 case round =>
  obtain ⟨k, hk, rfl, HI⟩ := hrel
  by_cases hlt : k < n
  ·obtain ⟨bl, off, rfl, c0⟩ := HN.out k hlt
   have hbl := World.block_lt_of_cell? _ _ c0
   obtain ⟨z, hz⟩ : ∃ z, zs.getD k 0 = z := ⟨_, rfl⟩
   have k0 : wr.cell? ⟨bl, off + k, none⟩ = some (.int .i64 (z : Nat)) := by
    rw [← hz, ← c0]
    have := HI.out.2.1.block bl hbl (fun e => HA.out bl off rfl e.symm)
    unfold World.cell?; simp only [this]
   have hmem : z ∈ zs := by rw [← hz]; simp [show k < zs.length by rw [HZ.out]; exact hlt]
   have hz63 : z < 9223372036854775808 := HB.out z hmem
   have hz10 : (vnum z).length ≤ 10 := HL2.out z hmem
   have HZK := hide hz
   obtain ⟨pk, hpk⟩ : ∃ pk, l ++ vnums (zs.take k) = pk := ⟨_, rfl⟩
   have hpl : pk.length ≤ l.length + 10 * k := by
    rw [← hpk, List.length_append]
    have := vnums_len10 (zs.take k) (fun x hx => HL2.out x (List.mem_of_mem_take hx))
    rw [List.length_take] at this; omega
   have HPL := hide hpl
   rw [hpk] at HI
   have HPK := hide hpk
   clear c0 hz hmem hpk hpl
   go_wp2_with fail
   obtain ⟨wo, rfl⟩ : ∃ wo : World, wo = wr := ⟨_, rfl⟩
   go_loopw [0, 6] (fun b m wr => ∃ (x : Nat) (pre : List Nat), m = .int .i64 x ∧ x < 9223372036854775808 ∧ Hid (QAt wr base 5 b (bvN pre) ∧ OwnTo w wr v b ∧ pre ++ vnum x = pk ++ vnum z)) (fun _ m _ => (intOf m).toNat)
   case atStart => exact ⟨z, pk, rfl, hz63, hide ⟨HI.out.1, HI.out.2, rfl⟩⟩
   case round =>
    obtain ⟨x, pre, rfl, hx, HJ⟩ := hrel
    obtain ⟨ao, cc, hvv, -⟩ := HJ.out.1.shape
    rw [bvN_len] at hvv
    subst hvv
    have HPRE := hide (show pre.length ≤ 100010 by have h := congrArg List.length HJ.out.2.2; simp only [List.length_append] at h; have := HPL.out; have := HL.out; omega)
    by_cases h128 : x < 128
    ·have e2 : (x : Int) % 256 = (x : Int) := by omega
     go_wp2_with (at_builtin; go_must (refine wpList_append_q _ rfl (.tmp 23) (.tmp 26) _ rfl base 5 i0 _ 1 Tryz.underlying40 hi hz0 hz1 hz2 rfl (.slice ao pre.length cc) (bvN pre) rfl (by exact HJ.out.1.alloc _) wr.heap.size 0 1 (.int .u8 (x : Int)) rfl (by exact (Blk.new wr 5 #[.int .u8 (x : Int)]).cells1.1) rfl (by have := HPRE.out; simp [maxLen, bvN_len]; omega) (by have := HPRE.out; simp [bvN_len]; omega) (by have := HBA.out; have := HJ.out.2.1.1.size; simp; omega) ?_); intro g1 o1 cap1 w3 hQ3 hgr ho hb1 hlt1; have HQ3 := hide hQ3; have HO3 : Hid (OwnTo w w3 v (.slice (some ⟨g1, o1, none⟩) ((bvN pre).length + 1) cap1)) := hide ((HJ.out.2.1.alloc _).trans ⟨hgr, own_of ho hlt1⟩); clear hQ3 hgr ho hb1 hlt1)
     go_roundw
     case rel => exact ⟨k + 1, by omega, by go_num, hide ⟨by rw [vnums_take zs k (by rw [HZ.out]; exact hlt), HZK.out, ← List.append_assoc, HPK.out, ← HJ.out.2.2, vnum_small h128, bvN_snoc]; exact HQ3.out, HO3.out⟩⟩
     case measure => simp [intOf]; omega
    ·obtain ⟨y, hy⟩ : ∃ y, x % 128 + 128 = y := ⟨_, rfl⟩
     have e1 := vbyte x
     rw [IntKind.wrap_u8] at e1
     rw [hy] at e1
     have HY := hide hy; clear hy
     obtain ⟨x2, hx2⟩ : ∃ x2, x / 128 = x2 := ⟨_, rfl⟩
     have e3 : (x : Int) / 2 ^ 7 = (x2 : Int) := by rw [← hx2]; push_cast; rfl
     have e4 : (x : Int) / 128 = (x2 : Int) := by rw [← hx2]; push_cast; rfl
     have HX2 := hide hx2; clear hx2
     go_wp2_with (at_builtin; go_must (refine wpList_append_q _ rfl (.tmp 17) (.tmp 21) _ rfl base 5 i0 _ 1 Tryz.underlying40 hi hz0 hz1 hz2 rfl (.slice ao pre.length cc) (bvN pre) rfl (by exact HJ.out.1.alloc _) wr.heap.size 0 1 (.int .u8 (y : Int)) rfl (by exact (Blk.new wr 5 #[.int .u8 (y : Int)]).cells1.1) rfl (by have := HPRE.out; simp [maxLen, bvN_len]; omega) (by have := HPRE.out; simp [bvN_len]; omega) (by have := HBA.out; have := HJ.out.2.1.1.size; simp; omega) ?_); intro g1 o1 cap1 w3 hQ3 hgr ho hb1 hlt1; have HQ3 := hide hQ3; have HO3 : Hid (OwnTo w w3 v (.slice (some ⟨g1, o1, none⟩) ((bvN pre).length + 1) cap1)) := hide ((HJ.out.2.1.alloc _).trans ⟨hgr, own_of ho hlt1⟩); clear hQ3 hgr ho hb1 hlt1)
     go_roundw
     case rel => exact ⟨x2, pre ++ [y], rfl, by have := HX2.out; omega, hide ⟨by rw [bvN_snoc]; exact HQ3.out, HO3.out, by rw [← HJ.out.2.2, vnum_big h128, HX2.out, HY.out, List.append_assoc]; rfl⟩⟩
     case measure => have := HX2.out; simp [intOf]; omega
  ·obtain rfl : n = k := by omega
   have HR : Hid (QAt wr base 5 u0 (bvN (l ++ vnums zs)) ∧ OwnTo w wr v u0) := by
    have := HI.out
    rw [List.take_of_length_le (by rw [HZ.out]; omega)] at this
    exact hide this
   clear HI
   go_wp2_with fail
   go_ret
   exact ⟨_, rfl, HR.out⟩
end
end
section
def slN (s : Sl) : List Nat := [s.n.toNat, s.f.toNat, s.t.toNat]
def lkN (s : Lk) : List Nat := [s.f.toNat, s.t.toNat, s.b.toNat, s.q.toNat]
def wnN (s : Wn) : List Nat := [s.p.toNat, s.f.toNat, s.t.toNat]
/-- A plan's numbers, in a row. -/
def plN (p : Pl) : List Nat :=
 [p.nd.toNat, p.fa.toNat, p.sk.toNat, p.ji.toNat, p.dr.toNat, p.rd.toNat] ++ (p.sl.length :: (p.sl.map slN).flatten) ++ (p.lk.length :: (p.lk.map lkN).flatten) ++ [p.fr.toNat] ++ (p.wn.length :: (p.wn.map wnN).flatten)
/-- A plan that may be: all its numbers are from 0 to MaxTime. -/
theorem chk_bounds {p : Pl} (h : (chk p).1 = 0) : (0 ≤ p.nd ∧ 0 ≤ p.fa ∧ 0 ≤ p.sk ∧ 0 ≤ p.ji ∧ 0 ≤ p.dr ∧ 0 ≤ p.rd ∧ 0 ≤ p.fr ∧ p.nd ≤ 2 ^ 40 ∧ p.fa ≤ 2 ^ 40 ∧ p.sk ≤ 2 ^ 40 ∧ p.ji ≤ 2 ^ 40 ∧ p.dr ≤ 2 ^ 40 ∧ p.rd ≤ 2 ^ 40 ∧ p.fr ≤ 2 ^ 40) ∧ (p.sl.length ≤ 32 ∧ p.lk.length ≤ 8 ∧ p.wn.length ≤ 32) ∧
 (∀ s ∈ p.sl, (0 ≤ s.n ∧ 0 ≤ s.f ∧ 0 ≤ s.t) ∧ s.n ≤ 2 ^ 40 ∧ s.f ≤ 2 ^ 40 ∧ s.t ≤ 2 ^ 40) ∧ (∀ s ∈ p.lk, (0 ≤ s.f ∧ 0 ≤ s.t ∧ 0 ≤ s.b ∧ 0 ≤ s.q) ∧ s.f ≤ 2 ^ 40 ∧ s.t ≤ 2 ^ 40 ∧ s.b ≤ 2 ^ 40 ∧ s.q ≤ 2 ^ 40) ∧ (∀ s ∈ p.wn, (0 ≤ s.p ∧ 0 ≤ s.f ∧ 0 ≤ s.t) ∧ s.p ≤ 2 ^ 40 ∧ s.f ≤ 2 ^ 40 ∧ s.t ≤ 2 ^ 40) := by
 unfold chk at h
 by_cases h0 : headE p ≠ 0
 ·rw [if_pos h0] at h; exact absurd h h0
 rw [if_neg h0] at h
 by_cases h1 : (firstE (slEs p.sk p.rd p.nd 0 p.sl) 0).1 ≠ 0
 ·rw [if_pos h1] at h; exact absurd h h1
 rw [if_neg h1] at h
 by_cases h2 : (firstE (p.lk.map (lkE p.nd)) 0).1 ≠ 0
 ·rw [if_pos h2] at h; exact absurd h h2
 rw [if_neg h2] at h
 by_cases h3 : (firstE (wnEs p.fr 0 p.wn) 0).1 ≠ 0
 ·rw [if_pos h3] at h; exact absurd h h3
 have h0 := Classical.not_not.1 h0
 have z1 := firstE_zero _ 0 (Classical.not_not.1 h1)
 have z2 := firstE_zero _ 0 (Classical.not_not.1 h2)
 have z3 := firstE_zero _ 0 (Classical.not_not.1 h3)
 clear h h1 h2 h3
 have hd : 1 ≤ p.nd ∧ p.nd ≤ 16 ∧ 0 ≤ p.fa ∧ p.fa ≤ 16 ∧ 0 ≤ p.sk ∧ p.sk ≤ 137438953472 ∧ 0 ≤ p.ji ∧ p.ji ≤ 137438953472 ∧ 0 ≤ p.dr ∧ p.dr ≤ 137438953472 ∧ 1 ≤ p.rd ∧ p.rd ≤ 137438953472 ∧ 1 ≤ p.fr ∧ p.fr ≤ 137438953472 ∧ p.sl.length ≤ 32 ∧ p.lk.length ≤ 8 ∧ p.wn.length ≤ 32 := by
  unfold headE at h0
  split at h0
  ·cases h0
  ·split at h0
   ·cases h0
   ·split at h0
    ·cases h0
    ·omega
 have sp : ∀ {f t lo hi : Int}, spE f t lo hi = 0 → f < t ∧ lo ≤ f ∧ t ≤ hi := by
  intro f t lo hi h
  unfold spE at h
  by_cases h1 : t ≤ f
  ·rw [if_pos h1] at h; cases h
  ·rw [if_neg h1] at h
   by_cases h2 : f < lo
   ·rw [if_pos h2] at h; cases h
   ·rw [if_neg h2] at h
    by_cases h3 : hi < t
    ·rw [if_pos h3] at h; cases h
    ·omega
 have pw : (2 : Int) ^ 40 = 1099511627776 := by decide
 have hs : ∀ (k : Nat) (s : Sl), p.sl[k]? = some s → 0 ≤ s.n ∧ s.n ≤ p.nd - 1 ∧ slLo p.sk 0 p.sl k ≤ s.f ∧ s.f < s.t ∧ s.t ≤ p.rd - p.sk - 1 := by
  intro k s hk
  have hl := (List.getElem?_eq_some_iff.1 hk).1
  have := z1 k (by rw [slEs_len]; exact hl)
  rw [slEs_at _ _ _ _ _ _ _ hk] at this
  have := Option.some.inj this
  unfold slE at this
  split at this
  ·rename_i h; exact absurd this h
  ·rename_i h
   have := sp (Classical.not_not.1 h)
   split at *
   ·omega
   ·omega
 have hs0 : ∀ (k : Nat) (s : Sl), p.sl[k]? = some s → 0 ≤ s.f := by
  intro k
  induction k with
  | zero => intro s hk; have := hs 0 s hk; rw [slLo_zero] at this; omega
  | succ k ih =>
   intro s hk
   have hl := (List.getElem?_eq_some_iff.1 hk).1
   have hk2 : p.sl[k]? = some p.sl[k] := List.getElem?_eq_getElem (by omega)
   have a := hs (k + 1) s hk
   have b := hs k _ hk2
   have c := ih _ hk2
   rw [slLo_succ _ _ _ _ _ hk2] at a
   omega
 have hw : ∀ (k : Nat) (s : Wn), p.wn[k]? = some s → 0 ≤ s.p ∧ s.p ≤ 5 ∧ wnLo 0 p.wn k ≤ s.f ∧ s.f < s.t ∧ s.t ≤ p.fr := by
  intro k s hk
  have hl := (List.getElem?_eq_some_iff.1 hk).1
  have := z3 k (by rw [wnEs_len]; exact hl)
  rw [wnEs_at _ _ _ _ _ hk] at this
  have := Option.some.inj this
  unfold wnE at this
  split at this
  ·rename_i h; exact absurd this h
  ·rename_i h
   have := sp (Classical.not_not.1 h)
   split at *
   ·omega
   ·omega
 have hw0 : ∀ (k : Nat) (s : Wn), p.wn[k]? = some s → 0 ≤ s.f := by
  intro k
  induction k with
  | zero => intro s hk; have := hw 0 s hk; rw [wnLo_zero] at this; omega
  | succ k ih =>
   intro s hk
   have hl := (List.getElem?_eq_some_iff.1 hk).1
   have hk2 : p.wn[k]? = some p.wn[k] := List.getElem?_eq_getElem (by omega)
   have a := hw (k + 1) s hk
   have b := hw k _ hk2
   have c := ih _ hk2
   rw [wnLo_succ _ _ _ _ hk2] at a
   omega
 rw [pw]
 refine ⟨by omega, by omega, ?_, ?_, ?_⟩
 ·intro s hm
  obtain ⟨k, hk, rfl⟩ := List.getElem_of_mem hm
  have a := hs k _ (List.getElem?_eq_getElem hk)
  have b := hs0 k _ (List.getElem?_eq_getElem hk)
  omega
 ·intro s hm
  obtain ⟨k, hk, rfl⟩ := List.getElem_of_mem hm
  have := z2 k (by simpa using hk)
  rw [List.getElem?_map, List.getElem?_eq_getElem hk] at this
  have := Option.some.inj this
  generalize p.lk[k] = s at this
  unfold lkE at this
  split at this
  ·cases this
  ·split at this
   ·cases this
   ·rename_i h1 h2
    have h2 := bool_f (fun h => h2 h)
    unfold toBad at h2
    simp only [Bool.or_eq_false_iff, decide_eq_false_iff_not] at h2
    split at this
    ·cases this
    ·have : (2 : Int) ^ p.nd.toNat ≤ 2 ^ 16 := by
      have h := Nat.pow_le_pow_right (n := 2) (by decide) (show p.nd.toNat ≤ 16 by omega)
      exact_mod_cast h
     have h16 : (2 : Int) ^ 16 = 65536 := by decide
     omega
 ·intro s hm
  obtain ⟨k, hk, rfl⟩ := List.getElem_of_mem hm
  have a := hw k _ (List.getElem?_eq_getElem hk)
  have b := hw0 k _ (List.getElem?_eq_getElem hk)
  omega
theorem toNat_le {x : Int} (h : x ≤ 2 ^ 40) : x.toNat ≤ 2 ^ 40 := by
 have pw : (2 : Int) ^ 40 = 1099511627776 := by decide
 have pn : (2 : Nat) ^ 40 = 1099511627776 := by decide
 omega
theorem plN_le {p : Pl} (h : (chk p).1 = 0) : ∀ n ∈ plN p, n ≤ 2 ^ 40 := by
 obtain ⟨h1, h2, h3, h4, h5⟩ := chk_bounds h
 have pn : (32 : Nat) ≤ 2 ^ 40 := by decide
 intro n hn
 unfold plN at hn
 simp only [List.mem_append, List.mem_cons, List.not_mem_nil, or_false, List.mem_flatten, List.mem_map] at hn
 rcases hn with ((((hn | hn) | hn) | hn) | hn)
 ·rcases hn with rfl | rfl | rfl | rfl | rfl | rfl <;> exact toNat_le (by omega)
 ·rcases hn with rfl | ⟨_, ⟨s, hs, rfl⟩, hx⟩
  ·omega
  ·simp [slN] at hx
   have := h3 s hs
   rcases hx with rfl | rfl | rfl <;> exact toNat_le (by omega)
 ·rcases hn with rfl | ⟨_, ⟨s, hs, rfl⟩, hx⟩
  ·omega
  ·simp [lkN] at hx
   have := h4 s hs
   rcases hx with rfl | rfl | rfl | rfl <;> exact toNat_le (by omega)
 ·subst hn; exact toNat_le (by omega)
 ·rcases hn with rfl | ⟨_, ⟨s, hs, rfl⟩, hx⟩
  ·omega
  ·simp [wnN] at hx
   have := h5 s hs
   rcases hx with rfl | rfl | rfl <;> exact toNat_le (by omega)
theorem vnum_len (n k : Nat) (hk : 1 ≤ k) (h : n < 128 ^ k) : (vnum n).length ≤ k := by
 induction k generalizing n with
 | zero => omega
 | succ k ih =>
  by_cases h1 : n < 128
  ·rw [vnum_small h1]; simp
  ·rw [vnum_big h1, List.length_cons]
   by_cases hk0 : k = 0
   ·subst hk0; simp at h; omega
   ·have := ih (n / 128) (by omega) (by rw [Nat.pow_succ] at h; exact Nat.div_lt_of_lt_mul (by rw [Nat.mul_comm]; exact h))
    omega
theorem vnums_len (l : List Nat) (h : ∀ n ∈ l, n ≤ 2 ^ 40) : (vnums l).length ≤ 6 * l.length := by
 induction l with
 | nil => simp [vnums_nil]
 | cons n l ih =>
  have h1 := vnum_len n 6 (by omega) (Nat.lt_of_le_of_lt (h n (by simp)) (by decide))
  have h2 := ih (fun m hm => h m (by simp [hm]))
  rw [vnums_cons, List.length_append, List.length_cons]; omega
theorem flat_len {α : Type} {j : Nat} {l : List α} {f : α → List Nat} (h : ∀ x, (f x).length = j) : (l.map f).flatten.length = j * l.length := by
 induction l with
 | nil => simp
 | cons x l ih => simp only [List.map_cons, List.flatten_cons, List.length_append, h, ih, List.length_cons, Nat.mul_succ]; omega
theorem plN_len (p : Pl) : (plN p).length = 10 + 3 * p.sl.length + 4 * p.lk.length + 3 * p.wn.length := by
 unfold plN
 simp only [List.length_append, List.length_cons, List.length_nil, flat_len (j := 3) (f := slN) (fun _ => rfl), flat_len (j := 4) (f := lkN) (fun _ => rfl), flat_len (j := 3) (f := wnN) (fun _ => rfl)]
 omega
/-- A plan is never too long. -/
theorem plN_short {p : Pl} (h : (chk p).1 = 0) : (vnums (plN p)).length ≤ 2000 := by
 obtain ⟨_, ⟨h1, h2, h3⟩, _⟩ := chk_bounds h
 have a := vnums_len _ (plN_le h)
 rw [plN_len] at a
 omega
end
end Go.Proofs.YtideefjnlakciaaGreatDoor
