/- An append of a slice that may be empty, in a region that draws; the document's cluster where only what was lost differs; conditions: none. -/
import Derived.Test.YtdogdlnaacimpaaGreatDoorP23
import Derived.Deep.Upon
import Derived.Deep.AppendLies
import Derived.Deep.RegionLaw
import Derived.BigRegion
import Derived.Deep.RegionHeld3
set_option linter.unusedVariables false
set_option linter.unusedSimpArgs false
namespace Go.Proofs.YtdogdlnaacimpaaGreatDoor
section
open Go Go.RowKit
section
variable {P : Program}
theorem wp_append_all (w : World) {o : Oper} {a : Act} {K : Act → World → Prop} {Q : Exit → Act → World → Prop} (s x : Operand) (t : TypeId)
 (ho : o.op = .call { callee := .builtin .append, args := #[s, x], argTypes := #[t, t] })
 (base : Nat) (e : TypeId) (i : TypeInfo) (z : Value) (bytes : Nat) (ht : P.underlying t = some (.slice e)) (hi : P.info? e = some i) (hz : i.zero = some z) (hsize : i.size = 1) (hby : i.bytes = bytes) (hzs : z.cells.size = 1)
 (v : Value) (n : Nat) (xs : List Value) (hs : a.eval s = v) (hown : w.ownsRow base e 1 v n xs) (b2 : Nat) (vx : Value) (l : List Value) (hx : a.eval x = vx) (hQ : QAt w b2 e vx l) (h1 : ∀ u ∈ l, u.oneCell' = true)
 (h63 : n + l.length ≤ maxLen) (hbytes : (n + l.length) * bytes ≤ 140737488355328) (hbase : base ≤ w.heap.size)
 (h : ∀ v' w', w'.ownsRow base e 1 v' (n + l.length) (xs ++ l) → w.grownBy w' v.ownBlock → (v'.ownBlock = v.ownBlock ∨ ∀ k, v'.ownBlock = some k → w.heap.size ≤ k) → K (a.put o.dst v') w') : o.wp P a w K Q := by
 rcases hQ with ⟨rfl, ao, rfl⟩ | ⟨g, off, cap, cur, rfl, hg, hh, hc0, hlc, hcm, hcs, hcell⟩
 ·have hS : Src P i.size t (.slice ao 0 0) 0 [] w := by
   cases ao with
   | none => exact Src.ofNil w ht 0
   | some ad => exact Src.ofSlice w ht ad 0 0 [] (by simp) (fun j u hu => by simp at hu) (fun u hu => by cases hu)
  have hv : ∃ b sl sc, v = .slice b sl sc ∧ sl ≤ sc := by
   rcases hown.2 with ⟨rfl, _⟩ | ⟨g, cap, cur, rfl, _, _, hn, _⟩
   ·exact ⟨none, 0, 0, rfl, Nat.le_refl _⟩
   ·exact ⟨_, _, _, rfl, hn⟩
  obtain ⟨b, sl, sc, rfl, hle⟩ := hv
  have hr := run_append_nothing w t t o.type e i ht hi b sl sc hle (.slice ao 0 0) hS
  unfold Oper.wp execOp
  simp only [ho, resolve, invoke, builtin, Sem.run_bind, Sem.run_pure, Result.andThen_ok, List.map_toArray, List.map_cons, List.map_nil, hs, hx, hr]
  exact h _ _ (by simpa using hown) (World.grownBy.refl w _) (.inl rfl)
 ·exact wp_append_own2 w s x t ho base e i z 1 bytes ht hi hz hsize hby hzs (by decide) v n xs hs hown ⟨g, off, none⟩ l.length cap l hx (by omega) (fun j u hu => by
   have hj : j < l.length := (List.getElem?_eq_some_iff.1 hu).1
   rw [show (⟨g, off, none⟩ : Addr).add j = ⟨g, off + j, none⟩ by unfold Addr.add; split <;> simp_all]
   have h2 := hcell j hj
   rw [hu] at h2
   unfold World.cell?
   simp only [hh]
   simpa using h2) h1 h63 hbytes hbase h
theorem step_append_all (w : World) {ops : Array Oper} {o : Oper} {a : Act} {K : Act → World → Prop} {Q : Exit → Act → World → Prop} {E : Prop} (hgd : o.guard = none) (s x : Operand) (t : TypeId)
 (ho : o.op = .call { callee := .builtin .append, args := #[s, x], argTypes := #[t, t] })
 (base : Nat) (e : TypeId) (i : TypeInfo) (z : Value) (bytes : Nat) (ht : P.underlying t = some (.slice e)) (hi : P.info? e = some i) (hz : i.zero = some z) (hsize : i.size = 1) (hby : i.bytes = bytes) (hzs : z.cells.size = 1)
 (v : Value) (n : Nat) (xs : List Value) (hs : a.eval s = v) (hown : w.ownsRow base e 1 v n xs) (b2 : Nat) (vx : Value) (l : List Value) (hx : a.eval x = vx) (hQ : QAt w b2 e vx l) (h1 : ∀ u ∈ l, u.oneCell' = true)
 (h63 : n + l.length ≤ maxLen) (hbytes : (n + l.length) * bytes ≤ 140737488355328) (hbase : base ≤ w.heap.size)
 (h : ∀ v' w', w'.ownsRow base e 1 v' (n + l.length) (xs ++ l) → w.grownBy w' v.ownBlock → (v'.ownBlock = v.ownBlock ∨ ∀ k, v'.ownBlock = some k → w.heap.size ≤ k) → K (a.put o.dst v') w') :
 if Region.wanted o (yielded ops a.tmps) = true then Oper.wp P o a w K Q else E := by
 have hw : Region.wanted o (yielded ops a.tmps) = true := by simp [Region.wanted, hgd]
 rw [if_pos hw]
 exact wp_append_all w s x t ho base e i z bytes ht hi hz hsize hby hzs v n xs hs hown b2 vx l hx hQ h1 h63 hbytes hbase h
end
theorem own_emptyS {W : World} {base b : Nat} (h : Blk W b 9 #[]) (hb : base ≤ b) : W.ownsRow base 9 1 (.slice (some ⟨b, 0, none⟩) 0 0) 0 [] :=
 ⟨rfl, .inr ⟨b, 0, #[], rfl, hb, h, Nat.le_refl _, by simp [maxLen], rfl, rfl⟩⟩
section
variable {w0 w w' w1 : World} {base g : Nat} {p : Pl} {P : Sv3} {fy M : Nat} {c : Cl} {bs : List Nat}
/-- Only what ports have lost differs. -/
theorem DsG.lost (h : DsG w0 w base g p P fy c M w1 bs) (f : Nat → Nat → Pr) (hf : ∀ k i, (f k i).q = (c.pr k i).q) : DsG w0 w base g p P fy { c with pr := f } M w1 bs := by
 obtain ⟨a, h1, h2, h3, h4, h5⟩ := h
 have e : dshape base a (fullN p) p P fy { c with pr := f } = dshape base a (fullN p) p P fy c := by
  funext x
  cases x <;> simp [dshape, hf]
 refine ⟨a, h1, ⟨by rw [e]; exact h2.fam, h2.rel.sd, h2.rel.al, h2.rel.tk, fun k i => ?_⟩, h3, h4, by rw [e]; exact h5⟩
 exact h2.rel.pr k i
/-- A receiver: where it lies, and its call; behind it the map stays. -/
theorem DsG.tak2 (h : DsG w0 w base g p P fy c M w1 bs) {N : Nat} (hc : ClOk p N c) (hN : N ≤ 1000000) {k i : Nat} (hk : k < p.lk.length) (hi : i < p.nd.toNat) : ∃ tm gk, w.cell? ⟨g, 14, none⟩ = some (.map (some tm)) ∧
 (∀ W, Below w.heap.size w W → (Instr.lookup 80 (.map (some tm)) (.agg #[.int .i64 (k : Int), .int .i64 (i : Int)]) false).run Tryz.prog W = .ok (.pointer (some ⟨gk, 0, none⟩)) W) ∧
 (∀ W s, Below w.heap.size w W → Calls Tryz.prog 53 #[.pointer (some ⟨gk, 0, none⟩), .int .i64 s] W fun e w' => e = .returned (.bool (takeB s (c.tk k i).nw)) ∧ DsG w0 w' base g p P fy { c with tk := upd2 c.tk k i ((c.tk k i).take s) } M w1 bs ∧
  w'.cell? ⟨g, 7, none⟩ = some P.l ∧ w'.cell? ⟨g, 14, none⟩ = some (.map (some tm)) ∧ ∀ W', Below w'.heap.size w' W' → (Instr.lookup 80 (.map (some tm)) (.agg #[.int .i64 (k : Int), .int .i64 (i : Int)]) false).run Tryz.prog W' = .ok (.pointer (some ⟨gk, 0, none⟩)) W') := by
 obtain ⟨a, rfl, h2, h3, h4, h5⟩ := h
 have hnk : i < (fullN p).nk k := by show i < (if k < p.lk.length then p.nd.toNat else 0); rw [if_pos hk]; exact hi
 obtain ⟨-, -, -, -, -, -, -, -, -, -, -, k14, -⟩ := rcl_cells h2.cluB
 have hG : ∀ W, Below w.heap.size w W → DcAt W base a (fullN p) p P fy c M ∧ Below base w0 W ∧ base ≤ W.heap.size ∧ ∀ b ∈ bs, b < W.heap.size ∧ ¬ Gmy (dshape base a (fullN p) p P fy c) b ∧ W.heap[b]? = w1.heap[b]? := fun W hB => ⟨h2.below hB, h3.trans (hB.mono h4), Nat.le_trans h4 hB.size, fun b hb => ⟨Nat.lt_of_lt_of_le (h5 b hb).1 hB.size, (h5 b hb).2.1, (hB.block b (h5 b hb).1).trans (h5 b hb).2.2⟩⟩
 have hb := hc.tk k i
 have hval : valK k i a.kt = some (ptrV (a.gk k i)) := h2.rel.tk k i hnk
 have hf : ∀ x, (dshape base a (fullN p) p P fy c (.tak k i)).foot = x → x = [a.gk k i] := fun x e => by rw [← e]; simp [dshape, hnk, GO.blk]
 have hn1 : a.gk k i ≠ a.g := fun e => by
  have h1 : a.gk k i ∈ (dshape base a (fullN p) p P fy c (.tak k i)).foot := by rw [hf _ rfl]; simp
  have h2' : a.gk k i ∈ (dshape base a (fullN p) p P fy c .clu).foot := by simp [dshape, GO.blk, e]
  exact absurd (h2.fam.sep _ _ _ h1 h2') (by simp)
 have hn2 : a.gk k i ≠ a.tm := fun e => by
  have h1 : a.gk k i ∈ (dshape base a (fullN p) p P fy c (.tak k i)).foot := by rw [hf _ rfl]; simp
  have h2' : a.gk k i ∈ (dshape base a (fullN p) p P fy c .takM).foot := by simp [dshape, GO.mp, e]
  exact absurd (h2.fam.sep _ _ _ h1 h2') (by simp)
 refine ⟨a.tm, a.gk k i, k14, fun W hB => ?_, fun W s hB => ?_⟩
 ·obtain ⟨q1, q2, q3, q4⟩ := hG W hB
  exact lookup_pair Tryz.underlying80 q1.takM k i (Tryz.zeroValue139 W) (by rw [hval]; rfl)
 ·obtain ⟨q1, q2, q3, q4⟩ := hG W hB
  refine (rtake_any (a.gk k i) s (c.tk k i).nw (c.tk k i).c0 (c.tk k i).c1 W (q1.takB hnk) (by omega) (by omega) (by omega) (by omega) (by omega) (by omega)).mono ?_
  rintro r w' ⟨rfl, hb', hg⟩
  have hclu := q1.cluB.grown hg (by simpa using hn1.symm)
  obtain ⟨-, -, -, -, -, -, k7, -, -, -, -, k14', -⟩ := rcl_cells hclu
  have hm : MapP w' a.tm a.kt := q1.takM.keep (hg.block a.tm q1.takM.lt (by simpa using hn2.symm))
  refine ⟨rfl, .ofTo rfl q1 q2 q3 q4 (q1.takTo hnk s hb' hg q3), k7, k14', fun W' hB' => ?_⟩
  exact lookup_pair Tryz.underlying80 (hm.keep (hB'.block a.tm hm.lt)) k i (Tryz.zeroValue139 W') (by rw [hval]; rfl)
/-- A port: what it holds, and how it is written; where the ports lie stays. -/
theorem DsG.prt2 (h : DsG w0 w base g p P fy c M w1 bs) (k i : Nat) : ∃ pm v, w.cell? ⟨g, 15, none⟩ = some (.map (some pm)) ∧ QAt w base 9 v (sv (c.pr k i).q) ∧
 (∀ W, Below w.heap.size w W → (Instr.lookup 81 (.map (some pm)) (.agg #[.int .i64 (k : Int), .int .i64 (i : Int)]) false).run Tryz.prog W = .ok v W) ∧
 (∀ W v', Below w.heap.size w W → (∀ b, v'.ownBlock = some b → b < W.heap.size ∧ w.heap.size ≤ b) → ∃ W', (Instr.mapUpdate 81 (.map (some pm)) (.agg #[.int .i64 (k : Int), .int .i64 (i : Int)]) v').run Tryz.prog W = .ok () W' ∧ W'.cell? ⟨g, 15, none⟩ = some (.map (some pm)) ∧
  ∀ x : Pr, QAt W base 9 v' (sv x.q) → DsG w0 W' base g p P fy { c with pr := upd2 c.pr k i x } M w1 bs) := by
 obtain ⟨a, rfl, h2, h3, h4, h5⟩ := h
 obtain ⟨-, -, -, -, -, -, -, -, -, -, -, -, k15, -⟩ := rcl_cells h2.cluB
 have hn : a.g ≠ a.pm := fun e => by
  have h1 : a.g ∈ (dshape base a (fullN p) p P fy c .clu).foot := by simp [dshape, GO.blk]
  have h2' : a.g ∈ (dshape base a (fullN p) p P fy c .prtM).foot := by simp [dshape, GO.mp, e]
  exact absurd (h2.fam.sep _ _ _ h1 h2') (by simp)
 refine ⟨a.pm, a.vp k i, k15, (h2.prtB k i).1, fun W hB => ?_, fun W v' hB hv => ?_⟩
 ·exact lookup_pair Tryz.underlying81 (h2.below hB).prtM k i (Tryz.zeroValue136 W) (h2.rel.pr k i)
 ·obtain ⟨W', hup, hM9, hG9⟩ := update_pair Tryz.underlying81 (h2.below hB).prtM k i v'
  have hc := ((h2.below hB).cluB).grown hG9 (by simpa using hn)
  obtain ⟨-, -, -, -, -, -, -, -, -, -, -, -, k15', -⟩ := rcl_cells hc
  exact ⟨W', hup, k15', fun x hQ => .ofTo rfl h2 h3 h4 h5 (h2.prtTo k i x hB hQ (fun b e => ⟨(hv b e).1, .inr (hv b e).2⟩) hM9 hG9 h4)⟩
end
theorem qat_one {W : World} {b b2 : Nat} {d : ByteArray} (h : Blk W b 9 #[.string d]) (hb : b2 ≤ b) : QAt W b2 9 (.slice (some ⟨b, 0, none⟩) 1 1) (sv [d]) :=
 .inr ⟨b, 0, 1, #[.string d], rfl, hb, h, by decide, by simp [sv], by simp [maxLen], by simp, fun j hj => by
  have : j = 0 := by simp [sv] at hj; omega
  subst this
  rfl⟩
theorem putE_short {n q : Nat} (h : n ≤ 40) : putE n q 16 = if 16 ≤ q then 12 else 0 := by
 unfold putE
 rw [if_neg (by omega)]
 by_cases e : 16 ≤ q
 ·rw [if_pos e, if_pos (by omega)]
 ·rw [if_neg e, if_neg (by omega)]
theorem pr_full (s : Pr) (d : ByteArray) (h : d.size ≤ 40) (hq : 16 ≤ s.q.length) : (s.put d).q = s.q := by
 unfold Pr.put
 rw [putE_short h, if_pos hq]
 rfl
theorem pr_room (s : Pr) (d : ByteArray) (h : d.size ≤ 40) (hq : s.q.length < 16) : (s.put d).q = s.q ++ [d] := by
 have e : putE d.size s.q.length 16 = 0 := by rw [putE_short h, if_neg (by omega)]
 unfold Pr.put
 rw [e]
 show putQ s.q d 0 = s.q ++ [d]
 unfold putQ
 rw [if_pos rfl]
theorem wrap_pow (k : Nat) (h : k < 17) : IntKind.i64.wrap (2 ^ k) = wrap64 (2 ^ k) := by
 have h1 : (2 : Nat) ^ k ≤ 2 ^ 16 := Nat.pow_le_pow_right (by omega) (by omega)
 rw [pow_small k h]
 have h2 : ((2 : Int) ^ k) = ((2 ^ k : Nat) : Int) := by simp
 rw [h2]
 generalize (2 : Nat) ^ k = x at h1
 exact IntWalk.i64_in _ (by omega)
/-- What comes at a node, in the words of its steps. -/
theorem chan_take {p : Pl} {tn : Nat} {f : FrR} {c : Cl} {k : Nat} {l : Lk} (h : f.lk = k) (hl : p.lk[k]? = some l) (hb : bitB l.t tn = true) : chanF p tn f c = if takeB f.sq (c.tk k tn).nw then { c with tk := upd2 c.tk k tn ((c.tk k tn).take f.sq), pr := upd2 c.pr k tn ((c.pr k tn).put f.d) } else { c with tk := upd2 c.tk k tn ((c.tk k tn).take f.sq) } := by
 rw [chan_yes p tn c h hl hb]
 split <;> rfl
end
section
open Go Go.RowKit
theorem form_of {B : Nat} {w : World} {v : Value} {n : Nat} {e : TypeId} {xs : List Value} (h : w.ownsRow B e 1 v n xs) (hn : 0 < n) : ∃ g9 c9, v = .slice (some ⟨g9, 0, none⟩) n c9 ∧ ∀ b, v.ownBlock = some b → b < w.heap.size ∧ B ≤ b := by
 obtain ⟨g9, c9, rfl, hge, hlt⟩ := h.form hn
 refine ⟨g9, c9, rfl, fun b e => ?_⟩
 have : g9 = b := Option.some.inj e
 subst this
 exact ⟨hlt, hge⟩
theorem kept_one {B : Nat} {w W w' : World} {v : Nat} (h : Below B w W) (hg : W.grownBy w' (Value.slice (some ⟨v, 0, none⟩) 0 0).ownBlock) (hv : B ≤ v) (hs : B ≤ w.heap.size) : Below B w w' :=
 h.grown hg (Nat.le_trans hs h.size) (fun k e => by simp [Value.ownBlock] at e; omega)
theorem kept_own {w W w' : World} {v : Value} {n : Nat} {e : TypeId} {xs : List Value} (h : Below w.heap.size w W) (ho : W.ownsRow w.heap.size e 1 v n xs) (hg : W.grownBy w' v.ownBlock) : Below w.heap.size w w' :=
 h.grown hg h.size (own_base2 ho)
/-- A region of a function's code, by its number. -/
def regOf (n : Nat) : Code → Option Code
 | .region m ops b => if m == n then some (.region m ops b) else none
 | .block _ c => regOf n c
 | .seq a b => match regOf n a with
  | some c => some c
  | none => regOf n b
 | .loop c => regOf n c
 | .scope c => regOf n c
 | .cond _ a b => match regOf n a with
  | some c => some c
  | none => regOf n b
 | _ => none
noncomputable def plR (n : Nat) : Code := (Tryz.f20.body.bind (regOf n)).getD .skip
set_option maxRecDepth 1000000 in
set_option maxHeartbeats 8000000 in
theorem port_reg {Q : Exit → Act → World → Prop} (w0 w W1 : World) {base g : Nat} {p : Pl} {P : Sv3} {fy : Nat} {c : Cl} {M : Nat} {bs : List Nat} (hbase : base ≤ w.heap.size) (k i pm m cp : Nat) (ao : Option Addr) (d : ByteArray) (hm : m < 16) (hd : d.size ≤ 40) (hlen : (c.pr k i).q.length = m)
 (k15 : w.cell? ⟨g, 15, none⟩ = some (.map (some pm))) (hQ : QAt w base 9 (.slice ao m cp) (sv (c.pr k i).q))
 (hup : ∀ W v', Below w.heap.size w W → (∀ b, v'.ownBlock = some b → b < W.heap.size ∧ w.heap.size ≤ b) → ∃ W', (Instr.mapUpdate 81 (.map (some pm)) (.agg #[.int .i64 (k : Int), .int .i64 (i : Int)]) v').run Tryz.prog W = .ok () W' ∧ W'.cell? ⟨g, 15, none⟩ = some (.map (some pm)) ∧ ∀ x : Pr, QAt W base 9 v' (sv x.q) → DsG w0 W' base g p P fy { c with pr := upd2 c.pr k i x } M W1 bs)
 (u1 u2 u3 u4 u5 u6 u7 u8 u9 u10 u11 u12 u13 u14 u15 u16 u17 u18 u19 u20 u21 u22 u23 u24 u25 u26 u28 u30 u31 u32 u33 u34 u36 u37 u38 u39 u40 u42 u43 u44 u45 u46 u47 u48 u49 u50 u51 u52 u53 u54 u55 u56 u57 u58 u59 u60 u61 u62 u63 u64 u65 u66 u67 u68 u69 u70 u71 u72 u73 u74 u75 u76 u77 u78 u79 u80 u81 u82 u83 u84 u85 u86 u87 u88 u89 u90 u91 u92 u93 u94 u95 u96 u97 u98 u99 u100 u101 u102 u103 u104 u105 u106 u107 u108 u109 u110 u111 u112 u113 u114 u115 u116 u117 u118 u119 u120 u121 u122 u123 u124 u125 u126 u127 u128 u129 u130 u131 u132 u133 u134 u135 u136 u137 u138 u139 u140 u141 u142 u143 u144 u145 u146 u147 u148 u149 u150 u151 u152 u153 u154 u155 u156 u157 u158 u159 u160 u161 u162 u163 u164 u165 u166 u167 u168 u169 u170 u171 u172 u173 u174 u175 u176 u177 u178 u179 u180 u181 u182 u183 u184 u185 u186 u187 u188 u189 u190 u191 u192 u193 u194 u195 u196 u197 u198 u199 u200 u201 u202 u203 u204 u205 u206 u207 u208 u209 u210 u211 u212 u213 u214 u215 u216 u217 u218 u219 u220 u221 u222 u223 u224 u225 u226 u227 u228 u229 u230 u231 u232 u233 u234 u235 u236 u237 u238 u239 u240 u241 u242 u243 u244 u245 u246 u247 u248 u249 u250 u251 u252 u253 u254 u255 u256 u257 u258 u259 u260 u261 u262 u263 u264 u265 u266 u267 u268 u269 u270 u271 u272 u273 u274 u275 u276 u277 u278 u279 u280 u281 u282 u283 u284 u285 u286 u287 u288 u289 u290 u291 u292 u293 u294 u295 u296 u297 u298 u299 u300 u301 u302 u303 u304 u305 u306 u307 u308 u309 u310 u311 u312 u313 u314 u315 u316 u317 u318 u319 u320 u321 u322 u323 u324 u325 u326 u327 u328 u329 u330 u331 u332 u333 u334 u335 u336 u337 u338 u339 u340 u341 u342 u343 u344 u345 u346 u347 u348 u349 u350 u351 u352 u353 u354 u355 u356 u357 u358 u359 u360 u361 u362 u363 u364 u365 u366 u367 u368 u369 u370 u371 u372 u373 u374 u375 u376 u377 u378 u379 u380 u381 u382 u383 u384 u385 u386 u387 u388 u389 u390 u391 u392 u393 u394 u395 u396 u397 u398 u399 u400 u401 u402 u403 u404 u405 u406 u407 u408 u409 u410 u411 u412 u413 u414 u415 u416 u417 u418 u419 u420 u421 u422 u423 u424 u425 u426 u427 u428 u429 u430 u431 u432 u433 u434 u435 u436 u437 u438 u439 u440 u441 u442 u443 u444 u445 u446 u447 u448 u449 u450 u451 : Value)
 (hR : ∀ (v414 v415 v416 v417 v418 v419 v420 v421 v422 v423 v424 v425 v426 : Value) (w' : World), DsG w0 w' base g p P fy { c with pr := upd2 c.pr k i ((c.pr k i).put d) } M W1 bs → Q .normal ⟨#[.pointer (some ⟨g, 0, none⟩), u1, u2, u3, u4, u5, u6, u7, u8, u9, u10, u11, u12, u13, u14, u15, u16, u17, u18, u19, u20, u21, u22, u23, u24, u25, u26, .int .i64 (k : Int), u28, .string d, u30, u31, u32, u33, u34, .int .i64 (i : Int), u36, u37, u38, u39, u40, .slice ao m cp, u42, u43, u44, u45, u46, u47, u48, u49, u50, u51, u52, u53, u54, u55, u56, u57, u58, u59, u60, u61, u62, u63, u64, u65, u66, u67, u68, u69, u70, u71, u72, u73, u74, u75, u76, u77, u78, u79, u80, u81, u82, u83, u84, u85, u86, u87, u88, u89, u90, u91, u92, u93, u94, u95, u96, u97, u98, u99, u100, u101, u102, u103, u104, u105, u106, u107, u108, u109, u110, u111, u112, u113, u114, u115, u116, u117, u118, u119, u120, u121, u122, u123, u124, u125, u126, u127, u128, u129, u130, u131, u132, u133, u134, u135, u136, u137, u138, u139, u140, u141, u142, u143, u144, u145, u146, u147, u148, u149, u150, u151, u152, u153, u154, u155, u156, u157, u158, u159, u160, u161, u162, u163, u164, u165, u166, u167, u168, u169, u170, u171, u172, u173, u174, u175, u176, u177, u178, u179, u180, u181, u182, u183, u184, u185, u186, u187, u188, u189, u190, u191, u192, u193, u194, u195, u196, u197, u198, u199, u200, u201, u202, u203, u204, u205, u206, u207, u208, u209, u210, u211, u212, u213, u214, u215, u216, u217, u218, u219, u220, u221, u222, u223, u224, u225, u226, u227, u228, u229, u230, u231, u232, u233, u234, u235, u236, u237, u238, u239, u240, u241, u242, u243, u244, u245, u246, u247, u248, u249, u250, u251, u252, u253, u254, u255, u256, u257, u258, u259, u260, u261, u262, u263, u264, u265, u266, u267, u268, u269, u270, u271, u272, u273, u274, u275, u276, u277, u278, u279, u280, u281, u282, u283, u284, u285, u286, u287, u288, u289, u290, u291, u292, u293, u294, u295, u296, u297, u298, u299, u300, u301, u302, u303, u304, u305, u306, u307, u308, u309, u310, u311, u312, u313, u314, u315, u316, u317, u318, u319, u320, u321, u322, u323, u324, u325, u326, u327, u328, u329, u330, u331, u332, u333, u334, u335, u336, u337, u338, u339, u340, u341, u342, u343, u344, u345, u346, u347, u348, u349, u350, u351, u352, u353, u354, u355, u356, u357, u358, u359, u360, u361, u362, u363, u364, u365, u366, u367, u368, u369, u370, u371, u372, u373, u374, u375, u376, u377, u378, u379, u380, u381, u382, u383, u384, u385, u386, u387, u388, u389, u390, u391, u392, u393, u394, u395, u396, u397, u398, u399, u400, u401, u402, u403, u404, u405, u406, u407, u408, u409, u410, u411, u412, u413, v414, v415, v416, v417, v418, v419, v420, v421, v422, v423, v424, v425, v426, u427, u428, u429, u430, u431, u432, u433, u434, u435, u436, u437, u438, u439, u440, u441, u442, u443, u444, u445, u446, u447, u448, u449, u450, u451], []⟩ w') :
 Code.wp Tryz.prog (plR 76) Q ⟨#[.pointer (some ⟨g, 0, none⟩), u1, u2, u3, u4, u5, u6, u7, u8, u9, u10, u11, u12, u13, u14, u15, u16, u17, u18, u19, u20, u21, u22, u23, u24, u25, u26, .int .i64 (k : Int), u28, .string d, u30, u31, u32, u33, u34, .int .i64 (i : Int), u36, u37, u38, u39, u40, .slice ao m cp, u42, u43, u44, u45, u46, u47, u48, u49, u50, u51, u52, u53, u54, u55, u56, u57, u58, u59, u60, u61, u62, u63, u64, u65, u66, u67, u68, u69, u70, u71, u72, u73, u74, u75, u76, u77, u78, u79, u80, u81, u82, u83, u84, u85, u86, u87, u88, u89, u90, u91, u92, u93, u94, u95, u96, u97, u98, u99, u100, u101, u102, u103, u104, u105, u106, u107, u108, u109, u110, u111, u112, u113, u114, u115, u116, u117, u118, u119, u120, u121, u122, u123, u124, u125, u126, u127, u128, u129, u130, u131, u132, u133, u134, u135, u136, u137, u138, u139, u140, u141, u142, u143, u144, u145, u146, u147, u148, u149, u150, u151, u152, u153, u154, u155, u156, u157, u158, u159, u160, u161, u162, u163, u164, u165, u166, u167, u168, u169, u170, u171, u172, u173, u174, u175, u176, u177, u178, u179, u180, u181, u182, u183, u184, u185, u186, u187, u188, u189, u190, u191, u192, u193, u194, u195, u196, u197, u198, u199, u200, u201, u202, u203, u204, u205, u206, u207, u208, u209, u210, u211, u212, u213, u214, u215, u216, u217, u218, u219, u220, u221, u222, u223, u224, u225, u226, u227, u228, u229, u230, u231, u232, u233, u234, u235, u236, u237, u238, u239, u240, u241, u242, u243, u244, u245, u246, u247, u248, u249, u250, u251, u252, u253, u254, u255, u256, u257, u258, u259, u260, u261, u262, u263, u264, u265, u266, u267, u268, u269, u270, u271, u272, u273, u274, u275, u276, u277, u278, u279, u280, u281, u282, u283, u284, u285, u286, u287, u288, u289, u290, u291, u292, u293, u294, u295, u296, u297, u298, u299, u300, u301, u302, u303, u304, u305, u306, u307, u308, u309, u310, u311, u312, u313, u314, u315, u316, u317, u318, u319, u320, u321, u322, u323, u324, u325, u326, u327, u328, u329, u330, u331, u332, u333, u334, u335, u336, u337, u338, u339, u340, u341, u342, u343, u344, u345, u346, u347, u348, u349, u350, u351, u352, u353, u354, u355, u356, u357, u358, u359, u360, u361, u362, u363, u364, u365, u366, u367, u368, u369, u370, u371, u372, u373, u374, u375, u376, u377, u378, u379, u380, u381, u382, u383, u384, u385, u386, u387, u388, u389, u390, u391, u392, u393, u394, u395, u396, u397, u398, u399, u400, u401, u402, u403, u404, u405, u406, u407, u408, u409, u410, u411, u412, u413, u414, u415, u416, u417, u418, u419, u420, u421, u422, u423, u424, u425, u426, u427, u428, u429, u430, u431, u432, u433, u434, u435, u436, u437, u438, u439, u440, u441, u442, u443, u444, u445, u446, u447, u448, u449, u450, u451], []⟩ w := by
 obtain ⟨q, hq⟩ : ∃ q, (c.pr k i).q = q := ⟨_, rfl⟩
 have hql : (sv q).length = m := by rw [sv_len, ← hq]; exact hlen
 have HR := hide hR; have HUP := hide hup
 rw [hq] at hQ
 have hput : sv ((c.pr k i).put d).q = sv q ++ [.string d] := by rw [pr_room _ _ hd (by omega), hq, sv_snoc]
 have HPUT := hide hput
 obtain ⟨i0, hi, hz0, hz1, hz2⟩ := en_info_parts str_info
 have hg := World.block_lt_of_cell? _ _ k15
 have B0 := hide (Below.refl w.heap.size w)
 have hE := Blk.new w 9 #[]
 have hD := Blk.new w 9 #[.string d]
 have hED := Blk.new (w.alloc (.cells #[] 9)) 9 #[.string d]
 have hDE := Blk.new (w.alloc (.cells #[.string d] 9)) 9 #[]
 have sE : (w.alloc (.cells #[] 9)).heap.size = w.heap.size + 1 := by simp
 have sD : (w.alloc (.cells #[.string d] 9)).heap.size = w.heap.size + 1 := by simp
 rw [sE] at hED
 rw [sD] at hDE
 have BE := hide (B0.out.alloc (Nat.le_refl _) (.cells #[] 9))
 have BD := hide (B0.out.alloc (Nat.le_refl _) (.cells #[.string d] 9))
 have BED := hide (BE.out.alloc (by rw [sE]; omega) (.cells #[.string d] 9))
 have BDE := hide (BD.out.alloc (by rw [sD]; omega) (.cells #[] 9))
 have OA := hide (own_emptyS hE (Nat.le_refl _))
 have OB := hide (own_emptyS (hE.alloc (.cells #[.string d] 9)) (Nat.le_refl _))
 have OC := hide (own_emptyS hDE (Nat.le_succ w.heap.size))
 have QA := hide (hQ.below BE.out (Nat.le_refl _))
 have QB := hide (hQ.below BED.out (Nat.le_refl _))
 have QC := hide (hQ.below BDE.out (Nat.le_refl _))
 have kE := (BE.out.cell (p := ⟨g, 15, none⟩) hg).trans k15
 have kD := (BD.out.cell (p := ⟨g, 15, none⟩) hg).trans k15
 have kED := (BED.out.cell (p := ⟨g, 15, none⟩) hg).trans k15
 have kDE := (BDE.out.cell (p := ⟨g, 15, none⟩) hg).trans k15
 have HOC : Hid (∀ u ∈ sv q, u.oneCell' = true) := hide (fun u hu => by obtain ⟨x, _, rfl⟩ := List.mem_map.1 hu; rfl)
 have HO1 : Hid (∀ u ∈ sv [d], u.oneCell' = true) := hide (fun u hu => by obtain ⟨x, _, rfl⟩ := List.mem_map.1 hu; rfl)
 have H63 : Hid (0 + (sv q).length ≤ maxLen) := hide (by rw [hql]; unfold maxLen; omega)
 have HBY : Hid ((0 + (sv q).length) * 16 ≤ 140737488355328) := hide (by rw [hql]; omega)
 have HS63 : Hid (0 + (sv q).length + (sv [d]).length ≤ maxLen) := hide (by rw [hql]; unfold maxLen; simp [sv]; omega)
 have HSBY : Hid ((0 + (sv q).length + (sv [d]).length) * 16 ≤ 140737488355328) := hide (by rw [hql]; simp [sv]; omega)
 have HHE := hide hE; have HQL := hide hql
 clear sE sD hput hup hQ hlen hq hql hDE hE
 conv => arg 2; whnf
 go_region_held3 (fun w' => w'.cell? ⟨g, 15, none⟩ = some (.map (some pm))) (first | exact k15 | exact kE | exact kD | exact kED | exact kDE | exact k8 | exact k9 | exact k10 | exact k11 | fail)
  (first
   | (refine step_append_all _ (by rfl) (.tmp 421) (.tmp 422) _ (by rfl) w.heap.size 9 i0 _ 16 Tryz.underlying136 hi hz0 hz1 hz2 rfl (.slice (some ⟨w.heap.size, 0, none⟩) 0 0) 0 [] (by rfl) (by exact OA.out) base (.slice ao m cp) (sv q) (by rfl) (by exact QA.out) HOC.out H63.out HBY.out (by exact BE.out.size) ?_; intro v1 w8 hown hgr hat; have K8 := kept_one BE.out (un_drew hgr) (by omega) (Nat.le_refl _); have O8 := hide hown; have B8 := hide K8; have N8 := hide (Blk.new w8 9 #[.string d]); have B9 := hide (B8.out.alloc B8.out.size (.cells #[.string d] 9)); have O9 := hide (O8.out.alloc (.cells #[.string d] 9)); have k9 := (B9.out.cell (p := ⟨g, 15, none⟩) hg).trans k15; have L9 := hide B8.out.size; have k8 := (B8.out.cell (p := ⟨g, 15, none⟩) hg).trans k15; clear hown hgr hat K8)
   | (refine step_append_all _ (by rfl) (.tmp 421) (.tmp 422) _ (by rfl) w.heap.size 9 i0 _ 16 Tryz.underlying136 hi hz0 hz1 hz2 rfl (.slice (some ⟨w.heap.size, 0, none⟩) 0 0) 0 [] (by rfl) (by exact OB.out) base (.slice ao m cp) (sv q) (by rfl) (by exact QB.out) HOC.out H63.out HBY.out (by exact BED.out.size) ?_; intro v1 w8 hown hgr hat; have K8 := kept_one BED.out (un_drew hgr) (by omega) (Nat.le_refl _); have O8 := hide hown; have B8 := hide K8; have N9 := hide (hED.grown (un_drew hgr) (by simp [Value.ownBlock])); have L9 := hide (Nat.le_succ w.heap.size); have k8 := (B8.out.cell (p := ⟨g, 15, none⟩) hg).trans k15; clear hown hgr hat K8)
   | (refine step_append_all _ (by rfl) (.tmp 421) (.tmp 422) _ (by rfl) w.heap.size 9 i0 _ 16 Tryz.underlying136 hi hz0 hz1 hz2 rfl (.slice (some ⟨w.heap.size + 1, 0, none⟩) 0 0) 0 [] (by rfl) (by exact OC.out) base (.slice ao m cp) (sv q) (by rfl) (by exact QC.out) HOC.out H63.out HBY.out (by exact BDE.out.size) ?_; intro v1 w8 hown hgr hat; have K8 := kept_one BDE.out (un_drew hgr) (by omega) (Nat.le_refl _); have O8 := hide hown; have B8 := hide K8; have N9 := hide ((hD.alloc (.cells #[] 9)).grown (un_drew hgr) (by simp [Value.ownBlock])); have L9 := hide (Nat.le_refl w.heap.size); have k8 := (B8.out.cell (p := ⟨g, 15, none⟩) hg).trans k15; clear hown hgr hat K8)
   | (refine step_append_all _ (by rfl) (.tmp 423) (.tmp 425) _ (by rfl) w.heap.size 9 i0 _ 16 Tryz.underlying136 hi hz0 hz1 hz2 rfl v1 (0 + (sv q).length) ([] ++ sv q) (by rfl) (by exact O9.out) w.heap.size (.slice (some ⟨w8.heap.size, 0, none⟩) 1 1) (sv [d]) (by rfl) (by exact qat_one N8.out L9.out) HO1.out HS63.out HSBY.out (by exact B9.out.size) ?_; intro v2 w10 hown hgr hat; rw [Nat.zero_add, List.nil_append] at hown; have K10 := kept_own B9.out O9.out hgr; obtain ⟨g9, c9, rfl, hob⟩ := form_of hown (Nat.lt_of_lt_of_le Nat.one_pos (Nat.le_add_left _ _)); obtain ⟨w11, hrun, k11, hfin⟩ := HUP.out w10 _ K10 hob; have O10 := hide hown; have F10 := hide hfin; have k10 := (K10.cell (p := ⟨g, 15, none⟩) hg).trans k15; clear hown hgr hat K10 hfin)
   | (refine step_append_all _ (by rfl) (.tmp 423) (.tmp 425) _ (by rfl) w.heap.size 9 i0 _ 16 Tryz.underlying136 hi hz0 hz1 hz2 rfl v1 (0 + (sv q).length) ([] ++ sv q) (by rfl) (by exact O8.out) w.heap.size (.slice (some ⟨w.heap.size + 1, 0, none⟩) 1 1) (sv [d]) (by rfl) (by exact qat_one N9.out L9.out) HO1.out HS63.out HSBY.out (by exact B8.out.size) ?_; intro v2 w10 hown hgr hat; rw [Nat.zero_add, List.nil_append] at hown; have K10 := kept_own B8.out O8.out hgr; obtain ⟨g9, c9, rfl, hob⟩ := form_of hown (Nat.lt_of_lt_of_le Nat.one_pos (Nat.le_add_left _ _)); obtain ⟨w11, hrun, k11, hfin⟩ := HUP.out w10 _ K10 hob; have O10 := hide hown; have F10 := hide hfin; have k10 := (K10.cell (p := ⟨g, 15, none⟩) hg).trans k15; clear hown hgr hat K10 hfin)
   | (refine step_append_all _ (by rfl) (.tmp 423) (.tmp 425) _ (by rfl) w.heap.size 9 i0 _ 16 Tryz.underlying136 hi hz0 hz1 hz2 rfl v1 (0 + (sv q).length) ([] ++ sv q) (by rfl) (by exact O8.out) w.heap.size (.slice (some ⟨w.heap.size, 0, none⟩) 1 1) (sv [d]) (by rfl) (by exact qat_one N9.out L9.out) HO1.out HS63.out HSBY.out (by exact B8.out.size) ?_; intro v2 w10 hown hgr hat; rw [Nat.zero_add, List.nil_append] at hown; have K10 := kept_own B8.out O8.out hgr; obtain ⟨g9, c9, rfl, hob⟩ := form_of hown (Nat.lt_of_lt_of_le Nat.one_pos (Nat.le_add_left _ _)); obtain ⟨w11, hrun, k11, hfin⟩ := HUP.out w10 _ K10 hob; have O10 := hide hown; have F10 := hide hfin; have k10 := (K10.cell (p := ⟨g, 15, none⟩) hg).trans k15; clear hown hgr hat K10 hfin))
 all_goals exact HR.out _ _ _ _ _ _ _ _ _ _ _ _ _ w11 (F10.out _ (by rw [HPUT.out]; exact QAt.of_own O10.out hbase))
end
end Go.Proofs.YtdogdlnaacimpaaGreatDoor
