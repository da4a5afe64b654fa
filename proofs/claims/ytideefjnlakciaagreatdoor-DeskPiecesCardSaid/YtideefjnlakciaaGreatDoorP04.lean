/- Bytes and numbers in memory: helpers; no condition. -/
import Derived.Test.YtideefjnlakciaaGreatDoorP01
import Derived.Test.YtideefjnlakciaaGreatDoorP03
import Derived.Test.YtideefjnlakciaaGreatDoorP02
import Derived.Deep.Cut
import Derived.Deep.CutRange
import Derived.Deep.CutBlock
import Derived.BigQuiet
import Derived.BigRegion
import Derived.Laws.BytesArg
set_option linter.unusedVariables false
set_option linter.unusedSimpArgs false
namespace Go.Proofs.YtideefjnlakciaaGreatDoor
section
open Go.RowKit
def bvN (l : List Nat) : List Value := l.map fun (n : Nat) => Value.int .u8 (n : Int)
theorem bvN_len (l : List Nat) : (bvN l).length = l.length := by simp [bvN]
theorem bvN_snoc (l : List Nat) (n : Nat) : bvN (l ++ [n]) = bvN l ++ [.int .u8 (n : Int)] := by simp [bvN]
def OwnTo (w w' : World) (v v' : Value) : Prop := w.grownBy w' v.ownBlock ∧ ∀ k, v'.ownBlock = some k → k < w'.heap.size ∧ (v.ownBlock = some k ∨ w.heap.size ≤ k)
theorem OwnTo.refl (w : World) (v : Value) (h : ∀ k, v.ownBlock = some k → k < w.heap.size) : OwnTo w w v v := ⟨World.grownBy.refl w _, fun k e => ⟨h k e, .inl e⟩⟩
theorem OwnTo.trans {w w1 w2 : World} {v v1 v2 : Value} (h : OwnTo w w1 v v1) (k : OwnTo w1 w2 v1 v2) : OwnTo w w2 v v2 := by
 refine ⟨⟨k.1.os.trans h.1.os, k.1.tape.trans h.1.tape, k.1.output.trans h.1.output, Nat.le_trans h.1.size k.1.size, fun i hi hne => ?_⟩, fun j e => ?_⟩
 ·rw [k.1.block i (Nat.lt_of_lt_of_le hi h.1.size) ?_]
  ·exact h.1.block i hi hne
  ·intro e
   rcases (h.2 i e.symm).2 with e2 | e2
   ·exact hne e2.symm
   ·omega
 ·obtain ⟨a, b⟩ := k.2 j e
  refine ⟨a, ?_⟩
  rcases b with b | b
  ·exact (h.2 j b).2
  ·exact .inr (Nat.le_trans h.1.size b)
theorem OwnTo.alloc {w w' : World} {v v' : Value} (h : OwnTo w w' v v') (o : Obj) : OwnTo w (w'.alloc o) v v' := ⟨only_alloc h.1 o, fun k e => ⟨by rw [World.size_alloc]; have := (h.2 k e).1; omega, (h.2 k e).2⟩⟩
def NumsAt (w : World) (A : Option Addr) (n : Nat) (zs : List Nat) : Prop := ∀ j, j < n → ∃ b off, A = some ⟨b, off, none⟩ ∧ w.cell? ⟨b, off + j, none⟩ = some (.int .i64 (zs.getD j 0 : Nat))
theorem u8_or : ∀ x : Fin 256, bits .or .u8 (x.val : Int) 128 = ((x.val % 128 + 128 : Nat) : Int) := by decide +kernel
set_option maxRecDepth 100000 in
theorem u8_wrap (m : Nat) : IntKind.u8.wrap (m : Int) = ((m % 256 : Nat) : Int) := by rw [IntKind.wrap_u8]; push_cast; rfl
theorem vbyte (m : Nat) : bits .or .u8 (IntKind.u8.wrap (m : Int)) 128 = ((m % 128 + 128 : Nat) : Int) := by
 rw [u8_wrap]
 have h := u8_or ⟨m % 256, Nat.mod_lt _ (by decide)⟩
 simp only at h
 rw [h]
 congr 2
 omega
theorem en_u8_info : (Tryz.prog.info? 5).map (fun i => (i.zero, i.size, i.bytes)) = some (some (.int .u8 0), 1, 1) := by kernel_rfl
set_option maxRecDepth 100000 in
theorem en_info_parts {t : TypeId} {z : Value} {a b : Nat} (h : (Tryz.prog.info? t).map (fun i => (i.zero, i.size, i.bytes)) = some (some z, a, b)) : ∃ i, Tryz.prog.info? t = some i ∧ i.zero = some z ∧ i.size = a ∧ i.bytes = b := by
 cases e : Tryz.prog.info? t with
 | none => rw [e] at h; cases h
 | some i => rw [e] at h; simp at h; exact ⟨i, rfl, h.1, h.2.1, h.2.2⟩
theorem vnums_len10 (l : List Nat) (h : ∀ z ∈ l, (vnum z).length ≤ 10) : (vnums l).length ≤ 10 * l.length := by
 induction l with
 | nil => simp [vnums_nil]
 | cons n l ih =>
  have h1 := h n (by simp)
  have h2 := ih (fun m hm => h m (by simp [hm]))
  rw [vnums_cons, List.length_append, List.length_cons]; omega
theorem vnums_take (zs : List Nat) (k : Nat) (hk : k < zs.length) : vnums (zs.take (k + 1)) = vnums (zs.take k) ++ vnum (zs.getD k 0) := by
 rw [List.take_succ_eq_append_getElem hk, vnums_app]
 congr 1
 rw [vnums_cons, vnums_nil, List.append_nil]
 simp [hk]
theorem own_of {w w' : World} {v : Value} {g o n c : Nat} (ho : v.ownBlock = some g ∨ w.heap.size ≤ g) (hlt : g < w'.heap.size) : ∀ k, (Value.slice (some ⟨g, o, none⟩) n c).ownBlock = some k → k < w'.heap.size ∧ (v.ownBlock = some k ∨ w.heap.size ≤ k) := by
 intro k e
 simp [Value.ownBlock] at e
 subst e
 exact ⟨hlt, ho⟩
end
section
open Go Go.RowKit
theorem ar_info : (Tryz.prog.info? 3).map (fun i => (i.zero, i.size, i.bytes)) = some (some (.int .i64 0), 1, 8) := by kernel_rfl
end
section
open Go Go.RowKit
def setE (n : Nat) (f c : Int) (r : List Int) : Int := if r.length ≠ n then 1 else if outT c = true then 2 else midE r f
def RowsAt (w : World) (B : Option Addr) (rs : List (List Int)) : Prop := ∀ j, j < rs.length → ∃ b off A c, B = some ⟨b, off, none⟩ ∧ w.cell? ⟨b, off + j, none⟩ = some (.slice A (rs.getD j []).length c) ∧ IsL w A (rs.getD j [])
theorem RowsAt.below {B : Nat} {w w' : World} {A : Option Addr} {rs : List (List Int)} (h : RowsAt w A rs) (hw : w.heap.size ≤ B) (hB : Below B w w') : RowsAt w' A rs := fun j hj => by
 obtain ⟨b, off, A, c, e, hc, hI⟩ := h j hj
 exact ⟨b, off, A, c, e, (hB.cell (p := ⟨b, off + j, none⟩) (Nat.lt_of_lt_of_le (World.block_lt_of_cell? _ _ hc) hw)).trans hc, hI.below hw hB⟩
def setL (zs : List Int) (rs : List (List Int)) (f : Int) (k : Nat) : List Int := (List.range k).map fun j => zs.getD j 0 + midV (rs.getD j []) f
theorem setL_succ (zs : List Int) (rs : List (List Int)) (f : Int) (k : Nat) : setL zs rs f (k + 1) = setL zs rs f k ++ [zs.getD k 0 + midV (rs.getD k []) f] := by simp [setL, List.range_succ]
theorem setL_len (zs : List Int) (rs : List (List Int)) (f : Int) (k : Nat) : (setL zs rs f k).length = k := by simp [setL]
theorem outT_bd {z : Int} (h : outT z = false) : -1099511627776 ≤ z ∧ z ≤ 1099511627776 := by simpa [outT] using h
theorem midN_bd {zs : List Int} {m : Nat} (h : 2 * m + 1 ≤ zs.length) (ha : zs.any outT = false) : -1099511627776 ≤ midN zs m ∧ midN zs m ≤ 1099511627776 := by
 have h1 := in_bd ha (j := m) (by omega)
 have h2 := in_bd ha (j := zs.length - 1 - m) (by omega)
 unfold midN
 omega
theorem midV_bd (zs : List Int) (f : Int) : -1099511627776 ≤ midV zs f ∧ midV zs f ≤ 1099511627776 := by
 unfold midV
 split
 ·rename_i h
  unfold midE at h
  split at h
  ·cases h
  ·rename_i h1
   split at h
   ·cases h
   ·rename_i h2
    exact midN_bd (by omega) (by simpa using h2)
 ·omega
theorem setE_zero {n : Nat} {f c : Int} {r : List Int} (h : setE n f c r = 0) : r.length = n ∧ outT c = false ∧ midE r f = 0 := by
 unfold setE at h
 split at h
 ·cases h
 ·rename_i h1
  split at h
  ·cases h
  ·rename_i h2
   exact ⟨by omega, by simpa using h2, h⟩
set_option maxRecDepth 100000 in
set_option maxHeartbeats 1000000 in
theorem one_any (s : Int) (A : Option Addr) (c : Nat) (r : List Int) (n : Nat) (f : Int) (w : World) (hI : IsL w A r) (hmax : r.length ≤ 100) (hf : f ≤ 9223372036854775807) :
 Calls Tryz.prog 199 #[.int .i64 s, .slice A r.length c, .int .i64 (n : Nat), .int .i64 f] w fun e w' => (∃ v, e = .returned (.tuple #[.int .i64 v, errV (setE n f s r)]) ∧ (setE n f s r = 0 → v = midV r f)) ∧ Below w.heap.size w w' := by
 have HM := hide (mid_any A c r f w hI (by omega) hf)
 clear hI hf hmax
 obtain ⟨l, hl⟩ : ∃ l, r.length = l := ⟨_, rfl⟩
 have HL := hide hl
 rw [hl] at HM ⊢
 clear hl
 by_cases h1 : l = n
 case neg =>
  have he : setE n f s r = 1 := by unfold setE; rw [if_pos (by rw [HL.out]; exact h1)]
  rw [he]
  have d1 : ((l : Int) != (n : Int)) = true := bne_iff_ne.2 (by omega)
  have d2 : ¬ (l : Int) = (n : Int) := by omega
  clear he HM
  go_enter Tryz.func199, Tryz.ntmps199
  go_wp2_with fail
  go_ret2
  exact ⟨⟨_, ret_two2 rfl errV_1, fun h => by cases h⟩, Below.refl _ _⟩
 case pos =>
  subst h1
  cases ho : outT s
  case true =>
   have he : setE l f s r = 2 := by unfold setE; rw [if_neg (by rw [HL.out]; simp), if_pos ho]
   rw [he]
   clear he HM
   by_cases hs : s < -1099511627776
   ·have d1 : decide (s < -1099511627776) = true := decide_eq_true hs
    go_enter Tryz.func199, Tryz.ntmps199
    go_wp2_with fail
    go_ret2
    exact ⟨⟨_, ret_two2 rfl errV_2, fun h => by cases h⟩, Below.refl _ _⟩
   ·have d1 : decide (s < -1099511627776) = false := decide_eq_false hs
    have d2 : decide (1099511627776 < s) = true := by unfold outT at ho; rw [d1] at ho; simpa using ho
    go_enter Tryz.func199, Tryz.ntmps199
    go_wp2_with fail
    go_ret2
    exact ⟨⟨_, ret_two2 rfl errV_2⟩, Below.refl _ _⟩
  case false =>
   have he : setE l f s r = midE r f := by unfold setE; rw [if_neg (by rw [HL.out]; simp), if_neg (by rw [ho]; simp)]
   rw [he]
   obtain ⟨b1, b2⟩ := outT_bd ho
   have d1 : decide (s < -1099511627776) = false := decide_eq_false (by omega)
   have d2 : decide (1099511627776 < s) = false := decide_eq_false (by omega)
   clear he ho b1 b2
   go_enter Tryz.func199, Tryz.ntmps199
   go_wp2_with (go_at_call 100; refine HM.out.mono ?_; rintro e w3 ⟨rfl, hB⟩; have HB := hide hB; clear hB)
   go_ret2
   exact ⟨⟨_, rfl, fun _ => rfl⟩, HB.out⟩
theorem all_succ {p : Nat → Prop} {k : Nat} (h : ∀ j, j < k → p j) (hk : p k) : ∀ j, j < k + 1 → p j := fun j hj => if e : j = k then e ▸ hk else h j (by omega)
theorem own_keepR {w w' : World} {base size n : Nat} {e : TypeId} {v : Value} {xs : List Value} (h : w.ownsRow base e size v n xs) (hB : Below w.heap.size w w') : w'.ownsRow base e size v n xs := by
 refine ⟨h.1, ?_⟩
 rcases h.2 with h1 | ⟨g, cap, cur, hv, hb, hg, rest⟩
 ·exact .inl h1
 ·exact .inr ⟨g, cap, cur, hv, hb, (hB.block g (Array.getElem?_eq_some_iff.1 hg).1).trans hg, rest⟩
theorem news1 {w : World} {g : Nat} {t : TypeId} {x : Value} (h : Blk w g t #[x]) : ∀ j u, [x][j]? = some u → w.cell? ((⟨g, 0, none⟩ : Addr).add j) = some u := by
 intro j u hu
 cases j with
 | zero => simp at hu; subst hu; exact h.cells1.1
 | succ j => simp at hu
end
section
open Go Go.RowKit
structure Mm where
 m : Nat
 gd : Int
 bd : Int
 fz : Bool
structure Tk where
 nw : Int
 c0 : Int
 c1 : Int
structure Sd where
 nx : Int
 la : Int
 nw : Int
 q : List ByteArray
structure Pr where
 lost : Int
 q : List ByteArray
structure Cl where
 ck : List Int
 rd : Int
 mm : Nat → Mm
 sd : Nat → Sd
 tk : Nat → Nat → Tk
 pr : Nat → Nat → Pr
structure Ls where
 s : Int
 c : Int
 t : Int
structure Rg where
 n : Int
 o : Int
 i : Int
structure Rn where
 ls : List Ls
 rg : List Rg
 dr : List Int
 md : List Int
def bitB (x : Int) (k : Nat) : Bool := bits .and .i64 (x / 2 ^ k) 1 == 1
def updF {α : Type} (f : Nat → α) (k : Nat) (x : α) : Nat → α := fun j => if j = k then x else f j
def upd2 {α : Type} (f : Nat → Nat → α) (k i : Nat) (x : α) : Nat → Nat → α := fun a b => if a = k ∧ b = i then x else f a b
def Mm.hear (s : Mm) (fr : Nat) (what : Int) : Mm := if s.fz then s else if what = 1 then ⟨s.m ||| 2 ^ fr, s.gd + 1, s.bd, s.fz⟩ else if what = 2 then ⟨clr s.m (2 ^ fr), s.gd, s.bd + 1, s.fz⟩ else ⟨clr s.m (2 ^ fr), s.gd, s.bd, s.fz⟩
def Mm.send (s : Mm) : Mm := if s.fz then s else if s.gd ≤ s.bd then ⟨s.m, s.gd, s.bd, true⟩ else ⟨s.m, 1, 0, s.fz⟩
theorem Mm.hearC (s : Mm) (id n fr : Nat) (what : Int) : hearsC id n s.m s.gd s.bd s.fz fr what = nodeC id n (s.hear fr what).m (s.hear fr what).gd (s.hear fr what).bd (s.hear fr what).fz := by
 unfold hearsC Mm.hear
 split
 ·rfl
 ·split
  ·rfl
  ·split <;> rfl
theorem Mm.sendC (s : Mm) (id n : Nat) : sendsC id n s.m s.gd s.bd s.fz = nodeC id n s.send.m s.send.gd s.send.bd s.send.fz := by
 unfold sendsC Mm.send
 split
 ·rfl
 ·split <;> rfl
def Tk.take (s : Tk) (x : Int) : Tk := bif takeB x s.nw then ⟨x, s.c0 + 1, s.c1⟩ else ⟨s.nw, s.c0, s.c1 + 1⟩
theorem Tk.takeC (s : Tk) (x : Int) : takeSt x s.nw s.c0 s.c1 = #[.int .i64 (s.take x).nw, .int .i64 (s.take x).c0, .int .i64 (s.take x).c1] := by
 unfold takeSt Tk.take
 cases takeB x s.nw <;> rfl
def Pr.put (s : Pr) (d : ByteArray) : Pr := ⟨if putE d.size s.q.length 16 = 12 then s.lost + 1 else s.lost, putQ s.q d (putE d.size s.q.length 16)⟩
def lostB (l : List Ls) (slot ch tn : Nat) : Bool := l.any fun x => decide (x.s = slot) && decide (x.c = ch) && bitB x.t tn
def liesB (fa : Nat) (i : Nat) : Bool := fa.testBit i
def modeV (fa : Nat) (md : List Int) (i : Nat) : Int := if liesB fa i = true ∧ i < md.length then md.getD i 0 else 0
def chanF (p : Pl) (tn : Nat) (f : FrR) (c : Cl) : Cl :=
 if f.lk < 0 then c
 else match p.lk[f.lk.toNat]? with
  | none => c
  | some l => if bitB l.t tn then
   { c with tk := upd2 c.tk f.lk.toNat tn ((c.tk f.lk.toNat tn).take f.sq), pr := if takeB f.sq (c.tk f.lk.toNat tn).nw then upd2 c.pr f.lk.toNat tn ((c.pr f.lk.toNat tn).put f.d) else c.pr }
   else c
def cameB (fr : Option FrR) (ls : List Ls) (slot ch tn : Nat) : Bool := fr.isSome && !lostB ls slot ch tn
def chanO (p : Pl) (tn : Nat) (fr : Option FrR) (b : Bool) (c : Cl) : Cl := match fr with | none => c | some f => if b then chanF p tn f c else c
def whatV (m from_ : Nat) (fr : Option FrR) (b : Bool) : Int := match fr with | none => 0 | some f => if b then judgeV m from_ f.mb.toNat else 0
def hearsF (p : Pl) (from_ tn slot : Nat) (fr : Option FrR) (ls : List Ls) (c : Cl) : Cl :=
 let c2 := chanO p tn fr (cameB fr ls slot 1 tn) (chanO p tn fr (cameB fr ls slot 0 tn) c)
 { c2 with mm := updF c.mm tn ((c.mm tn).hear from_ (whatV (c.mm tn).m from_ fr (cameB fr ls slot 0 tn || cameB fr ls slot 1 tn))) }
def hearAll (p : Pl) (node slot : Nat) (fr : Option FrR) (ls : List Ls) (c : Cl) : Nat → Cl
 | 0 => c
 | k + 1 => if k = node then hearAll p node slot fr ls c k else hearsF p node k slot fr ls (hearAll p node slot fr ls c k)
def loadsF (now : Int) (node : Int) : List Lk → Nat → Cl → Cl × (Int × Int × ByteArray)
 | [], _, c => (c, (-1, 0, ⟨#[]⟩))
 | l :: ls, k, c =>
  if l.f = node then
   if sdE now (c.sd k).la (c.sd k).nw l.b (c.sd k).q.length = 0 then
    ({ c with sd := updF c.sd k ⟨if (c.sd k).nx + 1 = 256 then 1 else (c.sd k).nx + 1, now, now, (c.sd k).q.tail⟩ }, ((k : Int), (c.sd k).nx, (c.sd k).q.headD ⟨#[]⟩))
   else loadsF now node ls (k + 1) { c with sd := updF c.sd k { c.sd k with nw := sdN (sdE now (c.sd k).la (c.sd k).nw l.b (c.sd k).q.length) now (c.sd k).nw } }
  else loadsF now node ls (k + 1) c
def tellM (nd node : Nat) (m : Nat) (md : Int) : Nat := if md = 2 then m ^^^ (2 ^ node ||| 2 ^ ((node + 1) % nd)) else m
def slotF (p : Pl) (fa : Nat) (r : Rn) (i : Nat) (c : Cl) : Cl :=
 match p.sl[i]? with
 | none => c
 | some s =>
  let node := s.n.toNat
  let mb := c.mm node
  let md := modeV fa r.md node
  let ok := sendsOk mb.gd mb.bd mb.fz && decide (md ≠ 1)
  let c1 := { c with mm := updF c.mm node mb.send }
  let told := tellM p.nd.toNat node (sendsV mb.m mb.gd mb.bd mb.fz).toNat md
  if ok then
   let x := loadsF (c.rd * p.rd + s.f) s.n p.lk 0 c1
   hearAll p node i (some ⟨s.n, i, told, x.2.1, x.2.2.1, x.2.2.2⟩) r.ls x.1 p.nd.toNat
  else hearAll p node i none r.ls c1 p.nd.toNat
def slotsF (p : Pl) (fa : Nat) (r : Rn) (c : Cl) : Nat → Cl
 | 0 => c
 | k + 1 => slotF p fa r k (slotsF p fa r c k)
def clampV (x most : Int) : Int := max (-most) (min most x)
def rowsN (c : List Int) (n : Nat) : List (List Int) := (List.range n).map fun i => (List.range n).map fun k => c.getD k 0 - c.getD i 0
def setRow (rs : List (List Int)) (i k : Nat) (x : Int) : List (List Int) := rs.set i ((rs.getD i []).set k x)
def readF (p : Pl) (fa : Nat) (c : List Int) (rs : List (List Int)) (x : Rg) : List (List Int) :=
 if x.n < 0 ∨ p.nd ≤ x.n ∨ x.o < 0 ∨ p.nd ≤ x.o ∨ x.n = x.o then rs
 else setRow rs x.n.toNat x.o.toNat (if liesB fa x.o.toNat then clampV x.i 549755813888 else c.getD x.o.toNat 0 - c.getD x.n.toNat 0 + clampV x.i p.ji)
def readAll (p : Pl) (fa : Nat) (c : List Int) (l : List Rg) : List (List Int) := l.foldl (readF p fa c) (rowsN c p.nd.toNat)
def driftF (p : Pl) (zs : List Int) (dr : List Int) : List Int := (List.range zs.length).map fun i => zs.getD i 0 + (if i < dr.length then clampV (dr.getD i 0) p.dr else 0)
def wildB (l : List Int) : Bool := l.any fun n => decide (n < -274877906944) || decide (274877906944 < n)
def setsF (p : Pl) (fa : Nat) (c : List Int) (r : Rn) : List Int := driftF p (setL c (readAll p fa c r.rg) p.fa c.length) r.dr
def playE (p : Pl) (fa : Nat) (r : Rn) (c : Cl) : Int := if wildB (setsF p fa c.ck r) then 6 else 0
def playF (p : Pl) (fa : Nat) (r : Rn) (c : Cl) : Cl :=
 if wildB (setsF p fa c.ck r) then c else { slotsF p fa r c p.sl.length with ck := setsF p fa c.ck r, rd := c.rd + 1 }
def startF (p : Pl) (ck : List Int) : Cl := ⟨ck, 0, fun _ => ⟨2 ^ p.nd.toNat - 1, 1, 0, false⟩, fun _ => ⟨0, -1, 0, []⟩, fun _ _ => ⟨-1, 0, 0⟩, fun _ _ => ⟨0, []⟩⟩
end
section
open Go Go.RowKit
def LossAt (w : World) (A : Option Addr) (l : List Ls) : Prop := ∀ (j : Nat) (x : Ls), l[j]? = some x → ∃ b off, A = some ⟨b, off, none⟩ ∧ w.cell? ⟨b, off + j * 3, none⟩ = some (.int .i64 x.s) ∧ w.cell? ⟨b, off + j * 3 + 1, none⟩ = some (.int .i64 x.c) ∧ w.cell? ⟨b, off + j * 3 + 2, none⟩ = some (.int .i64 x.t)
theorem LossAt.below {B : Nat} {w w' : World} {A : Option Addr} {l : List Ls} (h : LossAt w A l) (hw : w.heap.size ≤ B) (hB : Below B w w') : LossAt w' A l := fun j x hj => by
 obtain ⟨b, off, e, h0, h1, h2⟩ := h j x hj
 have hlt : b < B := Nat.lt_of_lt_of_le (World.block_lt_of_cell? _ _ h0) hw
 exact ⟨b, off, e, (hB.cell (p := ⟨b, _, none⟩) hlt).trans h0, (hB.cell (p := ⟨b, _, none⟩) hlt).trans h1, (hB.cell (p := ⟨b, _, none⟩) hlt).trans h2⟩
def lossB (x : Ls) (slot ch tn : Nat) : Bool := decide (x.s = slot) && decide (x.c = ch) && bitB x.t tn
theorem lostB_any (l : List Ls) (slot ch tn : Nat) : lostB l slot ch tn = l.any fun x => lossB x slot ch tn := rfl
theorem lost_yes {l : List Ls} {slot ch tn k : Nat} {x : Ls} (hk : l[k]? = some x) (hb : lossB x slot ch tn = true) : lostB l slot ch tn = true := by
 rw [lostB_any, List.any_eq_true]
 exact ⟨x, List.mem_of_getElem? hk, hb⟩
theorem lost_no {l : List Ls} {slot ch tn : Nat} (h : ∀ j x, j < l.length → l[j]? = some x → lossB x slot ch tn = false) : lostB l slot ch tn = false := by
 rw [lostB_any, List.any_eq_false]
 intro x hx
 obtain ⟨j, hj, e⟩ := List.mem_iff_getElem.1 hx
 rw [h j x hj (by rw [List.getElem?_eq_getElem hj, e])]
 decide
theorem lost_step {l : List Ls} {slot ch tn k : Nat} {x : Ls} (h : ∀ j x, j < k → l[j]? = some x → lossB x slot ch tn = false) (hk : l[k]? = some x) (hb : lossB x slot ch tn = false) : ∀ j x, j < k + 1 → l[j]? = some x → lossB x slot ch tn = false := by
 intro j y hj hy
 by_cases e : j < k
 ·exact h j y e hy
 ·obtain rfl : j = k := by omega
  rw [hk] at hy
  cases hy
  exact hb
set_option maxRecDepth 100000 in
set_option maxHeartbeats 1000000 in
theorem lost_any (A : Option Addr) (c : Nat) (l : List Ls) (slot ch tn : Nat) (w : World) (hA : LossAt w A l) (hmax : l.length ≤ 9223372036854775807) (hs : slot ≤ 100) (hc : ch ≤ 2) (ht : tn ≤ 20) :
 Calls Tryz.prog 203 #[.slice A l.length c, .int .i64 slot, .int .i64 ch, .int .i64 tn] w fun e w' => e = .returned (.bool (lostB l slot ch tn)) ∧ Below w.heap.size w w' := by
 have HA := hide hA; clear hA
 obtain ⟨n, hn⟩ : ∃ n, l.length = n := ⟨_, rfl⟩
 have HN := hide hn
 rw [hn] at hmax ⊢
 clear hn
 go_enter Tryz.func203, Tryz.ntmps203
 go_wp2_with fail
 go_loopw [13] (fun i wr => ∃ k : Nat, k ≤ n ∧ i = .int .i64 k ∧ Hid (∀ j x, j < k → l[j]? = some x → lossB x slot ch tn = false) ∧ Hid (Below w.heap.size w wr)) (fun i _ => n - (intOf i).toNat)
 case atStart => exact ⟨0, by omega, rfl, hide (fun j x hj => absurd hj (by omega)), hide (Below.refl _ _)⟩
 case round =>
  obtain ⟨k, hk, rfl, HF, HW⟩ := hrel
  by_cases hlt : k < n
  ·obtain ⟨x, hx⟩ : ∃ x, l[k]? = some x := ⟨_, List.getElem?_eq_getElem (by rw [HN.out]; exact hlt)⟩
   obtain ⟨b, off, rfl, h0, h1, h2⟩ := (HA.out.below (Nat.le_refl _) HW.out) k x hx
   have HX := hide hx; clear hx
   obtain ⟨xs, xc, xt⟩ := x
   dsimp only at h0 h1 h2
   go_wp2_with fail
   all_goals first
    | (go_roundw
       case rel => exact ⟨k + 1, by omega, by go_num, hide (lost_step HF.out HX.out (by simp [lossB, bitB, *])), hide (HW.out.alloc HW.out.size _)⟩
       case measure => simp [intOf]; omega)
    | (go_ret
       exact ⟨by rw [lost_yes HX.out (by simp [lossB, bitB, *])]; rfl, HW.out.alloc HW.out.size _⟩)
  ·obtain rfl : k = n := by omega
   go_wp2_with fail
   go_ret
   exact ⟨by rw [lost_no (fun j x hj hx => HF.out j x (by rw [HN.out] at hj; exact hj) hx)]; rfl, HW.out⟩
abbrev clC (nd fa sk ji dr R : Int) (S L : Value) (fr : Int) (Q : Value) (fy : Int) (ck mm sd tk pr : Value) (rd : Int) : Array Value :=
 #[.int .i64 nd, .int .i64 fa, .int .i64 sk, .int .i64 ji, .int .i64 dr, .int .i64 R, S, L, .int .i64 fr, Q, .int .i64 fy, ck, mm, sd, tk, pr, .int .i64 rd]
section
variable (g : Nat) (nd fa sk ji dr R : Int) (S L : Value) (fr : Int) (Q : Value) (mm sd tk pr : Value) (rd : Int)
set_option maxRecDepth 100000 in
theorem lies_any (fy i : Nat) (ck : Value) (w : World) (hb : Blk w g 210 (clC nd fa sk ji dr R S L fr Q fy ck mm sd tk pr rd)) (hf : fy < 65536) (hi : i ≤ 20) :
 Calls Tryz.prog 142 #[.pointer (some ⟨g, 0, none⟩), .int .i64 i] w fun e w' => e = .returned (.bool (liesB fy i)) ∧ w' = w := by
 have k10 := hb.cell 10
 simp at k10
 clear hb
 have e1 : (bits .and .i64 ((fy : Int) / 2 ^ i) 1 == 1) = liesB fy i := by
  rw [bit_one fy i hf]
  unfold liesB
  cases fy.testBit i <;> rfl
 have H := hide e1
 clear e1
 go_enter Tryz.func142, Tryz.ntmps142
 go_wp2_with fail
 go_ret
 exact ⟨by rw [← H.out]; rfl, rfl⟩
theorem wild_yes {zs : List Int} {k : Nat} (hk : k < zs.length) (h : zs.getD k 0 < -274877906944 ∨ 274877906944 < zs.getD k 0) : wildB zs = true := by
 unfold wildB
 rw [List.any_eq_true]
 refine ⟨zs.getD k 0, by rw [List.getD_eq_getElem?_getD, List.getElem?_eq_getElem hk]; exact List.getElem_mem hk, ?_⟩
 simpa using h
theorem wild_no {zs : List Int} (h : ∀ k, k < zs.length → -274877906944 ≤ zs.getD k 0 ∧ zs.getD k 0 ≤ 274877906944) : wildB zs = false := by
 unfold wildB
 rw [List.any_eq_false]
 intro x hx
 obtain ⟨j, hj, e⟩ := List.mem_iff_getElem.1 hx
 have := h j hj
 rw [List.getD_eq_getElem?_getD, List.getElem?_eq_getElem hj, e] at this
 simp at this ⊢
 omega
set_option maxRecDepth 100000 in
theorem wild_any (fy : Int) (A : Option Addr) (c : Nat) (zs : List Int) (w : World) (hb : Blk w g 210 (clC nd fa sk ji dr R S L fr Q fy (.slice A zs.length c) mm sd tk pr rd)) (hI : IsL w A zs) (hmax : zs.length ≤ 1000) :
 Calls Tryz.prog 144 #[.pointer (some ⟨g, 0, none⟩)] w fun e w' => e = .returned (.bool (wildB zs)) ∧ w' = w := by
 have k11 := hb.cell 11
 simp at k11
 have HI := hide hI
 clear hb hI
 obtain ⟨n, hn⟩ : ∃ n, zs.length = n := ⟨_, rfl⟩
 have HN := hide hn
 rw [hn] at hmax k11
 clear hn
 go_enter Tryz.func144, Tryz.ntmps144
 go_wp2_with fail
 go_loopw [10] (fun i wr => ∃ k : Nat, k ≤ n ∧ i = .int .i64 k ∧ Hid (∀ j, j < k → -274877906944 ≤ zs.getD j 0 ∧ zs.getD j 0 ≤ 274877906944) ∧ wr = w) (fun i _ => n - (intOf i).toNat)
 case atStart => exact ⟨0, by omega, rfl, hide (fun j hj => absurd hj (by omega)), rfl⟩
 case round =>
  obtain ⟨k, hk, rfl, HF, rfl⟩ := hrel
  by_cases hlt : k < n
  ·obtain ⟨b, off, rfl, h0⟩ := HI.out k (by rw [HN.out]; exact hlt)
   obtain ⟨x, hx⟩ : ∃ x, zs.getD k 0 = x := ⟨_, rfl⟩
   rw [hx] at h0
   have HX := hide hx; clear hx
   by_cases a : x < -274877906944
   ·have d1 : decide (x < -274877906944) = true := decide_eq_true a
    go_wp2_with fail
    go_ret
    exact ⟨by rw [wild_yes (by rw [HN.out]; exact hlt) (by rw [HX.out]; exact .inl a)]; rfl, rfl⟩
   ·have d1 : decide (x < -274877906944) = false := decide_eq_false a
    by_cases b2 : 274877906944 < x
    ·have d2 : decide (274877906944 < x) = true := decide_eq_true b2
     go_wp2_with fail
     go_ret
     exact ⟨by rw [wild_yes (by rw [HN.out]; exact hlt) (by rw [HX.out]; exact .inr b2)]; rfl, rfl⟩
    ·have d2 : decide (274877906944 < x) = false := decide_eq_false b2
     go_wp2_with fail
     go_roundw
     case rel => exact ⟨k + 1, by omega, by go_num, hide (fun j hj => by
      by_cases e : j < k
      ·exact HF.out j e
      ·obtain rfl : j = k := by omega
       rw [HX.out]; omega), trivial⟩
     case measure => simp [intOf]; omega
  ·obtain rfl : k = n := by omega
   go_wp2_with fail
   go_ret
   exact ⟨by rw [wild_no (fun j hj => HF.out j (by rw [HN.out] at hj; exact hj))]; rfl, rfl⟩
end
end
section
open Go.RowKit
end
section
open Go Go.RowKit
def IsTop (l : List Int) (m : Int) : Prop := (∃ j, j < l.length ∧ l.getD j 0 = m) ∧ ∀ j, j < l.length → l.getD j 0 ≤ m
def IsLow (l : List Int) (m : Int) : Prop := (∃ j, j < l.length ∧ l.getD j 0 = m) ∧ ∀ j, j < l.length → m ≤ l.getD j 0
theorem top_one {zs : List Int} {x : Int} (h : zs.getD 0 0 = x) : (∃ j, j < 1 ∧ zs.getD j 0 = x) ∧ ∀ j, j < 1 → zs.getD j 0 ≤ x :=
 ⟨⟨0, by omega, h⟩, fun j hj => by have e : j = 0 := by omega
                                   rw [e, h]
                                   exact Int.le_refl _⟩
theorem low_one {zs : List Int} {x : Int} (h : zs.getD 0 0 = x) : (∃ j, j < 1 ∧ zs.getD j 0 = x) ∧ ∀ j, j < 1 → x ≤ zs.getD j 0 :=
 ⟨⟨0, by omega, h⟩, fun j hj => by have e : j = 0 := by omega
                                   rw [e, h]
                                   exact Int.le_refl _⟩
set_option maxRecDepth 100000 in
set_option maxHeartbeats 1000000 in
theorem max_any (A : Option Addr) (c : Nat) (zs : List Int) (w : World) (hI : IsL w A zs) (h0 : 0 < zs.length) (hmax : zs.length ≤ 1000) :
 Calls Tryz.prog 180 #[.slice A zs.length c] w fun e w' => ∃ m, e = .returned (.int .i64 m) ∧ IsTop zs m ∧ w' = w := by
 obtain ⟨b, off, rfl, hc0⟩ := hI 0 h0
 have HI := hide hI; clear hI
 obtain ⟨n, hn⟩ : ∃ n, zs.length = n := ⟨_, rfl⟩
 have HN := hide hn
 rw [hn] at hmax h0 ⊢
 clear hn
 have d1 : decide ((n : Int) < 1) = false := decide_eq_false (by omega)
 obtain ⟨x0, hx0⟩ : ∃ x, zs.getD 0 0 = x := ⟨_, rfl⟩
 rw [hx0, Nat.add_zero] at hc0
 have HX0 := hide hx0; clear hx0
 go_enter Tryz.func180, Tryz.ntmps180
 go_wp2_with fail
 go_loopw [3, 4] (fun m i wr => ∃ (k : Nat) (y : Int), 1 ≤ k ∧ k ≤ n ∧ i = .int .i64 k ∧ m = .int .i64 y ∧ Hid ((∃ j, j < k ∧ zs.getD j 0 = y) ∧ ∀ j, j < k → zs.getD j 0 ≤ y) ∧ Hid (wr = w)) (fun _ i _ => n - (intOf i).toNat)
 case atStart => exact ⟨1, x0, by omega, by omega, rfl, rfl, hide (top_one HX0.out), hide rfl⟩
 case round =>
  obtain ⟨k, y, hk1, hk, rfl, rfl, HM, HW⟩ := hrel
  by_cases hlt : k < n
  ·obtain ⟨b', off', e, hc⟩ := HI.out k (by rw [HN.out]; exact hlt)
   cases e
   obtain ⟨x, hx⟩ : ∃ x, zs.getD k 0 = x := ⟨_, rfl⟩
   rw [hx, ← HW.out] at hc
   have HX := hide hx; clear hx
   go_wp2_with fail
   go_roundw
   case rel => exact ⟨k + 1, max y x, by omega, by omega, by go_num, rfl, hide (by
    obtain ⟨⟨j, hj, e⟩, h2⟩ := HM.out
    refine ⟨?_, fun i hi => ?_⟩
    ·rcases Int.le_total x y with h | h
     ·exact ⟨j, by omega, by rw [e]; omega⟩
     ·exact ⟨k, by omega, by rw [HX.out]; omega⟩
    ·rcases Nat.lt_or_ge i k with h | h
     ·have := h2 i h; omega
     ·obtain rfl : i = k := by omega
      rw [HX.out]; omega), HW⟩
   case measure => simp [intOf]; omega
  ·obtain rfl : k = n := by omega
   go_wp2_with fail
   go_ret
   exact ⟨y, rfl, ⟨by rw [HN.out]; exact HM.out.1, by rw [HN.out]; exact HM.out.2⟩, HW.out⟩
set_option maxRecDepth 100000 in
set_option maxHeartbeats 1000000 in
theorem min_any (A : Option Addr) (c : Nat) (zs : List Int) (w : World) (hI : IsL w A zs) (h0 : 0 < zs.length) (hmax : zs.length ≤ 1000) :
 Calls Tryz.prog 181 #[.slice A zs.length c] w fun e w' => ∃ m, e = .returned (.int .i64 m) ∧ IsLow zs m ∧ w' = w := by
 obtain ⟨b, off, rfl, hc0⟩ := hI 0 h0
 have HI := hide hI; clear hI
 obtain ⟨n, hn⟩ : ∃ n, zs.length = n := ⟨_, rfl⟩
 have HN := hide hn
 rw [hn] at hmax h0 ⊢
 clear hn
 have d1 : decide ((n : Int) < 1) = false := decide_eq_false (by omega)
 obtain ⟨x0, hx0⟩ : ∃ x, zs.getD 0 0 = x := ⟨_, rfl⟩
 rw [hx0, Nat.add_zero] at hc0
 have HX0 := hide hx0; clear hx0
 go_enter Tryz.func181, Tryz.ntmps181
 go_wp2_with fail
 go_loopw [3, 4] (fun m i wr => ∃ (k : Nat) (y : Int), 1 ≤ k ∧ k ≤ n ∧ i = .int .i64 k ∧ m = .int .i64 y ∧ Hid ((∃ j, j < k ∧ zs.getD j 0 = y) ∧ ∀ j, j < k → y ≤ zs.getD j 0) ∧ Hid (wr = w)) (fun _ i _ => n - (intOf i).toNat)
 case atStart => exact ⟨1, x0, by omega, by omega, rfl, rfl, hide (low_one HX0.out), hide rfl⟩
 case round =>
  obtain ⟨k, y, hk1, hk, rfl, rfl, HM, HW⟩ := hrel
  by_cases hlt : k < n
  ·obtain ⟨b', off', e, hc⟩ := HI.out k (by rw [HN.out]; exact hlt)
   cases e
   obtain ⟨x, hx⟩ : ∃ x, zs.getD k 0 = x := ⟨_, rfl⟩
   rw [hx, ← HW.out] at hc
   have HX := hide hx; clear hx
   go_wp2_with fail
   go_roundw
   case rel => exact ⟨k + 1, min y x, by omega, by omega, by go_num, rfl, hide (by
    obtain ⟨⟨j, hj, e⟩, h2⟩ := HM.out
    refine ⟨?_, fun i hi => ?_⟩
    ·rcases Int.le_total y x with h | h
     ·exact ⟨j, by omega, by rw [e]; omega⟩
     ·exact ⟨k, by omega, by rw [HX.out]; omega⟩
    ·rcases Nat.lt_or_ge i k with h | h
     ·have := h2 i h; omega
     ·obtain rfl : i = k := by omega
      rw [HX.out]; omega), HW⟩
   case measure => simp [intOf]; omega
  ·obtain rfl : k = n := by omega
   go_wp2_with fail
   go_ret
   exact ⟨y, rfl, ⟨by rw [HN.out]; exact HM.out.1, by rw [HN.out]; exact HM.out.2⟩, HW.out⟩
theorem spread_any (A : Option Addr) (c : Nat) (zs : List Int) (w : World) (hI : IsL w A zs) (h0 : 0 < zs.length) (hmax : zs.length ≤ 1000) (hb : ∀ j, j < zs.length → -1000000000000000 ≤ zs.getD j 0 ∧ zs.getD j 0 ≤ 1000000000000000) :
 Calls Tryz.prog 143 #[.slice A zs.length c] w fun e w' => ∃ a b, e = .returned (.int .i64 (a - b)) ∧ IsTop zs a ∧ IsLow zs b ∧ w' = w := by
 have HA := hide (max_any A c zs w hI h0 hmax); have HB := hide (min_any A c zs w hI h0 hmax)
 have HD := hide hb
 clear hI hb
 obtain ⟨n, hn⟩ : ∃ n, zs.length = n := ⟨_, rfl⟩
 rw [hn] at h0 HA HB HD ⊢
 have HN := hide hn
 clear hn
 have d1 : ((n : Int) == 0) = false := beq_eq_false_iff_ne.2 (by omega)
 have d2 : ¬ n = 0 := by omega
 go_enter Tryz.func143, Tryz.ntmps143
 go_wp2_with fail
 refine HA.out.mono ?_
 rintro e w1 ⟨a, rfl, ha, rfl⟩
 have HTA := hide ha; clear ha
 go_wp2_with fail
 refine HB.out.mono ?_
 rintro e w2 ⟨b, rfl, hb2, rfl⟩
 have HTB := hide hb2; clear hb2
 have hr : wrap64 (a - b) = a - b := by
  obtain ⟨⟨j, hj, e1⟩, _⟩ := HTA.out
  obtain ⟨⟨i, hi, e2⟩, _⟩ := HTB.out
  have := HD.out j (by rw [← HN.out]; exact hj)
  have := HD.out i (by rw [← HN.out]; exact hi)
  unfold wrap64; omega
 have hr2 : IntKind.i64.wrap (a - b) = a - b := by rw [IntKind.wrap_i64]; unfold wrap64 at hr; exact hr
 go_wp2_with fail
 go_ret
 exact ⟨a, b, rfl, HTA.out, HTB.out, rfl⟩
end
section
open Go Go.RowKit
attribute [local irreducible] liesB
section
variable (g : Nat) (nd fa sk ji dr R : Int) (S L : Value) (fr : Int) (Q : Value) (mm sd tk pr : Value) (rd : Int)
set_option maxRecDepth 100000 in
set_option maxHeartbeats 1000000 in
theorem mode_any (fy i : Nat) (ck : Value) (x y z : Value) (A : Option Addr) (c : Nat) (md : List Int) (w : World) (hb : Blk w g 210 (clC nd fa sk ji dr R S L fr Q fy ck mm sd tk pr rd)) (hf : fy < 65536) (hi : i ≤ 20) (hI : IsL w A md) (hmax : md.length ≤ 9223372036854775807) :
 Calls Tryz.prog 176 #[.pointer (some ⟨g, 0, none⟩), .int .i64 i, .agg #[x, y, z, .slice A md.length c]] w fun e w' => e = .returned (.int .i64 (modeV fy md i)) ∧ Below w.heap.size w w' := by
 have HL := hide (lies_any g nd fa sk ji dr R S L fr Q mm sd tk pr rd fy i ck (w.alloc (.cells #[x, y, z, .slice A md.length c] 35)) (hb.alloc _) hf hi)
 have HI := hide (hI.below (Nat.le_refl _) ((Below.refl w.heap.size w).alloc (Nat.le_refl _) (.cells #[x, y, z, .slice A md.length c] 35)))
 have HB := hide ((Below.refl w.heap.size w).alloc (Nat.le_refl _) (.cells #[x, y, z, .slice A md.length c] 35))
 clear hb hI
 obtain ⟨n, hn⟩ : ∃ n, md.length = n := ⟨_, rfl⟩
 have HN := hide hn
 obtain ⟨v, hv⟩ : ∃ v, modeV fy md i = v := ⟨_, rfl⟩
 have HV := hide hv
 obtain ⟨b, hbb⟩ : ∃ b, liesB fy i = b := ⟨_, rfl⟩
 rw [hbb] at HL
 rw [hn] at hmax HL HB HI ⊢
 rw [hv]
 unfold modeV at hv
 rw [hbb, hn] at hv
 clear hn hbb HV
 by_cases h1 : b = true
 ·subst h1
  by_cases h2 : i < n
  ·obtain ⟨b2, off, rfl, hc⟩ := HI.out i (by rw [HN.out]; exact h2)
   rw [if_pos ⟨rfl, h2⟩] at hv
   rw [hv] at hc
   have d1 : decide ((i : Int) < (n : Int)) = true := decide_eq_true (by omega)
   clear hv
   go_enter Tryz.func176, Tryz.ntmps176
   go_wp2_with (fail)
   refine HL.out.mono ?_
   rintro e w2 ⟨rfl, rfl⟩
   go_wp2_with (fail)
   go_ret
   exact ⟨rfl, HB.out⟩
  ·rw [if_neg (by omega)] at hv
   subst hv
   have d1 : decide ((i : Int) < (n : Int)) = false := decide_eq_false (by omega)
   go_enter Tryz.func176, Tryz.ntmps176
   go_wp2_with (fail)
   refine HL.out.mono ?_
   rintro e w2 ⟨rfl, rfl⟩
   go_wp2_with (fail)
   go_ret
   exact ⟨rfl, HB.out⟩
 ·have h1 : b = false := by simpa using h1
  subst h1
  rw [if_neg (by simp)] at hv
  subst hv
  go_enter Tryz.func176, Tryz.ntmps176
  go_wp2_with (fail)
  refine HL.out.mono ?_
  rintro e w2 ⟨rfl, rfl⟩
  go_wp2_with (fail)
  go_ret
  exact ⟨rfl, HB.out⟩
end
theorem isl_ownC {w : World} {base n : Nat} {v : Value} {zs : List Int} (h : w.ownsRow base 3 1 v n (zs.map (Value.int .i64))) (hz : zs.length = n) : ∃ A c, v = .slice A n c ∧ IsL w A zs := by
 rcases h.2 with ⟨rfl, h0⟩ | ⟨g, c, cur, rfl, _, _, _, _, _, _⟩
 ·subst h0
  exact ⟨none, 0, rfl, fun j hj => by omega⟩
 ·exact ⟨_, c, rfl, fun j hj => ⟨g, 0, rfl, by rw [Nat.zero_add]; exact own_get h (by omega)⟩⟩
def honL (fy : Nat) (zs : List Int) : Nat → List Int
 | 0 => []
 | k + 1 => if liesB fy k = true then honL fy zs k else honL fy zs k ++ [zs.getD k 0]
theorem honL_len (fy : Nat) (zs : List Int) (k : Nat) : (honL fy zs k).length ≤ k := by
 induction k with
 | zero => simp [honL]
 | succ k ih =>
  unfold honL
  split
  ·omega
  ·rw [List.length_append, List.length_singleton]; omega
theorem honL_no {fy : Nat} {zs : List Int} {k : Nat} (h : liesB fy k = false) : honL fy zs (k + 1) = honL fy zs k ++ [zs.getD k 0] := by conv => lhs; unfold honL; rw [if_neg (by rw [h]; decide)]
theorem honL_yes {fy : Nat} {zs : List Int} {k : Nat} (h : liesB fy k = true) : honL fy zs (k + 1) = honL fy zs k := by conv => lhs; unfold honL; rw [if_pos h]
theorem honL_mem {fy : Nat} {zs : List Int} {P : Int → Prop} {k : Nat} (hz : ∀ j, j < k → P (zs.getD j 0)) : ∀ x ∈ honL fy zs k, P x := by
 induction k with
 | zero => simp [honL]
 | succ k ih =>
  unfold honL
  split
  ·exact ih (fun j hj => hz j (by omega))
  ·intro x hx
   rcases List.mem_append.1 hx with h | h
   ·exact ih (fun j hj => hz j (by omega)) x h
   ·simp at h; subst h; exact hz k (by omega)
theorem getD_memC {l : List Int} {j : Nat} (h : j < l.length) : l.getD j 0 ∈ l := by
 rw [List.getD_eq_getElem?_getD, List.getElem?_eq_getElem h]
 exact List.getElem_mem h
section
variable (g : Nat) (nd fa sk ji dr R : Int) (S L : Value) (fr : Int) (Q : Value) (mm sd tk pr : Value) (rd : Int)
set_option maxRecDepth 100000 in
set_option maxHeartbeats 1000000 in
theorem spreadC_any (fy : Nat) (A : Option Addr) (c : Nat) (zs : List Int) (w : World) (hb : Blk w g 210 (clC nd fa sk ji dr R S L fr Q fy (.slice A zs.length c) mm sd tk pr rd)) (hf : fy < 65536) (hI : IsL w A zs) (hmax : zs.length ≤ 16) (h0 : 0 < (honL fy zs zs.length).length) (hz : ∀ j, j < zs.length → -1000000000000000 ≤ zs.getD j 0 ∧ zs.getD j 0 ≤ 1000000000000000) :
 Calls Tryz.prog 106 #[.pointer (some ⟨g, 0, none⟩)] w fun e w' => (∃ a b, e = .returned (.int .i64 (a - b)) ∧ IsTop (honL fy zs zs.length) a ∧ IsLow (honL fy zs zs.length) b) ∧ Below w.heap.size w w' := by
 have k11 := hb.cell 11
 simp at k11
 have HI := hide hI; have HBK := hide hb; have HZ := hide hz; have H0 := hide h0
 clear hb hI hz h0
 obtain ⟨n, hn⟩ : ∃ n, zs.length = n := ⟨_, rfl⟩
 have HN := hide hn
 rw [hn] at hmax k11 HBK H0 ⊢
 clear hn
 obtain ⟨i0, hi, hz0, hz1, hz2⟩ := en_info_parts ar_info
 go_enter Tryz.func106, Tryz.ntmps106
 go_wp2_with fail
 go_loopw [3, 11] (fun v3 i wr => ∃ k : Nat, k ≤ n ∧ i = .int .i64 k ∧ Hid (wr.ownsRow w.heap.size 3 1 v3 (honL fy zs k).length ((honL fy zs k).map (Value.int .i64))) ∧ Hid (Below w.heap.size w wr)) (fun _ i _ => n - (intOf i).toNat)
 case atStart => exact ⟨0, by omega, rfl, hide (World.ownsRow_nil _ _ _ _), hide (Below.refl _ _)⟩
 case round =>
  obtain ⟨k, hk, rfl, HO, HW⟩ := hrel
  by_cases hlt : k < n
  ·obtain ⟨b, off, rfl, h0⟩ := (HI.out.below (Nat.le_refl _) HW.out) k (by rw [HN.out]; exact hlt)
   obtain ⟨x, hx⟩ : ∃ x, zs.getD k 0 = x := ⟨_, rfl⟩
   rw [hx] at h0
   have HX := hide hx; clear hx
   have HL := hide (lies_any g nd fa sk ji dr R S L fr Q mm sd tk pr rd fy k (.slice (some ⟨b, off, none⟩) n c) wr (HBK.out.below HW.out HBK.out.lt) hf (by omega))
   obtain ⟨y, hy⟩ : ∃ y, liesB fy k = y := ⟨_, rfl⟩
   rw [hy] at HL
   have HY := hide hy; clear hy
   go_wp2_with fail
   refine HL.out.mono ?_
   rintro e w2 ⟨rfl, rfl⟩
   cases y
   ·obtain ⟨m, hm⟩ : ∃ m, (honL fy zs k).length = m := ⟨_, rfl⟩
    have hml := honL_len fy zs k
    have HE : Hid (honL fy zs (k + 1) = honL fy zs k ++ [x]) := hide (by rw [honL_no HY.out, HX.out])
    rw [hm] at HO hml
    have HM := hide hm; clear hm
    have HO2 := hide (own_keepR HO.out ((Below.refl w2.heap.size w2).alloc (Nat.le_refl _) (.cells #[.int .i64 x] 3)))
    go_wp2_with (at_builtin; go_must (refine wpList_append_own _ rfl (.tmp 20) (.tmp 22) _ rfl w.heap.size 3 i0 _ 1 8 Tryz.underlying33 hi hz0 hz1 hz2 rfl (by decide) u3 m ((honL fy zs k).map (Value.int .i64)) rfl (by exact HO2.out) ⟨w2.heap.size, 0, none⟩ 1 1 [.int .i64 x] rfl rfl (by exact news1 (Blk.new w2 3 #[.int .i64 x])) (by intro u hu; simp at hu; subst hu; rfl) (by simp [maxLen]; omega) (by omega) (by have := HW.out.size; simp; omega) ?_); intro v8 w8 hown hg _; have HO8 := hide hown; have HG8 := hide hg; clear hown hg)
    go_roundw
    case rel => exact ⟨k + 1, by omega, by go_num, hide (by rw [HE.out]; simpa [HM.out] using HO8.out), hide ((HW.out.alloc HW.out.size _).grown HG8.out (by have := HW.out.size; simp; omega) (fun j e => (HO2.out.lt j e).1))⟩
    case measure => simp [intOf]; omega
   ·have HE : Hid (honL fy zs (k + 1) = honL fy zs k) := hide (honL_yes HY.out)
    go_wp2_with fail
    go_roundw
    case rel => exact ⟨k + 1, by omega, by go_num, hide (by rw [HE.out]; exact HO.out), HW⟩
    case measure => simp [intOf]; omega
  ·obtain rfl : k = n := by omega
   obtain ⟨A2, c2, rfl, hI2⟩ := isl_ownC HO.out rfl
   have hle := honL_len fy zs k
   have HS := hide (spread_any A2 c2 (honL fy zs k) wr hI2 H0.out (by omega) (fun j hj => honL_mem (P := fun x => -1000000000000000 ≤ x ∧ x ≤ 1000000000000000) (fun j hj => HZ.out j (by rw [HN.out]; exact hj)) _ (getD_memC hj)))
   generalize (honL fy zs k).length = q at HS HO H0
   go_wp2_with fail
   refine HS.out.mono ?_
   rintro e w2 ⟨a, b, rfl, h1, h2, rfl⟩
   have H1 := hide h1; have H2 := hide h2; clear h1 h2
   go_wp2_with fail
   go_ret
   exact ⟨⟨a, b, rfl, H1.out, H2.out⟩, HW.out⟩
end
end
section
open Go.RowKit
section
variable {lf lt : Int} (g base : Nat) (bag que : Int) (v : Value) (nx la nw : Int) (q : List ByteArray)
set_option maxRecDepth 100000 in
set_option maxHeartbeats 4000000 in
theorem ssend_ok (w : World) (now : Int) (d : ByteArray) (he : Hid (sdE now la nw bag (q.length + 1) = 0)) (hb : Blk w g 264 (sdC lf lt bag que v nx la nw)) (hQ : QAt w base 9 v (sv (d :: q))) (hv : ∀ k, v.ownBlock = some k → k < w.heap.size) (hg : v.ownBlock ≠ some g) (hla : -1 ≤ la ∧ la ≤ 1099511627776) (hnx : 0 ≤ nx ∧ nx ≤ 255) (hq : q.length ≤ 1000) :
 Calls Tryz.prog 200 #[.pointer (some ⟨g, 0, none⟩), .int .i64 now] w fun r w' => r = .returned (.tuple #[.agg #[.int .i64 nx, .string d], errV 0]) ∧ SdPost w base g lf lt bag que v (if nx + 1 = 256 then 1 else nx + 1) now now q w' := by
 have q1 := he.out
 unfold sdE at q1
 obtain ⟨nx2, hnx2⟩ : ∃ nx2 : Int, (if nx + 1 = 256 then 1 else nx + 1) = nx2 := ⟨_, rfl⟩
 rw [hnx2]
 have HX2 := hide hnx2; clear hnx2
 have h12 : ¬ (now < 0 ∨ 1099511627776 < now) := by intro h; rw [if_pos h] at q1; cases q1
 rw [if_neg h12] at q1
 have h3 : ¬ now < nw := by intro h; rw [if_pos h] at q1; cases q1
 rw [if_neg h3] at q1
 have h4 : ¬ (0 ≤ la ∧ now - la < bag) := by intro h; rw [if_pos (.inr h)] at q1; cases q1
 have d1 : decide (now < 0) = false := decide_eq_false (by omega)
 have d2 : decide (1099511627776 < now) = false := decide_eq_false (by omega)
 have d3 : decide (now < nw) = false := decide_eq_false h3
 have d4 : ((q.length : Int) + 1 == 0) = false := by rw [beq_eq_false_iff_ne]; omega
 have hnow : 0 ≤ now ∧ now ≤ 1099511627776 := by omega
 have HN := hide (Blk.new w 305 #[.int .i64 0, .string ⟨#[]⟩])
 obtain ⟨c0, c1, c2, c3, c4, c5, c6, c7⟩ := (hb.alloc (.cells #[.int .i64 0, .string ⟨#[]⟩] 305)).cells8
 obtain ⟨ao, c, hvv, hlc⟩ := hQ.shape
 simp only [sv_len, List.length_cons] at hvv hlc
 subst hvv
 obtain ⟨gq, off, rfl, hbq, hlq, hcq⟩ := hQ.block (by omega)
 have hcell : w.cell? ⟨gq, off, none⟩ = some (.string d) := (show w.cell? ⟨gq, off, none⟩ = _ from hcq 0 (by omega)).trans (by simp [sv])
 have hgq : gq ≠ g := fun e => hg (by rw [e]; rfl)
 obtain ⟨W1, hW1⟩ : ∃ W1, W1 = (w.alloc (.cells #[.int .i64 0, .string ⟨#[]⟩] 305)).setCell ⟨g, 7, none⟩ (.int .i64 now) := ⟨_, rfl⟩
 have hB1 : Blk W1 g 264 (sdC lf lt bag que (.slice (some ⟨gq, off, none⟩) (q.length + 1) c) nx la now) := by rw [hW1]; exact (hb.alloc _).set_ 7 _
 have hN1 : Blk W1 w.heap.size 305 #[.int .i64 0, .string ⟨#[]⟩] := by rw [hW1]; exact HN.out.far (p := ⟨g, 7, none⟩) (Nat.ne_of_gt hb.lt) _
 have hQ1 : QAt W1 base 9 (.slice (some ⟨gq, off, none⟩) (q.length + 1) c) (sv (d :: q)) := by rw [hW1]; exact (hQ.alloc _).far (p := ⟨g, 7, none⟩) hg _
 have hK1 : Kept2 w W1 g (some gq) := by rw [hW1]; exact ((Kept2.refl w g _).alloc _).set_ 7 _
 have hC1 : W1.cell? ⟨gq, off, none⟩ = some (.string d) := sd_first hQ1
 have hfz := (hb.alloc (.cells #[.int .i64 0, .string ⟨#[]⟩] 305)).frozen 7
 have HB1 := hide hB1; have HN1 := hide hN1; have HQ1 := hide hQ1; have HK1 := hide hK1; have HGL := hide hb.lt; have HGQ := hide hgq; have HLQ := hide hlq; have HV := hide hv; have HG := hide hg
 have HLC := hide hlc
 clear q1 h12 h3 he hb hQ hlc hbq hcq hcell hlq hgq hv hg HN hN1 hQ1 hK1
 obtain ⟨e0, e1, e2, e3, e4, e5, e6, e7⟩ := hB1.cells8
 clear hB1
 go_enter Tryz.func200, Tryz.ntmps200
 go_wp2_with fail
 rw [← hW1]
 clear hW1 c0 c1 c2 c3 c4 c5 c6 c7 hfz
 go_upto_region 6 with fail
 go_cut [55] from 29 to 55 (fun v wx => v = .bool false ∧ ∃ n, wx = W1.drewN n)
 case first =>
  by_cases hla0 : 0 ≤ la
  ·have d5 : decide (0 ≤ la) = true := decide_eq_true hla0
   have d6 : decide (now - la < bag) = false := decide_eq_false (by omega)
   clear h4 hla0
   go_quiet (fail)
   go_wp2_with fail
   go_meet
   case rel => exact ⟨rfl, _, rfl⟩
  ·have d5 : decide (0 ≤ la) = false := decide_eq_false hla0
   clear h4 hla0
   go_quiet (fail)
   go_wp2_with fail
   go_meet
   case rel => exact ⟨rfl, _, rfl⟩
 case rest =>
  obtain ⟨rfl, nq, rfl⟩ := hcut
  clear h4 d1 d2 d3 d4
  go_upto_region 8 with fail
  go_cut [6] from 58 to 68 (fun p wx => ∃ gx, p = .pointer (some ⟨gx, 0, none⟩) ∧ Hid (w.heap.size < gx) ∧ Hid (Blk wx gx 305 #[.int .i64 nx, .string d]) ∧ Hid (Blk wx g 264 (sdC lf lt bag que (.slice (some ⟨gq, off, none⟩) (q.length + 1) c) nx la now)) ∧ Hid (Blk wx w.heap.size 305 #[.int .i64 0, .string ⟨#[]⟩]) ∧ Hid (QAt wx base 9 (.slice (some ⟨gq, off, none⟩) (q.length + 1) c) (sv (d :: q))) ∧ Hid (Kept2 w wx g (some gq)))
  case first =>
   have HK2 := hide (HK1.out.drewN nq); have HB2 := hide (HB1.out.drewN nq); have HN2 := hide (HN1.out.drewN nq); have HQ2 := hide (HQ1.out.drewN nq)
   obtain ⟨W2, hW2⟩ : ∃ W2, W2 = W1.drewN nq := ⟨_, rfl⟩
   rw [← hW2] at HK2 HB2 HN2 HQ2 ⊢
   clear hW2 HB1 HN1 HQ1 HK1 e0 e1 e2 e3 e4 e5 e6 e7 hC1
   obtain ⟨e0, e1, e2, e3, e4, e5, e6, e7⟩ := HB2.out.cells8
   have hc2 := sd_first HQ2.out
   obtain ⟨a0, a1, a2, a3, a4, a5, a6, a7⟩ := (HB2.out.alloc (.cells #[.int .i64 0, .string ⟨#[]⟩] 305)).cells8
   have hc3 := sd_first (HQ2.out.alloc (.cells #[.int .i64 0, .string ⟨#[]⟩] 305))
   obtain ⟨k0, k1, kf0, kf1⟩ := (Blk.new W2 305 #[.int .i64 0, .string ⟨#[]⟩]).cells2
   go_region
   go_wp2_with fail
   go_meet
   case rel => exact ⟨W2.heap.size, rfl, hide HN2.out.lt, hide (Blk.new W2 _ _).drew, hide (HB2.out.alloc _).drew, hide (HN2.out.alloc _).drew, hide (HQ2.out.alloc _).drew, hide (HK2.out.alloc _).drew⟩
  case rest =>
   obtain ⟨gx, rfl, HNX, HX4, HB4, HN4, HQ4, HK4⟩ := hcut
   obtain ⟨c0, c1, c2, c3, c4, c5, c6, c7⟩ := HB4.out.cells8
   obtain ⟨k0, k1, kf0, kf1⟩ := HX4.out.cells2
   have f4 := HB4.out.frozen 4
   have f5 := HB4.out.frozen 5
   have f6 := HB4.out.frozen 6
   have hlc := HLC.out
   have hnx2 := HNX.out
   have hgl2 := HGL.out
   have hne1 : g ≠ gx := by omega
   have hne2 : g ≠ w.heap.size := by omega
   have hne3 : w.heap.size ≠ gx := by omega
   obtain ⟨n0, n1, nf0, nf1⟩ := HN4.out.cells2
   clear e0 e1 e2 e3 e4 e5 e6 e7 hC1
   go_upto_region 10 with fail
   obtain ⟨ao2, hao⟩ : ∃ ao2 : Option Addr, ao2 = if c = 1 then some ⟨gq, off, none⟩ else some ⟨gq, off + 1, none⟩ := ⟨_, rfl⟩
   rw [← hao]
   have HQ5 : Hid (QAt wc base 9 (.slice ao2 q.length (c - 1)) (sv q)) := hide (by rw [hao]; exact HQ4.out.tail)
   have HO5 : Hid ((Value.slice ao2 q.length (c - 1)).ownBlock = some gq) := hide (by rw [hao]; split <;> rfl)
   clear hao hlc HLC HQ4
   have HE1 : Hid ((Value.slice ao2 q.length (c - 1)).ownBlock ≠ some g) := hide (by rw [HO5.out]; intro e; exact HGQ.out (Option.some.inj e))
   have HE2 : Hid ((Value.slice ao2 q.length (c - 1)).ownBlock ≠ some w.heap.size) := hide (by rw [HO5.out]; intro e; have := Option.some.inj e; have := HLQ.out; omega)
   by_cases h256 : nx + 1 = 256
   ·have d7 : (nx + 1 == 256) = true := by rw [h256]; rfl
    obtain rfl : 1 = nx2 := by rw [← HX2.out, if_pos h256]
    clear h256 HX2
    go_wp2_with fail
    exact bodyPost_ret (sd_results _ _ w.heap.size _ _ _ rfl rfl ((((((HN4.out.far (p := ⟨g, 4, none⟩) (Nat.ne_of_gt HGL.out) _).far (p := ⟨g, 6, none⟩) (Nat.ne_of_gt HGL.out) _).far (p := ⟨g, 5, none⟩) (Nat.ne_of_gt HGL.out) _).far (p := ⟨g, 5, none⟩) (Nat.ne_of_gt HGL.out) _).set_ 0 _).set_ 1 _)) rfl ⟨rfl, .slice ao2 q.length (c - 1), ((((((HB4.out.set_ 4 _).set_ 6 _).set_ 5 _).set_ 5 _).far (p := ⟨w.heap.size, 0, none⟩) (Nat.ne_of_lt HGL.out) _).far (p := ⟨w.heap.size, 1, none⟩) (Nat.ne_of_lt HGL.out) _), ((((((HQ5.out.far (p := ⟨g, 4, none⟩) HE1.out _).far (p := ⟨g, 6, none⟩) HE1.out _).far (p := ⟨g, 5, none⟩) HE1.out _).far (p := ⟨g, 5, none⟩) HE1.out _).far (p := ⟨w.heap.size, 0, none⟩) HE2.out _).far (p := ⟨w.heap.size, 1, none⟩) HE2.out _), ((((((HK4.out.set_ 4 _).set_ 6 _).set_ 5 _).set_ 5 _).set_new (p := ⟨w.heap.size, 0, none⟩) (Nat.le_refl _) _).set_new (p := ⟨w.heap.size, 1, none⟩) (Nat.le_refl _) _), sd_own HO5.out (by simpa [World.setCell] using Nat.lt_of_lt_of_le HLQ.out HK4.out.size)⟩
   ·have d7 : (nx + 1 == 256) = false := by rw [beq_eq_false_iff_ne]; exact h256
    obtain rfl : nx + 1 = nx2 := by rw [← HX2.out, if_neg h256]
    clear h256 HX2
    go_wp2_with fail
    exact bodyPost_ret (sd_results _ _ w.heap.size _ _ _ rfl rfl (((((HN4.out.far (p := ⟨g, 4, none⟩) (Nat.ne_of_gt HGL.out) _).far (p := ⟨g, 6, none⟩) (Nat.ne_of_gt HGL.out) _).far (p := ⟨g, 5, none⟩) (Nat.ne_of_gt HGL.out) _).set_ 0 _).set_ 1 _)) rfl ⟨rfl, .slice ao2 q.length (c - 1), (((((HB4.out.set_ 4 _).set_ 6 _).set_ 5 _).far (p := ⟨w.heap.size, 0, none⟩) (Nat.ne_of_lt HGL.out) _).far (p := ⟨w.heap.size, 1, none⟩) (Nat.ne_of_lt HGL.out) _), (((((HQ5.out.far (p := ⟨g, 4, none⟩) HE1.out _).far (p := ⟨g, 6, none⟩) HE1.out _).far (p := ⟨g, 5, none⟩) HE1.out _).far (p := ⟨w.heap.size, 0, none⟩) HE2.out _).far (p := ⟨w.heap.size, 1, none⟩) HE2.out _), (((((HK4.out.set_ 4 _).set_ 6 _).set_ 5 _).set_new (p := ⟨w.heap.size, 0, none⟩) (Nat.le_refl _) _).set_new (p := ⟨w.heap.size, 1, none⟩) (Nat.le_refl _) _), sd_own HO5.out (by simpa [World.setCell] using Nat.lt_of_lt_of_le HLQ.out HK4.out.size)⟩
end
end
section
open Go Go.RowKit
structure Ad where
 g : Nat
 ck : Value
 mm : Value
 sd : Value
 tk : Value
 pr : Value
 gm : Nat → Nat
 gs : Nat → Nat
 vs : Nat → Value
 rt : Nat → Value
 gt : Nat → Nat → Nat
 rp : Nat → Value
 gp : Nat → Nat → Nat
 vp : Nat → Nat → Value
structure Cn where
 nm : Nat
 ns : Nat
 na : Nat
 nk : Nat → Nat
def fullN (p : Pl) : Cn := ⟨p.nd.toNat, p.lk.length, p.lk.length, fun k => if k < p.lk.length then p.nd.toNat else 0⟩
abbrev ptrV (g : Nat) : Value := .pointer (some ⟨g, 0, none⟩)
structure Sv3 where
 s : Value
 l : Value
 q : Value
def shape (a : Ad) (n : Cn) (p : Pl) (P : Sv3) (fy : Nat) (c : Cl) : Ix → Ob
 | .clu => .blk a.g 210 (clC p.nd p.fa p.sk p.ji p.dr p.rd P.s P.l p.fr P.q fy a.ck a.mm a.sd a.tk a.pr c.rd)
 | .nums => .arr 3 a.ck (c.ck.map (Value.int .i64))
 | .memA => .arr 211 a.mm ((List.range n.nm).map fun i => ptrV (a.gm i))
 | .mem i => if i < n.nm then .mem (a.gm i) i p.nd.toNat (c.mm i).m (c.mm i).gd (c.mm i).bd (c.mm i).fz else .none
 | .sndA => .arr 217 a.sd ((List.range n.ns).map fun k => ptrV (a.gs k))
 | .snd k => if k < n.ns then (match p.lk[k]? with | none => .none | some l => .snd (a.gs k) (a.vs k) l.f l.t l.b l.q (c.sd k).nx (c.sd k).la (c.sd k).nw (c.sd k).q) else .none
 | .takA => .arr 229 a.tk ((List.range n.na).map a.rt)
 | .takR k => .arr 232 (a.rt k) ((List.range (n.nk k)).map fun i => ptrV (a.gt k i))
 | .tak k i => if i < n.nk k then .tak (a.gt k i) (c.tk k i).nw (c.tk k i).c0 (c.tk k i).c1 else .none
 | .prtA => .arr 220 a.pr ((List.range n.na).map a.rp)
 | .prtR k => .arr 219 (a.rp k) ((List.range (n.nk k)).map fun i => ptrV (a.gp k i))
 | .prt k i => if i < n.nk k then .prt (a.gp k i) (a.vp k i) 16 (c.pr k i).lost (c.pr k i).q else .none
 | .loc _ => .none
abbrev ClAt (w : World) (base : Nat) (a : Ad) (n : Cn) (p : Pl) (P : Sv3) (fy : Nat) (c : Cl) : Prop := Objs w base (shape a n p P fy c)
def Fmy (S : Ix → Ob) (k : Nat) : Prop := ∃ x, k ∈ (S x).foot
structure KeptS (w w' : World) (S S' : Ix → Ob) : Prop where
 os : w'.os = w.os
 tape : w'.tape = w.tape
 output : w'.output = w.output
 size : w.heap.size ≤ w'.heap.size
 block : ∀ i, i < w.heap.size → ¬ Fmy S i → w'.heap[i]? = w.heap[i]?
 fam : ∀ k, Fmy S' k → Fmy S k ∨ w.heap.size ≤ k
section
variable {w w' w2 : World} {base : Nat} {S S' S2 : Ix → Ob}
theorem KeptS.trans (h : KeptS w w' S S') (h2 : KeptS w' w2 S' S2) : KeptS w w2 S S2 :=
 ⟨h2.os.trans h.os, h2.tape.trans h.tape, h2.output.trans h.output, Nat.le_trans h.size h2.size,
  fun i hi hn => (h2.block i (Nat.lt_of_lt_of_le hi h.size) (fun hf => (h.fam i hf).elim hn (fun e => by omega))).trans (h.block i hi hn),
  fun k hf => (h2.fam k hf).elim (h.fam k) (fun e => .inr (Nat.le_trans h.size e))⟩
theorem KeptS.of_below (hB : Below w.heap.size w w') : KeptS w w' S S := ⟨hB.os, hB.tape, hB.output, hB.size, fun i hi _ => hB.block i hi, fun _ h => .inl h⟩
theorem KeptS.below (h : KeptS w w' S S') (hB : Below w'.heap.size w' w2) : KeptS w w2 S S' := h.trans (.of_below hB)
theorem KeptS.drewN (h : KeptS w w' S S') (n : Nat) : KeptS w (w'.drewN n) S S' := h.below (below_drewN (Below.refl _ _) n)
theorem KeptS.of_upd (x : Ix) (o : Ob) (hk : KeptL w w' (S x).foot) (hf : ∀ k, k ∈ o.foot → k ∈ (S x).foot ∨ w.heap.size ≤ k) : KeptS w w' S (putO S x o) := by
 refine ⟨hk.os, hk.tape, hk.output, hk.size, fun i hi hn => hk.block i hi (fun hm => hn ⟨x, hm⟩), ?_⟩
 rintro k ⟨y, hy⟩
 by_cases e : y = x
 ·subst e
  rw [putO_self] at hy
  exact (hf k hy).imp (fun h => ⟨_, h⟩) id
 ·rw [putO_ne _ e] at hy
  exact .inl ⟨y, hy⟩
theorem KeptS.blk {g : Nat} {t : TypeId} {cs : Array Value} (h : KeptS w w' S S') (hb : Blk w g t cs) (hn : ¬ Fmy S g) : Blk w' g t cs := (h.block g hb.lt hn).trans hb
theorem KeptS.not (h : KeptS w w' S S') {g : Nat} (hg : g < w.heap.size) (hn : ¬ Fmy S g) : ¬ Fmy S' g := fun hf => (h.fam g hf).elim hn (fun e => by omega)
theorem Objs.not_new (h : Objs w base S) {g : Nat} (hg : w.heap.size ≤ g) : ¬ Fmy S g := fun ⟨x, hx⟩ => by have := (h.own x g hx).2; omega
theorem Objs.step (h : Objs w base S) (x : Ix) (o : Ob) (hk : KeptL w w' (S x).foot) (ha : o.At w' base) (hf : ∀ k, k ∈ o.foot → k < w'.heap.size ∧ (k ∈ (S x).foot ∨ w.heap.size ≤ k)) (hb : base ≤ w.heap.size) : Objs w' base (putO S x o) ∧ KeptS w w' S (putO S x o) :=
 ⟨h.upd x o hk ha hf hb, .of_upd x o hk (fun k hm => (hf k hm).2)⟩
theorem Objs.stMem (h : Objs w base S) (x : Ix) {g id n m : Nat} {good bad : Int} {fz : Bool} (hx : S x = .mem g id n m good bad fz) (id' n' m' : Nat) (good' bad' : Int) (fz' : Bool) (hb' : Blk w' g 261 (nodeC id' n' m' good' bad' fz')) (hg : w.grownBy w' (some g)) (hb : base ≤ w.heap.size) : Objs w' base (putO S x (.mem g id' n' m' good' bad' fz')) ∧ KeptS w w' S (putO S x (.mem g id' n' m' good' bad' fz')) :=
 h.step x _ (by rw [hx]; exact grown_toL hg) hb' (fun k hm => by rw [hx]; simp only [Ob.foot, List.mem_singleton] at hm ⊢; subst hm; exact ⟨hb'.lt, .inl rfl⟩) hb
theorem Objs.stTak (h : Objs w base S) (x : Ix) {g : Nat} {nw c0 c1 : Int} (hx : S x = .tak g nw c0 c1) (nw' c0' c1' : Int) (hb' : Blk w' g 275 #[.int .i64 nw', .int .i64 c0', .int .i64 c1']) (hg : w.grownBy w' (some g)) (hb : base ≤ w.heap.size) : Objs w' base (putO S x (.tak g nw' c0' c1')) ∧ KeptS w w' S (putO S x (.tak g nw' c0' c1')) :=
 h.step x _ (by rw [hx]; exact grown_toL hg) hb' (fun k hm => by rw [hx]; simp only [Ob.foot, List.mem_singleton] at hm ⊢; subst hm; exact ⟨hb'.lt, .inl rfl⟩) hb
theorem Objs.stSnd (h : Objs w base S) (x : Ix) {g : Nat} {v : Value} {lf lt bag que nx la nw nx' la' nw' : Int} {q q' : List ByteArray} (hx : S x = .snd g v lf lt bag que nx la nw q) (hp : SdPost w base g lf lt bag que v nx' la' nw' q' w') (hb : base ≤ w.heap.size) : ∃ v', Objs w' base (putO S x (.snd g v' lf lt bag que nx' la' nw' q')) ∧ KeptS w w' S (putO S x (.snd g v' lf lt bag que nx' la' nw' q')) := by
 have h1 := h.at_ x
 rw [hx] at h1
 obtain ⟨v', hb', hQ', hk, ho⟩ := hp
 exact ⟨v', h.step x _ (by rw [hx]; exact hk.toL) ⟨hb', hQ', own_off h1.1.lt h1.2.2 ho⟩ (by rw [hx]; exact own_foot hb'.lt ho) hb⟩
theorem Objs.stPrt (h : Objs w base S) (x : Ix) {g : Nat} {v : Value} {most lost lost' : Int} {q q' : List ByteArray} (hx : S x = .prt g v most lost q) (hp : QuPost w base g most v lost' q' w') (hb : base ≤ w.heap.size) : ∃ v', Objs w' base (putO S x (.prt g v' most lost' q')) ∧ KeptS w w' S (putO S x (.prt g v' most lost' q')) := by
 have h1 := h.at_ x
 rw [hx] at h1
 obtain ⟨v', hb', hQ', hk, ho⟩ := hp
 exact ⟨v', h.step x _ (by rw [hx]; exact hk.toL) ⟨hb', hQ', own_off h1.1.lt h1.2.2 ho⟩ (by rw [hx]; exact own_foot hb'.lt ho) hb⟩
end
section
variable {a : Ad} {n : Cn} {p : Pl} {P : Sv3} {fy : Nat} {c : Cl}
theorem shape_mem {i : Nat} (hi : i < n.nm) (x : Mm) : putO (shape a n p P fy c) (.mem i) (.mem (a.gm i) i p.nd.toNat x.m x.gd x.bd x.fz) = shape a n p P fy { c with mm := updF c.mm i x } := by
 funext y
 cases y with
 | mem j =>
  by_cases e : j = i
  ·subst e; simp [shape, updF, hi]
  ·rw [putO_ne _ (by simpa using e)]; simp [shape, updF, e]
 | _ => rw [putO_ne _ (by simp)]; rfl
theorem shape_tak {k i : Nat} (hi : i < n.nk k) (x : Tk) : putO (shape a n p P fy c) (.tak k i) (.tak (a.gt k i) x.nw x.c0 x.c1) = shape a n p P fy { c with tk := upd2 c.tk k i x } := by
 funext y
 cases y with
 | tak k2 j =>
  by_cases e : k2 = k ∧ j = i
  ·obtain ⟨rfl, rfl⟩ := e; simp [shape, upd2, hi]
  ·rw [putO_ne _ (by simpa using e)]; simp [shape, upd2, e]
 | _ => rw [putO_ne _ (by simp)]; rfl
theorem shape_prt {k i : Nat} (hi : i < n.nk k) (v : Value) (x : Pr) : putO (shape a n p P fy c) (.prt k i) (.prt (a.gp k i) v 16 x.lost x.q) = shape { a with vp := upd2 a.vp k i v } n p P fy { c with pr := upd2 c.pr k i x } := by
 funext y
 cases y with
 | prt k2 j =>
  by_cases e : k2 = k ∧ j = i
  ·obtain ⟨rfl, rfl⟩ := e; simp [shape, upd2, hi]
  ·rw [putO_ne _ (by simpa using e)]; simp [shape, upd2, e]
 | _ => rw [putO_ne _ (by simp)]; rfl
theorem shape_snd {k : Nat} {l : Lk} (hi : k < n.ns) (hl : p.lk[k]? = some l) (v : Value) (x : Sd) : putO (shape a n p P fy c) (.snd k) (.snd (a.gs k) v l.f l.t l.b l.q x.nx x.la x.nw x.q) = shape { a with vs := updF a.vs k v } n p P fy { c with sd := updF c.sd k x } := by
 funext y
 cases y with
 | snd j =>
  by_cases e : j = k
  ·subst e; simp [shape, updF, hi, hl]
  ·rw [putO_ne _ (by simpa using e)]; simp [shape, updF, e]
 | _ => rw [putO_ne _ (by simp)]; rfl
variable {w : World} {base : Nat}
theorem row_cell {f : Nat → Value} {t : TypeId} {v : Value} {m i : Nat} (h : QAt w base t v ((List.range m).map f)) (hi : i < m) : ∃ b off cp, v = .slice (some ⟨b, off, none⟩) m cp ∧ w.cell? ⟨b, off + i, none⟩ = some (f i) := by
 obtain ⟨ao, cp, rfl, _⟩ := h.shape
 simp only [List.length_map, List.length_range] at h ⊢
 obtain ⟨b, off, rfl, _, _, hc⟩ := h.block (by omega)
 exact ⟨b, off, cp, rfl, by rw [hc i hi]; simp [hi]⟩
theorem Objs.cluB (h : ClAt w base a n p P fy c) : Blk w a.g 210 (clC p.nd p.fa p.sk p.ji p.dr p.rd P.s P.l p.fr P.q fy a.ck a.mm a.sd a.tk a.pr c.rd) := h.at_ .clu
theorem Objs.memB (h : ClAt w base a n p P fy c) {i : Nat} (hi : i < n.nm) : Blk w (a.gm i) 261 (nodeC i p.nd.toNat (c.mm i).m (c.mm i).gd (c.mm i).bd (c.mm i).fz) := by
 have := h.at_ (.mem i)
 simpa [shape, hi, Ob.At] using this
theorem Objs.takB (h : ClAt w base a n p P fy c) {k i : Nat} (hi : i < n.nk k) : Blk w (a.gt k i) 275 #[.int .i64 (c.tk k i).nw, .int .i64 (c.tk k i).c0, .int .i64 (c.tk k i).c1] := by
 have := h.at_ (.tak k i)
 simpa [shape, hi, Ob.At] using this
theorem Objs.prtB (h : ClAt w base a n p P fy c) {k i : Nat} (hi : i < n.nk k) : Blk w (a.gp k i) 266 (quC 16 (a.vp k i) (c.pr k i).lost) ∧ QAt w base 9 (a.vp k i) (sv (c.pr k i).q) ∧ (a.vp k i).ownBlock ≠ some (a.gp k i) ∧ ∀ b, (a.vp k i).ownBlock = some b → b < w.heap.size := by
 have h1 := h.at_ (.prt k i)
 have h2 := h.own (.prt k i)
 simp only [shape, hi, Ob.At, if_true] at h1
 exact ⟨h1.1, h1.2.1, h1.2.2, fun b e => (h2 b (by simp [shape, hi, Ob.foot, e])).2⟩
theorem Objs.sndB (h : ClAt w base a n p P fy c) {k : Nat} {l : Lk} (hi : k < n.ns) (hl : p.lk[k]? = some l) : Blk w (a.gs k) 264 (sdC l.f l.t l.b l.q (a.vs k) (c.sd k).nx (c.sd k).la (c.sd k).nw) ∧ QAt w base 9 (a.vs k) (sv (c.sd k).q) ∧ (a.vs k).ownBlock ≠ some (a.gs k) ∧ ∀ b, (a.vs k).ownBlock = some b → b < w.heap.size := by
 have h1 := h.at_ (.snd k)
 have h2 := h.own (.snd k)
 simp only [shape, hi, hl, Ob.At, if_true] at h1
 exact ⟨h1.1, h1.2.1, h1.2.2, fun b e => (h2 b (by simp [shape, hi, hl, Ob.foot, e])).2⟩
theorem Objs.memC (h : ClAt w base a n p P fy c) {G M : Nat} (hG : a.g = G) (hM : n.nm = M) {i : Nat} (hi : i < M) : ∃ b off cp, w.cell? ⟨G, 12, none⟩ = some (.slice (some ⟨b, off, none⟩) M cp) ∧ w.cell? ⟨b, off + i, none⟩ = some (.pointer (some ⟨a.gm i, 0, none⟩)) := by
 subst hM
 obtain ⟨b, off, cp, e, hc⟩ := row_cell (h.at_ .memA) hi
 have := (cluB h).cell 12
 simp at this
 rw [e, hG] at this
 exact ⟨b, off, cp, this, hc⟩
theorem Objs.sndC (h : ClAt w base a n p P fy c) {G M : Nat} (hG : a.g = G) (hM : n.ns = M) {k : Nat} (hi : k < M) : ∃ b off cp, w.cell? ⟨G, 13, none⟩ = some (.slice (some ⟨b, off, none⟩) M cp) ∧ w.cell? ⟨b, off + k, none⟩ = some (.pointer (some ⟨a.gs k, 0, none⟩)) := by
 subst hM
 obtain ⟨b, off, cp, e, hc⟩ := row_cell (h.at_ .sndA) hi
 have := (cluB h).cell 13
 simp at this
 rw [e, hG] at this
 exact ⟨b, off, cp, this, hc⟩
theorem Objs.prtC (h : ClAt w base a n p P fy c) {G M M2 : Nat} (hG : a.g = G) {k i : Nat} (hM : n.na = M) (hM2 : n.nk k = M2) (hk : k < M) (hi : i < M2) : ∃ b off cp b2 off2 cp2, w.cell? ⟨G, 15, none⟩ = some (.slice (some ⟨b, off, none⟩) M cp) ∧ w.cell? ⟨b, off + k, none⟩ = some (.slice (some ⟨b2, off2, none⟩) M2 cp2) ∧ w.cell? ⟨b2, off2 + i, none⟩ = some (.pointer (some ⟨a.gp k i, 0, none⟩)) := by
 subst hM hM2
 obtain ⟨b, off, cp, e, hc⟩ := row_cell (h.at_ .prtA) hk
 obtain ⟨b2, off2, cp2, e2, hc2⟩ := row_cell (h.at_ (.prtR k)) hi
 have := (cluB h).cell 15
 simp at this
 rw [e, hG] at this
 rw [e2] at hc
 exact ⟨b, off, cp, b2, off2, cp2, this, hc, hc2⟩
theorem row_at {f : Nat → Value} {t : TypeId} {v : Value} {m i b off cp : Nat} (h : QAt w base t v ((List.range m).map f)) (e : v = .slice (some ⟨b, off, none⟩) m cp) (hi : i < m) : w.cell? ⟨b, off + i, none⟩ = some (f i) := by
 obtain ⟨b2, off2, cp2, e2, hc⟩ := row_cell h hi
 rw [e] at e2
 cases e2
 exact hc
theorem row_v {f : Nat → Value} {t : TypeId} {v : Value} {m : Nat} (h : QAt w base t v ((List.range m).map f)) (hi : 0 < m) : ∃ b off cp, v = .slice (some ⟨b, off, none⟩) m cp := by
 obtain ⟨b, off, cp, e, _⟩ := row_cell h hi
 exact ⟨b, off, cp, e⟩
theorem Objs.takV (h : ClAt w base a n p P fy c) {M M2 k : Nat} (hM : n.na = M) (hM2 : n.nk k = M2) (hk : 0 < M) (hi : 0 < M2) : ∃ b off cp b2 off2 cp2, a.tk = .slice (some ⟨b, off, none⟩) M cp ∧ a.rt k = .slice (some ⟨b2, off2, none⟩) M2 cp2 := by
 subst hM hM2
 obtain ⟨b, off, cp, e⟩ := row_v (h.at_ .takA) hk
 obtain ⟨b2, off2, cp2, e2⟩ := row_v (h.at_ (.takR k)) hi
 exact ⟨b, off, cp, b2, off2, cp2, e, e2⟩
theorem Objs.takW (h : ClAt w base a n p P fy c) {G M M2 k i b off cp b2 off2 cp2 : Nat} (hG : a.g = G) (hM : n.na = M) (hM2 : n.nk k = M2) (hk : k < M) (hi : i < M2) (e : a.tk = .slice (some ⟨b, off, none⟩) M cp) (e2 : a.rt k = .slice (some ⟨b2, off2, none⟩) M2 cp2) : w.cell? ⟨G, 14, none⟩ = some (.slice (some ⟨b, off, none⟩) M cp) ∧ w.cell? ⟨b, off + k, none⟩ = some (.slice (some ⟨b2, off2, none⟩) M2 cp2) ∧ w.cell? ⟨b2, off2 + i, none⟩ = some (.pointer (some ⟨a.gt k i, 0, none⟩)) := by
 subst hM hM2
 have h1 := row_at (h.at_ .takA) e hk
 have h2 := row_at (h.at_ (.takR k)) e2 hi
 have h3 := (cluB h).cell 14
 simp at h3
 rw [e, hG] at h3
 rw [e2] at h1
 exact ⟨h3, h1, h2⟩
theorem Objs.prtV (h : ClAt w base a n p P fy c) {M M2 k : Nat} (hM : n.na = M) (hM2 : n.nk k = M2) (hk : 0 < M) (hi : 0 < M2) : ∃ b off cp b2 off2 cp2, a.pr = .slice (some ⟨b, off, none⟩) M cp ∧ a.rp k = .slice (some ⟨b2, off2, none⟩) M2 cp2 := by
 subst hM hM2
 obtain ⟨b, off, cp, e⟩ := row_v (h.at_ .prtA) hk
 obtain ⟨b2, off2, cp2, e2⟩ := row_v (h.at_ (.prtR k)) hi
 exact ⟨b, off, cp, b2, off2, cp2, e, e2⟩
theorem Objs.prtW (h : ClAt w base a n p P fy c) {G M M2 k i b off cp b2 off2 cp2 : Nat} (hG : a.g = G) (hM : n.na = M) (hM2 : n.nk k = M2) (hk : k < M) (hi : i < M2) (e : a.pr = .slice (some ⟨b, off, none⟩) M cp) (e2 : a.rp k = .slice (some ⟨b2, off2, none⟩) M2 cp2) : w.cell? ⟨G, 15, none⟩ = some (.slice (some ⟨b, off, none⟩) M cp) ∧ w.cell? ⟨b, off + k, none⟩ = some (.slice (some ⟨b2, off2, none⟩) M2 cp2) ∧ w.cell? ⟨b2, off2 + i, none⟩ = some (.pointer (some ⟨a.gp k i, 0, none⟩)) := by
 subst hM hM2
 have h1 := row_at (h.at_ .prtA) e hk
 have h2 := row_at (h.at_ (.prtR k)) e2 hi
 have h3 := (cluB h).cell 15
 simp at h3
 rw [e, hG] at h3
 rw [e2] at h1
 exact ⟨h3, h1, h2⟩
end
section
variable {a : Ad} {n : Cn} {p : Pl} {P : Sv3} {fy : Nat} {c : Cl} {w : World} {base : Nat}
theorem Objs.cluC (h : ClAt w base a n p P fy c) {G : Nat} (hG : a.g = G) : w.cell? ⟨G, 0, none⟩ = some (.int .i64 p.nd) ∧ w.cell? ⟨G, 1, none⟩ = some (.int .i64 p.fa) ∧ w.cell? ⟨G, 2, none⟩ = some (.int .i64 p.sk) ∧ w.cell? ⟨G, 3, none⟩ = some (.int .i64 p.ji) ∧ w.cell? ⟨G, 4, none⟩ = some (.int .i64 p.dr) ∧ w.cell? ⟨G, 5, none⟩ = some (.int .i64 p.rd) ∧ w.cell? ⟨G, 6, none⟩ = some P.s ∧ w.cell? ⟨G, 7, none⟩ = some P.l ∧ w.cell? ⟨G, 16, none⟩ = some (.int .i64 c.rd) := by
 subst hG
 have hb := cluB h
 have k0 := hb.cell 0; have k1 := hb.cell 1; have k2 := hb.cell 2; have k3 := hb.cell 3; have k4 := hb.cell 4; have k5 := hb.cell 5; have k6 := hb.cell 6; have k7 := hb.cell 7; have k16 := hb.cell 16
 simp at k0 k1 k2 k3 k4 k5 k6 k7 k16
 exact ⟨k0, k1, k2, k3, k4, k5, k6, k7, k16⟩
end
theorem cell_heap {w w' : World} {b : Nat} (h : w'.heap[b]? = w.heap[b]?) (o : Nat) : w'.cell? ⟨b, o, none⟩ = w.cell? ⟨b, o, none⟩ := by
 unfold World.cell?
 simp only [h]
def ClTo (w : World) (base : Nat) (a : Ad) (n : Cn) (p : Pl) (P : Sv3) (fy : Nat) (c : Cl) (w' : World) (c' : Cl) : Prop := ∃ a' : Ad, a'.g = a.g ∧ ClAt w' base a' n p P fy c' ∧ KeptS w w' (shape a n p P fy c) (shape a' n p P fy c')
section
variable {a a1 : Ad} {n : Cn} {p : Pl} {P : Sv3} {fy : Nat} {c c1 c2 : Cl} {w w' w2 : World} {base : Nat}
theorem ClTo.refl (h : ClAt w base a n p P fy c) (hB : Below w.heap.size w w') : ClTo w base a n p P fy c w' c := ⟨a, rfl, h.below hB, .of_below hB⟩
theorem ClTo.below (h : ClTo w base a n p P fy c w' c1) (hB : Below w'.heap.size w' w2) : ClTo w base a n p P fy c w2 c1 := by
 obtain ⟨a', e, h1, hk⟩ := h
 exact ⟨a', e, h1.below hB, hk.below hB⟩
theorem ClTo.trans (hk : KeptS w w' (shape a n p P fy c) (shape a1 n p P fy c1)) (e : a1.g = a.g) (h : ClTo w' base a1 n p P fy c1 w2 c2) : ClTo w base a n p P fy c w2 c2 := by
 obtain ⟨a', e', h1, hk'⟩ := h
 exact ⟨a', e'.trans e, h1, hk.trans hk'⟩
theorem Objs.took (h : ClAt w base a n p P fy c) {k i : Nat} (hi : i < n.nk k) (x : Int) (hb : Blk w' (a.gt k i) 275 (takeSt x (c.tk k i).nw (c.tk k i).c0 (c.tk k i).c1)) (hg : w.grownBy w' (some (a.gt k i))) (hbase : base ≤ w.heap.size) : ClAt w' base a n p P fy { c with tk := upd2 c.tk k i ((c.tk k i).take x) } ∧ KeptS w w' (shape a n p P fy c) (shape a n p P fy { c with tk := upd2 c.tk k i ((c.tk k i).take x) }) := by
 rw [Tk.takeC] at hb
 have hx : shape a n p P fy c (.tak k i) = .tak (a.gt k i) (c.tk k i).nw (c.tk k i).c0 (c.tk k i).c1 := by simp [shape, hi]
 have := h.stTak (.tak k i) hx _ _ _ hb hg hbase
 rw [shape_tak hi] at this
 exact this
theorem Objs.put (h : ClAt w base a n p P fy c) {k i : Nat} (hi : i < n.nk k) (x : Pr) (hp : QuPost w base (a.gp k i) 16 (a.vp k i) x.lost x.q w') (hbase : base ≤ w.heap.size) : ∃ v, ClAt w' base { a with vp := upd2 a.vp k i v } n p P fy { c with pr := upd2 c.pr k i x } ∧ KeptS w w' (shape a n p P fy c) (shape { a with vp := upd2 a.vp k i v } n p P fy { c with pr := upd2 c.pr k i x }) := by
 have hx : shape a n p P fy c (.prt k i) = .prt (a.gp k i) (a.vp k i) 16 (c.pr k i).lost (c.pr k i).q := by simp [shape, hi]
 obtain ⟨v, this⟩ := h.stPrt (.prt k i) hx hp hbase
 rw [shape_prt hi] at this
 exact ⟨v, this⟩
theorem Objs.sent (h : ClAt w base a n p P fy c) {k : Nat} {l : Lk} (hi : k < n.ns) (hl : p.lk[k]? = some l) (x : Sd) (hp : SdPost w base (a.gs k) l.f l.t l.b l.q (a.vs k) x.nx x.la x.nw x.q w') (hbase : base ≤ w.heap.size) : ∃ v, ClAt w' base { a with vs := updF a.vs k v } n p P fy { c with sd := updF c.sd k x } ∧ KeptS w w' (shape a n p P fy c) (shape { a with vs := updF a.vs k v } n p P fy { c with sd := updF c.sd k x }) := by
 have hx : shape a n p P fy c (.snd k) = .snd (a.gs k) (a.vs k) l.f l.t l.b l.q (c.sd k).nx (c.sd k).la (c.sd k).nw (c.sd k).q := by simp [shape, hi, hl]
 obtain ⟨v, this⟩ := h.stSnd (.snd k) hx hp hbase
 rw [shape_snd hi hl] at this
 exact ⟨v, this⟩
theorem Objs.memTo (h : ClAt w base a n p P fy c) {i : Nat} (hi : i < n.nm) (x : Mm) (hb : Blk w' (a.gm i) 261 (nodeC i p.nd.toNat x.m x.gd x.bd x.fz)) (hg : w.grownBy w' (some (a.gm i))) (hbase : base ≤ w.heap.size) : ClAt w' base a n p P fy { c with mm := updF c.mm i x } ∧ KeptS w w' (shape a n p P fy c) (shape a n p P fy { c with mm := updF c.mm i x }) := by
 have hx : shape a n p P fy c (.mem i) = .mem (a.gm i) i p.nd.toNat (c.mm i).m (c.mm i).gd (c.mm i).bd (c.mm i).fz := by simp [shape, hi]
 have := h.stMem (.mem i) hx i p.nd.toNat x.m x.gd x.bd x.fz hb hg hbase
 rw [shape_mem hi] at this
 exact this
end
end
section
open Go Go.RowKit
structure PlOk (p : Pl) : Prop where
 n1 : 1 ≤ p.nd
 n16 : p.nd ≤ 16
 f0 : 0 ≤ p.fa
 f3 : 3 * p.fa + 1 ≤ p.nd
 sk : 0 ≤ p.sk ∧ p.sk ≤ 137438953472
 ji : 0 ≤ p.ji ∧ p.ji ≤ 137438953472
 dr : 0 ≤ p.dr ∧ p.dr ≤ 137438953472
 rd : 1 ≤ p.rd ∧ p.rd ≤ 137438953472
 sl : p.sl.length ≤ 32
 lk : p.lk.length ≤ 8
 skew : p.sk / 2 + 2 * p.ji + 1 + 2 * p.dr ≤ p.sk
 slot : ∀ (k : Nat) (s : Sl), p.sl[k]? = some s → 0 ≤ s.n ∧ s.n < p.nd ∧ 0 ≤ s.f ∧ s.f ≤ 137438953472
 link : ∀ (k : Nat) (l : Lk), p.lk[k]? = some l → 0 ≤ l.f ∧ l.f < p.nd ∧ 0 < l.t ∧ l.t < 2 ^ p.nd.toNat ∧ l.t.toNat.testBit l.f.toNat = false ∧ 1 ≤ l.b ∧ l.b ≤ 137438953472 ∧ 1 ≤ l.q ∧ l.q ≤ 16
theorem slE_ok {sk rd nd lo : Int} {s : Sl} (h : slE sk rd nd lo s = 0) : s.f < s.t ∧ lo ≤ s.f ∧ s.t ≤ rd - sk - 1 ∧ 0 ≤ s.n ∧ s.n < nd := by
 unfold slE at h
 split at h
 ·rename_i h1; exact absurd h h1
 ·rename_i h1
  have h2 : spE s.f s.t lo (rd - sk - 1) = 0 := by simpa using h1
  unfold spE at h2
  repeat' split at h2
  all_goals first | (exact absurd h2 (by decide)) | skip
  split at h
  ·exact absurd h (by decide)
  ·omega
theorem slEs_ok {sk rd nd : Int} (hsk : 0 ≤ sk) {l : List Sl} : ∀ {lo : Int}, 0 ≤ lo → (∀ j, j < l.length → (slEs sk rd nd lo l)[j]? = some 0) → ∀ (k : Nat) (s : Sl), l[k]? = some s → 0 ≤ s.n ∧ s.n < nd ∧ 0 ≤ s.f ∧ s.f ≤ rd := by
 induction l with
 | nil => intro lo _ _ k s h; simp at h
 | cons x l ih =>
  intro lo hlo h k s hk
  have h0 := h 0 (by simp)
  simp [slEs] at h0
  have hx := slE_ok h0
  cases k with
  | zero => simp at hk; subst hk; omega
  | succ k =>
   exact ih (lo := x.t + sk + 1) (by omega) (fun j hj => by simpa [slEs] using h (j + 1) (by simp; omega)) k s (by simpa using hk)
theorem PlOk.of {p : Pl} (h : chk p = (0, -1)) : PlOk p := by
 unfold chk at h
 split at h
 ·rename_i h1; exact absurd (congrArg Prod.fst h) h1
 ·rename_i h1
  have h1 : headE p = 0 := by simpa using h1
  split at h
  ·rename_i h2; exact absurd (congrArg Prod.fst h) h2
  ·rename_i h2
   split at h
   ·rename_i h3; exact absurd (congrArg Prod.fst h) h3
   ·rename_i h3
    have hs := firstE_zero _ _ (by simpa using h2)
    have hl := firstE_zero _ _ (by simpa using h3)
    rw [slEs_len] at hs
    rw [List.length_map] at hl
    clear h h2 h3
    unfold headE at h1
    repeat' split at h1
    all_goals first | (exact absurd h1 (by decide)) | skip
    refine ⟨by omega, by omega, by omega, by omega, by omega, by omega, by omega, by omega, by omega, by omega, by omega, fun k s hk => ?_, fun k l hk => ?_⟩
    ·have := slEs_ok (by omega) (Int.le_refl 0) hs k s hk
     omega
    ·have hlt : k < p.lk.length := (List.getElem?_eq_some_iff.1 hk).1
     have := hl k hlt
     rw [List.getElem?_map, hk] at this
     simp at this
     unfold lkE at this
     repeat' split at this
     all_goals first | (exact absurd this (by decide)) | skip
     rename_i a1 a2 a3
     unfold toBad at a2
     simp at a2
     exact ⟨by omega, by omega, by omega, a2.1.2, a2.2, by omega, by omega, by omega, by omega⟩
structure ClOk (p : Pl) (N : Nat) (c : Cl) : Prop where
 len : c.ck.length = p.nd.toNat
 ck : ∀ j, -274877906944 ≤ c.ck.getD j 0 ∧ c.ck.getD j 0 ≤ 274877906944
 rd : 0 ≤ c.rd
 mm : ∀ i, (c.mm i).m < 65536 ∧ 0 ≤ (c.mm i).gd ∧ (c.mm i).gd ≤ N ∧ 0 ≤ (c.mm i).bd ∧ (c.mm i).bd ≤ N
 sd : ∀ k, 0 ≤ (c.sd k).nx ∧ (c.sd k).nx ≤ 255 ∧ -1 ≤ (c.sd k).la ∧ (c.sd k).la ≤ 1099511627776 ∧ (c.sd k).q.length ≤ 16 ∧ ∀ d ∈ (c.sd k).q, d.size ≤ 40
 tk : ∀ k i, -1 ≤ (c.tk k i).nw ∧ (c.tk k i).nw ≤ 255 ∧ 0 ≤ (c.tk k i).c0 ∧ (c.tk k i).c0 ≤ N ∧ 0 ≤ (c.tk k i).c1 ∧ (c.tk k i).c1 ≤ N
 pr : ∀ k i, 0 ≤ (c.pr k i).lost ∧ (c.pr k i).lost ≤ N ∧ (c.pr k i).q.length ≤ 16
section
variable {p : Pl} {N : Nat} {c : Cl}
theorem ClOk.mono (h : ClOk p N c) {M : Nat} (hM : N ≤ M) : ClOk p M c :=
 ⟨h.len, h.ck, h.rd, fun i => by have := h.mm i; omega, h.sd, fun k i => by have := h.tk k i; omega, fun k i => by have := h.pr k i; omega⟩
theorem or_lt16 {m fr : Nat} (hm : m < 65536) (hf : fr < 16) : m ||| 2 ^ fr < 65536 := by
 have : (2 : Nat) ^ fr < 2 ^ 16 := Nat.pow_lt_pow_right (by omega) hf
 exact Nat.or_lt_two_pow (n := 16) hm this
theorem xor_lt16 {m x : Nat} (hm : m < 65536) (hx : x < 65536) : m ^^^ x < 65536 := Nat.xor_lt_two_pow (n := 16) hm hx
theorem clr_lt16 {m x : Nat} (hm : m < 65536) : clr m x < 65536 := by
 unfold clr
 exact xor_lt16 hm (Nat.lt_of_le_of_lt Nat.and_le_left hm)
theorem Mm.hear_ok {s : Mm} {fr : Nat} {what : Int} (h : s.m < 65536 ∧ 0 ≤ s.gd ∧ s.gd ≤ N ∧ 0 ≤ s.bd ∧ s.bd ≤ N) (hf : fr < 16) : (s.hear fr what).m < 65536 ∧ 0 ≤ (s.hear fr what).gd ∧ (s.hear fr what).gd ≤ (N + 1 : Nat) ∧ 0 ≤ (s.hear fr what).bd ∧ (s.hear fr what).bd ≤ (N + 1 : Nat) := by
 unfold Mm.hear
 have h1 := or_lt16 h.1 hf
 have h2 := clr_lt16 (x := 2 ^ fr) h.1
 split
 ·omega
 ·split
  ·exact ⟨h1, by dsimp only; omega, by dsimp only; omega, by dsimp only; omega, by dsimp only; omega⟩
  ·split <;> exact ⟨h2, by dsimp only; omega, by dsimp only; omega, by dsimp only; omega, by dsimp only; omega⟩
theorem Mm.send_ok {s : Mm} (h : s.m < 65536 ∧ 0 ≤ s.gd ∧ s.gd ≤ N ∧ 0 ≤ s.bd ∧ s.bd ≤ N) : s.send.m < 65536 ∧ 0 ≤ s.send.gd ∧ s.send.gd ≤ (N + 1 : Nat) ∧ 0 ≤ s.send.bd ∧ s.send.bd ≤ (N + 1 : Nat) := by
 unfold Mm.send
 split
 ·omega
 ·split <;> exact ⟨h.1, by dsimp only; omega, by dsimp only; omega, by dsimp only; omega, by dsimp only; omega⟩
theorem takeB_in {x nw : Int} (h : takeB x nw = true) : 0 ≤ x ∧ x ≤ 255 := by
 unfold takeB at h
 simp at h
 exact h.1
theorem Tk.take_ok {s : Tk} {x : Int} (h : -1 ≤ s.nw ∧ s.nw ≤ 255 ∧ 0 ≤ s.c0 ∧ s.c0 ≤ N ∧ 0 ≤ s.c1 ∧ s.c1 ≤ N) : -1 ≤ (s.take x).nw ∧ (s.take x).nw ≤ 255 ∧ 0 ≤ (s.take x).c0 ∧ (s.take x).c0 ≤ (N + 1 : Nat) ∧ 0 ≤ (s.take x).c1 ∧ (s.take x).c1 ≤ (N + 1 : Nat) := by
 unfold Tk.take
 cases e : takeB x s.nw
 ·dsimp only [cond]; omega
 ·have := takeB_in e
  dsimp only [cond]; omega
theorem Pr.put_ok {s : Pr} {d : ByteArray} (h : 0 ≤ s.lost ∧ s.lost ≤ N ∧ s.q.length ≤ 16) : 0 ≤ (s.put d).lost ∧ (s.put d).lost ≤ (N + 1 : Nat) ∧ (s.put d).q.length ≤ 16 := by
 unfold Pr.put putQ putE
 dsimp only
 refine ⟨?_, ?_, ?_⟩
 ·split <;> omega
 ·split <;> omega
 ·repeat' split
  all_goals first
   | omega
   | (rename_i h1; exact absurd h1 (by decide))
   | (rw [List.length_append, List.length_singleton]; omega)
theorem ClOk.setMm (h : ClOk p N c) (i : Nat) {x : Mm} (hx : x.m < 65536 ∧ 0 ≤ x.gd ∧ x.gd ≤ (N + 1 : Nat) ∧ 0 ≤ x.bd ∧ x.bd ≤ (N + 1 : Nat)) : ClOk p (N + 1) { c with mm := updF c.mm i x } :=
 { (h.mono (Nat.le_succ N)) with mm := fun j => by dsimp only [updF]; split; exact hx; exact (h.mono (Nat.le_succ N)).mm j }
theorem ClOk.setTk (h : ClOk p N c) (k i : Nat) {x : Tk} (hx : -1 ≤ x.nw ∧ x.nw ≤ 255 ∧ 0 ≤ x.c0 ∧ x.c0 ≤ (N + 1 : Nat) ∧ 0 ≤ x.c1 ∧ x.c1 ≤ (N + 1 : Nat)) : ClOk p (N + 1) { c with tk := upd2 c.tk k i x } :=
 { (h.mono (Nat.le_succ N)) with tk := fun a b => by dsimp only [upd2]; split; exact hx; exact (h.mono (Nat.le_succ N)).tk a b }
theorem ClOk.setPr (h : ClOk p N c) (k i : Nat) {x : Pr} (hx : 0 ≤ x.lost ∧ x.lost ≤ (N + 1 : Nat) ∧ x.q.length ≤ 16) : ClOk p (N + 1) { c with pr := upd2 c.pr k i x } :=
 { (h.mono (Nat.le_succ N)) with pr := fun a b => by dsimp only [upd2]; split; exact hx; exact (h.mono (Nat.le_succ N)).pr a b }
theorem ClOk.setSd (h : ClOk p N c) (k : Nat) {x : Sd} (hx : 0 ≤ x.nx ∧ x.nx ≤ 255 ∧ -1 ≤ x.la ∧ x.la ≤ 1099511627776 ∧ x.q.length ≤ 16 ∧ ∀ d ∈ x.q, d.size ≤ 40) : ClOk p N { c with sd := updF c.sd k x } :=
 { h with sd := fun j => by dsimp only [updF]; split; exact hx; exact h.sd j }
theorem ClOk.chan (h : ClOk p N c) (tn : Nat) (f : FrR) : ClOk p (N + 2) (chanF p tn f c) := by
 unfold chanF
 split
 ·exact h.mono (by omega)
 ·split
  ·exact h.mono (by omega)
  ·split
   ·have h1 := h.setTk f.lk.toNat tn (Tk.take_ok (x := f.sq) (h.tk f.lk.toNat tn))
    split
    ·exact h1.setPr f.lk.toNat tn (Pr.put_ok (d := f.d) (by exact h1.pr f.lk.toNat tn))
    ·exact h1.mono (by omega)
   ·exact h.mono (by omega)
end
end
section
open Go Go.RowKit
structure Cls (K : World → (Ix → Ob) → Prop) : Prop where
 step : ∀ {w w' : World} {S S' : Ix → Ob}, K w S → KeptS w w' S S' → K w' S'
theorem Cls.bel {K : World → (Ix → Ob) → Prop} (h : Cls K) {w w' : World} {S : Ix → Ob} (h0 : K w S) (hB : Below w.heap.size w w') : K w' S := h.step h0 (.of_below hB)
def KBes (w1 : World) (bs : Nat → Prop) (w : World) (S : Ix → Ob) : Prop := w1.heap.size ≤ w.heap.size ∧ ∀ k, bs k → k < w1.heap.size ∧ ¬ Fmy S k ∧ w.heap[k]? = w1.heap[k]?
theorem KBes.cls (w1 : World) (bs : Nat → Prop) : Cls (KBes w1 bs) := ⟨fun {w w' S S'} h hk =>
 ⟨Nat.le_trans h.1 hk.size, fun k hb => by
  obtain ⟨h1, h2, h3⟩ := h.2 k hb
  exact ⟨h1, hk.not (Nat.lt_of_lt_of_le h1 h.1) h2, (hk.block k (Nat.lt_of_lt_of_le h1 h.1) h2).trans h3⟩⟩⟩
end
section
open Go.RowKit
theorem quiet_left {P : Program} {f : FuncId} {args : Array Value} {w : World} {n : Nat} {v : Value}
 (h : Calls P f args (w.drewN n) fun e w' => e = .returned v ∧ w.drewN n = w') : Calls P f args (w.drewN n) fun e w'' => e = .returned v ∧ ∃ m, w'' = w.drewN m :=
 h.mono fun _ _ ⟨he, hm⟩ => ⟨he, n, hm.symm⟩
abbrev frZ : Value := .agg #[.int .i64 0, .int .i64 0, .int .i64 0, .int .i64 0, .int .i64 0, .string ⟨#[]⟩]
def DecBad (w : World) (e : Ending) (w' : World) : Prop := e = .returned (.tuple #[frZ, .iface 61 (.int .i64 3)]) ∧ Below w.heap.size w w'
theorem Blk.cells6 {w : World} {g : Nat} {t : TypeId} {a b c d e f : Value} (h : Blk w g t #[a, b, c, d, e, f]) :
 w.cell? ⟨g, 0, none⟩ = some a ∧ w.cell? ⟨g, 1, none⟩ = some b ∧ w.cell? ⟨g, 2, none⟩ = some c ∧ w.cell? ⟨g, 3, none⟩ = some d ∧ w.cell? ⟨g, 4, none⟩ = some e ∧ w.cell? ⟨g, 5, none⟩ = some f ∧
 w.frozen? ⟨g, 0, none⟩ = false ∧ w.frozen? ⟨g, 1, none⟩ = false ∧ w.frozen? ⟨g, 2, none⟩ = false ∧ w.frozen? ⟨g, 3, none⟩ = false ∧ w.frozen? ⟨g, 4, none⟩ = false ∧ w.frozen? ⟨g, 5, none⟩ = false :=
 ⟨by simpa using h.cell 0, by simpa using h.cell 1, by simpa using h.cell 2, by simpa using h.cell 3, by simpa using h.cell 4, by simpa using h.cell 5, h.frozen 0, h.frozen 1, h.frozen 2, h.frozen 3, h.frozen 4, h.frozen 5⟩
theorem BytesAt.below {w W : World} {A : Option Addr} {n : Nat} {bs : List Nat} (h : BytesAt w A n bs) (hB : Below w.heap.size w W) : BytesAt W A n bs := by
 intro j hj
 obtain ⟨b, off, hA, hc⟩ := h j hj
 exact ⟨b, off, hA, by rw [← hc]; exact hB.cell (World.block_lt_of_cell? _ _ hc)⟩
theorem or_byte (x y : Nat) (hx : x < 256) (hy : y < 256) : bits .or .i64 ((x : Int) * 256) (y : Int) = ((x * 256 + y : Nat) : Int) := by
 rw [show ((x : Int) * 256) = ((x * 256 : Nat) : Int) by omega, i64_or_nat _ _ (by omega) (by omega)]
 have := Nat.shiftLeft_add_eq_or_of_lt (show y < 2 ^ 8 from hy) x
 rw [Nat.shiftLeft_eq] at this
 rw [← this]
set_option maxRecDepth 100000 in
set_option maxHeartbeats 2000000 in
theorem dec_sum (b off m c : Nat) (bs : List Nat) (x y : Nat) (w : World) (hm : 5 ≤ m) (hm2 : m + 2 ≤ c) (hc : c ≤ 9223372036854775807) (hl : bs.length = m) (hlt : ∀ x ∈ bs, x < 256) (hB : BytesAt w (some ⟨b, off, none⟩) bs.length bs)
 (hx : w.cell? ⟨b, off + m, none⟩ = some (.int .u8 x)) (hy : w.cell? ⟨b, off + (m + 1), none⟩ = some (.int .u8 y)) (x1 : x < 256) (y1 : y < 256) (hs : crcS bs ≠ x * 256 + y) :
 Calls Tryz.prog 204 #[.slice (some ⟨b, off, none⟩) (m + 2) c] w (DecBad w) := by
 obtain ⟨z, hz⟩ : ∃ z : Nat, z = x * 256 + y := ⟨_, rfl⟩
 have ho := or_byte x y x1 y1
 rw [← hz] at ho hs
 obtain ⟨k, hk⟩ : ∃ k : Nat, k = crcS bs := ⟨_, rfl⟩
 rw [← hk] at hs
 have hne : ((k : Int) != (z : Int)) = true := by simp; omega
 have hS := hide (show ∀ W : World, BytesAt W (some ⟨b, off, none⟩) m bs → Calls Tryz.prog 202 #[.slice (some ⟨b, off, none⟩) m c] W fun e w' => e = .returned (.int .i64 k) ∧ W = w' by
  intro W hW; rw [hk]; subst hl; exact sum_any _ _ bs W hW hlt (by omega))
 have HB := hide (show BytesAt w (some ⟨b, off, none⟩) m bs from hl ▸ hB)
 clear hB hk hz hs hlt hl
 have h1 : decide ((m : Int) < 5) = false := by simp; omega
 have h2 : ((m + 2 : Nat) : Int) - 2 = (m : Int) := by omega
 go_enter Tryz.func204, Tryz.ntmps204
 go_wp2
 generalize hW : (World.alloc _ _) = W
 obtain ⟨hb, hB⟩ : Blk W w.heap.size 269 #[.int .i64 0, .int .i64 0, .int .i64 0, .int .i64 0, .int .i64 0, .string ⟨#[]⟩] ∧ Below w.heap.size w W := by
  subst hW
  exact ⟨(Blk.new w _ _), ((Below.refl _ _).alloc (Nat.le_refl _) _)⟩
 have hx' : W.cell? ⟨b, off + m, none⟩ = some (.int .u8 x) := by
  rw [← hx]; exact hB.cell (World.block_lt_of_cell? _ _ hx)
 have hy' : W.cell? ⟨b, off + (m + 1), none⟩ = some (.int .u8 y) := by
  rw [← hy]; exact hB.cell (World.block_lt_of_cell? _ _ hy)
 have hBA : BytesAt W (some ⟨b, off, none⟩) m bs := HB.out.below hB
 have HBA := hide hBA
 have HBl := hide hB; have Hb := hide hb
 clear hW hb hBA hB hx hy
 go_quiet ((go_at_call 202; exact quiet_left (hS.out _ (by exact HBA.out))))
 generalize hW : (World.drewN _ _) = W2
 obtain ⟨hb2, hB2⟩ : Blk W2 w.heap.size 269 #[.int .i64 0, .int .i64 0, .int .i64 0, .int .i64 0, .int .i64 0, .string ⟨#[]⟩] ∧ Below w.heap.size w W2 := by
  subst hW
  exact ⟨Hb.out.drewN _, below_drewN HBl.out _⟩
 clear hW
 obtain ⟨k0, k1, k2, k3, k4, k5, f0, f1, f2, f3, f4, f5⟩ := hb2.cells6
 have HB2 := hide hB2; have hsz := hB2.size; clear hB2 hb2
 go_wp2
 exact bodyPost_ret (v := .tuple #[.agg #[.int .i64 0, .int .i64 0, .int .i64 0, .int .i64 0, .int .i64 0, .string ⟨#[]⟩], .iface 61 (.int .i64 3)]) (by simp [results, Tryz.results204, go_sem, k0, k1, k2, k3, k4, k5]) rfl ⟨rfl, ((((((HB2.out.setCell (Nat.le_refl _) _).setCell (Nat.le_refl _) _).setCell (Nat.le_refl _) _).setCell (Nat.le_refl _) _).setCell (Nat.le_refl _) _).setCell (Nat.le_refl _) _)⟩
end
section
open Go.RowKit
def DecPost (w : World) (ok : Bool) (v : Value) (e : Ending) (w' : World) : Prop :=
 if ok then e = .returned (.tuple #[v, .nilIface]) ∧ Below w.heap.size w w' else DecBad w e w'
theorem e11 {m x6 : Nat} (h : m = 7 + x6) (hx : x6 < 256) : ((m : Int) != wrap64 (7 + wrap64 (x6 : Int))) = false := by
 rw [IntWalk.wrap64_in (x6 : Int) ⟨by omega, by omega⟩, IntWalk.wrap64_in (7 + (x6 : Int)) ⟨by omega, by omega⟩]
 simp; omega
theorem e12 {m x6 : Nat} (h : ¬ m = 7 + x6) (hx : x6 < 256) : ((m : Int) != wrap64 (7 + wrap64 (x6 : Int))) = true := by
 rw [IntWalk.wrap64_in (x6 : Int) ⟨by omega, by omega⟩, IntWalk.wrap64_in (7 + (x6 : Int)) ⟨by omega, by omega⟩]
 simp; omega
theorem DecPost.good {w w' : World} {v : Value} {e : Ending} (h : e = .returned (.tuple #[v, .nilIface])) (hB : Below w.heap.size w w') : DecPost w true v e w' := by
 unfold DecPost; rw [if_pos rfl]; exact ⟨h, hB⟩
theorem DecPost.bad {w w' : World} {v : Value} (hB : Below w.heap.size w w') : DecPost w false v (.returned (.tuple #[frZ, .iface 61 (.int .i64 3)])) w' := by
 unfold DecPost; rw [if_neg (by decide)]; exact ⟨rfl, hB⟩
theorem dec_results (tmps : Array Value) (w : World) (g : Nat) (a b c d e f v : Value) (h2 : tmps[2]? = some (.pointer (some ⟨g, 0, none⟩))) (h3 : tmps[3]? = some v) (hb : Blk w g 269 #[a, b, c, d, e, f]) :
 (results Tryz.f204 tmps).run Tryz.prog w = .ok (.tuple #[.agg #[a, b, c, d, e, f], v]) w := by
 obtain ⟨k0, k1, k2, k3, k4, k5, _⟩ := hb.cells6
 simp [results, Tryz.results204, go_sem, h2, h3, k0, k1, k2, k3, k4, k5]
end
end Go.Proofs.YtideefjnlakciaaGreatDoor
