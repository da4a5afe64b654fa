/- The contracts of metronomeref.in, vlink.ahead and the method Take of vlink.Receiver; conditions: the receiver lies in a block of its own, its numbers are small. -/
import Derived.Test.YtideefjnlakciaaGreatDoorP01
import Derived.ProofKit
import Derived.OpenShut
import Derived.Carry
import Derived.Lib.SmallJoins
import Derived.Deep.RegionHeld3
import Derived.Deep.Slices
set_option linter.unusedVariables false
set_option linter.unusedSimpArgs false
namespace Go.Proofs.YtideefjnlakciaaGreatDoor
section
open Go.RowKit
/-- vlink.ahead -/
def aheadB (a b : Int) : Bool := decide (a ≠ 0 ∧ ((b = 0 ∧ a ≤ 127) ∨ (b ≠ 0 ∧ 1 ≤ (a - b) % 255 ∧ (a - b) % 255 ≤ 127)))
set_option maxHeartbeats 400000 in
theorem ahead_any (a b : Int) (ha : 0 ≤ a) (ha' : a ≤ 255) (hb : 0 ≤ b) (hb' : b ≤ 255) (w : World) :
 Calls Tryz.prog 215 #[.int .i64 a, .int .i64 b] w fun e w' => e = .returned (.bool (aheadB a b)) ∧ w' = w := by
 go_enter Tryz.func215, Tryz.ntmps215
 go_wp2
 all_goals (go_ret; exact ⟨ret_bool (by simp_all [aheadB] <;> omega), rfl⟩)
theorem ahead_is (a b : Int) (ha : 0 ≤ a) (ha' : a ≤ 255) (hb : 0 ≤ b) (hb' : b ≤ 255) (v : Bool) (hv : aheadB a b = v) (w : World) :
 Calls Tryz.prog 215 #[.int .i64 a, .int .i64 b] w fun e w' => e = .returned (.bool v) ∧ w' = w := by
 subst hv; exact ahead_any a b ha ha' hb hb' w
/-- vlink.Receiver.Take -/
def takeB (s nw : Int) : Bool := decide (0 ≤ s ∧ s ≤ 255) && (decide (nw < 0) || aheadB s nw)
def takeSt (s nw c0 c1 : Int) : Array Value := bif takeB s nw then #[.int .i64 s, .int .i64 (c0 + 1), .int .i64 c1] else #[.int .i64 nw, .int .i64 c0, .int .i64 (c1 + 1)]
set_option maxHeartbeats 1000000 in
theorem take_any (g : Nat) (s nw c0 c1 : Int) (d : ByteArray) (w : World) (hb : Blk w g 275 #[.int .i64 nw, .int .i64 c0, .int .i64 c1])
 (hn : -1 ≤ nw) (hn' : nw ≤ 255) (hc0 : 0 ≤ c0) (hc0' : c0 ≤ 1000000000000) (hc1 : 0 ≤ c1) (hc1' : c1 ≤ 1000000000000) :
 Calls Tryz.prog 206 #[.pointer (some ⟨g, 0, none⟩), .agg #[.int .i64 s, .string d]] w fun e w' => e = .returned (.bool (takeB s nw)) ∧ Blk w' g 275 (takeSt s nw c0 c1) ∧ w.grownBy w' (some g) := by
 have hlt := hb.lt
 have k0 := hb.cell 0
 have k1 := hb.cell 1
 have k2 := hb.cell 2
 have f0 := hb.frozen 0
 have f1 := hb.frozen 1
 have f2 := hb.frozen 2
 simp at k0 k1 k2
 by_cases a1 : s < 0
 ·have et : takeB s nw = false := by simp [takeB]; omega
  have g1 : decide (s < 0) = true := by simp; omega
  have H := hide et; clear et
  go_enter Tryz.func206, Tryz.ntmps206
  go_wp2
  go_quiet (fail)
  go_wp2
  go_region
  go_wp2
  go_ret
  refine ⟨ret_bool H.out.symm, ?_, ?_⟩
  ·rw [takeSt, H.out]; exact (((hb.alloc _).drewN _).set_ 2 _).drew
  ·repeat (first | exact only_refl _ _ | refine only_drew ?_ | refine only_drewN ?_ _ | refine only_alloc ?_ _ | refine only_setCell ?_ (by simp) _)
 have g1 : decide (s < 0) = false := by simp; omega
 by_cases a2 : 255 < s
 ·have et : takeB s nw = false := by simp [takeB]; omega
  have g2 : decide (255 < s) = true := by simp; omega
  have H := hide et; clear et
  go_enter Tryz.func206, Tryz.ntmps206
  go_wp2
  go_quiet (fail)
  go_wp2
  go_region
  go_wp2
  go_ret
  refine ⟨ret_bool H.out.symm, ?_, ?_⟩
  ·rw [takeSt, H.out]; exact (((hb.alloc _).drewN _).set_ 2 _).drew
  ·repeat (first | exact only_refl _ _ | refine only_drew ?_ | refine only_drewN ?_ _ | refine only_alloc ?_ _ | refine only_setCell ?_ (by simp) _)
 have g2 : decide (255 < s) = false := by simp; omega
 by_cases a3 : nw < 0
 ·have et : takeB s nw = true := by simp [takeB]; omega
  have g3 : decide (0 ≤ nw) = false := by simp; omega
  have H := hide et; clear et
  go_enter Tryz.func206, Tryz.ntmps206
  go_wp2
  go_quiet (fail)
  go_wp2
  go_region
  go_wp2
  go_ret
  refine ⟨ret_bool H.out.symm, ?_, ?_⟩
  ·rw [takeSt, H.out]; exact ((((hb.alloc _).drewN _).set_ 0 _).set_ 1 _).drew
  ·repeat (first | exact only_refl _ _ | refine only_drew ?_ | refine only_drewN ?_ _ | refine only_alloc ?_ _ | refine only_setCell ?_ (by simp) _)
 have g3 : decide (0 ≤ nw) = true := by simp; omega
 by_cases a4 : aheadB s nw = true
 ·have et : takeB s nw = true := by simp [takeB, a4]; omega
  have c := ahead_is s nw (by omega) (by omega) (by omega) (by omega) _ a4
  have H := hide et; clear et
  clear a4
  have C := hide c; clear c
  go_enter Tryz.func206, Tryz.ntmps206
  go_wp2
  go_quiet ((go_at_call 215; exact Calls.quiet_of_same (C.out _)))
  go_wp2
  go_region
  go_wp2
  go_ret
  refine ⟨ret_bool H.out.symm, ?_, ?_⟩
  ·rw [takeSt, H.out]; exact ((((hb.alloc _).drewN _).set_ 0 _).set_ 1 _).drew
  ·repeat (first | exact only_refl _ _ | refine only_drew ?_ | refine only_drewN ?_ _ | refine only_alloc ?_ _ | refine only_setCell ?_ (by simp) _)
 ·have a4 : aheadB s nw = false := by simpa using a4
  have et : takeB s nw = false := by simp [takeB, a4]; omega
  have c := ahead_is s nw (by omega) (by omega) (by omega) (by omega) _ a4
  have H := hide et; clear et
  clear a4
  have C := hide c; clear c
  go_enter Tryz.func206, Tryz.ntmps206
  go_wp2
  go_quiet ((go_at_call 215; exact Calls.quiet_of_same (C.out _)))
  go_wp2
  go_region
  go_wp2
  go_ret
  refine ⟨ret_bool H.out.symm, ?_, ?_⟩
  ·rw [takeSt, H.out]; exact (((hb.alloc _).drewN _).set_ 2 _).drew
  ·repeat (first | exact only_refl _ _ | refine only_drew ?_ | refine only_drewN ?_ _ | refine only_alloc ?_ _ | refine only_setCell ?_ (by simp) _)
end
section
open Go.RowKit
/-- An object: where it lies, and what it holds. -/
inductive Ob where
 | none
 | mem (g id n m : Nat) (good bad : Int) (fz : Bool)
 | tak (g : Nat) (nw c0 c1 : Int)
 | snd (g : Nat) (v : Value) (lf lt bag que nx la nw : Int) (q : List ByteArray)
 | prt (g : Nat) (v : Value) (most lost : Int) (q : List ByteArray)
 | arr (t : TypeId) (v : Value) (l : List Value)
 | blk (g : Nat) (t : TypeId) (cs : Array Value)
/-- Its blocks. -/
def Ob.foot : Ob → List Nat
 | .none => []
 | .mem g _ _ _ _ _ _ => [g]
 | .tak g _ _ _ => [g]
 | .snd g v _ _ _ _ _ _ _ _ => g :: v.ownBlock.toList
 | .prt g v _ _ _ => g :: v.ownBlock.toList
 | .arr _ v _ => v.ownBlock.toList
 | .blk g _ _ => [g]
/-- That it lies so. -/
def Ob.At (w : World) (base : Nat) : Ob → Prop
 | .none => True
 | .mem g id n m good bad fz => Blk w g 261 (nodeC id n m good bad fz)
 | .tak g nw c0 c1 => Blk w g 275 #[.int .i64 nw, .int .i64 c0, .int .i64 c1]
 | .snd g v lf lt bag que nx la nw q => Blk w g 264 (sdC lf lt bag que v nx la nw) ∧ QAt w base 9 v (sv q) ∧ v.ownBlock ≠ some g
 | .prt g v most lost q => Blk w g 266 (quC most v lost) ∧ QAt w base 9 v (sv q) ∧ v.ownBlock ≠ some g
 | .arr t v l => QAt w base t v l
 | .blk g t cs => Blk w g t cs
/-- Nothing that was there changed, but these blocks. -/
structure KeptL (w w' : World) (F : List Nat) : Prop where
 os : w'.os = w.os
 tape : w'.tape = w.tape
 output : w'.output = w.output
 size : w.heap.size ≤ w'.heap.size
 block : ∀ i, i < w.heap.size → i ∉ F → w'.heap[i]? = w.heap[i]?
theorem Kept2.toL {w w' : World} {g : Nat} {vb : Option Nat} (h : Kept2 w w' g vb) : KeptL w w' (g :: vb.toList) :=
 ⟨h.os, h.tape, h.output, h.size, fun i hi hn => h.block i hi (fun e => hn (by simp [e])) (fun e => hn (by simp [← e]))⟩
theorem grown_toL {w w' : World} {g : Nat} (h : w.grownBy w' (some g)) : KeptL w w' [g] :=
 ⟨h.os, h.tape, h.output, h.size, fun i hi hn => h.block i hi (by simpa using hn)⟩
theorem grown_toV {w w' : World} {vb : Option Nat} (h : w.grownBy w' vb) : KeptL w w' vb.toList :=
 ⟨h.os, h.tape, h.output, h.size, fun i hi hn => h.block i hi (by rintro rfl; simp at hn)⟩
theorem below_toL {w w' : World} (h : Below w.heap.size w w') (F : List Nat) : KeptL w w' F :=
 ⟨h.os, h.tape, h.output, h.size, fun i hi _ => h.block i hi⟩
theorem KeptL.below {w0 w w' : World} {F : List Nat} {B : Nat} (h : Below B w0 w) (hs : B ≤ w.heap.size) (hk : KeptL w w' F) (hF : ∀ k, k ∈ F → B ≤ k) : Below B w0 w' :=
 ⟨hk.os.trans h.os, hk.tape.trans h.tape, hk.output.trans h.output, Nat.le_trans h.size hk.size, fun k hkB => (hk.block k (by omega) (fun e => by have := hF k e; omega)).trans (h.block k hkB)⟩
theorem Ob.At.keep {w w' : World} {base : Nat} {o : Ob} (h : o.At w base) (hk : ∀ k, k < w.heap.size → k ∈ o.foot → w'.heap[k]? = w.heap[k]?) : o.At w' base := by
 have blk : ∀ {g : Nat} {t : TypeId} {cs : Array Value}, Blk w g t cs → g ∈ o.foot → Blk w' g t cs := fun hb hm => (hk _ hb.lt hm).trans hb
 have que : ∀ {t : TypeId} {v : Value} {l : List Value}, QAt w base t v l → (∀ k, v.ownBlock = some k → k ∈ o.foot) → QAt w' base t v l := fun hq hm => hq.keep (fun g _ hlt e => hk g hlt (hm g e))
 cases o with
 | none => trivial
 | mem => exact blk h (by simp [Ob.foot])
 | tak => exact blk h (by simp [Ob.foot])
 | snd => exact ⟨blk h.1 (by simp [Ob.foot]), que h.2.1 (by intro k e; simp [Ob.foot, e]), h.2.2⟩
 | prt => exact ⟨blk h.1 (by simp [Ob.foot]), que h.2.1 (by intro k e; simp [Ob.foot, e]), h.2.2⟩
 | arr => exact que h (by intro k e; simp [Ob.foot, e])
 | blk => exact blk h (by simp [Ob.foot])
/-- Which object it is in a cluster; loc: of the call's own. -/
inductive Ix where
 | clu | nums | memA | mem (i : Nat) | sndA | snd (k : Nat) | takA | takR (k : Nat) | tak (k i : Nat) | prtA | prtR (k : Nat) | prt (k i : Nat) | loc (j : Nat)
 deriving DecidableEq
/-- Objects that lie each in blocks of its own. -/
structure Objs (w : World) (base : Nat) (S : Ix → Ob) : Prop where
 at_ : ∀ x, (S x).At w base
 own : ∀ x k, k ∈ (S x).foot → base ≤ k ∧ k < w.heap.size
 sep : ∀ x y k, k ∈ (S x).foot → k ∈ (S y).foot → x = y
/-- One object another one. -/
def putO (S : Ix → Ob) (x : Ix) (o : Ob) : Ix → Ob := fun y => if y = x then o else S y
section
variable {w w' : World} {base : Nat} {S : Ix → Ob}
@[simp] theorem putO_self (x : Ix) (o : Ob) : putO S x o x = o := by simp [putO]
theorem putO_ne {x y : Ix} (o : Ob) (h : y ≠ x) : putO S x o y = S y := by simp [putO, h]
theorem Objs.same (h : Objs w base S) (hs : w.heap.size ≤ w'.heap.size) (hk : ∀ i, i < w.heap.size → w'.heap[i]? = w.heap[i]?) : Objs w' base S :=
 ⟨fun x => (h.at_ x).keep (fun k hk' _ => hk k hk'), fun x k hm => ⟨(h.own x k hm).1, Nat.lt_of_lt_of_le (h.own x k hm).2 hs⟩, h.sep⟩
theorem Objs.below (h : Objs w base S) (hB : Below w.heap.size w w') : Objs w' base S := h.same hB.size hB.block
theorem Objs.alloc (h : Objs w base S) (o : Obj) : Objs (w.alloc o) base S := h.same (by simp) (fun i hi => Below.heap_alloc w o i hi)
theorem Objs.drewN (h : Objs w base S) (n : Nat) : Objs (w.drewN n) base S := h.same (Nat.le_refl _) (fun _ _ => rfl)
theorem Objs.drew (h : Objs w base S) : Objs w.drew base S := h.same (Nat.le_refl _) (fun _ _ => rfl)
/-- One object changes, all others stay. -/
theorem Objs.upd (h : Objs w base S) (x : Ix) (o : Ob) (hk : KeptL w w' (S x).foot) (ha : o.At w' base) (hf : ∀ k, k ∈ o.foot → k < w'.heap.size ∧ (k ∈ (S x).foot ∨ w.heap.size ≤ k)) (hb : base ≤ w.heap.size) : Objs w' base (putO S x o) := by
 refine ⟨fun y => ?_, fun y k hm => ?_, fun y z k hy hz => ?_⟩
 ·by_cases e : y = x
  ·subst e; rw [putO_self]; exact ha
  ·rw [putO_ne _ e]
   exact (h.at_ y).keep (fun k hlt hm => hk.block k hlt (fun hx => e (h.sep y x k hm hx)))
 ·by_cases e : y = x
  ·subst e
   rw [putO_self] at hm
   obtain ⟨h1, h2⟩ := hf k hm
   rcases h2 with h2 | h2
   ·exact ⟨(h.own y k h2).1, h1⟩
   ·exact ⟨by omega, h1⟩
  ·rw [putO_ne _ e] at hm
   exact ⟨(h.own y k hm).1, Nat.lt_of_lt_of_le (h.own y k hm).2 hk.size⟩
 ·by_cases e : y = x
  ·by_cases e2 : z = x
   ·rw [e, e2]
   ·subst e
    rw [putO_self] at hy
    rw [putO_ne _ e2] at hz
    rcases (hf k hy).2 with h2 | h2
    ·exact h.sep y z k h2 hz
    ·have := (h.own z k hz).2; omega
  ·by_cases e2 : z = x
   ·subst e2
    rw [putO_self] at hz
    rw [putO_ne _ e] at hy
    rcases (hf k hz).2 with h2 | h2
    ·exact h.sep y z k hy h2
    ·have := (h.own y k hy).2; omega
   ·rw [putO_ne _ e] at hy
    rw [putO_ne _ e2] at hz
    exact h.sep y z k hy hz
/-- A new one. -/
theorem Objs.add (h : Objs w base S) (x : Ix) (o : Ob) (hB : Below w.heap.size w w') (ha : o.At w' base) (hf : ∀ k, k ∈ o.foot → k < w'.heap.size ∧ w.heap.size ≤ k) (hb : base ≤ w.heap.size) : Objs w' base (putO S x o) :=
 h.upd x o (below_toL hB _) ha (fun k hm => ⟨(hf k hm).1, .inr (hf k hm).2⟩) hb
/-- A cell of a block. -/
theorem Objs.setBlk (h : Objs w base S) (x : Ix) {g : Nat} {t : TypeId} {cs : Array Value} (hx : S x = .blk g t cs) (i : Nat) (u : Value) (hb : base ≤ w.heap.size) : Objs (w.setCell ⟨g, i, none⟩ u) base (putO S x (.blk g t (cs.setIfInBounds i u))) := by
 have hbk : Blk w g t cs := by have := h.at_ x; rw [hx] at this; exact this
 refine h.upd x _ ?_ (hbk.set_ i u) (fun k hm => ?_) hb
 ·rw [hx]
  exact ⟨rfl, rfl, rfl, by simp [World.setCell], fun k hk hn => Below.heap_setCell w _ u k (by simpa [Ob.foot] using hn)⟩
 ·rw [hx]
  simp only [Ob.foot, List.mem_singleton] at hm
  subst hm
  exact ⟨by simpa [World.setCell] using hbk.lt, .inl (by simp [Ob.foot])⟩
theorem own_foot {w w' : World} {g : Nat} {v v' : Value} (hg : g < w'.heap.size) (ho : Own w w' v v') : ∀ k, k ∈ g :: v'.ownBlock.toList → k < w'.heap.size ∧ (k ∈ g :: v.ownBlock.toList ∨ w.heap.size ≤ k) := by
 intro k hm
 simp only [List.mem_cons, Option.mem_toList] at hm ⊢
 rcases hm with rfl | hm
 ·exact ⟨hg, .inl (.inl rfl)⟩
 ·obtain ⟨h1, h2⟩ := ho k hm
  exact ⟨h1, h2.elim (fun e => .inl (.inr e)) .inr⟩
theorem own_off {w w' : World} {g : Nat} {v v' : Value} (hg : g < w.heap.size) (hv : v.ownBlock ≠ some g) (ho : Own w w' v v') : v'.ownBlock ≠ some g := by
 intro e
 rcases (ho g e).2 with h | h
 ·exact hv h
 ·omega
end
end
section
/-- A window: whose it is, from when to when. -/
structure Wn where
 p : Int
 f : Int
 t : Int
end
section
/-- The first error of some, and its place (0: none). -/
def firstE : List Int → Nat → Int × Nat
 | [], _ => (0, 0)
 | e :: l, i => if e = 0 then firstE l (i + 1) else (e, i)
theorem firstE_gen (l : List Int) (i k : Nat) (e : Int) (h : ∀ j, j < k → l[j]? = some 0) (hk : l[k]? = some e) (he : e ≠ 0) : firstE l i = (e, i + k) := by
 induction l generalizing i k with
 | nil => simp at hk
 | cons x l ih =>
  unfold firstE
  cases k with
  | zero => simp at hk; subst hk; rw [if_neg he]; rfl
  | succ k =>
   have hx : x = 0 := by simpa using h 0 (by omega)
   rw [if_pos hx, ih (i + 1) k (fun j hj => by simpa using h (j + 1) (by omega)) (by simpa using hk)]
   congr 1; omega
theorem firstE_at (l : List Int) (k : Nat) (e : Int) (h : ∀ j, j < k → l[j]? = some 0) (hk : l[k]? = some e) (he : e ≠ 0) : firstE l 0 = (e, k) := by
 rw [firstE_gen l 0 k e h hk he]; congr 1; omega
theorem firstE_none (l : List Int) (i : Nat) (h : ∀ j, j < l.length → l[j]? = some 0) : firstE l i = (0, 0) := by
 induction l generalizing i with
 | nil => rfl
 | cons x l ih =>
  have hx : x = 0 := by simpa using h 0 (by simp)
  unfold firstE
  rw [if_pos hx]
  exact ih (i + 1) (fun j hj => by simpa using h (j + 1) (by simp; omega))
theorem firstE_zero (l : List Int) (i : Nat) (h : (firstE l i).1 = 0) : ∀ j, j < l.length → l[j]? = some 0 := by
 induction l generalizing i with
 | nil => intro j hj; simp at hj
 | cons x l ih =>
  unfold firstE at h
  by_cases hx : x = 0
  ·rw [if_pos hx] at h
   intro j hj
   cases j with
   | zero => simp [hx]
   | succ j => simpa using ih (i + 1) h j (by simp at hj; omega)
  ·rw [if_neg hx] at h; exact absurd h hx
/-- A slot: whose it is, from when to when. -/
structure Sl where
 n : Int
 f : Int
 t : Int
/-- A link. -/
structure Lk where
 f : Int
 t : Int
 b : Int
 q : Int
/-- What is wrong with a span. -/
def spE (f t lo hi : Int) : Int := if t ≤ f then 1 else if f < lo then 10 else if hi < t then 2 else 0
def slE (sk rd nd lo : Int) (s : Sl) : Int := if spE s.f s.t lo (rd - sk - 1) ≠ 0 then spE s.f s.t lo (rd - sk - 1) else if s.n < 0 ∨ nd - 1 < s.n then 7 else 0
/-- Whom a link may not go to. -/
def toBad (nd : Int) (l : Lk) : Bool := decide (l.t ≤ 0) || decide (2 ^ nd.toNat ≤ l.t) || l.t.toNat.testBit l.f.toNat
def lkE (nd : Int) (l : Lk) : Int := if l.f < 0 ∨ nd - 1 < l.f then 7 else if toBad nd l = true then 1 else if l.b < 1 ∨ 137438953472 < l.b ∨ l.q < 1 ∨ 16 < l.q then 2 else 0
def wnE (fr lo : Int) (w : Wn) : Int := if spE w.f w.t lo fr ≠ 0 then spE w.f w.t lo fr else if w.p < 0 ∨ 5 < w.p then 7 else 0
/-- What is wrong with each, in a row. -/
def slEs (sk rd nd : Int) : Int → List Sl → List Int
 | _, [] => []
 | lo, s :: l => slE sk rd nd lo s :: slEs sk rd nd (s.t + sk + 1) l
def wnEs (fr : Int) : Int → List Wn → List Int
 | _, [] => []
 | lo, w :: l => wnE fr lo w :: wnEs fr w.t l
theorem slEs_len (sk rd nd lo : Int) (l : List Sl) : (slEs sk rd nd lo l).length = l.length := by
 induction l generalizing lo with
 | nil => rfl
 | cons s l ih => simp [slEs, ih]
theorem wnEs_len (fr lo : Int) (l : List Wn) : (wnEs fr lo l).length = l.length := by
 induction l generalizing lo with
 | nil => rfl
 | cons s l ih => simp [wnEs, ih]
/-- The bound for the k-th: behind the one ahead. -/
def slLo (sk : Int) (lo : Int) (l : List Sl) (k : Nat) : Int := if k = 0 then lo else match l[k - 1]? with | some s => s.t + sk + 1 | none => lo
def wnLo (lo : Int) (l : List Wn) (k : Nat) : Int := if k = 0 then lo else match l[k - 1]? with | some s => s.t | none => lo
theorem slLo_zero (sk lo : Int) (l : List Sl) : slLo sk lo l 0 = lo := rfl
theorem slLo_succ (sk lo : Int) (l : List Sl) (k : Nat) (s : Sl) (h : l[k]? = some s) : slLo sk lo l (k + 1) = s.t + sk + 1 := by
 unfold slLo
 rw [if_neg (by omega), Nat.add_sub_cancel, h]
theorem wnLo_zero (lo : Int) (l : List Wn) : wnLo lo l 0 = lo := rfl
theorem wnLo_succ (lo : Int) (l : List Wn) (k : Nat) (s : Wn) (h : l[k]? = some s) : wnLo lo l (k + 1) = s.t := by
 unfold wnLo
 rw [if_neg (by omega), Nat.add_sub_cancel, h]
theorem slEs_at (sk rd nd lo : Int) (l : List Sl) (k : Nat) (s : Sl) (h : l[k]? = some s) : (slEs sk rd nd lo l)[k]? = some (slE sk rd nd (slLo sk lo l k) s) := by
 induction l generalizing lo k with
 | nil => simp at h
 | cons x l ih =>
  cases k with
  | zero => simp at h; subst h; simp [slEs, slLo]
  | succ k =>
   have h' : l[k]? = some s := by simpa using h
   rw [slEs, List.getElem?_cons_succ, ih _ k h']
   congr 2
   cases k with
   | zero => simp [slLo]
   | succ k => simp [slLo]; cases e : l[k]? with
    | none => have := List.getElem?_eq_none_iff.1 e; have := (List.getElem?_eq_some_iff.1 h').1; omega
    | some _ => rfl
theorem wnEs_at (fr lo : Int) (l : List Wn) (k : Nat) (s : Wn) (h : l[k]? = some s) : (wnEs fr lo l)[k]? = some (wnE fr (wnLo lo l k) s) := by
 induction l generalizing lo k with
 | nil => simp at h
 | cons x l ih =>
  cases k with
  | zero => simp at h; subst h; simp [wnEs, wnLo]
  | succ k =>
   have h' : l[k]? = some s := by simpa using h
   rw [wnEs, List.getElem?_cons_succ, ih _ k h']
   congr 2
   cases k with
   | zero => simp [wnLo]
   | succ k => simp [wnLo]; cases e : l[k]? with
    | none => have := List.getElem?_eq_none_iff.1 e; have := (List.getElem?_eq_some_iff.1 h').1; omega
    | some _ => rfl
/-- A plan. -/
structure Pl where
 nd : Int
 fa : Int
 sk : Int
 ji : Int
 dr : Int
 rd : Int
 sl : List Sl
 lk : List Lk
 fr : Int
 wn : List Wn
/-- What is wrong with the whole (0: nothing), whatever the rows hold. -/
def headE (p : Pl) : Int :=
 if p.nd < 1 ∨ 16 < p.nd ∨ p.fa < 0 ∨ 16 < p.fa ∨ p.nd < 3 * p.fa + 1 then 1
 else if p.sk < 0 ∨ 137438953472 < p.sk ∨ p.ji < 0 ∨ 137438953472 < p.ji ∨ p.dr < 0 ∨ 137438953472 < p.dr ∨ p.rd < 1 ∨ 137438953472 < p.rd ∨ p.fr < 1 ∨ 137438953472 < p.fr then 2
 else if 32 < p.sl.length ∨ 8 < p.lk.length ∨ 32 < p.wn.length then 4
 else if p.sk < p.sk / 2 + 2 * p.ji + 1 + 2 * p.dr then 13 else 0
/-- What is wrong, and where (-1: nowhere). -/
def chk (p : Pl) : Int × Int :=
 if headE p ≠ 0 then (headE p, -1)
 else if (firstE (slEs p.sk p.rd p.nd 0 p.sl) 0).1 ≠ 0 then ((firstE (slEs p.sk p.rd p.nd 0 p.sl) 0).1, ((firstE (slEs p.sk p.rd p.nd 0 p.sl) 0).2 : Int))
 else if (firstE (p.lk.map (lkE p.nd)) 0).1 ≠ 0 then ((firstE (p.lk.map (lkE p.nd)) 0).1, 1000 + ((firstE (p.lk.map (lkE p.nd)) 0).2 : Int))
 else if (firstE (wnEs p.fr 0 p.wn) 0).1 ≠ 0 then ((firstE (wnEs p.fr 0 p.wn) 0).1, 2000 + ((firstE (wnEs p.fr 0 p.wn) 0).2 : Int))
 else (0, -1)
end
section
open Go.ChangeShapes Go.WideShapes Go.ChangeAt Go.RowKit
theorem own : ownKnob Tryz.prog.godebug = none := by kernel_rfl
theorem laidOut : laidOutB Tryz.prog = true := by kernel_rfl
section
variable {H : Type} {enc : TypeId × Value → H}
theorem trodAll_stays {W W' : World} {sp' : Nat → Bool} (hb : Below W.heap.size W W') : ∀ {ts : List TypeId} {vs : List Value} {ds : List (DataW H)} {ps : List MemPlace},
 (∀ t ∈ ts, Tryz.prog.readableRec t = true ∧ t < Tryz.prog.types.size) → DataW.TrodAll enc Tryz.prog W 0 (fun _ => true) true ts vs ds ps → (∀ x ∈ ps, x.block < W.heap.size) → (∀ x ∈ ps, sp' x.block = true) →
 DataW.TrodAll enc Tryz.prog W' 0 sp' true ts vs ds ps
 | [], _, _, _, _, h, _, _ => by
  obtain ⟨rfl, rfl, rfl⟩ := trodAll_nil h
  exact rfl
 | t :: ts, _, _, _, hr, h, hlt, hs => by
  obtain ⟨v, vs1, d, ds1, a, b, rfl, rfl, rfl, h1, h2⟩ := trodAll_cons h
  refine ⟨a, b, WideElems.Trod_stays laidOut (hr t (by simp)).1 (hr t (by simp)).2 h1 (fun x hx => hb.same (hlt x (by simp [hx]))) (fun x hx => hs x (by simp [hx])), ?_, rfl⟩
  exact trodAll_stays hb (fun t' ht' => hr t' (by simp [ht'])) h2 (fun x hx => hlt x (by simp [hx])) (fun x hx => hs x (by simp [hx]))
theorem trodAll_len {W : World} {b : Nat} {sp : Nat → Bool} {hd : Bool} : ∀ {ts : List TypeId} {vs : List Value} {ds : List (DataW H)} {ps : List MemPlace},
 DataW.TrodAll enc Tryz.prog W b sp hd ts vs ds ps → ds.length = ts.length
 | [], _, _, _, h => by
  obtain ⟨rfl, rfl, rfl⟩ := trodAll_nil h
  rfl
 | t :: ts, _, _, _, h => by
  obtain ⟨v, vs1, d, ds1, a, b, rfl, rfl, rfl, h1, h2⟩ := trodAll_cons h
  simp [trodAll_len h2]
theorem law_post {f : Func} {s : ChangeSpec} {W W' : World} {args : Array Value} {ds gs : List (DataW H)} {before : List MemPlace}
 (hv : s.vars = []) (hsp : ∀ ds : List (DataW H), ds.length = f.params.size → s.fn H ds = { results := [.lit (.bool true)], args := ds })
 (hr : ∀ t ∈ f.params.toList, Tryz.prog.readableRec t = true ∧ t < Tryz.prog.types.size) (hrt : f.resultTypes = #[4])
 (hW : DataW.Whole enc Tryz.prog f.params.toList s.vars false W args.toList ds gs before) (hb : Below W.heap.size W W') :
 s.post enc Tryz.prog f false true false false W args (.bool true) W' := by
 have hlt : ∀ p ∈ before, p.block < W.heap.size := fun p hp => hW.lt p hp
 have hold : ∀ p ∈ before, (fun b => decide (b < W.heap.size)) p.block = true := fun p hp => by simpa using hlt p hp
 have hW2 := hW
 obtain ⟨p, q, hA, hV, hps, hz, hn⟩ := hW
 rw [hv] at hV
 obtain ⟨rfl, rfl⟩ := trodVars_none hV
 simp only [List.append_nil] at hps
 subst hps
 have hlen := trodAll_len hA
 have hfn := hsp ds (by simpa using hlen)
 have hA' := fun (sp : Nat → Bool) (hs : ∀ x ∈ before, sp x.block = true) => trodAll_stays (enc := enc) hb hr hA hlt hs
 have hres : ∀ (b : Nat) (sp : Nat → Bool) (hd : Bool), DataW.TrodAll enc Tryz.prog W' b sp hd f.resultTypes.toList ((Value.bool true).resultList f.resultTypes.size) (s.fn H (ds ++ [])).results [] := by
  intro b sp hd
  rw [List.append_nil, hfn, hrt]
  exact trodAll_cons_mk (shut_bool Tryz.underlying4 _) trodAll_mk0
 refine ⟨ds, [], before, [], before, [], by simpa using hW2, hres _ _ _, ?_, ?_, ?_, fun h => by cases h⟩
 ·rw [List.append_nil, hfn]; exact hA' _ hold
 ·rw [hv, List.append_nil, hfn]; rfl
 ·exact World.keptBut_mono (fun p hp => ⟨hp, Or.inr (Or.inl hp)⟩) (hb.frame (· ∈ before))
end
end
section
open Go.ChangeShapes Go.WideShapes Go.ChangeAt Go.RowKit Go.Joins
variable {H : Type} {enc : TypeId × Value → H}
/-- The first n numbers of a slice lie in memory. -/
def IntsAt (W : World) (A : Option Addr) (n : Nat) (zs : List Int) : Prop := ∀ j, j < n → ∃ b off, A = some ⟨b, off, none⟩ ∧ W.cell? ⟨b, off + j, none⟩ = some (.int .i64 (zs.getD j 0))
end
section
open Go.RowKit
abbrev spanV (a b : Int) : Value := .agg #[.int .i64 a, .int .i64 b]
end
section
open Go.RowKit
def outB (lo hi z : Int) : Bool := decide (z < lo) || decide (hi < z)
set_option maxRecDepth 100000 in
set_option maxHeartbeats 1000000 in
theorem wlit_any (g h : Nat) (lo hi z : Int) (b : Bool) (hb : Hid (outB lo hi z = b)) (w : World) (hx : w.cell? ⟨g, 0, none⟩ = some (.int .i64 lo)) (hy : w.cell? ⟨h, 0, none⟩ = some (.int .i64 hi)) :
 Calls Tryz.prog 197 #[.int .i64 z, .pointer (some ⟨g, 0, none⟩), .pointer (some ⟨h, 0, none⟩)] w fun e w' => e = .returned (.bool b) ∧ Below w.heap.size w w' := by
 by_cases h1 : z < lo
 ·have q1 : decide (z < lo) = true := decide_eq_true h1
  have HB : Hid (b = true) := hide (by rw [← hb.out]; unfold outB; rw [q1]; rfl)
  clear hb h1
  go_enter Tryz.func197, Tryz.ntmps197
  go_wp2_with fail
  go_ret
  exact ⟨ret_bool HB.out.symm, Below.refl _ _⟩
 ·have q1 : decide (z < lo) = false := decide_eq_false h1
  have HB : Hid (b = decide (hi < z)) := hide (by rw [← hb.out]; unfold outB; rw [q1]; rfl)
  clear hb h1
  go_enter Tryz.func197, Tryz.ntmps197
  go_wp2_with fail
  go_ret
  exact ⟨ret_bool HB.out.symm, Below.refl _ _⟩
/-- The first number that is out. -/
def oidx (lo hi : Int) (zs : List Int) : Nat := match zs with
 | [] => 0
 | z :: l => if outB lo hi z = true then 0 else oidx lo hi l + 1
theorem oidx_step (lo hi : Int) (zs : List Int) (k : Nat) (hk : k < zs.length) (h : k ≤ oidx lo hi zs) : if outB lo hi (zs.getD k 0) = true then oidx lo hi zs = k else k + 1 ≤ oidx lo hi zs := by
 induction zs generalizing k with
 | nil => simp at hk
 | cons z l ih =>
  unfold oidx at h ⊢
  cases k with
  | zero =>
   simp only [List.getD_cons_zero]
   by_cases hz : outB lo hi z = true
   ·rw [if_pos hz, if_pos hz]
   ·rw [if_neg hz, if_neg hz]; omega
  | succ k =>
   by_cases hz : outB lo hi z = true
   ·rw [if_pos hz] at h; omega
   ·rw [if_neg hz] at h ⊢
    have := ih k (by simpa using hk) (by omega)
    simp only [List.getD_cons_succ]
    split
    ·rename_i h2; rw [if_pos h2] at this; omega
    ·rename_i h2; rw [if_neg h2] at this; omega
theorem oidx_all (lo hi : Int) (zs : List Int) : decide (oidx lo hi zs < zs.length) = zs.any (outB lo hi) := by
 induction zs with
 | nil => rfl
 | cons z l ih =>
  unfold oidx
  cases hz : outB lo hi z
  ·simp only [hz, List.any_cons, Bool.false_or, ← ih, List.length_cons]
   apply decide_eq_decide.2
   simp
  ·simp [hz]
set_option maxRecDepth 100000 in
set_option maxHeartbeats 1000000 in
theorem windex_any (g h : Nat) (lo hi : Int) (A : Option Addr) (n c : Nat) (zs : List Int) (w : World) (hn : n ≤ 100) (hzs : zs.length = n) (hx : w.cell? ⟨g, 0, none⟩ = some (.int .i64 lo)) (hy : w.cell? ⟨h, 0, none⟩ = some (.int .i64 hi)) (hI : IntsAt w A n zs) (r : Int) (hr : Hid ((if oidx lo hi zs < n then (oidx lo hi zs : Int) else -1) = r)) :
 Calls Tryz.prog 170 #[.slice A n c, .func (.func 197) #[] #[.pointer (some ⟨g, 0, none⟩), .pointer (some ⟨h, 0, none⟩)]] w fun e w' => e = .returned (.int .i64 r) ∧ Below w.heap.size w w' := by
 have HI := hide hI; clear hI
 have hgl := World.block_lt_of_cell? _ _ hx
 have hhl := World.block_lt_of_cell? _ _ hy
 go_enter Tryz.func170, Tryz.ntmps170
 go_wp2_with fail
 go_loopw [8] (fun i wr => ∃ k : Nat, k ≤ n ∧ i = .int .i64 k ∧ k ≤ oidx lo hi zs ∧ Below w.heap.size w wr) (fun i _ => n - (intOf i).toNat)
 case atStart => exact ⟨0, by omega, rfl, by omega, Below.refl _ _⟩
 case round =>
  obtain ⟨k, hk, rfl, hki, hB⟩ := hrel
  by_cases hlt2 : k < n
  ·obtain ⟨b, off, rfl, c0⟩ := HI.out k hlt2
   have hb := World.block_lt_of_cell? _ _ c0
   have k0 := (hB.cell (p := ⟨b, off + k, none⟩) hb).trans c0
   have hix := oidx_step lo hi zs k (by omega) hki
   have HX2 := hide ((hB.cell (p := ⟨g, 0, none⟩) hgl).trans hx)
   have HY2 := hide ((hB.cell (p := ⟨h, 0, none⟩) hhl).trans hy)
   have HBB := hide hB; have hsz := hB.size
   clear hB c0
   generalize zs.getD k 0 = y at hix k0
   cases hyx : outB lo hi y
   ·have HO := hide hyx
    have hid : k + 1 ≤ oidx lo hi zs := by rw [if_neg (by rw [hyx]; decide)] at hix; exact hix
    have HID := hide hid; clear hid hix hyx
    go_wp2_with (go_at_call 197; refine (wlit_any g h lo hi y false HO _ (by exact HX2.out) (by exact HY2.out)).mono ?_; rintro e w3 ⟨rfl, hB3⟩; have HB3 := hide hB3; clear hB3)
    exact ⟨⟨k + 1, by omega, by go_num, HID.out, HBB.out.trans (HB3.out.mono hsz)⟩, by simp [intOf]; omega⟩
   ·have HO := hide hyx
    have hid : oidx lo hi zs = k := by rw [if_pos hyx] at hix; exact hix
    have HID := hide hid; clear hid hix hyx
    go_wp2_with (go_at_call 197; refine (wlit_any g h lo hi y true HO _ (by exact HX2.out) (by exact HY2.out)).mono ?_; rintro e w3 ⟨rfl, hB3⟩; have HB3 := hide hB3; clear hB3)
    go_ret
    exact ⟨ret_int (by rw [← hr.out, HID.out, if_pos hlt2]), HBB.out.trans (HB3.out.mono hsz)⟩
  ·obtain rfl : k = n := by omega
   have HBB := hide hB; clear hB
   go_wp2_with fail
   go_ret
   exact ⟨ret_int (by rw [← hr.out, if_neg (by omega)]), HBB.out⟩
set_option maxRecDepth 100000 in
set_option maxHeartbeats 1000000 in
theorem wcontains_any (g h : Nat) (lo hi : Int) (A : Option Addr) (n c : Nat) (zs : List Int) (w : World) (hn : n ≤ 100) (hzs : zs.length = n) (hx : w.cell? ⟨g, 0, none⟩ = some (.int .i64 lo)) (hy : w.cell? ⟨h, 0, none⟩ = some (.int .i64 hi)) (hI : IntsAt w A n zs) (b : Bool) (hb : Hid (zs.any (outB lo hi) = b)) :
 Calls Tryz.prog 134 #[.slice A n c, .func (.func 197) #[] #[.pointer (some ⟨g, 0, none⟩), .pointer (some ⟨h, 0, none⟩)]] w fun e w' => e = .returned (.bool b) ∧ Below w.heap.size w w' := by
 obtain ⟨r, hr⟩ : ∃ r : Int, (if oidx lo hi zs < n then (oidx lo hi zs : Int) else -1) = r := ⟨_, rfl⟩
 have q : decide (0 ≤ r) = b := by
  rw [← hb.out, ← oidx_all, hzs, ← hr]
  apply decide_eq_decide.2
  split <;> omega
 have HI := hide hI; have HR := hide hr; have HX := hide hx; have HY := hide hy
 clear hI hr hx hy
 go_enter Tryz.func134, Tryz.ntmps134
 go_wp2_with fail
 refine (windex_any g h lo hi A n c zs _ hn hzs HX.out HY.out HI.out r HR).mono ?_
 rintro e w2 ⟨rfl, hB⟩
 have HB := hide hB; clear hB
 go_wp2_with fail
 go_ret
 exact ⟨rfl, HB.out⟩
set_option maxRecDepth 100000 in
set_option maxHeartbeats 1000000 in
theorem withinS_any (lo hi : Int) (A : Option Addr) (n c : Nat) (zs : List Int) (w : World) (hn : n ≤ 100) (hzs : zs.length = n) (hI : IntsAt w A n zs) (b : Bool) (hb : Hid ((!zs.any (outB lo hi)) = b)) :
 Calls Tryz.prog 168 #[.int .i64 lo, .int .i64 hi, .slice A n c] w fun e w' => e = .returned (.bool b) ∧ Below w.heap.size w w' := by
 have hB : Below w.heap.size w ((w.alloc (.cells #[.int .i64 lo] 3)).alloc (.cells #[.int .i64 hi] 3)) := ((Below.refl _ _).alloc (Nat.le_refl _) _).alloc (by simp) _
 have hg := (Blk.new w 3 #[.int .i64 lo]).alloc (.cells #[.int .i64 hi] 3)
 have hh := Blk.new (w.alloc (.cells #[.int .i64 lo] 3)) 3 #[.int .i64 hi]
 simp only [World.size_alloc] at hh
 have hI2 : IntsAt ((w.alloc (.cells #[.int .i64 lo] 3)).alloc (.cells #[.int .i64 hi] 3)) A n zs := by
  intro j hj
  obtain ⟨b, off, hA, c0⟩ := hI j hj
  exact ⟨b, off, hA, (hB.cell (p := ⟨b, off + j, none⟩) (World.block_lt_of_cell? _ _ c0)).trans c0⟩
 have HI := hide hI2; have HB := hide hB; have HG := hide hg.cells1.1; have HH := hide hh.cells1.1
 clear hI hI2 hB hg hh
 have q : (!zs.any (outB lo hi)) = b := hb.out
 obtain ⟨x, hx⟩ : ∃ x, zs.any (outB lo hi) = x := ⟨_, rfl⟩
 rw [hx] at q
 have HX := hide hx; clear hx hb
 go_enter Tryz.func168, Tryz.ntmps168
 go_wp2_with fail
 refine (wcontains_any w.heap.size (w.heap.size + 1) lo hi A n c zs _ hn hzs HG.out HH.out HI.out x HX).mono ?_
 rintro e w2 ⟨rfl, hB⟩
 have HB2 := hide (HB.out.trans (hB.mono HB.out.size)); clear hB
 go_wp2_with fail
 go_ret
 exact ⟨rfl, HB2.out⟩
set_option maxRecDepth 100000 in
set_option maxHeartbeats 1000000 in
theorem span_any (f t lo hi : Int) (w : World) (e : Int) (he : Hid (spE f t lo hi = e)) :
 Calls Tryz.prog 169 #[spanV f t, .int .i64 lo, .int .i64 hi] w fun r w' => r = .returned (.int .i64 e) ∧ Below w.heap.size w w' := by
 have hB := hide ((Below.refl w.heap.size w).alloc (Nat.le_refl _) (.cells #[.int .i64 f, .int .i64 t] 84))
 have q := he.out
 unfold spE at q
 by_cases h1 : t ≤ f
 ·have d1 : decide (t ≤ f) = true := decide_eq_true h1
  rw [if_pos h1] at q
  have Q := hide q; clear q he h1
  go_enter Tryz.func169, Tryz.ntmps169
  go_wp2_with fail
  go_ret
  exact ⟨ret_int Q.out, hB.out⟩
 ·have d1 : decide (t ≤ f) = false := decide_eq_false h1
  rw [if_neg h1] at q
  by_cases h2 : f < lo
  ·have d2 : decide (f < lo) = true := decide_eq_true h2
   rw [if_pos h2] at q
   have Q := hide q; clear q he h1 h2
   go_enter Tryz.func169, Tryz.ntmps169
   go_wp2_with fail
   go_ret
   exact ⟨ret_int Q.out, hB.out⟩
  ·have d2 : decide (f < lo) = false := decide_eq_false h2
   rw [if_neg h2] at q
   by_cases h3 : hi < t
   ·have d3 : decide (hi < t) = true := decide_eq_true h3
    rw [if_pos h3] at q
    have Q := hide q; clear q he h1 h2 h3
    go_enter Tryz.func169, Tryz.ntmps169
    go_wp2_with fail
    go_ret
    exact ⟨ret_int Q.out, hB.out⟩
   ·have d3 : decide (hi < t) = false := decide_eq_false h3
    rw [if_neg h3] at q
    have Q := hide q; clear q he h1 h2 h3
    go_enter Tryz.func169, Tryz.ntmps169
    go_wp2_with fail
    go_ret
    exact ⟨ret_int Q.out, hB.out⟩
end
section
open Go.RowKit
/-- An error e at a place (-1: none). -/
def AtV (w : World) (v : Value) (e pl : Int) : Prop := (pl = -1 ∧ v = .iface 61 (.int .i64 e)) ∨ ∃ g, v = .iface 258 (.pointer (some ⟨g, 0, none⟩)) ∧ Blk w g 259 #[.int .i64 e, .int .i64 pl]
theorem AtV.bare (w : World) (e : Int) : AtV w (.iface 61 (.int .i64 e)) e (-1) := .inl ⟨rfl, rfl⟩
theorem AtV.at_ {w : World} {g : Nat} {e pl : Int} (h : Blk w g 259 #[.int .i64 e, .int .i64 pl]) : AtV w (.iface 258 (.pointer (some ⟨g, 0, none⟩))) e pl := .inr ⟨g, rfl, h⟩
theorem AtV.iface {w : World} {v : Value} {e pl : Int} (h : AtV w v e pl) : ∃ t u, v = .iface t u := by
 rcases h with ⟨_, rfl⟩ | ⟨g, rfl, _⟩
 ·exact ⟨_, _, rfl⟩
 ·exact ⟨_, _, rfl⟩
theorem Blk.cells10 {w : World} {g : Nat} {t : TypeId} {a0 a1 a2 a3 a4 a5 a6 a7 a8 a9 : Value} (h : Blk w g t #[a0, a1, a2, a3, a4, a5, a6, a7, a8, a9]) :
 w.cell? ⟨g, 0, none⟩ = some a0 ∧ w.cell? ⟨g, 1, none⟩ = some a1 ∧ w.cell? ⟨g, 2, none⟩ = some a2 ∧ w.cell? ⟨g, 3, none⟩ = some a3 ∧ w.cell? ⟨g, 4, none⟩ = some a4 ∧ w.cell? ⟨g, 5, none⟩ = some a5 ∧ w.cell? ⟨g, 6, none⟩ = some a6 ∧ w.cell? ⟨g, 7, none⟩ = some a7 ∧
 w.cell? ⟨g, 8, none⟩ = some a8 ∧ w.cell? ⟨g, 9, none⟩ = some a9 :=
 ⟨by simpa using h.cell 0, by simpa using h.cell 1, by simpa using h.cell 2, by simpa using h.cell 3, by simpa using h.cell 4, by simpa using h.cell 5, by simpa using h.cell 6, by simpa using h.cell 7, by simpa using h.cell 8, by simpa using h.cell 9⟩
end
section
open Go.RowKit
/-- The first n windows of a slice lie in memory. -/
def WinsAt (W : World) (A : Option Addr) (n : Nat) (ws : List Wn) : Prop := ∀ j, j < n → ∃ b off, A = some ⟨b, off, none⟩ ∧ ∃ w, ws[j]? = some w ∧ W.cell? ⟨b, off + j * 3, none⟩ = some (.int .i64 w.p) ∧ W.cell? ⟨b, off + j * 3 + 1, none⟩ = some (.int .i64 w.f) ∧ W.cell? ⟨b, off + j * 3 + 2, none⟩ = some (.int .i64 w.t)
theorem WinsAt.below {w W : World} {A : Option Addr} {n : Nat} {ws : List Wn} (h : WinsAt w A n ws) (hB : Below w.heap.size w W) : WinsAt W A n ws := by
 intro j hj
 obtain ⟨b, off, hA, y, hy, c0, c1, c2⟩ := h j hj
 have hb := World.block_lt_of_cell? _ _ c0
 exact ⟨b, off, hA, y, hy, (hB.cell (p := ⟨b, off + j * 3, none⟩) hb).trans c0, (hB.cell (p := ⟨b, off + j * 3 + 1, none⟩) hb).trans c1, (hB.cell (p := ⟨b, off + j * 3 + 2, none⟩) hb).trans c2⟩
end
section
open Go.ChangeShapes Go.WideShapes Go.ChangeAt Go.RowKit Go.Deep
/-- The first n slots of a slice lie in memory. -/
def SlotsAt (W : World) (A : Option Addr) (n : Nat) (ws : List Sl) : Prop := ∀ j, j < n → ∃ b off, A = some ⟨b, off, none⟩ ∧ ∃ w, ws[j]? = some w ∧ W.cell? ⟨b, off + j * 3, none⟩ = some (.int .i64 w.n) ∧ W.cell? ⟨b, off + j * 3 + 1, none⟩ = some (.int .i64 w.f) ∧ W.cell? ⟨b, off + j * 3 + 2, none⟩ = some (.int .i64 w.t)
/-- The first n links of a slice lie in memory. -/
def LinksAt (W : World) (A : Option Addr) (n : Nat) (ws : List Lk) : Prop := ∀ j, j < n → ∃ b off, A = some ⟨b, off, none⟩ ∧ ∃ w, ws[j]? = some w ∧ W.cell? ⟨b, off + j * 4, none⟩ = some (.int .i64 w.f) ∧ W.cell? ⟨b, off + j * 4 + 1, none⟩ = some (.int .i64 w.t) ∧ W.cell? ⟨b, off + j * 4 + 2, none⟩ = some (.int .i64 w.b) ∧ W.cell? ⟨b, off + j * 4 + 3, none⟩ = some (.int .i64 w.q)
theorem SlotsAt.below {w W : World} {A : Option Addr} {n : Nat} {ws : List Sl} (h : SlotsAt w A n ws) (hB : Below w.heap.size w W) : SlotsAt W A n ws := by
 intro j hj
 obtain ⟨b, off, hA, y, hy, c0, c1, c2⟩ := h j hj
 have hb := World.block_lt_of_cell? _ _ c0
 exact ⟨b, off, hA, y, hy, (hB.cell (p := ⟨b, off + j * 3, none⟩) hb).trans c0, (hB.cell (p := ⟨b, off + j * 3 + 1, none⟩) hb).trans c1, (hB.cell (p := ⟨b, off + j * 3 + 2, none⟩) hb).trans c2⟩
theorem LinksAt.below {w W : World} {A : Option Addr} {n : Nat} {ws : List Lk} (h : LinksAt w A n ws) (hB : Below w.heap.size w W) : LinksAt W A n ws := by
 intro j hj
 obtain ⟨b, off, hA, y, hy, c0, c1, c2, c3⟩ := h j hj
 have hb := World.block_lt_of_cell? _ _ c0
 exact ⟨b, off, hA, y, hy, (hB.cell (p := ⟨b, off + j * 4, none⟩) hb).trans c0, (hB.cell (p := ⟨b, off + j * 4 + 1, none⟩) hb).trans c1, (hB.cell (p := ⟨b, off + j * 4 + 2, none⟩) hb).trans c2, (hB.cell (p := ⟨b, off + j * 4 + 3, none⟩) hb).trans c3⟩
theorem list2 {α : Type} {l : List α} (h : l.length = 2) : ∃ a b, l = [a, b] := by match l, h with | [a, b], _ => exact ⟨a, b, rfl⟩
section
variable {H : Type} {enc : TypeId × Value → H} {W : World} {b0 : Nat} {sp : Nat → Bool} {hd : Bool}
end
end
section
open Go.RowKit
/-- A plan's cells. -/
abbrev planC (nd fa sk ji dr R : Int) (S L : Value) (fr : Int) (Q : Value) : Array Value := #[.int .i64 nd, .int .i64 fa, .int .i64 sk, .int .i64 ji, .int .i64 dr, .int .i64 R, S, L, .int .i64 fr, Q]
end
end Go.Proofs.YtideefjnlakciaaGreatDoor
