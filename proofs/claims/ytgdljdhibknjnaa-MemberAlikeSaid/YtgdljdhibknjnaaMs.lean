/- What MemberAlike's memory holds: nodes, pointers to them, Booleans; one slot in two steps; no condition. -/
import Derived.Test.YtgdljdhibknjnaaMh
import Derived.Test.YtgdljdhibknjnaaFe
import Derived.Test.YtgdljdhibknjnaaPk
import Derived.Laws.MakeOwn
namespace Go.Proofs.Ytgdljdhibknjnaa
open Go.RowKit

def BoolsAt (w : World) (g n : Nat) (f : Nat → Bool) : Prop := ∃ cs : Array Value, Blk w g 4 cs ∧ ∀ k, k < n → cs[k]? = some (.bool (f k))
section
variable {w w' : World} {g n : Nat} {f : Nat → Bool}
theorem BoolsAt.cell (h : BoolsAt w g n f) (k : Nat) (hk : k < n) : w.cell? ⟨g, k, none⟩ = some (.bool (f k)) ∧ w.frozen? ⟨g, k, none⟩ = false := by
  obtain ⟨cs, hb, hc⟩ := h
  exact ⟨(hb.cell k).trans (hc k hk), hb.frozen k⟩
theorem BoolsAt.lt (h : BoolsAt w g n f) : g < w.heap.size := by obtain ⟨cs, hb, hc⟩ := h; exact hb.lt
theorem BoolsAt.set_ (h : BoolsAt w g n f) (i : Nat) (b : Bool) (hi : i < n) : BoolsAt (w.setCell ⟨g, i, none⟩ (.bool b)) g n (fun k => if k = i then b else f k) := by
  obtain ⟨cs, hb, hc⟩ := h
  refine ⟨_, hb.set_ i _, ?_⟩
  intro k hk
  have h0 := hc k hk
  rw [Array.getElem?_setIfInBounds]
  have hs : k < cs.size := (Array.getElem?_eq_some_iff.1 h0).1
  by_cases e : i = k
  · subst e; simp [hs]
  · rw [if_neg e]
    show cs[k]? = some (.bool (if k = i then b else f k))
    rw [if_neg (fun (h : k = i) => e h.symm)]; exact h0
theorem BoolsAt.far (h : BoolsAt w g n f) {p : Addr} (hp : g ≠ p.block) (u : Value) : BoolsAt (w.setCell p u) g n f := by
  obtain ⟨cs, hb, hc⟩ := h; exact ⟨cs, hb.far hp u, hc⟩
theorem BoolsAt.grown {row : Option Nat} (h : BoolsAt w g n f) (hb : w.grownBy w' row) (hg : some g ≠ row) : BoolsAt w' g n f := by
  obtain ⟨cs, h1, hc⟩ := h; exact ⟨cs, h1.grown hb hg, hc⟩
theorem BoolsAt.alloc (h : BoolsAt w g n f) (o : Obj) : BoolsAt (w.alloc o) g n f := by
  obtain ⟨cs, h1, hc⟩ := h; exact ⟨cs, h1.alloc o, hc⟩
theorem BoolsAt.drewN (h : BoolsAt w g n f) (k : Nat) : BoolsAt (w.drewN k) g n f := h
theorem BoolsAt.drew (h : BoolsAt w g n f) : BoolsAt w.drew g n f := h
theorem BoolsAt.congr {f' : Nat → Bool} (h : BoolsAt w g n f) (e : ∀ k, k < n → f k = f' k) : BoolsAt w g n f' := by
  obtain ⟨cs, h1, hc⟩ := h
  exact ⟨cs, h1, fun k hk => by rw [hc k hk, e k hk]⟩
end

theorem bool_info : (Try.prog.info? 4).map (fun i => (i.zero, i.size, i.bytes)) = some (some (.bool false), 1, 1) := by kernel_rfl
theorem make_bools (n : Nat) (hn : n ≤ 9) : ∃ cs : Array Value, (∀ w : World, (Instr.makeSlice 45 (.int .i64 n) (.int .i64 n)).run Try.prog w = .ok (.slice (some ⟨w.heap.size, 0, none⟩) n n) (w.alloc (.cells cs 4))) ∧ ∀ k, k < n → cs[k]? = some (.bool false) := by
  obtain ⟨i0, hi, hz0, hz1, hz2⟩ := info_parts bool_info
  refine ⟨madeCells (Value.bool false).cells ((n : Int).toNat * i0.size), fun w => ?_, ?_⟩
  · have := run_makeSlice (P := Try.prog) w 45 4 i0 (.bool false) Try.underlying45 hi hz0 .i64 .i64 n n (by omega) (by omega) (by rw [hz1]; simp; omega) (by rw [hz2]; simp; omega) (by omega)
    simpa using this
  · intro k hk
    rw [hz1]
    simp [madeCells, Value.cells]
    exact ⟨k, by simp [hk], by rw [Nat.mod_one]; rfl⟩

def PtrsAt (w : World) (lb n : Nat) (gk : Nat → Nat) : Prop := ∃ cs : Array Value, Blk w lb 46 cs ∧ ∀ k, k < n → cs[k]? = some (.pointer (some ⟨gk k, 0, none⟩))
section
variable {w w' : World} {lb n : Nat} {gk : Nat → Nat}
theorem PtrsAt.cell (h : PtrsAt w lb n gk) (k : Nat) (hk : k < n) : w.cell? ⟨lb, k, none⟩ = some (.pointer (some ⟨gk k, 0, none⟩)) := by
  obtain ⟨cs, hb, hc⟩ := h
  exact (hb.cell k).trans (hc k hk)
theorem PtrsAt.far (h : PtrsAt w lb n gk) {p : Addr} (hp : lb ≠ p.block) (u : Value) : PtrsAt (w.setCell p u) lb n gk := by
  obtain ⟨cs, hb, hc⟩ := h; exact ⟨cs, hb.far hp u, hc⟩
theorem PtrsAt.grown {row : Option Nat} (h : PtrsAt w lb n gk) (hb : w.grownBy w' row) (hg : some lb ≠ row) : PtrsAt w' lb n gk := by
  obtain ⟨cs, h1, hc⟩ := h; exact ⟨cs, h1.grown hb hg, hc⟩
theorem PtrsAt.drewN (h : PtrsAt w lb n gk) (k : Nat) : PtrsAt (w.drewN k) lb n gk := h
theorem PtrsAt.drew (h : PtrsAt w lb n gk) : PtrsAt w.drew lb n gk := h
end

def NodesAt (w : World) (n : Nat) (gk : Nat → Nat) (s : MSt) : Prop := ∀ k, k < n → Blk w (gk k) 112 (nodeC k n (s.M k) (s.g k) (s.b k) (s.fz k))
section
variable {w w' : World} {n : Nat} {gk : Nat → Nat} {s s' : MSt}
theorem NodesAt.congr (h : NodesAt w n gk s) (e : ∀ k, k < n → s.M k = s'.M k ∧ s.g k = s'.g k ∧ s.b k = s'.b k ∧ s.fz k = s'.fz k) : NodesAt w n gk s' := by
  intro k hk
  obtain ⟨e1, e2, e3, e4⟩ := e k hk
  rw [← e1, ← e2, ← e3, ← e4]; exact h k hk
theorem NodesAt.far (h : NodesAt w n gk s) {p : Addr} (hp : ∀ k, k < n → gk k ≠ p.block) (u : Value) : NodesAt (w.setCell p u) n gk s := fun k hk => (h k hk).far (hp k hk) u
theorem NodesAt.drewN (h : NodesAt w n gk s) (k : Nat) : NodesAt (w.drewN k) n gk s := h
theorem NodesAt.drew (h : NodesAt w n gk s) : NodesAt w.drew n gk s := h
end

/-- All that the loop's memory holds. -/
structure MAt (w W : World) (n lb F E : Nat) (gk : Nat → Nat) (s : MSt) : Prop where
  nodes : NodesAt w n gk s
  ptrs : PtrsAt w lb n gk
  fl : BoolsAt w F n s.fl
  ev : BoolsAt w E n s.ev
  old : Below W.heap.size W w
  inj : ∀ j k, j < n → k < n → gk j = gk k → j = k
  far : ∀ k, k < n → gk k ≠ lb ∧ gk k ≠ F ∧ gk k ≠ E ∧ W.heap.size ≤ gk k
  far2 : lb ≠ F ∧ lb ≠ E ∧ F ≠ E ∧ W.heap.size ≤ F ∧ W.heap.size ≤ E

section
variable {w w' W : World} {n lb F E : Nat} {gk : Nat → Nat} {s s' : MSt}
theorem MAt.drewN (h : MAt w W n lb F E gk s) (k : Nat) : MAt (w.drewN k) W n lb F E gk s := ⟨h.nodes, h.ptrs, h.fl, h.ev, below_drewN h.old _, h.inj, h.far, h.far2⟩
theorem MAt.drew (h : MAt w W n lb F E gk s) : MAt w.drew W n lb F E gk s := ⟨h.nodes, h.ptrs, h.fl, h.ev, h.old.drew, h.inj, h.far, h.far2⟩
theorem MAt.congr (h : MAt w W n lb F E gk s) (e : ∀ k, k < n → s.M k = s'.M k ∧ s.g k = s'.g k ∧ s.b k = s'.b k ∧ s.fz k = s'.fz k) (e2 : ∀ k, k < n → s.fl k = s'.fl k ∧ s.ev k = s'.ev k) : MAt w W n lb F E gk s' :=
  ⟨h.nodes.congr e, h.ptrs, h.fl.congr fun k hk => (e2 k hk).1, h.ev.congr fun k hk => (e2 k hk).2, h.old, h.inj, h.far, h.far2⟩
/-- One node is written. -/
theorem MAt.node (h : MAt w W n lb F E gk s) (k : Nat) (hk : k < n) (hb : Blk w' (gk k) 112 (nodeC k n (s'.M k) (s'.g k) (s'.b k) (s'.fz k))) (hg : w.grownBy w' (some (gk k)))
    (e : ∀ j, j < n → j ≠ k → s.M j = s'.M j ∧ s.g j = s'.g j ∧ s.b j = s'.b j ∧ s.fz j = s'.fz j) (e2 : ∀ k, k < n → s.fl k = s'.fl k ∧ s.ev k = s'.ev k) : MAt w' W n lb F E gk s' := by
  obtain ⟨f1, f2, f3, f4⟩ := h.far k hk
  have ho : Below W.heap.size W w' := h.old.grown hg h.old.size (by intro j hj; cases hj; exact f4)
  refine ⟨?_, h.ptrs.grown hg (by simp; exact fun e => f1 e.symm), (h.fl.grown hg (by simp; exact fun e => f2 e.symm)).congr fun j hj => (e2 j hj).1, (h.ev.grown hg (by simp; exact fun e => f3 e.symm)).congr fun j hj => (e2 j hj).2, ho, h.inj, h.far, h.far2⟩
  intro j hj
  by_cases hjk : j = k
  · subst hjk; exact hb
  · obtain ⟨e1, e2, e3, e4⟩ := e j hj hjk
    rw [← e1, ← e2, ← e3, ← e4]
    exact (h.nodes j hj).grown hg (by simp; exact fun e => hjk (h.inj j k hj hk e))
theorem MAt.setF (h : MAt w W n lb F E gk s) (i : Nat) (b : Bool) (hi : i < n) (f' : Nat → Bool) (hf : ∀ k, k < n → f' k = if k = i then b else s.fl k) : MAt (w.setCell ⟨F, i, none⟩ (.bool b)) W n lb F E gk { s with fl := f' } :=
  ⟨h.nodes.far (fun k hk => (h.far k hk).2.1) _, h.ptrs.far h.far2.1 _, (h.fl.set_ i b hi).congr fun k hk => (hf k hk).symm, h.ev.far (fun e => h.far2.2.2.1 e.symm) _, h.old.setCell h.far2.2.2.2.1 _, h.inj, h.far, h.far2⟩
theorem MAt.setE (h : MAt w W n lb F E gk s) (i : Nat) (b : Bool) (hi : i < n) (f' : Nat → Bool) (hf : ∀ k, k < n → f' k = if k = i then b else s.ev k) : MAt (w.setCell ⟨E, i, none⟩ (.bool b)) W n lb F E gk { s with ev := f' } :=
  ⟨h.nodes.far (fun k hk => (h.far k hk).2.2.1) _, h.ptrs.far h.far2.2.1 _, h.fl.far h.far2.2.2.1 _, (h.ev.set_ i b hi).congr fun k hk => (hf k hk).symm, h.old.setCell h.far2.2.2.2.2 _, h.inj, h.far, h.far2⟩
end

/-- The slot's first half: who sends. -/
def MSt.send (s : MSt) (who what : Nat) : MSt where
  M := s.M
  g k := if k = who then (if s.ok who then 1 else s.g k) else s.g k
  b k := if k = who then (if s.ok who then 0 else s.b k) else s.b k
  fz k := if k = who then !s.ok who else s.fz k
  fl k := if k = who then (if s.ok who then decide (what < 2) else s.fl k) else s.fl k
  ev k := if k = who then (if s.ok who then s.ev k || decide (what < 2) else s.ev k) else s.ev k
  wr := s.wr || what == 1
/-- So many have heard. -/
def MSt.part (s : MSt) (n who what k : Nat) : MSt where
  M j := if j < k then (s.step n who what).M j else s.M j
  g j := if j < k then (s.step n who what).g j else (s.send who what).g j
  b j := if j < k then (s.step n who what).b j else (s.send who what).b j
  fz := (s.send who what).fz
  fl := (s.send who what).fl
  ev := (s.send who what).ev
  wr := (s.send who what).wr

theorem sendsOk_ok (s : MSt) (who : Nat) : sendsOk (s.g who) (s.b who) (s.fz who) = s.ok who := by
  unfold sendsOk MSt.ok
  congr 1
  exact decide_eq_decide.2 (by omega)
theorem sendsV_ok (s : MSt) (who : Nat) : sendsV (s.M who) (s.g who) (s.b who) (s.fz who) = ((if s.ok who then s.M who else 0 : Nat) : Int) := by
  unfold sendsV
  rw [sendsOk_ok]
  split <;> rfl
theorem sendsC_send (s : MSt) (n who what : Nat) : sendsC who n (s.M who) (s.g who) (s.b who) (s.fz who) = nodeC who n ((s.send who what).M who) ((s.send who what).g who) ((s.send who what).b who) ((s.send who what).fz who) := by
  unfold sendsC MSt.send
  simp only [if_true]
  unfold MSt.ok
  cases h : s.fz who
  · by_cases hg : s.b who < s.g who
    · have h1 : ¬ ((s.g who : Int) ≤ (s.b who : Int)) := by omega
      simp [hg, h1]
    · have h1 : ((s.g who : Int) ≤ (s.b who : Int)) := by omega
      simp [hg, h1]
  · simp
theorem hears_step (s : MSt) (n who what k : Nat) (hne : k ≠ who) : hearsC k n (s.M k) (s.g k) (s.b k) (s.fz k) who (s.kind n who what k : Nat) = nodeC k n ((s.step n who what).M k) ((s.step n who what).g k) ((s.step n who what).b k) ((s.step n who what).fz k) := by
  have hk : s.kind n who what k = 0 ∨ s.kind n who what k = 1 ∨ s.kind n who what k = 2 := by
    unfold MSt.kind; split
    · simp
    · split <;> simp
  unfold hearsC MSt.step
  simp only [if_neg hne]
  cases h : s.fz k
  · rcases hk with e | e | e <;> simp [e, hne]
  · simp
theorem part_zero (s : MSt) (n who what : Nat) (k : Nat) : (s.send who what).M k = (s.part n who what 0).M k ∧ (s.send who what).g k = (s.part n who what 0).g k ∧ (s.send who what).b k = (s.part n who what 0).b k ∧ (s.send who what).fz k = (s.part n who what 0).fz k := by
  simp [MSt.part, MSt.send]
theorem part_skip (s : MSt) (n who what : Nat) (k : Nat) : (s.part n who what who).M k = (s.part n who what (who + 1)).M k ∧ (s.part n who what who).g k = (s.part n who what (who + 1)).g k ∧ (s.part n who what who).b k = (s.part n who what (who + 1)).b k ∧ (s.part n who what who).fz k = (s.part n who what (who + 1)).fz k := by
  unfold MSt.part
  by_cases h : k < who
  · have h1 : k < who + 1 := by omega
    simp [h, h1]
  · by_cases he : k = who
    · subst he
      simp [MSt.step, MSt.send]
    · have h1 : ¬ k < who + 1 := by omega
      simp [h, h1]
theorem part_other (s : MSt) (n who what k j : Nat) (hj : j ≠ k) : (s.part n who what k).M j = (s.part n who what (k + 1)).M j ∧ (s.part n who what k).g j = (s.part n who what (k + 1)).g j ∧ (s.part n who what k).b j = (s.part n who what (k + 1)).b j ∧ (s.part n who what k).fz j = (s.part n who what (k + 1)).fz j := by
  unfold MSt.part
  by_cases h : j < k
  · have h1 : j < k + 1 := by omega
    simp [h, h1]
  · have h1 : ¬ j < k + 1 := by omega
    simp [h, h1]
/-- What node k is ahead of its hearing, and behind it. -/
theorem part_at (s : MSt) (n who what k : Nat) (hne : k ≠ who) : nodeC k n ((s.part n who what k).M k) ((s.part n who what k).g k) ((s.part n who what k).b k) ((s.part n who what k).fz k) = nodeC k n (s.M k) (s.g k) (s.b k) (s.fz k) ∧
    nodeC k n ((s.step n who what).M k) ((s.step n who what).g k) ((s.step n who what).b k) ((s.step n who what).fz k) = nodeC k n ((s.part n who what (k + 1)).M k) ((s.part n who what (k + 1)).g k) ((s.part n who what (k + 1)).b k) ((s.part n who what (k + 1)).fz k) := by
  unfold MSt.part
  simp [MSt.send, hne]
  simp [MSt.step, hne]
theorem part_full (s : MSt) (n who what k : Nat) (hk : k < n) : (s.part n who what n).M k = (s.step n who what).M k ∧ (s.part n who what n).g k = (s.step n who what).g k ∧ (s.part n who what n).b k = (s.step n who what).b k ∧ (s.part n who what n).fz k = (s.step n who what).fz k := by
  simp [MSt.part, hk]
  rfl
end Go.Proofs.Ytgdljdhibknjnaa
