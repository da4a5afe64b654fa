/- Small facts on memory blocks that every walk of this seat uses; no condition. -/
import Derived.Test.YtideefjnlakciaaGreatDoorRows
import Derived.WalkKit
import Derived.WalkSpells
import Derived.WalkLawsBesides
import Derived.Deep.QuietTactic
import Derived.BigQuiet
import Derived.Laws.OwnMore
import Derived.Deep.Draws
import Derived.Laws.Rows
import Derived.Deep.OwnRows
import Derived.ArgAppend
import Derived.RegionTactic
import Derived.Deep.RegionHeld3
import Derived.Deep.Cut
import Derived.Deep.CutRange
import Derived.Deep.CutBlock
import Derived.Laws.BitsAllLaws
import Derived.Laws.BitsLemmas
import Derived.Laws.Shifts
import Derived.Laws.ShiftsVar
import Derived.Laws.ShiftsVarLaws
set_option linter.unusedVariables false
set_option linter.unusedSimpArgs false
namespace Go.Proofs.YtideefjnlakciaaGreatDoor
section
open Go.RowKit
theorem ret_bool {a b : Bool} (h : a = b) : Ending.returned (.bool a) = .returned (.bool b) := by rw [h]
theorem ret_int {k : IntKind} {a b : Int} (h : a = b) : Ending.returned (.int k a) = .returned (.int k b) := by rw [h]
theorem hide {p : Prop} (h : p) : Hid p := h
def Blk (w : World) (g : Nat) (t : TypeId) (cs : Array Value) : Prop := w.heap[g]? = some (.cells cs t (0, 0))
section
variable {w w' : World} {g : Nat} {t : TypeId} {cs : Array Value}
theorem Blk.lt (h : Blk w g t cs) : g < w.heap.size := by
 rcases Nat.lt_or_ge g w.heap.size with hlt | hge
 ·exact hlt
 ·unfold Blk at h; rw [Array.getElem?_eq_none hge] at h; cases h
theorem Blk.cell (h : Blk w g t cs) (i : Nat) : w.cell? ⟨g, i, none⟩ = cs[i]? := cell_of_row w g i cs t (0, 0) h
theorem Blk.frozen (h : Blk w g t cs) (i : Nat) : w.frozen? ⟨g, i, none⟩ = false := by
 unfold Blk at h
 simp [World.frozen?, h]
theorem Blk.new (w : World) (t : TypeId) (cs : Array Value) : Blk (w.alloc (.cells cs t)) w.heap.size t cs := heap_alloc_new w _
theorem Blk.drew (h : Blk w g t cs) : Blk w.drew g t cs := h
theorem Blk.drewN (h : Blk w g t cs) (n : Nat) : Blk (w.drewN n) g t cs := h
theorem Blk.alloc (h : Blk w g t cs) (o : Obj) : Blk (w.alloc o) g t cs := (Below.heap_alloc w o g h.lt).trans h
theorem Blk.set_ (h : Blk w g t cs) (i : Nat) (u : Value) : Blk (w.setCell ⟨g, i, none⟩ u) g t (cs.setIfInBounds i u) := by
 unfold Blk at h ⊢
 simp [World.setCell, Array.getElem?_modify, h]
theorem Blk.far (h : Blk w g t cs) {p : Addr} (hp : g ≠ p.block) (u : Value) : Blk (w.setCell p u) g t cs := (Below.heap_setCell w p u g hp).trans h
theorem Blk.below {B : Nat} (h : Blk w g t cs) (hb : Below B w w') (hg : g < B) : Blk w' g t cs := (hb.block g hg).trans h
theorem Blk.grown {row : Option Nat} (h : Blk w g t cs) (hb : w.grownBy w' row) (hg : some g ≠ row) : Blk w' g t cs := (hb.block g h.lt hg).trans h
end
theorem below_drewN {B : Nat} {a w : World} (h : Below B a w) (n : Nat) : Below B a (w.drewN n) := ⟨h.os, h.tape, h.output, h.size, h.block⟩
theorem only_refl (w : World) (row : Option Nat) : w.grownBy w row := World.grownBy.refl w row
theorem only_drewN {a w : World} {row : Option Nat} (h : a.grownBy w row) (n : Nat) : a.grownBy (w.drewN n) row := ⟨h.os, h.tape, h.output, h.size, h.block⟩
theorem only_drew {a w : World} {row : Option Nat} (h : a.grownBy w row) : a.grownBy w.drew row := ⟨h.os, h.tape, h.output, h.size, h.block⟩
theorem only_alloc {a w : World} {row : Option Nat} (h : a.grownBy w row) (o : Obj) : a.grownBy (w.alloc o) row :=
 ⟨h.os, h.tape, h.output, Nat.le_trans h.size (by simp), fun i hi hne => (Below.heap_alloc w o i (Nat.lt_of_lt_of_le hi h.size)).trans (h.block i hi hne)⟩
theorem only_setCell {a w : World} {g : Nat} (h : a.grownBy w (some g)) {p : Addr} (hp : p.block = g ∨ a.heap.size ≤ p.block) (u : Value) : a.grownBy (w.setCell p u) (some g) :=
 ⟨h.os, h.tape, h.output, by simpa [World.setCell] using h.size, fun i hi hne => (Below.heap_setCell w p u i (by
  rintro rfl
  rcases hp with hp | hp
  ·exact hne (by rw [hp])
  ·omega)).trans (h.block i hi hne)⟩
theorem only_of_below {a w : World} (h : Below a.heap.size a w) (row : Option Nat) : a.grownBy w row := ⟨h.os, h.tape, h.output, h.size, fun i hi _ => h.block i hi⟩
def errV (e : Int) : Value := if e = 0 then .nilIface else .iface 61 (.int .i64 e)
@[go_sem] theorem errV_eql (e : Int) (w : World) : (binOp .eql 48 (errV e) .nilIface).run Tryz.prog w = .ok (.bool (e == 0)) w := by
 unfold errV
 by_cases h : e = 0
 ·simp [h, go_sem]
 ·simp [h, go_sem]
@[go_sem] theorem errV_neq (e : Int) (w : World) : (binOp .neq 48 (errV e) .nilIface).run Tryz.prog w = .ok (.bool (e != 0)) w := by
 unfold errV
 by_cases h : e = 0
 ·simp [h, go_sem]
 ·simp [h, go_sem]
@[go_sem] theorem eqGuard_errV (op : BinOp) (t : TypeId) (x : Operand) (c : Value) (e : Int) : eqGuard op t x (.const c) (errV e) .nilIface = pure () := by
 unfold errV
 by_cases h : e = 0
 ·simp [h, go_sem]
 ·simp [h, go_sem]
theorem Blk.cells1 {w : World} {g : Nat} {t : TypeId} {a : Value} (h : Blk w g t #[a]) : w.cell? ⟨g, 0, none⟩ = some a ∧ w.frozen? ⟨g, 0, none⟩ = false := ⟨by simpa using h.cell 0, h.frozen 0⟩
theorem Blk.cells2 {w : World} {g : Nat} {t : TypeId} {a b : Value} (h : Blk w g t #[a, b]) : w.cell? ⟨g, 0, none⟩ = some a ∧ w.cell? ⟨g, 1, none⟩ = some b ∧ w.frozen? ⟨g, 0, none⟩ = false ∧ w.frozen? ⟨g, 1, none⟩ = false :=
 ⟨by simpa using h.cell 0, by simpa using h.cell 1, h.frozen 0, h.frozen 1⟩
theorem Blk.cells4 {w : World} {g : Nat} {t : TypeId} {a b c d : Value} (h : Blk w g t #[a, b, c, d]) :
 w.cell? ⟨g, 0, none⟩ = some a ∧ w.cell? ⟨g, 1, none⟩ = some b ∧ w.cell? ⟨g, 2, none⟩ = some c ∧ w.cell? ⟨g, 3, none⟩ = some d :=
 ⟨by simpa using h.cell 0, by simpa using h.cell 1, by simpa using h.cell 2, by simpa using h.cell 3⟩
end
section
open Go.RowKit
def QAt (w : World) (base : Nat) (e : TypeId) (v : Value) (l : List Value) : Prop :=
 (l = [] ∧ ∃ ao, v = .slice ao 0 0 ∧ ∀ x, ao = some x → base ≤ x.block ∧ ∃ cur, w.heap[x.block]? = some (.cells cur e (0, 0))) ∨
 ∃ g off cap cur, v = .slice (some ⟨g, off, none⟩) l.length cap ∧ base ≤ g ∧ w.heap[g]? = some (.cells cur e (0, 0)) ∧ 0 < cap ∧ l.length ≤ cap ∧ cap ≤ maxLen ∧ cur.size = off + cap ∧ ∀ j, j < l.length → cur[off + j]? = l[j]?
theorem QAt.nil (w : World) (base : Nat) (e : TypeId) (ao : Option Addr := none) : QAt w base e (.slice none 0 0) [] := .inl ⟨rfl, none, rfl, fun x h => by cases h⟩
theorem QAt.of_own {w : World} {base b2 : Nat} {e : TypeId} {v : Value} {n : Nat} {l : List Value} (h : w.ownsRow b2 e 1 v n l) (hb : base ≤ b2) : QAt w base e v l := by
 obtain ⟨hl, h | ⟨g, cap, cur, hv, hg, hh, hn, hm, hs, ht⟩⟩ := h
 ·obtain ⟨rfl, rfl⟩ := h
  exact .inl ⟨List.eq_nil_of_length_eq_zero (by omega), none, rfl, fun x h => by cases h⟩
 ·have hl' : l.length = n := by omega
  by_cases hc : cap = 0
  ·exact .inl ⟨List.eq_nil_of_length_eq_zero (by omega), some ⟨g, 0, none⟩, by rw [hv, hc]; congr 1; omega, fun x h => by cases h; exact ⟨Nat.le_trans hb hg, cur, hh⟩⟩
  ·refine .inr ⟨g, 0, cap, cur, by rw [hl']; exact hv, by omega, hh, by omega, by omega, hm, by omega, fun j hj => ?_⟩
   rw [Nat.zero_add, ← ht, List.getElem?_take]
   rw [if_pos (by omega)]
   simp
theorem QAt.shape {w : World} {base : Nat} {e : TypeId} {v : Value} {l : List Value} (h : QAt w base e v l) : ∃ ao c, v = .slice ao l.length c ∧ l.length ≤ c := by
 rcases h with ⟨rfl, ao, rfl, _⟩ | ⟨g, off, cap, cur, rfl, _, _, _, hl, _⟩
 ·exact ⟨ao, 0, rfl, Nat.le_refl _⟩
 ·exact ⟨_, _, rfl, hl⟩
theorem QAt.block {w : World} {base : Nat} {e : TypeId} {ao : Option Addr} {n c : Nat} {l : List Value} (h : QAt w base e (.slice ao n c) l) (hn : 0 < n) : ∃ g off, ao = some ⟨g, off, none⟩ ∧ base ≤ g ∧ g < w.heap.size ∧ ∀ j, j < n → w.cell? ⟨g, off + j, none⟩ = l[j]? := by
 rcases h with ⟨rfl, ao', e', _⟩ | ⟨g, off, cap, cur, e', hb, hg, hc, hl, hm, hs, hcell⟩
 ·cases e'; omega
 ·cases e'
  exact ⟨g, off, rfl, hb, (Array.getElem?_eq_some_iff.1 hg).1, fun j hj => by rw [cell_of_row w g (off + j) cur e (0, 0) hg]; exact hcell j hj⟩
theorem QAt.keep {w w' : World} {base : Nat} {e : TypeId} {v : Value} {l : List Value} (h : QAt w base e v l) (hk : ∀ g, base ≤ g → g < w.heap.size → v.ownBlock = some g → w'.heap[g]? = w.heap[g]?) : QAt w' base e v l := by
 rcases h with ⟨h1, ao, rfl, h3⟩ | ⟨g, off, cap, cur, rfl, hb, hg, r⟩
 ·exact .inl ⟨h1, ao, rfl, fun x hx => by
   obtain ⟨h4, cur, h5⟩ := h3 x hx
   subst hx
   exact ⟨h4, cur, (hk x.block h4 (Array.getElem?_eq_some_iff.1 h5).1 rfl).trans h5⟩⟩
 ·exact .inr ⟨g, off, cap, cur, rfl, hb, by rw [hk g hb (Array.getElem?_eq_some_iff.1 hg).1 rfl]; exact hg, r⟩
theorem QAt.below {w w' : World} {base B : Nat} {e : TypeId} {v : Value} {l : List Value} (h : QAt w base e v l) (hB : Below B w w') (hs : w.heap.size ≤ B) : QAt w' base e v l := h.keep (fun g _ hg _ => hB.block g (by omega))
theorem QAt.far {w : World} {base : Nat} {e : TypeId} {v : Value} {l : List Value} (h : QAt w base e v l) {p : Addr} (hp : v.ownBlock ≠ some p.block) (u : Value) : QAt (w.setCell p u) base e v l :=
 h.keep (fun g _ _ hv => Below.heap_setCell w p u g (by rintro rfl; exact hp hv))
theorem QAt.alloc {w : World} {base : Nat} {e : TypeId} {v : Value} {l : List Value} (h : QAt w base e v l) (o : Obj) : QAt (w.alloc o) base e v l := h.keep (fun g _ hg _ => Below.heap_alloc w o g hg)
theorem QAt.drew {w : World} {base : Nat} {e : TypeId} {v : Value} {l : List Value} (h : QAt w base e v l) : QAt w.drew base e v l := h.keep (fun _ _ _ _ => rfl)
theorem QAt.drewN {w : World} {base : Nat} {e : TypeId} {v : Value} {l : List Value} (h : QAt w base e v l) (n : Nat) : QAt (w.drewN n) base e v l := h.keep (fun _ _ _ _ => rfl)
theorem QAt.mono {w : World} {base b2 : Nat} {e : TypeId} {v : Value} {l : List Value} (h : QAt w base e v l) (hb : b2 ≤ base) : QAt w b2 e v l := by
 rcases h with ⟨h1, ao, h2, h3⟩ | ⟨g, off, cap, cur, e1, h2, r⟩
 ·exact .inl ⟨h1, ao, h2, fun x hx => ⟨Nat.le_trans hb (h3 x hx).1, (h3 x hx).2⟩⟩
 ·exact .inr ⟨g, off, cap, cur, e1, by omega, r⟩
theorem QAt.tail {w : World} {base : Nat} {e : TypeId} {g off n c : Nat} {x : Value} {l : List Value} (h : QAt w base e (.slice (some ⟨g, off, none⟩) n c) (x :: l)) :
 QAt w base e (.slice (if c = 1 then some ⟨g, off, none⟩ else some ⟨g, off + 1, none⟩) (n - 1) (c - 1)) l := by
 rcases h with ⟨h, _⟩ | ⟨g', off', cap, cur, e', hb, hg, hc, hl, hm, hs, hcell⟩
 ·cases h
 ·cases e'
  simp only [List.length_cons, Nat.add_sub_cancel] at *
  by_cases h1 : c = 1
  ·rw [if_pos h1]
   have hl0 : l.length = 0 := by omega
   exact .inl ⟨List.eq_nil_of_length_eq_zero hl0, some ⟨g, off, none⟩, by rw [hl0, h1], fun x h => by cases h; exact ⟨hb, cur, hg⟩⟩
  ·rw [if_neg h1]
   refine .inr ⟨g, off + 1, c - 1, cur, rfl, hb, hg, by omega, by omega, by omega, by omega, fun j hj => ?_⟩
   have := hcell (j + 1) (by omega)
   rw [List.getElem?_cons_succ] at this
   rw [← this]; congr 1; omega
section
variable {P : Program}
theorem run_append_q (w : World) (base : Nat) (t ty e : TypeId) (i : TypeInfo) (z : Value) (bytes : Nat) (ht : P.underlying t = some (.slice e)) (hi : P.info? e = some i) (hz : i.zero = some z) (hsize : i.size = 1) (hby : i.bytes = bytes) (hzs : z.cells.size = 1)
 (v : Value) (l : List Value) (hQ : QAt w base e v l) (B o c : Nat) (u : Value) (hnews : w.cell? ⟨B, o, none⟩ = some u) (h1 : u.oneCell' = true) (h63 : l.length + 1 ≤ maxLen) (hbytes : (l.length + 1) * bytes ≤ 140737488355328) (hbase : base ≤ w.heap.size) :
 ∃ g off cap w', (Builtin.append_ #[t, t] ty #[v, .slice (some ⟨B, o, none⟩) 1 c]).run P w = .ok (.slice (some ⟨g, off, none⟩) (l.length + 1) cap) w' ∧ QAt w' base e (.slice (some ⟨g, off, none⟩) (l.length + 1) cap) (l ++ [u]) ∧ w.grownBy w' v.ownBlock ∧ (v.ownBlock = some g ∨ w.heap.size ≤ g) ∧ base ≤ g ∧ g < w'.heap.size := by
 have hadd : ∀ (g o j : Nat), (⟨g, o, none⟩ : Addr).add j = ⟨g, o + j, none⟩ := by intro g o j; unfold Addr.add; split <;> simp_all
 have hn : ∀ j u', [u][j]? = some u' → w.cell? ((⟨B, o, none⟩ : Addr).add j) = some u' := by
  intro j u' h
  cases j with
  | zero => simp at h; subst h; rw [hadd]; exact hnews
  | succ j => simp at h
 have h1' : ∀ x ∈ [u], x.oneCell' = true := by intro x hx; simp at hx; subst hx; exact h1
 have grow : ∀ (ao : Option Addr) (n cap : Nat), (ao = none → n = 0 ∧ cap = 0) → l.length = n → cap < n + 1 → (∀ b, ao = some b → ∀ j u, l[j]? = some u → w.cell? (b.add j) = some u) → v = .slice ao n cap →
  ∃ g off cap w', (Builtin.append_ #[t, t] ty #[v, .slice (some ⟨B, o, none⟩) 1 c]).run P w = .ok (.slice (some ⟨g, off, none⟩) (l.length + 1) cap) w' ∧ QAt w' base e (.slice (some ⟨g, off, none⟩) (l.length + 1) cap) (l ++ [u]) ∧ w.grownBy w' v.ownBlock ∧ (v.ownBlock = some g ∨ w.heap.size ≤ g) ∧ base ≤ g ∧ g < w'.heap.size := by
  intro ao n cap hnone hln hcap hold hv
  subst hln
  have hfin : ∀ (v' : Value) (w' : World), (Builtin.append_ #[t, t] ty #[v, .slice (some ⟨B, o, none⟩) 1 c]).run P w = .ok v' w' → w'.ownsRow w.heap.size e 1 v' (l.length + 1) (l ++ [u]) → w.grownBy w' none →
   ∃ g off cap w', (Builtin.append_ #[t, t] ty #[v, .slice (some ⟨B, o, none⟩) 1 c]).run P w = .ok (.slice (some ⟨g, off, none⟩) (l.length + 1) cap) w' ∧ QAt w' base e (.slice (some ⟨g, off, none⟩) (l.length + 1) cap) (l ++ [u]) ∧ w.grownBy w' v.ownBlock ∧ (v.ownBlock = some g ∨ w.heap.size ≤ g) ∧ base ≤ g ∧ g < w'.heap.size := by
   intro v' w' hr ho hg
   have ho2 := ho
   obtain ⟨_, ⟨_, h0⟩ | ⟨g, cap', cur, rfl, hb, hh, _⟩⟩ := ho
   ·omega
   ·exact ⟨g, 0, cap', w', hr, QAt.of_own ho2 hbase, ⟨hg.os, hg.tape, hg.output, hg.size, fun k hk _ => hg.block k hk (by simp)⟩, .inr hb, by omega, (Array.getElem?_eq_some_iff.1 hh).1⟩
  cases ao with
  | none =>
   obtain ⟨h0, rfl⟩ := hnone rfl
   obtain rfl := List.eq_nil_of_length_eq_zero h0
   obtain ⟨v', w', hr, r1, r2, _⟩ := run_append_own (P := P) w w.heap.size t ty e i z 1 bytes ht hi hz hsize hby hzs (by decide) (.slice none 0 0) 0 [] (World.ownsRow_nil w _ e 1) ⟨B, o, none⟩ 1 c [u] rfl hn h1' (by simpa using h63) (by simpa using hbytes) (Nat.le_refl _)
   exact hfin v' w' (by rw [hv]; exact hr) (by simpa using r1) (by simpa [Value.ownBlock] using r2)
  | some b =>
   obtain ⟨v', w', hr, r1, r2⟩ := run_append_arg_grows (P := P) w t ty e i z 1 bytes ht hi hz hsize hby hzs (by decide) b l.length cap l (by simp) (hold b rfl) ⟨B, o, none⟩ 1 c [u] rfl hn hcap h63 hbytes
   exact hfin v' w' (by rw [hv]; exact hr) r1 r2
 rcases hQ with ⟨rfl, ao, hv, _⟩ | ⟨g, off, cap, cur, hv, hb, hg, hc0, hl, hm, hs, hcell⟩
 ·exact grow ao 0 0 (fun _ => ⟨rfl, rfl⟩) rfl (by omega) (by intro b _ j u h; simp at h) hv
 ·by_cases hroom : l.length + 1 ≤ cap
  ·have hlen2 : off + l.length < cur.size := by omega
   have hrun := run_append_room_cells (P := P) w t ty e i ht hi g off l.length cap ⟨B, o, none⟩ 1 c [u] (by rw [hsize]; rfl) hn h1' hroom
    (fun j hj => by
     simp at hj; subst hj
     rw [cell_of_row w g _ cur e (0, 0) hg, hsize, Nat.mul_one, Nat.add_zero, Array.getElem?_eq_getElem hlen2]; rfl)
    (fun j hj => by simp [World.frozen?, hg])
   rw [hsize, Nat.mul_one] at hrun
   have hset : w.setCells g (off + l.length) [u] = w.setCell ⟨g, off + l.length, none⟩ u := rfl
   refine ⟨g, off, cap, _, by rw [hv]; exact hrun, ?_, ?_, .inl (by rw [hv]; rfl), hb, ?_⟩
   ·refine .inr ⟨g, off, cap, cur.setIfInBounds (off + l.length) u, by simp, hb, ?_, hc0, by simpa using hroom, hm, by simpa using hs, ?_⟩
    ·rw [hset]; simp [World.setCell, Array.getElem?_modify, hg]
    ·intro j hj
     simp at hj
     rw [Array.getElem?_setIfInBounds]
     by_cases e' : off + l.length = off + j
     ·rw [if_pos e', if_pos hlen2]
      have : j = l.length := by omega
      subst this
      simp
     ·rw [if_neg e', hcell j (by omega), List.getElem?_append_left (by omega)]
   ·rw [hset, hv]
    exact ⟨rfl, rfl, rfl, by simp [World.setCell], fun k hk hne => Below.heap_setCell w _ u k (by rintro rfl; exact hne rfl)⟩
   ·rw [hset]; simpa [World.setCell] using (Array.getElem?_eq_some_iff.1 hg).1
  ·exact grow (some ⟨g, off, none⟩) l.length cap (fun h => by cases h) rfl (by omega) (by
    intro b hb' j u' h
    cases hb'
    have hj : j < l.length := (List.getElem?_eq_some_iff.1 h).1
    rw [hadd, cell_of_row w g _ cur e (0, 0) hg, hcell j hj]; exact h) hv
theorem wp_append_q (w : World) {o : Oper} {a : Act} {K : Act → World → Prop} {Q : Exit → Act → World → Prop} (s x : Operand) (t : TypeId)
 (ho : o.op = .call { callee := .builtin .append, args := #[s, x], argTypes := #[t, t] })
 (base : Nat) (e : TypeId) (i : TypeInfo) (z : Value) (bytes : Nat) (ht : P.underlying t = some (.slice e)) (hi : P.info? e = some i) (hz : i.zero = some z) (hsize : i.size = 1) (hby : i.bytes = bytes) (hzs : z.cells.size = 1)
 (v : Value) (l : List Value) (hs : a.eval s = v) (hQ : QAt w base e v l) (B off c : Nat) (u : Value) (hx : a.eval x = .slice (some ⟨B, off, none⟩) 1 c) (hnews : w.cell? ⟨B, off, none⟩ = some u) (h1 : u.oneCell' = true) (h63 : l.length + 1 ≤ maxLen) (hbytes : (l.length + 1) * bytes ≤ 140737488355328) (hbase : base ≤ w.heap.size)
 (h : ∀ g off cap w', QAt w' base e (.slice (some ⟨g, off, none⟩) (l.length + 1) cap) (l ++ [u]) → w.grownBy w' v.ownBlock → (v.ownBlock = some g ∨ w.heap.size ≤ g) → base ≤ g → g < w'.heap.size → K (a.put o.dst (.slice (some ⟨g, off, none⟩) (l.length + 1) cap)) w') : o.wp P a w K Q := by
 obtain ⟨g, off', cap, w', hr, h2, h3, h4, h5, h6⟩ := run_append_q (P := P) w base t o.type e i z bytes ht hi hz hsize hby hzs v l hQ B off c u hnews h1 h63 hbytes hbase
 unfold Oper.wp execOp
 simp only [ho, resolve, invoke, builtin, Sem.run_bind, Sem.run_pure, Result.andThen_ok, List.map_toArray, List.map_cons, List.map_nil, hs, hx, hr]
 exact h g off' cap w' h2 h3 h4 h5 h6
theorem wpList_append_q (w : World) {ops : Array Oper} {rest : List Oper} {o : Oper} {a : Act} {Q : Exit → Act → World → Prop} (hgd : o.guard = none) (s x : Operand) (t : TypeId)
 (ho : o.op = .call { callee := .builtin .append, args := #[s, x], argTypes := #[t, t] })
 (base : Nat) (e : TypeId) (i : TypeInfo) (z : Value) (bytes : Nat) (ht : P.underlying t = some (.slice e)) (hi : P.info? e = some i) (hz : i.zero = some z) (hsize : i.size = 1) (hby : i.bytes = bytes) (hzs : z.cells.size = 1)
 (v : Value) (l : List Value) (hs : a.eval s = v) (hQ : QAt w base e v l) (B off c : Nat) (u : Value) (hx : a.eval x = .slice (some ⟨B, off, none⟩) 1 c) (hnews : w.cell? ⟨B, off, none⟩ = some u) (h1 : u.oneCell' = true) (h63 : l.length + 1 ≤ maxLen) (hbytes : (l.length + 1) * bytes ≤ 140737488355328) (hbase : base ≤ w.heap.size)
 (h : ∀ g off cap w', QAt w' base e (.slice (some ⟨g, off, none⟩) (l.length + 1) cap) (l ++ [u]) → w.grownBy w' v.ownBlock → (v.ownBlock = some g ∨ w.heap.size ≤ g) → base ≤ g → g < w'.heap.size → wpList P ops Q rest (a.put o.dst (.slice (some ⟨g, off, none⟩) (l.length + 1) cap)) w') : wpList P ops Q (o :: rest) a w :=
 wpList_plain hgd fun _ hK => wp_append_q w s x t ho base e i z bytes ht hi hz hsize hby hzs v l hs hQ B off c u hx hnews h1 h63 hbytes hbase fun g off' cap w' h2 h3 h4 h5 h6 => hK _ _ (h g off' cap w' h2 h3 h4 h5 h6)
end
end
section
end
section
def putE (n q : Nat) (que : Int) : Int := if 40 < n then 4 else if que ≤ q then 12 else 0
def putQ (q : List ByteArray) (d : ByteArray) (e : Int) : List ByteArray := if e = 0 then q ++ [d] else q
def sdE (now la nw bag : Int) (n : Nat) : Int := if now < 0 ∨ 1099511627776 < now then 2 else if now < nw then 10 else if n = 0 ∨ (0 ≤ la ∧ now - la < bag) then 8 else 0
def sdN (e now nw : Int) : Int := if e = 2 ∨ e = 10 then nw else now
section
variable {all : List ByteArray} {went : Nat} {last nw : Int} {q : List ByteArray} {nx la : Int}
end
end
section
open Go.RowKit
structure Kept2 (w w' : World) (g : Nat) (vb : Option Nat) : Prop where
 os : w'.os = w.os
 tape : w'.tape = w.tape
 output : w'.output = w.output
 size : w.heap.size ≤ w'.heap.size
 block : ∀ i, i < w.heap.size → i ≠ g → some i ≠ vb → w'.heap[i]? = w.heap[i]?
section
variable {w w' w0 : World} {g : Nat} {vb : Option Nat}
theorem Kept2.refl (w : World) (g : Nat) (vb : Option Nat) : Kept2 w w g vb := ⟨rfl, rfl, rfl, Nat.le_refl _, fun _ _ _ _ => rfl⟩
theorem Kept2.of_below (h : Below w.heap.size w w') (g : Nat) (vb : Option Nat) : Kept2 w w' g vb := ⟨h.os, h.tape, h.output, h.size, fun i hi _ _ => h.block i hi⟩
theorem Kept2.set_ (h : Kept2 w w' g vb) (i : Nat) (u : Value) : Kept2 w (w'.setCell ⟨g, i, none⟩ u) g vb :=
 ⟨h.os, h.tape, h.output, by simpa [World.setCell] using h.size, fun k hk h1 h2 => (Below.heap_setCell w' _ u k (fun e => h1 e)).trans (h.block k hk h1 h2)⟩
theorem Kept2.drew (h : Kept2 w w' g vb) : Kept2 w w'.drew g vb := ⟨h.os, h.tape, h.output, h.size, h.block⟩
theorem Kept2.drewN (h : Kept2 w w' g vb) (n : Nat) : Kept2 w (w'.drewN n) g vb := ⟨h.os, h.tape, h.output, h.size, h.block⟩
theorem Kept2.alloc (h : Kept2 w w' g vb) (o : Obj) : Kept2 w (w'.alloc o) g vb :=
 ⟨h.os, h.tape, h.output, Nat.le_trans h.size (by simp), fun k hk h1 h2 => (Below.heap_alloc w' o k (Nat.lt_of_lt_of_le hk h.size)).trans (h.block k hk h1 h2)⟩
theorem Kept2.grown_vb {w2 : World} (h : Kept2 w w' g vb) (h2 : w'.grownBy w2 vb) : Kept2 w w2 g vb :=
 ⟨h2.os.trans h.os, h2.tape.trans h.tape, h2.output.trans h.output, Nat.le_trans h.size h2.size, fun k hk a b => (h2.block k (Nat.lt_of_lt_of_le hk h.size) b).trans (h.block k hk a b)⟩
end
def sdC (lf lt bag que : Int) (v : Value) (nx la nw : Int) : Array Value := #[.int .i64 lf, .int .i64 lt, .int .i64 bag, .int .i64 que, v, .int .i64 nx, .int .i64 la, .int .i64 nw]
def sv (q : List ByteArray) : List Value := q.map Value.string
theorem sv_len (q : List ByteArray) : (sv q).length = q.length := by simp [sv]
theorem sv_snoc (q : List ByteArray) (d : ByteArray) : sv (q ++ [d]) = sv q ++ [.string d] := by simp [sv]
theorem Blk.cells8 {w : World} {g : Nat} {t : TypeId} {a0 a1 a2 a3 a4 a5 a6 a7 : Value} (h : Blk w g t #[a0, a1, a2, a3, a4, a5, a6, a7]) :
 w.cell? ⟨g, 0, none⟩ = some a0 ∧ w.cell? ⟨g, 1, none⟩ = some a1 ∧ w.cell? ⟨g, 2, none⟩ = some a2 ∧ w.cell? ⟨g, 3, none⟩ = some a3 ∧ w.cell? ⟨g, 4, none⟩ = some a4 ∧ w.cell? ⟨g, 5, none⟩ = some a5 ∧ w.cell? ⟨g, 6, none⟩ = some a6 ∧ w.cell? ⟨g, 7, none⟩ = some a7 :=
 ⟨by simpa using h.cell 0, by simpa using h.cell 1, by simpa using h.cell 2, by simpa using h.cell 3, by simpa using h.cell 4, by simpa using h.cell 5, by simpa using h.cell 6, by simpa using h.cell 7⟩
def Own (w w' : World) (v v' : Value) : Prop := ∀ k, v'.ownBlock = some k → k < w'.heap.size ∧ (v.ownBlock = some k ∨ w.heap.size ≤ k)
def SdPost (w : World) (base g : Nat) (lf lt bag que : Int) (v : Value) (nx la nw : Int) (q : List ByteArray) (w' : World) : Prop :=
 ∃ v', Blk w' g 264 (sdC lf lt bag que v' nx la nw) ∧ QAt w' base 9 v' (sv q) ∧ Kept2 w w' g v.ownBlock ∧ Own w w' v v'
theorem Kept2.set_new {w w' : World} {g : Nat} {vb : Option Nat} (h : Kept2 w w' g vb) {p : Addr} (hp : w.heap.size ≤ p.block) (u : Value) : Kept2 w (w'.setCell p u) g vb :=
 ⟨h.os, h.tape, h.output, by simpa [World.setCell] using h.size, fun k hk h1 h2 => (Below.heap_setCell w' p u k (by rintro rfl; omega)).trans (h.block k hk h1 h2)⟩
theorem SdPost.keep {w w' : World} {base g : Nat} {lf lt bag que : Int} {v : Value} {nx la nw : Int} {q : List ByteArray} (hb : Blk w' g 264 (sdC lf lt bag que v nx la nw)) (hQ : QAt w' base 9 v (sv q)) (hk : Kept2 w w' g v.ownBlock) (hv : ∀ k, v.ownBlock = some k → k < w.heap.size) : SdPost w base g lf lt bag que v nx la nw q w' :=
 ⟨v, hb, hQ, hk, fun k e => ⟨Nat.lt_of_lt_of_le (hv k e) hk.size, .inl e⟩⟩
theorem own_ne {w : World} {v : Value} (h : ∀ k, v.ownBlock = some k → k < w.heap.size) : v.ownBlock ≠ some w.heap.size := fun e => Nat.lt_irrefl _ (h _ e)
theorem SdPost.same {w w' : World} {base g : Nat} {lf lt bag que : Int} {v : Value} {nx la nw : Int} {q : List ByteArray} (hb : Blk w g 264 (sdC lf lt bag que v nx la nw)) (hQ : QAt w base 9 v (sv q)) (hv : ∀ k, v.ownBlock = some k → k < w.heap.size) (hB : Below w.heap.size w w') : SdPost w base g lf lt bag que v nx la nw q w' :=
 ⟨v, hb.below hB hb.lt, hQ.below hB (Nat.le_refl _), Kept2.of_below hB _ _, fun k e => ⟨Nat.lt_of_lt_of_le (hv k e) hB.size, .inl e⟩⟩
theorem str_info : (Tryz.prog.info? 9).map (fun i => (i.zero, i.size, i.bytes)) = some (some (.string ⟨#[]⟩), 1, 16) := by kernel_rfl
theorem vs_info_parts {t : TypeId} {z : Value} {a b : Nat} (h : (Tryz.prog.info? t).map (fun i => (i.zero, i.size, i.bytes)) = some (some z, a, b)) : ∃ i, Tryz.prog.info? t = some i ∧ i.zero = some z ∧ i.size = a ∧ i.bytes = b := by
 cases e : Tryz.prog.info? t with
 | none => rw [e] at h; cases h
 | some i => rw [e] at h; simp at h; exact ⟨i, rfl, h.1, h.2.1, h.2.2⟩
set_option maxRecDepth 100000 in
theorem newSender_ok {lf lt : Int} (bag que : Int) (w : World) (h1 : 1 ≤ bag) (h2 : bag ≤ 1099511627776) (h3 : 1 ≤ que) (h4 : que ≤ 16) :
 Calls Tryz.prog 146 #[.agg #[.int .i64 lf, .int .i64 lt, .int .i64 bag, .int .i64 que]] w fun e w' => ∃ g, e = .returned (.tuple #[.pointer (some ⟨g, 0, none⟩), errV 0]) ∧ Below w.heap.size w w' ∧ w.heap.size ≤ g ∧ Blk w' g 264 (sdC lf lt bag que (.slice none 0 0) 0 (-1) 0) := by
 have d1 : decide (bag < 1) = false := by simp; omega
 have d2 : decide (1099511627776 < bag) = false := by simp; omega
 have d3 : decide (que < 1) = false := by simp; omega
 have d4 : decide (16 < que) = false := by simp; omega
 have hB := hide ((Below.refl w.heap.size w).alloc (Nat.le_refl _) (.cells #[.int .i64 lf, .int .i64 lt, .int .i64 bag, .int .i64 que] 88))
 clear h1 h2 h3 h4
 go_enter Tryz.func146, Tryz.ntmps146
 go_wp2_with fail
 go_ret2
 exact ⟨w.heap.size + 1, by simp <;> rfl, hB.out.alloc (by simp) _, by omega, by have h := Blk.new (w.alloc (.cells #[.int .i64 lf, .int .i64 lt, .int .i64 bag, .int .i64 que] 88)) 264 (sdC lf lt bag que (.slice none 0 0) 0 (-1) 0); rw [World.size_alloc] at h; exact h⟩
theorem putQ_zero (q : List ByteArray) (d : ByteArray) : putQ q d 0 = q ++ [d] := by unfold putQ; rw [if_pos rfl]
theorem putQ_no (q : List ByteArray) (d : ByteArray) {e : Int} (h : e ≠ 0) : putQ q d e = q := by unfold putQ; rw [if_neg h]
section
variable {lf lt : Int} (g base : Nat) (bag que : Int) (v : Value) (nx la nw : Int) (q : List ByteArray)
set_option maxRecDepth 100000 in
set_option maxHeartbeats 2000000 in
theorem sput_any (w : World) (d : ByteArray) (e : Int) (he : Hid (putE d.size q.length que = e)) (hb : Blk w g 264 (sdC lf lt bag que v nx la nw)) (hQ : QAt w base 9 v (sv q)) (hv : ∀ k, v.ownBlock = some k → k < w.heap.size) (hg : v.ownBlock ≠ some g) (hbase : base ≤ w.heap.size) (hd : d.size ≤ maxLen) (hq : q.length ≤ 1000) :
 Calls Tryz.prog 138 #[.pointer (some ⟨g, 0, none⟩), .string d] w fun r w' => r = .returned (errV e) ∧ SdPost w base g lf lt bag que v nx la nw (putQ q d e) w' := by
 have q1 := he.out
 unfold putE at q1
 unfold maxLen at hd
 by_cases h1 : 40 < d.size
 ·have d1 : decide ((40 : Int) < (d.size : Int)) = true := decide_eq_true (by omega)
  rw [if_pos h1] at q1
  subst q1
  have HP := hide (SdPost.same hb hQ hv (Below.refl _ _))
  clear h1 he hb hQ hv hd hq
  go_enter Tryz.func138, Tryz.ntmps138
  go_wp2_with fail
  go_ret
  exact ⟨rfl, by rw [putQ_no _ _ (by decide)]; exact HP.out⟩
 ·have d1 : decide ((40 : Int) < (d.size : Int)) = false := decide_eq_false (by omega)
  rw [if_neg h1] at q1
  obtain ⟨ao, c, hvv, hlc⟩ := hQ.shape
  obtain ⟨c0, c1, c2, c3, c4, c5, c6, c7⟩ := hb.cells8
  rw [sv_len] at hvv hlc
  by_cases h2 : que ≤ q.length
  ·have d2 : decide (que ≤ (q.length : Int)) = true := decide_eq_true h2
   rw [if_pos h2] at q1
   subst q1
   have HP := hide (fun w' hB => SdPost.same (w' := w') hb hQ hv hB)
   subst hvv
   clear h1 h2 he hb hQ hv hd hq hlc
   go_enter Tryz.func138, Tryz.ntmps138
   go_wp2_with fail
   go_quiet (fail)
   go_wp2_with fail
   go_ret
   exact ⟨rfl, by rw [putQ_no _ _ (by decide)]; exact HP.out _ (below_drewN (Below.refl _ _) _)⟩
  ·have d2 : decide (que ≤ (q.length : Int)) = false := decide_eq_false h2
   rw [if_neg h2] at q1
   subst q1
   subst hvv
   have HB := hide hb; have HQ := hide hQ; have HV := hide hv; have HG := hide hg; have HBA := hide hbase; have HL := hide hq
   obtain ⟨i0, hi, hz0, hz1, hz2⟩ := vs_info_parts str_info
   clear h1 h2 he hb hQ hv hd hlc hbase hq hg
   go_enter Tryz.func138, Tryz.ntmps138
   go_wp2_with fail
   go_quiet (fail)
   go_wp2_with (at_builtin; go_must (refine wpList_append_q _ rfl (.tmp 25) (.tmp 27) _ rfl base 9 i0 _ 16 Tryz.underlying52 hi hz0 hz1 hz2 rfl (.slice ao q.length c) (sv q) rfl (by exact (HQ.out.drewN _).alloc _) w.heap.size 0 1 (.string d) rfl (by exact (Blk.new (w.drewN _) 9 #[.string d]).cells1.1) rfl (by have := HL.out; simp [maxLen, sv_len]; omega) (by have := HL.out; simp [sv_len]; omega) (by have := HBA.out; simp; omega) ?_); intro g1 o1 cap1 w3 hQ3 hgr ho hb1 hlt1; have HQ3 := hide hQ3; have HB3 := hide (((HB.out.drewN _).alloc _).grown hgr (fun e => HG.out e.symm)); have HK3 := hide ((((Kept2.refl w g (Value.slice ao q.length c).ownBlock).drewN _).alloc _).grown_vb hgr); have HO := hide ho; have HL1 := hide hlt1; have hf := HB3.out.frozen 4; obtain ⟨_, _, _, _, e4, _, _, _⟩ := HB3.out.cells8; clear hQ3 hgr ho hb1 hlt1)
   go_ret
   have hne : (Value.slice (some ⟨g1, o1, none⟩) ((sv q).length + 1) cap1).ownBlock ≠ some g := by
    intro e
    simp [Value.ownBlock] at e
    subst e
    rcases HO.out with h | h
    ·exact HG.out h
    ·have := HB.out.lt; simp at h; omega
   refine ⟨rfl, _, HB3.out.set_ 4 _, ?_, HK3.out.set_ 4 _, ?_⟩
   ·rw [putQ_zero, sv_snoc]
    exact QAt.far (p := ⟨g, 4, none⟩) HQ3.out hne _
   ·intro k e
    simp [Value.ownBlock] at e
    subst e
    refine ⟨by simpa [World.setCell] using HL1.out, ?_⟩
    rcases HO.out with h | h
    ·exact .inl h
    ·right; simp at h; omega
theorem sd_own {w w' : World} {gq : Nat} {v v' : Value} (h : v'.ownBlock = some gq) (hlt : gq < w'.heap.size) (hv : v.ownBlock = some gq := by rfl) : Own w w' v v' := by
 intro k e
 rw [h] at e
 cases e
 exact ⟨hlt, .inl hv⟩
theorem sd_first {w : World} {base gq off n c : Nat} {q : List ByteArray} {d : ByteArray} (h : QAt w base 9 (.slice (some ⟨gq, off, none⟩) (n + 1) c) (sv (d :: q))) : w.cell? ⟨gq, off, none⟩ = some (.string d) := by
 obtain ⟨g', o', e1, _, _, hc'⟩ := h.block (by omega)
 cases e1
 have := hc' 0 (by omega)
 simpa [sv] using this
theorem sd_results (tmps : Array Value) (w : World) (g : Nat) (a b v : Value) (h2 : tmps[4]? = some (.pointer (some ⟨g, 0, none⟩))) (h3 : tmps[5]? = some v) (hb : Blk w g 305 #[a, b]) :
 (results Tryz.f200 tmps).run Tryz.prog w = .ok (.tuple #[.agg #[a, b], v]) w := by
 obtain ⟨k0, k1, _⟩ := hb.cells2
 simp [results, Tryz.results200, go_sem, h2, h3, k0, k1]
set_option maxRecDepth 100000 in
set_option maxHeartbeats 2000000 in
theorem ssend_bad (w : World) (now : Int) (e : Int) (he : Hid (sdE now la nw bag q.length = e)) (h0 : e ≠ 0) (hb : Blk w g 264 (sdC lf lt bag que v nx la nw)) (hQ : QAt w base 9 v (sv q)) (hv : ∀ k, v.ownBlock = some k → k < w.heap.size) (hg : v.ownBlock ≠ some g) (hla : -1 ≤ la ∧ la ≤ 1099511627776) (hq : q.length ≤ 1000) :
 Calls Tryz.prog 200 #[.pointer (some ⟨g, 0, none⟩), .int .i64 now] w fun r w' => r = .returned (.tuple #[.agg #[.int .i64 0, .string ⟨#[]⟩], errV e]) ∧ SdPost w base g lf lt bag que v nx la (sdN e now nw) q w' := by
 have q1 := he.out
 unfold sdE at q1
 have HN := hide (Blk.new w 305 #[.int .i64 0, .string ⟨#[]⟩])
 have HB := hide ((Below.refl w.heap.size w).alloc (Nat.le_refl _) (.cells #[.int .i64 0, .string ⟨#[]⟩] 305))
 have HP := hide (fun w' hB => SdPost.same (w' := w') hb hQ hv hB)
 by_cases h1 : now < 0
 ·have d1 : decide (now < 0) = true := decide_eq_true h1
  rw [if_pos (.inl h1)] at q1
  subst q1
  clear h1 he hb hQ hv hg hq hla
  go_enter Tryz.func200, Tryz.ntmps200
  go_wp2_with fail
  exact bodyPost_ret (sd_results _ _ w.heap.size _ _ _ rfl rfl HN.out) rfl ⟨rfl, HP.out _ HB.out⟩
 ·have d1 : decide (now < 0) = false := decide_eq_false h1
  by_cases h2 : 1099511627776 < now
  ·have d2 : decide (1099511627776 < now) = true := decide_eq_true h2
   rw [if_pos (.inr h2)] at q1
   subst q1
   clear h1 h2 he hb hQ hv hg hq hla
   go_enter Tryz.func200, Tryz.ntmps200
   go_wp2_with fail
   exact bodyPost_ret (sd_results _ _ w.heap.size _ _ _ rfl rfl HN.out) rfl ⟨rfl, HP.out _ HB.out⟩
  ·have d2 : decide (1099511627776 < now) = false := decide_eq_false h2
   rw [if_neg (by omega)] at q1
   obtain ⟨c0, c1, c2, c3, c4, c5, c6, c7⟩ := (hb.alloc (.cells #[.int .i64 0, .string ⟨#[]⟩] 305)).cells8
   by_cases h3 : now < nw
   ·have d3 : decide (now < nw) = true := decide_eq_true h3
    rw [if_pos h3] at q1
    subst q1
    clear h1 h2 h3 he hb hQ hv hg hq hla
    go_enter Tryz.func200, Tryz.ntmps200
    go_wp2_with fail
    exact bodyPost_ret (sd_results _ _ w.heap.size _ _ _ rfl rfl HN.out) rfl ⟨rfl, HP.out _ HB.out⟩
   ·have d3 : decide (now < nw) = false := decide_eq_false h3
    rw [if_neg h3] at q1
    obtain ⟨ao, c, hvv, hlc⟩ := hQ.shape
    rw [sv_len] at hvv hlc
    have hne : e = 8 ∧ (q.length = 0 ∨ (0 ≤ la ∧ now - la < bag)) := by
     split at q1
     ·exact ⟨q1.symm, ‹_›⟩
     ·exact absurd q1.symm h0
    obtain ⟨rfl, hq2⟩ := hne
    have HBA := hide ((hb.alloc (.cells #[.int .i64 0, .string ⟨#[]⟩] 305)).set_ 7 (.int .i64 now))
    have HQA := hide ((hQ.alloc (.cells #[.int .i64 0, .string ⟨#[]⟩] 305)).far (p := ⟨g, 7, none⟩) hg (.int .i64 now))
    have HKA := hide (((Kept2.refl w g v.ownBlock).alloc (.cells #[.int .i64 0, .string ⟨#[]⟩] 305)).set_ 7 (.int .i64 now))
    have HV := hide hv
    have HGL := hide hb.lt
    have HN2 := hide (HN.out.far (p := ⟨g, 7, none⟩) (by have := hb.lt; exact Nat.ne_of_gt this) (.int .i64 now))
    have hfz := (hb.alloc (.cells #[.int .i64 0, .string ⟨#[]⟩] 305)).frozen 7
    subst hvv
    by_cases h4 : q.length = 0
    ·have d4 : ((q.length : Int) == 0) = true := by rw [h4]; rfl
     clear h1 h2 h3 he hb hQ hv hg hq hla hq2 q1 hlc h4
     go_enter Tryz.func200, Tryz.ntmps200
     go_wp2_with fail
     go_quiet (fail)
     go_wp2_with fail
     exact bodyPost_ret (sd_results _ _ w.heap.size _ _ _ rfl rfl (((HN2.out.drewN _).set_ 0 _).set_ 1 _)) rfl ⟨rfl, SdPost.keep (((HBA.out.drewN _).far (p := ⟨w.heap.size, 0, none⟩) (Nat.ne_of_lt HGL.out) _).far (p := ⟨w.heap.size, 1, none⟩) (Nat.ne_of_lt HGL.out) _) (((HQA.out.drewN _).far (p := ⟨w.heap.size, 0, none⟩) (own_ne HV.out) _).far (p := ⟨w.heap.size, 1, none⟩) (own_ne HV.out) _) (((HKA.out.drewN _).set_new (p := ⟨w.heap.size, 0, none⟩) (Nat.le_refl _) _).set_new (p := ⟨w.heap.size, 1, none⟩) (Nat.le_refl _) _) HV.out⟩
    ·have d4 : ((q.length : Int) == 0) = false := by rw [beq_eq_false_iff_ne]; omega
     have d5 : decide (0 ≤ la) = true := decide_eq_true (by omega)
     have d6 : decide (now - la < bag) = true := decide_eq_true (by omega)
     have hnow : 0 ≤ now ∧ now ≤ 1099511627776 := by omega
     clear h1 h2 h3 he hb hQ hv hg hq hq2 q1 hlc h4
     go_enter Tryz.func200, Tryz.ntmps200
     go_wp2_with fail
     go_quiet (fail)
     go_wp2_with fail
     exact bodyPost_ret (sd_results _ _ w.heap.size _ _ _ rfl rfl (((HN2.out.drewN _).set_ 0 _).set_ 1 _)) rfl ⟨rfl, SdPost.keep (((HBA.out.drewN _).far (p := ⟨w.heap.size, 0, none⟩) (Nat.ne_of_lt HGL.out) _).far (p := ⟨w.heap.size, 1, none⟩) (Nat.ne_of_lt HGL.out) _) (((HQA.out.drewN _).far (p := ⟨w.heap.size, 0, none⟩) (own_ne HV.out) _).far (p := ⟨w.heap.size, 1, none⟩) (own_ne HV.out) _) (((HKA.out.drewN _).set_new (p := ⟨w.heap.size, 0, none⟩) (Nat.le_refl _) _).set_new (p := ⟨w.heap.size, 1, none⟩) (Nat.le_refl _) _) HV.out⟩
end
end
section
open Go.RowKit
def quC (most : Int) (v : Value) (lost : Int) : Array Value := #[.int .i64 most, v, .int .i64 lost]
theorem Blk.c3 {w : World} {g : Nat} {t : TypeId} {a b c : Value} (h : Blk w g t #[a, b, c]) : w.cell? ⟨g, 0, none⟩ = some a ∧ w.cell? ⟨g, 1, none⟩ = some b ∧ w.cell? ⟨g, 2, none⟩ = some c :=
 ⟨by simpa using h.cell 0, by simpa using h.cell 1, by simpa using h.cell 2⟩
section
variable (g base : Nat)
set_option maxRecDepth 100000 in
theorem newQue_ok (most : Int) (w : World) (h1 : 1 ≤ most) (h2 : most ≤ 16) :
 Calls Tryz.prog 147 #[.int .i64 most] w fun e w' => e = .returned (.tuple #[.pointer (some ⟨w.heap.size, 0, none⟩), errV 0]) ∧ w.alloc (.cells (quC most (.slice none 0 0) 0) 266) = w' := by
 have d1 : decide (most < 1) = false := decide_eq_false (by omega)
 have d2 : decide (16 < most) = false := decide_eq_false (by omega)
 clear h1 h2
 go_enter Tryz.func147, Tryz.ntmps147
 go_wp2_with fail
 go_ret2
 exact ⟨rfl, rfl⟩
variable (most : Int) (v : Value) (lost : Int) (q : List ByteArray)
def QuPost (w : World) (base g : Nat) (most : Int) (v : Value) (lost : Int) (q : List ByteArray) (w' : World) : Prop :=
 ∃ v', Blk w' g 266 (quC most v' lost) ∧ QAt w' base 9 v' (sv q) ∧ Kept2 w w' g v.ownBlock ∧ Own w w' v v'
theorem QuPost.same {w w' : World} {base g : Nat} {most : Int} {v : Value} {lost : Int} {q : List ByteArray} (hb : Blk w g 266 (quC most v lost)) (hQ : QAt w base 9 v (sv q)) (hv : ∀ k, v.ownBlock = some k → k < w.heap.size) (hB : Below w.heap.size w w') : QuPost w base g most v lost q w' :=
 ⟨v, hb.below hB hb.lt, hQ.below hB (Nat.le_refl _), Kept2.of_below hB _ _, fun k e => ⟨Nat.lt_of_lt_of_le (hv k e) hB.size, .inl e⟩⟩
set_option maxRecDepth 100000 in
set_option maxHeartbeats 2000000 in
theorem qsend_any (w : World) (d : ByteArray) (e : Int) (he : Hid (putE d.size q.length most = e)) (hb : Blk w g 266 (quC most v lost)) (hQ : QAt w base 9 v (sv q)) (hv : ∀ k, v.ownBlock = some k → k < w.heap.size) (hg : v.ownBlock ≠ some g) (hbase : base ≤ w.heap.size) (hd : d.size ≤ maxLen) (hq : q.length ≤ 1000) (hl0 : 0 ≤ lost) (hl1 : lost ≤ 1000000000000) :
 Calls Tryz.prog 207 #[.pointer (some ⟨g, 0, none⟩), .string d] w fun r w' => r = .returned (errV e) ∧ QuPost w base g most v (if e = 12 then lost + 1 else lost) (putQ q d e) w' := by
 have q1 := he.out
 unfold putE at q1
 unfold maxLen at hd
 by_cases h1 : 40 < d.size
 ·have d1 : decide ((40 : Int) < (d.size : Int)) = true := decide_eq_true (by omega)
  rw [if_pos h1] at q1
  subst q1
  have HP := hide (QuPost.same hb hQ hv (Below.refl _ _))
  clear h1 he hb hQ hv hd hq
  rw [if_neg (by decide)]
  go_enter Tryz.func207, Tryz.ntmps207
  go_wp2_with fail
  go_ret
  exact ⟨rfl, by rw [putQ_no _ _ (by decide)]; exact HP.out⟩
 ·have d1 : decide ((40 : Int) < (d.size : Int)) = false := decide_eq_false (by omega)
  rw [if_neg h1] at q1
  obtain ⟨ao, c, hvv, hlc⟩ := hQ.shape
  obtain ⟨c0, c1, c2⟩ := hb.c3
  rw [sv_len] at hvv hlc
  have f2 := hb.frozen 2
  by_cases h2 : most ≤ (q.length : Int)
  ·have d2 : decide (most ≤ (q.length : Int)) = true := decide_eq_true h2
   rw [if_pos h2] at q1
   subst q1
   rw [if_pos rfl, putQ_no _ _ (by decide)]
   have HB := hide hb; have HQ := hide hQ; have HV := hide hv; have HG := hide hg
   subst hvv
   clear h1 h2 he hb hQ hv hd hq hlc hg
   go_enter Tryz.func207, Tryz.ntmps207
   go_wp2_with fail
   go_quiet (fail)
   go_wp2_with fail
   go_ret
   refine ⟨rfl, _, (HB.out.drewN _).set_ 2 _, QAt.far (p := ⟨g, 2, none⟩) (HQ.out.drewN _) HG.out _, ((Kept2.refl _ _ _).drewN _).set_ 2 _, fun k e => ⟨by simpa [World.setCell] using HV.out k e, .inl e⟩⟩
  ·have d2 : decide (most ≤ (q.length : Int)) = false := decide_eq_false h2
   rw [if_neg h2] at q1
   subst q1
   subst hvv
   rw [if_neg (by decide)]
   have HB := hide hb; have HQ := hide hQ; have HV := hide hv; have HG := hide hg; have HBA := hide hbase; have HL := hide hq
   obtain ⟨i0, hi, hz0, hz1, hz2⟩ := vs_info_parts str_info
   clear h1 h2 he hb hQ hv hd hlc hbase hq hg f2
   go_enter Tryz.func207, Tryz.ntmps207
   go_wp2_with fail
   go_quiet (fail)
   go_wp2_with (at_builtin; go_must (refine wpList_append_q _ rfl (.tmp 31) (.tmp 33) _ rfl base 9 i0 _ 16 Tryz.underlying52 hi hz0 hz1 hz2 rfl (.slice ao q.length c) (sv q) rfl (by exact (HQ.out.drewN _).alloc _) w.heap.size 0 1 (.string d) rfl (by exact (Blk.new (w.drewN _) 9 #[.string d]).cells1.1) rfl (by have := HL.out; simp [maxLen, sv_len]; omega) (by have := HL.out; simp [sv_len]; omega) (by have := HBA.out; simp; omega) ?_); intro g1 o1 cap1 w3 hQ3 hgr ho hb1 hlt1; have HQ3 := hide hQ3; have HB3 := hide (((HB.out.drewN _).alloc _).grown hgr (fun e => HG.out e.symm)); have HK3 := hide ((((Kept2.refl w g (Value.slice ao q.length c).ownBlock).drewN _).alloc _).grown_vb hgr); have HO := hide ho; have HL1 := hide hlt1; have hf := HB3.out.frozen 1; obtain ⟨_, e4, _⟩ := HB3.out.c3; clear hQ3 hgr ho hb1 hlt1)
   go_ret
   have hne : (Value.slice (some ⟨g1, o1, none⟩) ((sv q).length + 1) cap1).ownBlock ≠ some g := by
    intro e
    simp [Value.ownBlock] at e
    subst e
    rcases HO.out with h | h
    ·exact HG.out h
    ·have := HB.out.lt; simp at h; omega
   refine ⟨rfl, _, HB3.out.set_ 1 _, ?_, HK3.out.set_ 1 _, ?_⟩
   ·rw [putQ_zero, sv_snoc]
    exact QAt.far (p := ⟨g, 1, none⟩) HQ3.out hne _
   ·intro k e
    simp [Value.ownBlock] at e
    subst e
    refine ⟨by simpa [World.setCell] using HL1.out, ?_⟩
    rcases HO.out with h | h
    ·exact .inl h
    ·right; simp at h; omega
set_option maxRecDepth 100000 in
set_option maxHeartbeats 1000000 in
theorem qrecv_none (w : World) (hb : Blk w g 266 (quC most v lost)) (hQ : QAt w base 9 v (sv [])) :
 Calls Tryz.prog 139 #[.pointer (some ⟨g, 0, none⟩)] w fun r w' => r = .returned (.tuple #[.string ⟨#[]⟩, errV 8]) ∧ w' = w := by
 obtain ⟨ao, c, hvv, hlc⟩ := hQ.shape
 obtain ⟨c0, c1, c2⟩ := hb.c3
 rw [sv_len] at hvv hlc
 subst hvv
 clear hb hQ hlc
 go_enter Tryz.func139, Tryz.ntmps139
 go_wp2_with fail
 go_ret2
 exact ⟨rfl, rfl⟩
set_option maxRecDepth 100000 in
set_option maxHeartbeats 1000000 in
theorem qrecv_some (w : World) (d : ByteArray) (hb : Blk w g 266 (quC most v lost)) (hQ : QAt w base 9 v (sv (d :: q))) (hv : ∀ k, v.ownBlock = some k → k < w.heap.size) (hg : v.ownBlock ≠ some g) (hq : q.length ≤ 1000) :
 Calls Tryz.prog 139 #[.pointer (some ⟨g, 0, none⟩)] w fun r w' => r = .returned (.tuple #[.string d, errV 0]) ∧ QuPost w base g most v lost q w' := by
 obtain ⟨ao, c, hvv, hlc⟩ := hQ.shape
 obtain ⟨c0, c1, c2⟩ := hb.c3
 simp only [sv_len, List.length_cons] at hvv hlc
 subst hvv
 obtain ⟨gq, off, rfl, hbq, hlq, hcq⟩ := hQ.block (by omega)
 have hcell := sd_first hQ
 have hgq : gq ≠ g := fun e => hg (by rw [e]; rfl)
 have d4 : ((q.length : Int) + 1 == 0) = false := by rw [beq_eq_false_iff_ne]; omega
 have f1 := hb.frozen 1
 have HB := hide hb; have HQ := hide hQ; have HV := hide hv; have HG := hide hg; have HLQ := hide hlq; have HGQ := hide hgq
 clear hb hQ hv hg hbq hcq hlq hgq
 go_enter Tryz.func139, Tryz.ntmps139
 go_upto_region 5 with fail
 obtain ⟨ao2, hao⟩ : ∃ ao2 : Option Addr, ao2 = if c = 1 then some ⟨gq, off, none⟩ else some ⟨gq, off + 1, none⟩ := ⟨_, rfl⟩
 rw [← hao]
 have HO5 : Hid ((Value.slice ao2 q.length (c - 1)).ownBlock = some gq) := hide (by rw [hao]; split <;> rfl)
 have HQ5 : Hid (QAt w base 9 (.slice ao2 q.length (c - 1)) (sv q)) := hide (by rw [hao]; exact HQ.out.tail)
 have HE1 : Hid ((Value.slice ao2 q.length (c - 1)).ownBlock ≠ some g) := hide (by rw [HO5.out]; intro e; exact HGQ.out (Option.some.inj e))
 clear hao hlc HQ
 go_wp2_with fail
 go_ret2
 exact ⟨rfl, .slice ao2 q.length (c - 1), HB.out.set_ 1 _, QAt.far (p := ⟨g, 1, none⟩) HQ5.out HE1.out _, (Kept2.refl _ _ _).set_ 1 _, sd_own HO5.out (by simpa [World.setCell] using HLQ.out)⟩
end
end
section
open Go.RowKit
theorem ofInt_i64 (a : Nat) (ha : a < 9223372036854775808) : (BitVec.ofInt 64 (a : Int)).toNat = a := by
 rw [BitVec.ofInt_natCast, BitVec.toNat_ofNat]; exact Nat.mod_eq_of_lt (by omega)
theorem i64_and_nat (a b : Nat) (ha : a < 9223372036854775808) (hb : b < 9223372036854775808) : bits .and .i64 (a : Int) (b : Int) = ((a &&& b : Nat) : Int) := by
 have hx : a &&& b < 2 ^ 63 := Nat.and_lt_two_pow _ (by omega)
 show IntKind.i64.wrap ((BitVec.ofInt 64 (a : Int) &&& BitVec.ofInt 64 (b : Int)).toNat : Int) = _
 rw [BitVec.toNat_and, ofInt_i64 a ha, ofInt_i64 b hb, IntKind.wrap_i64]
 omega
theorem i64_or_nat (a b : Nat) (ha : a < 9223372036854775808) (hb : b < 9223372036854775808) : bits .or .i64 (a : Int) (b : Int) = ((a ||| b : Nat) : Int) := by
 have hx : a ||| b < 2 ^ 63 := Nat.or_lt_two_pow (by omega) (by omega)
 show IntKind.i64.wrap ((BitVec.ofInt 64 (a : Int) ||| BitVec.ofInt 64 (b : Int)).toNat : Int) = _
 rw [BitVec.toNat_or, ofInt_i64 a ha, ofInt_i64 b hb, IntKind.wrap_i64]
 omega
theorem i64_xor_nat (a b : Nat) (ha : a < 9223372036854775808) (hb : b < 9223372036854775808) : bits .xor .i64 (a : Int) (b : Int) = ((a ^^^ b : Nat) : Int) := by
 have hx : a ^^^ b < 2 ^ 63 := Nat.xor_lt_two_pow (by omega) (by omega)
 show IntKind.i64.wrap ((BitVec.ofInt 64 (a : Int) ^^^ BitVec.ofInt 64 (b : Int)).toNat : Int) = _
 rw [BitVec.toNat_xor, ofInt_i64 a ha, ofInt_i64 b hb, IntKind.wrap_i64]
 omega
def clr (a b : Nat) : Nat := a ^^^ (a &&& b)
theorem clr_bit (a b i : Nat) : (clr a b).testBit i = (a.testBit i && !b.testBit i) := by
 unfold clr; rw [Nat.testBit_xor, Nat.testBit_and]; cases a.testBit i <;> cases b.testBit i <;> rfl
theorem clr_lt (a b n : Nat) (h : a < 2 ^ n) : clr a b < 2 ^ n := by
 apply Nat.lt_pow_two_of_testBit
 intro i hi
 rw [clr_bit, Nat.testBit_lt_two_pow (Nat.lt_of_lt_of_le h (Nat.pow_le_pow_right (by omega) hi))]
 rfl
theorem i64_andNot_nat (a b : Nat) (ha : a < 9223372036854775808) (hb : b < 9223372036854775808) : bits .andNot .i64 (a : Int) (b : Int) = ((clr a b : Nat) : Int) := by
 have hx : clr a b < 2 ^ 63 := clr_lt _ _ _ (by omega)
 show IntKind.i64.wrap ((BitVec.ofInt 64 (a : Int) &&& ~~~ BitVec.ofInt 64 (b : Int)).toNat : Int) = _
 have e : (BitVec.ofInt 64 (a : Int) &&& ~~~ BitVec.ofInt 64 (b : Int)).toNat = clr a b := by
  apply Nat.eq_of_testBit_eq
  intro i
  rw [clr_bit, BitVec.testBit_toNat, BitVec.getLsbD_and, BitVec.getLsbD_not, ← BitVec.testBit_toNat, ← BitVec.testBit_toNat, ofInt_i64 a ha, ofInt_i64 b hb]
  by_cases h : i < 64
  ·simp [h]
  ·have : a.testBit i = false := Nat.testBit_lt_two_pow (Nat.lt_of_lt_of_le (show a < 2 ^ 63 by omega) (Nat.pow_le_pow_right (by omega) (by omega)))
   simp [this]
 rw [e, IntKind.wrap_i64]
 omega
theorem pow_small (k : Nat) (h : k < 17) : wrap64 ((2 : Int) ^ k) = ((2 ^ k : Nat) : Int) := by
 have h1 : (2 : Nat) ^ k ≤ 2 ^ 16 := Nat.pow_le_pow_right (by omega) (by omega)
 have h2 : ((2 : Int) ^ k) = ((2 ^ k : Nat) : Int) := by simp
 rw [h2]
 generalize (2 : Nat) ^ k = x at h1
 unfold wrap64
 omega
theorem bit_one (m k : Nat) (hm : m < 65536) : bits .and .i64 ((m : Int) / 2 ^ k) 1 = if m.testBit k then 1 else 0 := by
 have e : ((m : Int) / 2 ^ k) = ((m / 2 ^ k : Nat) : Int) := by simp
 have h := i64_and_nat (m / 2 ^ k) 1 (Nat.lt_of_le_of_lt (Nat.div_le_self _ _) (by omega)) (by omega)
 rw [e]
 rw [show ((1 : Nat) : Int) = 1 from rfl] at h
 rw [h, Nat.and_one_is_mod, Nat.testBit_eq_decide_div_mod_eq]
 have := Nat.mod_two_eq_zero_or_one (m / 2 ^ k)
 rcases this with h | h <;> simp [h]
end
section
open Go.RowKit
abbrev nodeC (id n m : Nat) (good bad : Int) (fz : Bool) : Array Value := #[.int .i64 id, .int .i64 n, .int .i64 m, .int .i64 good, .int .i64 bad, .bool fz]
def judgeB (m fr mm : Nat) : Bool := decide (mm ||| 2 ^ fr = m ||| 2 ^ fr) && mm.testBit fr
def judgeV (m fr mm : Nat) : Int := if judgeB m fr mm then 1 else 2
theorem or_pow (m k : Nat) (hm : m < 65536) (hk : k < 17) : bits .or .i64 (m : Int) (wrap64 (2 ^ k)) = ((m ||| 2 ^ k : Nat) : Int) := by
 have h1 : (2 : Nat) ^ k ≤ 2 ^ 16 := Nat.pow_le_pow_right (by omega) (by omega)
 rw [pow_small k hk, i64_or_nat m (2 ^ k) (by omega) (by omega)]
theorem clr_pow (m k : Nat) (hm : m < 65536) (hk : k < 17) : bits .andNot .i64 (m : Int) (wrap64 (2 ^ k)) = ((clr m (2 ^ k) : Nat) : Int) := by
 have h1 : (2 : Nat) ^ k ≤ 2 ^ 16 := Nat.pow_le_pow_right (by omega) (by omega)
 rw [pow_small k hk, i64_andNot_nat m (2 ^ k) (by omega) (by omega)]
theorem judge_bad1 (m fr mm : Nat) (hm : m < 65536) (hmm : mm < 65536) (hf : fr < 17) (h : ¬ bits .or .i64 (mm : Int) (wrap64 (2 ^ fr)) = bits .or .i64 (m : Int) (wrap64 (2 ^ fr))) : judgeB m fr mm = false := by
 rw [or_pow _ _ hm hf, or_pow _ _ hmm hf] at h
 have h' : ¬ (mm ||| 2 ^ fr = m ||| 2 ^ fr) := fun e => h (by rw [e])
 simp [judgeB, h']
theorem judge_bad2 (m fr mm : Nat) (hmm : mm < 65536) (h : (bits .and .i64 ((mm : Int) / 2 ^ fr) 1 == 0) = true) : judgeB m fr mm = false := by
 rw [bit_one _ _ hmm] at h
 cases hb : mm.testBit fr
 ·simp [judgeB, hb]
 ·simp [hb] at h
theorem judge_good (m fr mm : Nat) (hm : m < 65536) (hmm : mm < 65536) (hf : fr < 17) (h : bits .or .i64 (mm : Int) (wrap64 (2 ^ fr)) = bits .or .i64 (m : Int) (wrap64 (2 ^ fr))) (h' : (bits .and .i64 ((mm : Int) / 2 ^ fr) 1 == 0) = false) : judgeB m fr mm = true := by
 rw [or_pow _ _ hm hf, or_pow _ _ hmm hf] at h
 have h := Int.ofNat.inj h
 rw [bit_one _ _ hmm] at h'
 cases hb : mm.testBit fr
 ·simp [hb] at h'
 ·simp [judgeB, hb, h]
end
section
open Go.RowKit
set_option maxRecDepth 100000 in
set_option maxHeartbeats 1000000 in
theorem judges_in (g id n m : Nat) (good bad : Int) (fz : Bool) (fr mm : Nat) (w : World) (hb : Blk w g 261 (nodeC id n m good bad fz)) (hn : n ≤ 16) (hf : fr < n) (hm : m < 65536) (hmm : mm < 65536) :
 Calls Tryz.prog 205 #[.pointer (some ⟨g, 0, none⟩), .int .i64 fr, .int .i64 mm] w fun e w' => e = .returned (.int .i64 (judgeV m fr mm)) ∧ ∃ k, w' = w.drewN k := by
 have hlt := hb.lt
 have k0 := hb.cell 0
 have k1 := hb.cell 1
 have k2 := hb.cell 2
 have k3 := hb.cell 3
 have k4 := hb.cell 4
 have k5 := hb.cell 5
 simp at k0 k1 k2 k3 k4 k5
 have g1 : decide ((fr : Int) < 0) = false := by simp
 have g2 : decide (n ≤ fr) = false := by simp; omega
 clear hb
 go_enter Tryz.func205, Tryz.ntmps205
 go_wp2
 refine wp_region_quiet_lit (by kernel_rfl) (by kernel_rfl) ?_
 repeat (any_goals (first | go_big_quiet_step (fail) | quiet_step (fail) | (refine wpQuiet_step (fun K hK => ?_); go_simp; split <;> (refine hK _ ?_; clear hK K))))
 all_goals (refine wpQuiet_nil ?_; intro _ hw'; obtain ⟨nq, hw''⟩ := hw'; subst hw'')
 all_goals go_wp2
 ·have hj := judge_bad2 m fr mm hmm ‹_›
  go_ret
  exact ⟨by rw [judgeV, hj]; rfl, _, rfl⟩
 ·have hj := judge_good m fr mm hm hmm (by omega) ‹_› ‹_›
  go_ret
  exact ⟨by rw [judgeV, hj]; rfl, _, rfl⟩
 ·have hj := judge_bad1 m fr mm hm hmm (by omega) ‹_›
  go_ret
  exact ⟨by rw [judgeV, hj]; rfl, _, rfl⟩
def hearsC (id n m : Nat) (good bad : Int) (fz : Bool) (fr : Nat) (what : Int) : Array Value :=
 if fz then nodeC id n m good bad fz else if what = 1 then nodeC id n (m ||| 2 ^ fr) (good + 1) bad fz else if what = 2 then nodeC id n (clr m (2 ^ fr)) good (bad + 1) fz else nodeC id n (clr m (2 ^ fr)) good bad fz
set_option maxRecDepth 100000 in
set_option maxHeartbeats 2000000 in
theorem hears_in (g id n m : Nat) (good bad : Int) (fz : Bool) (fr : Nat) (what : Int) (w : World) (hb : Blk w g 261 (nodeC id n m good bad fz)) (hn : n ≤ 16) (hf : fr < n) (hi : id ≠ fr) (hm : m < 65536)
 (h0 : 0 ≤ what) (h2 : what ≤ 2) (g0 : 0 ≤ good) (g1 : good ≤ 1000000000000) (b0 : 0 ≤ bad) (b1 : bad ≤ 1000000000000) :
 Calls Tryz.prog 208 #[.pointer (some ⟨g, 0, none⟩), .int .i64 fr, .int .i64 what] w fun e w' => e = .returned (.tuple #[]) ∧ Blk w' g 261 (hearsC id n m good bad fz fr what) ∧ w.grownBy w' (some g) := by
 have hlt := hb.lt
 have k0 := hb.cell 0
 have k1 := hb.cell 1
 have k2 := hb.cell 2
 have k3 := hb.cell 3
 have k4 := hb.cell 4
 have k5 := hb.cell 5
 simp at k0 k1 k2 k3 k4 k5
 have f2 := hb.frozen 2
 have f3 := hb.frozen 3
 have f4 := hb.frozen 4
 have i1 : decide ((fr : Int) < 0) = false := by simp
 have i2 : decide (n ≤ fr) = false := by simp; omega
 have i3 : ((fr : Int) == (id : Int)) = false := by simp; omega
 have i4 : decide (what < 0) = false := by simp; omega
 have i5 : decide (2 < what) = false := by simp; omega
 have HB := hide hb; clear hb
 have ho := hide (or_pow m fr hm (by omega))
 have hc := hide (clr_pow m fr hm (by omega))
 cases fz
 ·by_cases w1 : what = 1
  ·subst w1
   go_enter Tryz.func208, Tryz.ntmps208
   go_wp2
   go_region
   go_wp2
   refine bodyPost_ret (results_none rfl _ _ _) rfl ⟨rfl, ?_, ?_⟩
   ·rw [ho.out]
    exact ((HB.out.set_ 3 _).set_ 2 _).drew
   ·repeat (first | exact only_refl _ _ | refine only_drew ?_ | refine only_drewN ?_ _ | refine only_alloc ?_ _ | refine only_setCell ?_ (by simp) _)
  ·by_cases w2 : what = 2
   ·subst w2
    go_enter Tryz.func208, Tryz.ntmps208
    go_wp2
    go_region
    go_wp2
    go_end0
    refine ⟨rfl, ?_, ?_⟩
    ·rw [hc.out]
     exact ((HB.out.set_ 4 _).set_ 2 _).drew
    ·repeat (first | exact only_refl _ _ | refine only_drew ?_ | refine only_drewN ?_ _ | refine only_alloc ?_ _ | refine only_setCell ?_ (by simp) _)
   ·obtain rfl : what = 0 := by omega
    go_enter Tryz.func208, Tryz.ntmps208
    go_wp2
    go_region
    go_wp2
    go_end0
    refine ⟨rfl, ?_, ?_⟩
    ·rw [hc.out]
     exact (HB.out.set_ 2 _).drew
    ·repeat (first | exact only_refl _ _ | refine only_drew ?_ | refine only_drewN ?_ _ | refine only_alloc ?_ _ | refine only_setCell ?_ (by simp) _)
 ·go_enter Tryz.func208, Tryz.ntmps208
  go_wp2
  refine bodyPost_ret (results_none rfl _ _ _) rfl ⟨rfl, ?_, ?_⟩
  ·exact HB.out
  ·exact only_refl _ _
def sendsC (id n m : Nat) (good bad : Int) (fz : Bool) : Array Value := if fz then nodeC id n m good bad fz else if good ≤ bad then nodeC id n m good bad true else nodeC id n m 1 0 fz
def sendsOk (good bad : Int) (fz : Bool) : Bool := !fz && decide (bad < good)
def sendsV (m : Nat) (good bad : Int) (fz : Bool) : Int := if sendsOk good bad fz then (m : Int) else 0
set_option maxRecDepth 100000 in
set_option maxHeartbeats 2000000 in
theorem sends_in (g id n m : Nat) (good bad : Int) (fz : Bool) (w : World) (hb : Blk w g 261 (nodeC id n m good bad fz)) :
 Calls Tryz.prog 175 #[.pointer (some ⟨g, 0, none⟩)] w fun e w' => e = .returned (.tuple #[.int .i64 (sendsV m good bad fz), .bool (sendsOk good bad fz)]) ∧ Blk w' g 261 (sendsC id n m good bad fz) ∧ w.grownBy w' (some g) := by
 have hlt := hb.lt
 have k0 := hb.cell 0
 have k1 := hb.cell 1
 have k2 := hb.cell 2
 have k3 := hb.cell 3
 have k4 := hb.cell 4
 have k5 := hb.cell 5
 simp at k0 k1 k2 k3 k4 k5
 have f2 := hb.frozen 2
 have f3 := hb.frozen 3
 have f4 := hb.frozen 4
 have f5 := hb.frozen 5
 have HB := hide hb; clear hb
 cases fz
 ·by_cases h : good ≤ bad
  ·rw [show sendsV m good bad false = 0 by simp [sendsV, sendsOk]; omega, show sendsOk good bad false = false by simp [sendsOk]; omega, show sendsC id n m good bad false = nodeC id n m good bad true by simp [sendsC, h]]
   go_enter Tryz.func175, Tryz.ntmps175
   go_wp2
   go_quiet (fail)
   go_wp2
   go_ret2
   refine ⟨rfl, ?_, ?_⟩
   ·exact (HB.out.drewN _).set_ 5 _
   ·repeat (first | exact only_refl _ _ | refine only_drew ?_ | refine only_drewN ?_ _ | refine only_alloc ?_ _ | refine only_setCell ?_ (by simp) _)
  ·rw [show sendsV m good bad false = m by simp [sendsV, sendsOk]; omega, show sendsOk good bad false = true by simp [sendsOk]; omega, show sendsC id n m good bad false = nodeC id n m 1 0 false by simp [sendsC, h]]
   go_enter Tryz.func175, Tryz.ntmps175
   go_wp2
   go_quiet (fail)
   go_wp2
   go_ret2
   refine ⟨rfl, ?_, ?_⟩
   ·exact ((HB.out.drewN _).set_ 3 _).set_ 4 _
   ·repeat (first | exact only_refl _ _ | refine only_drew ?_ | refine only_drewN ?_ _ | refine only_alloc ?_ _ | refine only_setCell ?_ (by simp) _)
 ·rw [show sendsV m good bad true = 0 by simp [sendsV, sendsOk], show sendsOk good bad true = false by simp [sendsOk], show sendsC id n m good bad true = nodeC id n m good bad true by simp [sendsC]]
  go_enter Tryz.func175, Tryz.ntmps175
  go_wp2
  go_ret2
  exact ⟨rfl, HB.out, only_refl _ _⟩
theorem frozen_in (g id n m : Nat) (good bad : Int) (fz : Bool) (w : World) (hb : Blk w g 261 (nodeC id n m good bad fz)) :
 Calls Tryz.prog 133 #[.pointer (some ⟨g, 0, none⟩)] w fun e w' => e = .returned (.bool fz) ∧ w' = w := by
 have hlt := hb.lt
 have k5 := hb.cell 5
 simp at k5
 clear hb
 go_enter Tryz.func133, Tryz.ntmps133
 go_wp2
 go_ret
 exact ⟨rfl, rfl⟩
theorem members_in (g id n m : Nat) (good bad : Int) (fz : Bool) (w : World) (hb : Blk w g 261 (nodeC id n m good bad fz)) :
 Calls Tryz.prog 132 #[.pointer (some ⟨g, 0, none⟩)] w fun e w' => e = .returned (.int .i64 m) ∧ w' = w := by
 have hlt := hb.lt
 have k5 := hb.cell 2
 simp at k5
 clear hb
 go_enter Tryz.func132, Tryz.ntmps132
 go_wp2
 go_ret
 exact ⟨rfl, rfl⟩
set_option maxRecDepth 100000 in
set_option maxHeartbeats 1000000 in
theorem new_in (id n : Nat) (w : World) (h : id < n) (hn : n ≤ 16) :
 Calls Tryz.prog 145 #[.int .i64 id, .int .i64 n] w fun e w' => e = .returned (.tuple #[.pointer (some ⟨w.heap.size, 0, none⟩), .nilIface]) ∧ w.alloc (.cells (nodeC id n (2 ^ n - 1) 1 0 false) 261) = w' := by
 have hp : wrap64 (wrap64 (2 ^ n) - 1) = ((2 ^ n - 1 : Nat) : Int) := by
  have h1 : (2 : Nat) ^ n ≤ 2 ^ 16 := Nat.pow_le_pow_right (by omega) (by omega)
  have h2 : 0 < (2 : Nat) ^ n := Nat.two_pow_pos n
  rw [pow_small n (by omega)]
  generalize (2 : Nat) ^ n = x at h1 h2
  unfold wrap64
  omega
 have HP := hide hp; clear hp
 go_enter Tryz.func145, Tryz.ntmps145
 go_wp2
 go_ret2
 exact ⟨rfl, by rw [HP.out]⟩
end
section
open Go.RowKit
end
section
open Go.RowKit
def aheadB (a b : Int) : Bool := decide (a ≠ 0 ∧ ((b = 0 ∧ a ≤ 127) ∨ (b ≠ 0 ∧ 1 ≤ (a - b) % 255 ∧ (a - b) % 255 ≤ 127)))
set_option maxHeartbeats 400000 in
theorem ahead_any (a b : Int) (ha : 0 ≤ a) (ha' : a ≤ 255) (hb : 0 ≤ b) (hb' : b ≤ 255) (w : World) :
 Calls Tryz.prog 215 #[.int .i64 a, .int .i64 b] w fun e w' => e = .returned (.bool (aheadB a b)) ∧ w' = w := by
 go_enter Tryz.func215, Tryz.ntmps215
 go_wp2
 all_goals (go_ret; exact ⟨ret_bool (by simp_all [aheadB] <;> omega), rfl⟩)
theorem ahead_is (a b : Int) (ha : 0 ≤ a) (ha' : a ≤ 255) (hb : 0 ≤ b) (hb' : b ≤ 255) (v : Bool) (hv : aheadB a b = v) (w : World) :
 Calls Tryz.prog 215 #[.int .i64 a, .int .i64 b] w fun e w' => e = .returned (.bool v) ∧ w' = w := by
 subst hv; exact ahead_any a b ha ha' hb hb' w
def takeB (s nw : Int) : Bool := decide (0 ≤ s ∧ s ≤ 255) && (decide (nw < 0) || aheadB s nw)
def takeSt (s nw c0 c1 : Int) : Array Value := bif takeB s nw then #[.int .i64 s, .int .i64 (c0 + 1), .int .i64 c1] else #[.int .i64 nw, .int .i64 c0, .int .i64 (c1 + 1)]
set_option maxHeartbeats 1000000 in
theorem take_any (g : Nat) (s nw c0 c1 : Int) (d : ByteArray) (w : World) (hb : Blk w g 275 #[.int .i64 nw, .int .i64 c0, .int .i64 c1])
 (hn : -1 ≤ nw) (hn' : nw ≤ 255) (hc0 : 0 ≤ c0) (hc0' : c0 ≤ 1000000000000) (hc1 : 0 ≤ c1) (hc1' : c1 ≤ 1000000000000) :
 Calls Tryz.prog 206 #[.pointer (some ⟨g, 0, none⟩), .agg #[.int .i64 s, .string d]] w fun e w' => e = .returned (.bool (takeB s nw)) ∧ Blk w' g 275 (takeSt s nw c0 c1) ∧ w.grownBy w' (some g) := by
 have hlt := hb.lt
 have k0 := hb.cell 0
 have k1 := hb.cell 1
 have k2 := hb.cell 2
 have f0 := hb.frozen 0
 have f1 := hb.frozen 1
 have f2 := hb.frozen 2
 simp at k0 k1 k2
 by_cases a1 : s < 0
 ·have et : takeB s nw = false := by simp [takeB]; omega
  have g1 : decide (s < 0) = true := by simp; omega
  have H := hide et; clear et
  go_enter Tryz.func206, Tryz.ntmps206
  go_wp2
  go_quiet (fail)
  go_wp2
  go_region
  go_wp2
  go_ret
  refine ⟨ret_bool H.out.symm, ?_, ?_⟩
  ·rw [takeSt, H.out]; exact (((hb.alloc _).drewN _).set_ 2 _).drew
  ·repeat (first | exact only_refl _ _ | refine only_drew ?_ | refine only_drewN ?_ _ | refine only_alloc ?_ _ | refine only_setCell ?_ (by simp) _)
 have g1 : decide (s < 0) = false := by simp; omega
 by_cases a2 : 255 < s
 ·have et : takeB s nw = false := by simp [takeB]; omega
  have g2 : decide (255 < s) = true := by simp; omega
  have H := hide et; clear et
  go_enter Tryz.func206, Tryz.ntmps206
  go_wp2
  go_quiet (fail)
  go_wp2
  go_region
  go_wp2
  go_ret
  refine ⟨ret_bool H.out.symm, ?_, ?_⟩
  ·rw [takeSt, H.out]; exact (((hb.alloc _).drewN _).set_ 2 _).drew
  ·repeat (first | exact only_refl _ _ | refine only_drew ?_ | refine only_drewN ?_ _ | refine only_alloc ?_ _ | refine only_setCell ?_ (by simp) _)
 have g2 : decide (255 < s) = false := by simp; omega
 by_cases a3 : nw < 0
 ·have et : takeB s nw = true := by simp [takeB]; omega
  have g3 : decide (0 ≤ nw) = false := by simp; omega
  have H := hide et; clear et
  go_enter Tryz.func206, Tryz.ntmps206
  go_wp2
  go_quiet (fail)
  go_wp2
  go_region
  go_wp2
  go_ret
  refine ⟨ret_bool H.out.symm, ?_, ?_⟩
  ·rw [takeSt, H.out]; exact ((((hb.alloc _).drewN _).set_ 0 _).set_ 1 _).drew
  ·repeat (first | exact only_refl _ _ | refine only_drew ?_ | refine only_drewN ?_ _ | refine only_alloc ?_ _ | refine only_setCell ?_ (by simp) _)
 have g3 : decide (0 ≤ nw) = true := by simp; omega
 by_cases a4 : aheadB s nw = true
 ·have et : takeB s nw = true := by simp [takeB, a4]; omega
  have c := ahead_is s nw (by omega) (by omega) (by omega) (by omega) _ a4
  have H := hide et; clear et
  clear a4
  have C := hide c; clear c
  go_enter Tryz.func206, Tryz.ntmps206
  go_wp2
  go_quiet ((go_at_call 215; exact Calls.quiet_of_same (C.out _)))
  go_wp2
  go_region
  go_wp2
  go_ret
  refine ⟨ret_bool H.out.symm, ?_, ?_⟩
  ·rw [takeSt, H.out]; exact ((((hb.alloc _).drewN _).set_ 0 _).set_ 1 _).drew
  ·repeat (first | exact only_refl _ _ | refine only_drew ?_ | refine only_drewN ?_ _ | refine only_alloc ?_ _ | refine only_setCell ?_ (by simp) _)
 ·have a4 : aheadB s nw = false := by simpa using a4
  have et : takeB s nw = false := by simp [takeB, a4]; omega
  have c := ahead_is s nw (by omega) (by omega) (by omega) (by omega) _ a4
  have H := hide et; clear et
  clear a4
  have C := hide c; clear c
  go_enter Tryz.func206, Tryz.ntmps206
  go_wp2
  go_quiet ((go_at_call 215; exact Calls.quiet_of_same (C.out _)))
  go_wp2
  go_region
  go_wp2
  go_ret
  refine ⟨ret_bool H.out.symm, ?_, ?_⟩
  ·rw [takeSt, H.out]; exact (((hb.alloc _).drewN _).set_ 2 _).drew
  ·repeat (first | exact only_refl _ _ | refine only_drew ?_ | refine only_drewN ?_ _ | refine only_alloc ?_ _ | refine only_setCell ?_ (by simp) _)
end
section
open Go.RowKit
inductive Ob where
 | none
 | mem (g id n m : Nat) (good bad : Int) (fz : Bool)
 | tak (g : Nat) (nw c0 c1 : Int)
 | snd (g : Nat) (v : Value) (lf lt bag que nx la nw : Int) (q : List ByteArray)
 | prt (g : Nat) (v : Value) (most lost : Int) (q : List ByteArray)
 | arr (t : TypeId) (v : Value) (l : List Value)
 | blk (g : Nat) (t : TypeId) (cs : Array Value)
def Ob.foot : Ob → List Nat
 | .none => []
 | .mem g _ _ _ _ _ _ => [g]
 | .tak g _ _ _ => [g]
 | .snd g v _ _ _ _ _ _ _ _ => g :: v.ownBlock.toList
 | .prt g v _ _ _ => g :: v.ownBlock.toList
 | .arr _ v _ => v.ownBlock.toList
 | .blk g _ _ => [g]
def Ob.At (w : World) (base : Nat) : Ob → Prop
 | .none => True
 | .mem g id n m good bad fz => Blk w g 261 (nodeC id n m good bad fz)
 | .tak g nw c0 c1 => Blk w g 275 #[.int .i64 nw, .int .i64 c0, .int .i64 c1]
 | .snd g v lf lt bag que nx la nw q => Blk w g 264 (sdC lf lt bag que v nx la nw) ∧ QAt w base 9 v (sv q) ∧ v.ownBlock ≠ some g
 | .prt g v most lost q => Blk w g 266 (quC most v lost) ∧ QAt w base 9 v (sv q) ∧ v.ownBlock ≠ some g
 | .arr t v l => QAt w base t v l
 | .blk g t cs => Blk w g t cs
structure KeptL (w w' : World) (F : List Nat) : Prop where
 os : w'.os = w.os
 tape : w'.tape = w.tape
 output : w'.output = w.output
 size : w.heap.size ≤ w'.heap.size
 block : ∀ i, i < w.heap.size → i ∉ F → w'.heap[i]? = w.heap[i]?
theorem Kept2.toL {w w' : World} {g : Nat} {vb : Option Nat} (h : Kept2 w w' g vb) : KeptL w w' (g :: vb.toList) :=
 ⟨h.os, h.tape, h.output, h.size, fun i hi hn => h.block i hi (fun e => hn (by simp [e])) (fun e => hn (by simp [← e]))⟩
theorem grown_toL {w w' : World} {g : Nat} (h : w.grownBy w' (some g)) : KeptL w w' [g] :=
 ⟨h.os, h.tape, h.output, h.size, fun i hi hn => h.block i hi (by simpa using hn)⟩
theorem grown_toV {w w' : World} {vb : Option Nat} (h : w.grownBy w' vb) : KeptL w w' vb.toList :=
 ⟨h.os, h.tape, h.output, h.size, fun i hi hn => h.block i hi (by rintro rfl; simp at hn)⟩
theorem below_toL {w w' : World} (h : Below w.heap.size w w') (F : List Nat) : KeptL w w' F :=
 ⟨h.os, h.tape, h.output, h.size, fun i hi _ => h.block i hi⟩
theorem KeptL.below {w0 w w' : World} {F : List Nat} {B : Nat} (h : Below B w0 w) (hs : B ≤ w.heap.size) (hk : KeptL w w' F) (hF : ∀ k, k ∈ F → B ≤ k) : Below B w0 w' :=
 ⟨hk.os.trans h.os, hk.tape.trans h.tape, hk.output.trans h.output, Nat.le_trans h.size hk.size, fun k hkB => (hk.block k (by omega) (fun e => by have := hF k e; omega)).trans (h.block k hkB)⟩
theorem Ob.At.keep {w w' : World} {base : Nat} {o : Ob} (h : o.At w base) (hk : ∀ k, k < w.heap.size → k ∈ o.foot → w'.heap[k]? = w.heap[k]?) : o.At w' base := by
 have blk : ∀ {g : Nat} {t : TypeId} {cs : Array Value}, Blk w g t cs → g ∈ o.foot → Blk w' g t cs := fun hb hm => (hk _ hb.lt hm).trans hb
 have que : ∀ {t : TypeId} {v : Value} {l : List Value}, QAt w base t v l → (∀ k, v.ownBlock = some k → k ∈ o.foot) → QAt w' base t v l := fun hq hm => hq.keep (fun g _ hlt e => hk g hlt (hm g e))
 cases o with
 | none => trivial
 | mem => exact blk h (by simp [Ob.foot])
 | tak => exact blk h (by simp [Ob.foot])
 | snd => exact ⟨blk h.1 (by simp [Ob.foot]), que h.2.1 (by intro k e; simp [Ob.foot, e]), h.2.2⟩
 | prt => exact ⟨blk h.1 (by simp [Ob.foot]), que h.2.1 (by intro k e; simp [Ob.foot, e]), h.2.2⟩
 | arr => exact que h (by intro k e; simp [Ob.foot, e])
 | blk => exact blk h (by simp [Ob.foot])
inductive Ix where
 | clu | nums | memA | mem (i : Nat) | sndA | snd (k : Nat) | takA | takR (k : Nat) | tak (k i : Nat) | prtA | prtR (k : Nat) | prt (k i : Nat) | loc (j : Nat)
 deriving DecidableEq
structure Objs (w : World) (base : Nat) (S : Ix → Ob) : Prop where
 at_ : ∀ x, (S x).At w base
 own : ∀ x k, k ∈ (S x).foot → base ≤ k ∧ k < w.heap.size
 sep : ∀ x y k, k ∈ (S x).foot → k ∈ (S y).foot → x = y
def putO (S : Ix → Ob) (x : Ix) (o : Ob) : Ix → Ob := fun y => if y = x then o else S y
section
variable {w w' : World} {base : Nat} {S : Ix → Ob}
@[simp] theorem putO_self (x : Ix) (o : Ob) : putO S x o x = o := by simp [putO]
theorem putO_ne {x y : Ix} (o : Ob) (h : y ≠ x) : putO S x o y = S y := by simp [putO, h]
theorem Objs.same (h : Objs w base S) (hs : w.heap.size ≤ w'.heap.size) (hk : ∀ i, i < w.heap.size → w'.heap[i]? = w.heap[i]?) : Objs w' base S :=
 ⟨fun x => (h.at_ x).keep (fun k hk' _ => hk k hk'), fun x k hm => ⟨(h.own x k hm).1, Nat.lt_of_lt_of_le (h.own x k hm).2 hs⟩, h.sep⟩
theorem Objs.below (h : Objs w base S) (hB : Below w.heap.size w w') : Objs w' base S := h.same hB.size hB.block
theorem Objs.alloc (h : Objs w base S) (o : Obj) : Objs (w.alloc o) base S := h.same (by simp) (fun i hi => Below.heap_alloc w o i hi)
theorem Objs.drewN (h : Objs w base S) (n : Nat) : Objs (w.drewN n) base S := h.same (Nat.le_refl _) (fun _ _ => rfl)
theorem Objs.drew (h : Objs w base S) : Objs w.drew base S := h.same (Nat.le_refl _) (fun _ _ => rfl)
theorem Objs.upd (h : Objs w base S) (x : Ix) (o : Ob) (hk : KeptL w w' (S x).foot) (ha : o.At w' base) (hf : ∀ k, k ∈ o.foot → k < w'.heap.size ∧ (k ∈ (S x).foot ∨ w.heap.size ≤ k)) (hb : base ≤ w.heap.size) : Objs w' base (putO S x o) := by
 refine ⟨fun y => ?_, fun y k hm => ?_, fun y z k hy hz => ?_⟩
 ·by_cases e : y = x
  ·subst e; rw [putO_self]; exact ha
  ·rw [putO_ne _ e]
   exact (h.at_ y).keep (fun k hlt hm => hk.block k hlt (fun hx => e (h.sep y x k hm hx)))
 ·by_cases e : y = x
  ·subst e
   rw [putO_self] at hm
   obtain ⟨h1, h2⟩ := hf k hm
   rcases h2 with h2 | h2
   ·exact ⟨(h.own y k h2).1, h1⟩
   ·exact ⟨by omega, h1⟩
  ·rw [putO_ne _ e] at hm
   exact ⟨(h.own y k hm).1, Nat.lt_of_lt_of_le (h.own y k hm).2 hk.size⟩
 ·by_cases e : y = x
  ·by_cases e2 : z = x
   ·rw [e, e2]
   ·subst e
    rw [putO_self] at hy
    rw [putO_ne _ e2] at hz
    rcases (hf k hy).2 with h2 | h2
    ·exact h.sep y z k h2 hz
    ·have := (h.own z k hz).2; omega
  ·by_cases e2 : z = x
   ·subst e2
    rw [putO_self] at hz
    rw [putO_ne _ e] at hy
    rcases (hf k hz).2 with h2 | h2
    ·exact h.sep y z k hy h2
    ·have := (h.own y k hy).2; omega
   ·rw [putO_ne _ e] at hy
    rw [putO_ne _ e2] at hz
    exact h.sep y z k hy hz
theorem Objs.add (h : Objs w base S) (x : Ix) (o : Ob) (hB : Below w.heap.size w w') (ha : o.At w' base) (hf : ∀ k, k ∈ o.foot → k < w'.heap.size ∧ w.heap.size ≤ k) (hb : base ≤ w.heap.size) : Objs w' base (putO S x o) :=
 h.upd x o (below_toL hB _) ha (fun k hm => ⟨(hf k hm).1, .inr (hf k hm).2⟩) hb
theorem Objs.setBlk (h : Objs w base S) (x : Ix) {g : Nat} {t : TypeId} {cs : Array Value} (hx : S x = .blk g t cs) (i : Nat) (u : Value) (hb : base ≤ w.heap.size) : Objs (w.setCell ⟨g, i, none⟩ u) base (putO S x (.blk g t (cs.setIfInBounds i u))) := by
 have hbk : Blk w g t cs := by have := h.at_ x; rw [hx] at this; exact this
 refine h.upd x _ ?_ (hbk.set_ i u) (fun k hm => ?_) hb
 ·rw [hx]
  exact ⟨rfl, rfl, rfl, by simp [World.setCell], fun k hk hn => Below.heap_setCell w _ u k (by simpa [Ob.foot] using hn)⟩
 ·rw [hx]
  simp only [Ob.foot, List.mem_singleton] at hm
  subst hm
  exact ⟨by simpa [World.setCell] using hbk.lt, .inl (by simp [Ob.foot])⟩
theorem own_foot {w w' : World} {g : Nat} {v v' : Value} (hg : g < w'.heap.size) (ho : Own w w' v v') : ∀ k, k ∈ g :: v'.ownBlock.toList → k < w'.heap.size ∧ (k ∈ g :: v.ownBlock.toList ∨ w.heap.size ≤ k) := by
 intro k hm
 simp only [List.mem_cons, Option.mem_toList] at hm ⊢
 rcases hm with rfl | hm
 ·exact ⟨hg, .inl (.inl rfl)⟩
 ·obtain ⟨h1, h2⟩ := ho k hm
  exact ⟨h1, h2.elim (fun e => .inl (.inr e)) .inr⟩
theorem own_off {w w' : World} {g : Nat} {v v' : Value} (hg : g < w.heap.size) (hv : v.ownBlock ≠ some g) (ho : Own w w' v v') : v'.ownBlock ≠ some g := by
 intro e
 rcases (ho g e).2 with h | h
 ·exact hv h
 ·omega
end
end
section
structure Wn where
 p : Int
 f : Int
 t : Int
end
section
def firstE : List Int → Nat → Int × Nat
 | [], _ => (0, 0)
 | e :: l, i => if e = 0 then firstE l (i + 1) else (e, i)
theorem firstE_gen (l : List Int) (i k : Nat) (e : Int) (h : ∀ j, j < k → l[j]? = some 0) (hk : l[k]? = some e) (he : e ≠ 0) : firstE l i = (e, i + k) := by
 induction l generalizing i k with
 | nil => simp at hk
 | cons x l ih =>
  unfold firstE
  cases k with
  | zero => simp at hk; subst hk; rw [if_neg he]; rfl
  | succ k =>
   have hx : x = 0 := by simpa using h 0 (by omega)
   rw [if_pos hx, ih (i + 1) k (fun j hj => by simpa using h (j + 1) (by omega)) (by simpa using hk)]
   congr 1; omega
theorem firstE_at (l : List Int) (k : Nat) (e : Int) (h : ∀ j, j < k → l[j]? = some 0) (hk : l[k]? = some e) (he : e ≠ 0) : firstE l 0 = (e, k) := by
 rw [firstE_gen l 0 k e h hk he]; congr 1; omega
theorem firstE_none (l : List Int) (i : Nat) (h : ∀ j, j < l.length → l[j]? = some 0) : firstE l i = (0, 0) := by
 induction l generalizing i with
 | nil => rfl
 | cons x l ih =>
  have hx : x = 0 := by simpa using h 0 (by simp)
  unfold firstE
  rw [if_pos hx]
  exact ih (i + 1) (fun j hj => by simpa using h (j + 1) (by simp; omega))
theorem firstE_zero (l : List Int) (i : Nat) (h : (firstE l i).1 = 0) : ∀ j, j < l.length → l[j]? = some 0 := by
 induction l generalizing i with
 | nil => intro j hj; simp at hj
 | cons x l ih =>
  unfold firstE at h
  by_cases hx : x = 0
  ·rw [if_pos hx] at h
   intro j hj
   cases j with
   | zero => simp [hx]
   | succ j => simpa using ih (i + 1) h j (by simp at hj; omega)
  ·rw [if_neg hx] at h; exact absurd h hx
structure Sl where
 n : Int
 f : Int
 t : Int
structure Lk where
 f : Int
 t : Int
 b : Int
 q : Int
def spE (f t lo hi : Int) : Int := if t ≤ f then 1 else if f < lo then 10 else if hi < t then 2 else 0
def slE (sk rd nd lo : Int) (s : Sl) : Int := if spE s.f s.t lo (rd - sk - 1) ≠ 0 then spE s.f s.t lo (rd - sk - 1) else if s.n < 0 ∨ nd - 1 < s.n then 7 else 0
def toBad (nd : Int) (l : Lk) : Bool := decide (l.t ≤ 0) || decide (2 ^ nd.toNat ≤ l.t) || l.t.toNat.testBit l.f.toNat
def lkE (nd : Int) (l : Lk) : Int := if l.f < 0 ∨ nd - 1 < l.f then 7 else if toBad nd l = true then 1 else if l.b < 1 ∨ 137438953472 < l.b ∨ l.q < 1 ∨ 16 < l.q then 2 else 0
def wnE (fr lo : Int) (w : Wn) : Int := if spE w.f w.t lo fr ≠ 0 then spE w.f w.t lo fr else if w.p < 0 ∨ 5 < w.p then 7 else 0
def slEs (sk rd nd : Int) : Int → List Sl → List Int
 | _, [] => []
 | lo, s :: l => slE sk rd nd lo s :: slEs sk rd nd (s.t + sk + 1) l
def wnEs (fr : Int) : Int → List Wn → List Int
 | _, [] => []
 | lo, w :: l => wnE fr lo w :: wnEs fr w.t l
theorem slEs_len (sk rd nd lo : Int) (l : List Sl) : (slEs sk rd nd lo l).length = l.length := by
 induction l generalizing lo with
 | nil => rfl
 | cons s l ih => simp [slEs, ih]
theorem wnEs_len (fr lo : Int) (l : List Wn) : (wnEs fr lo l).length = l.length := by
 induction l generalizing lo with
 | nil => rfl
 | cons s l ih => simp [wnEs, ih]
def slLo (sk : Int) (lo : Int) (l : List Sl) (k : Nat) : Int := if k = 0 then lo else match l[k - 1]? with | some s => s.t + sk + 1 | none => lo
def wnLo (lo : Int) (l : List Wn) (k : Nat) : Int := if k = 0 then lo else match l[k - 1]? with | some s => s.t | none => lo
theorem slLo_zero (sk lo : Int) (l : List Sl) : slLo sk lo l 0 = lo := rfl
theorem slLo_succ (sk lo : Int) (l : List Sl) (k : Nat) (s : Sl) (h : l[k]? = some s) : slLo sk lo l (k + 1) = s.t + sk + 1 := by
 unfold slLo
 rw [if_neg (by omega), Nat.add_sub_cancel, h]
theorem wnLo_zero (lo : Int) (l : List Wn) : wnLo lo l 0 = lo := rfl
theorem wnLo_succ (lo : Int) (l : List Wn) (k : Nat) (s : Wn) (h : l[k]? = some s) : wnLo lo l (k + 1) = s.t := by
 unfold wnLo
 rw [if_neg (by omega), Nat.add_sub_cancel, h]
theorem slEs_at (sk rd nd lo : Int) (l : List Sl) (k : Nat) (s : Sl) (h : l[k]? = some s) : (slEs sk rd nd lo l)[k]? = some (slE sk rd nd (slLo sk lo l k) s) := by
 induction l generalizing lo k with
 | nil => simp at h
 | cons x l ih =>
  cases k with
  | zero => simp at h; subst h; simp [slEs, slLo]
  | succ k =>
   have h' : l[k]? = some s := by simpa using h
   rw [slEs, List.getElem?_cons_succ, ih _ k h']
   congr 2
   cases k with
   | zero => simp [slLo]
   | succ k => simp [slLo]; cases e : l[k]? with
    | none => have := List.getElem?_eq_none_iff.1 e; have := (List.getElem?_eq_some_iff.1 h').1; omega
    | some _ => rfl
theorem wnEs_at (fr lo : Int) (l : List Wn) (k : Nat) (s : Wn) (h : l[k]? = some s) : (wnEs fr lo l)[k]? = some (wnE fr (wnLo lo l k) s) := by
 induction l generalizing lo k with
 | nil => simp at h
 | cons x l ih =>
  cases k with
  | zero => simp at h; subst h; simp [wnEs, wnLo]
  | succ k =>
   have h' : l[k]? = some s := by simpa using h
   rw [wnEs, List.getElem?_cons_succ, ih _ k h']
   congr 2
   cases k with
   | zero => simp [wnLo]
   | succ k => simp [wnLo]; cases e : l[k]? with
    | none => have := List.getElem?_eq_none_iff.1 e; have := (List.getElem?_eq_some_iff.1 h').1; omega
    | some _ => rfl
structure Pl where
 nd : Int
 fa : Int
 sk : Int
 ji : Int
 dr : Int
 rd : Int
 sl : List Sl
 lk : List Lk
 fr : Int
 wn : List Wn
def headE (p : Pl) : Int :=
 if p.nd < 1 ∨ 16 < p.nd ∨ p.fa < 0 ∨ 16 < p.fa ∨ p.nd < 3 * p.fa + 1 then 1
 else if p.sk < 0 ∨ 137438953472 < p.sk ∨ p.ji < 0 ∨ 137438953472 < p.ji ∨ p.dr < 0 ∨ 137438953472 < p.dr ∨ p.rd < 1 ∨ 137438953472 < p.rd ∨ p.fr < 1 ∨ 137438953472 < p.fr then 2
 else if 32 < p.sl.length ∨ 8 < p.lk.length ∨ 32 < p.wn.length then 4
 else if p.sk < p.sk / 2 + 2 * p.ji + 1 + 2 * p.dr then 13 else 0
def chk (p : Pl) : Int × Int :=
 if headE p ≠ 0 then (headE p, -1)
 else if (firstE (slEs p.sk p.rd p.nd 0 p.sl) 0).1 ≠ 0 then ((firstE (slEs p.sk p.rd p.nd 0 p.sl) 0).1, ((firstE (slEs p.sk p.rd p.nd 0 p.sl) 0).2 : Int))
 else if (firstE (p.lk.map (lkE p.nd)) 0).1 ≠ 0 then ((firstE (p.lk.map (lkE p.nd)) 0).1, 1000 + ((firstE (p.lk.map (lkE p.nd)) 0).2 : Int))
 else if (firstE (wnEs p.fr 0 p.wn) 0).1 ≠ 0 then ((firstE (wnEs p.fr 0 p.wn) 0).1, 2000 + ((firstE (wnEs p.fr 0 p.wn) 0).2 : Int))
 else (0, -1)
end
end Go.Proofs.YtideefjnlakciaaGreatDoor
