/- Bytes and numbers in memory: helpers; no condition. -/
import Derived.Test.YtfdadkngbnhmeaaDoorQu
import Derived.Test.YtfdadkngbnhmeaaDoorPq
import Derived.Test.YtfdadkngbnhmeaaDoorOpen
import Derived.Deep.Cut
import Derived.Deep.CutRange
import Derived.Deep.CutBlock
namespace Go.Proofs.YtfdadkngbnhmeaaDoor
open Go.RowKit

/-- Bytes as cells. -/
def bvN (l : List Nat) : List Value := l.map fun (n : Nat) => Value.int .u8 (n : Int)
theorem bvN_len (l : List Nat) : (bvN l).length = l.length := by simp [bvN]
theorem bvN_snoc (l : List Nat) (n : Nat) : bvN (l ++ [n]) = bvN l ++ [.int .u8 (n : Int)] := by simp [bvN]
/-- What was written besides what was there: the value's own block, and new ones. -/
def OwnTo (w w' : World) (v v' : Value) : Prop := w.grownBy w' v.ownBlock ∧ ∀ k, v'.ownBlock = some k → k < w'.heap.size ∧ (v.ownBlock = some k ∨ w.heap.size ≤ k)
theorem OwnTo.refl (w : World) (v : Value) (h : ∀ k, v.ownBlock = some k → k < w.heap.size) : OwnTo w w v v := ⟨World.grownBy.refl w _, fun k e => ⟨h k e, .inl e⟩⟩
theorem OwnTo.trans {w w1 w2 : World} {v v1 v2 : Value} (h : OwnTo w w1 v v1) (k : OwnTo w1 w2 v1 v2) : OwnTo w w2 v v2 := by
  refine ⟨⟨k.1.os.trans h.1.os, k.1.tape.trans h.1.tape, k.1.output.trans h.1.output, Nat.le_trans h.1.size k.1.size, fun i hi hne => ?_⟩, fun j e => ?_⟩
  · rw [k.1.block i (Nat.lt_of_lt_of_le hi h.1.size) ?_]
    · exact h.1.block i hi hne
    · intro e
      rcases (h.2 i e.symm).2 with e2 | e2
      · exact hne e2.symm
      · omega
  · obtain ⟨a, b⟩ := k.2 j e
    refine ⟨a, ?_⟩
    rcases b with b | b
    · exact (h.2 j b).2
    · exact .inr (Nat.le_trans h.1.size b)
theorem OwnTo.alloc {w w' : World} {v v' : Value} (h : OwnTo w w' v v') (o : Obj) : OwnTo w (w'.alloc o) v v' := ⟨only_alloc h.1 o, fun k e => ⟨by rw [World.size_alloc]; have := (h.2 k e).1; omega, (h.2 k e).2⟩⟩
theorem OwnTo.below {w w' : World} {v v' : Value} (h : OwnTo w w' v v') (hv : v.ownBlock = none) : Below w.heap.size w w' := ⟨h.1.os, h.1.tape, h.1.output, h.1.size, fun i hi => h.1.block i hi (by rw [hv]; simp)⟩
/-- Numbers in memory. -/
def NumsAt (w : World) (A : Option Addr) (n : Nat) (zs : List Nat) : Prop := ∀ j, j < n → ∃ b off, A = some ⟨b, off, none⟩ ∧ w.cell? ⟨b, off + j, none⟩ = some (.int .i64 (zs.getD j 0 : Nat))
theorem u8_or : ∀ x : Fin 256, bits .or .u8 (x.val : Int) 128 = ((x.val % 128 + 128 : Nat) : Int) := by decide +kernel
set_option maxRecDepth 100000 in
theorem u8_wrap (m : Nat) : IntKind.u8.wrap (m : Int) = ((m % 256 : Nat) : Int) := by rw [IntKind.wrap_u8]; push_cast; rfl
theorem vbyte (m : Nat) : bits .or .u8 (IntKind.u8.wrap (m : Int)) 128 = ((m % 128 + 128 : Nat) : Int) := by
  rw [u8_wrap]
  have h := u8_or ⟨m % 256, Nat.mod_lt _ (by decide)⟩
  simp only at h
  rw [h]
  congr 2
  omega
theorem en_u8_info : (Tryd.prog.info? 5).map (fun i => (i.zero, i.size, i.bytes)) = some (some (.int .u8 0), 1, 1) := by kernel_rfl
set_option maxRecDepth 100000 in
theorem en_info_parts {t : TypeId} {z : Value} {a b : Nat} (h : (Tryd.prog.info? t).map (fun i => (i.zero, i.size, i.bytes)) = some (some z, a, b)) : ∃ i, Tryd.prog.info? t = some i ∧ i.zero = some z ∧ i.size = a ∧ i.bytes = b := by
  cases e : Tryd.prog.info? t with
  | none => rw [e] at h; cases h
  | some i => rw [e] at h; simp at h; exact ⟨i, rfl, h.1, h.2.1, h.2.2⟩
theorem vnums_len10 (l : List Nat) (h : ∀ z ∈ l, (vnum z).length ≤ 10) : (vnums l).length ≤ 10 * l.length := by
  induction l with
  | nil => simp [vnums_nil]
  | cons n l ih =>
    have h1 := h n (by simp)
    have h2 := ih (fun m hm => h m (by simp [hm]))
    rw [vnums_cons, List.length_append, List.length_cons]; omega
theorem vnums_take (zs : List Nat) (k : Nat) (hk : k < zs.length) : vnums (zs.take (k + 1)) = vnums (zs.take k) ++ vnum (zs.getD k 0) := by
  rw [List.take_succ_eq_append_getElem hk, vnums_app]
  congr 1
  rw [vnums_cons, vnums_nil, List.append_nil]
  simp [hk]
theorem own_of {w w' : World} {v : Value} {g o n c : Nat} (ho : v.ownBlock = some g ∨ w.heap.size ≤ g) (hlt : g < w'.heap.size) : ∀ k, (Value.slice (some ⟨g, o, none⟩) n c).ownBlock = some k → k < w'.heap.size ∧ (v.ownBlock = some k ∨ w.heap.size ≤ k) := by
  intro k e
  simp [Value.ownBlock] at e
  subst e
  exact ⟨hlt, ho⟩
end Go.Proofs.YtfdadkngbnhmeaaDoor
