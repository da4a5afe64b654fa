/- The contract of frame.Encode; no condition but that the text is no longer than memory. -/
import Derived.Test.YtdbegdhbabfnoaaDoorFr
import Derived.Lib.AppendStr
namespace Go.Proofs.YtdbegdhbabfnoaaDoor
open Go.RowKit

/-- Bytes as cells. -/
def bv (l : List Nat) : List Value := l.map fun (x : Nat) => Value.int .u8 (x : Int)
/-- A text's bytes. -/
def dl (d : ByteArray) : List Nat := d.data.toList.map fun b => b.toNat
theorem bv_app (a b : List Nat) : bv (a ++ b) = bv a ++ bv b := List.map_append
theorem bv_dl (d : ByteArray) : bv (dl d) = Lib.strCells d := by unfold bv dl Lib.strCells; rw [List.map_map]; rfl
theorem dl_len (d : ByteArray) : (dl d).length = d.size := by unfold dl; rw [List.length_map, Array.length_toList]; rfl
theorem dl_lt (d : ByteArray) : ∀ x ∈ dl d, x < 256 := by
  intro x hx; unfold dl at hx; obtain ⟨b, _, rfl⟩ := List.mem_map.1 hx; exact b.toNat_lt
theorem bv_one (l : List Nat) : ∀ u ∈ bv l, u.oneCell' = true := by
  intro u hu; unfold bv at hu; obtain ⟨x, _, rfl⟩ := List.mem_map.1 hu; rfl

def EncPost (w : World) (bs : List Nat) (e : Ending) (w' : World) : Prop := ∃ v, e = .returned (.tuple #[v, .nilIface]) ∧ w'.ownsRow w.heap.size 5 1 v bs.length (bv bs) ∧ Below w.heap.size w w'
/-- The bytes ahead of the sum. -/
def frB (nd sl mb lk sq : Nat) (dt : List Nat) : List Nat := [nd, sl, mb / 256, mb % 256, lk + 1] ++ ([sq, dt.length] ++ dt)
def withSum (l : List Nat) : List Nat := l ++ [crcS l / 256, crcS l % 256]
theorem u8_info : (Tryd.prog.info? 5).map (fun i => (i.zero, i.size, i.bytes)) = some (some (.int .u8 0), 1, 1) := by kernel_rfl

theorem own_of_blk {w : World} {g : Nat} {t : TypeId} {cs : List Value} (h : Blk w g t cs.toArray) {base n : Nat} (hb : base ≤ g) (hn : cs.length = n) (hm : n ≤ maxLen) : w.ownsRow base t 1 (.slice (some ⟨g, 0, none⟩) n n) n cs := by
  refine ⟨by omega, .inr ⟨g, n, cs.toArray, rfl, hb, h, Nat.le_refl _, hm, by simp [hn], ?_⟩⟩
  rw [Nat.mul_one, ← hn]; simp

theorem news_of_blk {w : World} {g : Nat} {t : TypeId} {cs : List Value} (h : Blk w g t cs.toArray) : ∀ j u, cs[j]? = some u → w.cell? ((⟨g, 0, none⟩ : Addr).add j) = some u := by
  intro j u hu
  have := h.cell j
  simp only [Addr.add, Nat.zero_add]
  split
  · rename_i h0; subst h0; rw [this]; simpa using hu
  · rw [this]; simpa using hu
theorem bytesAt_of_own {w : World} {base g cap n : Nat} {t : TypeId} {bs : List Nat} (h : w.ownsRow base t 1 (.slice (some ⟨g, 0, none⟩) n cap) n (bv bs)) : BytesAt w (some ⟨g, 0, none⟩) n bs := by
  intro j hj
  have hlen : bs.length = n := by have := h.1; unfold bv at this; rw [List.length_map] at this; omega
  have e : bs.getD j 0 = bs[j]'(by omega) := by rw [List.getD, List.getElem?_eq_getElem (by omega)]; rfl
  have hc := h.cells (g := g) rfl j (.int .u8 ((bs.getD j 0 : Nat) : Int)) (by unfold bv; rw [List.getElem?_map, List.getElem?_eq_getElem (by omega), e]; rfl)
  refine ⟨g, 0, rfl, ?_⟩
  rw [← hc]
  simp only [Addr.add, Nat.zero_add]
  split
  · rename_i h0; subst h0; rfl
  · rfl
theorem own_form {w : World} {base n : Nat} {t : TypeId} {v : Value} {xs : List Value} (h : w.ownsRow base t 1 v n xs) (hn : 0 < n) : ∃ g cap, v = .slice (some ⟨g, 0, none⟩) n cap ∧ base ≤ g ∧ g < w.heap.size ∧ cap ≤ maxLen := by
  rcases h.2 with ⟨_, h0⟩ | ⟨g, cap, cur, hv, hb, hg, _, hm, _⟩
  · omega
  · exact ⟨g, cap, hv, hb, (Array.getElem?_eq_some_iff.1 hg).1, hm⟩
theorem own_grown {w : World} {g cap n : Nat} {t : TypeId} {xs ys : List Value} {z : Value} (h : Blk w g t (xs.toArray ++ (ys.toArray ++ Builtin.zeroCells #[z] (cap - n)))) {base : Nat} (hb : base ≤ g) (hn : (xs ++ ys).length = n) (hc : n ≤ cap) (hm : cap ≤ maxLen) :
    w.ownsRow base t 1 (.slice (some ⟨g, 0, none⟩) n cap) n (xs ++ ys) := by
  refine ⟨by omega, .inr ⟨g, cap, _, rfl, hb, h, hc, hm, ?_, ?_⟩⟩
  · simp only [Array.size_append, List.size_toArray, size_zeroCells]
    rw [List.length_append] at hn
    simp
    omega
  · rw [Nat.mul_one, Array.toList_append, Array.toList_append, ← List.append_assoc, ← hn]
    exact List.take_left

end Go.Proofs.YtdbegdhbabfnoaaDoor

