/- The sum of bytes (16 bits, 1021): plain facts, no program in sight. -/
import Derived.Test.YtdbegdhbabfnoaaLib
namespace Go.Proofs.Ytdbegdhbabfnoaa

/-- One bit further. -/
def crcT (v : Nat) : Nat := if 32768 ≤ v then (2 * v % 65536) ^^^ 4129 else 2 * v
def crcI : Nat → Nat → Nat
  | 0, v => v
  | k + 1, v => crcT (crcI k v)
def crcB (v c : Nat) : Nat := crcI 8 (v ^^^ (c * 256))
def crcS (l : List Nat) : Nat := l.foldl crcB 65535
theorem crcT_lt (v : Nat) (h : v < 65536) : crcT v < 65536 := by
  unfold crcT; split
  · exact Nat.xor_lt_two_pow (n := 16) (by omega) (by omega)
  · omega
theorem crcI_lt (k v : Nat) (h : v < 65536) : crcI k v < 65536 := by
  induction k with
  | zero => exact h
  | succ k ih => exact crcT_lt _ ih
theorem crcX_lt (v c : Nat) (h : v < 65536) (hc : c < 256) : v ^^^ (c * 256) < 65536 := Nat.xor_lt_two_pow (n := 16) (by omega) (by omega)
theorem crcB_lt (v c : Nat) (h : v < 65536) (hc : c < 256) : crcB v c < 65536 := crcI_lt _ _ (crcX_lt v c h hc)
theorem crcF_lt (l : List Nat) (v : Nat) (h : v < 65536) (hl : ∀ c ∈ l, c < 256) : l.foldl crcB v < 65536 := by
  induction l generalizing v with
  | nil => exact h
  | cons c l ih =>
    rw [List.foldl_cons]
    exact ih (crcB v c) (crcB_lt _ _ h (hl c (List.mem_cons_self ..))) (fun d hd => hl d (List.mem_cons_of_mem _ hd))
theorem crcS_lt (l : List Nat) (hl : ∀ c ∈ l, c < 256) : crcS l < 65536 := crcF_lt l _ (by omega) hl
theorem crcS_snoc (l : List Nat) (k : Nat) (h : k < l.length) : crcS (l.take (k + 1)) = crcB (crcS (l.take k)) (l.getD k 0) := by
  unfold crcS
  rw [List.take_add_one, List.foldl_append]
  rw [List.getElem?_eq_getElem h]
  have e : l.getD k 0 = l[k] := by rw [List.getD, List.getElem?_eq_getElem h]; rfl
  rw [e]
  simp only [Option.toList_some, List.foldl_cons, List.foldl_nil]
end Go.Proofs.Ytdbegdhbabfnoaa
