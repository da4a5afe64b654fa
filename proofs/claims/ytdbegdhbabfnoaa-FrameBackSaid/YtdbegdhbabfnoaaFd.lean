/- The contract of frame.Decode at bytes that are none, or whose sum is wrong; condition: the bytes lie in memory. -/
import Derived.Test.YtdbegdhbabfnoaaFr
import Derived.Test.YtdbegdhbabfnoaaBt
namespace Go.Proofs.Ytdbegdhbabfnoaa
open Go.RowKit

theorem quiet_left {P : Program} {f : FuncId} {args : Array Value} {w : World} {n : Nat} {v : Value}
    (h : Calls P f args (w.drewN n) fun e w' => e = .returned v ∧ w.drewN n = w') : Calls P f args (w.drewN n) fun e w'' => e = .returned v ∧ ∃ m, w'' = w.drewN m :=
  h.mono fun _ _ ⟨he, hm⟩ => ⟨he, n, hm.symm⟩

abbrev frZ : Value := .agg #[.int .i64 0, .int .i64 0, .int .i64 0, .int .i64 0, .int .i64 0, .string ⟨#[]⟩]
/-- No frame: ErrForm. -/
def DecBad (w : World) (e : Ending) (w' : World) : Prop := e = .returned (.tuple #[frZ, .iface 35 (.int .i64 3)]) ∧ Below w.heap.size w w'

theorem Blk.cells6 {w : World} {g : Nat} {t : TypeId} {a b c d e f : Value} (h : Blk w g t #[a, b, c, d, e, f]) :
    w.cell? ⟨g, 0, none⟩ = some a ∧ w.cell? ⟨g, 1, none⟩ = some b ∧ w.cell? ⟨g, 2, none⟩ = some c ∧ w.cell? ⟨g, 3, none⟩ = some d ∧ w.cell? ⟨g, 4, none⟩ = some e ∧ w.cell? ⟨g, 5, none⟩ = some f ∧
    w.frozen? ⟨g, 0, none⟩ = false ∧ w.frozen? ⟨g, 1, none⟩ = false ∧ w.frozen? ⟨g, 2, none⟩ = false ∧ w.frozen? ⟨g, 3, none⟩ = false ∧ w.frozen? ⟨g, 4, none⟩ = false ∧ w.frozen? ⟨g, 5, none⟩ = false :=
  ⟨by simpa using h.cell 0, by simpa using h.cell 1, by simpa using h.cell 2, by simpa using h.cell 3, by simpa using h.cell 4, by simpa using h.cell 5, h.frozen 0, h.frozen 1, h.frozen 2, h.frozen 3, h.frozen 4, h.frozen 5⟩

theorem BytesAt.below {w W : World} {A : Option Addr} {n : Nat} {bs : List Nat} (h : BytesAt w A n bs) (hB : Below w.heap.size w W) : BytesAt W A n bs := by
  intro j hj
  obtain ⟨b, off, hA, hc⟩ := h j hj
  exact ⟨b, off, hA, by rw [← hc]; exact hB.cell (World.block_lt_of_cell? _ _ hc)⟩

theorem or_byte (x y : Nat) (hx : x < 256) (hy : y < 256) : bits .or .i64 ((x : Int) * 256) (y : Int) = ((x * 256 + y : Nat) : Int) := by
  rw [show ((x : Int) * 256) = ((x * 256 : Nat) : Int) by omega, i64_or_nat _ _ (by omega) (by omega)]
  have := Nat.shiftLeft_add_eq_or_of_lt (show y < 2 ^ 8 from hy) x
  rw [Nat.shiftLeft_eq] at this
  rw [← this]

set_option maxRecDepth 100000 in
set_option maxHeartbeats 2000000 in
theorem dec_short (A : Option Addr) (n c : Nat) (w : World) (h : n < 7) :
    Calls Try.prog 7 #[.slice A n c] w (DecBad w) := by
  have h1 : decide ((n : Int) - 2 < 5) = true := by simp; omega
  go_enter Try.func7, Try.ntmps7
  go_wp2
  go_quiet (fail)
  generalize hW : (World.drewN _ _) = W
  obtain ⟨hb, hB⟩ : Blk W w.heap.size 23 #[.int .i64 0, .int .i64 0, .int .i64 0, .int .i64 0, .int .i64 0, .string ⟨#[]⟩] ∧ Below w.heap.size w W := by
    subst hW
    exact ⟨(Blk.new w _ _).drewN _, below_drewN ((Below.refl _ _).alloc (Nat.le_refl _) _) _⟩
  clear hW
  obtain ⟨k0, k1, k2, k3, k4, k5, f0, f1, f2, f3, f4, f5⟩ := hb.cells6
  have HB := hide hB; have hsz := hB.size; clear hB hb
  go_wp2
  exact bodyPost_ret (v := .tuple #[.agg #[.int .i64 0, .int .i64 0, .int .i64 0, .int .i64 0, .int .i64 0, .string ⟨#[]⟩], .iface 35 (.int .i64 3)]) (by simp [results, Try.results7, go_sem, k0, k1, k2, k3, k4, k5]) rfl ⟨rfl, ((((((HB.out.setCell (Nat.le_refl _) _).setCell (Nat.le_refl _) _).setCell (Nat.le_refl _) _).setCell (Nat.le_refl _) _).setCell (Nat.le_refl _) _).setCell (Nat.le_refl _) _)⟩

set_option maxRecDepth 100000 in
set_option maxHeartbeats 2000000 in
theorem dec_sum (b off m c : Nat) (bs : List Nat) (x y : Nat) (w : World) (hm : 5 ≤ m) (hm2 : m + 2 ≤ c) (hc : c ≤ 9223372036854775807) (hl : bs.length = m) (hlt : ∀ x ∈ bs, x < 256) (hB : BytesAt w (some ⟨b, off, none⟩) bs.length bs)
    (hx : w.cell? ⟨b, off + m, none⟩ = some (.int .u8 x)) (hy : w.cell? ⟨b, off + (m + 1), none⟩ = some (.int .u8 y)) (x1 : x < 256) (y1 : y < 256) (hs : crcS bs ≠ x * 256 + y) :
    Calls Try.prog 7 #[.slice (some ⟨b, off, none⟩) (m + 2) c] w (DecBad w) := by
  obtain ⟨z, hz⟩ : ∃ z : Nat, z = x * 256 + y := ⟨_, rfl⟩
  have ho := or_byte x y x1 y1
  rw [← hz] at ho hs
  obtain ⟨k, hk⟩ : ∃ k : Nat, k = crcS bs := ⟨_, rfl⟩
  rw [← hk] at hs
  have hne : ((k : Int) != (z : Int)) = true := by simp; omega
  have hS := hide (show ∀ W : World, BytesAt W (some ⟨b, off, none⟩) m bs → Calls Try.prog 10 #[.slice (some ⟨b, off, none⟩) m c] W fun e w' => e = .returned (.int .i64 k) ∧ W = w' by
    intro W hW; rw [hk]; subst hl; exact sum_any _ _ bs W hW hlt (by omega))
  have HB := hide (show BytesAt w (some ⟨b, off, none⟩) m bs from hl ▸ hB)
  clear hB hk hz hs hlt hl
  have h1 : decide ((m : Int) < 5) = false := by simp; omega
  have h2 : ((m + 2 : Nat) : Int) - 2 = (m : Int) := by omega
  go_enter Try.func7, Try.ntmps7
  go_wp2
  generalize hW : (World.alloc _ _) = W
  obtain ⟨hb, hB⟩ : Blk W w.heap.size 23 #[.int .i64 0, .int .i64 0, .int .i64 0, .int .i64 0, .int .i64 0, .string ⟨#[]⟩] ∧ Below w.heap.size w W := by
    subst hW
    exact ⟨(Blk.new w _ _), ((Below.refl _ _).alloc (Nat.le_refl _) _)⟩
  have hx' : W.cell? ⟨b, off + m, none⟩ = some (.int .u8 x) := by
    rw [← hx]; exact hB.cell (World.block_lt_of_cell? _ _ hx)
  have hy' : W.cell? ⟨b, off + (m + 1), none⟩ = some (.int .u8 y) := by
    rw [← hy]; exact hB.cell (World.block_lt_of_cell? _ _ hy)
  have hBA : BytesAt W (some ⟨b, off, none⟩) m bs := HB.out.below hB
  have HBA := hide hBA
  have HBl := hide hB; have Hb := hide hb
  clear hW hb hBA hB hx hy
  go_quiet ((go_at_call 10; exact quiet_left (hS.out _ (by exact HBA.out))))
  generalize hW : (World.drewN _ _) = W2
  obtain ⟨hb2, hB2⟩ : Blk W2 w.heap.size 23 #[.int .i64 0, .int .i64 0, .int .i64 0, .int .i64 0, .int .i64 0, .string ⟨#[]⟩] ∧ Below w.heap.size w W2 := by
    subst hW
    exact ⟨Hb.out.drewN _, below_drewN HBl.out _⟩
  clear hW
  obtain ⟨k0, k1, k2, k3, k4, k5, f0, f1, f2, f3, f4, f5⟩ := hb2.cells6
  have HB2 := hide hB2; have hsz := hB2.size; clear hB2 hb2
  go_wp2
  exact bodyPost_ret (v := .tuple #[.agg #[.int .i64 0, .int .i64 0, .int .i64 0, .int .i64 0, .int .i64 0, .string ⟨#[]⟩], .iface 35 (.int .i64 3)]) (by simp [results, Try.results7, go_sem, k0, k1, k2, k3, k4, k5]) rfl ⟨rfl, ((((((HB2.out.setCell (Nat.le_refl _) _).setCell (Nat.le_refl _) _).setCell (Nat.le_refl _) _).setCell (Nat.le_refl _) _).setCell (Nat.le_refl _) _).setCell (Nat.le_refl _) _)⟩
end Go.Proofs.Ytdbegdhbabfnoaa
