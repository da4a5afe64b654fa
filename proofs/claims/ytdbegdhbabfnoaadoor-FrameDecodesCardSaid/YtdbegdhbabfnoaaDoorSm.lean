/- The contract of frame.Sum; condition: the bytes lie in memory. -/
import Derived.Test.YtdbegdhbabfnoaaDoorCr
import Derived.Laws.BitsAll
import Derived.Laws.Shifts
namespace Go.Proofs.YtdbegdhbabfnoaaDoor
open Go.RowKit

/-- The first n bytes of a slice lie in memory. -/
def BytesAt (W : World) (A : Option Addr) (n : Nat) (bs : List Nat) : Prop := ∀ j, j < n → ∃ b off, A = some ⟨b, off, none⟩ ∧ W.cell? ⟨b, off + j, none⟩ = some (.int .u8 (bs.getD j 0 : Nat))

theorem xor_byte (v x : Nat) (hv : v < 65536) (hx : x < 256) : bits .xor .u16 (v : Int) ((x : Int) * 256) = ((v ^^^ (x * 256) : Nat) : Int) := by
  rw [show ((x : Int) * 256) = ((x * 256 : Nat) : Int) by omega, u16_xor_nat v (x * 256) hv (by omega)]
theorem step_hi (z : Nat) (hz : z < 65536) (h : (((z : Int) / 32768) == 1) = true) : bits .xor .u16 (IntKind.u16.wrap ((z : Int) * 2)) 4129 = ((crcT z : Nat) : Int) := by
  have h1 : 32768 ≤ z := by simp at h; omega
  have e : IntKind.u16.wrap ((z : Int) * 2) = ((2 * z % 65536 : Nat) : Int) := by rw [IntKind.wrap_u16]; omega
  rw [e, show (4129 : Int) = ((4129 : Nat) : Int) from rfl, u16_xor_nat _ _ (by omega) (by omega), crcT, if_pos h1]
theorem step_lo (z : Nat) (hz : z < 65536) (h : (((z : Int) / 32768) == 1) = false) : IntKind.u16.wrap ((z : Int) * 2) = ((crcT z : Nat) : Int) := by
  have h1 : ¬ 32768 ≤ z := by simp at h; omega
  rw [IntKind.wrap_u16, crcT, if_neg h1]; omega
theorem v16 {a b : Int} (h : a = b) : Value.int .u16 a = .int .u16 b := by rw [h]

set_option maxRecDepth 100000 in
set_option maxHeartbeats 1000000 in
theorem sum_any (A : Option Addr) (c : Nat) (bs : List Nat) (w : World) (hc : BytesAt w A bs.length bs) (hl : ∀ x ∈ bs, x < 256) (hn : bs.length ≤ 9223372036854775807) :
    Calls Tryd.prog 8 #[.slice A bs.length c] w fun e w' => e = .returned (.int .i64 (crcS bs : Nat)) ∧ w = w' := by
  go_enter Tryd.func8, Tryd.ntmps8
  go_wp2
  go_loop [3, 9] (fun v i => ∃ k : Nat, k ≤ bs.length ∧ i = .int .i64 k ∧ v = .int .u16 (crcS (bs.take k) : Nat)) (fun _ i => bs.length - (intOf i).toNat)
  case atStart => exact ⟨0, by omega, rfl, rfl⟩
  case round =>
    obtain ⟨k, hk, rfl, rfl⟩ := hrel
    by_cases hlt : k < bs.length
    · obtain ⟨b, off, rfl, hcell⟩ := hc k hlt
      have hv := crcS_lt (bs.take k) (fun x hx => hl x (List.mem_of_mem_take hx))
      have hs := crcS_snoc bs k hlt
      have hb : bs.getD k 0 < 256 := by
        have : bs.getD k 0 = bs[k] := by simp [List.getD, List.getElem?_eq_getElem hlt]
        rw [this]; exact hl _ (List.getElem_mem hlt)
      generalize hx : bs.getD k 0 = x at hs hb hcell
      clear hx
      have hx16 := hide (xor_byte (crcS (bs.take k)) x hv hb)
      have hv0 := crcX_lt _ _ hv hb
      have HS := hide hs; clear hs
      generalize hq : crcS (bs.take k) = q at *
      clear hq
      go_wp2
      go_loop [3, 18] (fun v i => ∃ j : Nat, j ≤ 8 ∧ i = .int .i64 j ∧ v = .int .u16 (crcI j (q ^^^ (x * 256)) : Nat)) (fun _ i => 8 - (intOf i).toNat)
      case atStart => exact ⟨0, by omega, rfl, by rw [hx16.out]; rfl⟩
      case round =>
        obtain ⟨j, hj, rfl, rfl⟩ := hrel
        have hy := crcI_lt j _ hv0
        generalize hz : crcI j (q ^^^ (x * 256)) = z at *
        have hz := hide hz
        go_wp2
        · exact ⟨⟨j + 1, by omega, by go_num, v16 (by rw [crcI, hz.out]; exact step_hi z hy ‹_›)⟩, by simp [intOf]; omega⟩
        · exact ⟨⟨j + 1, by omega, by go_num, v16 (by rw [crcI, hz.out]; exact step_lo z hy ‹_›)⟩, by simp [intOf]; omega⟩
        · obtain rfl : j = 8 := by omega
          exact ⟨⟨k + 1, by omega, by go_num, by rw [HS.out, crcB, hz.out]⟩, by simp [intOf]; omega⟩
    · obtain rfl : k = bs.length := by omega
      have hv := crcS_lt bs hl
      have ht : bs.take bs.length = bs := List.take_length
      rw [ht]
      go_wp2
      go_ret
      exact ⟨rfl, rfl⟩
end Go.Proofs.YtdbegdhbabfnoaaDoor
