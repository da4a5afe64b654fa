/- The contract of metronomeref.Sum: bit by bit it is the same sum; condition: the bytes lie in memory. -/
import Derived.Test.YtdbegdhbabfnoaaDoorSm
import Derived.Test.YtdbegdhbabfnoaaDoorRs
import Derived.Test.YtdbegdhbabfnoaaDoorBt
import Derived.Laws.ShiftsVar
import Derived.Laws.ShiftsVarLaws
set_option linter.unusedVariables false
set_option linter.unusedSimpArgs false
namespace Go.Proofs.YtdbegdhbabfnoaaDoor
open Go.RowKit

theorem rguard (x r kk : Nat) (hx : x < 256) (hr : r < 65536) (hk : kk ≤ 7) : (bits .xor .i64 (bits .and .i64 (wrap64 ((x : Int) / 2 ^ min kk 8)) 1) ((r : Int) / 32768) == 1) = (x.testBit kk ^^ r.testBit 15) := by
  rw [show min kk 8 = kk by omega]
  have h1 : ((x : Int) / 2 ^ kk) = ((x / 2 ^ kk : Nat) : Int) := by simp
  have h2 : x / 2 ^ kk ≤ x := Nat.div_le_self _ _
  have h3 : wrap64 ((x : Int) / 2 ^ kk) = (x : Int) / 2 ^ kk := by
    rw [h1]; generalize x / 2 ^ kk = y at h2; exact IntWalk.wrap64_in _ ⟨by omega, by omega⟩
  have h4 : ((r : Int) / 32768) = if r.testBit 15 then 1 else 0 := by
    rw [top_bit r hr]
    by_cases h : 32768 ≤ r
    · simp [h]; omega
    · simp [h]; omega
  rw [h3, bit_one x kk (by omega), h4]
  cases x.testBit kk <;> cases r.testBit 15 <;> decide
theorem rand_eq (r : Nat) (hr : r < 65536) : bits .and .i64 ((r : Int) * 2) 65535 = ((2 * r % 65536 : Nat) : Int) := by
  rw [show ((r : Int) * 2) = ((2 * r : Nat) : Int) by omega, show (65535 : Int) = ((65535 : Nat) : Int) from rfl, i64_and_nat _ _ (by omega) (by omega)]
  rw [show (65535 : Nat) = 2 ^ 16 - 1 from rfl, Nat.and_two_pow_sub_one_eq_mod]
theorem rval_hi (r : Nat) (hr : r < 65536) : bits .xor .i64 (bits .and .i64 ((r : Int) * 2) 65535) 4129 = ((rstep r true : Nat) : Int) := by
  rw [rand_eq r hr, show (4129 : Int) = ((4129 : Nat) : Int) from rfl, i64_xor_nat _ _ (by omega) (by omega)]
  rfl
theorem rval_lo (r : Nat) (hr : r < 65536) : bits .and .i64 ((r : Int) * 2) 65535 = ((rstep r false : Nat) : Int) := by
  rw [rand_eq r hr]
  unfold rstep
  simp

set_option maxRecDepth 100000 in
set_option maxHeartbeats 1000000 in
theorem rsum_any (A : Option Addr) (c : Nat) (bs : List Nat) (w : World) (hc : BytesAt w A bs.length bs) (hl : ∀ x ∈ bs, x < 256) (hn : bs.length ≤ 9223372036854775807) :
    Calls Tryd.prog 9 #[.slice A bs.length c] w fun e w' => e = .returned (.int .i64 (crcS bs : Nat)) ∧ w = w' := by
  go_enter Tryd.func9, Tryd.ntmps9
  go_wp2
  go_loop [3, 10] (fun v i => ∃ k : Nat, k ≤ bs.length ∧ i = .int .i64 k ∧ v = .int .i64 (crcS (bs.take k) : Nat)) (fun _ i => bs.length - (intOf i).toNat)
  case atStart => exact ⟨0, by omega, rfl, rfl⟩
  case round =>
    obtain ⟨k, hk, rfl, rfl⟩ := hrel
    by_cases hlt : k < bs.length
    · obtain ⟨b, off, rfl, hcell⟩ := hc k hlt
      have hv := crcS_lt (bs.take k) (fun x hx => hl x (List.mem_of_mem_take hx))
      have hs := crcS_snoc bs k hlt
      have hb : bs.getD k 0 < 256 := by
        have : bs.getD k 0 = bs[k] := by simp [List.getD, List.getElem?_eq_getElem hlt]
        rw [this]; exact hl _ (List.getElem_mem hlt)
      generalize hx : bs.getD k 0 = x at hs hb hcell
      clear hx
      have hz0 := hide (rstep_zero (crcS (bs.take k)) x hb)
      have hv0 := crcX_lt _ _ hv hb
      have HS := hide hs; clear hs
      generalize hq : crcS (bs.take k) = q at *
      clear hq
      go_wp2
      go_loop [3, 6] (fun v i => ∃ j r : Nat, j ≤ 8 ∧ i = .int .i64 (7 - (j : Int)) ∧ v = .int .i64 r ∧ r < 65536 ∧ Hid (r ^^^ (x * 2 ^ (8 + j) % 65536) = crcI j (q ^^^ (x * 256)))) (fun _ i => (intOf i + 1).toNat)
      case atStart => exact ⟨0, q, by omega, rfl, rfl, hv, hz0.out⟩
      case round =>
        obtain ⟨j, r, hj, rfl, rfl, hr, hrj⟩ := hrel
        by_cases hj8 : j < 8
        · obtain ⟨kk, hkk⟩ : ∃ kk : Nat, kk = 7 - j := ⟨_, rfl⟩
          have e7 : (7 - (j : Int)) = (kk : Int) := by omega
          rw [e7]
          have hz := crcI_lt j _ hv0
          have hstep := hide (rstep_eq r x j _ hr hj8 hz hrj.out)
          have hkk' := hide hkk; clear hkk e7
          go_wp2
          · rename_i hg
            rw [rguard x r kk hb hr (by have := hkk'.out; omega)] at hg
            have hk7 := hkk'.out
            refine ⟨⟨j + 1, rstep r true, by omega, ?_, by rw [rval_hi r hr], rstep_lt _ _, ?_⟩, ?_⟩
            · rw [IntWalk.wrap64_in _ ⟨by omega, by omega⟩]; congr 1; omega
            · have h := hstep.out
              rw [← hk7, hg] at h
              exact h
            · rw [IntWalk.wrap64_in _ ⟨by omega, by omega⟩]; simp [intOf] <;> omega
          · rename_i hg
            rw [rguard x r kk hb hr (by have := hkk'.out; omega)] at hg
            have hk7 := hkk'.out
            refine ⟨⟨j + 1, rstep r false, by omega, ?_, by rw [rval_lo r hr], rstep_lt _ _, ?_⟩, ?_⟩
            · rw [IntWalk.wrap64_in _ ⟨by omega, by omega⟩]; congr 1; omega
            · have h := hstep.out
              rw [← hk7, hg] at h
              exact h
            · rw [IntWalk.wrap64_in _ ⟨by omega, by omega⟩]; simp [intOf] <;> omega
        · obtain rfl : j = 8 := by omega
          have hr8 := hide (rstep_last r x _ hrj.out)
          clear hrj
          go_wp2
          exact ⟨⟨k + 1, by omega, by go_num, by rw [HS.out, crcB, ← hr8.out]⟩, by simp [intOf]; omega⟩
    · obtain rfl : k = bs.length := by omega
      have hv := crcS_lt bs hl
      have ht : bs.take bs.length = bs := List.take_length
      rw [ht]
      go_wp2
      go_ret
      exact ⟨rfl, rfl⟩
end Go.Proofs.YtdbegdhbabfnoaaDoor
