/- The walk of metronomekeep.FrameBurst; no condition but that the text is no longer than memory. -/
import Derived.Test.YtdbegdhbabfnoaaFl
import Derived.Test.YtdbegdhbabfnoaaPk
import Derived.Laws.BitsAllLaws
set_option linter.unusedVariables false
set_option linter.unusedSimpArgs false
namespace Go.Proofs.Ytdbegdhbabfnoaa
open Go.RowKit

/-- Bytes whose sum over all is not 0 are none. -/
theorem dec_turned (l : List Nat) (at_ bits base g cap : Nat) (w : World) (hl : ∀ x ∈ l, x < 256) (h7 : 7 ≤ l.length) (hb0 : 0 < bits) (hb1 : bits < 65536) (hs : crcS l = crcI (8 * l.length - at_) (win bits 16)) (hO : OwnB w base g cap l) :
    Calls Try.prog 7 #[.slice (some ⟨g, 0, none⟩) l.length cap] w (DecBad w) := by
  refine (dec_any l g 0 cap w hl h7 hO.len_le hO.cap_le hO.bytes).mono ?_
  intro e w' h
  have hok : decOk l = false := by
    obtain ⟨data, x, y, rfl⟩ := tail2 l (by omega)
    have hx : x < 256 := hl x (by simp)
    have hy : y < 256 := hl y (by simp)
    have hne := burst_end data x y _ bits hx hy hs hb0 hb1
    unfold decOk
    have e1 : (data ++ [x, y]).length - 2 = data.length := by simp
    have e2 : (data ++ [x, y]).length - 1 = data.length + 1 := by simp
    rw [e1, e2, List.take_left]
    have e3 : (data ++ [x, y]).getD data.length 0 = x := by simp [List.getD]
    have e4 : (data ++ [x, y]).getD (data.length + 1) 0 = y := by simp [List.getD, List.getElem?_append]
    rw [e3, e4, decide_eq_false hne]
    simp
  unfold DecPost at h
  rw [hok, if_neg (by decide)] at h
  exact h

/-- The state of the burst's loop. -/
structure BurstAt (w W : World) (at_ bits g cap n k : Nat) (l : List Nat) : Prop where
  own : OwnB w W.heap.size g cap l
  old : Below W.heap.size W w
  len : l.length = n
  lt : ∀ x ∈ l, x < 256
  sum : crcS l = crcI (8 * n - at_) (win bits k)

theorem OwnB.drew {w : World} {base g cap : Nat} {l : List Nat} (h : OwnB w base g cap l) : OwnB w.drew base g cap l := ⟨h.blk, h.cap_le, h.len_le, h.lo⟩
theorem xor_turn (x r : Nat) (hx : x < 256) : bits .xor .u8 (x : Int) (128 / 2 ^ r) = ((x ^^^ (128 / 2 ^ r) : Nat) : Int) := by
  have h1 : (128 / 2 ^ r : Int) = ((128 / 2 ^ r : Nat) : Int) := by simp
  have h2 : 128 / 2 ^ r < 256 := Nat.lt_of_le_of_lt (Nat.div_le_self _ _) (by decide)
  rw [h1, u8_xor_nat _ _ hx h2]
theorem bit_yes (n k : Nat) (hn : n < 65536) (h : (bits .and .i64 ((n : Int) / 2 ^ k) 1 == 1) = true) : n / 2 ^ k % 2 = 1 := by
  rw [bit_one n k hn, Nat.testBit_eq_decide_div_mod_eq] at h
  by_cases e : n / 2 ^ k % 2 = 1
  · exact e
  · simp [e] at h
theorem bit_no (n k : Nat) (hn : n < 65536) (h : (bits .and .i64 ((n : Int) / 2 ^ k) 1 == 1) = false) : ¬ n / 2 ^ k % 2 = 1 := by
  rw [bit_one n k hn, Nat.testBit_eq_decide_div_mod_eq] at h
  intro e
  simp [e] at h

set_option maxRecDepth 100000 in
set_option maxHeartbeats 4000000 in
theorem burst_any (nd sl mb lk sq a b : Int) (d : ByteArray) (w : World) (hd : d.size ≤ 9223372036854775807) :
    Calls Try.prog 4 #[frV nd sl mb lk sq d, .int .i64 a, .int .i64 b] w fun e w' => e = .returned (.bool true) ∧ Below w.heap.size w w' := by
  have hB0 := hide ((Below.refl w.heap.size w).alloc (Nat.le_refl _) (.cells (frC nd sl mb lk sq d) 23))
  have hb0' := Blk.new w 23 (frC nd sl mb lk sq d)
  have hb0 := hide hb0'
  obtain ⟨i0, i1, i2, i3, i4, i5, v0, v1, v2, v3, v4, v5⟩ := hb0'.cells6
  by_cases h100 : 100 < d.size
  · have q : decide ((100 : Int) < (d.size : Int)) = true := decide_eq_true (by omega)
    go_enter Try.func4, Try.ntmps4
    go_wp2
    go_ret
    exact ⟨rfl, hB0.out⟩
  · have q : decide ((100 : Int) < (d.size : Int)) = false := decide_eq_false (by omega)
    cases hk : fOk nd sl mb lk sq d.size
    · have HK := hide hk; clear hk h100
      go_enter Try.func4, Try.ntmps4
      go_wp2_with fail
      refine (enc_bad nd sl mb lk sq d _ hd HK.out).mono ?_
      rintro e w2 ⟨rfl, hB⟩
      have hB2 := hide (hB0.out.trans (hB.mono hB0.out.size))
      clear hB
      go_wp2_with fail
      refine (sent_any _).mono ?_
      rintro e w3 ⟨rfl, hB⟩
      have hB3 := hide (hB2.out.trans (hB.mono hB2.out.size))
      clear hB
      go_wp2_with fail
      refine (sent_any _).mono ?_
      rintro e w4 ⟨rfl, hB⟩
      have hB4 := hide (hB3.out.trans (hB.mono hB3.out.size))
      clear hB
      go_wp2_with fail
      go_ret
      exact ⟨rfl, hB4.out⟩
    · obtain ⟨l, hE, hl, h7, h49, hok, hF, hcs⟩ := enc_good nd sl mb lk sq d hk
      obtain ⟨n, hn⟩ : ∃ n, n = l.length := ⟨_, rfl⟩
      have HE := hide hE; have HL := hide hl; have H7 := hide h7; have H49 := hide h49; have HCS := hide hcs
      have k7 : 7 ≤ n := by omega
      have k49 : n ≤ 49 := by omega
      have m1 : wrap64 (8 * (n : Int)) = ((8 * n : Nat) : Int) := by rw [IntWalk.wrap64_in _ ⟨by omega, by omega⟩]; omega
      have m2 : wrap64 (((8 * n : Nat) : Int) - 15) = ((8 * n - 15 : Nat) : Int) := by rw [IntWalk.wrap64_in _ ⟨by omega, by omega⟩]; omega
      clear hE hl hok hF h7 h49 hk h100 hcs
      go_enter Try.func4, Try.ntmps4
      go_wp2_with fail
      refine (HE.out _).mono ?_
      intro e w2 he
      obtain ⟨g, cap, rfl, hO, hB⟩ := he.open (by have := H7.out; omega)
      have hB2 := hide (hB0.out.trans (hB.mono hB0.out.size))
      have HO := hide hO
      rw [← hn]
      have HN := hide hn; clear hn
      clear hB hO he i0 i1 i2 i3 i4 i5 v0 v1 v2 v3 v4 v5
      go_wp2_with fail
      refine (sent_any _).mono ?_
      rintro e w3 ⟨rfl, hB⟩
      have hB3 := hide (hB2.out.trans (hB.mono hB2.out.size))
      have HO3 := hide (HO.out.below hB HO.out.lt)
      clear hB
      go_wp2_with fail
      have m3 : 8 * (n : Int) - 15 = ((8 * n - 15 : Nat) : Int) := by omega
      rw [m3]
      refine (pick_any a (8 * n - 15) w3 (by omega) (by omega)).mono ?_
      rintro e w4 ⟨rfl, rfl⟩
      have hat := Nat.mod_lt (a % 18446744073709551616).toNat (show 0 < 8 * n - 15 by omega)
      generalize (a % 18446744073709551616).toNat % (8 * n - 15) = at_ at *
      go_wp2_with fail
      refine (pick_any b 65535 w3 (by decide) (by decide)).mono ?_
      rintro e w4 ⟨rfl, rfl⟩
      have hbt := Nat.mod_lt (b % 18446744073709551616).toNat (show 0 < 65535 by decide)
      generalize (b % 18446744073709551616).toNat % 65535 = bt at *
      obtain ⟨bits, hbits⟩ : ∃ x : Nat, x = 1 + bt := ⟨_, rfl⟩
      have b0 : 0 < bits := by omega
      have b1 : bits < 65536 := by omega
      have qb : 1 + (bt : Int) = bits := by omega
      clear hbits
      go_wp2_with fail
      go_loopw [9] (fun i wr => ∃ (k : Nat) (l' : List Nat), k ≤ 16 ∧ i = .int .i64 k ∧ BurstAt wr w at_ bits g cap n k l') (fun i _ => 16 - (intOf i).toNat)
      case atStart =>
        refine ⟨0, l, by omega, rfl, ⟨?_, hB3.out, HN.out.symm, HL.out, ?_⟩⟩
        · obtain ⟨h1, h2, h3, h4⟩ := HO3.out
          exact ⟨h1, h2, h3, Nat.le_trans (by simp) h4⟩
        · rw [HCS.out, win, crcI_nil]
      case round =>
        obtain ⟨k, l', hk, rfl, hS⟩ := hrel
        by_cases hlt : k < 16
        · obtain ⟨ii, hii⟩ : ∃ ii : Nat, ii = at_ + k := ⟨_, rfl⟩
          obtain ⟨jj, hjj⟩ : ∃ jj : Nat, jj = ii / 8 := ⟨_, rfl⟩
          obtain ⟨rr, hrr⟩ : ∃ rr : Nat, rr = ii % 8 := ⟨_, rfl⟩
          have q1 : (at_ : Int) + (k : Int) = ii := by omega
          have q2 : (ii : Int) / 8 = jj := by omega
          have q3 : (ii : Int) % 8 = rr := by omega
          have hj : jj < n := by omega
          have hr8 : rr < 8 := by omega
          have qj : decide ((jj : Int) < (n : Int)) = true := decide_eq_true (by omega)
          have hlen := hS.len
          have hbc := bytes_cell hS.own.bytes jj (by omega)
          rw [Nat.zero_add] at hbc
          have hfz : wr.frozen? ⟨g, jj, none⟩ = false := by obtain ⟨cur, hb, _⟩ := hS.own.blk; exact hb.frozen jj
          have hgl := hS.own.lt
          obtain ⟨x, hx⟩ : ∃ x : Nat, x = l'.getD jj 0 := ⟨_, rfl⟩
          rw [← hx] at hbc
          have hx8 : x < 256 := by rw [hx]; exact getD_lt hS.lt _
          have HS := hide hS; have HX := hide (And.intro hii (And.intro hjj (And.intro hrr (And.intro hx hlen))))
          clear hS hii hjj hrr hx hlen
          go_wp2_with fail
          · rename_i hg
            have hb := bit_yes bits k b1 hg
            go_region
            go_wp2_with fail
            obtain ⟨e1, e2, e3, e4, e5⟩ := HX.out
            obtain ⟨h1, h2, h3, h4, h5⟩ := HS.out
            have hm8 : 128 / 2 ^ rr < 2 ^ 8 := Nat.lt_of_le_of_lt (Nat.div_le_self _ _) (by decide)
            have hx2 : x ^^^ (128 / 2 ^ rr) < 2 ^ 8 := Nat.xor_lt_two_pow hx8 hm8
            refine ⟨⟨k + 1, l'.set jj (x ^^^ (128 / 2 ^ rr)), by omega, by go_num, ⟨?_, ?_, ?_, ?_, ?_⟩⟩, by simp [intOf]; omega⟩
            · rw [xor_turn x rr hx8]
              exact (h1.set_ jj _ (by omega)).drew
            · exact (h2.setCell h1.lo _).drew
            · rw [List.length_set]; exact h3
            · intro y hy
              rcases List.mem_or_eq_of_mem_set hy with hy | hy
              · exact h4 y hy
              · rw [hy]; exact hx2
            · have := burst_step l' at_ bits k (8 * n) (by rw [h3]) (by omega) hlt h4 hb h5
              rw [← e1, ← e2, ← e3, ← e4] at this
              exact this
          · rename_i hg
            have hb := bit_no bits k b1 hg
            refine ⟨⟨k + 1, l', by omega, by go_num, ?_⟩, by simp [intOf]; omega⟩
            obtain ⟨h1, h2, h3, h4, h5⟩ := HS.out
            refine ⟨h1, h2, h3, h4, ?_⟩
            rw [h5, win, if_neg (by omega), Nat.add_zero]
        · obtain rfl : k = 16 := by omega
          have HS := hide hS; clear hS
          go_wp2_with fail
          have hl2 := HS.out.len
          rw [← hl2]
          refine (dec_turned l' at_ bits w.heap.size g cap wr HS.out.lt (by omega) b0 b1 (by rw [hl2]; exact HS.out.sum) HS.out.own).mono ?_
          rintro e w5 ⟨rfl, hB⟩
          have hB5 := hide (HS.out.old.trans (hB.mono HS.out.old.size))
          clear hB hl2
          go_wp2_with fail
          go_ret
          exact ⟨rfl, hB5.out⟩
end Go.Proofs.Ytdbegdhbabfnoaa
