/- metronomeref.Midpoint; conditions: the numbers lie in memory. -/
import Derived.Test.YtfdadkngbnhmeaaDoorAx
import Derived.Test.YtfdadkngbnhmeaaDoorIn
import Derived.Test.YtfdadkngbnhmeaaDoorEna
namespace Go.Proofs.YtfdadkngbnhmeaaDoor
open Go Go.RowKit

theorem ar_info : (Tryd.prog.info? 3).map (fun i => (i.zero, i.size, i.bytes)) = some (some (.int .i64 0), 1, 8) := by kernel_rfl
theorem inB_out (x : Int) : inB x (-1099511627776) 1099511627776 = !outT x := by
  unfold inB outT
  rw [Bool.not_or, ← decide_not, ← decide_not]
  congr 1 <;> (apply decide_eq_decide.2; omega)
theorem in_out (x : Int) (w : World) : Calls Tryd.prog 35 #[.int .i64 x, .int .i64 (-1099511627776), .int .i64 1099511627776] w fun e w' => e = .returned (.bool (!outT x)) ∧ w = w' := by
  rw [← inB_out]; exact in_any x _ _ w
theorem news_of {w : World} {b off : Nat} {zs : List Int} (h : ∀ j, j < zs.length → w.cell? ⟨b, off + j, none⟩ = some (.int .i64 (zs.getD j 0))) : ∀ j u, (zs.map (Value.int .i64))[j]? = some u → w.cell? ((⟨b, off, none⟩ : Addr).add j) = some u := by
  intro j u hu
  have hj : j < zs.length := by
    rcases Nat.lt_or_ge j zs.length with h1 | h1
    · exact h1
    · rw [List.getElem?_eq_none (by simpa using h1)] at hu; cases hu
  rw [List.getElem?_map, List.getElem?_eq_getElem hj] at hu
  have hu2 : Value.int .i64 (zs.getD j 0) = u := by simpa [List.getD, List.getElem?_eq_getElem hj] using hu
  rw [← hu2, ← h j hj]
  by_cases h0 : j = 0
  · subst h0; rfl
  · rw [show (⟨b, off, none⟩ : Addr).add j = ⟨b, off + j, none⟩ by unfold Addr.add; rw [if_neg h0]]
theorem tdiv2 (x : Int) : x.tdiv 2 = x / 2 + (if 0 ≤ x ∨ 2 ∣ x then 0 else 1) := by rw [Int.tdiv_eq_ediv]; rfl
theorem tmod2 (x : Int) : x.tmod 2 = x - 2 * x.tdiv 2 := by have := Int.mul_tdiv_add_tmod x 2; omega
theorem half1 {s : Int} (_h : s < 0) (k : (s.tmod 2 != 0) = false) : s.tdiv 2 = s / 2 := by
  have k2 : s.tmod 2 = 0 := by simpa using k
  rw [tmod2, tdiv2] at k2
  rw [tdiv2]
  split <;> rename_i h1
  · omega
  · rw [if_neg h1] at k2; omega
theorem half2 {s : Int} (_h : s < 0) (k : (s.tmod 2 != 0) = true) : (s - 1).tdiv 2 = s / 2 := by
  have k2 : s.tmod 2 ≠ 0 := by simpa using k
  rw [tmod2, tdiv2] at k2
  rw [tdiv2]
  by_cases h2 : 0 ≤ s ∨ 2 ∣ s
  · rw [if_pos h2] at k2; omega
  · split <;> omega
set_option maxRecDepth 100000 in
set_option maxHeartbeats 2000000 in
theorem rmid_any (A : Option Addr) (c : Nat) (zs : List Int) (f : Int) (w : World) (hI : IsL w A zs) (hmax : zs.length ≤ 100) :
    Calls Tryd.prog 11 #[.slice A zs.length c, .int .i64 f] w fun e w' => e = .returned (.tuple #[.int .i64 (midV zs f), .int .i64 (midE zs f)]) ∧ Below w.heap.size w w' := by
  by_cases h0 : f < 0
  · obtain ⟨e1, e2⟩ := midE_arg (zs := zs) (.inl h0)
    rw [e1, e2]
    clear hI e1 e2
    go_enter Tryd.func11, Tryd.ntmps11
    go_wp2_with fail
    go_ret2
    exact ⟨ret_two2 rfl rfl, Below.refl _ _⟩
  obtain ⟨m, rfl⟩ := Int.eq_ofNat_of_zero_le (by omega : 0 ≤ f)
  obtain ⟨n, hn⟩ : ∃ n, zs.length = n := ⟨_, rfl⟩
  have d0 : decide ((m : Int) < 0) = false := decide_eq_false (by omega)
  by_cases h1 : 1000 < m
  · obtain ⟨e1, e2⟩ := midE_arg (zs := zs) (f := (m : Int)) (.inr (by omega))
    rw [e1, e2, hn]
    clear hI e1 e2 hn
    have d1 : decide ((1000 : Int) < (m : Int)) = true := decide_eq_true (by omega)
    go_enter Tryd.func11, Tryd.ntmps11
    go_wp2_with fail
    go_ret2
    exact ⟨ret_two2 rfl rfl, Below.refl _ _⟩
  have d1 : decide ((1000 : Int) < (m : Int)) = false := decide_eq_false (by omega)
  have w1 : wrap64 (2 * (m : Int)) = 2 * (m : Int) := by unfold wrap64; omega
  have w2 : wrap64 (2 * (m : Int) + 1) = 2 * (m : Int) + 1 := by unfold wrap64; omega
  by_cases h2 : n < 2 * m + 1
  · obtain ⟨e1, e2⟩ := midE_arg (zs := zs) (f := (m : Int)) (.inr (by omega))
    rw [e1, e2, hn]
    clear hI e1 e2 hn
    have d2 : decide ((n : Int) < 2 * (m : Int) + 1) = true := decide_eq_true (by omega)
    go_enter Tryd.func11, Tryd.ntmps11
    go_wp2_with fail
    go_ret2
    exact ⟨ret_two2 rfl rfl, Below.refl _ _⟩
  have d2 : decide ((n : Int) < 2 * (m : Int) + 1) = false := decide_eq_false (by omega)
  have HOK := hide (midE_ok (zs := zs) (m := m) (by omega))
  obtain ⟨b, off, rfl, -⟩ := hI 0 (by omega)
  have HI := hide hI
  have HC : Hid (∀ j, j < zs.length → w.cell? ⟨b, off + j, none⟩ = some (.int .i64 (zs.getD j 0))) := hide fun j hj => by
    obtain ⟨b', off', e, hc⟩ := hI j hj
    cases e; exact hc
  have hM : n ≤ 100 := by omega
  rw [hn]
  have HM : Hid (2 * m + 1 ≤ n ∧ n ≤ 100) := hide ⟨by omega, by omega⟩
  have HN := hide hn
  clear h0 h2 hn hI hmax
  go_enter Tryd.func11, Tryd.ntmps11
  go_wp2_with fail
  go_loopw [26] (fun i wr => ∃ k : Nat, k ≤ n ∧ i = .int .i64 k ∧ Hid ((zs.take k).any outT = false) ∧ Hid (wr = w)) (fun i _ => n - (intOf i).toNat)
  case atStart => exact ⟨0, by omega, rfl, hide (by simp), hide rfl⟩
  case round =>
    obtain ⟨k, hk, rfl, HA, HW⟩ := hrel
    by_cases hlt : k < n
    · have hc := HC.out k (by rw [HN.out]; exact hlt)
      obtain ⟨x, hx⟩ : ∃ x, zs.getD k 0 = x := ⟨_, rfl⟩
      rw [hx, ← HW.out] at hc
      have HX := hide hx; clear hx
      have hk2 : k < zs.length := by rw [HN.out]; exact hlt
      have HK2 := hide hk2; clear hk2
      cases ho : outT x
      case true =>
        have HO := hide ho; clear ho
        go_wp2_with (go_at_call 35; refine (in_out x _).mono ?_; rintro e w3 ⟨rfl, rfl⟩; rw [HO.out])
        go_ret2
        have ha := any_of HK2.out (by rw [HX.out]; exact HO.out)
        obtain ⟨e1, e2⟩ := HOK.out.1 ha
        exact ⟨by rw [e1, e2]; exact ret_two2 rfl rfl, by rw [HW.out]; exact Below.refl _ _⟩
      case false =>
        have HO := hide ho; clear ho
        go_wp2_with (go_at_call 35; refine (in_out x _).mono ?_; rintro e w3 ⟨rfl, rfl⟩; rw [HO.out])
        exact ⟨⟨k + 1, by omega, by go_num, hide (by rw [any_take HK2.out, HA.out, HX.out, HO.out]; rfl), HW⟩, by simp [intOf]; omega⟩
    · obtain rfl : k = n := by omega
      have ha : zs.any outT = false := by rw [← List.take_length (l := zs), HN.out, HA.out]
      obtain ⟨e1, e2⟩ := HOK.out.2 ha
      have HE1 := hide e1; have HE2 := hide e2
      have HE := hide (show midN zs m = ((srt zs).getD m 0 + (srt zs).getD (k - 1 - m) 0) / 2 from by unfold midN; rw [HN.out])
      have b1 := in_bd ha (j := m) (by have := HM.out; have := HN.out; omega)
      have b2 := in_bd ha (j := k - 1 - m) (by have := HM.out; have := HN.out; omega)
      have hlen := srt_len zs
      obtain ⟨x, hx⟩ : ∃ x, (srt zs).getD m 0 = x := ⟨_, rfl⟩
      obtain ⟨y, hy⟩ : ∃ y, (srt zs).getD (k - 1 - m) 0 = y := ⟨_, rfl⟩
      rw [hx, hy] at HE
      rw [hx] at b1
      rw [hy] at b2
      have HX := hide hx; have HY := hide hy
      have HWW := hide (HW.out)
      obtain ⟨i0, hi, hz0, hz1, hz2⟩ := en_info_parts ar_info
      rw [HW.out]
      clear hx hy ha e1 e2 HA hlen
      have HOW : Hid ((w.alloc (.cells #[] 3)).ownsRow w.heap.size 3 1 (.slice (some ⟨w.heap.size, 0, none⟩) 0 0) 0 []) := hide ⟨rfl, .inr ⟨w.heap.size, 0, #[], rfl, Nat.le_refl _, Blk.new w 3 #[], by omega, by simp [maxLen], rfl, rfl⟩⟩
      have HCC : Hid (∀ j u, (zs.map (Value.int .i64))[j]? = some u → (w.alloc (.cells #[] 3)).cell? ((⟨b, off, none⟩ : Addr).add j) = some u) := hide (news_of fun j hj => (((Below.refl w.heap.size w).alloc (Nat.le_refl _) _).cell (p := ⟨b, off + j, none⟩) (World.block_lt_of_cell? _ _ (HC.out j hj))).trans (HC.out j hj))
      go_wp2_with (first
        | (at_builtin; go_must (refine wpList_append_own _ rfl (.tmp 34) (.tmp 35) _ rfl w.heap.size 3 i0 _ 1 8 Tryd.underlying40 hi hz0 hz1 hz2 rfl (by decide) (.slice (some ⟨w.heap.size, 0, none⟩) 0 0) 0 [] rfl (by exact HOW.out) ⟨b, off, none⟩ k c (zs.map (Value.int .i64)) rfl (by rw [List.length_map, HN.out, Nat.mul_one]) (by exact HCC.out) (by intro u hu; obtain ⟨z, _, rfl⟩ := List.mem_map.1 hu; rfl) (by simp [maxLen]; omega) (by omega) (by simp) ?_); intro v' w4 hown hg4 _; have HO4 := hide hown; have HG4 := hide hg4; clear hown hg4)
        | fail)
      have HO5 : Hid (w4.ownsRow w.heap.size 3 1 v' zs.length (zs.map (Value.int .i64))) := hide (by simpa [HN.out] using HO4.out)
      have HB4 : Hid (Below w.heap.size w w4) := hide (((Below.refl w.heap.size w).alloc (Nat.le_refl _) _).grown HG4.out (by simp) (fun j e => by cases e; exact Nat.le_refl _))
      refine (ints_at w.heap.size v' zs _ (by rw [HN.out]; omega) HO5.out (by have := HM.out; have := HN.out; omega)).mono ?_
      rintro e w5 ⟨rfl, hrow, hg5⟩
      have HB5 : Hid (Below w.heap.size w w5) := hide (HB4.out.grown hg5 HB4.out.size (fun j e => (HO5.out.lt j e).1))
      rw [HN.out] at hrow
      obtain ⟨g, cp, cur, rfl, hbase, hgb, q1, q2, -, -⟩ := block_of_own hrow (by have := HM.out; omega)
      have hr1 := own_get hrow (j := m) (by have := HM.out; omega)
      have hr2 := own_get hrow (j := k - 1 - m) (by have := HM.out; omega)
      rw [HX.out] at hr1
      rw [HY.out] at hr2
      have hne : ¬ cp = m := by have := HM.out; omega
      have e1 : wrap64 ((k : Int) - (m : Int)) = ((k - m : Nat) : Int) := by have := HM.out; unfold wrap64; omega
      have z1 : m ≤ k - m := by have := HM.out; omega
      have z2 : k - m ≤ cp := by have := HM.out; omega
      have hM2 : 2 * m + 1 ≤ k := HM.out.1
      clear hrow hg5 hbase hgb q2 HO4 HG4 HO5 HOW HCC HB4
      go_wp2_with fail
      obtain ⟨q, hq⟩ : ∃ q, k - m - m = q := ⟨_, rfl⟩
      have hq0 : 0 < q := by omega
      have hr3 : w5.cell? ⟨g, m + (q - 1), none⟩ = some (.int .i64 y) := by rw [show m + (q - 1) = k - 1 - m by omega]; exact hr2
      have e2 : wrap64 ((q : Int) - 1) = ((q - 1 : Nat) : Int) := by unfold wrap64; omega
      have hq1 : q - 1 < q := by omega
      have e3 : wrap64 (x + y) = x + y := by unfold wrap64; omega
      rw [hq]
      clear hr2 hq hM2 e1 z1 z2 hne q1 d2
      go_quiet (fail)
      go_wp2_with fail
      all_goals (go_ret2; exact ⟨by rw [HE1.out, HE2.out, HE.out]; first | exact ret_two2 rfl rfl | exact ret_two2 (congrArg _ (half1 (by assumption) (by assumption))) rfl | exact ret_two2 (congrArg _ (half2 (by assumption) (by assumption))) rfl, below_drewN HB5.out _⟩)
end Go.Proofs.YtfdadkngbnhmeaaDoor
