/- agree.Midpoint; conditions: the numbers lie in memory. -/
import Derived.Test.YtfdadkngbnhmeaaDoorSv
import Derived.Deep.QuietTactic
namespace Go.Proofs.YtfdadkngbnhmeaaDoor
open Go Go.RowKit

theorem out_any (n : Int) (w : World) : Calls Tryd.prog 38 #[.int .i64 n] w fun e w' => e = .returned (.bool (outT n)) ∧ w' = w := by
  go_enter Tryd.func38, Tryd.ntmps38
  go_wp2_with fail
  all_goals (go_ret; exact ⟨ret_bool (by simp only [outT] <;> simp [*] <;> omega), rfl⟩)
theorem any_take {zs : List Int} {k : Nat} (h : k < zs.length) : (zs.take (k + 1)).any outT = ((zs.take k).any outT || outT (zs.getD k 0)) := by
  have e : zs.take (k + 1) = zs.take k ++ [zs.getD k 0] := by rw [List.take_add_one]; simp [List.getD, List.getElem?_eq_getElem h]
  rw [e, List.any_append]; simp
theorem any_of {zs : List Int} {k : Nat} (h : k < zs.length) (ho : outT (zs.getD k 0) = true) : zs.any outT = true := by
  rw [List.any_eq_true]
  exact ⟨zs[k], List.getElem_mem h, by simpa [List.getD, List.getElem?_eq_getElem h] using ho⟩
set_option maxRecDepth 100000 in
set_option maxHeartbeats 1000000 in
theorem index_out (A : Option Addr) (c : Nat) (zs : List Int) (w : World) (hI : IsL w A zs) (hmax : zs.length ≤ 1000) :
    Calls Tryd.prog 50 #[.slice A zs.length c, .func (.func 38) #[] #[]] w fun e w' => ∃ r : Int, e = .returned (.int .i64 r) ∧ decide (0 ≤ r) = zs.any outT ∧ w' = w := by
  have HI := hide hI; have HM := hide hmax; clear hI hmax
  obtain ⟨n, hn⟩ : ∃ n, zs.length = n := ⟨_, rfl⟩
  rw [hn] at HM ⊢
  have HN := hide hn; clear hn
  go_enter Tryd.func50, Tryd.ntmps50
  go_wp2_with fail
  go_loopw [8] (fun i wr => ∃ k : Nat, k ≤ n ∧ i = .int .i64 k ∧ Hid ((zs.take k).any outT = false) ∧ Hid (wr = w)) (fun i _ => n - (intOf i).toNat)
  case atStart => exact ⟨0, by omega, rfl, hide (by simp), hide rfl⟩
  case round =>
    obtain ⟨k, hk, rfl, HA, HW⟩ := hrel
    have hb1 : n ≤ 1000 := HM.out
    by_cases hlt : k < n
    · obtain ⟨b, off, rfl, hc⟩ := HI.out k (by rw [HN.out]; exact hlt)
      obtain ⟨x, hx⟩ : ∃ x, zs.getD k 0 = x := ⟨_, rfl⟩
      rw [hx, ← HW.out] at hc
      have HX := hide hx; clear hx
      have hk2 : k < zs.length := by rw [HN.out]; exact hlt
      cases ho : outT x
      case true =>
        have HO := hide ho; clear ho
        go_wp2_with (go_at_call 38; refine (out_any x _).mono ?_; rintro e w3 ⟨rfl, rfl⟩; rw [HO.out])
        go_ret
        exact ⟨_, rfl, by rw [any_of hk2 (by rw [HX.out]; exact HO.out)]; simp, HW.out⟩
      case false =>
        have HO := hide ho; clear ho
        go_wp2_with (go_at_call 38; refine (out_any x _).mono ?_; rintro e w3 ⟨rfl, rfl⟩; rw [HO.out])
        exact ⟨⟨k + 1, by omega, by go_num, hide (by rw [any_take hk2, HA.out, HX.out, HO.out]; rfl), HW⟩, by simp [intOf]; omega⟩
    · obtain rfl : k = n := by omega
      go_wp2_with fail
      go_ret
      exact ⟨_, rfl, by rw [← List.take_length (l := zs), HN.out, HA.out]; rfl, HW.out⟩
theorem contains_out (A : Option Addr) (c : Nat) (zs : List Int) (w : World) (hI : IsL w A zs) (hmax : zs.length ≤ 1000) :
    Calls Tryd.prog 37 #[.slice A zs.length c, .func (.func 38) #[] #[]] w fun e w' => e = .returned (.bool (zs.any outT)) ∧ w' = w := by
  go_enter Tryd.func37, Tryd.ntmps37
  go_wp2_with (go_at_call 50; refine (index_out A c zs _ hI hmax).mono ?_; rintro e w3 ⟨r, rfl, hr, rfl⟩; have HR := hide hr; clear hr)
  go_ret
  exact ⟨ret_bool (by rw [← HR.out]), rfl⟩
theorem own_get {w : World} {base n g c : Nat} {e : TypeId} {zs : List Int} (h : w.ownsRow base e 1 (.slice (some ⟨g, 0, none⟩) n c) n (zs.map (Value.int .i64))) {j : Nat} (hj : j < n) : w.cell? ⟨g, j, none⟩ = some (.int .i64 (zs.getD j 0)) := by
  rcases h.2 with ⟨_, h0⟩ | ⟨g1, c1, cur, hv, hb, hg, h1, h2, h3, h4⟩
  · omega
  · cases hv
    have hl : (zs.map (Value.int .i64)).length = n * 1 := h.1
    rw [cell_of_row w g j cur e (0, 0) hg, ← Array.getElem?_toList]
    have h5 : (cur.toList.take (n * 1))[j]? = cur.toList[j]? := List.getElem?_take_of_lt (by omega)
    rw [← h5, h4]
    have : j < zs.length := by simpa using (by rw [hl]; omega : j < (zs.map (Value.int .i64)).length)
    simp [List.getD, List.getElem?_eq_getElem this]
theorem in_bd {zs : List Int} (ha : zs.any outT = false) {j : Nat} (hj : j < zs.length) : -1099511627776 ≤ (srt zs).getD j 0 ∧ (srt zs).getD j 0 ≤ 1099511627776 := by
  have hj2 : j < (srt zs).length := by rw [srt_len]; exact hj
  have e : (srt zs).getD j 0 = (srt zs)[j] := by simp [List.getD, List.getElem?_eq_getElem hj2]
  have hm : (srt zs)[j] ∈ zs := (srt_perm zs).mem_iff.1 (List.getElem_mem hj2)
  rw [e]
  have := List.any_eq_false.1 ha _ hm
  simp [outT] at this
  exact this
theorem ret_two2 {a b c d : Value} (h : a = c) (k : b = d) : Ending.returned (.tuple #[a, b]) = .returned (.tuple #[c, d]) := by rw [h, k]
theorem midE_arg {zs : List Int} {f : Int} (h : f < 0 ∨ (zs.length : Int) < 2 * f + 1) : midE zs f = 1 ∧ midV zs f = 0 := by
  have : midE zs f = 1 := by unfold midE; rw [if_pos h]
  exact ⟨this, by unfold midV; rw [this]; rfl⟩
theorem midE_ok {zs : List Int} {m : Nat} (h : 2 * m + 1 ≤ zs.length) : (zs.any outT = true → midE zs m = 2 ∧ midV zs m = 0) ∧ (zs.any outT = false → midE zs m = 0 ∧ midV zs m = midN zs m) := by
  have h1 : ¬ ((m : Int) < 0 ∨ (zs.length : Int) < 2 * (m : Int) + 1) := by omega
  constructor
  · intro ha
    have : midE zs m = 2 := by unfold midE; rw [if_neg h1, if_pos ha]
    exact ⟨this, by unfold midV; rw [this]; rfl⟩
  · intro ha
    have : midE zs m = 0 := by unfold midE; rw [if_neg h1, if_neg (by rw [ha]; simp)]
    exact ⟨this, by unfold midV; rw [if_pos this]; simp⟩
theorem errV_1 : Value.iface 28 (.int .i64 1) = errV 1 := by simp [errV]
theorem errV_2 : Value.iface 28 (.int .i64 2) = errV 2 := by simp [errV]
set_option maxRecDepth 100000 in
set_option maxHeartbeats 1000000 in
theorem mid_any (A : Option Addr) (c : Nat) (zs : List Int) (f : Int) (w : World) (hI : IsL w A zs) (hmax : zs.length ≤ 100) (hf : f ≤ 9223372036854775807) :
    Calls Tryd.prog 12 #[.slice A zs.length c, .int .i64 f] w fun e w' => e = .returned (.tuple #[.int .i64 (midV zs f), errV (midE zs f)]) ∧ Below w.heap.size w w' := by
  by_cases h0 : f < 0
  · obtain ⟨e1, e2⟩ := midE_arg (zs := zs) (.inl h0)
    rw [e1, e2]
    clear hI e1 e2
    go_enter Tryd.func12, Tryd.ntmps12
    go_wp2_with fail
    go_ret2
    exact ⟨ret_two2 rfl errV_1, Below.refl _ _⟩
  obtain ⟨m, rfl⟩ := Int.eq_ofNat_of_zero_le (by omega : 0 ≤ f)
  obtain ⟨n, hn⟩ : ∃ n, zs.length = n := ⟨_, rfl⟩
  by_cases h1 : n < m
  · obtain ⟨e1, e2⟩ := midE_arg (zs := zs) (f := (m : Int)) (.inr (by omega))
    rw [e1, e2, hn]
    clear hI e1 e2 hn
    have d1 : decide ((n : Int) < (m : Int)) = true := decide_eq_true (by omega)
    go_enter Tryd.func12, Tryd.ntmps12
    go_wp2_with fail
    go_ret2
    exact ⟨ret_two2 rfl errV_1, Below.refl _ _⟩
  have d1 : decide ((n : Int) < (m : Int)) = false := decide_eq_false (by omega)
  have d0 : decide ((m : Int) < 0) = false := decide_eq_false (by omega)
  have w1 : wrap64 (2 * (m : Int)) = 2 * (m : Int) := by unfold wrap64; omega
  have w2 : wrap64 (2 * (m : Int) + 1) = 2 * (m : Int) + 1 := by unfold wrap64; omega
  by_cases h2 : n < 2 * m + 1
  · obtain ⟨e1, e2⟩ := midE_arg (zs := zs) (f := (m : Int)) (.inr (by omega))
    rw [e1, e2, hn]
    clear hI e1 e2 hn
    have d2 : decide ((n : Int) < 2 * (m : Int) + 1) = true := decide_eq_true (by omega)
    go_enter Tryd.func12, Tryd.ntmps12
    go_wp2_with fail
    go_ret2
    exact ⟨ret_two2 rfl errV_1, Below.refl _ _⟩
  have d2 : decide ((n : Int) < 2 * (m : Int) + 1) = false := decide_eq_false (by omega)
  have HOK := hide (midE_ok (zs := zs) (m := m) (by omega))
  have HCO := hide (contains_out A c zs w hI (by omega))
  have HSO := hide (sorted_at A c zs w (by omega) hI)
  rw [hn] at HCO HSO ⊢
  have HM : Hid (2 * m + 1 ≤ n ∧ n ≤ 100) := hide ⟨by omega, by omega⟩
  have HN := hide hn
  clear h0 h2 hn hI hmax hf
  cases ha : zs.any outT
  case true =>
    obtain ⟨e1, e2⟩ := HOK.out.1 ha
    rw [e1, e2]
    rw [ha] at HCO
    clear e1 e2 ha
    go_enter Tryd.func12, Tryd.ntmps12
    go_wp2_with (go_at_call 37; refine HCO.out.mono ?_; rintro e w3 ⟨rfl, rfl⟩)
    go_ret2
    exact ⟨ret_two2 rfl errV_2, Below.refl _ _⟩
  case false =>
    obtain ⟨e1, e2⟩ := HOK.out.2 ha
    rw [e1, e2]
    rw [ha] at HCO
    clear e1 e2
    have HE := hide (show midN zs m = ((srt zs).getD m 0 + (srt zs).getD (n - 1 - m) 0) / 2 from by unfold midN; rw [HN.out])
    have b1 := in_bd ha (j := m) (by have := HM.out; have := HN.out; omega)
    have b2 := in_bd ha (j := n - 1 - m) (by have := HM.out; have := HN.out; omega)
    have HL : Hid ((srt zs).length = n) := hide (by rw [srt_len, HN.out])
    clear ha
    generalize srt zs = ss at HSO HE HL b1 b2
    obtain ⟨x, hx⟩ : ∃ x, ss.getD m 0 = x := ⟨_, rfl⟩
    obtain ⟨y, hy⟩ : ∃ y, ss.getD (n - 1 - m) 0 = y := ⟨_, rfl⟩
    rw [hx, hy] at HE
    rw [hx] at b1
    rw [hy] at b2
    have HX := hide hx; have HY := hide hy; clear hx hy
    have w3' : wrap64 (x + y) = x + y := by unfold wrap64; omega
    rw [HE.out]
    clear b1 b2
    go_enter Tryd.func12, Tryd.ntmps12
    go_wp2_with (first
      | (go_at_call 37; refine HCO.out.mono ?_; rintro e w3 ⟨rfl, rfl⟩)
      | (go_at_call 40; refine (values_at A n c _).mono ?_; rintro e w3 ⟨rfl, rfl⟩)
      | (go_at_call 39; refine HSO.out.mono ?_; rintro e w4 ⟨v, rfl, hrow, hB⟩; obtain ⟨g, cp, cur, rfl, -, hg, q1, q2, q3, q4⟩ := block_of_own hrow (by have := HM.out; omega); have HB := hide hB; have HR := hide hrow; have HG := hide hg; clear hB hrow hg q1 q2 q3 q4))
    have hr1 := own_get HR.out (j := m) (by have := HM.out; omega)
    have hr2 := own_get HR.out (j := n - 1 - m) (by have := HM.out; omega)
    rw [HX.out] at hr1
    rw [HY.out] at hr2
    have e1 : wrap64 (wrap64 ((n : Int) - 1) - (m : Int)) = ((n - 1 - m : Nat) : Int) := by have := HM.out; unfold wrap64; omega
    have z1 : n - 1 - m < n := by have := HM.out; omega
    have z2 : m < n := by have := HM.out; omega
    go_quiet (fail)
    go_wp2_with fail
    go_ret2
    exact ⟨ret_two2 rfl (by simp [errV]), below_drewN HB.out _⟩
end Go.Proofs.YtfdadkngbnhmeaaDoor
