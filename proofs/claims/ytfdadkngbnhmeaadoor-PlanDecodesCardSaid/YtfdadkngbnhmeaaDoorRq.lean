/- The contract of metronomeref.numbers; conditions: the bytes lie in memory. -/
import Derived.Test.YtfdadkngbnhmeaaDoorRnu
import Derived.Test.YtfdadkngbnhmeaaDoorNu
import Derived.Test.YtfdadkngbnhmeaaDoorQu
import Derived.Laws.BytesArg
import Derived.RegionTactic
import Derived.Deep.RegionHeld3
import Derived.Deep.Cut
import Derived.Deep.CutRange
import Derived.Deep.CutBlock
import Derived.Deep.RegionHeldLaw
namespace Go.Proofs.YtfdadkngbnhmeaaDoor
open Go.RowKit

theorem rq_str {w : World} {g off n c : Nat} {l : List Nat} (hl : l.length = n) (hc : ∀ j, j < n → w.cell? ⟨g, off + j, none⟩ = some (.int .u8 (l.getD j 0 : Nat))) :
    (convert 22 9 (.slice (some ⟨g, off, none⟩) n c)).run Tryd.prog w = .ok (.string (strOfNums (l.map fun (n : Nat) => (n : Int)))) w :=
  run_convert_bytes_arg (P := Tryd.prog) w 22 5 Tryd.underlying22 Tryd.underlying5 g off n c (l.map fun (n : Nat) => (n : Int)) (by rw [List.length_map, hl]) (fun i hi => by rw [hc i hi]; simp [List.getD, hl, hi]) 9 Tryd.underlying9
theorem rq_inj {a b : List Nat} (ha : ∀ x ∈ a, x < 256) (hb : ∀ x ∈ b, x < 256) (h : strOfNums (a.map fun (n : Nat) => (n : Int)) = strOfNums (b.map fun (n : Nat) => (n : Int))) : a = b := by
  have h1 := congrArg (fun x : ByteArray => x.data.toList.map UInt8.toNat) h
  simp only [strOfNums_data, List.map_map] at h1
  have e : ∀ l : List Nat, (∀ x ∈ l, x < 256) → l.map (UInt8.toNat ∘ (fun n : Int => UInt8.ofNat n.toNat) ∘ fun (n : Nat) => (n : Int)) = l := by
    intro l
    induction l with
    | nil => intro _; rfl
    | cons x l ih =>
      intro hl
      have hx := hl x (by simp)
      rw [List.map_cons, ih (fun y hy => hl y (by simp [hy]))]
      simp
      omega
  rw [e a ha, e b hb] at h1
  exact h1
theorem bytes_ne {a b : ByteArray} (h : ¬ a = b) : ¬ a.toList = b.toList := fun e => h (ByteArray.ext (Array.toList_inj.mp (by rw [← ByteArray.toList_eq, ← ByteArray.toList_eq]; exact e)))
def slLen : Value → Nat
  | .slice _ n _ => n
  | _ => 0
/-- Numbers as cells. -/
def zN (l : List Nat) : List Value := l.map fun (n : Nat) => .int .i64 (n : Int)
theorem zN_len (l : List Nat) : (zN l).length = l.length := by simp [zN]
theorem raw_end {l : List Nat} {k n : Nat} (h : raw 0 0 l = raw k n (l.drop k)) (hk : l.length ≤ k ∨ 6 ≤ k) (h6 : k ≤ 6) : raw 0 0 l = none := by
  rw [h]
  cases e : l.drop k with
  | nil => rfl
  | cons c r =>
    have : k < l.length := by
      have := congrArg List.length e
      simp at this; omega
    unfold raw
    rw [if_pos (by omega)]
theorem raw_at {l : List Nat} {k n : Nat} (h : raw 0 0 l = raw k n (l.drop k)) (hk : k < l.length) (h6 : k < 6) : raw 0 0 l = if l.getD k 0 < 128 then some (n + l.getD k 0 % 128 * 128 ^ k, l.drop (k + 1)) else raw (k + 1) (n + l.getD k 0 % 128 * 128 ^ k) (l.drop (k + 1)) := by
  rw [h, List.drop_eq_getElem_cons hk]
  conv => lhs; unfold raw
  rw [if_neg (by omega)]
  simp [List.getD, hk]
theorem rq_none {l : List Nat} (hl : ∀ x ∈ l, x < 256) (hne : l ≠ []) (h : rdR l = none) : nums l = none := nums_none hne (by rw [← rdR_eq l hl]; exact h)
theorem rq_raw_none {l : List Nat} (h : raw 0 0 l = none) : rdR l = none := by unfold rdR; rw [h]
theorem rq_big {l r : List Nat} {v : Nat} (h : raw 0 0 l = some (v, r)) (hv : 1099511627776 < v) : rdR l = none := by unfold rdR; rw [h]; simp only; rw [if_pos (.inl (by omega))]
theorem rq_diff {l : List Nat} {v k : Nat} (h : raw 0 0 l = some (v, l.drop (k + 1))) (hk : k < l.length) (hv : vnum v ≠ l.take (k + 1)) : rdR l = none := by
  unfold rdR; rw [h]; simp only; rw [if_pos (.inr (by rw [List.length_drop, show l.length - (l.length - (k + 1)) = k + 1 by omega]; exact hv))]
theorem rq_same {l : List Nat} {v k : Nat} (hl : ∀ x ∈ l, x < 256) (h : raw 0 0 l = some (v, l.drop (k + 1))) (hk : k < l.length) (h40 : v ≤ 1099511627776) (hv : vnum v = l.take (k + 1)) : nums l = (nums (l.drop (k + 1))).map (v :: ·) := by
  refine nums_some ?_
  rw [← rdR_eq l hl]
  unfold rdR; rw [h]; simp only; rw [if_neg]
  rw [List.length_drop, show l.length - (l.length - (k + 1)) = k + 1 by omega]
  intro h'
  rcases h' with h' | h'
  · omega
  · exact h' hv
theorem rq_own {w : World} {g c : Nat} {l : List Nat} (h : ∀ j u, (bvN l)[j]? = some u → w.cell? ((⟨g, 0, none⟩ : Addr).add j) = some u) : (convert 22 9 (.slice (some ⟨g, 0, none⟩) l.length c)).run Tryd.prog w = .ok (.string (strOfNums (l.map fun (n : Nat) => (n : Int)))) w :=
  rq_str rfl (fun j hj => by
    have := h j _ (List.getElem?_eq_getElem (by rw [bvN_len]; exact hj))
    have e : (⟨g, 0, none⟩ : Addr).add j = ⟨g, 0 + j, none⟩ := by unfold Addr.add; split <;> simp_all
    rw [e] at this
    rw [this]
    simp [bvN, List.getD, hj])
theorem own_keep2q {w w' : World} {base size n : Nat} {e : TypeId} {v : Value} {xs : List Value} (h : w.ownsRow base e size v n xs) (hk : ∀ g, v.ownBlock = some g → g < w.heap.size → w'.heap[g]? = w.heap[g]?) : w'.ownsRow base e size v n xs := by
  obtain ⟨hl, h | ⟨g, cap, cur, hv, hg, hh, r⟩⟩ := h
  · exact ⟨hl, .inl h⟩
  · exact ⟨hl, .inr ⟨g, cap, cur, hv, hg, by rw [hk g (by rw [hv]; rfl) (Array.getElem?_eq_some_iff.1 hh).1]; exact hh, r⟩⟩
/-- What numbers answers. -/
def RqPost (w : World) (l : List Nat) (r : Ending) (w' : World) : Prop := Below w.heap.size w w' ∧
  ((nums l = none ∧ r = .returned (.tuple #[.slice none 0 0, .bool false])) ∨ (∃ ns v, nums l = some ns ∧ ns.length ≤ l.length ∧ r = .returned (.tuple #[v, .bool true]) ∧ w'.ownsRow w.heap.size 3 1 v ns.length (zN ns)))
theorem rq_int_info : (Tryd.prog.info? 3).map (fun i => (i.zero, i.size, i.bytes)) = some (some (.int .i64 0), 1, 8) := by kernel_rfl
set_option maxRecDepth 100000 in
set_option maxHeartbeats 4000000 in
theorem numbers_any (A : Option Addr) (n c : Nat) (l : List Nat) (w : World) (hB : BsAt w A l) (hl : l.length = n) (hc : n ≤ c) (hm : c ≤ 9223372036854775807) (h256 : ∀ x ∈ l, x < 256) (hl3 : n ≤ 3000) :
    Calls Tryd.prog 21 #[.slice A n c] w (RqPost w l) := by
  have HB := hide hB
  have HL := hide hl
  have H256 := hide h256
  clear hB hl h256
  go_enter Tryd.func21, Tryd.ntmps21
  go_wp2_with fail
  go_loopw [0, 4] (fun bv ov wr => ∃ (Ab : Option Addr) (cb : Nat) (lr ns : List Nat), bv = .slice Ab lr.length cb ∧ lr.length ≤ cb ∧ cb ≤ 9223372036854775807 ∧ lr.length ≤ 3000 ∧ Hid (BsAt wr Ab lr) ∧ Hid (0 < lr.length → ∀ b off, Ab = some ⟨b, off, none⟩ → b < w.heap.size) ∧ Hid (∀ x ∈ lr, x < 256) ∧ Hid (nums l = (nums lr).map (ns ++ ·)) ∧ Hid (ns.length + lr.length ≤ l.length) ∧ Hid (wr.ownsRow w.heap.size 3 1 ov ns.length (zN ns)) ∧ Hid (Below w.heap.size w wr)) (fun bv _ _ => slLen bv)
  case atStart => exact ⟨A, c, l, [], by rw [HL.out], by rw [HL.out]; exact hc, hm, by rw [HL.out]; exact hl3, HB, hide (fun h0 b o e => by obtain ⟨b', o', e', c0⟩ := HB.out 0 h0; rw [e] at e'; cases e'; exact World.block_lt_of_cell? _ _ c0), H256, hide (by cases nums l <;> simp), hide (by simp), hide ⟨rfl, .inl ⟨rfl, rfl⟩⟩, hide (Below.refl _ _)⟩
  case round =>
    clear HB H256
    obtain ⟨Ab, cb, lr, ns, rfl, hcb, hcm, h3000, HB, HLO, H256, HN, HLE, HO, HW⟩ := hrel
    by_cases h0 : 0 < lr.length
    · have d0 : decide ((0 : Int) < (lr.length : Int)) = true := decide_eq_true (by omega)
      go_wp2_with fail
      go_loopw [5, 6, 7] (fun nv tv kv wx => ∃ (k x T : Nat), k ≤ 6 ∧ k ≤ lr.length ∧ nv = .int .i64 x ∧ tv = .int .i64 T ∧ kv = .int .i64 k ∧ x < T ∧ T ≤ 4398046511104 ∧ Hid (T = 128 ^ k) ∧ Hid (raw 0 0 lr = raw k x (lr.drop k)) ∧ wx = wr) (fun _ _ kv _ => 7 - (intOf kv).toNat)
      case atStart => exact ⟨0, 0, 1, by omega, by omega, rfl, rfl, rfl, by omega, by omega, hide rfl, hide rfl, rfl⟩
      case round =>
        obtain ⟨k, x, T, hk6, hkl, rfl, rfl, rfl, hxT, hT, HT, HR, rfl⟩ := hrel
        by_cases hke : k = lr.length
        · have d1 : ((k : Int) == (lr.length : Int)) = true := by rw [hke]; simp
          have HNO := hide (rq_none H256.out (fun e => by rw [e] at h0; simp at h0) (rq_raw_none (raw_end HR.out (.inl (by omega)) hk6)))
          clear hke
          go_wp2_with fail
          go_ret2
          exact ⟨HW.out, .inl ⟨by rw [HN.out, HNO.out]; rfl, rfl⟩⟩
        · have d1 : ((k : Int) == (lr.length : Int)) = false := beq_eq_false_iff_ne.2 (by omega)
          by_cases hk : k = 6
          · have HNO := hide (rq_none H256.out (fun e => by rw [e] at h0; simp at h0) (rq_raw_none (raw_end HR.out (.inr (by omega)) hk6)))
            have d2 : ((k : Int) == 6) = true := by rw [hk]; rfl
            clear hke hk
            go_wp2_with fail
            go_ret2
            exact ⟨HW.out, .inl ⟨by rw [HN.out, HNO.out]; rfl, rfl⟩⟩
          · have d2 : ((k : Int) == 6) = false := beq_eq_false_iff_ne.2 (by omega)
            have hkl2 : k < lr.length := by omega
            have hk5 : k ≤ 5 := by omega
            obtain ⟨b, off, rfl, c0⟩ := HB.out k hkl2
            have hat := raw_at HR.out hkl2 (by omega)
            have hy256 : lr.getD k 0 < 256 := by
              have : lr.getD k 0 = lr[k] := by simp [List.getD, hkl2]
              rw [this]; exact H256.out _ (List.getElem_mem hkl2)
            rw [← HT.out] at hat
            obtain ⟨y, hy⟩ : ∃ y, lr.getD k 0 = y := ⟨_, rfl⟩
            rw [hy] at hat c0 hy256
            have hT5 : T ≤ 34359738368 := by rw [HT.out]; exact Nat.le_trans (Nat.pow_le_pow_right (by decide) hk5) (by decide)
            have hmd : (y : Int) % 128 = ((y % 128 : Nat) : Int) := by simp
            obtain ⟨z, hz⟩ : ∃ z, y % 128 = z := ⟨_, rfl⟩
            have hz128 : z < 128 := by omega
            rw [hz] at hat hmd
            have hzT : z * T ≤ 127 * T := Nat.mul_le_mul_right T (by omega)
            have hmul : (z : Int) * (T : Int) = ((z * T : Nat) : Int) := by push_cast; rfl
            obtain ⟨m, hm2⟩ : ∃ m, z * T = m := ⟨_, rfl⟩
            rw [hm2] at hat hmul hzT
            have hx2 : x + m < T * 128 := by omega
            by_cases hy128 : y < 128
            · have d3 : decide ((y : Int) < 128) = true := decide_eq_true (by omega)
              rw [if_pos hy128] at hat
              obtain ⟨v, hv⟩ : ∃ v, x + m = v := ⟨_, rfl⟩
              rw [hv] at hat
              have HV := hide hv
              have HAT := hide hat
              have hxm : (x : Int) + (m : Int) = (v : Int) := by omega
              have hv50 : v < 4398046511104 := by omega
              clear hat hm2 hz hy hv hy128
              go_upto_region 10 with fail
              go_cut [50] from 38 to 50 (fun z wx => ((z = .bool true ∧ Hid (rdR lr = none)) ∨ (z = .bool false ∧ Hid (v ≤ 1099511627776 ∧ vnum v = lr.take (k + 1)))) ∧ Hid (Below wr.heap.size wr wx))
              case first =>
                clear hmd hmul hxm
                by_cases hbig : 1099511627776 < v
                · have d4 : decide ((1099511627776 : Int) < (v : Int)) = true := decide_eq_true (by omega)
                  have HNO := hide (rq_big HAT.out hbig)
                  clear hbig
                  go_quiet (fail)
                  go_wp2_with fail
                  go_meet
                  case rel => exact ⟨.inl ⟨rfl, HNO⟩, hide (below_drewN (Below.refl _ _) _)⟩
                · have d4 : decide ((1099511627776 : Int) < (v : Int)) = false := decide_eq_false (by omega)
                  have HVB := hide (show v ≤ 1099511627776 by omega)
                  have hkc : k + 1 ≤ cb := by omega
                  have hcb0 : ¬ cb = 0 := by omega
                  have HCV : Hid (∀ W, BsAt W (some ⟨b, off, none⟩) lr → (convert 22 9 (.slice (some ⟨b, off, none⟩) (k + 1) cb)).run Tryd.prog W = .ok (.string (strOfNums ((lr.take (k + 1)).map fun (n : Nat) => (n : Int)))) W) := hide (fun W hW => rq_str (by rw [List.length_take]; omega) (fun j hj => by
                    obtain ⟨b', off', e, c⟩ := hW j (by omega)
                    cases e
                    rw [c]; simp [List.getD, hj]))
                  obtain ⟨S1, hS1⟩ : ∃ S1, strOfNums ((vnum v).map fun (n : Nat) => (n : Int)) = S1 := ⟨_, rfl⟩
                  obtain ⟨S2, hS2⟩ : ∃ S2, strOfNums ((lr.take (k + 1)).map fun (n : Nat) => (n : Int)) = S2 := ⟨_, rfl⟩
                  rw [hS2] at HCV
                  have hcv0 := HCV.out wr.drew (by exact HB.out.keep fun _ _ _ _ => rfl)
                  have HNUM : Hid (∀ W : World, Below wr.heap.size wr W → BsAt W (some ⟨b, off, none⟩) lr → Calls Tryd.prog 45 #[.int .i64 (v : Int)] W fun r w2 => ∃ g2 c2, r = .returned (.slice (some ⟨g2, 0, none⟩) (vnum v).length c2) ∧ (convert 22 9 (.slice (some ⟨g2, 0, none⟩) (vnum v).length c2)).run Tryd.prog w2 = .ok (.string S1) w2 ∧ (convert 22 9 (.slice (some ⟨b, off, none⟩) (k + 1) cb)).run Tryd.prog w2 = .ok (.string S2) w2 ∧ Below wr.heap.size wr w2) := hide (fun W hWB hWl => (rnum_any v (by omega) W).mono fun r w2 h => by
                    obtain ⟨v2, rfl, hown, hBn⟩ := h
                    obtain ⟨g2, c2, rfl, -, -, -, hcc⟩ := rn_cells hown (vnum_pos v)
                    exact ⟨g2, c2, rfl, by rw [← hS1]; exact rq_own hcc, HCV.out w2 (hWl.keep fun b' _ _ hb' => hBn.block b' hb'), hWB.trans (hBn.mono hWB.size)⟩)
                  have HBD := hide (HB.out.keep (w' := wr.drew) fun _ _ _ _ => rfl)
                  have HS1 := hide hS1
                  have HS2 := hide hS2
                  clear hbig hS1 hS2 HCV
                  have hkI : (k : Int) + 1 ≤ (cb : Int) := by omega
                  have hk0 : (0 : Int) ≤ (k : Int) + 1 := by omega
                  have hkc2 : k < cb := by omega
                  have hw1 : IntKind.i64.wrap ((k : Int) + 1) = (k : Int) + 1 := by rw [IntKind.wrap_i64]; omega
                  have hw2 : wrap64 ((k : Int) + 1) = (k : Int) + 1 := IntWalk.wrap64_in _ ⟨by omega, by omega⟩
                  by_cases hS : S1 = S2
                  · subst hS
                    have HVE : Hid (vnum v = lr.take (k + 1)) := hide (rq_inj (vnum_lt v) (fun x hx => H256.out x (List.mem_of_mem_take hx)) (by rw [HS1.out, HS2.out]))
                    go_region_held_law (fun w' => (convert 22 9 (.slice (some ⟨b, off, none⟩) (k + 1) cb)).run Tryd.prog w' = .ok (.string S1) w') (first | exact hcv2 | exact hcv0)
                      (first | (go_at_call 45; refine (HNUM.out _ (below_drewN (Below.refl _ _) 1) HBD.out).mono ?_; rintro r w2 ⟨g2, c2, rfl, hcv1, hcv2, hBn⟩; have HBN := hide hBn; clear hBn))
                    all_goals
                      go_wp2_with fail
                      go_meet
                      case rel => exact ⟨.inr ⟨by simp, hide ⟨HVB.out, HVE.out⟩⟩, HBN⟩
                  · have HVE : Hid (rdR lr = none) := hide (rq_diff HAT.out hkl2 (fun e => hS (by rw [← HS1.out, ← HS2.out, e])))
                    go_region_held_law (fun w' => (convert 22 9 (.slice (some ⟨b, off, none⟩) (k + 1) cb)).run Tryd.prog w' = .ok (.string S2) w') (first | exact hcv2 | exact hcv0)
                      (first | (go_at_call 45; refine (HNUM.out _ (below_drewN (Below.refl _ _) 1) HBD.out).mono ?_; rintro r w2 ⟨g2, c2, rfl, hcv1, hcv2, hBn⟩; have HBN := hide hBn; clear hBn))
                    all_goals
                      go_wp2_with fail
                      go_meet
                      case rel => exact ⟨.inl ⟨by simp [bytes_ne hS], HVE⟩, HBN⟩
              case rest =>
                obtain ⟨⟨rfl, HNO⟩ | ⟨rfl, HVE⟩, HBC⟩ := hcut
                · have HNN := hide (rq_none H256.out (fun e => by rw [e] at h0; simp at h0) HNO.out)
                  go_wp2_with fail
                  go_ret2
                  exact ⟨HW.out.trans (HBC.out.mono HW.out.size), .inl ⟨by rw [HN.out, HNN.out]; rfl, rfl⟩⟩
                · have HSM := hide (rq_same H256.out HAT.out hkl2 HVE.out.1 HVE.out.2)
                  have HO2 := hide ((own_keep2q HO.out (fun g _ hlt => HBC.out.block g hlt)).alloc (.cells #[.int .i64 (v : Nat)] 3))
                  have HW2 := hide ((HW.out.trans (HBC.out.mono HW.out.size)).alloc (Nat.le_trans HW.out.size HBC.out.size) (.cells #[.int .i64 (v : Nat)] 3))
                  have HB2 := hide (HB.out.keep fun b' _ _ hb' => (Below.heap_alloc wc (.cells #[.int .i64 (v : Nat)] 3) b' (Nat.lt_of_lt_of_le hb' HBC.out.size)).trans (HBC.out.block b' hb'))
                  have n2 := rn_news (Blk.new wc 3 [Value.int .i64 (v : Nat)].toArray)
                  have N2 := hide n2
                  obtain ⟨z0, hz, hz0, hz1, hz2⟩ := en_info_parts rq_int_info
                  have hns : ns.length ≤ 3000 := by have := HLE.out; have := HL.out; omega
                  have hkc2 : k + 1 ≤ cb := by omega
                  have hw1 : IntKind.i64.wrap ((k : Int) + 1) = (k : Int) + 1 := by rw [IntKind.wrap_i64]; omega
                  clear n2 HB HBC HO c0
                  go_wp2_with (at_builtin; go_must (refine wpList_append_own _ rfl (.tmp 51) (.tmp 53) _ rfl w.heap.size 3 z0 _ 1 8 Tryd.underlying40 hz hz0 hz1 hz2 rfl (by decide) u4 ns.length (zN ns) rfl (by exact HO2.out) ⟨wc.heap.size, 0, none⟩ 1 1 [Value.int .i64 (v : Nat)] rfl rfl (by exact N2.out) (by intro u hu; simp at hu; subst hu; rfl) (by simp [maxLen]; omega) (by omega) (by exact HW2.out.size) ?_); intro v8 w8 hown hg _; have HO8 := hide hown; have HG8 := hide hg; clear hown hg)
                  obtain ⟨ao2, hao⟩ : ∃ ao2 : Option Addr, ao2 = if cb = k + 1 then some ⟨b, off, none⟩ else some ⟨b, off + (k + 1), none⟩ := ⟨_, rfl⟩
                  rw [← hao]
                  have HB8 : Hid (BsAt w8 ao2 (lr.drop (k + 1))) := hide (by
                    rw [hao]
                    split
                    · intro j hj
                      rw [List.length_drop] at hj
                      omega
                    · refine drop_add (some ⟨b, off, none⟩) lr (k + 1) w8 b off (HB2.out.keep fun b' o' e hb' => HG8.out.block b' hb' (fun e' => ?_))
                      have h1 := HLO.out h0 b off rfl
                      have h2 := (rn_base HO2.out b' e'.symm).1
                      cases e
                      omega)
                  have HLO8 : Hid (0 < (lr.drop (k + 1)).length → ∀ b' o', ao2 = some ⟨b', o', none⟩ → b' < w.heap.size) := hide (fun _ b' o' e => by
                    have h1 := HLO.out h0 b off rfl
                    rw [hao] at e
                    split at e <;> (cases e; exact h1))
                  go_roundw
                  case rel => exact ⟨ao2, cb - (k + 1), lr.drop (k + 1), ns ++ [v], by rw [List.length_drop], by rw [List.length_drop]; omega, by omega, by rw [List.length_drop]; omega, HB8, HLO8, hide (fun x hx => H256.out x (List.mem_of_mem_drop hx)), hide (by rw [HN.out, HSM.out]; cases nums (lr.drop (k + 1)) <;> simp), hide (by have := HLE.out; simp; omega), hide (by rw [List.length_append]; simpa [zN] using HO8.out), hide (rn_below HW2.out HG8.out (fun j e => (rn_base HO2.out j e).1))⟩
                  case measure => simp [slLen]; omega
            · have d3 : decide ((y : Int) < 128) = false := decide_eq_false (by omega)
              rw [if_neg hy128] at hat
              have HAT := hide hat
              clear hat hm2 hz hy hy128
              go_wp2_with fail
              go_roundw
              case rel => exact ⟨k + 1, x + m, T * 128, by omega, by omega, by go_num, by go_num, by go_num, by omega, by omega, hide (by rw [HT.out, Nat.pow_succ]), HAT, trivial⟩
              case measure => simp [intOf]; omega
    · have d0 : decide ((0 : Int) < (lr.length : Int)) = false := decide_eq_false (by omega)
      have hn : nums l = some ns := by rw [HN.out, List.eq_nil_of_length_eq_zero (show lr.length = 0 by omega), nums_nil]; simp
      have HN2 := hide hn
      clear hn
      go_wp2_with fail
      go_ret2
      exact ⟨HW.out, .inr ⟨ns, _, HN2.out, by have := HLE.out; omega, rfl, HO.out⟩⟩
end Go.Proofs.YtfdadkngbnhmeaaDoor
