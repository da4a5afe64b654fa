/- The contracts of metronomeref.NewMember and of its methods; conditions: the member lies in a block of its own, its set in another one. -/
import Derived.Test.YtgdljdhibknjnabDoorNa
import Derived.Test.YtgdljdhibknjnabDoorVs
import Derived.Test.YtgdljdhibknjnabDoorIn
import Derived.Laws.MakeOwn
import Derived.BigQuiet
import Derived.RegionTactic
namespace Go.Proofs.YtgdljdhibknjnabDoor
open Go.RowKit

/-- The cells of a member. -/
def refC (id n gt : Nat) (good bad : Int) (fz : Bool) : Array Value := #[.int .i64 id, .int .i64 n, .slice (some ⟨gt, 0, none⟩) n n, .int .i64 good, .int .i64 bad, .bool fz]
def tkB (n : Nat) (f : Nat → Bool) : Array Value := ((List.range n).map fun i => Value.bool (f i)).toArray
theorem tkB_get {n i : Nat} {f : Nat → Bool} (h : i < n) : (tkB n f)[i]? = some (.bool (f i)) := by simp [tkB, h]
theorem tkB_ext {n : Nat} {f : Nat → Bool} {a : Array Value} (hs : a.size = n) (h : ∀ i, i < n → a[i]? = some (.bool (f i))) : a = tkB n f := by
  apply Array.ext_getElem?
  intro i
  rcases Nat.lt_or_ge i n with hlt | hge
  · rw [h i hlt, tkB_get hlt]
  · rw [Array.getElem?_eq_none (by omega), Array.getElem?_eq_none (by simp [tkB]; omega)]
theorem tkB_congr {n : Nat} {f f' : Nat → Bool} (h : ∀ i, i < n → f i = f' i) : tkB n f = tkB n f' := tkB_ext (by simp [tkB]) fun i hi => by rw [tkB_get hi, h i hi]
theorem tkB_set {n : Nat} {f f' : Nat → Bool} (k : Nat) (b : Bool) (hk : k < n) (hb : f' k = b) (ho : ∀ i, i < n → i ≠ k → f' i = f i) : (tkB n f).setIfInBounds k (.bool b) = tkB n f' := by
  apply tkB_ext (by simp [tkB])
  intro i hi
  rw [Array.getElem?_setIfInBounds]
  by_cases h : k = i
  · subst h; simp [tkB, hk, hb]
  · rw [if_neg h, tkB_get hi, ho i hi (Ne.symm h)]
theorem bool_info : (Tryd.prog.info? 4).map (fun i => (i.zero, i.size, i.bytes)) = some (some (.bool false), 1, 1) := by kernel_rfl
theorem make_set (n : Nat) (hn : n ≤ 16) : ∀ w : World, (Instr.makeSlice 106 (.int .i64 n) (.int .i64 n)).run Tryd.prog w = .ok (.slice (some ⟨w.heap.size, 0, none⟩) n n) (w.alloc (.cells (tkB n fun _ => false) 4)) := by
  obtain ⟨i0, hi, hz0, hz1, hz2⟩ := vs_info_parts bool_info
  intro w
  have := run_makeSlice (P := Tryd.prog) w 106 4 i0 (.bool false) Tryd.underlying106 hi hz0 .i64 .i64 n n (by omega) (by omega) (by rw [hz1]; simp; omega) (by rw [hz2]; simp; omega) (by omega)
  have e : madeCells (Value.bool false).cells ((n : Int).toNat * i0.size) = tkB n fun _ => false := by
    apply tkB_ext
    · rw [hz1]; simp [madeCells]
    · intro k hk
      rw [hz1]
      simp [madeCells, Value.cells]
      exact ⟨k, by simp [hk], by rw [Nat.mod_one]; rfl⟩
  rw [e] at this
  simpa using this
theorem Blk.cells6' {w : World} {g id n gt : Nat} {good bad : Int} {fz : Bool} (h : Blk w g 108 (refC id n gt good bad fz)) :
    w.cell? ⟨g, 0, none⟩ = some (.int .i64 id) ∧ w.cell? ⟨g, 1, none⟩ = some (.int .i64 n) ∧ w.cell? ⟨g, 2, none⟩ = some (.slice (some ⟨gt, 0, none⟩) n n) ∧ w.cell? ⟨g, 3, none⟩ = some (.int .i64 good) ∧ w.cell? ⟨g, 4, none⟩ = some (.int .i64 bad) ∧ w.cell? ⟨g, 5, none⟩ = some (.bool fz) :=
  ⟨h.cell 0, h.cell 1, h.cell 2, h.cell 3, h.cell 4, h.cell 5⟩
theorem Blk.tk {w : World} {g n i : Nat} {f : Nat → Bool} (h : Blk w g 4 (tkB n f)) (hi : i < n) : w.cell? ⟨g, i, none⟩ = some (.bool (f i)) := (h.cell i).trans (tkB_get hi)

theorem and_on {m k : Nat} (hm : m < 65536) (hk : k < 17) (h : m.testBit k = true) : ∃ X : Int, bits .and .i64 (m : Int) (wrap64 (2 ^ k)) = X ∧ X ≠ 0 ∧ (X == 0) = false ∧ (X != 0) = true := by
  rw [and_pow m k hm hk, h]
  have := Nat.two_pow_pos k
  have h0 : ((2 ^ k : Nat) : Int) ≠ 0 := by omega
  exact ⟨_, rfl, h0, beq_eq_false_iff_ne.2 h0, bne_iff_ne.2 h0⟩
theorem and_off {m k : Nat} (hm : m < 65536) (hk : k < 17) (h : m.testBit k = false) : bits .and .i64 (m : Int) (wrap64 (2 ^ k)) = 0 := by rw [and_pow m k hm hk, h]; rfl
theorem fine_next {P : Nat → Prop} {k : Nat} (h : ∀ j, j < k → P j) (hk : P k) : ∀ j, j < k + 1 → P j := fun j hj => by
  rcases Nat.lt_or_ge j k with h1 | h1
  · exact h j h1
  · obtain rfl : j = k := by omega
    exact hk
theorem bit_add (m k : Nat) (hk : k < 16) : wrap64 (((m % 2 ^ k : Nat) : Int) + wrap64 (2 ^ k)) = ((m % 2 ^ k + 2 ^ k : Nat) : Int) := by
  rw [pow_small k (by omega)]
  have h1 : 2 ^ k ≤ 2 ^ 15 := Nat.pow_le_pow_right (by decide) (by omega)
  have h2 := Nat.mod_lt m (Nat.two_pow_pos k)
  generalize m % 2 ^ k = r at *
  generalize 2 ^ k = x at *
  unfold wrap64; omega
/-- What a member's method leaves. -/
def MrPost (w : World) (g gt : Nat) (cs : Array Value) (n : Nat) (f : Nat → Bool) (w' : World) : Prop := Blk w' g 108 cs ∧ Blk w' gt 4 (tkB n f) ∧ Kept2 w w' g (some gt)
section
variable (g gt id n m : Nat) (good bad : Int) (fz : Bool)
set_option maxRecDepth 100000 in
theorem rbits_any (w : World) (hb : Blk w g 108 (refC id n gt good bad fz)) (ht : Blk w gt 4 (tkB n (m.testBit ·))) (hn : n ≤ 16) (hm : m < 2 ^ n) :
    Calls Tryd.prog 50 #[.pointer (some ⟨g, 0, none⟩)] w fun e w' => e = .returned (.int .i64 (m : Nat)) ∧ w' = w := by
  have HB := hide hb; have HT := hide ht
  obtain ⟨k0, k1, k2, k3, k4, k5⟩ := hb.cells6'
  clear hb ht
  go_enter Tryd.func50, Tryd.ntmps50
  go_wp2_with fail
  go_loopw [3, 11] (fun v i wr => ∃ k : Nat, k ≤ n ∧ i = .int .i64 k ∧ v = .int .i64 (m % 2 ^ k : Nat) ∧ wr = w) (fun _ i _ => n - (intOf i).toNat)
  case atStart => exact ⟨0, by omega, rfl, by simp [Nat.mod_one], rfl⟩
  case round =>
    obtain ⟨k, hk, rfl, rfl, rfl⟩ := hrel
    by_cases hlt : k < n
    · have hc := HT.out.tk hlt
      obtain ⟨r0, hr0⟩ : ∃ r0, m % 2 ^ k = r0 := ⟨_, rfl⟩
      have HS := hide (bit_add m k (by omega))
      have HZ := hide (mod_succ m k)
      rw [hr0] at HS HZ ⊢
      clear hr0
      generalize m.testBit k = t at *
      cases t
      case true =>
        go_wp2_with fail
        go_roundw
        case rel => exact ⟨k + 1, by omega, by go_num, by rw [HS.out, HZ.out]; rfl, trivial⟩
        case measure => simp [intOf]; omega
      case false =>
        go_wp2_with fail
        go_roundw
        case rel => exact ⟨k + 1, by omega, by go_num, by rw [HZ.out]; rfl, trivial⟩
        case measure => simp [intOf]; omega
    · obtain rfl : n = k := by omega
      have hmm : m % 2 ^ n = m := Nat.mod_eq_of_lt hm
      rw [hmm]
      clear hm hmm
      go_wp2_with fail
      go_ret
      exact ⟨rfl, rfl⟩
set_option maxRecDepth 100000 in
set_option maxHeartbeats 1000000 in
theorem rjudges_any (w : World) (fr mm : Int) (hb : Blk w g 108 (refC id n gt good bad fz)) (ht : Blk w gt 4 (tkB n (m.testBit ·))) (hn1 : 1 ≤ n) (hn : n ≤ 16) (hm : m < 2 ^ n) :
    Calls Tryd.prog 47 #[.pointer (some ⟨g, 0, none⟩), .int .i64 fr, .int .i64 mm] w fun e w' => e = .returned (.int .i64 (judgeG n m fr mm)) ∧ w' = w := by
  have HB := hide hb; have HT := hide ht
  obtain ⟨k0, k1, k2, k3, k4, k5⟩ := hb.cells6'
  have hp : wrap64 (2 ^ n) = ((2 ^ n : Nat) : Int) := pow_small n (by omega)
  have h16 : 2 ^ n ≤ 2 ^ 16 := Nat.pow_le_pow_right (by decide) hn
  obtain ⟨N, hN⟩ : ∃ N, 2 ^ n = N := ⟨_, rfl⟩
  rw [hN] at hp h16
  clear hb ht
  by_cases hfr : 0 ≤ fr ∧ fr < n
  · have hin : inB fr 0 ((n : Int) - 1) = true := by simp [inB]; omega
    have HIN := hide (in_is fr 0 ((n : Int) - 1) true hin)
    by_cases h0 : mm < 0
    · have d0 : decide (mm < 0) = true := decide_eq_true h0
      rw [judgeG_bad (.inr (.inr (.inl h0)))]
      clear hin hfr hN
      go_enter Tryd.func47, Tryd.ntmps47
      go_wp2_with (go_at_call 70; refine (HIN.out _).mono ?_; rintro e w' ⟨rfl, rfl⟩)
      go_ret
      exact ⟨rfl, rfl⟩
    · have d0 : decide (mm < 0) = false := decide_eq_false h0
      by_cases h1 : (N : Int) ≤ mm
      · have d1 : decide ((N : Int) ≤ mm) = true := decide_eq_true h1
        rw [judgeG_bad (.inr (.inr (.inr (by rw [hN]; exact h1))))]
        clear hin hfr hN
        go_enter Tryd.func47, Tryd.ntmps47
        go_wp2_with (go_at_call 70; refine (HIN.out _).mono ?_; rintro e w' ⟨rfl, rfl⟩)
        go_ret
        exact ⟨rfl, rfl⟩
      · have d1 : decide ((N : Int) ≤ mm) = false := decide_eq_false h1
        obtain ⟨F, rfl⟩ : ∃ F : Nat, fr = F := ⟨fr.toNat, by omega⟩
        obtain ⟨J, rfl⟩ : ∃ J : Nat, mm = J := ⟨mm.toNat, by omega⟩
        rw [judgeG_in hm (by omega)]
        obtain ⟨V, hV⟩ : ∃ V, judgeV m F J = V := ⟨_, rfl⟩
        rw [hV]
        have HV := hide hV; clear hV
        have hJ : Hid (J < 2 ^ n) := hide (by omega)
        have hF : F < n := by omega
        have hJ6 : J < 65536 := by omega
        have d2 : decide (N ≤ J) = false := decide_eq_false (by omega)
        clear hin hfr hN h0 h1
        go_enter Tryd.func47, Tryd.ntmps47
        go_wp2_with (go_at_call 70; refine (HIN.out _).mono ?_; rintro e w' ⟨rfl, rfl⟩)
        clear d0 d1 hp
        go_loopw [36] (fun i wr => ∃ k : Nat, k ≤ n ∧ i = .int .i64 k ∧ Hid (∀ j, j < k → fineAt m F J j = true) ∧ wr = w) (fun i _ => n - (intOf i).toNat)
        case atStart => exact ⟨0, by omega, rfl, hide (fun j hj => by omega), rfl⟩
        case round =>
          obtain ⟨k, hk, rfl, HF, rfl⟩ := hrel
          by_cases hlt : k < n
          · have hc := HT.out.tk hlt
            have h17 : k < 17 := by omega
            cases hfine : fineAt m F J k
            case true =>
              have HFN := hide hfine; clear hfine
              by_cases hkF : k = F
              · subst hkF
                have hb : J.testBit k = true := by have := HFN.out; unfold fineAt at this; rwa [if_pos rfl] at this
                obtain ⟨X, hX, hX0, hX1, hX2⟩ := and_on hJ6 h17 hb
                generalize m.testBit k = t at hc
                clear hb
                go_wp2_with fail
                go_roundw
                case rel => exact ⟨k + 1, by omega, by go_num, hide (fine_next HF.out HFN.out), trivial⟩
                case measure => simp [intOf]; omega
              · have hb : J.testBit k = m.testBit k := by have := HFN.out; unfold fineAt at this; rw [if_neg hkF] at this; simpa using this
                rw [← hb] at hc
                have hq : ((k : Int) == (F : Int)) = false := by rw [beq_eq_false_iff_ne]; omega
                clear hb
                cases ht : J.testBit k
                case true =>
                  rw [ht] at hc
                  obtain ⟨X, hX, hX0, hX1, hX2⟩ := and_on hJ6 h17 ht
                  clear ht
                  go_wp2_with fail
                  go_roundw
                  case rel => exact ⟨k + 1, by omega, by go_num, hide (fine_next HF.out HFN.out), trivial⟩
                  case measure => simp [intOf]; omega
                case false =>
                  rw [ht] at hc
                  have hX := and_off hJ6 h17 ht
                  clear ht
                  go_wp2_with fail
                  go_roundw
                  case rel => exact ⟨k + 1, by omega, by go_num, hide (fine_next HF.out HFN.out), trivial⟩
                  case measure => simp [intOf]; omega
            case false =>
              have hv : judgeV m F J = 2 := by unfold judgeV; rw [judge_not hfine]; rfl
              have HV2 : Hid (2 = V) := hide (by rw [← HV.out, hv])
              by_cases hkF : k = F
              · subst hkF
                have hb : J.testBit k = false := by have := hfine; unfold fineAt at this; rwa [if_pos rfl] at this
                have hX := and_off hJ6 h17 hb
                generalize m.testBit k = t at hc
                clear hb hfine hv
                go_wp2_with fail
                go_ret
                exact ⟨ret_int HV2.out, rfl⟩
              · have hb : J.testBit k = !m.testBit k := by have := hfine; unfold fineAt at this; rw [if_neg hkF] at this; revert this; cases J.testBit k <;> cases m.testBit k <;> simp
                have hq : ((k : Int) == (F : Int)) = false := by rw [beq_eq_false_iff_ne]; omega
                have hb2 : m.testBit k = !J.testBit k := by rw [hb]; simp
                rw [hb2] at hc
                clear hb hb2 hfine hv
                cases ht : J.testBit k
                case true =>
                  rw [ht] at hc
                  obtain ⟨X, hX, hX0, hX1, hX2⟩ := and_on hJ6 h17 ht
                  clear ht
                  simp only [Bool.not_true, Bool.not_false] at hc
                  go_wp2_with fail
                  go_ret
                  exact ⟨ret_int HV2.out, rfl⟩
                case false =>
                  rw [ht] at hc
                  have hX := and_off hJ6 h17 ht
                  clear ht
                  simp only [Bool.not_true, Bool.not_false] at hc
                  go_wp2_with fail
                  go_ret
                  exact ⟨ret_int HV2.out, rfl⟩
          · obtain rfl : n = k := by omega
            have hj := judge_all hm hJ.out hF HF.out
            have hv : judgeV m F J = 1 := by unfold judgeV; rw [hj]; rfl
            have HV2 : Hid (1 = V) := hide (by rw [← HV.out, hv])
            clear hj hv
            go_wp2_with fail
            go_ret
            exact ⟨ret_int HV2.out, rfl⟩
  · have hin : inB fr 0 ((n : Int) - 1) = false := by simp [inB]; omega
    have HIN := hide (in_is fr 0 ((n : Int) - 1) false hin)
    rw [judgeG_bad (by omega)]
    clear hin hfr hN
    go_enter Tryd.func47, Tryd.ntmps47
    go_wp2_with (go_at_call 70; refine (HIN.out _).mono ?_; rintro e w' ⟨rfl, rfl⟩)
    go_ret
    exact ⟨rfl, rfl⟩
end
end Go.Proofs.YtgdljdhibknjnabDoor
