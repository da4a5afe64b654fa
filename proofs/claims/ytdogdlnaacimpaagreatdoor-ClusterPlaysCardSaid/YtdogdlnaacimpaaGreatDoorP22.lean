/- The document's member as a set: plain facts, no program in sight. -/
import Derived.Test.YtdogdlnaacimpaaGreatDoorP01
import Derived.Test.YtdogdlnaacimpaaGreatDoorP21
import Derived.Test.YtdogdlnaacimpaaGreatDoorP06
import Derived.Test.YtdogdlnaacimpaaGreatDoorP05
import Derived.Test.YtdogdlnaacimpaaGreatDoorP12
import Derived.Laws.MakeOwn
import Derived.BigQuiet
import Derived.RegionTactic
set_option linter.unusedVariables false
set_option linter.unusedSimpArgs false
namespace Go.Proofs.YtdogdlnaacimpaaGreatDoor
section
open Go.RowKit
theorem mod_succ (m k : Nat) : m % 2 ^ (k + 1) = m % 2 ^ k + if m.testBit k then 2 ^ k else 0 := by
 rw [Nat.pow_succ, Nat.mod_mul, Nat.testBit_eq_decide_div_mod_eq]
 have := Nat.mod_two_eq_zero_or_one (m / 2 ^ k)
 rcases this with h | h <;> simp [h]
theorem and_two (m k : Nat) : m &&& 2 ^ k = if m.testBit k then 2 ^ k else 0 := by
 apply Nat.eq_of_testBit_eq
 intro i
 rw [Nat.testBit_and, Nat.testBit_two_pow]
 by_cases h : k = i
 ·subst h
  cases hb : m.testBit k <;> simp [Nat.testBit_two_pow]
 ·cases m.testBit k <;> simp [Nat.testBit_two_pow, h]
theorem and_pow (m k : Nat) (hm : m < 65536) (hk : k < 17) : bits .and .i64 (m : Int) (wrap64 (2 ^ k)) = if m.testBit k then ((2 ^ k : Nat) : Int) else 0 := by
 have h1 : (2 : Nat) ^ k ≤ 2 ^ 16 := Nat.pow_le_pow_right (by omega) (by omega)
 rw [pow_small k hk, i64_and_nat m (2 ^ k) (by omega) (by omega), and_two]
 cases m.testBit k <;> simp
theorem and_pow_ne (m k : Nat) (hm : m < 65536) (hk : k < 17) : (bits .and .i64 (m : Int) (wrap64 (2 ^ k)) == 0) = !m.testBit k := by
 rw [and_pow m k hm hk]
 have := Nat.two_pow_pos k
 cases m.testBit k
 ·simp
 ·simp only [if_true, Bool.not_true]
  rw [beq_eq_false_iff_ne]; omega
/-- What the document's Judges looks at, place by place. -/
def fineAt (m fr mm i : Nat) : Bool := if i = fr then mm.testBit i else mm.testBit i == m.testBit i
theorem judge_all {n m fr mm : Nat} (hm : m < 2 ^ n) (hmm : mm < 2 ^ n) (hf : fr < n) (h : ∀ i, i < n → fineAt m fr mm i = true) : judgeB m fr mm = true := by
 have h0 := h fr hf
 unfold fineAt at h0
 rw [if_pos rfl] at h0
 unfold judgeB
 rw [h0, Bool.and_true, decide_eq_true_eq]
 apply Nat.eq_of_testBit_eq
 intro i
 rw [Nat.testBit_or, Nat.testBit_or, Nat.testBit_two_pow]
 by_cases hi : i = fr
 ·subst hi; simp
 ·rcases Nat.lt_or_ge i n with hlt | hge
  ·have h1 := h i hlt
   unfold fineAt at h1
   rw [if_neg hi] at h1
   simp at h1
   rw [h1]
  ·have hp : 2 ^ n ≤ 2 ^ i := Nat.pow_le_pow_right (by omega) hge
   rw [Nat.testBit_lt_two_pow (Nat.lt_of_lt_of_le hm hp), Nat.testBit_lt_two_pow (Nat.lt_of_lt_of_le hmm hp)]
theorem judge_not {m fr mm i : Nat} (h : fineAt m fr mm i = false) : judgeB m fr mm = false := by
 cases hj : judgeB m fr mm
 ·rfl
 ·unfold judgeB at hj
  simp at hj
  obtain ⟨e, hb⟩ := hj
  unfold fineAt at h
  by_cases hi : i = fr
  ·rw [if_pos hi] at h; subst hi; rw [hb] at h; cases h
  ·rw [if_neg hi] at h
   have := congrArg (fun x => Nat.testBit x i) e
   simp only [Nat.testBit_or, Nat.testBit_two_pow] at this
   have hd : decide (fr = i) = false := decide_eq_false (by omega)
   rw [hd, Bool.or_false, Bool.or_false] at this
   rw [this] at h; simp at h
theorem judge_high {n m fr mm : Nat} (hm : m < 2 ^ n) (hmm : 2 ^ n ≤ mm) (hf : fr < n) : judgeB m fr mm = false := by
 cases hj : judgeB m fr mm
 ·rfl
 ·exfalso
  unfold judgeB at hj
  simp at hj
  obtain ⟨e, hb⟩ := hj
  have hlt : m ||| 2 ^ fr < 2 ^ n := Nat.or_lt_two_pow hm (Nat.pow_lt_pow_right (by omega) hf)
  have := @Nat.left_le_or mm (2 ^ fr)
  omega
/-- What Judges tells, whatever is asked. -/
def judgeG (n m : Nat) (fr mm : Int) : Int := if fr < 0 ∨ (n : Int) ≤ fr ∨ mm < 0 ∨ (2 ^ n : Nat) ≤ mm then 2 else judgeV m fr.toNat mm.toNat
theorem judgeG_bad {n m : Nat} {fr mm : Int} (h : fr < 0 ∨ (n : Int) ≤ fr ∨ mm < 0 ∨ (2 ^ n : Nat) ≤ mm) : judgeG n m fr mm = 2 := by unfold judgeG; rw [if_pos h]
theorem judgeG_in {n m fr mm : Nat} (hm : m < 2 ^ n) (hf : fr < n) : judgeG n m (fr : Int) (mm : Int) = judgeV m fr mm := by
 unfold judgeG
 by_cases h : 2 ^ n ≤ mm
 ·rw [if_pos (by omega)]
  unfold judgeV
  rw [judge_high hm h hf]; rfl
 ·rw [if_neg (by omega)]; rfl
/-- Does Hears change anything? -/
def hOk (id n : Nat) (fz : Bool) (fr what : Int) : Bool := !fz && decide (0 ≤ fr) && decide (fr < n) && !decide (fr = id) && decide (0 ≤ what) && decide (what ≤ 2)
def hM (id n m : Nat) (fz : Bool) (fr what : Int) : Nat := if hOk id n fz fr what then (if what = 1 then m ||| 2 ^ fr.toNat else clr m (2 ^ fr.toNat)) else m
def hG (id n : Nat) (good : Int) (fz : Bool) (fr what : Int) : Int := if hOk id n fz fr what && decide (what = 1) then good + 1 else good
def hB (id n : Nat) (bad : Int) (fz : Bool) (fr what : Int) : Int := if hOk id n fz fr what && decide (what = 2) then bad + 1 else bad
theorem hM_no {id n m : Nat} {fz : Bool} {fr what : Int} (h : hOk id n fz fr what = false) : hM id n m fz fr what = m := by unfold hM; rw [h]; rfl
theorem hG_no {id n : Nat} {good : Int} {fz : Bool} {fr what : Int} (h : hOk id n fz fr what = false) : hG id n good fz fr what = good := by unfold hG; rw [h]; rfl
theorem hB_no {id n : Nat} {good : Int} {fz : Bool} {fr what : Int} (h : hOk id n fz fr what = false) : hB id n good fz fr what = good := by unfold hB; rw [h]; rfl
/-- What Sends leaves. -/
def sG (good bad : Int) (fz : Bool) : Int := if sendsOk good bad fz then 1 else good
def sB (good bad : Int) (fz : Bool) : Int := if sendsOk good bad fz then 0 else bad
theorem or_bit_on (m k : Nat) : (m ||| 2 ^ k).testBit k = true := by simp [Nat.testBit_or]
theorem or_bit_off {m k i : Nat} (h : i ≠ k) : (m ||| 2 ^ k).testBit i = m.testBit i := by simp [Nat.testBit_or, Nat.testBit_two_pow, Ne.symm h]
theorem clr_bit_on (m k : Nat) : (clr m (2 ^ k)).testBit k = false := by simp [clr_bit]
theorem clr_bit_off {m k i : Nat} (h : i ≠ k) : (clr m (2 ^ k)).testBit i = m.testBit i := by simp [clr_bit, Nat.testBit_two_pow, Ne.symm h]
end
section
open Go.RowKit
/-- The cells of a member. -/
def refC (id n gt : Nat) (good bad : Int) (fz : Bool) : Array Value := #[.int .i64 id, .int .i64 n, .slice (some ⟨gt, 0, none⟩) n n, .int .i64 good, .int .i64 bad, .bool fz]
def tkB (n : Nat) (f : Nat → Bool) : Array Value := ((List.range n).map fun i => Value.bool (f i)).toArray
theorem tkB_get {n i : Nat} {f : Nat → Bool} (h : i < n) : (tkB n f)[i]? = some (.bool (f i)) := by simp [tkB, h]
theorem tkB_ext {n : Nat} {f : Nat → Bool} {a : Array Value} (hs : a.size = n) (h : ∀ i, i < n → a[i]? = some (.bool (f i))) : a = tkB n f := by
 apply Array.ext_getElem?
 intro i
 rcases Nat.lt_or_ge i n with hlt | hge
 ·rw [h i hlt, tkB_get hlt]
 ·rw [Array.getElem?_eq_none (by omega), Array.getElem?_eq_none (by simp [tkB]; omega)]
theorem tkB_congr {n : Nat} {f f' : Nat → Bool} (h : ∀ i, i < n → f i = f' i) : tkB n f = tkB n f' := tkB_ext (by simp [tkB]) fun i hi => by rw [tkB_get hi, h i hi]
theorem tkB_set {n : Nat} {f f' : Nat → Bool} (k : Nat) (b : Bool) (hk : k < n) (hb : f' k = b) (ho : ∀ i, i < n → i ≠ k → f' i = f i) : (tkB n f).setIfInBounds k (.bool b) = tkB n f' := by
 apply tkB_ext (by simp [tkB])
 intro i hi
 rw [Array.getElem?_setIfInBounds]
 by_cases h : k = i
 ·subst h; simp [tkB, hk, hb]
 ·rw [if_neg h, tkB_get hi, ho i hi (Ne.symm h)]
theorem bool_info : (Tryz.prog.info? 4).map (fun i => (i.zero, i.size, i.bytes)) = some (some (.bool false), 1, 1) := by kernel_rfl
theorem make_set (n : Nat) (hn : n ≤ 16) : ∀ w : World, (Instr.makeSlice 93 (.int .i64 n) (.int .i64 n)).run Tryz.prog w = .ok (.slice (some ⟨w.heap.size, 0, none⟩) n n) (w.alloc (.cells (tkB n fun _ => false) 4)) := by
 obtain ⟨i0, hi, hz0, hz1, hz2⟩ := vs_info_parts bool_info
 intro w
 have := run_makeSlice (P := Tryz.prog) w 93 4 i0 (.bool false) Tryz.underlying93 hi hz0 .i64 .i64 n n (by omega) (by omega) (by rw [hz1]; simp; omega) (by rw [hz2]; simp; omega) (by omega)
 have e : madeCells (Value.bool false).cells ((n : Int).toNat * i0.size) = tkB n fun _ => false := by
  apply tkB_ext
  ·rw [hz1]; simp [madeCells]
  ·intro k hk
   rw [hz1]
   simp [madeCells, Value.cells]
   exact ⟨k, by simp [hk], by rw [Nat.mod_one]; rfl⟩
 rw [e] at this
 simpa using this
theorem Blk.cells6' {w : World} {g id n gt : Nat} {good bad : Int} {fz : Bool} (h : Blk w g 95 (refC id n gt good bad fz)) :
 w.cell? ⟨g, 0, none⟩ = some (.int .i64 id) ∧ w.cell? ⟨g, 1, none⟩ = some (.int .i64 n) ∧ w.cell? ⟨g, 2, none⟩ = some (.slice (some ⟨gt, 0, none⟩) n n) ∧ w.cell? ⟨g, 3, none⟩ = some (.int .i64 good) ∧ w.cell? ⟨g, 4, none⟩ = some (.int .i64 bad) ∧ w.cell? ⟨g, 5, none⟩ = some (.bool fz) :=
 ⟨h.cell 0, h.cell 1, h.cell 2, h.cell 3, h.cell 4, h.cell 5⟩
theorem Blk.tk {w : World} {g n i : Nat} {f : Nat → Bool} (h : Blk w g 4 (tkB n f)) (hi : i < n) : w.cell? ⟨g, i, none⟩ = some (.bool (f i)) := (h.cell i).trans (tkB_get hi)
theorem and_on {m k : Nat} (hm : m < 65536) (hk : k < 17) (h : m.testBit k = true) : ∃ X : Int, bits .and .i64 (m : Int) (wrap64 (2 ^ k)) = X ∧ X ≠ 0 ∧ (X == 0) = false ∧ (X != 0) = true := by
 rw [and_pow m k hm hk, h]
 have := Nat.two_pow_pos k
 have h0 : ((2 ^ k : Nat) : Int) ≠ 0 := by omega
 exact ⟨_, rfl, h0, beq_eq_false_iff_ne.2 h0, bne_iff_ne.2 h0⟩
theorem and_off {m k : Nat} (hm : m < 65536) (hk : k < 17) (h : m.testBit k = false) : bits .and .i64 (m : Int) (wrap64 (2 ^ k)) = 0 := by rw [and_pow m k hm hk, h]; rfl
theorem fine_next {P : Nat → Prop} {k : Nat} (h : ∀ j, j < k → P j) (hk : P k) : ∀ j, j < k + 1 → P j := fun j hj => by
 rcases Nat.lt_or_ge j k with h1 | h1
 ·exact h j h1
 ·obtain rfl : j = k := by omega
  exact hk
theorem bit_add (m k : Nat) (hk : k < 16) : wrap64 (((m % 2 ^ k : Nat) : Int) + wrap64 (2 ^ k)) = ((m % 2 ^ k + 2 ^ k : Nat) : Int) := by
 rw [pow_small k (by omega)]
 have h1 : 2 ^ k ≤ 2 ^ 15 := Nat.pow_le_pow_right (by decide) (by omega)
 have h2 := Nat.mod_lt m (Nat.two_pow_pos k)
 generalize m % 2 ^ k = r at *
 generalize 2 ^ k = x at *
 unfold wrap64; omega
/-- What a member's method leaves. -/
def MrPost (w : World) (g gt : Nat) (cs : Array Value) (n : Nat) (f : Nat → Bool) (w' : World) : Prop := Blk w' g 95 cs ∧ Blk w' gt 4 (tkB n f) ∧ Kept2 w w' g (some gt)
section
variable (g gt id n m : Nat) (good bad : Int) (fz : Bool)
set_option maxRecDepth 100000 in
theorem rbits_any (w : World) (hb : Blk w g 95 (refC id n gt good bad fz)) (ht : Blk w gt 4 (tkB n (m.testBit ·))) (hn : n ≤ 16) (hm : m < 2 ^ n) :
 Calls Tryz.prog 28 #[.pointer (some ⟨g, 0, none⟩)] w fun e w' => e = .returned (.int .i64 (m : Nat)) ∧ w' = w := by
 have HB := hide hb; have HT := hide ht
 obtain ⟨k0, k1, k2, k3, k4, k5⟩ := hb.cells6'
 clear hb ht
 go_enter Tryz.func28, Tryz.ntmps28
 go_wp2_with fail
 go_loopw [3, 11] (fun v i wr => ∃ k : Nat, k ≤ n ∧ i = .int .i64 k ∧ v = .int .i64 (m % 2 ^ k : Nat) ∧ wr = w) (fun _ i _ => n - (intOf i).toNat)
 case atStart => exact ⟨0, by omega, rfl, by simp [Nat.mod_one], rfl⟩
 case round =>
  obtain ⟨k, hk, rfl, rfl, rfl⟩ := hrel
  by_cases hlt : k < n
  ·have hc := HT.out.tk hlt
   obtain ⟨r0, hr0⟩ : ∃ r0, m % 2 ^ k = r0 := ⟨_, rfl⟩
   have HS := hide (bit_add m k (by omega))
   have HZ := hide (mod_succ m k)
   rw [hr0] at HS HZ ⊢
   clear hr0
   generalize m.testBit k = t at *
   cases t
   case true =>
    go_wp2_with fail
    go_roundw
    case rel => exact ⟨k + 1, by omega, by go_num, by rw [HS.out, HZ.out]; rfl, trivial⟩
    case measure => simp [intOf]; omega
   case false =>
    go_wp2_with fail
    go_roundw
    case rel => exact ⟨k + 1, by omega, by go_num, by rw [HZ.out]; rfl, trivial⟩
    case measure => simp [intOf]; omega
  ·obtain rfl : n = k := by omega
   have hmm : m % 2 ^ n = m := Nat.mod_eq_of_lt hm
   rw [hmm]
   clear hm hmm
   go_wp2_with fail
   go_ret
   exact ⟨rfl, rfl⟩
set_option maxRecDepth 100000 in
set_option maxHeartbeats 1000000 in
theorem rjudges_any (w : World) (fr mm : Int) (hb : Blk w g 95 (refC id n gt good bad fz)) (ht : Blk w gt 4 (tkB n (m.testBit ·))) (hn1 : 1 ≤ n) (hn : n ≤ 16) (hm : m < 2 ^ n) :
 Calls Tryz.prog 52 #[.pointer (some ⟨g, 0, none⟩), .int .i64 fr, .int .i64 mm] w fun e w' => e = .returned (.int .i64 (judgeG n m fr mm)) ∧ w' = w := by
 have HB := hide hb; have HT := hide ht
 obtain ⟨k0, k1, k2, k3, k4, k5⟩ := hb.cells6'
 have hp : wrap64 (2 ^ n) = ((2 ^ n : Nat) : Int) := pow_small n (by omega)
 have h16 : 2 ^ n ≤ 2 ^ 16 := Nat.pow_le_pow_right (by decide) hn
 obtain ⟨N, hN⟩ : ∃ N, 2 ^ n = N := ⟨_, rfl⟩
 rw [hN] at hp h16
 clear hb ht
 by_cases hfr : 0 ≤ fr ∧ fr < n
 ·have hin : inB fr 0 ((n : Int) - 1) = true := by simp [inB]; omega
  have HIN := hide (in_is fr 0 ((n : Int) - 1) true hin)
  by_cases h0 : mm < 0
  ·have d0 : decide (mm < 0) = true := decide_eq_true h0
   rw [judgeG_bad (.inr (.inr (.inl h0)))]
   clear hin hfr hN
   go_enter Tryz.func52, Tryz.ntmps52
   go_wp2_with (go_at_call 43; refine (HIN.out _).mono ?_; rintro e w' ⟨rfl, rfl⟩)
   go_ret
   exact ⟨rfl, rfl⟩
  ·have d0 : decide (mm < 0) = false := decide_eq_false h0
   by_cases h1 : (N : Int) ≤ mm
   ·have d1 : decide ((N : Int) ≤ mm) = true := decide_eq_true h1
    rw [judgeG_bad (.inr (.inr (.inr (by rw [hN]; exact h1))))]
    clear hin hfr hN
    go_enter Tryz.func52, Tryz.ntmps52
    go_wp2_with (go_at_call 43; refine (HIN.out _).mono ?_; rintro e w' ⟨rfl, rfl⟩)
    go_ret
    exact ⟨rfl, rfl⟩
   ·have d1 : decide ((N : Int) ≤ mm) = false := decide_eq_false h1
    obtain ⟨F, rfl⟩ : ∃ F : Nat, fr = F := ⟨fr.toNat, by omega⟩
    obtain ⟨J, rfl⟩ : ∃ J : Nat, mm = J := ⟨mm.toNat, by omega⟩
    rw [judgeG_in hm (by omega)]
    obtain ⟨V, hV⟩ : ∃ V, judgeV m F J = V := ⟨_, rfl⟩
    rw [hV]
    have HV := hide hV; clear hV
    have hJ : Hid (J < 2 ^ n) := hide (by omega)
    have hF : F < n := by omega
    have hJ6 : J < 65536 := by omega
    have d2 : decide (N ≤ J) = false := decide_eq_false (by omega)
    clear hin hfr hN h0 h1
    go_enter Tryz.func52, Tryz.ntmps52
    go_wp2_with (go_at_call 43; refine (HIN.out _).mono ?_; rintro e w' ⟨rfl, rfl⟩)
    clear d0 d1 hp
    go_loopw [36] (fun i wr => ∃ k : Nat, k ≤ n ∧ i = .int .i64 k ∧ Hid (∀ j, j < k → fineAt m F J j = true) ∧ wr = w) (fun i _ => n - (intOf i).toNat)
    case atStart => exact ⟨0, by omega, rfl, hide (fun j hj => by omega), rfl⟩
    case round =>
     obtain ⟨k, hk, rfl, HF, rfl⟩ := hrel
     by_cases hlt : k < n
     ·have hc := HT.out.tk hlt
      have h17 : k < 17 := by omega
      cases hfine : fineAt m F J k
      case true =>
       have HFN := hide hfine; clear hfine
       by_cases hkF : k = F
       ·subst hkF
        have hb : J.testBit k = true := by have := HFN.out; unfold fineAt at this; rwa [if_pos rfl] at this
        obtain ⟨X, hX, hX0, hX1, hX2⟩ := and_on hJ6 h17 hb
        generalize m.testBit k = t at hc
        clear hb
        go_wp2_with fail
        go_roundw
        case rel => exact ⟨k + 1, by omega, by go_num, hide (fine_next HF.out HFN.out), trivial⟩
        case measure => simp [intOf]; omega
       ·have hb : J.testBit k = m.testBit k := by have := HFN.out; unfold fineAt at this; rw [if_neg hkF] at this; simpa using this
        rw [← hb] at hc
        have hq : ((k : Int) == (F : Int)) = false := by rw [beq_eq_false_iff_ne]; omega
        clear hb
        cases ht : J.testBit k
        case true =>
         rw [ht] at hc
         obtain ⟨X, hX, hX0, hX1, hX2⟩ := and_on hJ6 h17 ht
         clear ht
         go_wp2_with fail
         go_roundw
         case rel => exact ⟨k + 1, by omega, by go_num, hide (fine_next HF.out HFN.out), trivial⟩
         case measure => simp [intOf]; omega
        case false =>
         rw [ht] at hc
         have hX := and_off hJ6 h17 ht
         clear ht
         go_wp2_with fail
         go_roundw
         case rel => exact ⟨k + 1, by omega, by go_num, hide (fine_next HF.out HFN.out), trivial⟩
         case measure => simp [intOf]; omega
      case false =>
       have hv : judgeV m F J = 2 := by unfold judgeV; rw [judge_not hfine]; rfl
       have HV2 : Hid (2 = V) := hide (by rw [← HV.out, hv])
       by_cases hkF : k = F
       ·subst hkF
        have hb : J.testBit k = false := by have := hfine; unfold fineAt at this; rwa [if_pos rfl] at this
        have hX := and_off hJ6 h17 hb
        generalize m.testBit k = t at hc
        clear hb hfine hv
        go_wp2_with fail
        go_ret
        exact ⟨ret_int HV2.out, rfl⟩
       ·have hb : J.testBit k = !m.testBit k := by have := hfine; unfold fineAt at this; rw [if_neg hkF] at this; revert this; cases J.testBit k <;> cases m.testBit k <;> simp
        have hq : ((k : Int) == (F : Int)) = false := by rw [beq_eq_false_iff_ne]; omega
        have hb2 : m.testBit k = !J.testBit k := by rw [hb]; simp
        rw [hb2] at hc
        clear hb hb2 hfine hv
        cases ht : J.testBit k
        case true =>
         rw [ht] at hc
         obtain ⟨X, hX, hX0, hX1, hX2⟩ := and_on hJ6 h17 ht
         clear ht
         simp only [Bool.not_true, Bool.not_false] at hc
         go_wp2_with fail
         go_ret
         exact ⟨ret_int HV2.out, rfl⟩
        case false =>
         rw [ht] at hc
         have hX := and_off hJ6 h17 ht
         clear ht
         simp only [Bool.not_true, Bool.not_false] at hc
         go_wp2_with fail
         go_ret
         exact ⟨ret_int HV2.out, rfl⟩
     ·obtain rfl : n = k := by omega
      have hj := judge_all hm hJ.out hF HF.out
      have hv : judgeV m F J = 1 := by unfold judgeV; rw [hj]; rfl
      have HV2 : Hid (1 = V) := hide (by rw [← HV.out, hv])
      clear hj hv
      go_wp2_with fail
      go_ret
      exact ⟨ret_int HV2.out, rfl⟩
 ·have hin : inB fr 0 ((n : Int) - 1) = false := by simp [inB]; omega
  have HIN := hide (in_is fr 0 ((n : Int) - 1) false hin)
  rw [judgeG_bad (by omega)]
  clear hin hfr hN
  go_enter Tryz.func52, Tryz.ntmps52
  go_wp2_with (go_at_call 43; refine (HIN.out _).mono ?_; rintro e w' ⟨rfl, rfl⟩)
  go_ret
  exact ⟨rfl, rfl⟩
end
end
section
open Go.RowKit
theorem Blk.kset {w : World} {g k : Nat} {t : TypeId} {cs : Array Value} (h : Blk w k t cs) (hne : k ≠ g) (i : Nat) (u : Value) : Blk (w.setCell ⟨g, i, none⟩ u) k t cs := h.far (by exact hne) u
theorem Kept2.setB {w w' : World} {g b : Nat} (h : Kept2 w w' g (some b)) (i : Nat) (u : Value) : Kept2 w (w'.setCell ⟨b, i, none⟩ u) g (some b) :=
 ⟨h.os, h.tape, h.output, by simpa [World.setCell] using h.size, fun k hk h1 h2 => (Below.heap_setCell w' _ u k (fun e => h2 (by rw [e]))).trans (h.block k hk h1 h2)⟩
section
variable (g gt id n m : Nat) (good bad : Int) (fz : Bool)
set_option maxRecDepth 100000 in
set_option maxHeartbeats 1000000 in
theorem rsends_any (w : World) (hb : Blk w g 95 (refC id n gt good bad fz)) (ht : Blk w gt 4 (tkB n (m.testBit ·))) (hne : g ≠ gt) (hn : n ≤ 16) (hm : m < 2 ^ n) :
 Calls Tryz.prog 50 #[.pointer (some ⟨g, 0, none⟩)] w fun e w' => e = .returned (.tuple #[.int .i64 (sendsV m good bad fz), .bool (sendsOk good bad fz)]) ∧ MrPost w g gt (refC id n gt (sG good bad fz) (sB good bad fz) (!sendsOk good bad fz)) n (m.testBit ·) w' := by
 have HB := hide hb; have HT := hide ht
 obtain ⟨k0, k1, k2, k3, k4, k5⟩ := hb.cells6'
 have f3 := hb.frozen 3
 have f4 := hb.frozen 4
 have f5 := hb.frozen 5
 clear hb ht
 cases fz
 case true =>
  have e1 : sendsV m good bad true = 0 := by simp [sendsV, sendsOk]
  have e2 : sendsOk good bad true = false := by simp [sendsOk]
  have e3 : refC id n gt (sG good bad true) (sB good bad true) (!sendsOk good bad true) = refC id n gt good bad true := by simp [sG, sB, sendsOk]
  rw [e3, e1, e2]
  clear e1 e2 e3
  go_enter Tryz.func50, Tryz.ntmps50
  go_wp2
  go_ret2
  exact ⟨rfl, HB.out, HT.out, Kept2.refl _ _ _⟩
 case false =>
  by_cases h : good ≤ bad
  ·have e2 : sendsOk good bad false = false := by simp [sendsOk]; omega
   have e1 : sendsV m good bad false = 0 := by unfold sendsV; rw [e2]; rfl
   have e3 : refC id n gt (sG good bad false) (sB good bad false) (!sendsOk good bad false) = refC id n gt good bad true := by simp [sG, sB, e2]
   rw [e3, e1, e2]
   clear e1 e2 e3
   have d1 : decide (good ≤ bad) = true := decide_eq_true h
   go_enter Tryz.func50, Tryz.ntmps50
   go_wp2
   go_quiet (fail)
   go_wp2
   go_ret2
   exact ⟨rfl, (HB.out.drewN _).set_ 5 _, (HT.out.drewN _).kset hne.symm _ _, ((Kept2.refl _ _ _).drewN _).set_ 5 _⟩
  ·have e2 : sendsOk good bad false = true := by simp [sendsOk]; omega
   have e1 : sendsV m good bad false = m := by unfold sendsV; rw [e2]; rfl
   have e3 : refC id n gt (sG good bad false) (sB good bad false) (!sendsOk good bad false) = refC id n gt 1 0 false := by simp [sG, sB, e2]
   rw [e3, e1, e2]
   clear e1 e2 e3
   have d1 : decide (good ≤ bad) = false := decide_eq_false h
   go_enter Tryz.func50, Tryz.ntmps50
   go_wp2
   go_quiet (fail)
   go_wp2_with fail
   refine (rbits_any g gt id n m 1 0 false _ (by exact ((HB.out.drewN _).set_ 3 _).set_ 4 _) (by exact ((HT.out.drewN _).kset hne.symm _ _).kset hne.symm _ _) hn hm).mono ?_
   rintro e w2 ⟨rfl, rfl⟩
   go_wp2
   go_ret2
   exact ⟨rfl, ((HB.out.drewN _).set_ 3 _).set_ 4 _, ((HT.out.drewN _).kset hne.symm _ _).kset hne.symm _ _, (((Kept2.refl _ _ _).drewN _).set_ 3 _).set_ 4 _⟩
set_option maxRecDepth 100000 in
set_option maxHeartbeats 2000000 in
theorem rhears_any (w : World) (fr what : Int) (hb : Blk w g 95 (refC id n gt good bad fz)) (ht : Blk w gt 4 (tkB n (m.testBit ·))) (hne : g ≠ gt) (hn1 : 1 ≤ n) (hn : n ≤ 16) (g0 : 0 ≤ good) (g1 : good ≤ 1000000) (b0 : 0 ≤ bad) (b1 : bad ≤ 1000000) :
 Calls Tryz.prog 54 #[.pointer (some ⟨g, 0, none⟩), .int .i64 fr, .int .i64 what] w fun e w' => e = .returned (.tuple #[]) ∧ MrPost w g gt (refC id n gt (hG id n good fz fr what) (hB id n bad fz fr what) fz) n ((hM id n m fz fr what).testBit ·) w' := by
 have HB := hide hb; have HT := hide ht
 obtain ⟨k0, k1, k2, k3, k4, k5⟩ := hb.cells6'
 have f3 := hb.frozen 3
 have f4 := hb.frozen 4
 cases ho : hOk id n fz fr what
 case false =>
  rw [hM_no ho, hG_no ho, hB_no ho]
  clear hb ht
  cases fz
  case true =>
   clear ho
   go_enter Tryz.func54, Tryz.ntmps54
   go_wp2
   refine bodyPost_ret (results_none rfl _ _ _) rfl ⟨rfl, HB.out, HT.out, Kept2.refl _ _ _⟩
  case false =>
   obtain ⟨v1, hv1⟩ : ∃ v, inB fr 0 ((n : Int) - 1) = v := ⟨_, rfl⟩
   obtain ⟨v2, hv2⟩ : ∃ v, inB what 0 2 = v := ⟨_, rfl⟩
   have HV1 := hide (in_is fr 0 ((n : Int) - 1) v1 hv1)
   have HV2 := hide (in_is what 0 2 v2 hv2)
   have hc : Hid (v1 = false ∨ (v1 = true ∧ (fr == (id : Int)) = true) ∨ (v1 = true ∧ (fr == (id : Int)) = false ∧ v2 = false)) := hide (by
    subst hv1 hv2
    simp only [hOk, inB, Bool.not_false, Bool.true_and, Bool.and_eq_false_iff, Bool.not_eq_false', decide_eq_false_iff_not, decide_eq_true_eq, beq_iff_eq, beq_eq_false_iff_ne, Bool.and_eq_true] at ho ⊢
    omega)
   clear ho hv1 hv2
   rcases hc.out with rfl | ⟨rfl, h1⟩ | ⟨rfl, h1, rfl⟩
   all_goals
    clear hc
    go_enter Tryz.func54, Tryz.ntmps54
    go_wp2_with (go_at_call 43; first | (with_reducible refine (HV1.out _).mono ?_; rintro e w' ⟨rfl, rfl⟩) | (with_reducible refine (HV2.out _).mono ?_; rintro e w' ⟨rfl, rfl⟩))
    refine bodyPost_ret (results_none rfl _ _ _) rfl ⟨rfl, HB.out, HT.out, Kept2.refl _ _ _⟩
 case true =>
  have h : fz = false ∧ 0 ≤ fr ∧ fr < n ∧ fr ≠ id ∧ 0 ≤ what ∧ what ≤ 2 := by
   simp [hOk] at ho
   obtain ⟨⟨⟨⟨⟨a, b⟩, c⟩, d⟩, e⟩, f⟩ := ho
   exact ⟨a, b, c, d, e, f⟩
  obtain ⟨rfl, q0, q1, q2, w0, w2⟩ := h
  obtain ⟨F, rfl⟩ : ∃ F : Nat, fr = F := ⟨fr.toNat, by omega⟩
  have HV1 := hide (in_is (F : Int) 0 ((n : Int) - 1) true (by simp [inB]; omega))
  have HV2 := hide (in_is what 0 2 true (by simp [inB]; omega))
  have hid : ((F : Int) == (id : Int)) = false := beq_eq_false_iff_ne.2 q2
  have hF : F < n := by omega
  have c0 := ht.tk hF
  have fc := ht.frozen F
  generalize m.testBit F = t0 at c0
  have HFN := hide hF
  have HM : Hid (hM id n m false (F : Int) what = if what = 1 then m ||| 2 ^ F else clr m (2 ^ F)) := hide (by unfold hM; rw [ho, if_pos rfl]; rfl)
  have HG : Hid (hG id n good false (F : Int) what = if what = 1 then good + 1 else good) := hide (by unfold hG; rw [ho]; simp)
  have HBB : Hid (hB id n bad false (F : Int) what = if what = 2 then bad + 1 else bad) := hide (by unfold hB; rw [ho]; simp)
  clear hb ht ho q2
  by_cases h1 : what = 1
  ·subst h1
   rw [HG.out, HBB.out, HM.out, if_pos rfl, if_neg (by decide), if_pos rfl]
   clear HM HG HBB w0 w2
   go_enter Tryz.func54, Tryz.ntmps54
   go_wp2_with (go_at_call 43; first | (with_reducible refine (HV1.out _).mono ?_; rintro e w' ⟨rfl, rfl⟩) | (with_reducible refine (HV2.out _).mono ?_; rintro e w' ⟨rfl, rfl⟩))
   go_end0
   have hT := HT.out.set_ F (.bool true)
   rw [tkB_set (f' := ((m ||| 2 ^ F).testBit ·)) F true HFN.out (or_bit_on m F) (fun i _ hi => or_bit_off hi)] at hT
   exact ⟨rfl, (HB.out.kset hne F _).set_ 3 _, hT.kset hne.symm 3 _, ((Kept2.refl _ _ _).setB F _).set_ 3 _⟩
  ·have d1 : (what == 1) = false := beq_eq_false_iff_ne.2 h1
   by_cases h2 : what = 2
   ·subst h2
    rw [HG.out, HBB.out, HM.out, if_neg h1, if_neg h1, if_pos rfl]
    clear HM HG HBB w0 w2 h1
    go_enter Tryz.func54, Tryz.ntmps54
    go_wp2_with (go_at_call 43; first | (with_reducible refine (HV1.out _).mono ?_; rintro e w' ⟨rfl, rfl⟩) | (with_reducible refine (HV2.out _).mono ?_; rintro e w' ⟨rfl, rfl⟩))
    go_end0
    have hT := HT.out.set_ F (.bool false)
    rw [tkB_set (f' := ((clr m (2 ^ F)).testBit ·)) F false HFN.out (clr_bit_on m F) (fun i _ hi => clr_bit_off hi)] at hT
    exact ⟨rfl, (HB.out.kset hne F _).set_ 4 _, hT.kset hne.symm 4 _, ((Kept2.refl _ _ _).setB F _).set_ 4 _⟩
   ·obtain rfl : what = 0 := by omega
    rw [HG.out, HBB.out, HM.out, if_neg h1, if_neg h1, if_neg h2]
    clear HM HG HBB w0 w2 h1 h2
    go_enter Tryz.func54, Tryz.ntmps54
    go_wp2_with (go_at_call 43; first | (with_reducible refine (HV1.out _).mono ?_; rintro e w' ⟨rfl, rfl⟩) | (with_reducible refine (HV2.out _).mono ?_; rintro e w' ⟨rfl, rfl⟩))
    go_end0
    have hT := HT.out.set_ F (.bool false)
    rw [tkB_set (f' := ((clr m (2 ^ F)).testBit ·)) F false HFN.out (clr_bit_on m F) (fun i _ hi => clr_bit_off hi)] at hT
    exact ⟨rfl, HB.out.kset hne F _, hT, (Kept2.refl _ _ _).setB F _⟩
end
end
section
open Go.RowKit
def rsC (bag que : Int) (v : Value) (went last nw : Int) : Array Value := #[.int .i64 bag, .int .i64 que, v, .int .i64 went, .int .i64 last, .int .i64 nw]
theorem Blk.cellsV6 {w : World} {g : Nat} {t : TypeId} {a0 a1 a2 a3 a4 a5 : Value} (h : Blk w g t #[a0, a1, a2, a3, a4, a5]) :
 w.cell? ⟨g, 0, none⟩ = some a0 ∧ w.cell? ⟨g, 1, none⟩ = some a1 ∧ w.cell? ⟨g, 2, none⟩ = some a2 ∧ w.cell? ⟨g, 3, none⟩ = some a3 ∧ w.cell? ⟨g, 4, none⟩ = some a4 ∧ w.cell? ⟨g, 5, none⟩ = some a5 :=
 ⟨by simpa using h.cell 0, by simpa using h.cell 1, by simpa using h.cell 2, by simpa using h.cell 3, by simpa using h.cell 4, by simpa using h.cell 5⟩
/-- What the document's sender's methods leave. -/
def RsPost (w : World) (base g : Nat) (bag que : Int) (v : Value) (went last nw : Int) (all : List ByteArray) (w' : World) : Prop :=
 ∃ v', Blk w' g 138 (rsC bag que v' went last nw) ∧ QAt w' base 9 v' (sv all) ∧ Kept2 w w' g v.ownBlock ∧ Own w w' v v'
theorem RsPost.same {w w' : World} {base g : Nat} {bag que : Int} {v : Value} {went last nw : Int} {all : List ByteArray} (hb : Blk w g 138 (rsC bag que v went last nw)) (hQ : QAt w base 9 v (sv all)) (hv : ∀ k, v.ownBlock = some k → k < w.heap.size) (hB : Below w.heap.size w w') : RsPost w base g bag que v went last nw all w' :=
 ⟨v, hb.below hB hb.lt, hQ.below hB (Nat.le_refl _), Kept2.of_below hB _ _, fun k e => ⟨Nat.lt_of_lt_of_le (hv k e) hB.size, .inl e⟩⟩
section
variable {w w1 w2 : World} {bag que : Int} {g1 : Nat} {v1 : Value} {nx la nw : Int} {q : List ByteArray} {g2 : Nat} {v2 : Value} {went : Nat} {last nw2 : Int} {all : List ByteArray}
end
end
section
open Go.RowKit
set_option maxRecDepth 100000 in
theorem order_any (k : Nat) (w : World) (hk : k ≤ 100000) : Calls Tryz.prog 75 #[.int .i64 k] w fun e w' => e = .returned (.int .i64 (ordr k)) ∧ w' = w := by
 have HK := hide hk
 by_cases h0 : k = 0
 ·subst h0
  go_enter Tryz.func75, Tryz.ntmps75
  go_wp2_with fail
  go_ret
  exact ⟨rfl, rfl⟩
 ·obtain ⟨j, rfl⟩ : ∃ j, k = j + 1 := ⟨k - 1, by omega⟩
  have d1 : ((j : Int) + 1 == 0) = false := by rw [beq_eq_false_iff_ne]; omega
  have hr : ordr (j + 1) = (j : Int) % 255 + 1 := by unfold ordr; rw [if_neg h0, Nat.add_sub_cancel]; push_cast; rfl
  rw [hr]
  clear h0 hr
  have hj : j ≤ 100000 := by omega
  go_enter Tryz.func75, Tryz.ntmps75
  go_wp2_with fail
  go_ret
  exact ⟨ret_int (by simp), rfl⟩
section
variable (g base : Nat) (bag que : Int) (v : Value) (went : Nat) (last nw : Int) (all : List ByteArray)
set_option maxRecDepth 100000 in
set_option maxHeartbeats 2000000 in
theorem rput_any (w : World) (d : ByteArray) (e : Int) (he : Hid (putE d.size (all.length - went) que = e)) (hb : Blk w g 138 (rsC bag que v went last nw)) (hQ : QAt w base 9 v (sv all)) (hv : ∀ k, v.ownBlock = some k → k < w.heap.size) (hg : v.ownBlock ≠ some g) (hbase : base ≤ w.heap.size) (hd : d.size ≤ maxLen) (hq : all.length ≤ 1000) (hw : went ≤ all.length) :
 Calls Tryz.prog 21 #[.pointer (some ⟨g, 0, none⟩), .string d] w fun r w' => r = .returned (.int .i64 e) ∧ RsPost w base g bag que v went last nw (putQ all d e) w' := by
 have q1 := he.out
 unfold putE at q1
 unfold maxLen at hd
 by_cases h1 : 40 < d.size
 ·have d1 : decide ((40 : Int) < (d.size : Int)) = true := decide_eq_true (by omega)
  rw [if_pos h1] at q1
  subst q1
  have HP := hide (RsPost.same hb hQ hv (Below.refl _ _))
  clear h1 he hb hQ hv hd hq hw
  go_enter Tryz.func21, Tryz.ntmps21
  go_wp2_with fail
  go_ret
  exact ⟨rfl, by rw [putQ_no _ _ (by decide)]; exact HP.out⟩
 ·have d1 : decide ((40 : Int) < (d.size : Int)) = false := decide_eq_false (by omega)
  rw [if_neg h1] at q1
  obtain ⟨ao, c, hvv, hlc⟩ := hQ.shape
  obtain ⟨c0, c1, c2, c3, c4, c5⟩ := hb.cellsV6
  rw [sv_len] at hvv hlc
  have hdif : ((all.length - went : Nat) : Int) = (all.length : Int) - (went : Int) := by omega
  rw [hdif] at q1
  clear hdif
  by_cases h2 : que ≤ (all.length : Int) - (went : Int)
  ·have d2 : decide (que ≤ (all.length : Int) - (went : Int)) = true := decide_eq_true h2
   rw [if_pos h2] at q1
   subst q1
   have HP := hide (fun w' hB => RsPost.same (w' := w') hb hQ hv hB)
   subst hvv
   clear h1 h2 he hb hQ hv hd hlc
   go_enter Tryz.func21, Tryz.ntmps21
   go_wp2_with fail
   go_quiet (fail)
   go_wp2_with fail
   go_ret
   exact ⟨rfl, by rw [putQ_no _ _ (by decide)]; exact HP.out _ (below_drewN (Below.refl _ _) _)⟩
  ·have d2 : decide (que ≤ (all.length : Int) - (went : Int)) = false := decide_eq_false h2
   rw [if_neg h2] at q1
   subst q1
   subst hvv
   have HB := hide hb; have HQ := hide hQ; have HV := hide hv; have HG := hide hg; have HBA := hide hbase; have HL := hide hq
   obtain ⟨i0, hi, hz0, hz1, hz2⟩ := vs_info_parts str_info
   clear h1 h2 he hb hQ hv hd hlc hbase hg
   go_enter Tryz.func21, Tryz.ntmps21
   go_wp2_with fail
   go_quiet (fail)
   go_wp2_with (at_builtin; go_must (refine wpList_append_q _ rfl (.tmp 27) (.tmp 29) _ rfl base 9 i0 _ 16 Tryz.underlying136 hi hz0 hz1 hz2 rfl (.slice ao all.length c) (sv all) rfl (by exact (HQ.out.drewN _).alloc _) w.heap.size 0 1 (.string d) rfl (by exact (Blk.new (w.drewN _) 9 #[.string d]).cells1.1) rfl (by have := HL.out; simp [maxLen, sv_len]; omega) (by have := HL.out; simp [sv_len]; omega) (by have := HBA.out; simp; omega) ?_); intro g1 o1 cap1 w3 hQ3 hgr ho hb1 hlt1; have HQ3 := hide hQ3; have HB3 := hide (((HB.out.drewN _).alloc _).grown hgr (fun e => HG.out e.symm)); have HK3 := hide ((((Kept2.refl w g (Value.slice ao all.length c).ownBlock).drewN _).alloc _).grown_vb hgr); have HO := hide ho; have HL1 := hide hlt1; have hf := HB3.out.frozen 2; obtain ⟨_, _, e4, _, _, _⟩ := HB3.out.cellsV6; clear hQ3 hgr ho hb1 hlt1)
   go_ret
   have hne : (Value.slice (some ⟨g1, o1, none⟩) ((sv all).length + 1) cap1).ownBlock ≠ some g := by
    intro e
    simp [Value.ownBlock] at e
    subst e
    rcases HO.out with h | h
    ·exact HG.out h
    ·have := HB.out.lt; simp at h; omega
   refine ⟨rfl, _, HB3.out.set_ 2 _, ?_, HK3.out.set_ 2 _, ?_⟩
   ·rw [putQ_zero, sv_snoc]
    exact QAt.far (p := ⟨g, 2, none⟩) HQ3.out hne _
   ·intro k e
    simp [Value.ownBlock] at e
    subst e
    refine ⟨by simpa [World.setCell] using HL1.out, ?_⟩
    rcases HO.out with h | h
    ·exact .inl h
    ·right; simp at h; omega
/-- What Send leaves. -/
def RnPost (w : World) (base g : Nat) (bag que : Int) (v : Value) (went : Nat) (last nw : Int) (all : List ByteArray) (now e : Int) (r : Ending) (w' : World) : Prop :=
 (e ≠ 0 ∧ r = .returned (.tuple #[.int .i64 0, .string ⟨#[]⟩, .int .i64 e]) ∧ RsPost w base g bag que v went last (sdN e now nw) all w') ∨
 (e = 0 ∧ ∃ d, all[went]? = some d ∧ r = .returned (.tuple #[.int .i64 (ordr went), .string d, .int .i64 0]) ∧ RsPost w base g bag que v ((went + 1 : Nat) : Int) now now all w')
set_option maxRecDepth 100000 in
set_option maxHeartbeats 2000000 in
theorem rsend_any (w : World) (now : Int) (e : Int) (he : Hid (rsE now last nw bag went all.length = e)) (hb : Blk w g 138 (rsC bag que v went last nw)) (hQ : QAt w base 9 v (sv all)) (hv : ∀ k, v.ownBlock = some k → k < w.heap.size) (hg : v.ownBlock ≠ some g) (hla : 0 ≤ last ∧ last ≤ 1099511627776) (hbag : 1 ≤ bag ∧ bag ≤ 1099511627776) (hq : all.length ≤ 1000) (hw : went ≤ all.length) :
 Calls Tryz.prog 51 #[.pointer (some ⟨g, 0, none⟩), .int .i64 now] w fun r w' =>
  RnPost w base g bag que v went last nw all now e r w' := by
 have q1 := he.out
 unfold rsE at q1
 obtain ⟨ao, c, hvv, hlc⟩ := hQ.shape
 obtain ⟨c0, c1, c2, c3, c4, c5⟩ := hb.cellsV6
 rw [sv_len] at hvv hlc
 by_cases h1 : now < 0 ∨ 1099511627776 < now
 ·have d1 : inB now 0 1099511627776 = false := by unfold inB; simp; omega
  rw [if_pos h1] at q1
  subst q1
  have HP := hide (fun w' hB => RsPost.same (w' := w') hb hQ hv hB)
  clear h1 he hb hQ hv hq hw
  go_enter Tryz.func51, Tryz.ntmps51
  go_wp2_with fail
  refine (in_is now 0 1099511627776 false d1 _).mono ?_
  rintro e w2 ⟨rfl, rfl⟩
  go_wp2_with fail
  go_ret3
  exact Or.inl ⟨by decide, rfl, HP.out _ (Below.refl _ _)⟩
 ·have d1 : inB now 0 1099511627776 = true := by unfold inB; simp; omega
  rw [if_neg h1] at q1
  have hnow : 0 ≤ now ∧ now ≤ 1099511627776 := by omega
  by_cases h2 : now < nw
  ·have d2 : decide (now < nw) = true := decide_eq_true h2
   rw [if_pos h2] at q1
   subst q1
   have HP := hide (fun w' hB => RsPost.same (w' := w') hb hQ hv hB)
   clear h1 h2 he hb hQ hv hq hw
   go_enter Tryz.func51, Tryz.ntmps51
   go_wp2_with fail
   refine (in_is now 0 1099511627776 true d1 _).mono ?_
   rintro e w2 ⟨rfl, rfl⟩
   go_wp2_with fail
   go_ret3
   exact Or.inl ⟨by decide, rfl, HP.out _ (Below.refl _ _)⟩
  ·have d2 : decide (now < nw) = false := decide_eq_false h2
   rw [if_neg h2] at q1
   obtain ⟨W1, hW1⟩ : ∃ W1, W1 = w.setCell ⟨g, 5, none⟩ (.int .i64 now) := ⟨_, rfl⟩
   have hB1 : Blk W1 g 138 (rsC bag que v went last now) := by rw [hW1]; exact hb.set_ 5 _
   have hQ1 : QAt W1 base 9 v (sv all) := by rw [hW1]; exact hQ.far (p := ⟨g, 5, none⟩) hg _
   have hK1 : Kept2 w W1 g v.ownBlock := by rw [hW1]; exact (Kept2.refl w g _).set_ 5 _
   have hfz := hb.frozen 5
   have HB1 := hide hB1; have HQ1 := hide hQ1; have HK1 := hide hK1; have HV := hide hv; have HG := hide hg; have HLT := hide hb.lt
   clear h1 h2 he hb hQ hv hQ1 hK1 hg
   obtain ⟨b, hbb⟩ : ∃ b : Bool, decide (went = all.length ∨ (0 < went ∧ now < last + bag)) = b := ⟨_, rfl⟩
   go_enter Tryz.func51, Tryz.ntmps51
   go_wp2_with fail
   refine (in_is now 0 1099511627776 true d1 _).mono ?_
   rintro e w2 ⟨rfl, rfl⟩
   go_wp2_with fail
   rw [← hW1]
   clear hW1 c0 c1 c2 c3 c4 c5 hfz
   obtain ⟨c0, c1, c2, c3, c4, c5⟩ := hB1.cellsV6
   clear hB1
   go_upto_region 6 with fail
   go_cut [49] from 20 to 49 (fun v wx => v = .bool b ∧ ∃ n, wx = W1.drewN n)
   case first =>
    subst hvv
    by_cases e1 : went = all.length
    ·obtain rfl : true = b := by rw [← hbb]; simp [e1]
     have d3 : ((went : Int) == (all.length : Int)) = true := by rw [e1]; simp
     clear e1 hbb
     go_quiet (fail)
     go_wp2_with fail
     go_meet
     case rel => exact ⟨rfl, _, rfl⟩
    ·have d3 : ((went : Int) == (all.length : Int)) = false := by rw [beq_eq_false_iff_ne]; omega
     by_cases e2 : 0 < went
     ·have d4 : decide ((0 : Int) < (went : Int)) = true := decide_eq_true (by omega)
      have d4' : decide (0 < went) = true := decide_eq_true (by omega)
      have d5 : decide (now < last + bag) = b := by rw [← hbb]; apply decide_eq_decide.2; omega
      clear e1 e2 hbb
      go_quiet (fail)
      go_wp2_with fail
      go_meet
      case rel => exact ⟨rfl, _, rfl⟩
     ·have d4 : decide ((0 : Int) < (went : Int)) = false := decide_eq_false (by omega)
      have d4' : decide (0 < went) = false := decide_eq_false (by omega)
      obtain rfl : false = b := by rw [← hbb]; symm; apply decide_eq_false; omega
      clear e1 e2 hbb
      go_quiet (fail)
      go_wp2_with fail
      go_meet
      case rel => exact ⟨rfl, _, rfl⟩
   case rest =>
    obtain ⟨rfl, nq, rfl⟩ := hcut
    have HB2 := hide (HB1.out.drewN nq); have HQ2 := hide (HQ1.out.drewN nq); have HK2 := hide (HK1.out.drewN nq)
    obtain ⟨W2, hW2⟩ : ∃ W2, W2 = W1.drewN nq := ⟨_, rfl⟩
    rw [← hW2] at HB2 HQ2 HK2 ⊢
    clear hW2 HB1 HQ1 HK1 c0 c1 c2 c3 c4 c5
    obtain ⟨c0, c1, c2, c3, c4, c5⟩ := HB2.out.cellsV6
    have hns : sdN 8 now nw = now := by unfold sdN; rw [if_neg (by decide)]
    cases b
    case true =>
     have hE := of_decide_eq_true hbb
     rw [if_pos hE] at q1
     subst q1
     clear hbb hE
     go_wp2_with fail
     go_ret3
     exact Or.inl ⟨by decide, rfl, by rw [hns]; exact ⟨v, HB2.out, HQ2.out, HK2.out, fun k e => ⟨Nat.lt_of_lt_of_le (HV.out k e) HK2.out.size, .inl e⟩⟩⟩
    case false =>
     have hE := of_decide_eq_false hbb
     rw [if_neg hE] at q1
     subst q1
     have hlt : went < all.length := by omega
     have hgo : all[went]? = some all[went] := List.getElem?_eq_getElem hlt
     obtain ⟨d, hd⟩ : ∃ d, all[went] = d := ⟨_, rfl⟩
     rw [hd] at hgo
     have HD := hide hgo
     clear hbb hE hns hd hgo
     subst hvv
     obtain ⟨gq, off, rfl, hbq, hlq, hcq⟩ := HQ2.out.block (by omega)
     have hcell : W2.cell? ⟨gq, off + went, none⟩ = some (.string d) := by rw [hcq went hlt]; simp [sv, HD.out]
     have HBQ := hide hbq; have HCQ := hide hcq
     have f3 := HB2.out.frozen 3; have f4 := HB2.out.frozen 4
     have hgq : g ≠ gq := by rintro rfl; exact HG.out rfl
     have hgq2 : gq ≠ g := Ne.symm hgq
     clear hbq hcq
     go_upto_region 10 with fail
     have HB3 := hide (show Blk ((W2.setCell ⟨g, 4, none⟩ (.int .i64 now)).setCell ⟨g, 3, none⟩ (.int .i64 ((went : Int) + 1))) g 138 (rsC bag que (.slice (some ⟨gq, off, none⟩) all.length c) ((went : Int) + 1) now now) from (HB2.out.set_ 4 _).set_ 3 _)
     have HQ3 := hide ((HQ2.out.far (p := ⟨g, 4, none⟩) HG.out (.int .i64 now)).far (p := ⟨g, 3, none⟩) HG.out (.int .i64 ((went : Int) + 1)))
     have HK3 := hide ((HK2.out.set_ 4 (.int .i64 now)).set_ 3 (.int .i64 ((went : Int) + 1)))
     obtain ⟨W3, hW3⟩ : ∃ W3, W3 = (W2.setCell ⟨g, 4, none⟩ (.int .i64 now)).setCell ⟨g, 3, none⟩ (.int .i64 ((went : Int) + 1)) := ⟨_, rfl⟩
     rw [← hW3] at HB3 HQ3 HK3 ⊢
     clear hW3 HB2 HQ2 HK2 c0 c1 c2 c3 c4 c5 hcell f3 f4
     obtain ⟨gq', off', e', _, _, hcq⟩ := HQ3.out.block (by omega)
     cases e'
     have hcell : W3.cell? ⟨gq, off + went, none⟩ = some (.string d) := by rw [hcq went hlt]; simp [sv, HD.out]
     obtain ⟨c0, c1, c2, c3, c4, c5⟩ := HB3.out.cellsV6
     have hi1 : (went : Int) < (all.length : Int) := by omega
     have hi2 : (0 : Int) ≤ (went : Int) := by omega
     have hw1 : (went : Int) + 1 - 1 = (went : Int) := by omega
     have HO := hide (fun w0 => order_any went w0 (by omega))
     clear hcq
     go_quiet ((go_at_call 75; with_reducible exact Calls.quiet_of_same (HO.out _)))
     go_wp2_with fail
     go_ret3
     exact Or.inr ⟨rfl, d, HD.out, rfl, ⟨_, HB3.out.drewN _, HQ3.out.drewN _, HK3.out.drewN _, fun k e => ⟨Nat.lt_of_lt_of_le (HV.out k e) HK3.out.size, .inl e⟩⟩⟩
end
end
section
open Go Go.RowKit
/-- An object: its blocks, and that it lies there. -/
structure GO where
 foot : List Nat
 At : World → Prop
 keep : ∀ {w w' : World}, At w → (∀ k, k < w.heap.size → k ∈ foot → w'.heap[k]? = w.heap[k]?) → At w'
def GO.none : GO := ⟨[], fun _ => True, fun _ _ => trivial⟩
def GO.blk (g : Nat) (t : TypeId) (cs : Array Value) : GO := ⟨[g], fun w => Blk w g t cs, fun h hk => (hk _ h.lt (by simp)).trans h⟩
def GO.arr (base : Nat) (t : TypeId) (v : Value) (l : List Value) : GO := ⟨v.ownBlock.toList, fun w => QAt w base t v l, fun h hk => h.keep (fun g _ hlt e => hk g hlt (by simp [e]))⟩
def GO.mp (g : Nat) (l : List KV) : GO := ⟨[g], fun w => MapP w g l, fun h hk => h.keep (hk _ h.lt (by simp))⟩
def GO.mem (g gt id n m : Nat) (good bad : Int) (fz : Bool) : GO := ⟨[g, gt], fun w => Blk w g 95 (refC id n gt good bad fz) ∧ Blk w gt 4 (tkB n (m.testBit ·)) ∧ g ≠ gt, fun h hk => ⟨(hk _ h.1.lt (by simp)).trans h.1, (hk _ h.2.1.lt (by simp)).trans h.2.1, h.2.2⟩⟩
def GO.snd (base g : Nat) (v : Value) (bag que : Int) (went last nw : Int) (all : List ByteArray) : GO := ⟨g :: v.ownBlock.toList, fun w => Blk w g 138 (rsC bag que v went last nw) ∧ QAt w base 9 v (sv all) ∧ v.ownBlock ≠ some g, fun h hk => ⟨(hk _ h.1.lt (by simp)).trans h.1, h.2.1.keep (fun g _ hlt e => hk g hlt (by simp [e])), h.2.2⟩⟩
/-- Objects that lie each in blocks of its own. -/
structure GFam {ι : Type} (w : World) (base : Nat) (S : ι → GO) : Prop where
 at_ : ∀ x, (S x).At w
 own : ∀ x k, k ∈ (S x).foot → base ≤ k ∧ k < w.heap.size
 sep : ∀ x y k, k ∈ (S x).foot → k ∈ (S y).foot → x = y
def putG {ι : Type} [DecidableEq ι] (S : ι → GO) (x : ι) (o : GO) : ι → GO := fun y => if y = x then o else S y
def Gmy {ι : Type} (S : ι → GO) (k : Nat) : Prop := ∃ x, k ∈ (S x).foot
section
variable {ι : Type} [DecidableEq ι] {w w' w2 : World} {base : Nat} {S S' S2 : ι → GO}
@[simp] theorem putG_self (x : ι) (o : GO) : putG S x o x = o := by simp [putG]
theorem putG_ne {x y : ι} (o : GO) (h : y ≠ x) : putG S x o y = S y := by simp [putG, h]
omit [DecidableEq ι] in
theorem GFam.keepF (h : GFam w base S) (hs : w.heap.size ≤ w'.heap.size) (hk : ∀ i, i < w.heap.size → Gmy S i → w'.heap[i]? = w.heap[i]?) : GFam w' base S :=
 ⟨fun x => (S x).keep (h.at_ x) (fun k hk' hf => hk k hk' ⟨x, hf⟩), fun x k hm => ⟨(h.own x k hm).1, Nat.lt_of_lt_of_le (h.own x k hm).2 hs⟩, h.sep⟩
omit [DecidableEq ι] in
theorem GFam.below (h : GFam w base S) (hB : Below w.heap.size w w') : GFam w' base S := h.keepF hB.size (fun i hi _ => hB.block i hi)
theorem GFam.upd (h : GFam w base S) (x : ι) (o : GO) (hk : KeptL w w' (S x).foot) (ha : o.At w') (hf : ∀ k, k ∈ o.foot → k < w'.heap.size ∧ (k ∈ (S x).foot ∨ w.heap.size ≤ k)) (hb : base ≤ w.heap.size) : GFam w' base (putG S x o) := by
 refine ⟨fun y => ?_, fun y k hm => ?_, fun y z k hy hz => ?_⟩
 ·by_cases e : y = x
  ·subst e; rw [putG_self]; exact ha
  ·rw [putG_ne _ e]
   exact (S y).keep (h.at_ y) (fun k hlt hm => hk.block k hlt (fun hx => e (h.sep y x k hm hx)))
 ·by_cases e : y = x
  ·subst e
   rw [putG_self] at hm
   obtain ⟨h1, h2⟩ := hf k hm
   rcases h2 with h2 | h2
   ·exact ⟨(h.own y k h2).1, h1⟩
   ·exact ⟨by omega, h1⟩
  ·rw [putG_ne _ e] at hm
   exact ⟨(h.own y k hm).1, Nat.lt_of_lt_of_le (h.own y k hm).2 hk.size⟩
 ·by_cases e : y = x
  ·by_cases e2 : z = x
   ·rw [e, e2]
   ·subst e
    rw [putG_self] at hy
    rw [putG_ne _ e2] at hz
    rcases (hf k hy).2 with h2 | h2
    ·exact h.sep y z k h2 hz
    ·have := (h.own z k hz).2; omega
  ·by_cases e2 : z = x
   ·subst e2
    rw [putG_self] at hz
    rw [putG_ne _ e] at hy
    rcases (hf k hz).2 with h2 | h2
    ·exact h.sep y z k hy h2
    ·have := (h.own y k hy).2; omega
   ·rw [putG_ne _ e] at hy
    rw [putG_ne _ e2] at hz
    exact h.sep y z k hy hz
/-- What a step on a family leaves. -/
structure KeptG {ι : Type} (w w' : World) (S S' : ι → GO) : Prop where
 os : w'.os = w.os
 tape : w'.tape = w.tape
 output : w'.output = w.output
 size : w.heap.size ≤ w'.heap.size
 block : ∀ i, i < w.heap.size → ¬ Gmy S i → w'.heap[i]? = w.heap[i]?
 fam : ∀ k, Gmy S' k → Gmy S k ∨ w.heap.size ≤ k
omit [DecidableEq ι] in
theorem KeptG.trans (h : KeptG w w' S S') (h2 : KeptG w' w2 S' S2) : KeptG w w2 S S2 :=
 ⟨h2.os.trans h.os, h2.tape.trans h.tape, h2.output.trans h.output, Nat.le_trans h.size h2.size,
  fun i hi hn => (h2.block i (Nat.lt_of_lt_of_le hi h.size) (fun hf => (h.fam i hf).elim hn (fun e => by omega))).trans (h.block i hi hn),
  fun k hf => (h2.fam k hf).elim (h.fam k) (fun e => .inr (Nat.le_trans h.size e))⟩
omit [DecidableEq ι] in
theorem KeptG.of_below (hB : Below w.heap.size w w') : KeptG w w' S S := ⟨hB.os, hB.tape, hB.output, hB.size, fun i hi _ => hB.block i hi, fun _ h => .inl h⟩
omit [DecidableEq ι] in
theorem KeptG.below (h : KeptG w w' S S') (hB : Below w'.heap.size w' w2) : KeptG w w2 S S' := h.trans (.of_below hB)
theorem KeptG.of_upd (x : ι) (o : GO) (hk : KeptL w w' (S x).foot) (hf : ∀ k, k ∈ o.foot → k ∈ (S x).foot ∨ w.heap.size ≤ k) : KeptG w w' S (putG S x o) := by
 refine ⟨hk.os, hk.tape, hk.output, hk.size, fun i hi hn => hk.block i hi (fun hm => hn ⟨x, hm⟩), ?_⟩
 rintro k ⟨y, hy⟩
 by_cases e : y = x
 ·subst e
  rw [putG_self] at hy
  exact (hf k hy).imp (fun h => ⟨_, h⟩) id
 ·rw [putG_ne _ e] at hy
  exact .inl ⟨y, hy⟩
omit [DecidableEq ι] in
theorem KeptG.old {w0 : World} (h : KeptG w w' S S') (ho : GFam w base S) (hB : Below base w0 w) (hb : base ≤ w.heap.size) : Below base w0 w' :=
 ⟨h.os.trans hB.os, h.tape.trans hB.tape, h.output.trans hB.output, Nat.le_trans hB.size h.size,
  fun i hi => (h.block i (by omega) (fun ⟨x, hx⟩ => by have := (ho.own x i hx).1; omega)).trans (hB.block i hi)⟩
omit [DecidableEq ι] in
theorem KeptG.not (h : KeptG w w' S S') {g : Nat} (hg : g < w.heap.size) (hn : ¬ Gmy S g) : ¬ Gmy S' g := fun hf => (h.fam g hf).elim hn (fun e => by omega)
omit [DecidableEq ι] in
theorem GFam.not_new (h : GFam w base S) {g : Nat} (hg : w.heap.size ≤ g) : ¬ Gmy S g := fun ⟨x, hx⟩ => by have := (h.own x g hx).2; omega
omit [DecidableEq ι] in
theorem GFam.far (h : GFam w base S) {p : Addr} (hp : ¬ Gmy S p.block) (v : Value) : GFam (w.setCell p v) base S :=
 h.keepF (by simp [World.setCell]) (fun i hi hf => Below.heap_setCell w p v i (fun e => hp (e ▸ hf)))
theorem GFam.step (h : GFam w base S) (x : ι) (o : GO) (hk : KeptL w w' (S x).foot) (ha : o.At w') (hf : ∀ k, k ∈ o.foot → k < w'.heap.size ∧ (k ∈ (S x).foot ∨ w.heap.size ≤ k)) (hb : base ≤ w.heap.size) : GFam w' base (putG S x o) ∧ KeptG w w' S (putG S x o) :=
 ⟨h.upd x o hk ha hf hb, .of_upd x o hk (fun k hm => (hf k hm).2)⟩
theorem GFam.add (h : GFam w base S) (x : ι) (o : GO) (hB : Below w.heap.size w w') (ha : o.At w') (hf : ∀ k, k ∈ o.foot → k < w'.heap.size ∧ w.heap.size ≤ k) (hb : base ≤ w.heap.size) : GFam w' base (putG S x o) ∧ KeptG w w' S (putG S x o) :=
 h.step x o (below_toL hB _) ha (fun k hm => ⟨(hf k hm).1, .inr (hf k hm).2⟩) hb
/-- A cell of a block. -/
theorem GFam.setBlk (h : GFam w base S) (x : ι) {g : Nat} {t : TypeId} {cs : Array Value} (hx : S x = .blk g t cs) (i : Nat) (u : Value) (hb : base ≤ w.heap.size) : GFam (w.setCell ⟨g, i, none⟩ u) base (putG S x (.blk g t (cs.setIfInBounds i u))) ∧ KeptG w (w.setCell ⟨g, i, none⟩ u) S (putG S x (.blk g t (cs.setIfInBounds i u))) := by
 have hbk : Blk w g t cs := by have := h.at_ x; rw [hx] at this; exact this
 refine h.step x _ ?_ (hbk.set_ i u) (fun k hm => ?_) hb
 ·rw [hx]
  exact ⟨rfl, rfl, rfl, by simp [World.setCell], fun k hk hn => Below.heap_setCell w _ u k (by simpa [GO.blk] using hn)⟩
 ·rw [hx]
  simp only [GO.blk, List.mem_singleton] at hm
  subst hm
  exact ⟨by simpa [World.setCell] using hbk.lt, .inl (by simp [GO.blk])⟩
end
end
section
open Go Go.RowKit
/-- Where the document's cluster's parts lie. -/
structure Ad2 where
 g : Nat
 ck : Value
 nd : Value
 lk : Value
 gm : Nat → Nat
 gt : Nat → Nat
 gs : Nat → Nat
 vs : Nat → Value
 al : Nat → List ByteArray
 wt : Nat → Nat
 ls : Nat → Int
 tm : Nat
 kt : List KV
 gk : Nat → Nat → Nat
 pm : Nat
 kp : List KV
 vp : Nat → Nat → Value
inductive Ix2 where
 | clu | nums | nodA | nod (i : Nat) | lnkA | lnk (k : Nat) | takM | tak (k i : Nat) | prtM | prt (k i : Nat)
 deriving DecidableEq
def rclC (p : Pl) (P : Sv3) (fy : Nat) (ck nd lk : Value) (tm pm : Nat) (rd : Int) : Array Value := #[.int .i64 p.nd, .int .i64 p.fa, .int .i64 p.sk, .int .i64 p.ji, .int .i64 p.dr, .int .i64 p.rd, P.s, P.l, .int .i64 p.fr, P.q, .int .i64 fy, ck, nd, lk, .map (some tm), .map (some pm), .int .i64 rd]
def dshape (base : Nat) (a : Ad2) (n : Cn) (p : Pl) (P : Sv3) (fy : Nat) (c : Cl) : Ix2 → GO
 | .clu => .blk a.g 83 (rclC p P fy a.ck a.nd a.lk a.tm a.pm c.rd)
 | .nums => .arr base 3 a.ck (c.ck.map (Value.int .i64))
 | .nodA => .arr base 92 a.nd ((List.range n.nm).map fun i => ptrV (a.gm i))
 | .nod i => if i < n.nm then .mem (a.gm i) (a.gt i) i p.nd.toNat (c.mm i).m (c.mm i).gd (c.mm i).bd (c.mm i).fz else .none
 | .lnkA => .arr base 84 a.lk ((List.range n.ns).map fun k => ptrV (a.gs k))
 | .lnk k => if k < n.ns then (match p.lk[k]? with | none => .none | some l => .snd base (a.gs k) (a.vs k) l.b l.q (a.wt k) (a.ls k) (c.sd k).nw (a.al k)) else .none
 | .takM => .mp a.tm a.kt
 | .tak k i => if i < n.nk k then .blk (a.gk k i) 141 #[.int .i64 (c.tk k i).nw, .int .i64 (c.tk k i).c0, .int .i64 (c.tk k i).c1] else .none
 | .prtM => .mp a.pm a.kp
 | .prt k i => .arr base 9 (a.vp k i) (sv (c.pr k i).q)
/-- What the parts have to do with each other. -/
structure DRel (a : Ad2) (n : Cn) (c : Cl) (M : Nat) : Prop where
 sd : ∀ k, k < n.ns → VsRel (a.al k) (a.wt k) (a.ls k) (c.sd k).nw (c.sd k).q (c.sd k).nx (c.sd k).la
 al : ∀ k, k < n.ns → (a.al k).length ≤ M
 tk : ∀ k i, i < n.nk k → valK k i a.kt = some (ptrV (a.gk k i))
 pr : ∀ k i, (valK k i a.kp).getD (.slice none 0 0) = a.vp k i
/-- The document's cluster lies in memory. -/
structure DcAt (w : World) (base : Nat) (a : Ad2) (n : Cn) (p : Pl) (P : Sv3) (fy : Nat) (c : Cl) (M : Nat) : Prop where
 fam : GFam w base (dshape base a n p P fy c)
 rel : DRel a n c M
/-- A step. -/
def DcTo (w : World) (base : Nat) (a : Ad2) (n : Cn) (p : Pl) (P : Sv3) (fy : Nat) (c : Cl) (w' : World) (c' : Cl) (M' : Nat) : Prop := ∃ a' : Ad2, a'.g = a.g ∧ DcAt w' base a' n p P fy c' M' ∧ KeptG w w' (dshape base a n p P fy c) (dshape base a' n p P fy c')
section
variable {a a1 : Ad2} {n : Cn} {p : Pl} {P : Sv3} {fy M M1 M2 : Nat} {c c1 c2 : Cl} {w w' w2 : World} {base : Nat}
theorem DcAt.below (h : DcAt w base a n p P fy c M) (hB : Below w.heap.size w w') : DcAt w' base a n p P fy c M := ⟨h.fam.below hB, h.rel⟩
theorem DcTo.refl (h : DcAt w base a n p P fy c M) (hB : Below w.heap.size w w') : DcTo w base a n p P fy c w' c M := ⟨a, rfl, h.below hB, .of_below hB⟩
/-- What changes at one place. -/
theorem dshape_nod {i : Nat} (hi : i < n.nm) (x : Mm) : putG (dshape base a n p P fy c) (.nod i) (.mem (a.gm i) (a.gt i) i p.nd.toNat x.m x.gd x.bd x.fz) = dshape base a n p P fy { c with mm := updF c.mm i x } := by
 funext y
 cases y with
 | nod j =>
  by_cases e : j = i
  ·subst e; simp [dshape, updF, hi]
  ·rw [putG_ne _ (by simpa using e)]; simp [dshape, updF, e]
 | _ => rw [putG_ne _ (by simp)]; rfl
theorem dshape_tak {k i : Nat} (hi : i < n.nk k) (x : Tk) : putG (dshape base a n p P fy c) (.tak k i) (.blk (a.gk k i) 141 #[.int .i64 x.nw, .int .i64 x.c0, .int .i64 x.c1]) = dshape base a n p P fy { c with tk := upd2 c.tk k i x } := by
 funext y
 cases y with
 | tak k2 j =>
  by_cases e : k2 = k ∧ j = i
  ·obtain ⟨rfl, rfl⟩ := e; simp [dshape, upd2, hi]
  ·rw [putG_ne _ (by simpa using e)]; simp [dshape, upd2, e]
 | _ => rw [putG_ne _ (by simp)]; rfl
theorem dshape_lnk {k : Nat} {l : Lk} (hi : k < n.ns) (hl : p.lk[k]? = some l) (v : Value) (al : List ByteArray) (wt : Nat) (ls : Int) (x : Sd) : putG (dshape base a n p P fy c) (.lnk k) (.snd base (a.gs k) v l.b l.q wt ls x.nw al) = dshape base { a with vs := updF a.vs k v, al := updF a.al k al, wt := updF a.wt k wt, ls := updF a.ls k ls } n p P fy { c with sd := updF c.sd k x } := by
 funext y
 cases y with
 | lnk j =>
  by_cases e : j = k
  ·subst e; simp [dshape, updF, hi, hl]
  ·rw [putG_ne _ (by simpa using e)]; simp [dshape, updF, e]
 | _ => rw [putG_ne _ (by simp)]; rfl
theorem dshape_prt (k i : Nat) (v : Value) (l : List KV) (x : Pr) : putG (putG (dshape base a n p P fy c) (.prt k i) (.arr base 9 v (sv x.q))) .prtM (.mp a.pm l) = dshape base { a with vp := upd2 a.vp k i v, kp := l } n p P fy { c with pr := upd2 c.pr k i x } := by
 funext y
 cases y with
 | prt k2 j =>
  rw [putG_ne _ (by simp)]
  by_cases e : k2 = k ∧ j = i
  ·obtain ⟨rfl, rfl⟩ := e; simp [dshape, upd2]
  ·rw [putG_ne _ (by simpa using e)]; simp [dshape, upd2, e]
 | prtM => simp [dshape]
 | _ => rw [putG_ne _ (by simp), putG_ne _ (by simp)]; rfl
theorem DcAt.cluB (h : DcAt w base a n p P fy c M) : Blk w a.g 83 (rclC p P fy a.ck a.nd a.lk a.tm a.pm c.rd) := h.fam.at_ .clu
theorem DcAt.nodB (h : DcAt w base a n p P fy c M) {i : Nat} (hi : i < n.nm) : Blk w (a.gm i) 95 (refC i p.nd.toNat (a.gt i) (c.mm i).gd (c.mm i).bd (c.mm i).fz) ∧ Blk w (a.gt i) 4 (tkB p.nd.toNat ((c.mm i).m.testBit ·)) ∧ a.gm i ≠ a.gt i := by
 have := h.fam.at_ (.nod i)
 simpa [dshape, hi, GO.mem] using this
theorem DcAt.takB (h : DcAt w base a n p P fy c M) {k i : Nat} (hi : i < n.nk k) : Blk w (a.gk k i) 141 #[.int .i64 (c.tk k i).nw, .int .i64 (c.tk k i).c0, .int .i64 (c.tk k i).c1] := by
 have := h.fam.at_ (.tak k i)
 simpa [dshape, hi, GO.blk] using this
theorem DcAt.lnkB (h : DcAt w base a n p P fy c M) {k : Nat} {l : Lk} (hi : k < n.ns) (hl : p.lk[k]? = some l) : Blk w (a.gs k) 138 (rsC l.b l.q (a.vs k) (a.wt k) (a.ls k) (c.sd k).nw) ∧ QAt w base 9 (a.vs k) (sv (a.al k)) ∧ (a.vs k).ownBlock ≠ some (a.gs k) ∧ ∀ b, (a.vs k).ownBlock = some b → b < w.heap.size := by
 have h1 := h.fam.at_ (.lnk k)
 have h2 := h.fam.own (.lnk k)
 simp only [dshape, hi, hl, GO.snd, if_true] at h1
 exact ⟨h1.1, h1.2.1, h1.2.2, fun b e => (h2 b (by simp [dshape, hi, hl, GO.snd, e])).2⟩
theorem DcAt.prtB (h : DcAt w base a n p P fy c M) (k i : Nat) : QAt w base 9 (a.vp k i) (sv (c.pr k i).q) ∧ ∀ b, (a.vp k i).ownBlock = some b → b < w.heap.size :=
 ⟨h.fam.at_ (.prt k i), fun b e => (h.fam.own (.prt k i) b (by simp [dshape, GO.arr, e])).2⟩
theorem DcAt.takM (h : DcAt w base a n p P fy c M) : MapP w a.tm a.kt := h.fam.at_ .takM
theorem DcAt.prtM (h : DcAt w base a n p P fy c M) : MapP w a.pm a.kp := h.fam.at_ .prtM
theorem DcAt.nodC (h : DcAt w base a n p P fy c M) {i : Nat} (hi : i < n.nm) : ∃ b off cp, a.nd = .slice (some ⟨b, off, none⟩) n.nm cp ∧ w.cell? ⟨b, off + i, none⟩ = some (ptrV (a.gm i)) := row_cell (h.fam.at_ .nodA) hi
theorem DcAt.lnkC (h : DcAt w base a n p P fy c M) {k : Nat} (hk : k < n.ns) : ∃ b off cp, a.lk = .slice (some ⟨b, off, none⟩) n.ns cp ∧ w.cell? ⟨b, off + k, none⟩ = some (ptrV (a.gs k)) := row_cell (h.fam.at_ .lnkA) hk
/-- A member. -/
theorem DcAt.nodTo (h : DcAt w base a n p P fy c M) {i : Nat} (hi : i < n.nm) (x : Mm) (hp : MrPost w (a.gm i) (a.gt i) (refC i p.nd.toNat (a.gt i) x.gd x.bd x.fz) p.nd.toNat (x.m.testBit ·) w') (hb : base ≤ w.heap.size) : DcTo w base a n p P fy c w' { c with mm := updF c.mm i x } M := by
 obtain ⟨h1, h2, h3⟩ := hp
 have hx : dshape base a n p P fy c (.nod i) = .mem (a.gm i) (a.gt i) i p.nd.toNat (c.mm i).m (c.mm i).gd (c.mm i).bd (c.mm i).fz := by simp [dshape, hi]
 obtain ⟨q1, q2⟩ := h.fam.step (.nod i) (.mem (a.gm i) (a.gt i) i p.nd.toNat x.m x.gd x.bd x.fz) (w' := w') (by rw [hx]; have := h3.toL; simpa [GO.mem] using this) ⟨h1, h2, (h.nodB hi).2.2⟩ (fun k hm => by
  rw [hx]
  simp only [GO.mem, List.mem_cons, List.not_mem_nil, or_false] at hm ⊢
  rcases hm with rfl | rfl
  ·exact ⟨h1.lt, .inl (.inl rfl)⟩
  ·exact ⟨h2.lt, .inl (.inr rfl)⟩) hb
 rw [dshape_nod hi] at q1 q2
 exact ⟨a, rfl, ⟨q1, h.rel.sd, h.rel.al, h.rel.tk, h.rel.pr⟩, q2⟩
/-- A receiver. -/
theorem DcAt.takTo (h : DcAt w base a n p P fy c M) {k i : Nat} (hi : i < n.nk k) (s : Int) (hb' : Blk w' (a.gk k i) 141 (takeSt s (c.tk k i).nw (c.tk k i).c0 (c.tk k i).c1)) (hg : w.grownBy w' (some (a.gk k i))) (hb : base ≤ w.heap.size) : DcTo w base a n p P fy c w' { c with tk := upd2 c.tk k i ((c.tk k i).take s) } M := by
 rw [Tk.takeC] at hb'
 have hx : dshape base a n p P fy c (.tak k i) = .blk (a.gk k i) 141 #[.int .i64 (c.tk k i).nw, .int .i64 (c.tk k i).c0, .int .i64 (c.tk k i).c1] := by simp [dshape, hi]
 obtain ⟨q1, q2⟩ := h.fam.step (.tak k i) (.blk (a.gk k i) 141 #[.int .i64 ((c.tk k i).take s).nw, .int .i64 ((c.tk k i).take s).c0, .int .i64 ((c.tk k i).take s).c1]) (w' := w') (by rw [hx]; exact grown_toL hg) hb' (fun k hm => by
  rw [hx]
  simp only [GO.blk, List.mem_singleton] at hm ⊢
  subst hm
  exact ⟨hb'.lt, .inl rfl⟩) hb
 rw [dshape_tak hi] at q1 q2
 exact ⟨a, rfl, ⟨q1, h.rel.sd, h.rel.al, h.rel.tk, h.rel.pr⟩, q2⟩
/-- A sender. -/
theorem DcAt.lnkTo (h : DcAt w base a n p P fy c M) {k : Nat} {l : Lk} (hk : k < n.ns) (hl : p.lk[k]? = some l) (x : Sd) {wt : Nat} {ls : Int} {al : List ByteArray} (hp : RsPost w base (a.gs k) l.b l.q (a.vs k) wt ls x.nw al w') (hr : VsRel al wt ls x.nw x.q x.nx x.la) {M' : Nat} (hM : M ≤ M') (hal : al.length ≤ M') (hb : base ≤ w.heap.size) : DcTo w base a n p P fy c w' { c with sd := updF c.sd k x } M' := by
 obtain ⟨v', h1, h2, h3, h4⟩ := hp
 obtain ⟨g1, g2, g3, g4⟩ := h.lnkB hk hl
 have hx : dshape base a n p P fy c (.lnk k) = .snd base (a.gs k) (a.vs k) l.b l.q (a.wt k) (a.ls k) (c.sd k).nw (a.al k) := by simp [dshape, hk, hl]
 obtain ⟨q1, q2⟩ := h.fam.step (.lnk k) (.snd base (a.gs k) v' l.b l.q wt ls x.nw al) (w' := w') (by rw [hx]; exact h3.toL) ⟨h1, h2, own_off g1.lt g3 h4⟩ (by rw [hx]; exact own_foot h1.lt h4) hb
 rw [dshape_lnk hk hl] at q1 q2
 refine ⟨{ a with vs := updF a.vs k v', al := updF a.al k al, wt := updF a.wt k wt, ls := updF a.ls k ls }, rfl, ⟨q1, fun j hj => ?_, fun j hj => ?_, h.rel.tk, h.rel.pr⟩, q2⟩
 ·dsimp only
  unfold updF
  by_cases e : j = k
  ·simp only [if_pos e]; exact hr
  ·simp only [if_neg e]; exact h.rel.sd j hj
 ·dsimp only
  unfold updF
  by_cases e : j = k
  ·rw [if_pos e]; exact hal
  ·rw [if_neg e]; exact Nat.le_trans (h.rel.al j hj) hM
/-- A port. -/
theorem DcAt.prtTo (h : DcAt w base a n p P fy c M) (k i : Nat) (x : Pr) {w1 : World} {v : Value} (hB : Below w.heap.size w w1) (hQ : QAt w1 base 9 v (sv x.q)) (hf : ∀ g, v.ownBlock = some g → g < w1.heap.size ∧ ((a.vp k i).ownBlock = some g ∨ w.heap.size ≤ g)) (hm : MapP w' a.pm (setK k i v a.kp)) (hg : w1.grownBy w' (some a.pm)) (hb : base ≤ w.heap.size) : DcTo w base a n p P fy c w' { c with pr := upd2 c.pr k i x } M := by
 obtain ⟨q1, q2⟩ := h.fam.step (.prt k i) (.arr base 9 v (sv x.q)) (w' := w1) (below_toL hB _) hQ (fun g hm => by
  simp only [GO.arr, Option.mem_toList, dshape] at hm ⊢
  exact ⟨(hf g hm).1, (hf g hm).2⟩) hb
 have hx : putG (dshape base a n p P fy c) (.prt k i) (.arr base 9 v (sv x.q)) .prtM = .mp a.pm a.kp := by rw [putG_ne _ (by simp)]; rfl
 obtain ⟨q3, q4⟩ := q1.step .prtM (.mp a.pm (setK k i v a.kp)) (w' := w') (by rw [hx]; exact grown_toL hg) hm (fun g hm' => by
  rw [hx]
  simp only [GO.mp, List.mem_singleton] at hm' ⊢
  subst hm'
  exact ⟨hm.lt, .inl rfl⟩) (Nat.le_trans hb hB.size)
 have q5 := q2.trans q4
 rw [dshape_prt] at q3 q5
 refine ⟨{ a with vp := upd2 a.vp k i v, kp := setK k i v a.kp }, rfl, ⟨q3, h.rel.sd, h.rel.al, h.rel.tk, fun k2 i2 => ?_⟩, q5⟩
 dsimp only
 rw [valK_set]
 unfold upd2
 split
 ·rfl
 ·exact h.rel.pr k2 i2
end
end
section
open Go Go.RowKit
attribute [local irreducible] liesB
/-- The greatest of all differences, or 0. -/
structure DifOk (zs : List Int) (k j : Nat) (R : Int) : Prop where
 h0 : 0 ≤ R
 hi : R ≤ 2000000000000000
 le : ∀ x y, x < k → y < zs.length → zs.getD x 0 - zs.getD y 0 ≤ R
 le2 : ∀ y, y < j → zs.getD k 0 - zs.getD y 0 ≤ R
 is : R = 0 ∨ ∃ x y, x < zs.length ∧ y < zs.length ∧ R = zs.getD x 0 - zs.getD y 0
theorem DifOk.start (zs : List Int) : DifOk zs 0 0 0 := ⟨by omega, by omega, fun x y h => by omega, fun y h => by omega, .inl rfl⟩
theorem DifOk.step {zs : List Int} {k j : Nat} {R : Int} (h : DifOk zs k j R) (hk : k < zs.length) (hj : j < zs.length) (hz : ∀ j, j < zs.length → -1000000000000000 ≤ zs.getD j 0 ∧ zs.getD j 0 ≤ 1000000000000000) : DifOk zs k (j + 1) (max R (zs.getD k 0 - zs.getD j 0)) := by
 have a := hz k hk
 have b := hz j hj
 refine ⟨by have := h.h0; omega, by have := h.hi; omega, fun x y hx hy => by have := h.le x y hx hy; omega, fun y hy => ?_, ?_⟩
 ·by_cases e : y = j
  ·subst e; omega
  ·have := h.le2 y (by omega); omega
 ·by_cases e : R ≤ zs.getD k 0 - zs.getD j 0
  ·exact .inr ⟨k, j, hk, hj, by omega⟩
  ·rcases h.is with h1 | ⟨x, y, h1, h2, h3⟩
   ·exact .inl (by omega)
   ·exact .inr ⟨x, y, h1, h2, by omega⟩
theorem DifOk.next {zs : List Int} {k : Nat} {R : Int} (h : DifOk zs k zs.length R) : DifOk zs (k + 1) 0 R := ⟨h.h0, h.hi, fun x y hx hy => by
 by_cases e : x = k
 ·subst e; exact h.le2 y hy
 ·exact h.le x y (by omega) hy, fun y hy => by omega, h.is⟩
theorem DifOk.is_ {zs : List Int} {R x y : Int} (h : DifOk zs zs.length 0 R) (ht : IsTop zs x) (hl : IsLow zs y) : R = x - y := by
 obtain ⟨⟨i, hi, rfl⟩, h1⟩ := ht
 obtain ⟨⟨j, hj, rfl⟩, h2⟩ := hl
 have := h.le i j hi hj
 rcases h.is with h3 | ⟨a, b, ha, hb, h3⟩
 ·have := h1 j hj; omega
 ·have := h1 a ha
  have := h2 b hb
  omega
theorem in_q (n lo hi : Int) (v : Bool) (hv : inB n lo hi = v) (w : World) : Calls Tryz.prog 43 #[.int .i64 n, .int .i64 lo, .int .i64 hi] w fun e w' => e = .returned (.bool v) ∧ w' = w :=
 (in_is n lo hi v hv w).mono fun e w' ⟨h1, h2⟩ => ⟨h1, h2.symm⟩
set_option maxRecDepth 100000 in
theorem cut_any (x m : Int) (w : World) (h0 : 0 ≤ m) (h1 : m ≤ 1000000000000000000) :
 Calls Tryz.prog 48 #[.int .i64 x, .int .i64 m] w fun e w' => e = .returned (.int .i64 (clampV x m)) ∧ w' = w := by
 go_enter Tryz.func48, Tryz.ntmps48
 go_wp2_with fail
 go_ret
 exact ⟨rfl, rfl⟩
set_option maxRecDepth 100000 in
set_option maxHeartbeats 1000000 in
theorem rspread_any (A : Option Addr) (c : Nat) (zs : List Int) (w : World) (hI : IsL w A zs) (hmax : zs.length ≤ 100) (hz : ∀ j, j < zs.length → -1000000000000000 ≤ zs.getD j 0 ∧ zs.getD j 0 ≤ 1000000000000000) :
 Calls Tryz.prog 55 #[.slice A zs.length c] w fun e w' => (∃ R, e = .returned (.int .i64 R) ∧ DifOk zs zs.length 0 R) ∧ w' = w := by
 obtain ⟨n, hn⟩ : ∃ n, zs.length = n := ⟨_, rfl⟩
 have HN := hide hn; have HI := hide hI; have HZ := hide hz
 rw [hn]
 rw [hn] at hmax
 clear hn hI hz
 go_enter Tryz.func55, Tryz.ntmps55
 go_wp2_with fail
 go_loopw [3, 10] (fun v3 v wr => ∃ (k : Nat) (R : Int), k ≤ n ∧ v = .int .i64 k ∧ v3 = .int .i64 R ∧ Hid (DifOk zs k 0 R) ∧ wr = w) (fun _ v _ => n - (intOf v).toNat)
 case atStart => exact ⟨0, 0, by omega, rfl, rfl, hide (DifOk.start zs), rfl⟩
 case round =>
  obtain ⟨k, R, hk, rfl, rfl, HD, rfl⟩ := hrel
  by_cases hlt : k < n
  ·obtain ⟨b, off, rfl, h0⟩ := HI.out k (by rw [HN.out]; exact hlt)
   obtain ⟨x, hx⟩ : ∃ x, zs.getD k 0 = x := ⟨_, rfl⟩
   have hxb := HZ.out k (by rw [HN.out]; exact hlt)
   rw [hx] at h0 hxb
   have HX := hide hx; clear hx
   go_wp2_with fail
   go_loopw [3, 16] (fun v3 v wx => ∃ (j : Nat) (R : Int), j ≤ n ∧ v = .int .i64 j ∧ v3 = .int .i64 R ∧ Hid (DifOk zs k j R) ∧ wx = wr) (fun _ v _ => n - (intOf v).toNat)
   case atStart => exact ⟨0, R, by omega, rfl, rfl, HD, rfl⟩
   case round =>
    obtain ⟨j, R, hj, rfl, rfl, HD, rfl⟩ := hrel
    by_cases hlj : j < n
    ·obtain ⟨b2, off2, e, h1⟩ := HI.out j (by rw [HN.out]; exact hlj)
     cases e
     obtain ⟨y, hy⟩ : ∃ y, zs.getD j 0 = y := ⟨_, rfl⟩
     have hyb := HZ.out j (by rw [HN.out]; exact hlj)
     rw [hy] at h1 hyb
     have HS := hide (HD.out.step (by rw [HN.out]; exact hlt) (by rw [HN.out]; exact hlj) HZ.out)
     rw [HX.out, hy] at HS
     clear hy
     go_wp2_with fail
     go_roundw
     case rel => exact ⟨j + 1, _, by omega, by go_num, rfl, HS, trivial⟩
     case measure => simp [intOf]; omega
    ·obtain rfl : j = n := by omega
     have HD2 := hide (show DifOk zs (k + 1) 0 R from DifOk.next (by have := HD.out; rw [← HN.out] at this; exact this))
     go_wp2_with fail
     go_roundw
     case rel => exact ⟨k + 1, R, by omega, by go_num, rfl, HD2, trivial⟩
     case measure => simp [intOf]; omega
  ·obtain rfl : k = n := by omega
   go_wp2_with fail
   go_ret
   exact ⟨⟨R, rfl, HD.out⟩, rfl⟩
section
variable {a : Ad2} {n : Cn} {p : Pl} {P : Sv3} {fy M : Nat} {c : Cl} {w : World} {base : Nat}
theorem rcl_cells {g : Nat} {t : TypeId} {ck nd lk : Value} {tm pm : Nat} {rd : Int} (h : Blk w g t (rclC p P fy ck nd lk tm pm rd)) : w.cell? ⟨g, 0, none⟩ = some (.int .i64 p.nd) ∧ w.cell? ⟨g, 1, none⟩ = some (.int .i64 p.fa) ∧ w.cell? ⟨g, 3, none⟩ = some (.int .i64 p.ji) ∧ w.cell? ⟨g, 4, none⟩ = some (.int .i64 p.dr) ∧ w.cell? ⟨g, 5, none⟩ = some (.int .i64 p.rd) ∧ w.cell? ⟨g, 6, none⟩ = some P.s ∧ w.cell? ⟨g, 7, none⟩ = some P.l ∧ w.cell? ⟨g, 10, none⟩ = some (.int .i64 fy) ∧ w.cell? ⟨g, 11, none⟩ = some ck ∧ w.cell? ⟨g, 12, none⟩ = some nd ∧ w.cell? ⟨g, 13, none⟩ = some lk ∧ w.cell? ⟨g, 14, none⟩ = some (.map (some tm)) ∧ w.cell? ⟨g, 15, none⟩ = some (.map (some pm)) ∧ w.cell? ⟨g, 16, none⟩ = some (.int .i64 rd) :=
 ⟨h.cell 0, h.cell 1, h.cell 3, h.cell 4, h.cell 5, h.cell 6, h.cell 7, h.cell 10, h.cell 11, h.cell 12, h.cell 13, h.cell 14, h.cell 15, h.cell 16⟩
set_option maxRecDepth 100000 in
theorem rlies_any {g : Nat} {ck nd lk : Value} {tm pm : Nat} {rd : Int} (hb : Blk w g 83 (rclC p P fy ck nd lk tm pm rd)) (hf : fy < 65536) (i : Nat) (hi : i < 17) :
 Calls Tryz.prog 45 #[.pointer (some ⟨g, 0, none⟩), .int .i64 i] w fun e w' => e = .returned (.bool (liesB fy i)) ∧ ∃ k, w' = w.drewN k := by
 obtain ⟨-, -, -, -, -, -, -, k10, -⟩ := rcl_cells hb
 have hm := and_pow_ne fy i hf hi
 have hl : liesB fy i = fy.testBit i := by unfold liesB; rfl
 have hne : (bits .and .i64 (fy : Int) (wrap64 (2 ^ i)) != 0) = fy.testBit i := by unfold bne; rw [hm, Bool.not_not]
 rw [hl]
 obtain ⟨x, hx⟩ : ∃ x, bits .and .i64 (fy : Int) (wrap64 (2 ^ i)) = x := ⟨_, rfl⟩
 rw [hx] at hne
 obtain ⟨y, hy⟩ : ∃ y, fy.testBit i = y := ⟨_, rfl⟩
 rw [hy] at hne ⊢
 obtain ⟨z, hz⟩ : ∃ z, wrap64 (2 ^ i) = z := ⟨_, rfl⟩
 rw [hz] at hx
 clear hb hm hl hy hf
 go_enter Tryz.func45, Tryz.ntmps45
 go_wp2_with fail
 go_quiet (fail)
 go_wp2_with fail
 go_ret
 exact ⟨rfl, _, rfl⟩
set_option maxRecDepth 100000 in
set_option maxHeartbeats 1000000 in
theorem rspr_any {g : Nat} {nd lk : Value} {tm pm : Nat} {rd : Int} {A : Option Addr} {cc : Nat} {zs : List Int} (hb : Blk w g 83 (rclC p P fy (.slice A zs.length cc) nd lk tm pm rd)) (hf : fy < 65536) (hI : IsL w A zs) (hmax : zs.length ≤ 16) (hz : ∀ j, j < zs.length → -1000000000000000 ≤ zs.getD j 0 ∧ zs.getD j 0 ≤ 1000000000000000) :
 Calls Tryz.prog 24 #[.pointer (some ⟨g, 0, none⟩)] w fun e w' => (∃ R, e = .returned (.int .i64 R) ∧ DifOk (honL fy zs zs.length) (honL fy zs zs.length).length 0 R) ∧ Below w.heap.size w w' := by
 obtain ⟨-, -, -, -, -, -, -, -, k11, -⟩ := rcl_cells hb
 have HI := hide hI; have HBK := hide hb; have HZ := hide hz
 clear hb hI hz
 obtain ⟨n, hn⟩ : ∃ n, zs.length = n := ⟨_, rfl⟩
 have HN := hide hn
 rw [hn] at hmax k11 HBK ⊢
 clear hn
 obtain ⟨i0, hi, hz0, hz1, hz2⟩ := en_info_parts ar_info
 go_enter Tryz.func24, Tryz.ntmps24
 go_wp2_with fail
 go_loopw [3, 11] (fun v3 i wr => ∃ k : Nat, k ≤ n ∧ i = .int .i64 k ∧ Hid (wr.ownsRow w.heap.size 3 1 v3 (honL fy zs k).length ((honL fy zs k).map (Value.int .i64))) ∧ Hid (Below w.heap.size w wr)) (fun _ i _ => n - (intOf i).toNat)
 case atStart => exact ⟨0, by omega, rfl, hide (World.ownsRow_nil _ _ _ _), hide (Below.refl _ _)⟩
 case round =>
  obtain ⟨k, hk, rfl, HO, HW⟩ := hrel
  by_cases hlt : k < n
  ·obtain ⟨b, off, rfl, h0⟩ := (HI.out.below (Nat.le_refl _) HW.out) k (by rw [HN.out]; exact hlt)
   obtain ⟨x, hx⟩ : ∃ x, zs.getD k 0 = x := ⟨_, rfl⟩
   rw [hx] at h0
   have HX := hide hx; clear hx
   have HL := hide (rlies_any (HBK.out.below HW.out HBK.out.lt) hf k (by omega))
   obtain ⟨y, hy⟩ : ∃ y, liesB fy k = y := ⟨_, rfl⟩
   rw [hy] at HL
   have HY := hide hy; clear hy
   go_wp2_with fail
   refine HL.out.mono ?_
   rintro e w2 ⟨rfl, kk, hw2⟩
   have HB2 : Hid (Below wr.heap.size wr w2) := hide (by rw [hw2]; exact below_drewN (Below.refl _ _) kk)
   clear hw2 h0
   have HO1 := hide (own_keepR HO.out HB2.out)
   have HW2 := hide (HW.out.trans (HB2.out.mono HW.out.size))
   cases y
   ·obtain ⟨m, hm⟩ : ∃ m, (honL fy zs k).length = m := ⟨_, rfl⟩
    have hml := honL_len fy zs k
    have HE : Hid (honL fy zs (k + 1) = honL fy zs k ++ [x]) := hide (by rw [honL_no HY.out, HX.out])
    rw [hm] at HO1 hml
    have HM := hide hm; clear hm
    have HO2 := hide (own_keepR HO1.out ((Below.refl w2.heap.size w2).alloc (Nat.le_refl _) (.cells #[.int .i64 x] 3)))
    go_wp2_with (at_builtin; go_must (refine wpList_append_own _ rfl (.tmp 20) (.tmp 22) _ rfl w.heap.size 3 i0 _ 1 8 Tryz.underlying27 hi hz0 hz1 hz2 rfl (by decide) u3 m ((honL fy zs k).map (Value.int .i64)) rfl (by exact HO2.out) ⟨w2.heap.size, 0, none⟩ 1 1 [.int .i64 x] rfl rfl (by exact news1 (Blk.new w2 3 #[.int .i64 x])) (by intro u hu; simp at hu; subst hu; rfl) (by simp [maxLen]; omega) (by omega) (by have := HW2.out.size; simp; omega) ?_); intro v8 w8 hown hg _; have HO8 := hide hown; have HG8 := hide hg; clear hown hg)
    go_roundw
    case rel => exact ⟨k + 1, by omega, by go_num, hide (by rw [HE.out]; simpa [HM.out] using HO8.out), hide ((HW2.out.alloc HW2.out.size _).grown HG8.out (by have := HW2.out.size; simp; omega) (fun j e => (HO2.out.lt j e).1))⟩
    case measure => simp [intOf]; omega
   ·have HE : Hid (honL fy zs (k + 1) = honL fy zs k) := hide (honL_yes HY.out)
    go_wp2_with fail
    go_roundw
    case rel => exact ⟨k + 1, by omega, by go_num, hide (by rw [HE.out]; exact HO1.out), HW2⟩
    case measure => simp [intOf]; omega
  ·obtain rfl : k = n := by omega
   obtain ⟨A2, c2, rfl, hI2⟩ := isl_ownC HO.out rfl
   have hle := honL_len fy zs k
   have HS := hide (rspread_any A2 c2 (honL fy zs k) wr hI2 (by omega) (fun j hj => honL_mem (P := fun x => -1000000000000000 ≤ x ∧ x ≤ 1000000000000000) (fun j hj => HZ.out j (by rw [HN.out]; exact hj)) _ (getD_memC hj)))
   go_wp2_with fail
   obtain ⟨q, hq⟩ : ∃ q, (honL fy zs k).length = q := ⟨_, rfl⟩
   have HQ := hide hq
   rw [hq] at HS ⊢
   clear HO hle hI2 hq
   refine HS.out.mono ?_
   rintro e w2 ⟨⟨R, rfl, hd⟩, rfl⟩
   have HD := hide hd; clear hd
   go_wp2_with fail
   go_ret
   exact ⟨⟨R, rfl, by rw [HQ.out]; exact HD.out⟩, HW.out⟩
end
end
section
open Go Go.RowKit
set_option maxRecDepth 100000 in
set_option maxHeartbeats 4000000 in
theorem rrecv_any {base : Nat} {a : Ad2} {p : Pl} {P : Sv3} {fy : Nat} {c : Cl} {N M : Nat} (w w0 : World) (AL : Option Addr) (cl : Nat) (hP : P.l = .slice AL p.lk.length cl) (h : DcAt w base a (fullN p) p P fy c M) (hp : PlOk p) (hc : ClOk p N c) (hL : LinksAt w0 AL p.lk.length p.lk) (hB0 : Below base w0 w) (h0 : w0.heap.size ≤ base) (hbase : base ≤ w.heap.size) (k i : Nat) (l : Lk) (hl : p.lk[k]? = some l) (hi : (i : Int) < p.nd) :
 Calls Tryz.prog 22 #[.pointer (some ⟨a.g, 0, none⟩), .int .i64 i, .int .i64 k] w fun e w' =>
  (bitB l.t i = false ∧ e = .returned (.tuple #[.string ⟨#[]⟩, .int .i64 2]) ∧ DcTo w base a (fullN p) p P fy c w' c M) ∨
  (bitB l.t i = true ∧ (c.pr k i).q = [] ∧ e = .returned (.tuple #[.string ⟨#[]⟩, .int .i64 8]) ∧ DcTo w base a (fullN p) p P fy c w' c M) ∨
  (bitB l.t i = true ∧ ∃ d q, (c.pr k i).q = d :: q ∧ e = .returned (.tuple #[.string d, .int .i64 0]) ∧ DcTo w base a (fullN p) p P fy c w' (clRecv k i c) M) := by
 have hkl : k < p.lk.length := (List.getElem?_eq_some_iff.1 hl).1
 have hl8 := hp.lk
 have hn16 := hp.n16
 have hlk := hp.link k l hl
 obtain ⟨nl, hnl⟩ : ∃ nl, p.lk.length = nl := ⟨_, rfl⟩
 obtain ⟨nd, hnd⟩ : ∃ nd, p.nd.toNat = nd := ⟨_, rfl⟩
 have hkl2 : k < nl := by omega
 have hin : i < nd := by omega
 have hpn : p.nd = (nd : Int) := by omega
 have hi16 : i < 17 := by omega
 have hnd16 : nd ≤ 16 := by omega
 have hnl8 : nl ≤ 8 := by omega
 obtain ⟨t, ht⟩ : ∃ t : Nat, l.t = (t : Int) := Int.eq_ofNat_of_zero_le (by have := hlk.2.2.1; omega)
 have ht16 : t < 65536 := by
  have h2 : (2 : Nat) ^ p.nd.toNat ≤ 2 ^ 16 := Nat.pow_le_pow_right (by omega) (by omega)
  have h3 := hlk.2.2.2.1
  rw [ht] at h3
  have h4 : t < 2 ^ p.nd.toNat := by exact_mod_cast h3
  omega
 have hbit : bitB l.t i = t.testBit i := by
  unfold bitB
  rw [ht, bit_one t i ht16]
  cases t.testBit i <;> rfl
 have hand := and_pow_ne t i ht16 hi16
 obtain ⟨G, hG⟩ : ∃ G, a.g = G := ⟨_, rfl⟩
 rw [hG]
 have hcb := h.cluB
 rw [hG] at hcb
 obtain ⟨k0, -, -, -, -, -, k7, -, -, -, k13, -, k15, -⟩ := rcl_cells hcb
 rw [hpn] at k0
 obtain ⟨bl, ol, hAL, l2, hl2, _, kt, _⟩ := (hL0 hL h0 hB0) k hkl
 obtain rfl : l2 = l := by rw [hl] at hl2; cases hl2; rfl
 rw [hP, hAL, hnl] at k7
 rw [ht] at kt
 obtain ⟨bs, os_, cs, hlkv, -⟩ := h.lnkC (k := k) (show k < (fullN p).ns from hkl)
 rw [hlkv, show (fullN p).ns = nl from hnl] at k13
 have HI1 := hide (in_q (i : Int) 0 ((nd : Int) - 1) true (by simp [inB]; omega))
 have HI2 := hide (in_q (k : Int) 0 ((nl : Int) - 1) true (by simp [inB]; omega))
 have HREF := hide (fun (w' : World) (hB : Below w.heap.size w w') => DcTo.refl h hB)
 have hbnd := hc.pr k i
 have HPM := hide h.prtM; have HPB := hide (h.prtB k i); have Hh := hide h; have HREL := hide h.rel
 rw [hbit]
 obtain ⟨bb, hbb⟩ : ∃ bb, t.testBit i = bb := ⟨_, rfl⟩
 rw [hbb] at hand ⊢
 obtain ⟨x, hx⟩ : ∃ x, bits .and .i64 (t : Int) (wrap64 (2 ^ i)) = x := ⟨_, rfl⟩
 rw [hx] at hand
 obtain ⟨z, hz⟩ : ∃ z, wrap64 (2 ^ i) = z := ⟨_, rfl⟩
 rw [hz] at hx
 clear h hp hc hl hl2 hlk hnl hnd hL hB0 hP hpn hAL hcb hbit hbb hi hn16 ht ht16 hlkv
 cases bb
 ·simp only [Bool.not_false] at hand
  go_enter Tryz.func22, Tryz.ntmps22
  go_wp2_with fail
  go_quiet ((go_at_call 43; first | (with_reducible exact Calls.quiet_of_same (HI1.out _)) | (with_reducible exact Calls.quiet_of_same (HI2.out _))))
  go_wp2_with fail
  go_ret2
  exact .inl ⟨trivial, rfl, HREF.out _ (below_drewN (Below.refl _ _) nq)⟩
 ·simp only [Bool.not_true] at hand
  go_enter Tryz.func22, Tryz.ntmps22
  go_wp2_with fail
  go_quiet ((go_at_call 43; first | (with_reducible exact Calls.quiet_of_same (HI1.out _)) | (with_reducible exact Calls.quiet_of_same (HI2.out _))))
  obtain ⟨wq, hwq⟩ : ∃ wq, w.drewN nq = wq := ⟨_, rfl⟩
  have HBq : Hid (Below w.heap.size w wq) := hide (by rw [← hwq]; exact below_drewN (Below.refl _ _) nq)
  rw [hwq]
  have HBz := hide (show base ≤ wq.heap.size by rw [← hwq]; exact hbase)
  have k15q := (HBq.out.cell (p := ⟨G, 15, none⟩) (World.block_lt_of_cell? _ _ k15)).trans k15
  clear hwq k0 k7 k13 k15 kt hand hx hz
  have Hq := hide (Hh.out.below HBq.out)
  obtain ⟨v, hv⟩ : ∃ v, a.vp k i = v := ⟨_, rfl⟩
  have hv0 : (Instr.lookup 81 (.map (some a.pm)) (.agg #[.int .i64 (k : Int), .int .i64 (i : Int)]) false).run Tryz.prog wq = .ok v wq := lookup_pair Tryz.underlying81 Hq.out.prtM k i (Tryz.zeroValue136 wq) ((HREL.out.pr k i).trans hv)
  have HQv := Hq.out.prtB k i
  rw [hv] at HQv
  cases hq : (c.pr k i).q with
  | nil =>
   rw [hq] at HQv
   obtain ⟨ao, cc, hvv, -⟩ := HQv.1.shape
   rw [sv_len] at hvv
   subst hvv
   have HQ0 := hide hq
   clear HQv hv hq
   go_wp2_with fail
   go_ret2
   exact .inr (.inl ⟨trivial, HQ0.out, rfl, HREF.out _ HBq.out⟩)
  | cons d q =>
   rw [hq] at HQv
   obtain ⟨ao, cc, hvv, hlc⟩ := HQv.1.shape
   have hqn : q.length ≤ 16 := by have := hbnd.2.2; rw [hq, List.length_cons] at this; omega
   simp only [sv_len, List.length_cons] at hvv hlc
   subst hvv
   obtain ⟨gq, off, rfl, hbq, hlq, hcq⟩ := HQv.1.block (by omega)
   have hcell := sd_first HQv.1
   have hne : gq ≠ a.pm := fun e => by
    have h1 : gq ∈ (dshape base a (fullN p) p P fy c (.prt k i)).foot := by simp [dshape, GO.arr, hv, Value.ownBlock]
    have h2 : gq ∈ (dshape base a (fullN p) p P fy c .prtM).foot := by simp [dshape, GO.mp, e]
    exact absurd (Hh.out.fam.sep _ _ _ h1 h2) (by simp)
   obtain ⟨ao2, hao⟩ : ∃ ao2 : Option Addr, (if cc = 1 then some ⟨gq, off, none⟩ else some ⟨gq, off + 1, none⟩) = ao2 := ⟨_, rfl⟩
   have HOB : Hid ((Value.slice ao2 q.length (cc - 1)).ownBlock = some gq) := hide (by rw [← hao]; split <;> rfl)
   have HQT : Hid (QAt wq base 9 (.slice ao2 q.length (cc - 1)) (sv q)) := hide (by rw [← hao]; exact HQv.1.tail)
   obtain ⟨w9, hup, hM9, hG9⟩ := update_pair Tryz.underlying81 (w := wq.drew) (Hq.out.below (below_drewN (Below.refl _ _) 1)).prtM k i (.slice ao2 q.length (cc - 1))
   unfold keyV at hup
   have d4 : ((q.length : Int) + 1 == 0) = false := by rw [beq_eq_false_iff_ne]; omega
   have HQQ := hide hq; have HV := hide hv; have HM9 := hide hM9; have HG9 := hide hG9
   have hc9 : w9.cell? ⟨gq, off, none⟩ = some (.string d) := hG9.cell (a := ⟨gq, off, none⟩) hcell (by simpa using hne)
   have HLQ := hide hlq
   clear HQv hq hv hM9 hG9 hcq hbq hlq hcell hbnd
   go_wp2_with fail
   go_region
   go_wp2_with fail
   go_ret2
   refine .inr (.inr ⟨trivial, d, q, HQQ.out, rfl, ?_⟩)
   have hBd := below_drewN HBq.out 1
   refine Hh.out.prtTo k i { c.pr k i with q := (c.pr k i).q.tail } (w1 := wq.drew) (v := .slice ao2 q.length (cc - 1)) hBd (by rw [HQQ.out]; exact HQT.out.drew) (fun g hg => ?_) HM9.out HG9.out hbase
   have : gq = g := by
    rw [HOB.out] at hg
    exact Option.some.inj hg
   subst this
   exact ⟨HLQ.out, .inl (by rw [HV.out]; rfl)⟩
end
end Go.Proofs.YtdogdlnaacimpaaGreatDoor
