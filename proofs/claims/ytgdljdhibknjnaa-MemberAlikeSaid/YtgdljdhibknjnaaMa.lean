/- WHO HEARS ALIKE: the plain law of member nodes that share a bus; no condition. -/
import Derived.Test.YtgdljdhibknjnaaMb
namespace Go.Proofs.Ytgdljdhibknjnaa
/-- What all nodes know, and what the law keeps of them. -/
structure MSt where
  M : Nat → Nat
  g : Nat → Nat
  b : Nat → Nat
  fz : Nat → Bool
  fl : Nat → Bool
  ev : Nat → Bool
  wr : Bool

def MSt.ok (s : MSt) (who : Nat) : Bool := !s.fz who && decide (s.b who < s.g who)
def MSt.msg (s : MSt) (n who what : Nat) : Nat := if what = 1 then (if s.ok who then s.M who else 0) ^^^ (2 ^ who ||| 2 ^ ((who + 1) % n)) else (if s.ok who then s.M who else 0)
/-- What k is told of the slot. -/
def MSt.kind (s : MSt) (n who what k : Nat) : Nat := if !s.ok who || what == 0 then 0 else if judgeB (s.M k) who (s.msg n who what) then 1 else 2
/-- One slot. -/
def MSt.step (s : MSt) (n who what : Nat) : MSt where
  M k := if k = who ∨ s.fz k then s.M k else if s.kind n who what k = 1 then s.M k ||| 2 ^ who else clr (s.M k) (2 ^ who)
  g k := if k = who then (if s.ok who then 1 else s.g k) else if s.fz k then s.g k else if s.kind n who what k = 1 then s.g k + 1 else s.g k
  b k := if k = who then (if s.ok who then 0 else s.b k) else if s.fz k then s.b k else if s.kind n who what k = 2 then s.b k + 1 else s.b k
  fz k := if k = who then !s.ok who else s.fz k
  fl k := if k = who then (if s.ok who then decide (what < 2) else s.fl k) else s.fl k
  ev k := if k = who then (if s.ok who then s.ev k || decide (what < 2) else s.ev k) else s.ev k
  wr := s.wr || what == 1

structure MInv (n i : Nat) (s : MSt) : Prop where
  lt : ∀ k, k < n → s.M k < 2 ^ n
  own : ∀ k, k < n → (s.M k).testBit k = true
  gpos : ∀ k, k < n → 1 ≤ s.g k
  gle : ∀ k, k < n → s.g k ≤ i + 1
  ble : ∀ k, k < n → s.b k ≤ i
  same : ∀ k j, k < n → j < n → s.fz k = false → s.fz j = false → s.fl k = false → s.fl j = false → s.M k = s.M j
  lack : ∀ f k, f < n → k < n → s.fl f = true → s.fz f = false → k ≠ f → s.fz k = false → (s.M k).testBit f = false
  one : ∀ f, f < n → s.fl f = true → s.fz f = false → s.g f = 1
  age : ∀ f, f < n → s.fl f = true → s.fz f = false → s.b f = 0 → ∀ p t, p % n = f → p < t → t < i → i ≤ p + n → s.fl (t % n) = true ∨ s.fz (t % n) = true
  past : ∀ f, f < n → s.fl f = true → f < i
  flev : ∀ k, k < n → s.fl k = true → s.ev k = true
  nev : s.wr = false → ∀ k, k < n → s.ev k = false → s.b k = 0 ∧ s.fz k = false

theorem or_own (a k : Nat) (h : a.testBit k = true) : a ||| 2 ^ k = a := by
  apply Nat.eq_of_testBit_eq; intro j
  rw [Nat.testBit_or, Nat.testBit_two_pow]
  by_cases hj : k = j
  · subst hj; simp [h]
  · simp [hj]
theorem judge_off (m fr mm : Nat) (h : mm.testBit fr = false) : judgeB m fr mm = false := by simp [judgeB, h]
theorem judge_own (m fr : Nat) (h : m.testBit fr = true) : judgeB m fr m = true := by simp [judgeB, h]
theorem judge_far (m fr mm f : Nat) (hf : f ≠ fr) (h1 : m.testBit f = true) (h2 : mm.testBit f = false) : judgeB m fr mm = false := by
  have : ¬ (mm ||| 2 ^ fr = m ||| 2 ^ fr) := by
    intro e
    have e1 := congrArg (fun x => x.testBit f) e
    simp only [Nat.testBit_or, Nat.testBit_two_pow, h1, h2] at e1
    simp at e1
    exact hf e1.symm
  simp [judgeB, this]

section
variable {n i : Nat} {s : MSt}
theorem MSt.kind_lt2 (s : MSt) (n who what k : Nat) (hn : 2 ≤ n) (hw : who < n) (ho : (s.M who).testBit who = true) (h : s.ok who = false ∨ what < 2) : s.kind n who what k ≠ 1 := by
  unfold MSt.kind
  rcases h with h | h
  · simp [h]
  · by_cases h0 : what = 0
    · simp [h0]
    · obtain rfl : what = 1 := by omega
      cases hk : s.ok who
      · simp
      · have hj : judgeB (s.M k) who (s.msg n who 1) = false := by
          apply judge_off
          unfold MSt.msg
          rw [if_pos rfl, hk, if_pos rfl, Nat.testBit_xor, Nat.testBit_or, ho, Nat.testBit_two_pow]
          simp
        simp [hj]

theorem MInv.others (h : MInv n i s) (hn : 2 ≤ n) (hfl : s.fl (i % n) = true) (hk : s.ok (i % n) = true) (k : Nat) (hkn : k < n) (hne : k ≠ i % n) : s.fl k = true ∨ s.fz k = true := by
  have hw : i % n < n := Nat.mod_lt _ (by omega)
  unfold MSt.ok at hk
  simp at hk
  have h1 := h.one _ hw hfl hk.1
  have h2 := h.past _ hw hfl
  have hin : n ≤ i := by
    rcases Nat.lt_or_ge i n with hlt | hge
    · rw [Nat.mod_eq_of_lt hlt] at h2; omega
    · exact hge
  -- the slot of k since then
  have hd := Nat.div_add_mod i n
  obtain ⟨t, ht1, ht2, ht3⟩ : ∃ t, t % n = k ∧ i - n < t ∧ t < i := by
    rcases Nat.lt_or_ge k (i % n) with hlt | hge
    · refine ⟨n * (i / n) + k, ?_, ?_, ?_⟩
      · rw [Nat.mul_add_mod, Nat.mod_eq_of_lt hkn]
      · omega
      · omega
    · have hq : 1 ≤ i / n := (Nat.one_le_div_iff (by omega)).2 hin
      obtain ⟨q, hq2⟩ : ∃ q, i / n = q + 1 := ⟨i / n - 1, by omega⟩
      rw [hq2, Nat.mul_add, Nat.mul_one] at hd
      refine ⟨n * q + k, ?_, ?_, ?_⟩
      · rw [Nat.mul_add_mod, Nat.mod_eq_of_lt hkn]
      · omega
      · omega
  have := h.age _ hw hfl hk.1 (by omega) (i - n) t (by rw [← Nat.mod_eq_sub_mod hin]) ht2 ht3 (by omega)
  rw [ht1] at this
  exact this

theorem MInv.good (h : MInv n i s) (hn : 2 ≤ n) {what : Nat} (h2 : 2 ≤ what) (hk : s.ok (i % n) = true) {k : Nat} (hkn : k < n) (hne : k ≠ i % n) (hz : s.fz k = false) (hf : s.fl k = false) :
    s.fl (i % n) = false ∧ s.M k = s.M (i % n) ∧ s.kind n (i % n) what k = 1 := by
  have hw : i % n < n := Nat.mod_lt _ (by omega)
  have hwf : s.fl (i % n) = false := by
    cases hq : s.fl (i % n)
    · rfl
    · rcases h.others hn hq hk k hkn hne with h1 | h1
      · rw [hf] at h1; cases h1
      · rw [hz] at h1; cases h1
  have hwz : s.fz (i % n) = false := by unfold MSt.ok at hk; simp at hk; exact hk.1
  have e := h.same k (i % n) hkn hw hz hwz hf hwf
  refine ⟨hwf, e, ?_⟩
  unfold MSt.kind
  have h0 : (what == 0) = false := by simp; omega
  have hm : s.msg n (i % n) what = s.M (i % n) := by unfold MSt.msg; rw [if_neg (by omega), hk, if_pos rfl]
  rw [hk, h0, e, hm, judge_own _ _ (h.own _ hw)]
  rfl

/-- A failed one takes nobody's frame for good. -/
theorem MInv.kindF (h : MInv n i s) (hn : 2 ≤ n) {what f : Nat} (hf : f < n) (hne : f ≠ i % n) (hfl : s.fl f = true) (hfz : s.fz f = false) : s.kind n (i % n) what f = if !s.ok (i % n) || what == 0 then 0 else 2 := by
  have hw : i % n < n := Nat.mod_lt _ (by omega)
  unfold MSt.kind
  cases hk : s.ok (i % n)
  · rfl
  · have hwz : s.fz (i % n) = false := by unfold MSt.ok at hk; simp at hk; exact hk.1
    cases h0 : what == 0
    · have hj : judgeB (s.M f) (i % n) (s.msg n (i % n) what) = false := by
        unfold MSt.msg
        rw [hk, if_pos rfl]
        by_cases h1 : what = 1
        · rw [if_pos h1]
          apply judge_off
          rw [Nat.testBit_xor, Nat.testBit_or, h.own _ hw, Nat.testBit_two_pow]
          simp
        · rw [if_neg h1]
          exact judge_far _ _ _ f hne (h.own f hf) (h.lack f (i % n) hf hw hfl hfz (Ne.symm hne) hwz)
      simp [hj]
    · rfl

theorem MInv.step (h : MInv n i s) (hn : 2 ≤ n) (what : Nat) : MInv n (i + 1) (s.step n (i % n) what) := by
  have hw : i % n < n := Nat.mod_lt _ (by omega)
  have hps : ∀ k, k < n → 2 ^ k < 2 ^ n := fun k hk => Nat.pow_lt_pow_right (by omega) hk
  have hbit : ∀ k j, j ≠ i % n → ((s.step n (i % n) what).M k).testBit j = (s.M k).testBit j := by
    intro k j hj
    show (if k = i % n ∨ s.fz k = true then s.M k else if s.kind n (i % n) what k = 1 then s.M k ||| 2 ^ (i % n) else clr (s.M k) (2 ^ (i % n))).testBit j = _
    split
    · rfl
    · split
      · rw [Nat.testBit_or, Nat.testBit_two_pow]; simp [Ne.symm hj]
      · rw [clr_bit, Nat.testBit_two_pow]; simp [Ne.symm hj]
  have hfz' : ∀ k, (s.step n (i % n) what).fz k = false → s.fz k = false ∧ (k = i % n → s.ok k = true) := by
    intro k hk0
    have hk : (if k = i % n then !s.ok (i % n) else s.fz k) = false := hk0
    by_cases e : k = i % n
    · rw [if_pos e, ← e] at hk
      have hk1 : s.ok k = true := by simpa using hk
      refine ⟨?_, fun _ => hk1⟩
      unfold MSt.ok at hk1; simp at hk1; exact hk1.1
    · rw [if_neg e] at hk
      exact ⟨hk, fun e' => absurd e' e⟩
  have hMne : ∀ k, k ≠ i % n → s.fz k = false → (s.ok (i % n) = false ∨ what < 2) → (s.step n (i % n) what).M k = clr (s.M k) (2 ^ (i % n)) := by
    intro k hne hz hc
    show (if k = i % n ∨ s.fz k = true then s.M k else if s.kind n (i % n) what k = 1 then s.M k ||| 2 ^ (i % n) else clr (s.M k) (2 ^ (i % n))) = _
    rw [if_neg (by simp [hne, hz]), if_neg (s.kind_lt2 n _ what k hn hw (h.own _ hw) hc)]
  have hflne : ∀ k, k ≠ i % n → (s.step n (i % n) what).fl k = s.fl k := fun k hne => if_neg hne
  have hflw : s.ok (i % n) = true → (s.step n (i % n) what).fl (i % n) = decide (what < 2) := by
    intro hk
    show (if i % n = i % n then (if s.ok (i % n) = true then decide (what < 2) else s.fl (i % n)) else s.fl (i % n)) = _
    rw [if_pos rfl, if_pos hk]
  refine ⟨?_, ?_, ?_, ?_, ?_, ?_, ?_, ?_, ?_, ?_, ?_, ?_⟩
  · intro k hk
    show (if k = i % n ∨ s.fz k = true then s.M k else if s.kind n (i % n) what k = 1 then s.M k ||| 2 ^ (i % n) else clr (s.M k) (2 ^ (i % n))) < 2 ^ n
    split
    · exact h.lt k hk
    · split
      · exact Nat.or_lt_two_pow (h.lt k hk) (hps _ hw)
      · exact clr_lt _ _ _ (h.lt k hk)
  · intro k hk
    by_cases he : k = i % n
    · show (if k = i % n ∨ s.fz k = true then s.M k else if s.kind n (i % n) what k = 1 then s.M k ||| 2 ^ (i % n) else clr (s.M k) (2 ^ (i % n))).testBit k = true
      rw [if_pos (.inl he)]; exact h.own k hk
    · rw [hbit k k he]; exact h.own k hk
  · intro k hk
    have := h.gpos k hk
    show 1 ≤ (if k = i % n then (if s.ok (i % n) = true then 1 else s.g k) else if s.fz k = true then s.g k else if s.kind n (i % n) what k = 1 then s.g k + 1 else s.g k)
    repeat' split
    all_goals omega
  · intro k hk
    have := h.gle k hk
    show (if k = i % n then (if s.ok (i % n) = true then 1 else s.g k) else if s.fz k = true then s.g k else if s.kind n (i % n) what k = 1 then s.g k + 1 else s.g k) ≤ i + 1 + 1
    repeat' split
    all_goals omega
  · intro k hk
    have := h.ble k hk
    show (if k = i % n then (if s.ok (i % n) = true then 0 else s.b k) else if s.fz k = true then s.b k else if s.kind n (i % n) what k = 2 then s.b k + 1 else s.b k) ≤ i + 1
    repeat' split
    all_goals omega
  · intro k j hk hj hzk hzj hfk hfj
    obtain ⟨zk, ok⟩ := hfz' k hzk
    obtain ⟨zj, oj⟩ := hfz' j hzj
    have key : ∀ k, k < n → k ≠ i % n → s.fz k = false → (s.step n (i % n) what).fl k = false → s.ok (i % n) = true → 2 ≤ what → (s.step n (i % n) what).M k = s.M (i % n) := by
      intro k hk hne hz hf hok h2
      rw [hflne k hne] at hf
      obtain ⟨_, e, e1⟩ := h.good hn h2 hok hk hne hz hf
      show (if k = i % n ∨ s.fz k = true then s.M k else if s.kind n (i % n) what k = 1 then s.M k ||| 2 ^ (i % n) else clr (s.M k) (2 ^ (i % n))) = _
      rw [if_neg (by simp [hne, hz]), if_pos e1, e, or_own _ _ (h.own _ hw)]
    have keyw : (s.step n (i % n) what).M (i % n) = s.M (i % n) := if_pos (.inl rfl)
    cases hok : s.ok (i % n)
    · have n1 : k ≠ i % n := fun e => by have := ok e; rw [e, hok] at this; cases this
      have n2 : j ≠ i % n := fun e => by have := oj e; rw [e, hok] at this; cases this
      rw [hMne k n1 zk (.inl hok), hMne j n2 zj (.inl hok)]
      rw [hflne k n1] at hfk
      rw [hflne j n2] at hfj
      rw [h.same k j hk hj zk zj hfk hfj]
    · by_cases h2 : 2 ≤ what
      · have e1 : (s.step n (i % n) what).M k = s.M (i % n) := by
          by_cases n1 : k = i % n
          · rw [n1]; exact keyw
          · exact key k hk n1 zk hfk hok h2
        have e2 : (s.step n (i % n) what).M j = s.M (i % n) := by
          by_cases n1 : j = i % n
          · rw [n1]; exact keyw
          · exact key j hj n1 zj hfj hok h2
        rw [e1, e2]
      · have hlt2 : what < 2 := by omega
        have n1 : k ≠ i % n := fun e => by rw [e, hflw hok] at hfk; simp at hfk; omega
        have n2 : j ≠ i % n := fun e => by rw [e, hflw hok] at hfj; simp at hfj; omega
        rw [hMne k n1 zk (.inr hlt2), hMne j n2 zj (.inr hlt2)]
        rw [hflne k n1] at hfk
        rw [hflne j n2] at hfj
        rw [h.same k j hk hj zk zj hfk hfj]
  · intro f k hf hk hfl hzf hne hzk
    obtain ⟨zf, of⟩ := hfz' f hzf
    obtain ⟨zk, ok⟩ := hfz' k hzk
    by_cases he : f = i % n
    · have hok := of he
      rw [he] at hok hfl hne ⊢
      rw [hflw hok] at hfl
      simp at hfl
      rw [hMne k hne zk (.inr hfl), clr_bit, Nat.testBit_two_pow]
      simp
    · rw [hbit k f he]
      rw [hflne f he] at hfl
      exact h.lack f k hf hk hfl zf hne zk
  · intro f hf hfl hzf
    obtain ⟨zf, of⟩ := hfz' f hzf
    show (if f = i % n then (if s.ok (i % n) = true then 1 else s.g f) else if s.fz f = true then s.g f else if s.kind n (i % n) what f = 1 then s.g f + 1 else s.g f) = 1
    by_cases he : f = i % n
    · have hok := of he
      rw [he] at hok
      rw [if_pos he, if_pos hok]
    · rw [hflne f he] at hfl
      have hkf := h.kindF hn (what := what) hf he hfl zf
      rw [if_neg he, if_neg (by simp [zf]), if_neg (by rw [hkf]; split <;> omega)]
      exact h.one f hf hfl zf
  · intro f hf hfl hzf hb p t hp h1 h2 h3
    obtain ⟨zf, of⟩ := hfz' f hzf
    by_cases he : f = i % n
    · -- its own slot: nobody since
      exfalso
      have : p < i := by omega
      have e1 : p % n = i % n := by rw [hp, he]
      have e2 : i - p < n := by omega
      have e3 : (i - p) % n = 0 := by
        have := Nat.sub_mod_eq_zero_of_mod_eq e1.symm
        exact this
      rw [Nat.mod_eq_of_lt e2] at e3
      omega
    · rw [hflne f he] at hfl
      have hkf := h.kindF hn (what := what) hf he hfl zf
      have hb : (if f = i % n then (if s.ok (i % n) = true then 0 else s.b f) else if s.fz f = true then s.b f else if s.kind n (i % n) what f = 2 then s.b f + 1 else s.b f) = 0 := hb
      rw [if_neg he, if_neg (by simp [zf])] at hb
      have hk2 : s.kind n (i % n) what f ≠ 2 := fun e => by rw [if_pos e] at hb; omega
      rw [if_neg hk2] at hb
      have hcond : s.ok (i % n) = false ∨ what = 0 := by
        rw [hkf] at hk2
        cases hq : s.ok (i % n)
        · exact .inl rfl
        · cases h0 : what == 0
          · rw [hq, h0] at hk2; simp at hk2
          · exact .inr (by simpa using h0)
      by_cases ht : t = i
      · subst ht
        rcases hcond with hc | hc
        · right
          show (if t % n = t % n then !s.ok (t % n) else s.fz (t % n)) = true
          rw [if_pos rfl, hc]; rfl
        · cases hq : s.ok (t % n)
          · right
            show (if t % n = t % n then !s.ok (t % n) else s.fz (t % n)) = true
            rw [if_pos rfl, hq]; rfl
          · left
            rw [hflw hq]; simp; omega
      · have hold := h.age f hf hfl zf hb p t hp h1 (by omega) (by omega)
        have hne : t % n ≠ i % n := by
          intro e
          have e3 := Nat.sub_mod_eq_zero_of_mod_eq e.symm
          rw [Nat.mod_eq_of_lt (by omega)] at e3
          omega
        rw [hflne _ hne]
        rcases hold with ho | ho
        · exact .inl ho
        · right
          show (if t % n = i % n then !s.ok (i % n) else s.fz (t % n)) = true
          rw [if_neg hne]; exact ho
  · intro f hf hfl
    by_cases he : f = i % n
    · rw [he]; exact Nat.lt_succ_of_le (Nat.mod_le _ _)
    · rw [hflne f he] at hfl
      exact Nat.lt_succ_of_lt (h.past f hf hfl)
  · intro k hk hfl
    by_cases he : k = i % n
    · subst he
      have hfl : (if i % n = i % n then (if s.ok (i % n) = true then decide (what < 2) else s.fl (i % n)) else s.fl (i % n)) = true := hfl
      show (if i % n = i % n then (if s.ok (i % n) = true then s.ev (i % n) || decide (what < 2) else s.ev (i % n)) else s.ev (i % n)) = true
      rw [if_pos rfl] at hfl ⊢
      split at hfl
      · rename_i hok
        rw [if_pos hok, hfl]; simp
      · rename_i hok
        rw [if_neg hok]; exact h.flev _ hk hfl
    · rw [hflne k he] at hfl
      show (if k = i % n then (if s.ok (i % n) = true then s.ev k || decide (what < 2) else s.ev k) else s.ev k) = true
      rw [if_neg he]; exact h.flev k hk hfl
  · intro hwr k hk hev
    have hwr : (s.wr || what == 1) = false := hwr
    simp at hwr
    have hev : (if k = i % n then (if s.ok (i % n) = true then s.ev k || decide (what < 2) else s.ev k) else s.ev k) = false := hev
    have hev0 : s.ev k = false := by
      split at hev
      · split at hev
        · simp at hev; exact hev.1
        · exact hev
      · exact hev
    obtain ⟨b0, z0⟩ := h.nev hwr.1 k hk hev0
    have hfl0 : s.fl k = false := by
      cases hq : s.fl k
      · rfl
      · have := h.flev k hk hq; rw [hev0] at this; cases this
    by_cases he : k = i % n
    · have hok : s.ok k = true := by
        have := h.gpos k hk
        unfold MSt.ok; rw [z0, b0]; simp; omega
      rw [he] at hok
      refine ⟨?_, ?_⟩
      · show (if k = i % n then (if s.ok (i % n) = true then 0 else s.b k) else _) = 0
        rw [if_pos he, if_pos hok]
      · show (if k = i % n then !s.ok (i % n) else s.fz k) = false
        rw [if_pos he, hok]; rfl
    · refine ⟨?_, ?_⟩
      · show (if k = i % n then (if s.ok (i % n) = true then 0 else s.b k) else if s.fz k = true then s.b k else if s.kind n (i % n) what k = 2 then s.b k + 1 else s.b k) = 0
        rw [if_neg he, if_neg (by simp [z0])]
        have hk2 : s.kind n (i % n) what k ≠ 2 := by
          cases hok : s.ok (i % n)
          · unfold MSt.kind; simp [hok]
          · by_cases h0 : what = 0
            · unfold MSt.kind; simp [h0]
            · have := (h.good hn (what := what) (by omega) hok hk he z0 hfl0).2.2
              omega
        rw [if_neg hk2]; exact b0
      · show (if k = i % n then !s.ok (i % n) else s.fz k) = false
        rw [if_neg he]; exact z0

def mst0 (n : Nat) : MSt := ⟨fun _ => 2 ^ n - 1, fun _ => 1, fun _ => 0, fun _ => false, fun _ => false, fun _ => false, false⟩
theorem minv0 (n : Nat) (hn : 2 ≤ n) : MInv n 0 (mst0 n) where
  lt := fun k _ => by show 2 ^ n - 1 < 2 ^ n; have := Nat.two_pow_pos n; omega
  own := fun k hk => by show (2 ^ n - 1).testBit k = true; rw [Nat.testBit_two_pow_sub_one]; simpa using hk
  gpos := fun _ _ => Nat.le_refl _
  gle := fun _ _ => Nat.le_refl _
  ble := fun _ _ => Nat.le_refl _
  same := fun _ _ _ _ _ _ _ _ => rfl
  lack := fun _ _ _ _ h => by cases h
  one := fun _ _ h => by cases h
  age := fun _ _ h => by cases h
  past := fun _ _ h => by cases h
  flev := fun _ _ h => by cases h
  nev := fun _ _ _ _ => ⟨rfl, rfl⟩
end
end Go.Proofs.Ytgdljdhibknjnaa
