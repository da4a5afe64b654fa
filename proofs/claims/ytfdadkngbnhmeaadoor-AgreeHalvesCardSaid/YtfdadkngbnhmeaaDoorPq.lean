/- A plan's bytes: numbers of seven bits a byte, there and back; plain facts, no program in sight. -/
import Derived.WalkKit
namespace Go.Proofs.YtfdadkngbnhmeaaDoor
/-- The bytes of a number: seven bits a byte, the least ones first. -/
def vnum (n : Nat) : List Nat := if n < 128 then [n] else (n % 128 + 128) :: vnum (n / 128)
termination_by n
decreasing_by omega
theorem vnum_small {n : Nat} (h : n < 128) : vnum n = [n] := by rw [vnum, if_pos h]
theorem vnum_big {n : Nat} (h : ¬ n < 128) : vnum n = (n % 128 + 128) :: vnum (n / 128) := by rw [vnum, if_neg h]
theorem vnum_ne (n : Nat) : vnum n ≠ [] := by
  by_cases h : n < 128
  · rw [vnum_small h]; simp
  · rw [vnum_big h]; simp
theorem vnum_lt (n : Nat) : ∀ x ∈ vnum n, x < 256 := by
  induction n using vnum.induct with
  | case1 n h => rw [vnum_small h]; intro x hx; simp at hx; omega
  | case2 n h ih =>
    rw [vnum_big h]
    intro x hx
    rcases List.mem_cons.1 hx with rfl | hx
    · omega
    · exact ih x hx
/-- One number off: i bytes are read, n is what they were. -/
def rd (i n : Nat) : List Nat → Option (Nat × List Nat)
  | [] => none
  | c :: l => if 5 < i ∨ 2 ^ 40 < n + c % 128 * 128 ^ i ∨ (c = 0 ∧ 0 < i) then none else if c < 128 then some (n + c % 128 * 128 ^ i, l) else rd (i + 1) (n + c % 128 * 128 ^ i) l
theorem rd_shorter {i n : Nat} {l r : List Nat} {v : Nat} (h : rd i n l = some (v, r)) : ∃ k, k < l.length ∧ r = l.drop (k + 1) ∧ v ≤ 2 ^ 40 := by
  induction l generalizing i n with
  | nil => cases h
  | cons c l ih =>
    unfold rd at h
    split at h
    · cases h
    · split at h
      · cases h; exact ⟨0, by simp, by simp, by omega⟩
      · obtain ⟨k, h1, h2, h3⟩ := ih h
        exact ⟨k + 1, by simp; omega, by simpa using h2, h3⟩
theorem rd_len {i n : Nat} {l r : List Nat} {v : Nat} (h : rd i n l = some (v, r)) : r.length < l.length := by
  obtain ⟨k, h1, h2, _⟩ := rd_shorter h
  rw [h2, List.length_drop]; omega
theorem rd_append {i n : Nat} {l r : List Nat} {v : Nat} (h : rd i n l = some (v, r)) (t : List Nat) : rd i n (l ++ t) = some (v, r ++ t) := by
  induction l generalizing i n with
  | nil => cases h
  | cons c l ih =>
    rw [List.cons_append]
    unfold rd at h ⊢
    split at h
    · cases h
    · rename_i h1
      rw [if_neg h1]
      split at h
      · rename_i h2
        rw [if_pos h2]; cases h; rfl
      · rename_i h2
        rw [if_neg h2]; exact ih h
theorem pow128 (i : Nat) : 0 < 128 ^ i := Nat.pow_pos (by decide)
/-- A number that is written is read. -/
theorem rd_vnum (m i n : Nat) (r : List Nat) (hi : i ≤ 5) (hz : 0 < i → 0 < m) (hm : n + m * 128 ^ i ≤ 2 ^ 40) : rd i n (vnum m ++ r) = some (n + m * 128 ^ i, r) := by
  induction m using vnum.induct generalizing i n with
  | case1 m h =>
    rw [vnum_small h, List.singleton_append, rd, Nat.mod_eq_of_lt h, if_neg (by omega), if_pos h]
  | case2 m h ih =>
    have hp := pow128 i
    have hmod : (m % 128 + 128) % 128 = m % 128 := by omega
    have e : n + m * 128 ^ i = n + m % 128 * 128 ^ i + m / 128 * 128 ^ (i + 1) := by
      have h1 : m * 128 ^ i = (m % 128 + m / 128 * 128) * 128 ^ i := by congr 1; omega
      rw [h1, Nat.add_mul, Nat.mul_assoc, Nat.pow_succ, Nat.mul_comm 128 (128 ^ i)]; omega
    have hle : n + m % 128 * 128 ^ i ≤ 2 ^ 40 := by
      have : 0 ≤ m / 128 * 128 ^ (i + 1) := Nat.zero_le _
      omega
    have hi5 : i + 1 ≤ 5 := by
      rcases Nat.lt_or_ge i 5 with h5 | h5
      · omega
      · have h6 : i = 5 := by omega
        subst h6
        have : m * 128 ^ 5 ≥ 128 * 128 ^ 5 := Nat.mul_le_mul_right _ (by omega)
        have h7 : (128 : Nat) * 128 ^ 5 = 2 ^ 42 := by decide
        have h8 : (2 : Nat) ^ 40 < 2 ^ 42 := by decide
        omega
    rw [vnum_big h, List.cons_append, rd, hmod, if_neg (by omega), if_neg (by omega), ih (i + 1) _ hi5 (by omega) (by omega), ← e]
theorem rd_num {m : Nat} (r : List Nat) (hm : m ≤ 2 ^ 40) : rd 0 0 (vnum m ++ r) = some (m, r) := by
  have := rd_vnum m 0 0 r (by omega) (by omega) (by simpa using hm)
  simpa using this
/-- What is read was written so. -/
theorem rd_back {i n : Nat} {l r : List Nat} {v : Nat} (hl : ∀ x ∈ l, x < 256) (h : rd i n l = some (v, r)) : ∃ m, v = n + m * 128 ^ i ∧ l = vnum m ++ r ∧ (0 < i → 0 < m) := by
  induction l generalizing i n with
  | nil => cases h
  | cons c l ih =>
    have hc : c < 256 := hl c (by simp)
    unfold rd at h
    split at h
    · cases h
    · rename_i h1
      split at h
      · rename_i h2
        cases h
        exact ⟨c, by rw [Nat.mod_eq_of_lt h2], by rw [vnum_small h2]; rfl, by omega⟩
      · rename_i h2
        obtain ⟨m, e1, e2, e3⟩ := ih (fun x hx => hl x (by simp [hx])) h
        have hm := e3 (by omega)
        refine ⟨c % 128 + 128 * m, ?_, ?_, by omega⟩
        · rw [e1, Nat.add_mul, Nat.pow_succ, Nat.mul_comm 128 m, Nat.mul_assoc, Nat.mul_comm 128 (128 ^ i)]; omega
        · rw [vnum_big (by omega), e2, show (c % 128 + 128 * m) % 128 = c % 128 from by omega, show (c % 128 + 128 * m) / 128 = m from by omega, show c % 128 + 128 = c from by omega]; rfl
/-- The document's: read first, tested then. -/
def raw (i n : Nat) : List Nat → Option (Nat × List Nat)
  | [] => none
  | c :: l => if i = 6 then none else if c < 128 then some (n + c % 128 * 128 ^ i, l) else raw (i + 1) (n + c % 128 * 128 ^ i) l
def rdR (l : List Nat) : Option (Nat × List Nat) := match raw 0 0 l with
  | none => none
  | some (n, r) => if 2 ^ 40 < n ∨ vnum n ≠ l.take (l.length - r.length) then none else some (n, r)
theorem raw_ge {i n : Nat} {l r : List Nat} {v : Nat} (h : raw i n l = some (v, r)) : n ≤ v := by
  induction l generalizing i n with
  | nil => cases h
  | cons c l ih =>
    unfold raw at h
    split at h
    · cases h
    · split at h
      · cases h; omega
      · have := ih h
        omega
theorem raw_rd {i n : Nat} {l r : List Nat} {v : Nat} (h : rd i n l = some (v, r)) (hi : i ≤ 6) : raw i n l = some (v, r) := by
  induction l generalizing i n with
  | nil => cases h
  | cons c l ih =>
    unfold rd at h
    unfold raw
    split at h
    · cases h
    · rename_i h1
      rw [if_neg (by omega)]
      split at h
      · rename_i h2; rw [if_pos h2]; exact h
      · rename_i h2; rw [if_neg h2]; exact ih h (by omega)
theorem rdR_eq (l : List Nat) (hl : ∀ x ∈ l, x < 256) : rdR l = rd 0 0 l := by
  unfold rdR
  cases h : rd 0 0 l with
  | some p =>
    obtain ⟨v, r⟩ := p
    obtain ⟨m, e1, e2, _⟩ := rd_back hl h
    obtain ⟨_, _, _, hv⟩ := rd_shorter h
    have e1' : v = m := by simpa using e1
    rw [raw_rd h (by omega)]
    simp only
    rw [if_neg]
    rw [e1', e2]
    simp
    omega
  | none =>
    cases h2 : raw 0 0 l with
    | none => rfl
    | some p =>
      obtain ⟨v, r⟩ := p
      simp only
      rw [if_pos]
      by_cases hv : 2 ^ 40 < v
      · exact .inl hv
      · refine .inr fun e => ?_
        have hr : l = vnum v ++ r := by
          have hs : ∀ {i n : Nat} {l r : List Nat} {v : Nat}, raw i n l = some (v, r) → ∃ k, r = l.drop k ∧ k ≤ l.length := by
            intro i n l
            induction l generalizing i n with
            | nil => intro r v h; cases h
            | cons c l ih =>
              intro r v h
              unfold raw at h
              split at h
              · cases h
              · split at h
                · cases h; exact ⟨1, by simp, by simp⟩
                · obtain ⟨k, e, hk⟩ := ih h
                  exact ⟨k + 1, by simpa using e, by simp; omega⟩
          obtain ⟨k, hk, hk2⟩ := hs h2
          rw [e, hk, List.length_drop, show l.length - (l.length - k) = k from by omega, List.take_append_drop]
        rw [hr, rd_num r (by omega)] at h
        cases h
/-- All numbers that bytes are. -/
def nums (l : List Nat) : Option (List Nat) :=
  if l = [] then some [] else match _h : rd 0 0 l with
    | none => none
    | some (n, r) => (nums r).map (n :: ·)
termination_by l.length
decreasing_by exact rd_len _h
theorem nums_nil : nums [] = some [] := by rw [nums, if_pos rfl]
theorem nums_none {l : List Nat} (h : l ≠ []) (h1 : rd 0 0 l = none) : nums l = none := by
  rw [nums, if_neg h]; split
  · rfl
  · rename_i h2; rw [h1] at h2; cases h2
theorem nums_some {l r : List Nat} {n : Nat} (h1 : rd 0 0 l = some (n, r)) : nums l = (nums r).map (n :: ·) := by
  have h : l ≠ [] := by rintro rfl; cases h1
  rw [nums, if_neg h]; split
  · rename_i h2; rw [h1] at h2; cases h2
  · rename_i h2; rw [h1] at h2; cases h2; rfl
/-- The bytes of numbers. -/
def vnums (l : List Nat) : List Nat := l.flatMap vnum
theorem vnums_nil : vnums [] = [] := rfl
theorem vnums_cons (n : Nat) (l : List Nat) : vnums (n :: l) = vnum n ++ vnums l := rfl
theorem vnums_app (l m : List Nat) : vnums (l ++ m) = vnums l ++ vnums m := by simp [vnums]
theorem vnums_lt (l : List Nat) : ∀ x ∈ vnums l, x < 256 := by
  intro x hx
  obtain ⟨n, _, h⟩ := List.mem_flatMap.1 hx
  exact vnum_lt n x h
theorem nums_vnums (l : List Nat) (h : ∀ n ∈ l, n ≤ 2 ^ 40) : nums (vnums l) = some l := by
  induction l with
  | nil => exact nums_nil
  | cons n l ih => rw [vnums_cons, nums_some (rd_num _ (h n (by simp))), ih (fun m hm => h m (by simp [hm]))]; rfl

/-- A state of who reads numbers: what is left, and whether they were not so. -/
structure Rst where
  l : List Nat
  bad : Bool
/-- The code's: of bytes. -/
def numB (s : Rst) : Nat × Rst := match rd 0 0 s.l with
  | some (n, r) => (n, ⟨r, s.bad⟩)
  | none => (0, ⟨s.l, true⟩)
/-- The document's: of numbers. -/
def numN (s : Rst) : Nat × Rst := match s.l with
  | n :: r => (n, ⟨r, s.bad⟩)
  | [] => (0, ⟨[], true⟩)
section
variable (num : Rst → Nat × Rst)
/-- So many numbers. -/
def some_ : Nat → Rst → List Nat × Rst
  | 0, s => ([], s)
  | k + 1, s => ((num s).1 :: (some_ k (num s).2).1, (some_ k (num s).2).2)
/-- So many rows of so many numbers, while nothing is wrong. -/
def rows_ (j : Nat) : Nat → Rst → List (List Nat) × Rst
  | 0, s => ([], s)
  | n + 1, s => if s.bad = true then ([], s) else ((some_ num j s).1 :: (rows_ j n (some_ num j s).2).1, (rows_ j n (some_ num j s).2).2)
/-- How many, and these. -/
def many_ (j most : Nat) (s : Rst) : List (List Nat) × Rst :=
  rows_ num j (num s).1 ⟨(num s).2.l, (num s).2.bad || decide (most < (num s).1)⟩
/-- All of it: six numbers, slots, links, a number, windows. -/
def dec_ (s : Rst) : (List Nat × List (List Nat) × List (List Nat) × Nat × List (List Nat)) × Rst :=
  let a := some_ num 6 s
  let b := many_ num 3 32 a.2
  let c := many_ num 4 8 b.2
  let d := num c.2
  let e := many_ num 3 32 d.2
  ((a.1, b.1, c.1, d.1, e.1), e.2)
end
/-- Who found something wrong goes on so. -/
def Mono {α : Type} (f : Rst → α × Rst) : Prop := ∀ s, s.bad = true → (f s).2.bad = true
/-- Whatever the one reads well the other one reads, too. -/
def Sim {α : Type} (R : List Nat → List Nat → Prop) (f g : Rst → α × Rst) : Prop := ∀ s t, s.bad = false → t.bad = false → R s.l t.l → (f s).2.bad = false → (g t).2.bad = false ∧ (f s).1 = (g t).1 ∧ R (f s).2.l (g t).2.l
theorem numB_mono : Mono numB := by
  intro s h; unfold numB; split
  · exact h
  · rfl
theorem numN_mono : Mono numN := by
  intro s h; unfold numN; split
  · exact h
  · rfl
theorem bool_f {b : Bool} (h : b = true → False) : b = false := by cases b <;> simp_all
theorem Mono.back {α : Type} {f : Rst → α × Rst} (h : Mono f) {s : Rst} (h1 : (f s).2.bad = false) : s.bad = false := bool_f fun e => by rw [h s e] at h1; cases h1
section
variable {num : Rst → Nat × Rst}
theorem some_mono (h : Mono num) (k : Nat) : Mono (some_ num k) := by
  induction k with
  | zero => intro s hs; exact hs
  | succ k ih => intro s hs; exact ih _ (h s hs)
theorem rows_mono (_h : Mono num) (j n : Nat) : Mono (rows_ num j n) := by
  cases n with
  | zero => intro s hs; exact hs
  | succ n => intro s hs; unfold rows_; rw [if_pos hs]; exact hs
theorem many_mono (h : Mono num) (j most : Nat) : Mono (many_ num j most) := by
  intro s hs; unfold many_; exact rows_mono h j _ _ (by simp [h s hs])
theorem dec_mono (h : Mono num) : Mono (dec_ num) := by
  intro s hs
  exact many_mono h 3 32 _ (h _ (many_mono h 4 8 _ (many_mono h 3 32 _ (some_mono h 6 _ hs))))
end
section
variable {R : List Nat → List Nat → Prop} {f g : Rst → Nat × Rst}
theorem some_sim (hm : Mono f) (h : Sim R f g) (k : Nat) : Sim R (some_ f k) (some_ g k) := by
  induction k with
  | zero => intro s t _ h2 hr _; exact ⟨h2, rfl, hr⟩
  | succ k ih =>
    intro s t h1 h2 hr hb
    have hb1 := (some_mono hm k).back (s := (f s).2) hb
    obtain ⟨a1, a2, a3⟩ := h s t h1 h2 hr hb1
    obtain ⟨b1, b2, b3⟩ := ih _ _ hb1 a1 a3 hb
    exact ⟨b1, by show _ :: _ = _ :: _; rw [a2, b2], b3⟩
theorem rows_sim (hm : Mono f) (h : Sim R f g) (j n : Nat) : Sim R (rows_ f j n) (rows_ g j n) := by
  induction n with
  | zero => intro s t _ h2 hr _; exact ⟨h2, rfl, hr⟩
  | succ n ih =>
    intro s t h1 h2 hr hb
    unfold rows_ at hb ⊢
    rw [if_neg (by rw [h1]; decide)] at hb
    rw [if_neg (show ¬ s.bad = true by rw [h1]; decide), if_neg (show ¬ t.bad = true by rw [h2]; decide)]
    have hb1 := (rows_mono hm j n).back (s := (some_ f j s).2) hb
    obtain ⟨a1, a2, a3⟩ := some_sim hm h j s t h1 h2 hr hb1
    obtain ⟨b1, b2, b3⟩ := ih _ _ hb1 a1 a3 hb
    exact ⟨b1, by show _ :: _ = _ :: _; rw [a2, b2], b3⟩
theorem many_sim (hm : Mono f) (h : Sim R f g) (j most : Nat) : Sim R (many_ f j most) (many_ g j most) := by
  intro s t h1 h2 hr hb
  unfold many_ at hb ⊢
  have hb1 := (rows_mono hm j _).back hb
  simp only [Bool.or_eq_false_iff] at hb1
  obtain ⟨a1, a2, a3⟩ := h s t h1 h2 hr hb1.1
  have := rows_sim hm h j (f s).1 ⟨(f s).2.l, (f s).2.bad || decide (most < (f s).1)⟩ ⟨(g t).2.l, (g t).2.bad || decide (most < (g t).1)⟩ (by simp [hb1.1, hb1.2]) (by rw [← a2]; simp [a1, hb1.2]) a3 hb
  rw [← a2] at this ⊢
  exact this
theorem dec_sim (hm : Mono f) (h : Sim R f g) : Sim R (dec_ f) (dec_ g) := by
  intro s t h1 h2 hr hb
  have hb4 := (many_mono hm 3 32).back (s := (f (many_ f 4 8 (many_ f 3 32 (some_ f 6 s).2).2).2).2) hb
  have hb3 := hm.back hb4
  have hb2 := (many_mono hm 4 8).back hb3
  have hb1 := (many_mono hm 3 32).back hb2
  obtain ⟨a1, a2, a3⟩ := some_sim hm h 6 s t h1 h2 hr hb1
  obtain ⟨b1, b2, b3⟩ := many_sim hm h 3 32 _ _ hb1 a1 a3 hb2
  obtain ⟨c1, c2, c3⟩ := many_sim hm h 4 8 _ _ hb2 b1 b3 hb3
  obtain ⟨d1, d2, d3⟩ := h _ _ hb3 c1 c3 hb4
  obtain ⟨e1, e2, e3⟩ := many_sim hm h 3 32 _ _ hb4 d1 d3 hb
  exact ⟨e1, by show (_, _, _, _, _) = (_, _, _, _, _); rw [a2, b2, c2, d2, e2], e3⟩
end
theorem simBN : Sim (fun l ns => nums l = some ns) numB numN := by
  intro s t h1 h2 hr hb
  unfold numB at hb ⊢
  unfold numN
  cases h : rd 0 0 s.l with
  | none => rw [h] at hb; cases hb
  | some p =>
    obtain ⟨n, r⟩ := p
    rw [nums_some h] at hr
    cases h3 : nums r with
    | none => rw [h3] at hr; cases hr
    | some ns =>
      rw [h3] at hr
      have e : t.l = n :: ns := (Option.some.inj hr).symm
      rw [e]
      exact ⟨h2, rfl, h3⟩
theorem simNB : Sim (fun ns l => nums l = some ns) numN numB := by
  intro s t h1 h2 hr hb
  unfold numN at hb ⊢
  unfold numB
  cases h : rd 0 0 t.l with
  | none =>
    by_cases e : t.l = []
    · rw [e, nums_nil] at hr
      rw [← Option.some.inj hr] at hb; cases hb
    · rw [nums_none e h] at hr; cases hr
  | some p =>
    obtain ⟨n, r⟩ := p
    rw [nums_some h] at hr
    cases h3 : nums r with
    | none => rw [h3] at hr; cases hr
    | some ns =>
      rw [h3] at hr
      have e : s.l = n :: ns := (Option.some.inj hr).symm
      rw [e]
      exact ⟨h2, rfl, h3⟩
theorem simApp (x : List Nat) : Sim (fun l m => m = l ++ x) numB numB := by
  intro s t h1 h2 hr hb
  unfold numB at hb ⊢
  cases h : rd 0 0 s.l with
  | none => rw [h] at hb; cases hb
  | some p =>
    obtain ⟨n, r⟩ := p
    rw [hr, rd_append h x]
    exact ⟨h2, rfl, rfl⟩
/-- Bytes that are no numbers leave some behind. -/
theorem simNone : Sim (fun l m => nums l = none ∧ m = l) numB numB := by
  intro s t h1 h2 hr hb
  unfold numB at hb ⊢
  cases h : rd 0 0 s.l with
  | none => rw [h] at hb; cases hb
  | some p =>
    obtain ⟨n, r⟩ := p
    obtain ⟨ha, hm⟩ := hr
    rw [hm, h]
    rw [nums_some h] at ha
    have e : nums r = none := by
      cases e : nums r with
      | none => rfl
      | some _ => rw [e] at ha; cases ha
    exact ⟨h2, rfl, e, rfl⟩
abbrev Raw := List Nat × List (List Nat) × List (List Nat) × Nat × List (List Nat)
/-- The code's answer: what bytes are. -/
def decB (l : List Nat) : Option Raw := if (dec_ numB ⟨l, false⟩).2.bad = true ∨ (dec_ numB ⟨l, false⟩).2.l ≠ [] then none else some (dec_ numB ⟨l, false⟩).1
/-- The document's. -/
def decN (l : List Nat) : Option Raw := if (dec_ numN ⟨l, false⟩).2.bad = true ∨ (dec_ numN ⟨l, false⟩).2.l ≠ [] then none else some (dec_ numN ⟨l, false⟩).1
theorem decB_some {l : List Nat} (h1 : (dec_ numB ⟨l, false⟩).2.bad = false) (h2 : (dec_ numB ⟨l, false⟩).2.l = []) : decB l = some (dec_ numB ⟨l, false⟩).1 := by unfold decB; rw [if_neg (by simp [h1, h2])]
theorem decB_none {l : List Nat} (h : decB l = none) : (dec_ numB ⟨l, false⟩).2.bad = true ∨ (dec_ numB ⟨l, false⟩).2.l ≠ [] := by
  unfold decB at h; split at h
  · assumption
  · cases h
theorem decB_eq (l : List Nat) : decB l = match nums l with | none => none | some ns => decN ns := by
  cases h : nums l with
  | none =>
    simp only
    unfold decB
    rw [if_pos]
    cases hb : (dec_ numB ⟨l, false⟩).2.bad with
    | true => exact .inl rfl
    | false =>
      refine .inr fun e => ?_
      obtain ⟨_, _, h3, _⟩ := dec_sim numB_mono simNone ⟨l, false⟩ ⟨l, false⟩ rfl rfl ⟨h, rfl⟩ hb
      rw [e, nums_nil] at h3; cases h3
  | some ns =>
    simp only
    unfold decB decN
    cases hb : (dec_ numB ⟨l, false⟩).2.bad with
    | true =>
      rw [if_pos (.inl rfl)]
      cases hn : (dec_ numN ⟨ns, false⟩).2.bad with
      | true => rw [if_pos (.inl rfl)]
      | false =>
        obtain ⟨h1, _, _⟩ := dec_sim numN_mono simNB ⟨ns, false⟩ ⟨l, false⟩ rfl rfl h hn
        rw [h1] at hb; cases hb
    | false =>
      obtain ⟨h1, h2, h3⟩ := dec_sim numB_mono simBN ⟨l, false⟩ ⟨ns, false⟩ rfl rfl h hb
      rw [h1, h2]
      by_cases e : (dec_ numB ⟨l, false⟩).2.l = []
      · rw [e, nums_nil] at h3
        rw [e, ← Option.some.inj h3]
      · have e2 : (dec_ numN ⟨ns, false⟩).2.l ≠ [] := by
          intro e2
          rw [e2] at h3
          rcases hx : rd 0 0 (dec_ numB ⟨l, false⟩).2.l with _ | ⟨n, r⟩
          · rw [nums_none e hx] at h3; cases h3
          · rw [nums_some hx] at h3
            cases hy : nums r <;> rw [hy] at h3 <;> cases h3
        rw [if_pos (.inr e), if_pos (.inr e2)]
/-- No beginning of what is read whole is read whole. -/
theorem decB_prefix {l x : List Nat} (hx : x ≠ []) (h : decB (l ++ x) ≠ none) : decB l = none := by
  cases e : decB l with
  | none => rfl
  | some v =>
    exfalso
    apply h
    unfold decB at e
    split at e
    · cases e
    · rename_i hn
      have hb : (dec_ numB ⟨l, false⟩).2.bad = false := bool_f fun hb => hn (.inl hb)
      have hl : (dec_ numB ⟨l, false⟩).2.l = [] := Classical.not_not.1 fun hl => hn (.inr hl)
      obtain ⟨_, _, h3⟩ := dec_sim numB_mono (simApp x) ⟨l, false⟩ ⟨l ++ x, false⟩ rfl rfl rfl hb
      unfold decB
      rw [if_pos (.inr (by rw [h3, hl]; simpa using hx))]
end Go.Proofs.YtfdadkngbnhmeaaDoor
