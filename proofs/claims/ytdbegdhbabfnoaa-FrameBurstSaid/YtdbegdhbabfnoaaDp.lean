/- What Decode's bytes are, and what the document's Open asks: plain facts, no program in sight. -/
import Derived.Test.YtdbegdhbabfnoaaFf
import Derived.Laws.BytesArg
set_option linter.unusedVariables false
set_option linter.unusedSimpArgs false
namespace Go.Proofs.Ytdbegdhbabfnoaa
/-- A text of bytes given as numbers. -/
def strN (l : List Nat) : ByteArray := strOfNums (l.map fun (x : Nat) => (x : Int))
theorem strN_size (l : List Nat) : (strN l).size = l.length := by unfold strN; rw [strOfNums_size, List.length_map]
theorem strN_dl (d : ByteArray) : strN (dl d) = d := by
  obtain ⟨⟨l⟩⟩ := d
  unfold strN dl strOfNums
  simp only [List.map_map]
  congr 2
  have : ((fun (n : Int) => UInt8.ofNat n.toNat) ∘ (fun (x : Nat) => (x : Int)) ∘ fun (b : UInt8) => b.toNat) = id := by
    funext b; simp
  rw [this, List.map_id]

/-- A frame's parts. -/
structure FrR where
  nd : Int
  sl : Int
  mb : Int
  lk : Int
  sq : Int
  d : ByteArray

def decF (l : List Nat) : FrR :=
  if l.getD 4 0 = 0 then ⟨l.getD 0 0, l.getD 1 0, (l.getD 2 0 * 256 + l.getD 3 0 : Nat), (l.getD 4 0 : Int) - 1, 0, ⟨#[]⟩⟩
  else ⟨l.getD 0 0, l.getD 1 0, (l.getD 2 0 * 256 + l.getD 3 0 : Nat), (l.getD 4 0 : Int) - 1, l.getD 5 0, strN ((l.drop 7).take (l.length - 9))⟩
def decG (l : List Nat) : Bool :=
  if l.getD 4 0 = 0 then decide (l.length = 7) && fOk (l.getD 0 0) (l.getD 1 0) (l.getD 2 0 * 256 + l.getD 3 0 : Nat) ((l.getD 4 0 : Int) - 1) 0 0
  else decide (l.length = 9 + l.getD 6 0) && fOk (l.getD 0 0) (l.getD 1 0) (l.getD 2 0 * 256 + l.getD 3 0 : Nat) ((l.getD 4 0 : Int) - 1) (l.getD 5 0) (l.length - 9)
/-- Are the bytes a frame? -/
def decOk (l : List Nat) : Bool := decide (7 ≤ l.length) && decide (crcS (l.take (l.length - 2)) = l.getD (l.length - 2) 0 * 256 + l.getD (l.length - 1) 0) && decG l

/-- What the document asks: that Bytes writes just these. -/
def opnOk (l : List Nat) : Bool := decide (7 ≤ l.length) && (
  if l.getD 4 0 = 0 then fOk (l.getD 0 0) (l.getD 1 0) (l.getD 2 0 * 256 + l.getD 3 0 : Nat) ((l.getD 4 0 : Int) - 1) 0 0 && decide (withSum (frN (l.getD 0 0) (l.getD 1 0) (l.getD 2 0 * 256 + l.getD 3 0)) = l)
  else decide (9 ≤ l.length) && fOk (l.getD 0 0) (l.getD 1 0) (l.getD 2 0 * 256 + l.getD 3 0 : Nat) ((l.getD 4 0 : Int) - 1) (l.getD 5 0) (l.length - 9) && decide (withSum (frB (l.getD 0 0) (l.getD 1 0) (l.getD 2 0 * 256 + l.getD 3 0) (l.getD 4 0 - 1) (l.getD 5 0) ((l.drop 7).take (l.length - 9))) = l))

theorem tail2 (t : List Nat) (h : 2 ≤ t.length) : ∃ data x y, t = data ++ [x, y] := by
  refine ⟨t.take (t.length - 2), t.getD (t.length - 2) 0, t.getD (t.length - 1) 0, ?_⟩
  apply List.ext_getElem?
  intro i
  rw [List.getElem?_append]
  have hl : (t.take (t.length - 2)).length = t.length - 2 := by rw [List.length_take]; omega
  rw [hl]
  split
  · rw [List.getElem?_take_of_lt (by omega)]
  · by_cases h1 : i = t.length - 2
    · subst h1
      rw [Nat.sub_self]
      simp [List.getD, List.getElem?_eq_getElem (show t.length - 2 < t.length by omega)]
    · by_cases h2 : i = t.length - 1
      · subst h2
        rw [show t.length - 1 - (t.length - 2) = 1 by omega]
        simp [List.getD, List.getElem?_eq_getElem (show t.length - 1 < t.length by omega)]
      · rw [List.getElem?_eq_none (by omega), List.getElem?_eq_none (by simp; omega)]

theorem head7 (l : List Nat) (h : 7 ≤ l.length) : ∃ a b c d e f g t, l = a :: b :: c :: d :: e :: f :: g :: t := by
  match l, h with
  | a :: b :: c :: d :: e :: f :: g :: t, _ => exact ⟨a, b, c, d, e, f, g, t, rfl⟩
theorem sum_pair (s x y : Nat) (hs : s < 65536) (hx : x < 256) (hy : y < 256) : ([s / 256, s % 256] = [x, y]) ↔ s = x * 256 + y := by
  simp; omega

theorem opn_eq (l : List Nat) (hl : ∀ x ∈ l, x < 256) : opnOk l = decOk l := by
  by_cases h7 : 7 ≤ l.length
  · obtain ⟨a, b, c, d, e, f, g, t, rfl⟩ := head7 l h7
    have ha : ∀ x ∈ [a, b, c, d, e, f, g], x < 256 := fun x hx => hl x (by simp at hx ⊢; rcases hx with h | h | h | h | h | h | h <;> simp [h])
    have hd : d < 256 := ha d (by simp)
    have m1 : (c * 256 + d) / 256 = c := by omega
    have m2 : (c * 256 + d) % 256 = d := by omega
    simp only [opnOk, decOk, decG, List.getD_cons_zero, List.getD_cons_succ, List.drop_succ_cons, List.drop_zero, h7, decide_true, Bool.true_and]
    by_cases he : e = 0
    · subst he
      rw [if_pos rfl, if_pos rfl]
      by_cases ht : t = []
      · subst ht
        have hs := crcS_lt [a, b, c, d, 0] (fun x hx => ha x (by simp at hx ⊢; omega))
        have key : (withSum (frN a b (c * 256 + d)) = [a, b, c, d, 0, f, g]) ↔ crcS [a, b, c, d, 0] = f * 256 + g := by
          unfold withSum frN
          rw [m1, m2, ← sum_pair _ f g hs (ha f (by simp)) (ha g (by simp))]
          simp
        simp only [key]
        simp [Bool.and_comm]
      · have h8 : 7 < (a :: b :: c :: d :: 0 :: f :: g :: t).length := by
          have : 0 < t.length := List.length_pos_iff.2 ht
          simp only [List.length_cons]; omega
        have n1 : ¬ (withSum (frN a b (c * 256 + d)) = a :: b :: c :: d :: 0 :: f :: g :: t) := by
          intro e
          have := congrArg List.length e
          rw [← this] at h8
          simp [withSum, frN] at h8
        have n2 : ¬ ((a :: b :: c :: d :: 0 :: f :: g :: t).length = 7) := by omega
        simp [n1, n2, ht]
    · rw [if_neg he, if_neg he]
      by_cases h9 : 9 ≤ (a :: b :: c :: d :: e :: f :: g :: t).length
      · obtain ⟨data, x, y, rfl⟩ := tail2 t (by simp only [List.length_cons] at h9; omega)
        have hlen : (a :: b :: c :: d :: e :: f :: g :: (data ++ [x, y])).length = data.length + 9 := by simp
        have hx : x < 256 := hl x (by simp)
        have hy : y < 256 := hl y (by simp)
        have hs := crcS_lt (a :: b :: c :: d :: e :: f :: g :: data) (fun z hz => hl z (by simp at hz ⊢; rcases hz with h | h | h | h | h | h | h | h <;> simp [h]))
        have e1 : (a :: b :: c :: d :: e :: f :: g :: (data ++ [x, y])).take (data.length + 7) = a :: b :: c :: d :: e :: f :: g :: data := by
          simp [List.take_append]
        have e2 : (a :: b :: c :: d :: e :: f :: g :: (data ++ [x, y])).getD (data.length + 7) 0 = x := by
          simp [List.getD]
        have e3 : (a :: b :: c :: d :: e :: f :: g :: (data ++ [x, y])).getD (data.length + 8) 0 = y := by
          simp [List.getD, List.getElem?_append]
        rw [hlen, show data.length + 9 - 9 = data.length by omega, show data.length + 9 - 2 = data.length + 7 by omega, show data.length + 9 - 1 = data.length + 8 by omega, e1, e2, e3, List.take_left]
        have key : (withSum (frB a b (c * 256 + d) (e - 1) f data) = a :: b :: c :: d :: e :: f :: g :: (data ++ [x, y])) ↔ (g = data.length ∧ crcS (a :: b :: c :: d :: e :: f :: g :: data) = x * 256 + y) := by
          unfold withSum frB
          rw [m1, m2, show e - 1 + 1 = e by omega, ← sum_pair _ x y hs hx hy]
          simp only [List.cons_append, List.nil_append, List.cons.injEq, true_and]
          constructor
          · rintro ⟨rfl, h⟩
            exact ⟨rfl, by have := List.append_cancel_left h; simpa using this⟩
          · rintro ⟨rfl, h⟩
            refine ⟨rfl, ?_⟩
            congr 1
            simpa using h
        simp only [key]
        by_cases hg : g = data.length
        · subst hg
          have : decide (data.length + 9 = 9 + data.length) = true := decide_eq_true (by omega)
          simp [Bool.and_comm, Nat.add_comm]
        · have n1 : ¬ (data.length + 9 = 9 + g) := by omega
          simp [hg, n1]
      · have n2 : ¬ ((a :: b :: c :: d :: e :: f :: g :: t).length = 9 + g) := by omega
        simp only [h9, n2, decide_false, Bool.false_and, Bool.and_false]
  · simp only [opnOk, decOk, h7, decide_false, Bool.false_and]

theorem withSum_len (l : List Nat) : (withSum l).length = l.length + 2 := by simp [withSum]
theorem withSum_parts (l : List Nat) (hl : ∀ x ∈ l, x < 256) : (withSum l).take l.length = l ∧ (withSum l).getD l.length 0 = crcS l / 256 ∧ (withSum l).getD (l.length + 1) 0 = crcS l % 256 := by
  unfold withSum
  exact ⟨List.take_left, by simp [List.getD], by simp [List.getD, List.getElem?_append]⟩
theorem withSum_lt (l : List Nat) (hl : ∀ x ∈ l, x < 256) : ∀ x ∈ withSum l, x < 256 := by
  have := crcS_lt l hl
  intro x hx
  unfold withSum at hx
  rw [List.mem_append] at hx
  rcases hx with hx | hx
  · exact hl x hx
  · simp at hx; omega
theorem frB_lt (nd sl mb lk sq : Nat) (d : ByteArray) (h1 : nd < 16) (h2 : sl < 32) (h3 : mb < 65536) (h4 : lk < 8) (h5 : sq < 256) (h6 : d.size ≤ 40) : ∀ x ∈ frB nd sl mb lk sq (dl d), x < 256 := by
  intro x hx
  unfold frB at hx
  rw [List.mem_append, List.mem_append] at hx
  rcases hx with hx | hx | hx
  · simp at hx; omega
  · simp [dl_len] at hx; omega
  · exact dl_lt d x hx
theorem frN_lt (nd sl mb : Nat) (h1 : nd < 16) (h2 : sl < 32) (h3 : mb < 65536) : ∀ x ∈ frN nd sl mb, x < 256 := by
  intro x hx
  unfold frN at hx
  simp at hx; omega
theorem back_some (nd sl mb lk sq : Nat) (d : ByteArray) (h1 : nd < 16) (h2 : sl < 32) (h3 : mb < 65536) (h4 : lk < 8) (h5 : sq < 256) (h6 : d.size ≤ 40) :
    decOk (withSum (frB nd sl mb lk sq (dl d))) = true ∧ decF (withSum (frB nd sl mb lk sq (dl d))) = ⟨nd, sl, mb, lk, sq, d⟩ := by
  have hlt := frB_lt nd sl mb lk sq d h1 h2 h3 h4 h5 h6
  have hcs := crcS_lt _ hlt
  obtain ⟨p1, p2, p3⟩ := withSum_parts _ hlt
  have hlen : (frB nd sl mb lk sq (dl d)).length = 7 + d.size := by simp [frB, dl_len]; omega
  have hw : withSum (frB nd sl mb lk sq (dl d)) = nd :: sl :: (mb / 256) :: (mb % 256) :: (lk + 1) :: sq :: d.size :: (dl d ++ [crcS (frB nd sl mb lk sq (dl d)) / 256, crcS (frB nd sl mb lk sq (dl d)) % 256]) := by
    simp [withSum, frB, dl_len]
  have hl2 := withSum_len (frB nd sl mb lk sq (dl d))
  rw [hlen] at hl2 p1 p2 p3
  have hdl := dl_len d
  have hmb : mb / 256 * 256 + mb % 256 = mb := by omega
  refine ⟨?_, ?_⟩
  · unfold decOk
    rw [hl2, show 7 + d.size + 2 - 2 = 7 + d.size by omega, show 7 + d.size + 2 - 1 = 7 + d.size + 1 by omega, p1, p2, p3]
    have e1 : decide (7 ≤ 7 + d.size + 2) = true := decide_eq_true (by omega)
    have e2 : decide (crcS (frB nd sl mb lk sq (dl d)) = crcS (frB nd sl mb lk sq (dl d)) / 256 * 256 + crcS (frB nd sl mb lk sq (dl d)) % 256) = true := decide_eq_true (by omega)
    rw [e1, e2]
    unfold decG
    rw [hl2, hw]
    simp only [List.getD_cons_zero, List.getD_cons_succ]
    rw [if_neg (by omega), hmb]
    have e3 : decide (7 + d.size + 2 = 9 + d.size) = true := decide_eq_true (by omega)
    rw [e3]
    simp only [Bool.true_and]
    unfold fOk
    apply decide_eq_true
    omega
  · unfold decF
    rw [hl2, hw]
    simp only [List.getD_cons_zero, List.getD_cons_succ, List.drop_succ_cons, List.drop_zero]
    rw [if_neg (by omega), hmb, show 7 + d.size + 2 - 9 = (dl d).length by omega, List.take_left, strN_dl, show ((lk + 1 : Nat) : Int) - 1 = lk by omega]
theorem back_none (nd sl mb : Nat) (h1 : nd < 16) (h2 : sl < 32) (h3 : mb < 65536) :
    decOk (withSum (frN nd sl mb)) = true ∧ decF (withSum (frN nd sl mb)) = ⟨nd, sl, mb, -1, 0, ⟨#[]⟩⟩ := by
  have hlt := frN_lt nd sl mb h1 h2 h3
  have hcs := crcS_lt _ hlt
  have hw : withSum (frN nd sl mb) = [nd, sl, mb / 256, mb % 256, 0, crcS (frN nd sl mb) / 256, crcS (frN nd sl mb) % 256] := by simp [withSum, frN]
  have hmb : mb / 256 * 256 + mb % 256 = mb := by omega
  refine ⟨?_, ?_⟩
  · unfold decOk decG
    rw [hw]
    have e2 : decide (crcS ([nd, sl, mb / 256, mb % 256, 0, crcS (frN nd sl mb) / 256, crcS (frN nd sl mb) % 256].take 5) = crcS (frN nd sl mb) / 256 * 256 + crcS (frN nd sl mb) % 256) = true := by
      apply decide_eq_true
      show crcS (frN nd sl mb) = _
      omega
    simp only [List.length_cons, List.length_nil, List.getD_cons_zero, List.getD_cons_succ]
    rw [show (0 + 1 + 1 + 1 + 1 + 1 + 1 + 1 - 2) = 5 from rfl, e2, if_pos trivial, hmb]
    unfold fOk
    simp
    omega
  · unfold decF
    rw [hw]
    simp only [List.getD_cons_zero, List.getD_cons_succ]
    rw [if_pos trivial, hmb]
    rfl
end Go.Proofs.Ytdbegdhbabfnoaa
