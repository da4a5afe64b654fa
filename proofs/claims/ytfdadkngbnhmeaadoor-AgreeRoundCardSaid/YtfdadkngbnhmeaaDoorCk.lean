/- What is wrong first with a plan: plain facts, no program in sight. -/
import Derived.Test.YtfdadkngbnhmeaaDoorPt
namespace Go.Proofs.YtfdadkngbnhmeaaDoor
/-- The first error of some, and its place (0: none). -/
def firstE : List Int → Nat → Int × Nat
  | [], _ => (0, 0)
  | e :: l, i => if e = 0 then firstE l (i + 1) else (e, i)
theorem firstE_gen (l : List Int) (i k : Nat) (e : Int) (h : ∀ j, j < k → l[j]? = some 0) (hk : l[k]? = some e) (he : e ≠ 0) : firstE l i = (e, i + k) := by
  induction l generalizing i k with
  | nil => simp at hk
  | cons x l ih =>
    unfold firstE
    cases k with
    | zero => simp at hk; subst hk; rw [if_neg he]; rfl
    | succ k =>
      have hx : x = 0 := by simpa using h 0 (by omega)
      rw [if_pos hx, ih (i + 1) k (fun j hj => by simpa using h (j + 1) (by omega)) (by simpa using hk)]
      congr 1; omega
theorem firstE_at (l : List Int) (k : Nat) (e : Int) (h : ∀ j, j < k → l[j]? = some 0) (hk : l[k]? = some e) (he : e ≠ 0) : firstE l 0 = (e, k) := by
  rw [firstE_gen l 0 k e h hk he]; congr 1; omega
theorem firstE_none (l : List Int) (i : Nat) (h : ∀ j, j < l.length → l[j]? = some 0) : firstE l i = (0, 0) := by
  induction l generalizing i with
  | nil => rfl
  | cons x l ih =>
    have hx : x = 0 := by simpa using h 0 (by simp)
    unfold firstE
    rw [if_pos hx]
    exact ih (i + 1) (fun j hj => by simpa using h (j + 1) (by simp; omega))
theorem firstE_zero (l : List Int) (i : Nat) (h : (firstE l i).1 = 0) : ∀ j, j < l.length → l[j]? = some 0 := by
  induction l generalizing i with
  | nil => intro j hj; simp at hj
  | cons x l ih =>
    unfold firstE at h
    by_cases hx : x = 0
    · rw [if_pos hx] at h
      intro j hj
      cases j with
      | zero => simp [hx]
      | succ j => simpa using ih (i + 1) h j (by simp at hj; omega)
    · rw [if_neg hx] at h; exact absurd h hx

/-- A slot: whose it is, from when to when. -/
structure Sl where
  n : Int
  f : Int
  t : Int
/-- A link. -/
structure Lk where
  f : Int
  t : Int
  b : Int
  q : Int
/-- What is wrong with a span. -/
def spE (f t lo hi : Int) : Int := if t ≤ f then 1 else if f < lo then 10 else if hi < t then 2 else 0
def slE (sk rd nd lo : Int) (s : Sl) : Int := if spE s.f s.t lo (rd - sk - 1) ≠ 0 then spE s.f s.t lo (rd - sk - 1) else if s.n < 0 ∨ nd - 1 < s.n then 7 else 0
/-- Whom a link may not go to. -/
def toBad (nd : Int) (l : Lk) : Bool := decide (l.t ≤ 0) || decide (2 ^ nd.toNat ≤ l.t) || l.t.toNat.testBit l.f.toNat
def lkE (nd : Int) (l : Lk) : Int := if l.f < 0 ∨ nd - 1 < l.f then 7 else if toBad nd l = true then 1 else if l.b < 1 ∨ 137438953472 < l.b ∨ l.q < 1 ∨ 16 < l.q then 2 else 0
def wnE (fr lo : Int) (w : Wn) : Int := if spE w.f w.t lo fr ≠ 0 then spE w.f w.t lo fr else if w.p < 0 ∨ 5 < w.p then 7 else 0
/-- What is wrong with each, in a row. -/
def slEs (sk rd nd : Int) : Int → List Sl → List Int
  | _, [] => []
  | lo, s :: l => slE sk rd nd lo s :: slEs sk rd nd (s.t + sk + 1) l
def wnEs (fr : Int) : Int → List Wn → List Int
  | _, [] => []
  | lo, w :: l => wnE fr lo w :: wnEs fr w.t l
theorem slEs_len (sk rd nd lo : Int) (l : List Sl) : (slEs sk rd nd lo l).length = l.length := by
  induction l generalizing lo with
  | nil => rfl
  | cons s l ih => simp [slEs, ih]
theorem wnEs_len (fr lo : Int) (l : List Wn) : (wnEs fr lo l).length = l.length := by
  induction l generalizing lo with
  | nil => rfl
  | cons s l ih => simp [wnEs, ih]
/-- The bound for the k-th: behind the one ahead. -/
def slLo (sk : Int) (lo : Int) (l : List Sl) (k : Nat) : Int := if k = 0 then lo else match l[k - 1]? with | some s => s.t + sk + 1 | none => lo
def wnLo (lo : Int) (l : List Wn) (k : Nat) : Int := if k = 0 then lo else match l[k - 1]? with | some s => s.t | none => lo
theorem slLo_zero (sk lo : Int) (l : List Sl) : slLo sk lo l 0 = lo := rfl
theorem slLo_succ (sk lo : Int) (l : List Sl) (k : Nat) (s : Sl) (h : l[k]? = some s) : slLo sk lo l (k + 1) = s.t + sk + 1 := by
  unfold slLo
  rw [if_neg (by omega), Nat.add_sub_cancel, h]
theorem wnLo_zero (lo : Int) (l : List Wn) : wnLo lo l 0 = lo := rfl
theorem wnLo_succ (lo : Int) (l : List Wn) (k : Nat) (s : Wn) (h : l[k]? = some s) : wnLo lo l (k + 1) = s.t := by
  unfold wnLo
  rw [if_neg (by omega), Nat.add_sub_cancel, h]
theorem slEs_at (sk rd nd lo : Int) (l : List Sl) (k : Nat) (s : Sl) (h : l[k]? = some s) : (slEs sk rd nd lo l)[k]? = some (slE sk rd nd (slLo sk lo l k) s) := by
  induction l generalizing lo k with
  | nil => simp at h
  | cons x l ih =>
    cases k with
    | zero => simp at h; subst h; simp [slEs, slLo]
    | succ k =>
      have h' : l[k]? = some s := by simpa using h
      rw [slEs, List.getElem?_cons_succ, ih _ k h']
      congr 2
      cases k with
      | zero => simp [slLo]
      | succ k => simp [slLo]; cases e : l[k]? with
        | none => have := List.getElem?_eq_none_iff.1 e; have := (List.getElem?_eq_some_iff.1 h').1; omega
        | some _ => rfl
theorem wnEs_at (fr lo : Int) (l : List Wn) (k : Nat) (s : Wn) (h : l[k]? = some s) : (wnEs fr lo l)[k]? = some (wnE fr (wnLo lo l k) s) := by
  induction l generalizing lo k with
  | nil => simp at h
  | cons x l ih =>
    cases k with
    | zero => simp at h; subst h; simp [wnEs, wnLo]
    | succ k =>
      have h' : l[k]? = some s := by simpa using h
      rw [wnEs, List.getElem?_cons_succ, ih _ k h']
      congr 2
      cases k with
      | zero => simp [wnLo]
      | succ k => simp [wnLo]; cases e : l[k]? with
        | none => have := List.getElem?_eq_none_iff.1 e; have := (List.getElem?_eq_some_iff.1 h').1; omega
        | some _ => rfl

/-- A plan. -/
structure Pl where
  nd : Int
  fa : Int
  sk : Int
  ji : Int
  dr : Int
  rd : Int
  sl : List Sl
  lk : List Lk
  fr : Int
  wn : List Wn
/-- What is wrong with the whole (0: nothing), whatever the rows hold. -/
def headE (p : Pl) : Int :=
  if p.nd < 1 ∨ 16 < p.nd ∨ p.fa < 0 ∨ 16 < p.fa ∨ p.nd < 3 * p.fa + 1 then 1
  else if p.sk < 0 ∨ 137438953472 < p.sk ∨ p.ji < 0 ∨ 137438953472 < p.ji ∨ p.dr < 0 ∨ 137438953472 < p.dr ∨ p.rd < 1 ∨ 137438953472 < p.rd ∨ p.fr < 1 ∨ 137438953472 < p.fr then 2
  else if 32 < p.sl.length ∨ 8 < p.lk.length ∨ 32 < p.wn.length then 4
  else if p.sk < p.sk / 2 + 2 * p.ji + 1 + 2 * p.dr then 13 else 0
/-- What is wrong, and where (-1: nowhere). -/
def chk (p : Pl) : Int × Int :=
  if headE p ≠ 0 then (headE p, -1)
  else if (firstE (slEs p.sk p.rd p.nd 0 p.sl) 0).1 ≠ 0 then ((firstE (slEs p.sk p.rd p.nd 0 p.sl) 0).1, ((firstE (slEs p.sk p.rd p.nd 0 p.sl) 0).2 : Int))
  else if (firstE (p.lk.map (lkE p.nd)) 0).1 ≠ 0 then ((firstE (p.lk.map (lkE p.nd)) 0).1, 1000 + ((firstE (p.lk.map (lkE p.nd)) 0).2 : Int))
  else if (firstE (wnEs p.fr 0 p.wn) 0).1 ≠ 0 then ((firstE (wnEs p.fr 0 p.wn) 0).1, 2000 + ((firstE (wnEs p.fr 0 p.wn) 0).2 : Int))
  else (0, -1)
end Go.Proofs.YtfdadkngbnhmeaaDoor
