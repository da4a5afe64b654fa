/- Windows of a frame: whose time it is, for how long, and shares: plain facts, no program in sight. -/
import Derived.Test.YtfdadkngbnhmeaaDoorLib
namespace Go.Proofs.YtfdadkngbnhmeaaDoor
/-- A window: whose it is, from when to when. -/
structure Wn where
  p : Int
  f : Int
  t : Int
/-- Windows of a frame that may be, the first not ahead of e. -/
def wOk (fr : Int) : Int → List Wn → Bool
  | _, [] => true
  | e, w :: l => decide (w.f < w.t) && decide (e ≤ w.f) && decide (w.t ≤ fr) && decide (0 ≤ w.p) && decide (w.p < 6) && wOk fr w.t l
/-- Whose time x is (-1: nobody's). -/
def prt : List Wn → Int → Int
  | [], _ => -1
  | w :: l, x => if x < w.t then (if x < w.f then -1 else w.p) else prt l x
/-- For how long. -/
def lft (fr f0 : Int) : List Wn → Int → Int
  | [], x => fr - x + f0
  | w :: l, x => if x < w.t then (if x < w.f then w.f - x else w.t - x) else lft fr f0 l x
theorem wOk_cons {fr e : Int} {w : Wn} {l : List Wn} (h : wOk fr e (w :: l) = true) : w.f < w.t ∧ e ≤ w.f ∧ w.t ≤ fr ∧ 0 ≤ w.p ∧ w.p < 6 ∧ wOk fr w.t l = true := by
  simp only [wOk, Bool.and_eq_true, decide_eq_true_eq] at h
  exact ⟨h.1.1.1.1.1, h.1.1.1.1.2, h.1.1.1.2, h.1.1.2, h.1.2, h.2⟩
theorem prt_le {fr e : Int} {ws : List Wn} (h : wOk fr e ws = true) (x : Int) : -1 ≤ prt ws x ∧ prt ws x < 6 := by
  induction ws generalizing e with
  | nil => simp [prt]
  | cons w l ih =>
    obtain ⟨h1, h2, h3, h4, h5, h6⟩ := wOk_cons h
    have := ih h6
    unfold prt
    split
    · split <;> omega
    · exact this
/-- Behind the end of all. -/
theorem prt_step {fr e f0 : Int} {ws : List Wn} (h : wOk fr e ws = true) (x : Int) (h1 : 1 < lft fr f0 ws x) (_ : x + 1 < fr) : prt ws (x + 1) = prt ws x ∧ lft fr f0 ws (x + 1) = lft fr f0 ws x - 1 := by
  induction ws generalizing e with
  | nil => simp [prt, lft]; omega
  | cons w l ih =>
    obtain ⟨g1, g2, g3, g4, g5, g6⟩ := wOk_cons h
    unfold lft at h1
    unfold prt lft
    by_cases c1 : x < w.t
    · rw [if_pos c1] at h1
      by_cases c2 : x < w.f
      · rw [if_pos c2] at h1
        have d1 : x + 1 < w.t := by omega
        have d2 : x + 1 < w.f := by omega
        rw [if_pos d1, if_pos d2, if_pos d1, if_pos d2, if_pos c1, if_pos c2, if_pos c1, if_pos c2]
        omega
      · rw [if_neg c2] at h1
        have d1 : x + 1 < w.t := by omega
        have d2 : ¬ x + 1 < w.f := by omega
        rw [if_pos d1, if_neg d2, if_pos d1, if_neg d2, if_pos c1, if_neg c2, if_pos c1, if_neg c2]
        omega
    · rw [if_neg c1] at h1
      have d1 : ¬ x + 1 < w.t := by omega
      rw [if_neg d1, if_neg d1, if_neg c1, if_neg c1]
      exact ih g6 h1
theorem prt_wrap {fr e f0 : Int} {ws : List Wn} (h : wOk fr e ws = true) (x : Int) (h1 : 1 < lft fr f0 ws x) (h2 : x + 1 = fr) : prt ws x = -1 ∧ lft fr f0 ws x = 1 + f0 := by
  induction ws generalizing e with
  | nil => simp [prt, lft]; omega
  | cons w l ih =>
    obtain ⟨g1, g2, g3, g4, g5, g6⟩ := wOk_cons h
    unfold lft at h1
    unfold prt lft
    by_cases c1 : x < w.t
    · rw [if_pos c1] at h1
      by_cases c2 : x < w.f
      · omega
      · rw [if_neg c2] at h1; omega
    · rw [if_neg c1] at h1
      rw [if_neg c1, if_neg c1]
      exact ih g6 h1
/-- Where nobody runs and the frame is not over: somebody runs then. -/
theorem prt_next {fr e f0 : Int} {ws : List Wn} (h : wOk fr e ws = true) (x : Int) (_ : x < fr) (h1 : prt ws x < 0) : (∃ y, x < y ∧ y < fr ∧ lft fr f0 ws x = y - x ∧ 0 ≤ prt ws y ∧ e ≤ y) ∨ lft fr f0 ws x = fr - x + f0 := by
  induction ws generalizing e with
  | nil => right; rfl
  | cons w l ih =>
    obtain ⟨g1, g2, g3, g4, g5, g6⟩ := wOk_cons h
    unfold prt at h1
    by_cases c1 : x < w.t
    · rw [if_pos c1] at h1
      by_cases c2 : x < w.f
      · left
        refine ⟨w.f, c2, by omega, by unfold lft; rw [if_pos c1, if_pos c2], ?_, g2⟩
        unfold prt
        rw [if_pos g1, if_neg (by omega)]; exact g4
      · rw [if_neg c2] at h1; omega
    · rw [if_neg c1] at h1
      rcases ih g6 h1 with ⟨y, y1, y2, y3, y4, y5⟩ | hr
      · left
        refine ⟨y, y1, y2, ?_, ?_, by omega⟩
        · unfold lft; rw [if_neg c1]; exact y3
        · unfold prt; rw [if_neg (by omega)]; exact y4
      · right
        unfold lft; rw [if_neg c1]; exact hr
theorem lft_pos {fr e f0 : Int} {ws : List Wn} (h : wOk fr e ws = true) (x : Int) (hx : x < fr) (h0 : 0 ≤ f0) : 0 < lft fr f0 ws x := by
  induction ws generalizing e with
  | nil => simp [lft]; omega
  | cons w l ih =>
    obtain ⟨g1, g2, g3, g4, g5, g6⟩ := wOk_cons h
    unfold lft
    split
    · split <;> omega
    · exact ih g6

/-- What At tells. -/
def atP (ws : List Wn) (x : Int) : Int := prt ws x
def atL (fr : Int) (ws : List Wn) (x : Int) : Int := match ws with
  | [] => -1
  | w :: l => lft fr w.f (w :: l) x
theorem atL_cons (fr : Int) (w : Wn) (l : List Wn) (x : Int) : atL fr (w :: l) x = lft fr w.f (w :: l) x := rfl
theorem at_next (fr : Int) (ws : List Wn) (h : wOk fr 0 ws = true) (x : Int) (h0 : 0 ≤ x) (hx : x < fr) (h1 : 1 < atL fr ws x) : atP ws ((x + 1) % fr) = atP ws x ∧ atL fr ws ((x + 1) % fr) = atL fr ws x - 1 := by
  cases ws with
  | nil => simp [atL] at h1
  | cons w l =>
    obtain ⟨g1, g2, g3, g4, g5, g6⟩ := wOk_cons h
    unfold atL at h1
    by_cases hlt : x + 1 < fr
    · rw [Int.emod_eq_of_lt (by omega) hlt]
      exact prt_step h x h1 hlt
    · have he : x + 1 = fr := by omega
      obtain ⟨e1, e2⟩ := prt_wrap h x h1 he
      simp only [] at h1
      rw [e2] at h1
      rw [he, Int.emod_self]
      unfold atP
      rw [atL_cons, atL_cons, e1, e2]
      refine ⟨?_, ?_⟩
      · unfold prt; rw [if_pos (by omega), if_pos (by omega)]
      · unfold lft; rw [if_pos (by omega), if_pos (by omega)]; omega
theorem at_then (fr : Int) (ws : List Wn) (h : wOk fr 0 ws = true) (x : Int) (_ : 0 ≤ x) (hx : x < fr) (h1 : 0 < atL fr ws x) (h2 : atP ws x < 0) : 0 ≤ atP ws ((x + atL fr ws x) % fr) := by
  cases ws with
  | nil => simp [atL] at h1
  | cons w l =>
    obtain ⟨g1, g2, g3, g4, g5, g6⟩ := wOk_cons h
    rw [atL_cons]
    rcases prt_next (f0 := w.f) h x hx h2 with ⟨y, y1, y2, y3, y4, _⟩ | hr
    · rw [y3, show x + (y - x) = y by omega, Int.emod_eq_of_lt (by omega) y2]
      exact y4
    · rw [hr, show x + (fr - x + w.f) = w.f + fr by omega, Int.add_emod_right, Int.emod_eq_of_lt (by omega) (by omega)]
      unfold atP prt
      rw [if_pos g1, if_neg (by omega)]; exact g4

/-- The share of r ahead of i. -/
def shr (r : Int) (i : Int) : List Wn → Int
  | [] => 0
  | w :: l => (if w.p = r then max w.f (min i w.t) - w.f else 0) + shr r i l
/-- All of r's share. -/
def shA (r : Int) : List Wn → Int
  | [] => 0
  | w :: l => (if w.p = r then w.t - w.f else 0) + shA r l
theorem shr_early {fr e : Int} {ws : List Wn} (h : wOk fr e ws = true) (r i : Int) (hi : i ≤ e) : shr r i ws = 0 := by
  induction ws generalizing e with
  | nil => rfl
  | cons w l ih =>
    obtain ⟨g1, g2, g3, g4, g5, g6⟩ := wOk_cons h
    unfold shr
    rw [ih g6 (by omega)]
    split <;> omega
theorem shr_zero {fr : Int} {ws : List Wn} (h : wOk fr 0 ws = true) (r : Int) : shr r 0 ws = 0 := shr_early h r 0 (Int.le_refl _)
theorem shr_all {fr e : Int} {ws : List Wn} (h : wOk fr e ws = true) (r : Int) : shr r fr ws = shA r ws := by
  induction ws generalizing e with
  | nil => rfl
  | cons w l ih =>
    obtain ⟨g1, g2, g3, g4, g5, g6⟩ := wOk_cons h
    unfold shr shA
    rw [ih g6]
    split <;> omega
theorem shr_step {fr e : Int} {ws : List Wn} (h : wOk fr e ws = true) (r i : Int) (hr : 0 ≤ r) : shr r (i + 1) ws = shr r i ws + (if prt ws i = r then 1 else 0) := by
  induction ws generalizing e with
  | nil => simp [shr, prt]; omega
  | cons w l ih =>
    obtain ⟨g1, g2, g3, g4, g5, g6⟩ := wOk_cons h
    unfold shr prt
    by_cases c1 : i < w.t
    · rw [shr_early g6 r i (by omega), shr_early g6 r (i + 1) (by omega), if_pos c1]
      by_cases c2 : i < w.f
      · rw [if_pos c2, if_neg (by omega : ¬ (-1 : Int) = r)]
        split <;> omega
      · rw [if_neg c2]
        split <;> omega
    · rw [if_neg c1, ih g6]
      split <;> split <;> omega
theorem shr_nonneg (r i : Int) (ws : List Wn) : 0 ≤ shr r i ws := by
  induction ws with
  | nil => exact Int.le_refl _
  | cons w l ih => unfold shr; split <;> omega

/-- The document's At: the window that x is in. -/
def rfind : List Wn → Int → Option Wn
  | [], _ => none
  | w :: l, x => if w.f ≤ x ∧ x ≤ w.t - 1 then some w else rfind l x
def rnxt (fr : Int) : List Wn → Int → Int → Int
  | [], _, n => n
  | w :: l, x, n => rnxt fr l x (if n < 0 ∨ (if w.f - x < 0 then w.f - x + fr else w.f - x) < n then (if w.f - x < 0 then w.f - x + fr else w.f - x) else n)
theorem rfind_late {fr e : Int} {ws : List Wn} (h : wOk fr e ws = true) (x : Int) (hx : x < e) : rfind ws x = none := by
  induction ws generalizing e with
  | nil => rfl
  | cons w l ih =>
    obtain ⟨g1, g2, g3, g4, g5, g6⟩ := wOk_cons h
    unfold rfind
    rw [if_neg (by omega)]
    exact ih g6 (by omega)
theorem rnxt_late {fr e : Int} {ws : List Wn} (h : wOk fr e ws = true) (x n : Int) (h0 : 0 ≤ n) (hn : n ≤ e - x) (hx : x < e) : rnxt fr ws x n = n := by
  induction ws generalizing e with
  | nil => rfl
  | cons w l ih =>
    obtain ⟨g1, g2, g3, g4, g5, g6⟩ := wOk_cons h
    unfold rnxt
    rw [if_neg (by split <;> omega)]
    exact ih g6 (by omega) (by omega)
theorem rat_in {fr e f0 : Int} {ws : List Wn} (h : wOk fr e ws = true) (x : Int) : (∃ w, rfind ws x = some w ∧ w.p = prt ws x ∧ w.t - x = lft fr f0 ws x) ∨ (rfind ws x = none ∧ prt ws x = -1 ∧ ∀ n, 0 ≤ n → n = fr - x + f0 → f0 ≤ e → x < fr → 0 ≤ f0 → rnxt fr ws x n = lft fr f0 ws x) := by
  induction ws generalizing e with
  | nil => right; exact ⟨rfl, rfl, fun n _ hn _ _ _ => hn⟩
  | cons w l ih =>
    obtain ⟨g1, g2, g3, g4, g5, g6⟩ := wOk_cons h
    unfold rfind prt lft
    by_cases c1 : x < w.t
    · by_cases c2 : x < w.f
      · right
        rw [if_pos c1, if_pos c2, if_neg (by omega)]
        refine ⟨rfind_late g6 x c1, rfl, ?_⟩
        intro n h0 hn hf hx hf0
        unfold rnxt
        rw [if_neg (by omega : ¬ w.f - x < 0), if_pos (by omega), if_pos c1, if_pos c2]
        exact rnxt_late g6 x _ (by omega) (by omega) c1
      · left
        rw [if_pos (by omega), if_pos c1, if_neg c2, if_pos c1, if_neg c2]
        exact ⟨w, rfl, rfl, rfl⟩
    · rw [if_neg c1, if_neg c1, if_neg (by omega)]
      rcases ih g6 with ⟨v, e1, e2, e3⟩ | ⟨e1, e2, e3⟩
      · left; exact ⟨v, e1, e2, e3⟩
      · right
        refine ⟨e1, e2, ?_⟩
        intro n h0 hn hf hx hf0
        unfold rnxt
        rw [if_pos (by omega : w.f - x < 0), if_neg (by omega)]
        exact e3 n h0 hn (by omega) hx hf0
/-- What the document tells is what At tells. -/
theorem rat_eq (fr : Int) (ws : List Wn) (h : wOk fr 0 ws = true) (x : Int) (_ : 0 ≤ x) (hx : x < fr) :
    (∃ w, rfind ws x = some w ∧ w.p = atP ws x ∧ w.t - x = atL fr ws x) ∨ (rfind ws x = none ∧ atP ws x = -1 ∧ rnxt fr ws x (-1) = atL fr ws x) := by
  cases ws with
  | nil => right; exact ⟨rfl, rfl, rfl⟩
  | cons w l =>
    obtain ⟨g1, g2, g3, g4, g5, g6⟩ := wOk_cons h
    rw [atL_cons]
    unfold atP
    by_cases c1 : x < w.t
    · by_cases c2 : x < w.f
      · right
        unfold rfind prt lft rnxt
        rw [if_neg (by omega), if_pos c1, if_pos c2, if_pos c1, if_pos c2, if_neg (by omega : ¬ w.f - x < 0), if_pos (by omega)]
        exact ⟨rfind_late g6 x c1, rfl, rnxt_late g6 x _ (by omega) (by omega) c1⟩
      · left
        unfold rfind prt lft
        rw [if_pos (by omega), if_pos c1, if_neg c2, if_pos c1, if_neg c2]
        exact ⟨w, rfl, rfl, rfl⟩
    · unfold rfind prt lft rnxt
      rw [if_neg c1, if_neg c1, if_neg (by omega), if_pos (by omega : w.f - x < 0), if_pos (by omega)]
      rcases rat_in (f0 := w.f) g6 x with ⟨v, e1, e2, e3⟩ | ⟨e1, e2, e3⟩
      · left; exact ⟨v, e1, e2, e3⟩
      · right
        exact ⟨e1, e2, e3 _ (by omega) (by omega) (by omega) hx (by omega)⟩
end Go.Proofs.YtfdadkngbnhmeaaDoor
