/- The contract of metronomeref.Check; conditions: slots, links and windows lie in memory; metronomeref.Fine holds what start-up lays there. -/
import Derived.Test.YtdogdlnaacimpaaGreatDoorP23
import Derived.Test.YtdogdlnaacimpaaGreatDoorP14
import Derived.Test.YtdogdlnaacimpaaGreatDoorP01
set_option linter.unusedVariables false
set_option linter.unusedSimpArgs false
namespace Go.Proofs.YtdogdlnaacimpaaGreatDoor
section
open Go.RowKit
theorem in_same (n lo hi : Int) (v : Bool) (hv : inB n lo hi = v) (w : World) :
 Calls Tryz.prog 43 #[.int .i64 n, .int .i64 lo, .int .i64 hi] w fun e w' => e = .returned (.bool v) ∧ w' = w :=
 (in_is n lo hi v hv w).mono fun _ _ ⟨h1, h2⟩ => ⟨h1, h2.symm⟩
theorem inT {n lo hi : Int} (h : inB n lo hi = true) : lo ≤ n ∧ n ≤ hi := by unfold inB at h; simpa using h
theorem inF {n lo hi : Int} (h : inB n lo hi = false) : n < lo ∨ hi < n := by unfold inB at h; simp at h; omega
theorem rck_results (tmps : Array Value) (w : World) (g : Nat) (a b : Value) (h2 : tmps[2]? = some (.pointer (some ⟨g, 0, none⟩))) (hb : Blk w g 62 #[a, b]) :
 (results Tryz.f42 tmps).run Tryz.prog w = .ok (.agg #[a, b]) w := by
 obtain ⟨k0, k1, _⟩ := hb.cells2
 simp [results, Tryz.results42, go_sem, h2, k0, k1]
/-- What Check answers. -/
def RckPost (w : World) (c : Int × Int) (r : Ending) (w' : World) : Prop := r = .returned (.agg #[.int .i64 c.1, .int .i64 c.2]) ∧ Below w.heap.size w w'
/-- What Check keeps in memory. -/
structure RcAt (w wr : World) (G : Array Value) : Prop where
 g : Blk wr w.heap.size 26 G
 r : Blk wr (w.heap.size + 1) 62 #[.int .i64 0, .int .i64 0]
 old : Below w.heap.size w wr
theorem RcAt.below {w w1 w2 : World} {G : Array Value} (h : RcAt w w1 G) (hB : Below w1.heap.size w1 w2) : RcAt w w2 G := ⟨h.g.below hB h.g.lt, h.r.below hB h.r.lt, h.old.trans (hB.mono h.old.size)⟩
theorem RcAt.alloc {w w1 : World} {G : Array Value} (h : RcAt w w1 G) (o : Obj) : RcAt w (w1.alloc o) G := h.below ((Below.refl _ _).alloc (Nat.le_refl _) o)
theorem RcAt.drewN {w w1 : World} {G : Array Value} (h : RcAt w w1 G) (n : Nat) : RcAt w (w1.drewN n) G := ⟨h.g, h.r, below_drewN h.old n⟩
theorem RcAt.new (w : World) (G : Array Value) : RcAt w ((w.alloc (.cells G 26)).alloc (.cells #[.int .i64 0, .int .i64 0] 62)) G :=
 ⟨(Blk.new w _ _).alloc _, by have := Blk.new (w.alloc (.cells G 26)) 62 #[.int .i64 0, .int .i64 0]; simpa using this, ((Below.refl _ _).alloc (Nat.le_refl _) _).alloc (by simp) _⟩
theorem RcAt.blk {w wr : World} {G : Array Value} (h : RcAt w wr G) (a b : Value) : Blk ((wr.setCell ⟨w.heap.size + 1, 0, none⟩ a).setCell ⟨w.heap.size + 1, 1, none⟩ b) (w.heap.size + 1) 62 #[a, b] := (h.r.set_ 0 _).set_ 1 _
theorem RcAt.post {w wr : World} {G : Array Value} (h : RcAt w wr G) {c : Int × Int} {e pl : Int} (hc : c = (e, pl)) : RckPost w c (.returned (.agg #[.int .i64 e, .int .i64 pl])) ((wr.setCell ⟨w.heap.size + 1, 0, none⟩ (.int .i64 e)).setCell ⟨w.heap.size + 1, 1, none⟩ (.int .i64 pl)) := by
 subst hc
 exact ⟨rfl, (h.old.setCell (p := ⟨w.heap.size + 1, 0, none⟩) (Nat.le_succ _) _).setCell (p := ⟨w.heap.size + 1, 1, none⟩) (Nat.le_succ _) _⟩
theorem and_bit (T F : Nat) (hT : T < 65536) (hF : F < 17) : (bits .and .i64 (T : Int) (wrap64 (2 ^ F)) != 0) = T.testBit F := by
 have h1 : (2 : Nat) ^ F ≤ 2 ^ 16 := Nat.pow_le_pow_right (by omega) (by omega)
 rw [pow_small F hF, i64_and_nat T (2 ^ F) (by omega) (by omega)]
 have e : T &&& 2 ^ F = if T.testBit F then 2 ^ F else 0 := by
  apply Nat.eq_of_testBit_eq
  intro i
  rw [Nat.testBit_and, Nat.testBit_two_pow]
  by_cases hi : F = i
  ·subst hi
   by_cases hb : T.testBit F = true
   ·rw [if_pos hb, Nat.testBit_two_pow]; simp [hb]
   ·rw [if_neg hb]; simp [hb]
  ·by_cases hb : T.testBit F = true
   ·rw [if_pos hb, Nat.testBit_two_pow]; simp [hi]
   ·rw [if_neg hb]; simp [hi]
 rw [e]
 have hp : 0 < (2 : Nat) ^ F := Nat.two_pow_pos F
 by_cases hb : T.testBit F = true
 ·rw [if_pos hb, hb]
  generalize (2 : Nat) ^ F = x at hp
  rw [bne_iff_ne]; omega
 ·rw [if_neg hb]; simp at hb; rw [hb]; rfl
theorem mask_is (n : Nat) (hn : n ≤ 16) : wrap64 (wrap64 (2 ^ n) - 1) = ((2 ^ n - 1 : Nat) : Int) := by
 have h1 : (2 : Nat) ^ n ≤ 2 ^ 16 := Nat.pow_le_pow_right (by omega) (by omega)
 have h2 : 0 < (2 : Nat) ^ n := Nat.two_pow_pos n
 rw [pow_small n (by omega)]
 generalize (2 : Nat) ^ n = x at h1 h2
 unfold wrap64
 omega
theorem to_out (N : Nat) (s : Lk) (h : inB s.t 1 ((2 ^ N - 1 : Nat) : Int) = false) : toBad (N : Int) s = true := by
 have h2 : 0 < (2 : Nat) ^ N := Nat.two_pow_pos N
 rcases inF h with h | h
 ·exact to_bad0 _ s (by omega)
 ·refine to_bad1 _ s ?_
  rw [Int.toNat_natCast]
  have e : ((2 : Int) ^ N) = ((2 ^ N : Nat) : Int) := by simp
  rw [e]; omega
theorem to_in (N T : Nat) (xf xb xq : Int) (h : inB (T : Int) 1 ((2 ^ N - 1 : Nat) : Int) = true) (hN : N ≤ 16) (F : Nat) (hF : F < N) (hf : xf = F) : (bits .and .i64 (T : Int) (wrap64 (2 ^ F)) != 0) = toBad (N : Int) ⟨xf, T, xb, xq⟩ := by
 have h1 : (2 : Nat) ^ N ≤ 2 ^ 16 := Nat.pow_le_pow_right (by omega) (by omega)
 have h2 : 0 < (2 : Nat) ^ N := Nat.two_pow_pos N
 obtain ⟨a, b⟩ := inT h
 subst hf
 rw [and_bit T F (by omega) (by omega), to_bit _ _ (by dsimp only; omega) (by
  dsimp only
  rw [Int.toNat_natCast]
  have e : ((2 : Int) ^ N) = ((2 ^ N : Nat) : Int) := by simp
  rw [e]; omega)]
 simp
theorem sp_one {f t lo hi : Int} (h : t ≤ f) : spE f t lo hi = 1 := by unfold spE; rw [if_pos h]
theorem sp_ten {f t lo hi : Int} (h : ¬ t ≤ f) (h1 : f < lo) : spE f t lo hi = 10 := by unfold spE; rw [if_neg h, if_pos h1]
theorem sp_two {f t lo hi : Int} (h : ¬ t ≤ f) (h1 : ¬ f < lo) (h2 : hi < t) : spE f t lo hi = 2 := by unfold spE; rw [if_neg h, if_neg h1, if_pos h2]
theorem sp_nil {f t lo hi : Int} (h : ¬ t ≤ f) (h1 : ¬ f < lo) (h2 : ¬ hi < t) : spE f t lo hi = 0 := by unfold spE; rw [if_neg h, if_neg h1, if_neg h2]
theorem slE_out {sk rd nd lo : Int} {s : Sl} (h : spE s.f s.t lo (rd - sk - 1) = 0) (h1 : inB s.n 0 (nd - 1) = false) : slE sk rd nd lo s = 7 := by
 unfold slE; rw [h, if_neg (by decide), if_pos (by have := inF h1; omega)]
theorem slE_in {sk rd nd lo : Int} {s : Sl} (h : spE s.f s.t lo (rd - sk - 1) = 0) (h1 : inB s.n 0 (nd - 1) = true) : slE sk rd nd lo s = 0 := by
 unfold slE; rw [h, if_neg (by decide), if_neg (by have := inT h1; omega)]
theorem lk_from {nd : Int} {s : Lk} (h : inB s.f 0 (nd - 1) = false) : lkE nd s = 7 := by unfold lkE; rw [if_pos (by have := inF h; omega)]
theorem lk_to {nd : Int} {s : Lk} (h : inB s.f 0 (nd - 1) = true) (h1 : toBad nd s = true) : lkE nd s = 1 := by unfold lkE; rw [if_neg (by have := inT h; omega), if_pos h1]
theorem lk_rate {nd : Int} {s : Lk} (h : inB s.f 0 (nd - 1) = true) (h1 : toBad nd s = false) (h2 : inB s.b 1 137438953472 = false ∨ inB s.q 1 16 = false) : lkE nd s = 2 := by
 unfold lkE; rw [if_neg (by have := inT h; omega), if_neg (by rw [h1]; decide), if_pos (by rcases h2 with h2 | h2 <;> (have := inF h2; omega))]
theorem lk_fine {nd : Int} {s : Lk} (h : inB s.f 0 (nd - 1) = true) (h1 : toBad nd s = false) (h2 : inB s.b 1 137438953472 = true) (h3 : inB s.q 1 16 = true) : lkE nd s = 0 := by
 unfold lkE; rw [if_neg (by have := inT h; omega), if_neg (by rw [h1]; decide), if_neg (by have := inT h2; have := inT h3; omega)]
/-- The three numbers. -/
def tri (p : Pl) (k : Nat) : Int := if k = 0 then p.sk else if k = 1 then p.ji else p.dr
def h1ok (p : Pl) : Prop := ¬ (p.nd < 1 ∨ 16 < p.nd ∨ p.fa < 0 ∨ 16 < p.fa ∨ p.nd < 3 * p.fa + 1)
def h2ok (p : Pl) : Prop := ¬ (p.sk < 0 ∨ 137438953472 < p.sk ∨ p.ji < 0 ∨ 137438953472 < p.ji ∨ p.dr < 0 ∨ 137438953472 < p.dr ∨ p.rd < 1 ∨ 137438953472 < p.rd ∨ p.fr < 1 ∨ 137438953472 < p.fr)
def h3ok (p : Pl) : Prop := ¬ (32 < p.sl.length ∨ 8 < p.lk.length ∨ 32 < p.wn.length)
theorem head_two {p : Pl} (h : h1ok p) (h2 : ¬ h2ok p) : headE p = 2 := by unfold h1ok at h; unfold h2ok at h2; unfold headE; rw [if_neg h, if_pos (Decidable.of_not_not h2)]
theorem head_four {p : Pl} (h : h1ok p) (h2 : h2ok p) (h3 : ¬ h3ok p) : headE p = 4 := by unfold h1ok at h; unfold h2ok at h2; unfold h3ok at h3; unfold headE; rw [if_neg h, if_neg h2, if_pos (Decidable.of_not_not h3)]
theorem head_13 {p : Pl} (h : h1ok p) (h2 : h2ok p) (h3 : h3ok p) (h4 : p.sk < p.sk / 2 + p.ji * 2 + p.dr * 2 + 1) : headE p = 13 := by unfold h1ok at h; unfold h2ok at h2; unfold h3ok at h3; unfold headE; rw [if_neg h, if_neg h2, if_neg h3, if_pos (by omega)]
theorem head_fine {p : Pl} (h : h1ok p) (h2 : h2ok p) (h3 : h3ok p) (h4 : ¬ p.sk < p.sk / 2 + p.ji * 2 + p.dr * 2 + 1) : headE p = 0 := by unfold h1ok at h; unfold h2ok at h2; unfold h3ok at h3; unfold headE; rw [if_neg h, if_neg h2, if_neg h3, if_neg (by omega)]
theorem tri_bad {p : Pl} {k : Nat} (h : inB (tri p k) 0 137438953472 = false) : ¬ h2ok p := by
 have := inF h
 unfold tri at this
 unfold h2ok
 split at this
 ·omega
 ·split at this <;> omega
theorem tri_next {p : Pl} {k : Nat} (h : ∀ j, j < k → inB (tri p j) 0 137438953472 = true) (h1 : inB (tri p k) 0 137438953472 = true) : ∀ j, j < k + 1 → inB (tri p j) 0 137438953472 = true := by
 intro j hj
 rcases Nat.lt_or_ge j k with h2 | h2
 ·exact h j h2
 ·obtain rfl : j = k := by omega
  exact h1
theorem tri_good {p : Pl} (h : ∀ j, j < 3 → inB (tri p j) 0 137438953472 = true) : 0 ≤ p.sk ∧ p.sk ≤ 137438953472 ∧ 0 ≤ p.ji ∧ p.ji ≤ 137438953472 ∧ 0 ≤ p.dr ∧ p.dr ≤ 137438953472 := by
 have a := inT (h 0 (by omega)); have b := inT (h 1 (by omega)); have c := inT (h 2 (by omega))
 simp [tri] at a b c
 omega
theorem firstE_le (l : List Int) (i : Nat) : (firstE l i).2 ≤ i + l.length := by
 induction l generalizing i with
 | nil => simp [firstE]
 | cons x l ih =>
  unfold firstE
  split
  ·have := ih (i + 1); simp; omega
  ·simp
theorem chk_wins {p : Pl} (hh : headE p = 0) (hS : slF p p.sl.length) (hL : lkF p p.lk.length) (e : Int) (i : Nat) (he : (firstE (wnEs p.fr 0 p.wn) 0).1 = e) (hi : (firstE (wnEs p.fr 0 p.wn) 0).2 = i) : chk p = if e ≠ 0 then (e, 2000 + (i : Int)) else (0, -1) := by
 unfold chk; rw [if_neg (fun g => g hh), if_neg (fun g => g (slF_none hS)), if_neg (fun g => g (lkF_none hL)), he, hi]
section
variable (p : Pl) (A : Option Addr) (len c : Nat) (AL : Option Addr) (ll cl : Nat) (AQ : Option Addr) (lq cq : Nat)
set_option maxRecDepth 100000 in
set_option maxHeartbeats 8000000 in
theorem rck_one (w : World) (h : ¬ (inB p.nd 1 16 = true ∧ 0 ≤ p.fa ∧ p.fa ≤ 100 ∧ p.fa * 3 + 1 ≤ p.nd)) (hc : chk p = (1, -1)) :
 Calls Tryz.prog 42 #[.agg (planC p.nd p.fa p.sk p.ji p.dr p.rd (.slice A len c) (.slice AL ll cl) p.fr (.slice AQ lq cq))] w (RckPost w (chk p)) := by
 have HP := hide (RcAt.new w (planC p.nd p.fa p.sk p.ji p.dr p.rd (.slice A len c) (.slice AL ll cl) p.fr (.slice AQ lq cq)))
 obtain ⟨i0, i1, i2, i3, i4, i5, i6, i7, i8, i9⟩ := HP.out.g.cells10
 have HC := hide hc; clear hc
 generalize chk p = C at *
 cases h1 : inB p.nd 1 16
 case false =>
  clear h
  go_enter Tryz.func42, Tryz.ntmps42
  go_wp2_with fail
  refine (in_is p.nd 1 16 false h1 _).mono ?_
  rintro e w2 ⟨rfl, rfl⟩
  go_wp2_with fail
  refine (bareF 1 _).mono ?_
  rintro e wb ⟨rfl, hB⟩
  have HP2 := hide (HP.out.below hB)
  obtain ⟨k0, k1, f0, f1⟩ := HP2.out.r.cells2
  clear hB
  go_wp2_with fail
  exact bodyPost_ret (rck_results _ _ (w.heap.size + 1) _ _ rfl (HP2.out.blk _ _)) rfl (HP2.out.post HC.out)
 case true =>
  obtain ⟨n1, n2⟩ := inT h1
  by_cases h2 : p.fa < 0
  ·have d2 : decide (p.fa < 0) = true := decide_eq_true h2
   clear h
   go_enter Tryz.func42, Tryz.ntmps42
   go_wp2_with fail
   refine (in_is p.nd 1 16 true h1 _).mono ?_
   rintro e w2 ⟨rfl, rfl⟩
   go_wp2_with fail
   refine (bareF 1 _).mono ?_
   rintro e wb ⟨rfl, hB⟩
   have HP2 := hide (HP.out.below hB)
   obtain ⟨k0, k1, f0, f1⟩ := HP2.out.r.cells2
   clear hB
   go_wp2_with fail
   exact bodyPost_ret (rck_results _ _ (w.heap.size + 1) _ _ rfl (HP2.out.blk _ _)) rfl (HP2.out.post HC.out)
  have d2 : decide (p.fa < 0) = false := decide_eq_false h2
  by_cases h3 : 100 < p.fa
  ·have d3 : decide (100 < p.fa) = true := decide_eq_true h3
   clear h
   go_enter Tryz.func42, Tryz.ntmps42
   go_wp2_with fail
   refine (in_is p.nd 1 16 true h1 _).mono ?_
   rintro e w2 ⟨rfl, rfl⟩
   go_wp2_with fail
   refine (bareF 1 _).mono ?_
   rintro e wb ⟨rfl, hB⟩
   have HP2 := hide (HP.out.below hB)
   obtain ⟨k0, k1, f0, f1⟩ := HP2.out.r.cells2
   clear hB
   go_wp2_with fail
   exact bodyPost_ret (rck_results _ _ (w.heap.size + 1) _ _ rfl (HP2.out.blk _ _)) rfl (HP2.out.post HC.out)
  have d3 : decide (100 < p.fa) = false := decide_eq_false h3
  have d4 : decide (p.nd < p.fa * 3 + 1) = true := decide_eq_true (by by_cases h4 : p.nd < p.fa * 3 + 1; exact h4; exact absurd ⟨h1, by omega, by omega, by omega⟩ h)
  clear h
  go_enter Tryz.func42, Tryz.ntmps42
  go_wp2_with fail
  refine (in_is p.nd 1 16 true h1 _).mono ?_
  rintro e w2 ⟨rfl, rfl⟩
  go_wp2_with fail
  refine (bareF 1 _).mono ?_
  rintro e wb ⟨rfl, hB⟩
  have HP2 := hide (HP.out.below hB)
  obtain ⟨k0, k1, f0, f1⟩ := HP2.out.r.cells2
  clear hB
  go_wp2_with fail
  exact bodyPost_ret (rck_results _ _ (w.heap.size + 1) _ _ rfl (HP2.out.blk _ _)) rfl (HP2.out.post HC.out)
set_option maxRecDepth 100000 in
set_option maxHeartbeats 8000000 in
theorem rck_rest (w : World) (s1 : p.sl.length = len) (l1 : p.lk.length = ll) (q1 : p.wn.length = lq) (s2 : SlotsAt w A len p.sl) (l2 : LinksAt w AL ll p.lk) (q2 : WinsAt w AQ lq p.wn) (hF : FinT w) (h1 : inB p.nd 1 16 = true) (f0 : 0 ≤ p.fa) (f1 : p.fa ≤ 100) (f2 : p.fa * 3 + 1 ≤ p.nd) :
 Calls Tryz.prog 42 #[.agg (planC p.nd p.fa p.sk p.ji p.dr p.rd (.slice A len c) (.slice AL ll cl) p.fr (.slice AQ lq cq))] w (RckPost w (chk p)) := by
 obtain ⟨n1, n2⟩ := inT h1
 obtain ⟨N, hN⟩ : ∃ N : Nat, p.nd = N := ⟨p.nd.toNat, by omega⟩
 have HE1 : Hid (h1ok p) := hide (by unfold h1ok; omega)
 have S1 := hide s1; have L1 := hide l1; have Q1 := hide q1; have S2 := hide s2; have L2 := hide l2; have Q2 := hide q2; have HF := hide hF
 rw [hN] at h1 n1 n2 f2 ⊢
 have HN := hide hN
 have d2 : decide (p.fa < 0) = false := decide_eq_false (by omega)
 have d3 : decide (100 < p.fa) = false := decide_eq_false (by omega)
 have d4 : decide ((N : Int) < p.fa * 3 + 1) = false := decide_eq_false (by omega)
 have HP := hide (RcAt.new w (planC (N : Int) p.fa p.sk p.ji p.dr p.rd (.slice A len c) (.slice AL ll cl) p.fr (.slice AQ lq cq)))
 obtain ⟨i0, i1, i2, i3, i4, i5, i6, i7, i8, i9⟩ := HP.out.g.cells10
 obtain ⟨C, hC⟩ : ∃ C, chk p = C := ⟨_, rfl⟩
 rw [hC]
 have HC := hide hC
 clear hC hN s1 l1 q1 s2 l2 q2 hF
 have HH2 : Hid (∀ e, headE p = e → e ≠ 0 → C = (e, -1)) := hide (fun e h h0 => by rw [← HC.out]; exact chk_head h h0)
 go_enter Tryz.func42, Tryz.ntmps42
 go_wp2_with fail
 refine (in_is (N : Int) 1 16 true h1 _).mono ?_
 rintro e w2 ⟨rfl, rfl⟩
 go_wp2_with fail
 clear d2 d3 d4 h1
 have HB := hide (Blk.new _ 3 #[.int .i64 p.sk, .int .i64 p.ji, .int .i64 p.dr] : Blk (((w.alloc (.cells (planC (N : Int) p.fa p.sk p.ji p.dr p.rd (.slice A len c) (.slice AL ll cl) p.fr (.slice AQ lq cq)) 26)).alloc (.cells #[.int .i64 0, .int .i64 0] 62)).alloc (.cells #[.int .i64 p.sk, .int .i64 p.ji, .int .i64 p.dr] 3)) _ _ _)
 have HP2 := hide (HP.out.alloc (.cells #[.int .i64 p.sk, .int .i64 p.ji, .int .i64 p.dr] 3))
 clear HP i0 i1 i2 i3 i4 i5 i6 i7 i8 i9
 go_loopw [45] (fun i wr => ∃ k : Nat, k ≤ 3 ∧ i = .int .i64 k ∧ Hid (∀ j, j < k → inB (tri p j) 0 137438953472 = true) ∧ Hid (RcAt w wr (planC (N : Int) p.fa p.sk p.ji p.dr p.rd (.slice A len c) (.slice AL ll cl) p.fr (.slice AQ lq cq))) ∧ Hid (Blk wr (w.heap.size + 1 + 1) 3 #[.int .i64 p.sk, .int .i64 p.ji, .int .i64 p.dr])) (fun i _ => 3 - (intOf i).toNat)
 case atStart => exact ⟨0, by omega, rfl, hide (fun j hj => by omega), HP2, hide (by have := HB.out; simpa using this)⟩
 case round =>
  clear HP2 HB
  obtain ⟨k, hk, rfl, HT, HP, HB⟩ := hrel
  by_cases hlt : k < 3
  ·obtain ⟨z, hz⟩ : ∃ z, tri p k = z := ⟨_, rfl⟩
   have c0 : wr.cell? ⟨w.heap.size + 1 + 1, k, none⟩ = some (.int .i64 z) := by
    rw [HB.out.cell k, ← hz]
    match k, hlt with
    | 0, _ => rfl
    | 1, _ => rfl
    | 2, _ => rfl
   have HZ := hide hz; clear hz
   cases hi : inB z 0 137438953472
   case false =>
    have HE2 : Hid (C = (2, -1)) := hide (HH2.out 2 (head_two HE1.out (tri_bad (k := k) (by rw [HZ.out]; exact hi))) (by decide))
    go_wp2_with fail
    refine (in_is z 0 137438953472 false hi _).mono ?_
    rintro e w3 ⟨rfl, rfl⟩
    go_wp2_with fail
    refine (bareF 2 _).mono ?_
    rintro e wb ⟨rfl, hB⟩
    have HP3 := hide (HP.out.below hB)
    obtain ⟨k0, k1, f0, f1⟩ := HP3.out.r.cells2
    clear hB
    go_wp2_with fail
    exact bodyPost_ret (rck_results _ _ (w.heap.size + 1) _ _ rfl (HP3.out.blk _ _)) rfl (HP3.out.post HE2.out)
   case true =>
    go_wp2_with fail
    refine (in_is z 0 137438953472 true hi _).mono ?_
    rintro e w3 ⟨rfl, rfl⟩
    go_wp2_with fail
    go_roundw
    case rel => exact ⟨k + 1, by omega, by go_num, hide (tri_next HT.out (by rw [HZ.out]; exact hi)), HP, HB⟩
    case measure => simp [intOf]; omega
  ·obtain rfl : k = 3 := by omega
   obtain ⟨a1, a2, a3, a4, a5, a6⟩ := tri_good HT.out
   clear HT HB hlt hk
   obtain ⟨i0, i1, i2, i3, i4, i5, i6, i7, i8, i9⟩ := HP.out.g.cells10
   cases o1 : inB p.rd 1 137438953472
   case false =>
    have HE2 : Hid (C = (2, -1)) := hide (HH2.out 2 (head_two HE1.out (by have := inF o1; unfold h2ok; omega)) (by decide))
    go_wp2_with fail
    refine (in_is p.rd 1 137438953472 false o1 _).mono ?_
    rintro e w3 ⟨rfl, rfl⟩
    go_wp2_with fail
    refine (bareF 2 _).mono ?_
    rintro e wb ⟨rfl, hB⟩
    have HP3 := hide (HP.out.below hB)
    obtain ⟨k0, k1, f0, f1⟩ := HP3.out.r.cells2
    clear hB
    go_wp2_with fail
    exact bodyPost_ret (rck_results _ _ (w.heap.size + 1) _ _ rfl (HP3.out.blk _ _)) rfl (HP3.out.post HE2.out)
   cases o2 : inB p.fr 1 137438953472
   case true.false =>
    have HE2 : Hid (C = (2, -1)) := hide (HH2.out 2 (head_two HE1.out (by have := inF o2; unfold h2ok; omega)) (by decide))
    go_wp2_with fail
    refine (in_is p.rd 1 137438953472 true o1 _).mono ?_
    rintro e w3 ⟨rfl, rfl⟩
    go_wp2_with fail
    refine (in_is p.fr 1 137438953472 false o2 _).mono ?_
    rintro e w4 ⟨rfl, rfl⟩
    go_wp2_with fail
    refine (bareF 2 _).mono ?_
    rintro e wb ⟨rfl, hB⟩
    have HP3 := hide (HP.out.below hB)
    obtain ⟨k0, k1, f0, f1⟩ := HP3.out.r.cells2
    clear hB
    go_wp2_with fail
    exact bodyPost_ret (rck_results _ _ (w.heap.size + 1) _ _ rfl (HP3.out.blk _ _)) rfl (HP3.out.post HE2.out)
   obtain ⟨r1, r2⟩ := inT o1
   obtain ⟨g1, g2⟩ := inT o2
   have HH2K : Hid (h2ok p) := hide (by unfold h2ok; omega)
   by_cases b6 : 32 < len
   ·have d6 : decide ((32 : Int) < (len : Int)) = true := decide_eq_true (by omega)
    have HE2 : Hid (C = (4, -1)) := hide (HH2.out 4 (head_four HE1.out HH2K.out (by have := S1.out; unfold h3ok; omega)) (by decide))
    go_wp2_with fail
    refine (in_is p.rd 1 137438953472 true o1 _).mono ?_
    rintro e w3 ⟨rfl, rfl⟩
    go_wp2_with fail
    refine (in_is p.fr 1 137438953472 true o2 _).mono ?_
    rintro e w4 ⟨rfl, rfl⟩
    go_wp2_with fail
    refine (bareF 4 _).mono ?_
    rintro e wb ⟨rfl, hB⟩
    have HP3 := hide (HP.out.below hB)
    obtain ⟨k0, k1, f0, f1⟩ := HP3.out.r.cells2
    clear hB
    go_wp2_with fail
    exact bodyPost_ret (rck_results _ _ (w.heap.size + 1) _ _ rfl (HP3.out.blk _ _)) rfl (HP3.out.post HE2.out)
   have d6 : decide ((32 : Int) < (len : Int)) = false := decide_eq_false (by omega)
   by_cases b7 : 8 < ll
   ·have d7 : decide ((8 : Int) < (ll : Int)) = true := decide_eq_true (by omega)
    have HE2 : Hid (C = (4, -1)) := hide (HH2.out 4 (head_four HE1.out HH2K.out (by have := L1.out; unfold h3ok; omega)) (by decide))
    go_wp2_with fail
    refine (in_is p.rd 1 137438953472 true o1 _).mono ?_
    rintro e w3 ⟨rfl, rfl⟩
    go_wp2_with fail
    refine (in_is p.fr 1 137438953472 true o2 _).mono ?_
    rintro e w4 ⟨rfl, rfl⟩
    go_wp2_with fail
    refine (bareF 4 _).mono ?_
    rintro e wb ⟨rfl, hB⟩
    have HP3 := hide (HP.out.below hB)
    obtain ⟨k0, k1, f0, f1⟩ := HP3.out.r.cells2
    clear hB
    go_wp2_with fail
    exact bodyPost_ret (rck_results _ _ (w.heap.size + 1) _ _ rfl (HP3.out.blk _ _)) rfl (HP3.out.post HE2.out)
   have d7 : decide ((8 : Int) < (ll : Int)) = false := decide_eq_false (by omega)
   by_cases b8 : 32 < lq
   ·have d8 : decide ((32 : Int) < (lq : Int)) = true := decide_eq_true (by omega)
    have HE2 : Hid (C = (4, -1)) := hide (HH2.out 4 (head_four HE1.out HH2K.out (by have := Q1.out; unfold h3ok; omega)) (by decide))
    go_wp2_with fail
    refine (in_is p.rd 1 137438953472 true o1 _).mono ?_
    rintro e w3 ⟨rfl, rfl⟩
    go_wp2_with fail
    refine (in_is p.fr 1 137438953472 true o2 _).mono ?_
    rintro e w4 ⟨rfl, rfl⟩
    go_wp2_with fail
    refine (bareF 4 _).mono ?_
    rintro e wb ⟨rfl, hB⟩
    have HP3 := hide (HP.out.below hB)
    obtain ⟨k0, k1, f0, f1⟩ := HP3.out.r.cells2
    clear hB
    go_wp2_with fail
    exact bodyPost_ret (rck_results _ _ (w.heap.size + 1) _ _ rfl (HP3.out.blk _ _)) rfl (HP3.out.post HE2.out)
   have d8 : decide ((32 : Int) < (lq : Int)) = false := decide_eq_false (by omega)
   have HH3K : Hid (h3ok p) := hide (by have := S1.out; have := L1.out; have := Q1.out; unfold h3ok; omega)
   have hq : p.sk.tdiv 2 = p.sk / 2 := Int.tdiv_eq_ediv_of_nonneg (by omega)
   by_cases b9 : p.sk < p.sk / 2 + p.ji * 2 + p.dr * 2 + 1
   ·have d9 : decide (p.sk < p.sk / 2 + p.ji * 2 + p.dr * 2 + 1) = true := decide_eq_true b9
    have HE2 : Hid (C = (13, -1)) := hide (HH2.out 13 (head_13 HE1.out HH2K.out HH3K.out b9) (by decide))
    go_wp2_with fail
    refine (in_is p.rd 1 137438953472 true o1 _).mono ?_
    rintro e w3 ⟨rfl, rfl⟩
    go_wp2_with fail
    refine (in_is p.fr 1 137438953472 true o2 _).mono ?_
    rintro e w4 ⟨rfl, rfl⟩
    go_wp2_with fail
    refine (bareF 13 _).mono ?_
    rintro e wb ⟨rfl, hB⟩
    have HP3 := hide (HP.out.below hB)
    obtain ⟨k0, k1, f0, f1⟩ := HP3.out.r.cells2
    clear hB
    go_wp2_with fail
    exact bodyPost_ret (rck_results _ _ (w.heap.size + 1) _ _ rfl (HP3.out.blk _ _)) rfl (HP3.out.post HE2.out)
   have d9 : decide (p.sk < p.sk / 2 + p.ji * 2 + p.dr * 2 + 1) = false := decide_eq_false b9
   have H0 : Hid (headE p = 0) := hide (head_fine HE1.out HH2K.out HH3K.out b9)
   clear HH2
   go_wp2_with fail
   refine (in_is p.rd 1 137438953472 true o1 _).mono ?_
   rintro e w3 ⟨rfl, rfl⟩
   go_wp2_with fail
   refine (in_is p.fr 1 137438953472 true o2 _).mono ?_
   rintro e w4 ⟨rfl, rfl⟩
   go_wp2_with fail
   clear d6 d7 d8 d9 hq b9 HE1 HH2K HH3K
   obtain ⟨wo, rfl⟩ : ∃ wo : World, wo = wr := ⟨_, rfl⟩
   go_loopw [101] (fun i wr => ∃ k : Nat, k ≤ len ∧ i = .int .i64 k ∧ Hid (0 ≤ slLo p.sk 0 p.sl k ∧ slLo p.sk 0 p.sl k ≤ 137438953472 ∧ slF p k) ∧ Hid (RcAt w wr (planC (N : Int) p.fa p.sk p.ji p.dr p.rd (.slice A len c) (.slice AL ll cl) p.fr (.slice AQ lq cq)))) (fun i _ => len - (intOf i).toNat)
   case atStart => exact ⟨0, by omega, rfl, hide ⟨by rw [slLo_zero]; omega, by rw [slLo_zero]; omega, fun j hj => by omega⟩, HP⟩
   case round =>
    clear HP i0 i1 i2 i3 i4 i5 i6 i7 i8 i9
    obtain ⟨k, hk, rfl, HSF, HP⟩ := hrel
    by_cases hlt : k < len
    ·obtain ⟨b, off, rfl, x, hx, c0, c1, c2⟩ := (S2.out.below HP.out.old) k hlt
     have HX := hide hx; clear hx
     have HP2 := hide (HP.out.alloc (.cells #[.int .i64 x.n, .int .i64 x.f, .int .i64 x.t] 100))
     obtain ⟨i0, i1, i2, i3, i4, i5, i6, i7, i8, i9⟩ := HP2.out.g.cells10
     obtain ⟨k0, k1, f0, f1⟩ := HP2.out.r.cells2
     cases k with
     | zero =>
      simp only [Nat.zero_mul, Nat.add_zero] at c0 c1 c2
      have HLO := hide (slLo_zero p.sk 0 p.sl)
      by_cases g1 : x.t ≤ x.f
      ·have d1 : decide (x.t ≤ x.f) = true := decide_eq_true g1
       have HE : Hid (C = (1, ((0 : Nat) : Int))) := hide (by rw [← HC.out]; exact chk_slot H0.out HSF.out.2.2 HX.out (slE_span (sp_one g1) (by decide)) (by decide))
       go_wp2_with fail
       exact bodyPost_ret (rck_results _ _ (w.heap.size + 1) _ _ rfl (HP2.out.blk _ _)) rfl (HP2.out.post HE.out)
      have d1 : decide (x.t ≤ x.f) = false := decide_eq_false g1
      by_cases g2 : x.f < 0
      ·have d2 : decide (x.f < 0) = true := decide_eq_true g2
       have HE : Hid (C = (10, ((0 : Nat) : Int))) := hide (by rw [← HC.out]; exact chk_slot H0.out HSF.out.2.2 HX.out (slE_span (sp_ten g1 (by rw [HLO.out]; exact g2)) (by decide)) (by decide))
       go_wp2_with fail
       exact bodyPost_ret (rck_results _ _ (w.heap.size + 1) _ _ rfl (HP2.out.blk _ _)) rfl (HP2.out.post HE.out)
      have d2 : decide (x.f < 0) = false := decide_eq_false g2
      by_cases g3 : p.rd - p.sk - 1 < x.t
      ·have d3 : decide (p.rd - p.sk - 1 < x.t) = true := decide_eq_true g3
       have HE : Hid (C = (2, ((0 : Nat) : Int))) := hide (by rw [← HC.out]; exact chk_slot H0.out HSF.out.2.2 HX.out (slE_span (sp_two g1 (by rw [HLO.out]; exact g2) g3) (by decide)) (by decide))
       go_wp2_with fail
       go_quiet (fail)
       go_wp2_with fail
       exact bodyPost_ret (rck_results _ _ (w.heap.size + 1) _ _ rfl ((HP2.out.drewN _).blk _ _)) rfl ((HP2.out.drewN _).post HE.out)
      have d3 : decide (p.rd - p.sk - 1 < x.t) = false := decide_eq_false g3
      have HSP := hide (sp_nil g1 (by rw [HLO.out]; exact g2) g3 : spE x.f x.t (slLo p.sk 0 p.sl (0)) (p.rd - p.sk - 1) = 0)
      have HT : Hid (0 ≤ x.t + p.sk + 1 ∧ x.t + p.sk + 1 ≤ 137438953472) := hide (by have := HSF.out.1; have := HLO.out; omega)
      clear g1 g2 g3
      cases hn : inB x.n 0 ((N : Int) - 1)
      case false =>
       have HE : Hid (C = (7, ((0 : Nat) : Int))) := hide (by rw [← HC.out]; exact chk_slot H0.out HSF.out.2.2 HX.out (slE_out HSP.out (by rw [HN.out]; exact hn)) (by decide))
       go_wp2_with fail
       go_quiet (fail)
       go_wp2_with fail
       refine (in_is x.n 0 ((N : Int) - 1) false hn _).mono ?_
       rintro e w5 ⟨rfl, rfl⟩
       go_wp2_with fail
       exact bodyPost_ret (rck_results _ _ (w.heap.size + 1) _ _ rfl ((HP2.out.drewN _).blk _ _)) rfl ((HP2.out.drewN _).post HE.out)
      case true =>
       go_wp2_with fail
       go_quiet (fail)
       go_wp2_with fail
       refine (in_is x.n 0 ((N : Int) - 1) true hn _).mono ?_
       rintro e w5 ⟨rfl, rfl⟩
       go_wp2_with fail
       go_roundw
       case rel => exact ⟨0 + 1, by omega, by go_num, hide ⟨by rw [slLo_succ _ _ _ _ _ HX.out]; exact HT.out.1, by rw [slLo_succ _ _ _ _ _ HX.out]; exact HT.out.2, slF_succ HSF.out.2.2 HX.out (slE_in HSP.out (by rw [HN.out]; exact hn))⟩, hide (HP2.out.drewN _)⟩
       case measure => simp [intOf]; omega
     | succ j =>
      obtain ⟨b', off', e', y, hy, _, _, m2⟩ := (S2.out.below HP.out.old) j (by omega)
      cases e'
      have m2' := (World.cell?_alloc_lt wr (.cells #[.int .i64 x.n, .int .i64 x.f, .int .i64 x.t] 100) ⟨b, off + j * 3 + 2, none⟩ (World.block_lt_of_cell? _ _ m2)).trans m2
      have HLO := hide (slLo_succ p.sk 0 p.sl j y hy)
      have y1 : 0 ≤ y.t + p.sk + 1 := by rw [← HLO.out]; exact HSF.out.1
      have y2 : y.t + p.sk + 1 ≤ 137438953472 := by rw [← HLO.out]; exact HSF.out.2.1
      have hj1 : ((j : Int) + 1 == 0) = false := by rw [beq_eq_false_iff_ne]; omega
      have hj2 : decide ((0 : Int) < (j : Int) + 1) = true := decide_eq_true (by omega)
      have hjn : (j : Int) < (len : Int) := by omega
      clear hy
      by_cases g1 : x.t ≤ x.f
      ·have d1 : decide (x.t ≤ x.f) = true := decide_eq_true g1
       have HE : Hid (C = (1, ((j + 1 : Nat) : Int))) := hide (by rw [← HC.out]; exact chk_slot H0.out HSF.out.2.2 HX.out (slE_span (sp_one g1) (by decide)) (by decide))
       go_wp2_with fail
       exact bodyPost_ret (rck_results _ _ (w.heap.size + 1) _ _ rfl (HP2.out.blk _ _)) rfl (HP2.out.post HE.out)
      have d1 : decide (x.t ≤ x.f) = false := decide_eq_false g1
      by_cases g2 : x.f ≤ y.t + p.sk
      ·have d2 : decide (x.f ≤ y.t + p.sk) = true := decide_eq_true g2
       have HE : Hid (C = (10, ((j + 1 : Nat) : Int))) := hide (by rw [← HC.out]; exact chk_slot H0.out HSF.out.2.2 HX.out (slE_span (sp_ten g1 (by rw [HLO.out]; omega)) (by decide)) (by decide))
       go_wp2_with fail
       go_quiet (fail)
       go_wp2_with fail
       exact bodyPost_ret (rck_results _ _ (w.heap.size + 1) _ _ rfl ((HP2.out.drewN _).blk _ _)) rfl ((HP2.out.drewN _).post HE.out)
      have d2 : decide (x.f ≤ y.t + p.sk) = false := decide_eq_false g2
      by_cases g3 : p.rd - p.sk - 1 < x.t
      ·have d3 : decide (p.rd - p.sk - 1 < x.t) = true := decide_eq_true g3
       have HE : Hid (C = (2, ((j + 1 : Nat) : Int))) := hide (by rw [← HC.out]; exact chk_slot H0.out HSF.out.2.2 HX.out (slE_span (sp_two g1 (by rw [HLO.out]; omega) g3) (by decide)) (by decide))
       go_wp2_with fail
       go_quiet (fail)
       go_wp2_with fail
       exact bodyPost_ret (rck_results _ _ (w.heap.size + 1) _ _ rfl ((HP2.out.drewN _).blk _ _)) rfl ((HP2.out.drewN _).post HE.out)
      have d3 : decide (p.rd - p.sk - 1 < x.t) = false := decide_eq_false g3
      have HSP := hide (sp_nil g1 (by rw [HLO.out]; omega) g3 : spE x.f x.t (slLo p.sk 0 p.sl (j + 1)) (p.rd - p.sk - 1) = 0)
      have HT : Hid (0 ≤ x.t + p.sk + 1 ∧ x.t + p.sk + 1 ≤ 137438953472) := hide (by have := HSF.out.1; have := HLO.out; omega)
      clear g1 g2 g3
      cases hn : inB x.n 0 ((N : Int) - 1)
      case false =>
       have HE : Hid (C = (7, ((j + 1 : Nat) : Int))) := hide (by rw [← HC.out]; exact chk_slot H0.out HSF.out.2.2 HX.out (slE_out HSP.out (by rw [HN.out]; exact hn)) (by decide))
       go_wp2_with fail
       go_quiet (fail)
       go_wp2_with fail
       refine (in_is x.n 0 ((N : Int) - 1) false hn _).mono ?_
       rintro e w5 ⟨rfl, rfl⟩
       go_wp2_with fail
       exact bodyPost_ret (rck_results _ _ (w.heap.size + 1) _ _ rfl ((HP2.out.drewN _).blk _ _)) rfl ((HP2.out.drewN _).post HE.out)
      case true =>
       go_wp2_with fail
       go_quiet (fail)
       go_wp2_with fail
       refine (in_is x.n 0 ((N : Int) - 1) true hn _).mono ?_
       rintro e w5 ⟨rfl, rfl⟩
       go_wp2_with fail
       go_roundw
       case rel => exact ⟨j + 1 + 1, by omega, by go_num, hide ⟨by rw [slLo_succ _ _ _ _ _ HX.out]; exact HT.out.1, by rw [slLo_succ _ _ _ _ _ HX.out]; exact HT.out.2, slF_succ HSF.out.2.2 HX.out (slE_in HSP.out (by rw [HN.out]; exact hn))⟩, hide (HP2.out.drewN _)⟩
       case measure => simp [intOf]; omega
    ·obtain rfl : len = k := by omega
     have HSL : Hid (slF p p.sl.length) := hide (by rw [S1.out]; exact HSF.out.2.2)
     clear HSF hlt hk
     obtain ⟨i0, i1, i2, i3, i4, i5, i6, i7, i8, i9⟩ := HP.out.g.cells10
     go_wp2_with fail
     obtain ⟨wo, rfl⟩ : ∃ wo : World, wo = wr := ⟨_, rfl⟩
     go_loopw [170] (fun i wr => ∃ k : Nat, k ≤ ll ∧ i = .int .i64 k ∧ Hid (lkF p k) ∧ Hid (RcAt w wr (planC (N : Int) p.fa p.sk p.ji p.dr p.rd (.slice A len c) (.slice AL ll cl) p.fr (.slice AQ lq cq)))) (fun i _ => ll - (intOf i).toNat)
     case atStart => exact ⟨0, by omega, rfl, hide (fun j hj => by omega), HP⟩
     case round =>
      clear HP i0 i1 i2 i3 i4 i5 i6 i7 i8 i9
      obtain ⟨k, hk, rfl, HLF, HP⟩ := hrel
      by_cases hlt : k < ll
      ·obtain ⟨b, off, rfl, x, hx, c0, c1, c2, c3⟩ := (L2.out.below HP.out.old) k hlt
       obtain ⟨xf, xt, xb, xq⟩ := x
       dsimp only at c0 c1 c2 c3
       have HX := hide hx; clear hx
       have HP2 := hide (HP.out.alloc (.cells #[.int .i64 xf, .int .i64 xt, .int .i64 xb, .int .i64 xq] 54))
       obtain ⟨i0, i1, i2, i3, i4, i5, i6, i7, i8, i9⟩ := HP2.out.g.cells10
       obtain ⟨k0, k1, f0, f1⟩ := HP2.out.r.cells2
       cases o3 : inB xf 0 ((N : Int) - 1)
       case false =>
        have HE : Hid (C = (7, 1000 + (k : Int))) := hide (by rw [← HC.out]; exact chk_link H0.out HSL.out HLF.out HX.out (lk_from (by rw [HN.out]; exact o3)) (by decide))
        go_wp2_with fail
        refine (in_is xf 0 ((N : Int) - 1) false o3 _).mono ?_
        rintro e w5 ⟨rfl, rfl⟩
        go_wp2_with fail
        exact bodyPost_ret (rck_results _ _ (w.heap.size + 1) _ _ rfl (HP2.out.blk _ _)) rfl (HP2.out.post HE.out)
       case true =>
        obtain ⟨F, rfl⟩ : ∃ F : Nat, xf = F := ⟨xf.toNat, by have := inT o3; omega⟩
        have hF : F < N := by have := inT o3; omega
        have hN16 : N ≤ 16 := by omega
        have HM := hide (mask_is N hN16)
        cases o4 : inB xt 1 (wrap64 (wrap64 (2 ^ N) - 1))
        case false =>
         have HTB : Hid (toBad p.nd ⟨(F : Int), xt, xb, xq⟩ = true) := hide (by rw [HN.out]; exact to_out N _ (by rw [← HM.out]; exact o4))
         have HE : Hid (C = (1, 1000 + (k : Int))) := hide (by rw [← HC.out]; exact chk_link H0.out HSL.out HLF.out HX.out (lk_to (by rw [HN.out]; exact o3) HTB.out) (by decide))
         go_wp2_with fail
         refine (in_is (F : Int) 0 ((N : Int) - 1) true o3 _).mono ?_
         rintro e w5 ⟨rfl, rfl⟩
         go_wp2_with fail
         go_quiet ((go_at_call 43; with_reducible exact Calls.quiet_of_same (in_same _ _ _ _ o4 _)))
         go_wp2_with fail
         exact bodyPost_ret (rck_results _ _ (w.heap.size + 1) _ _ rfl ((HP2.out.drewN _).blk _ _)) rfl ((HP2.out.drewN _).post HE.out)
        case true =>
         obtain ⟨T, rfl⟩ : ∃ T : Nat, xt = T := ⟨xt.toNat, by have := inT o4; omega⟩
         have HTB : Hid ((bits .and .i64 (T : Int) (wrap64 (2 ^ F)) != 0) = toBad p.nd ⟨(F : Int), T, xb, xq⟩) := hide (by rw [HN.out]; exact to_in N T _ xb xq (by rw [← HM.out]; exact o4) hN16 F hF rfl)
         cases e1 : (bits .and .i64 (T : Int) (wrap64 (2 ^ F)) != 0)
         case true =>
          have HE : Hid (C = (1, 1000 + (k : Int))) := hide (by rw [← HC.out]; exact chk_link H0.out HSL.out HLF.out HX.out (lk_to (by rw [HN.out]; exact o3) (by rw [← HTB.out]; exact e1)) (by decide))
          go_wp2_with fail
          refine (in_is (F : Int) 0 ((N : Int) - 1) true o3 _).mono ?_
          rintro e w5 ⟨rfl, rfl⟩
          go_wp2_with fail
          go_quiet ((go_at_call 43; with_reducible exact Calls.quiet_of_same (in_same _ _ _ _ o4 _)))
          go_wp2_with fail
          exact bodyPost_ret (rck_results _ _ (w.heap.size + 1) _ _ rfl ((HP2.out.drewN _).blk _ _)) rfl ((HP2.out.drewN _).post HE.out)
         case false =>
          have HTB2 : Hid (toBad p.nd ⟨(F : Int), T, xb, xq⟩ = false) := hide (by rw [← HTB.out]; exact e1)
          cases o5 : inB xb 1 137438953472
          case false =>
           have HE : Hid (C = (2, 1000 + (k : Int))) := hide (by rw [← HC.out]; exact chk_link H0.out HSL.out HLF.out HX.out (lk_rate (by rw [HN.out]; exact o3) HTB2.out (.inl o5)) (by decide))
           go_wp2_with fail
           refine (in_is (F : Int) 0 ((N : Int) - 1) true o3 _).mono ?_
           rintro e w5 ⟨rfl, rfl⟩
           go_wp2_with fail
           go_quiet ((go_at_call 43; with_reducible exact Calls.quiet_of_same (in_same _ _ _ _ o4 _)))
           go_wp2_with fail
           refine (in_is xb 1 137438953472 false o5 _).mono ?_
           rintro e w6 ⟨rfl, rfl⟩
           go_wp2_with fail
           exact bodyPost_ret (rck_results _ _ (w.heap.size + 1) _ _ rfl ((HP2.out.drewN _).blk _ _)) rfl ((HP2.out.drewN _).post HE.out)
          cases o6 : inB xq 1 16
          case true.false =>
           have HE : Hid (C = (2, 1000 + (k : Int))) := hide (by rw [← HC.out]; exact chk_link H0.out HSL.out HLF.out HX.out (lk_rate (by rw [HN.out]; exact o3) HTB2.out (.inr o6)) (by decide))
           go_wp2_with fail
           refine (in_is (F : Int) 0 ((N : Int) - 1) true o3 _).mono ?_
           rintro e w5 ⟨rfl, rfl⟩
           go_wp2_with fail
           go_quiet ((go_at_call 43; with_reducible exact Calls.quiet_of_same (in_same _ _ _ _ o4 _)))
           go_wp2_with fail
           refine (in_is xb 1 137438953472 true o5 _).mono ?_
           rintro e w6 ⟨rfl, rfl⟩
           go_wp2_with fail
           refine (in_is xq 1 16 false o6 _).mono ?_
           rintro e w7 ⟨rfl, rfl⟩
           go_wp2_with fail
           exact bodyPost_ret (rck_results _ _ (w.heap.size + 1) _ _ rfl ((HP2.out.drewN _).blk _ _)) rfl ((HP2.out.drewN _).post HE.out)
          case true.true =>
           go_wp2_with fail
           refine (in_is (F : Int) 0 ((N : Int) - 1) true o3 _).mono ?_
           rintro e w5 ⟨rfl, rfl⟩
           go_wp2_with fail
           go_quiet ((go_at_call 43; with_reducible exact Calls.quiet_of_same (in_same _ _ _ _ o4 _)))
           go_wp2_with fail
           refine (in_is xb 1 137438953472 true o5 _).mono ?_
           rintro e w6 ⟨rfl, rfl⟩
           go_wp2_with fail
           refine (in_is xq 1 16 true o6 _).mono ?_
           rintro e w7 ⟨rfl, rfl⟩
           go_wp2_with fail
           go_roundw
           case rel => exact ⟨k + 1, by omega, by go_num, hide (lkF_succ HLF.out HX.out (lk_fine (by rw [HN.out]; exact o3) HTB2.out o5 o6)), hide (HP2.out.drewN _)⟩
           case measure => simp [intOf]; omega
      ·obtain rfl : ll = k := by omega
       have HLL : Hid (lkF p p.lk.length) := hide (by rw [L1.out]; exact HLF.out)
       clear HLF hlt hk
       obtain ⟨i0, i1, i2, i3, i4, i5, i6, i7, i8, i9⟩ := HP.out.g.cells10
       obtain ⟨e1, he1⟩ : ∃ e1, (firstE (wnEs p.fr 0 p.wn) 0).1 = e1 := ⟨_, rfl⟩
       obtain ⟨j1, hj1⟩ : ∃ j1 : Nat, (firstE (wnEs p.fr 0 p.wn) 0).2 = j1 := ⟨_, rfl⟩
       have HE := hide (chk_wins H0.out HSL.out HLL.out e1 j1 he1 hj1)
       have HW0 : Hid (∀ w0, Below w.heap.size w w0 → Calls Tryz.prog 73 #[.slice AQ lq cq, .int .i64 p.fr] w0 fun r w' => r = .returned (.tuple #[.int .i64 e1, .int .i64 (j1 : Nat)]) ∧ Below w0.heap.size w0 w') := hide (by
        intro w0 hB
        have h := rwin_any AQ lq cq p.fr p.wn w0 (by omega) Q1.out (Q2.out.below hB)
        unfold RwnPost at h
        rw [he1, hj1] at h
        exact h)
       have hj32 : j1 ≤ 32 := by rw [← hj1]; have := firstE_le (wnEs p.fr 0 p.wn) 0; rw [wnEs_len] at this; have := Q1.out; omega
       clear he1 hj1
       go_wp2_with fail
       refine (HW0.out _ HP.out.old).mono ?_
       rintro e w5 ⟨rfl, hB⟩
       have HP2 := hide (HP.out.below hB)
       obtain ⟨k0, k1, f0, f1⟩ := HP2.out.r.cells2
       obtain ⟨g0, g1⟩ := HF.out.below HP2.out.old
       clear hB HW0
       by_cases h0 : e1 = 0
       ·subst h0
        go_wp2_with fail
        exact bodyPost_ret (rck_results _ _ (w.heap.size + 1) _ _ rfl (HP2.out.blk _ _)) rfl (HP2.out.post (by rw [← HC.out, HE.out]; rfl))
       ·have q1 : (e1 != 0) = true := by simp [h0]
        have HE2 : Hid (C = (e1, 2000 + (j1 : Int))) := hide (by rw [← HC.out, HE.out, if_pos h0])
        clear h0
        go_wp2_with fail
        exact bodyPost_ret (rck_results _ _ (w.heap.size + 1) _ _ rfl (HP2.out.blk _ _)) rfl (HP2.out.post HE2.out)
theorem rck_any (w : World) (s1 : p.sl.length = len) (l1 : p.lk.length = ll) (q1 : p.wn.length = lq) (s2 : SlotsAt w A len p.sl) (l2 : LinksAt w AL ll p.lk) (q2 : WinsAt w AQ lq p.wn) (hF : FinT w) :
 Calls Tryz.prog 42 #[.agg (planC p.nd p.fa p.sk p.ji p.dr p.rd (.slice A len c) (.slice AL ll cl) p.fr (.slice AQ lq cq))] w (RckPost w (chk p)) := by
 by_cases h : inB p.nd 1 16 = true ∧ 0 ≤ p.fa ∧ p.fa ≤ 100 ∧ p.fa * 3 + 1 ≤ p.nd
 ·exact rck_rest p A len c AL ll cl AQ lq cq w s1 l1 q1 s2 l2 q2 hF h.1 h.2.1 h.2.2.1 h.2.2.2
 ·refine rck_one p A len c AL ll cl AQ lq cq w h (chk_head ?_ (by decide))
  unfold headE
  rw [if_pos]
  cases h1 : inB p.nd 1 16 with
  | false => have := inF h1; omega
  | true => have := inT h1; simp only [h1, true_and] at h; omega
end
end
end Go.Proofs.YtdogdlnaacimpaaGreatDoor
