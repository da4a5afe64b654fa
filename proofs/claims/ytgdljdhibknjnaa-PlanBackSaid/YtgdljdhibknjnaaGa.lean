/- What passes two nodes' guards is never at the same time: plain facts, no program in sight. -/
import Derived.Test.YtgdljdhibknjnaaGp
import Derived.Test.YtgdljdhibknjnaaRr
namespace Go.Proofs.Ytgdljdhibknjnaa
/-- Two clocks that are near at both ends are near meanwhile: one never shows so much more. -/
theorem never_far (fa sa na da fb sb nb db K t0 t t1 : Int) (hda : 1 ≤ da) (hdb : 1 ≤ db) (h0 : t0 ≤ t) (h1 : t ≤ t1)
    (e0 : Tkp.localV fb sb nb db t0 - Tkp.localV fa sa na da t0 ≤ K - 2) (e1 : Tkp.localV fb sb nb db t1 - Tkp.localV fa sa na da t1 ≤ K - 2) :
    Tkp.localV fb sb nb db t - Tkp.localV fa sa na da t < K := by
  rw [Tkp.localV_eq _ _ _ _ _ hda, Tkp.localV_eq _ _ _ _ _ hdb] at *
  have flo : ∀ x d : Int, 1 ≤ d → x / d * d ≤ x ∧ x < (x / d + 1) * d := by
    intro x d hd
    have h1 := Int.emod_add_mul_ediv x d
    have h2 := Int.emod_nonneg x (by omega : d ≠ 0)
    have h3 := Int.emod_lt_of_pos x (by omega : 0 < d)
    rw [Int.mul_comm] at h1
    rw [Int.add_mul]
    omega
  -- what is shown, times both denominators
  have G : ∀ u : Int, (((u - fb) * nb) / db) * (db * da) ≤ (u - fb) * nb * da ∧ (u - fb) * nb * da < (((u - fb) * nb) / db + 1) * (db * da) ∧ (((u - fa) * na) / da) * (db * da) ≤ (u - fa) * na * db ∧ (u - fa) * na * db < (((u - fa) * na) / da + 1) * (db * da) := by
    intro u
    obtain ⟨p1, p2⟩ := flo ((u - fb) * nb) db hdb
    obtain ⟨q1, q2⟩ := flo ((u - fa) * na) da hda
    refine ⟨?_, ?_, ?_, ?_⟩
    · rw [← Int.mul_assoc]; exact Int.mul_le_mul_of_nonneg_right p1 (by omega)
    · rw [← Int.mul_assoc]; exact Int.mul_lt_mul_of_pos_right p2 (by omega)
    · rw [Int.mul_comm db da, ← Int.mul_assoc]; exact Int.mul_le_mul_of_nonneg_right q1 (by omega)
    · rw [Int.mul_comm db da, ← Int.mul_assoc]; exact Int.mul_lt_mul_of_pos_right q2 (by omega)
  have hD : 0 < db * da := Int.mul_pos (by omega) (by omega)
  obtain ⟨x1, x2, x3, x4⟩ := G t0
  obtain ⟨y1, y2, y3, y4⟩ := G t1
  obtain ⟨z1, z2, z3, z4⟩ := G t
  -- the ends are below, the middle would be above
  have lin : ∀ u : Int, (u - fb) * nb * da - (u - fa) * na * db = u * (nb * da - na * db) - (fb * nb * da - fa * na * db) := by
    intro u
    rw [Int.sub_mul, Int.sub_mul, Int.sub_mul, Int.sub_mul, Int.mul_sub, Int.mul_assoc u nb da, Int.mul_assoc u na db]
    omega
  rcases Int.lt_or_le (sb + (t - fb) * nb / db - (sa + (t - fa) * na / da)) K with h | h
  · exact h
  · exfalso
    have m0 := lin t0
    have m1 := lin t1
    have m := lin t
    generalize (t0 - fb) * nb / db = b0 at *
    generalize (t0 - fa) * na / da = a0 at *
    generalize (t1 - fb) * nb / db = b1 at *
    generalize (t1 - fa) * na / da = a1 at *
    generalize (t - fb) * nb / db = b at *
    generalize (t - fa) * na / da = a at *
    generalize (t0 - fb) * nb * da = B0 at *
    generalize (t0 - fa) * na * db = A0 at *
    generalize (t1 - fb) * nb * da = B1 at *
    generalize (t1 - fa) * na * db = A1 at *
    generalize (t - fb) * nb * da = B at *
    generalize (t - fa) * na * db = A at *
    generalize fb * nb * da - fa * na * db = c at *
    generalize nb * da - na * db = g at *
    generalize db * da = D at *
    have u0 : (b0 + 1 - a0) * D ≤ (K - 1 + sa - sb) * D := Int.mul_le_mul_of_nonneg_right (by omega) (by omega)
    have u1 : (b1 + 1 - a1) * D ≤ (K - 1 + sa - sb) * D := Int.mul_le_mul_of_nonneg_right (by omega) (by omega)
    have u : (K - 1 + sa - sb) * D ≤ (b - (a + 1)) * D := Int.mul_le_mul_of_nonneg_right (by omega) (by omega)
    rw [Int.sub_mul] at u0 u1
    rw [Int.sub_mul (b)] at u
    have k0 : t * g ≤ t0 * g ∨ t * g ≤ t1 * g := by
      rcases Int.le_total 0 g with hg | hg
      · right; exact Int.mul_le_mul_of_nonneg_right h1 hg
      · left; exact Int.mul_le_mul_of_nonpos_right h0 hg
    omega

/-- A slot that is open: the clock is right, and shows its ends first at the ends. -/
theorem open_at {f s n d R r : Int} {x : Sl} (h : opE f s n d R r x = 0) : rightB f s n d = true ∧ 0 ≤ r ∧ 1 ≤ R ∧ opA f s n d R r x = realV f s n d (r * R + x.f) ∧ opB f s n d R r x = realV f s n d (r * R + x.t) := by
  have key : ∀ y : Int, edE f s n d (r * R) y = 0 → rightB f s n d = true ∧ realN f s n d (addN (r * R) y) = realV f s n d (r * R + y) := by
    intro y hy
    unfold edE at hy
    by_cases ha : addE (r * R) y = 0
    · rw [if_neg (by rw [ha]; decide)] at hy
      have hok : addOk (r * R) y = true := by
        unfold addE at ha
        by_cases hb : addOk (r * R) y = true
        · exact hb
        · rw [if_neg hb] at ha; exact absurd ha (by decide)
      have hN : addN (r * R) y = r * R + y := by unfold addN; rw [if_pos hok]
      refine ⟨?_, by unfold realN; rw [if_pos hy, hN]⟩
      unfold realE at hy
      by_cases hr : rightB f s n d = false
      · rw [if_pos hr] at hy; exact absurd hy (by decide)
      · simpa using hr
    · rw [if_pos ha] at hy; exact absurd hy ha
  have h' := h
  unfold opE at h'
  by_cases h0 : r < 0 ∨ R < 1 ∨ 1099511627776 / R < r
  · rw [if_pos h0] at h'; exact absurd h' (by decide)
  · rw [if_neg h0] at h'
    by_cases h1 : edE f s n d (r * R) x.f = 0
    · rw [if_neg (by rw [h1]; decide)] at h'
      obtain ⟨hr, e1⟩ := key _ h1
      obtain ⟨_, e2⟩ := key _ h'
      exact ⟨hr, by omega, by omega, by unfold opA; rw [if_pos h, e1], by unfold opB; rw [if_pos h, e2]⟩
    · rw [if_pos h1] at h'; exact absurd h' h1
/-- While it is open the clock shows times of the slot. -/
theorem open_shows {f s n d R r t : Int} {x : Sl} (h : opE f s n d R r x = 0) (h1 : opA f s n d R r x ≤ t) (h2 : t < opB f s n d R r x) : f ≤ t ∧ 1 ≤ d ∧ r * R + x.f ≤ Tkp.localV f s n d t ∧ Tkp.localV f s n d t < r * R + x.t := by
  obtain ⟨hr, _, _, e1, e2⟩ := open_at h
  obtain ⟨r1, r2, r3, r4, r5, r6, r7, r8, r9, r10⟩ := rightB_iff hr
  obtain ⟨a1, a2, _⟩ := realV_spec f s n d (r * R + x.f) hr
  obtain ⟨_, _, b3⟩ := realV_spec f s n d (r * R + x.t) hr
  rw [e1] at h1
  rw [e2] at h2
  have := Tkp.localV_mono f s n d _ _ r7 r5 h1
  exact ⟨by omega, r7, by omega, b3 t (by omega) h2⟩

/-- Slots of a plan that may be. -/
theorem slE_zero {sk rd nd lo : Int} {s : Sl} (h : slE sk rd nd lo s = 0) : s.f < s.t ∧ lo ≤ s.f ∧ s.t ≤ rd - sk - 1 := by
  unfold slE at h
  by_cases h0 : spE s.f s.t lo (rd - sk - 1) = 0
  · unfold spE at h0
    by_cases h1 : s.t ≤ s.f
    · rw [if_pos h1] at h0; exact absurd h0 (by decide)
    · rw [if_neg h1] at h0
      by_cases h2 : s.f < lo
      · rw [if_pos h2] at h0; exact absurd h0 (by decide)
      · rw [if_neg h2] at h0
        by_cases h3 : rd - sk - 1 < s.t
        · rw [if_pos h3] at h0; exact absurd h0 (by decide)
        · exact ⟨by omega, by omega, by omega⟩
  · rw [if_pos h0] at h; exact absurd h h0
theorem slots_fine {sk rd nd : Int} {l : List Sl} (hsk : 0 ≤ sk) (h : ∀ k s, l[k]? = some s → slE sk rd nd (slLo sk 0 l k) s = 0) (i : Nat) (x : Sl) (hx : l[i]? = some x) : 0 ≤ x.f ∧ x.f < x.t ∧ x.t ≤ rd - sk - 1 := by
  induction i generalizing x with
  | zero =>
    have := slE_zero (h 0 x hx)
    rw [slLo_zero] at this
    exact ⟨this.2.1, this.1, this.2.2⟩
  | succ i ih =>
    have hi : i + 1 < l.length := (List.getElem?_eq_some_iff.1 hx).1
    obtain ⟨y, hy⟩ : ∃ y, l[i]? = some y := ⟨l[i], List.getElem?_eq_getElem (by omega)⟩
    have h1 := slE_zero (h (i + 1) x hx)
    rw [slLo_succ sk 0 l i y hy] at h1
    have h2 := ih y hy
    exact ⟨by omega, by omega, by omega⟩
theorem slots_apart {sk rd nd : Int} {l : List Sl} (hsk : 0 ≤ sk) (h : ∀ k s, l[k]? = some s → slE sk rd nd (slLo sk 0 l k) s = 0) (i k : Nat) (x y : Sl) (hx : l[i]? = some x) (hy : l[i + 1 + k]? = some y) : x.t + sk + 1 ≤ y.f := by
  induction k generalizing y with
  | zero =>
    have h1 := slE_zero (h (i + 1) y hy)
    rw [slLo_succ sk 0 l i x hx] at h1
    omega
  | succ k ih =>
    have hk : i + 1 + (k + 1) < l.length := (List.getElem?_eq_some_iff.1 hy).1
    obtain ⟨z, hz⟩ : ∃ z, l[i + 1 + k]? = some z := ⟨l[i + 1 + k], List.getElem?_eq_getElem (by omega)⟩
    have h1 := slE_zero (h (i + 1 + k + 1) y hy)
    rw [slLo_succ sk 0 l (i + 1 + k) z hz] at h1
    have h2 := ih z hz
    have h3 := slots_fine hsk h (i + 1 + k) z hz
    omega
theorem chk_slots {p : Pl} (h : (chk p).1 = 0) : 0 ≤ p.sk ∧ 1 ≤ p.nd ∧ p.nd ≤ 16 ∧ ∀ k s, p.sl[k]? = some s → slE p.sk p.rd p.nd (slLo p.sk 0 p.sl k) s = 0 := by
  have hh : headE p = 0 := by
    unfold chk at h
    by_cases h0 : headE p = 0
    · exact h0
    · rw [if_pos h0] at h; exact absurd h h0
  have hf : (firstE (slEs p.sk p.rd p.nd 0 p.sl) 0).1 = 0 := by
    unfold chk at h
    rw [if_neg (fun g => g hh)] at h
    by_cases h0 : (firstE (slEs p.sk p.rd p.nd 0 p.sl) 0).1 = 0
    · exact h0
    · rw [if_pos h0] at h; exact absurd h h0
  unfold headE at hh
  by_cases h1 : p.nd < 1 ∨ 16 < p.nd ∨ p.fa < 0 ∨ 16 < p.fa ∨ p.nd < 3 * p.fa + 1
  · rw [if_pos h1] at hh; exact absurd hh (by decide)
  rw [if_neg h1] at hh
  by_cases h2 : p.sk < 0 ∨ 137438953472 < p.sk ∨ p.ji < 0 ∨ 137438953472 < p.ji ∨ p.dr < 0 ∨ 137438953472 < p.dr ∨ p.rd < 1 ∨ 137438953472 < p.rd ∨ p.fr < 1 ∨ 137438953472 < p.fr
  · rw [if_pos h2] at hh; exact absurd hh (by decide)
  refine ⟨by omega, by omega, by omega, fun k s hk => ?_⟩
  have hz := firstE_zero _ _ hf k (by rw [slEs_len]; exact (List.getElem?_eq_some_iff.1 hk).1)
  rw [slEs_at _ _ _ _ _ _ _ hk] at hz
  exact Option.some.inj hz

/-- A slot ahead of another one, in the same round or an earlier one. -/
theorem far_slots {sk rd nd r q : Int} {l : List Sl} (hsk : 0 ≤ sk) (h : ∀ k s, l[k]? = some s → slE sk rd nd (slLo sk 0 l k) s = 0) (i k : Nat) (x y : Sl) (hx : l[i]? = some x) (hy : l[k]? = some y) (hne : x.n ≠ y.n) :
    (r * rd + x.t + sk + 1 ≤ q * rd + y.f) ∨ (q * rd + y.t + sk + 1 ≤ r * rd + x.f) := by
  have fx := slots_fine hsk h i x hx
  have fy := slots_fine hsk h k y hy
  have hrd : 0 ≤ rd := by omega
  have step : ∀ a b : Int, a < b → a * rd + rd ≤ b * rd := by
    intro a b hab
    have := Int.mul_le_mul_of_nonneg_right (show a + 1 ≤ b by omega) hrd
    rw [Int.add_mul, Int.one_mul] at this
    exact this
  rcases Int.lt_trichotomy r q with h1 | h1 | h1
  · have := step r q h1; left; omega
  · subst h1
    rcases Nat.lt_trichotomy i k with h2 | h2 | h2
    · obtain ⟨m, rfl⟩ : ∃ m, k = i + 1 + m := ⟨k - i - 1, by omega⟩
      have := slots_apart hsk h i m x y hx hy
      left; omega
    · subst h2
      rw [hx] at hy; cases hy
      exact absurd rfl hne
    · obtain ⟨m, rfl⟩ : ∃ m, i = k + 1 + m := ⟨i - k - 1, by omega⟩
      have := slots_apart hsk h k m y x hy hx
      right; omega
  · have := step q r h1; right; omega

theorem localN_ok {f s n d t : Int} (h : localE f s n d t = 0) : localN f s n d t = Tkp.localV f s n d t := by unfold localN; rw [if_pos h]

/-- NO TWO AT ONCE. -/
theorem no_two {p : Pl} (hc : (chk p).1 = 0) {fa sa na da fb sb nb db i k xa xb ya yb to fr s0 s1 t0 t1 : Int} (hik : i ≠ k)
    (hs : psR fa sa na da p.rd i xa xb to p.sl 50 fr = some (s0, s1)) (ht : psR fb sb nb db p.rd k ya yb to p.sl 50 fr = some (t0, t1)) (hm : meetB s0 s1 t0 t1 = true)
    (a0 : localE fa sa na da (max fa fb) = 0) (b0 : localE fb sb nb db (max fa fb) = 0) (a1 : localE fa sa na da (max s1 t1) = 0) (b1 : localE fb sb nb db (max s1 t1) = 0)
    (d0 : localN fa sa na da (max fa fb) - localN fb sb nb db (max fa fb) ≤ p.sk - 2) (d1 : localN fb sb nb db (max fa fb) - localN fa sa na da (max fa fb) ≤ p.sk - 2)
    (d2 : localN fa sa na da (max s1 t1) - localN fb sb nb db (max s1 t1) ≤ p.sk - 2) (d3 : localN fb sb nb db (max s1 t1) - localN fa sa na da (max s1 t1) ≤ p.sk - 2) : False := by
  obtain ⟨hsk, _, _, hsl⟩ := chk_slots hc
  obtain ⟨r, _, hr⟩ := psR_some hs
  obtain ⟨q, _, hq⟩ := psR_some ht
  obtain ⟨u, x, hx, hxn, ox, mx, ex⟩ := psT_some hr
  obtain ⟨v, y, hy, hyn, oy, my, ey⟩ := psT_some hq
  have ex1 := congrArg Prod.fst ex; have ex2 := congrArg Prod.snd ex
  have ey1 := congrArg Prod.fst ey; have ey2 := congrArg Prod.snd ey
  simp only at ex1 ex2 ey1 ey2
  unfold comA at ex1 ey1
  unfold comB at ex2 ey2
  rw [if_pos mx] at ex1 ex2
  rw [if_pos my] at ey1 ey2
  unfold meetB at hm mx my
  simp only [decide_eq_true_eq] at hm mx my
  obtain ⟨f1, g1, l1, l2⟩ := open_shows (t := max s0 t0) ox (by omega) (by omega)
  obtain ⟨f2, g2, l3, l4⟩ := open_shows (t := max s0 t0) oy (by omega) (by omega)
  rw [localN_ok a0, localN_ok b0] at d0 d1
  rw [localN_ok a1, localN_ok b1] at d2 d3
  have n1 := never_far fa sa na da fb sb nb db p.sk (max fa fb) (max s0 t0) (max s1 t1) g1 g2 (by omega) (by omega) d1 d3
  have n2 := never_far fb sb nb db fa sa na da p.sk (max fa fb) (max s0 t0) (max s1 t1) g2 g1 (by omega) (by omega) d0 d2
  rcases far_slots (r := r) (q := q) hsk hsl u v x y hx hy (by rw [hxn, hyn]; exact hik) with h | h <;> omega
end Go.Proofs.Ytgdljdhibknjnaa
