/- A plan as numbers, there and back; plain facts, no program in sight. -/
import Derived.Test.YtfdadkngbnhmeaaDoorPq
import Derived.Test.YtfdadkngbnhmeaaDoorCk
namespace Go.Proofs.YtfdadkngbnhmeaaDoor
def slN (s : Sl) : List Nat := [s.n.toNat, s.f.toNat, s.t.toNat]
def lkN (s : Lk) : List Nat := [s.f.toNat, s.t.toNat, s.b.toNat, s.q.toNat]
def wnN (s : Wn) : List Nat := [s.p.toNat, s.f.toNat, s.t.toNat]
/-- A plan's numbers, in a row. -/
def plN (p : Pl) : List Nat :=
  [p.nd.toNat, p.fa.toNat, p.sk.toNat, p.ji.toNat, p.dr.toNat, p.rd.toNat] ++ (p.sl.length :: (p.sl.map slN).flatten) ++ (p.lk.length :: (p.lk.map lkN).flatten) ++ [p.fr.toNat] ++ (p.wn.length :: (p.wn.map wnN).flatten)
def plR (p : Pl) : Raw := ([p.nd.toNat, p.fa.toNat, p.sk.toNat, p.ji.toNat, p.dr.toNat, p.rd.toNat], p.sl.map slN, p.lk.map lkN, p.fr.toNat, p.wn.map wnN)
def slO (x : List Nat) : Sl := ⟨x.getD 0 0, x.getD 1 0, x.getD 2 0⟩
def lkO (x : List Nat) : Lk := ⟨x.getD 0 0, x.getD 1 0, x.getD 2 0, x.getD 3 0⟩
def wnO (x : List Nat) : Wn := ⟨x.getD 0 0, x.getD 1 0, x.getD 2 0⟩
/-- The plan that numbers are. -/
def plO (r : Raw) : Pl := ⟨r.1.getD 0 0, r.1.getD 1 0, r.1.getD 2 0, r.1.getD 3 0, r.1.getD 4 0, r.1.getD 5 0, r.2.1.map slO, r.2.2.1.map lkO, r.2.2.2.1, r.2.2.2.2.map wnO⟩
theorem numN_cons (n : Nat) (l : List Nat) (b : Bool) : numN ⟨n :: l, b⟩ = (n, ⟨l, b⟩) := rfl
theorem some_app (x r : List Nat) (b : Bool) : some_ numN x.length ⟨x ++ r, b⟩ = (x, ⟨r, b⟩) := by
  induction x with
  | nil => rfl
  | cons n x ih => rw [List.length_cons, some_, List.cons_append, numN_cons, ih]
theorem some_app' (j : Nat) (x r : List Nat) (b : Bool) (h : x.length = j) : some_ numN j ⟨x ++ r, b⟩ = (x, ⟨r, b⟩) := by subst h; exact some_app x r b
theorem rows_app (j : Nat) (xs : List (List Nat)) (r : List Nat) (h : ∀ x ∈ xs, x.length = j) : rows_ numN j xs.length ⟨xs.flatten ++ r, false⟩ = (xs, ⟨r, false⟩) := by
  induction xs with
  | nil => rfl
  | cons x xs ih => rw [List.length_cons, rows_, if_neg (by intro h; cases h), List.flatten_cons, List.append_assoc, some_app' j x _ _ (h x (by simp)), ih (fun y hy => h y (by simp [hy]))]
theorem many_app (j most : Nat) (xs : List (List Nat)) (r : List Nat) (h : ∀ x ∈ xs, x.length = j) (hm : xs.length ≤ most) : many_ numN j most ⟨xs.length :: (xs.flatten ++ r), false⟩ = (xs, ⟨r, false⟩) := by
  have hd : (false || decide (most < xs.length)) = false := by simp; omega
  rw [many_, numN_cons, hd]
  exact rows_app j xs r h
theorem decN_plN (p : Pl) (h1 : p.sl.length ≤ 32) (h2 : p.lk.length ≤ 8) (h3 : p.wn.length ≤ 32) : decN (plN p) = some (plR p) := by
  have e1 := fun r => some_app' 6 [p.nd.toNat, p.fa.toNat, p.sk.toNat, p.ji.toNat, p.dr.toNat, p.rd.toNat] r false rfl
  have e2 := fun r => many_app 3 32 (p.sl.map slN) r (by intro x hx; obtain ⟨s, _, rfl⟩ := List.mem_map.1 hx; rfl) (by simpa using h1)
  have e3 := fun r => many_app 4 8 (p.lk.map lkN) r (by intro x hx; obtain ⟨s, _, rfl⟩ := List.mem_map.1 hx; rfl) (by simpa using h2)
  have e4 := fun r => many_app 3 32 (p.wn.map wnN) r (by intro x hx; obtain ⟨s, _, rfl⟩ := List.mem_map.1 hx; rfl) (by simpa using h3)
  simp only [List.length_map] at e2 e3 e4
  have e : plN p = [p.nd.toNat, p.fa.toNat, p.sk.toNat, p.ji.toNat, p.dr.toNat, p.rd.toNat] ++ (p.sl.length :: ((p.sl.map slN).flatten ++ (p.lk.length :: ((p.lk.map lkN).flatten ++ (p.fr.toNat :: (p.wn.length :: ((p.wn.map wnN).flatten ++ []))))))) := by
    unfold plN; simp only [List.append_assoc, List.cons_append, List.nil_append, List.append_nil]
  have hd : dec_ numN ⟨plN p, false⟩ = (plR p, ⟨[], false⟩) := by
    rw [e]; unfold dec_; simp only [e1, e2, e3, numN_cons, e4]; rfl
  unfold decN
  rw [hd, if_neg (by simp)]
theorem slO_slN {s : Sl} (h : 0 ≤ s.n ∧ 0 ≤ s.f ∧ 0 ≤ s.t) : slO (slN s) = s := by
  cases s; simp [slO, slN] at *; omega
theorem lkO_lkN {s : Lk} (h : 0 ≤ s.f ∧ 0 ≤ s.t ∧ 0 ≤ s.b ∧ 0 ≤ s.q) : lkO (lkN s) = s := by
  cases s; simp [lkO, lkN] at *; omega
theorem wnO_wnN {s : Wn} (h : 0 ≤ s.p ∧ 0 ≤ s.f ∧ 0 ≤ s.t) : wnO (wnN s) = s := by
  cases s; simp [wnO, wnN] at *; omega
theorem map_same {α β : Type} {f : α → β} {g : β → α} {l : List α} (h : ∀ x ∈ l, g (f x) = x) : (l.map f).map g = l := by
  rw [List.map_map]
  calc l.map (g ∘ f) = l.map id := List.map_congr_left (fun x hx => h x hx)
    _ = l := by simp
/-- A plan that may be: all its numbers are from 0 to MaxTime. -/
theorem chk_bounds {p : Pl} (h : (chk p).1 = 0) : (0 ≤ p.nd ∧ 0 ≤ p.fa ∧ 0 ≤ p.sk ∧ 0 ≤ p.ji ∧ 0 ≤ p.dr ∧ 0 ≤ p.rd ∧ 0 ≤ p.fr ∧ p.nd ≤ 2 ^ 40 ∧ p.fa ≤ 2 ^ 40 ∧ p.sk ≤ 2 ^ 40 ∧ p.ji ≤ 2 ^ 40 ∧ p.dr ≤ 2 ^ 40 ∧ p.rd ≤ 2 ^ 40 ∧ p.fr ≤ 2 ^ 40) ∧ (p.sl.length ≤ 32 ∧ p.lk.length ≤ 8 ∧ p.wn.length ≤ 32) ∧
    (∀ s ∈ p.sl, (0 ≤ s.n ∧ 0 ≤ s.f ∧ 0 ≤ s.t) ∧ s.n ≤ 2 ^ 40 ∧ s.f ≤ 2 ^ 40 ∧ s.t ≤ 2 ^ 40) ∧ (∀ s ∈ p.lk, (0 ≤ s.f ∧ 0 ≤ s.t ∧ 0 ≤ s.b ∧ 0 ≤ s.q) ∧ s.f ≤ 2 ^ 40 ∧ s.t ≤ 2 ^ 40 ∧ s.b ≤ 2 ^ 40 ∧ s.q ≤ 2 ^ 40) ∧ (∀ s ∈ p.wn, (0 ≤ s.p ∧ 0 ≤ s.f ∧ 0 ≤ s.t) ∧ s.p ≤ 2 ^ 40 ∧ s.f ≤ 2 ^ 40 ∧ s.t ≤ 2 ^ 40) := by
  unfold chk at h
  by_cases h0 : headE p ≠ 0
  · rw [if_pos h0] at h; exact absurd h h0
  rw [if_neg h0] at h
  by_cases h1 : (firstE (slEs p.sk p.rd p.nd 0 p.sl) 0).1 ≠ 0
  · rw [if_pos h1] at h; exact absurd h h1
  rw [if_neg h1] at h
  by_cases h2 : (firstE (p.lk.map (lkE p.nd)) 0).1 ≠ 0
  · rw [if_pos h2] at h; exact absurd h h2
  rw [if_neg h2] at h
  by_cases h3 : (firstE (wnEs p.fr 0 p.wn) 0).1 ≠ 0
  · rw [if_pos h3] at h; exact absurd h h3
  have h0 := Classical.not_not.1 h0
  have z1 := firstE_zero _ 0 (Classical.not_not.1 h1)
  have z2 := firstE_zero _ 0 (Classical.not_not.1 h2)
  have z3 := firstE_zero _ 0 (Classical.not_not.1 h3)
  clear h h1 h2 h3
  have hd : 1 ≤ p.nd ∧ p.nd ≤ 16 ∧ 0 ≤ p.fa ∧ p.fa ≤ 16 ∧ 0 ≤ p.sk ∧ p.sk ≤ 137438953472 ∧ 0 ≤ p.ji ∧ p.ji ≤ 137438953472 ∧ 0 ≤ p.dr ∧ p.dr ≤ 137438953472 ∧ 1 ≤ p.rd ∧ p.rd ≤ 137438953472 ∧ 1 ≤ p.fr ∧ p.fr ≤ 137438953472 ∧ p.sl.length ≤ 32 ∧ p.lk.length ≤ 8 ∧ p.wn.length ≤ 32 := by
    unfold headE at h0
    split at h0
    · cases h0
    · split at h0
      · cases h0
      · split at h0
        · cases h0
        · omega
  have sp : ∀ {f t lo hi : Int}, spE f t lo hi = 0 → f < t ∧ lo ≤ f ∧ t ≤ hi := by
    intro f t lo hi h
    unfold spE at h
    by_cases h1 : t ≤ f
    · rw [if_pos h1] at h; cases h
    · rw [if_neg h1] at h
      by_cases h2 : f < lo
      · rw [if_pos h2] at h; cases h
      · rw [if_neg h2] at h
        by_cases h3 : hi < t
        · rw [if_pos h3] at h; cases h
        · omega
  have pw : (2 : Int) ^ 40 = 1099511627776 := by decide
  have hs : ∀ (k : Nat) (s : Sl), p.sl[k]? = some s → 0 ≤ s.n ∧ s.n ≤ p.nd - 1 ∧ slLo p.sk 0 p.sl k ≤ s.f ∧ s.f < s.t ∧ s.t ≤ p.rd - p.sk - 1 := by
    intro k s hk
    have hl := (List.getElem?_eq_some_iff.1 hk).1
    have := z1 k (by rw [slEs_len]; exact hl)
    rw [slEs_at _ _ _ _ _ _ _ hk] at this
    have := Option.some.inj this
    unfold slE at this
    split at this
    · rename_i h; exact absurd this h
    · rename_i h
      have := sp (Classical.not_not.1 h)
      split at *
      · omega
      · omega
  have hs0 : ∀ (k : Nat) (s : Sl), p.sl[k]? = some s → 0 ≤ s.f := by
    intro k
    induction k with
    | zero => intro s hk; have := hs 0 s hk; rw [slLo_zero] at this; omega
    | succ k ih =>
      intro s hk
      have hl := (List.getElem?_eq_some_iff.1 hk).1
      have hk2 : p.sl[k]? = some p.sl[k] := List.getElem?_eq_getElem (by omega)
      have a := hs (k + 1) s hk
      have b := hs k _ hk2
      have c := ih _ hk2
      rw [slLo_succ _ _ _ _ _ hk2] at a
      omega
  have hw : ∀ (k : Nat) (s : Wn), p.wn[k]? = some s → 0 ≤ s.p ∧ s.p ≤ 5 ∧ wnLo 0 p.wn k ≤ s.f ∧ s.f < s.t ∧ s.t ≤ p.fr := by
    intro k s hk
    have hl := (List.getElem?_eq_some_iff.1 hk).1
    have := z3 k (by rw [wnEs_len]; exact hl)
    rw [wnEs_at _ _ _ _ _ hk] at this
    have := Option.some.inj this
    unfold wnE at this
    split at this
    · rename_i h; exact absurd this h
    · rename_i h
      have := sp (Classical.not_not.1 h)
      split at *
      · omega
      · omega
  have hw0 : ∀ (k : Nat) (s : Wn), p.wn[k]? = some s → 0 ≤ s.f := by
    intro k
    induction k with
    | zero => intro s hk; have := hw 0 s hk; rw [wnLo_zero] at this; omega
    | succ k ih =>
      intro s hk
      have hl := (List.getElem?_eq_some_iff.1 hk).1
      have hk2 : p.wn[k]? = some p.wn[k] := List.getElem?_eq_getElem (by omega)
      have a := hw (k + 1) s hk
      have b := hw k _ hk2
      have c := ih _ hk2
      rw [wnLo_succ _ _ _ _ hk2] at a
      omega
  rw [pw]
  refine ⟨by omega, by omega, ?_, ?_, ?_⟩
  · intro s hm
    obtain ⟨k, hk, rfl⟩ := List.getElem_of_mem hm
    have a := hs k _ (List.getElem?_eq_getElem hk)
    have b := hs0 k _ (List.getElem?_eq_getElem hk)
    omega
  · intro s hm
    obtain ⟨k, hk, rfl⟩ := List.getElem_of_mem hm
    have := z2 k (by simpa using hk)
    rw [List.getElem?_map, List.getElem?_eq_getElem hk] at this
    have := Option.some.inj this
    generalize p.lk[k] = s at this
    unfold lkE at this
    split at this
    · cases this
    · split at this
      · cases this
      · rename_i h1 h2
        have h2 := bool_f (fun h => h2 h)
        unfold toBad at h2
        simp only [Bool.or_eq_false_iff, decide_eq_false_iff_not] at h2
        split at this
        · cases this
        · have : (2 : Int) ^ p.nd.toNat ≤ 2 ^ 16 := by
            have h := Nat.pow_le_pow_right (n := 2) (by decide) (show p.nd.toNat ≤ 16 by omega)
            exact_mod_cast h
          have h16 : (2 : Int) ^ 16 = 65536 := by decide
          omega
  · intro s hm
    obtain ⟨k, hk, rfl⟩ := List.getElem_of_mem hm
    have a := hw k _ (List.getElem?_eq_getElem hk)
    have b := hw0 k _ (List.getElem?_eq_getElem hk)
    omega
theorem plO_plR {p : Pl} (h : (chk p).1 = 0) : plO (plR p) = p := by
  obtain ⟨h1, _, h3, h4, h5⟩ := chk_bounds h
  have a := map_same (f := slN) (g := slO) (l := p.sl) (fun s hs => slO_slN (h3 s hs).1)
  have b := map_same (f := lkN) (g := lkO) (l := p.lk) (fun s hs => lkO_lkN (h4 s hs).1)
  have c := map_same (f := wnN) (g := wnO) (l := p.wn) (fun s hs => wnO_wnN (h5 s hs).1)
  unfold plO plR
  simp only [a, b, c]
  cases p
  simp at *
  omega
theorem toNat_le {x : Int} (h : x ≤ 2 ^ 40) : x.toNat ≤ 2 ^ 40 := by
  have pw : (2 : Int) ^ 40 = 1099511627776 := by decide
  have pn : (2 : Nat) ^ 40 = 1099511627776 := by decide
  omega
theorem plN_le {p : Pl} (h : (chk p).1 = 0) : ∀ n ∈ plN p, n ≤ 2 ^ 40 := by
  obtain ⟨h1, h2, h3, h4, h5⟩ := chk_bounds h
  have pn : (32 : Nat) ≤ 2 ^ 40 := by decide
  intro n hn
  unfold plN at hn
  simp only [List.mem_append, List.mem_cons, List.not_mem_nil, or_false, List.mem_flatten, List.mem_map] at hn
  rcases hn with ((((hn | hn) | hn) | hn) | hn)
  · rcases hn with rfl | rfl | rfl | rfl | rfl | rfl <;> exact toNat_le (by omega)
  · rcases hn with rfl | ⟨_, ⟨s, hs, rfl⟩, hx⟩
    · omega
    · simp [slN] at hx
      have := h3 s hs
      rcases hx with rfl | rfl | rfl <;> exact toNat_le (by omega)
  · rcases hn with rfl | ⟨_, ⟨s, hs, rfl⟩, hx⟩
    · omega
    · simp [lkN] at hx
      have := h4 s hs
      rcases hx with rfl | rfl | rfl | rfl <;> exact toNat_le (by omega)
  · subst hn; exact toNat_le (by omega)
  · rcases hn with rfl | ⟨_, ⟨s, hs, rfl⟩, hx⟩
    · omega
    · simp [wnN] at hx
      have := h5 s hs
      rcases hx with rfl | rfl | rfl <;> exact toNat_le (by omega)
/-- A plan's bytes are that plan again. -/
theorem decB_plN {p : Pl} (h : (chk p).1 = 0) : decB (vnums (plN p)) = some (plR p) := by
  obtain ⟨_, ⟨h1, h2, h3⟩, _⟩ := chk_bounds h
  rw [decB_eq, nums_vnums _ (plN_le h)]
  exact decN_plN p h1 h2 h3
theorem vnum_len (n k : Nat) (hk : 1 ≤ k) (h : n < 128 ^ k) : (vnum n).length ≤ k := by
  induction k generalizing n with
  | zero => omega
  | succ k ih =>
    by_cases h1 : n < 128
    · rw [vnum_small h1]; simp
    · rw [vnum_big h1, List.length_cons]
      by_cases hk0 : k = 0
      · subst hk0; simp at h; omega
      · have := ih (n / 128) (by omega) (by rw [Nat.pow_succ] at h; exact Nat.div_lt_of_lt_mul (by rw [Nat.mul_comm]; exact h))
        omega
theorem vnums_len (l : List Nat) (h : ∀ n ∈ l, n ≤ 2 ^ 40) : (vnums l).length ≤ 6 * l.length := by
  induction l with
  | nil => simp [vnums_nil]
  | cons n l ih =>
    have h1 := vnum_len n 6 (by omega) (Nat.lt_of_le_of_lt (h n (by simp)) (by decide))
    have h2 := ih (fun m hm => h m (by simp [hm]))
    rw [vnums_cons, List.length_append, List.length_cons]; omega
theorem flat_len {α : Type} {j : Nat} {l : List α} {f : α → List Nat} (h : ∀ x, (f x).length = j) : (l.map f).flatten.length = j * l.length := by
  induction l with
  | nil => simp
  | cons x l ih => simp only [List.map_cons, List.flatten_cons, List.length_append, h, ih, List.length_cons, Nat.mul_succ]; omega
theorem plN_len (p : Pl) : (plN p).length = 10 + 3 * p.sl.length + 4 * p.lk.length + 3 * p.wn.length := by
  unfold plN
  simp only [List.length_append, List.length_cons, List.length_nil, flat_len (j := 3) (f := slN) (fun _ => rfl), flat_len (j := 4) (f := lkN) (fun _ => rfl), flat_len (j := 3) (f := wnN) (fun _ => rfl)]
  omega
/-- A plan is never too long. -/
theorem plN_short {p : Pl} (h : (chk p).1 = 0) : (vnums (plN p)).length ≤ 2000 := by
  obtain ⟨_, ⟨h1, h2, h3⟩, _⟩ := chk_bounds h
  have a := vnums_len _ (plN_le h)
  rw [plN_len] at a
  omega
end Go.Proofs.YtfdadkngbnhmeaaDoor
