/- Messages keep their order: plain facts, no program in sight. -/
import Derived.Test.YtdogdlnaacimpaaGreatDoorM12
import Derived.Test.YtdogdlnaacimpaaGreatDoorM13
import Derived.Test.YtdogdlnaacimpaaGreatDoorM21
import Derived.Laws.BytesArg
import Derived.Laws.MakeOwn
set_option linter.unusedVariables false
set_option linter.unusedSimpArgs false
namespace Go.Proofs.YtdogdlnaacimpaaGreatDoor
open Go Go.RowKit

/-- What waits at a sender, behind what waits at a port: numbers that grow, above what came, at most what was put. -/
def Ord1 (mk : Nat → ByteArray) (hi lo : Nat) (q pq : List ByteArray) : Prop := ∃ qs ps : List Nat, q = qs.map mk ∧ pq = ps.map mk ∧ (ps ++ qs).Pairwise (· < ·) ∧ ∀ x ∈ ps ++ qs, lo < x ∧ x ≤ hi
section
variable {mk : Nat → ByteArray} {hi lo : Nat} {q pq : List ByteArray} {d : ByteArray}
theorem Ord1.nil (mk : Nat → ByteArray) : Ord1 mk hi lo [] [] := ⟨[], [], rfl, rfl, .nil, by simp⟩
theorem Ord1.drop (h : Ord1 mk hi lo (d :: q) pq) : Ord1 mk hi lo q pq := by
  obtain ⟨qs, ps, h1, h2, h3, h4⟩ := h
  cases qs with
  | nil => simp at h1
  | cons x qs =>
    simp only [List.map_cons, List.cons.injEq] at h1
    exact ⟨qs, ps, h1.2, h2, h3.sublist (by simp), fun y hy => h4 y (by simp at hy ⊢; rcases hy with hy | hy <;> simp [hy])⟩
theorem Ord1.move (h : Ord1 mk hi lo (d :: q) pq) : Ord1 mk hi lo q (pq ++ [d]) := by
  obtain ⟨qs, ps, h1, h2, h3, h4⟩ := h
  cases qs with
  | nil => simp at h1
  | cons x qs =>
    simp only [List.map_cons, List.cons.injEq] at h1
    exact ⟨qs, ps ++ [x], h1.2, by simp [h2, h1.1], by simpa using h3, by simpa using h4⟩
theorem Ord1.put (h : Ord1 mk hi lo q pq) (hl : lo ≤ hi) : Ord1 mk (hi + 1) lo (q ++ [mk (hi + 1)]) pq := by
  obtain ⟨qs, ps, h1, h2, h3, h4⟩ := h
  refine ⟨qs ++ [hi + 1], ps, by simp [h1], h2, ?_, ?_⟩
  · rw [← List.append_assoc, List.pairwise_append]
    refine ⟨h3, by simp, fun x hx y hy => ?_⟩
    simp at hy; subst hy
    have := (h4 x hx).2; omega
  · intro x hx
    rw [← List.append_assoc] at hx
    rcases List.mem_append.1 hx with h | h
    · have := h4 x h; omega
    · simp at h; omega
theorem Ord1.recv (h : Ord1 mk hi lo q (d :: pq)) : ∃ x, d = mk x ∧ lo < x ∧ x ≤ hi ∧ Ord1 mk hi x q pq := by
  obtain ⟨qs, ps, h1, h2, h3, h4⟩ := h
  cases ps with
  | nil => simp at h2
  | cons x ps =>
    simp only [List.map_cons, List.cons.injEq] at h2
    simp only [List.cons_append, List.pairwise_cons] at h3
    have hx := h4 x (by simp)
    exact ⟨x, h2.1, hx.1, hx.2, qs, ps, h1, h2.2, h3.2, fun y hy => ⟨h3.1 y hy, (h4 y (by simp at hy ⊢; exact .inr hy)).2⟩⟩
end
def OrdA (mk : Nat → Nat → ByteArray) (put : Nat → Nat) (last : Nat → Nat → Nat) (p : Pl) (c : Cl) : Prop := ∀ k i, k < p.lk.length → Ord1 (mk k) (put k) (last k i) (c.sd k).q (c.pr k i).q
section
variable {mk : Nat → Nat → ByteArray} {put : Nat → Nat} {last : Nat → Nat → Nat} {p : Pl} {c : Cl}
theorem take_same (x : Int) : takeB x x = false := by
  unfold takeB aheadB
  by_cases h : x < 0
  · simp; omega
  · simp
    omega
theorem chan_sd (p : Pl) (tn : Nat) (f : FrR) (c : Cl) : (chanF p tn f c).sd = c.sd := by
  unfold chanF
  split
  · rfl
  · split
    · rfl
    · split <;> rfl
theorem chanO_sd (p : Pl) (tn : Nat) (f : Option FrR) (b : Bool) (c : Cl) : (chanO p tn f b c).sd = c.sd := by
  unfold chanO
  cases f with
  | none => rfl
  | some f =>
    dsimp only
    split
    · exact chan_sd _ _ _ _
    · rfl
/-- What a port holds behind a frame that comes once. -/
def prF (p : Pl) (tn : Nat) (f : FrR) (c : Cl) : Bool := if f.lk < 0 then false else match p.lk[f.lk.toNat]? with | none => false | some l => bitB l.t tn && takeB f.sq (c.tk f.lk.toNat tn).nw
theorem chan_pr (p : Pl) (tn : Nat) (f : FrR) (c : Cl) : (chanF p tn f c).pr = if prF p tn f c = true then upd2 c.pr f.lk.toNat tn ((c.pr f.lk.toNat tn).put f.d) else c.pr := by
  unfold chanF prF
  by_cases h0 : f.lk < 0
  · rw [if_pos h0, if_pos h0, if_neg (by decide)]
  · rw [if_neg h0, if_neg h0]
    cases hl : p.lk[f.lk.toNat]? with
    | none => simp
    | some l =>
      cases hb : bitB l.t tn <;> cases ht : takeB f.sq (c.tk f.lk.toNat tn).nw <;> simp [hb, ht]
theorem chan_twice (p : Pl) (tn : Nat) (f : FrR) (c : Cl) (h : prF p tn f c = true) : prF p tn f (chanF p tn f c) = false := by
  unfold prF at h ⊢
  by_cases h0 : f.lk < 0
  · rw [if_pos h0]
  · rw [if_neg h0] at h ⊢
    cases hl : p.lk[f.lk.toNat]? with
    | none => rfl
    | some l =>
      rw [hl] at h
      dsimp only at h ⊢
      have h1 : bitB l.t tn = true ∧ takeB f.sq (c.tk f.lk.toNat tn).nw = true := by simpa using h
      unfold chanF
      rw [if_neg h0, hl]
      dsimp only
      rw [if_pos h1.1]
      have e : ((c.tk f.lk.toNat tn).take f.sq).nw = f.sq := by unfold Tk.take; rw [h1.2]; rfl
      simp only [upd2, and_self, if_true, e, take_same, Bool.and_false]
/-- Both channels: at most once. -/
theorem both_pr (p : Pl) (tn : Nat) (f : Option FrR) (b1 b2 : Bool) (c : Cl) : (chanO p tn f b2 (chanO p tn f b1 c)).pr = c.pr ∨ ∃ g, f = some g ∧ 0 ≤ g.lk ∧ (∃ l, p.lk[g.lk.toNat]? = some l) ∧ (chanO p tn f b2 (chanO p tn f b1 c)).pr = upd2 c.pr g.lk.toNat tn ((c.pr g.lk.toNat tn).put g.d) := by
  cases f with
  | none => exact .inl rfl
  | some g =>
    have key : ∀ c' : Cl, prF p tn g c' = true → 0 ≤ g.lk ∧ ∃ l, p.lk[g.lk.toNat]? = some l := by
      intro c' h
      unfold prF at h
      split at h
      · cases h
      · refine ⟨by omega, ?_⟩
        split at h
        · cases h
        · rename_i l hl; exact ⟨l, hl⟩
    have one : ∀ c' : Cl, c'.pr = c.pr → ((chanF p tn g c').pr = c.pr ∨ ∃ g', some g = some g' ∧ 0 ≤ g'.lk ∧ (∃ l, p.lk[g'.lk.toNat]? = some l) ∧ (chanF p tn g c').pr = upd2 c.pr g'.lk.toNat tn ((c.pr g'.lk.toNat tn).put g'.d)) := by
      intro c' hc
      rw [chan_pr]
      by_cases h : prF p tn g c' = true
      · rw [if_pos h, hc]
        exact .inr ⟨g, rfl, (key c' h).1, (key c' h).2, rfl⟩
      · rw [if_neg h]; exact .inl hc
    cases b1 <;> cases b2
    · exact .inl rfl
    · exact one c rfl
    · exact one c rfl
    · show (chanF p tn g (chanF p tn g c)).pr = c.pr ∨ _
      by_cases h : prF p tn g c = true
      · have h2 := chan_twice p tn g c h
        have e : (chanF p tn g (chanF p tn g c)).pr = upd2 c.pr g.lk.toNat tn ((c.pr g.lk.toNat tn).put g.d) := by
          rw [chan_pr, h2, if_neg (by decide), chan_pr, if_pos h]
        exact .inr ⟨g, rfl, (key c h).1, (key c h).2, e⟩
      · exact one _ (by rw [chan_pr, if_neg h])
def FlyA (mk : Nat → Nat → ByteArray) (put : Nat → Nat) (last : Nat → Nat → Nat) (f : Option FrR) (c : Cl) (i : Nat) : Prop := ∀ g, f = some g → 0 ≤ g.lk → Ord1 (mk g.lk.toNat) (put g.lk.toNat) (last g.lk.toNat i) (g.d :: (c.sd g.lk.toNat).q) (c.pr g.lk.toNat i).q
theorem hears_sd (p : Pl) (from_ tn slot : Nat) (fr : Option FrR) (ls : List Ls) (c : Cl) : (hearsF p from_ tn slot fr ls c).sd = c.sd := by
  unfold hearsF
  dsimp only
  rw [chanO_sd, chanO_sd]
theorem hears_ord (h : OrdA mk put last p c) {from_ tn slot : Nat} {fr : Option FrR} (ls : List Ls) (hf : FlyA mk put last fr c tn) : OrdA mk put last p (hearsF p from_ tn slot fr ls c) ∧ ∀ i, i ≠ tn → ∀ k, (hearsF p from_ tn slot fr ls c).pr k i = c.pr k i := by
  have e1 := hears_sd p from_ tn slot fr ls c
  have e2 := both_pr p tn fr (cameB fr ls slot 0 tn) (cameB fr ls slot 1 tn) c
  have e3 : (hearsF p from_ tn slot fr ls c).pr = (chanO p tn fr (cameB fr ls slot 1 tn) (chanO p tn fr (cameB fr ls slot 0 tn) c)).pr := rfl
  rw [← e3] at e2
  rcases e2 with e2 | ⟨g, rfl, h0, hl, e2⟩
  · exact ⟨fun k i hk => by rw [e1, e2]; exact h k i hk, fun i _ k => by rw [e2]⟩
  · refine ⟨fun k i hk => ?_, fun i hi k => ?_⟩
    · rw [e1, e2]
      by_cases e : k = g.lk.toNat ∧ i = tn
      · obtain ⟨rfl, rfl⟩ := e
        have ho := hf g rfl h0
        simp only [upd2, and_self, if_true]
        unfold Pr.put putQ
        dsimp only
        split
        · exact ho.move
        · exact ho.drop
      · simp only [upd2, if_neg e]
        exact h k i hk
    · rw [e2]
      simp [upd2, hi]
theorem hearAll_ord (h : OrdA mk put last p c) {nd slot : Nat} {fr : Option FrR} (ls : List Ls) (hf : ∀ i, FlyA mk put last fr c i) : ∀ k, OrdA mk put last p (hearAll p nd slot fr ls c k) ∧ (∀ i, k ≤ i → ∀ j, (hearAll p nd slot fr ls c k).pr j i = c.pr j i) ∧ (hearAll p nd slot fr ls c k).sd = c.sd
  | 0 => ⟨h, fun _ _ _ => rfl, rfl⟩
  | k + 1 => by
    obtain ⟨h1, h2, h3⟩ := hearAll_ord h ls hf k (nd := nd) (slot := slot)
    unfold hearAll
    by_cases e : k = nd
    · rw [if_pos e]; exact ⟨h1, fun i hi => h2 i (by omega), h3⟩
    · rw [if_neg e]
      obtain ⟨a1, a2⟩ := hears_ord (from_ := nd) (tn := k) (slot := slot) (fr := fr) h1 ls (fun g hg h0 => by
        rw [h3, h2 k (Nat.le_refl _)]
        exact hf k g hg h0)
      exact ⟨a1, fun i hi j => by rw [a2 i (by omega), h2 i (by omega)], by rw [hears_sd, h3]⟩
theorem sdE_some {now la nw bag : Int} {n : Nat} (h : sdE now la nw bag n = 0) : n ≠ 0 := by
  rintro rfl
  unfold sdE at h
  repeat' split at h
  all_goals first | (exact absurd h (by decide)) | skip
  rename_i h1; exact h1 (.inl rfl)
theorem loads_ord (now nd : Int) : ∀ (ls : List Lk) (k : Nat) (c : Cl), OrdA mk put last p c → (∀ j l, ls[j]? = some l → p.lk[k + j]? = some l) → OrdA mk put last p (loadsF now nd ls k c).1 ∧ (0 ≤ (loadsF now nd ls k c).2.1 → ∀ i, Ord1 (mk (loadsF now nd ls k c).2.1.toNat) (put (loadsF now nd ls k c).2.1.toNat) (last (loadsF now nd ls k c).2.1.toNat i) ((loadsF now nd ls k c).2.2.2 :: ((loadsF now nd ls k c).1.sd (loadsF now nd ls k c).2.1.toNat).q) ((loadsF now nd ls k c).1.pr (loadsF now nd ls k c).2.1.toNat i).q)
  | [], _, c, h, _ => ⟨h, fun h0 => absurd (show (0 : Int) ≤ -1 from h0) (by decide)⟩
  | l :: ls, k, c, h, hd => by
    have hk : p.lk[k]? = some l := by simpa using hd 0 l (by simp)
    have hlt : k < p.lk.length := (List.getElem?_eq_some_iff.1 hk).1
    have hd' : ∀ j l', ls[j]? = some l' → p.lk[k + 1 + j]? = some l' := fun j l' hj => by
      have := hd (j + 1) l' (by simpa using hj)
      rw [show k + 1 + j = k + (j + 1) by omega]; exact this
    unfold loadsF
    by_cases hf : l.f = nd
    · rw [if_pos hf]
      split
      · rename_i h0
        have hq := sdE_some h0
        obtain ⟨d, q, hdq⟩ : ∃ d q, (c.sd k).q = d :: q := by
          cases e : (c.sd k).q with
          | nil => rw [e] at hq; exact absurd rfl hq
          | cons d q => exact ⟨d, q, rfl⟩
        refine ⟨fun j i hj => ?_, fun _ i => ?_⟩
        · by_cases e : j = k
          · subst e
            have := h j i hj
            rw [hdq] at this
            simp only [updF, if_true, hdq, List.tail_cons]
            exact this.drop
          · simp only [updF, if_neg e]
            exact h j i hj
        · have := h k i hlt
          rw [hdq] at this
          simp only [Int.toNat_natCast, updF, if_true, hdq, List.tail_cons, List.headD_cons]
          exact this
      · exact loads_ord now nd ls (k + 1) _ (fun j i hj => by
          by_cases e : j = k
          · subst e
            simp only [updF, if_true]
            exact h j i hj
          · simp only [updF, if_neg e]
            exact h j i hj) hd'
    · rw [if_neg hf]
      exact loads_ord now nd ls (k + 1) c h hd'
theorem slot_ord (h : OrdA mk put last p c) (fy : Nat) (r : Rn) (i : Nat) : OrdA mk put last p (slotF p fy r i c) := by
  unfold slotF
  cases hs : p.sl[i]? with
  | none => exact h
  | some s =>
    dsimp only
    have hm : OrdA mk put last p { c with mm := updF c.mm s.n.toNat (c.mm s.n.toNat).send } := h
    split
    · obtain ⟨h1, h2⟩ := loads_ord (c.rd * p.rd + s.f) s.n p.lk 0 _ hm (by simp)
      exact (hearAll_ord h1 _ (fun j g hg h0 => by cases hg; exact h2 h0 j) _).1
    · exact (hearAll_ord hm _ (fun j g hg => by cases hg) _).1
theorem slots_ord (h : OrdA mk put last p c) (fy : Nat) (r : Rn) : ∀ k, OrdA mk put last p (slotsF p fy r c k)
  | 0 => h
  | k + 1 => slot_ord (slots_ord h fy r k) fy r k
theorem play_ord (h : OrdA mk put last p c) (fy : Nat) (r : Rn) : OrdA mk put last p (playF p fy r c) := by
  unfold playF
  split
  · exact h
  · exact slots_ord h fy r _
theorem OrdA.put_ (h : OrdA mk put last p c) {k : Nat} {l : Lk} (hl : ∀ i, last k i ≤ put k) (he : putE (mk k (put k + 1)).size (c.sd k).q.length l.q = 0) : OrdA mk (updF put k (put k + 1)) last p (clPut k l (mk k (put k + 1)) c) := by
  intro j i hj
  unfold clPut
  dsimp only
  by_cases e : j = k
  · subst e
    rw [updF_self, updF_self, he, putQ_zero]
    exact (h j i hj).put (hl i)
  · rw [updF_ne _ _ e, updF_ne _ _ e]
    exact h j i hj
theorem OrdA.putNo (h : OrdA mk put last p c) {k : Nat} {l : Lk} (d : ByteArray) (he : putE d.size (c.sd k).q.length l.q ≠ 0) : OrdA mk put last p (clPut k l d c) := by
  intro j i hj
  unfold clPut
  dsimp only
  by_cases e : j = k
  · subst e
    rw [updF_self, putQ_no _ _ he]
    exact h j i hj
  · rw [updF_ne _ _ e]
    exact h j i hj
theorem OrdA.recv (h : OrdA mk put last p c) {k i : Nat} (hk : k < p.lk.length) {d : ByteArray} {q : List ByteArray} (hq : (c.pr k i).q = d :: q) : ∃ x, d = mk k x ∧ last k i < x ∧ x ≤ put k ∧ OrdA mk put (upd2 last k i x) p (clRecv k i c) := by
  have h1 := h k i hk
  rw [hq] at h1
  obtain ⟨x, e, h2, h3, h4⟩ := h1.recv
  refine ⟨x, e, h2, h3, fun a b ha => ?_⟩
  unfold clRecv
  dsimp only
  by_cases e2 : a = k ∧ b = i
  · obtain ⟨rfl, rfl⟩ := e2
    simp only [upd2, and_self, if_true, hq, List.tail_cons]
    exact h4
  · simp only [upd2, if_neg e2]
    exact h a b ha
theorem OrdA.start (mk : Nat → Nat → ByteArray) (p : Pl) (ck : List Int) (put : Nat → Nat) (last : Nat → Nat → Nat) : OrdA mk put last p (startF p ck) := fun _ _ _ => Ord1.nil _
end
end Go.Proofs.YtdogdlnaacimpaaGreatDoor
/- What ClusterOrder keeps in memory beside the cluster: numbers and a table of numbers; no condition. -/
namespace Go.Proofs.YtdogdlnaacimpaaGreatDoor
open Go Go.RowKit

/-- Numbers in a block. -/
def NumB (w : World) (g n : Nat) (f : Nat → Nat) : Prop := ∃ cs : Array Value, Blk w g 3 cs ∧ ∀ k, k < n → cs[k]? = some (.int .i64 (f k : Nat))
/-- A table of numbers, of which m rows are made. -/
structure TabB (w : World) (g nl nd m : Nat) (G : Nat → Nat) (f : Nat → Nat → Nat) : Prop where
  top : ∃ cs : Array Value, Blk w g 27 cs ∧ cs.size = nl ∧ ∀ k, k < m → cs[k]? = some (.slice (some ⟨G k, 0, none⟩) nd nd)
  row : ∀ k, k < m → NumB w (G k) nd (f k)
  ne : ∀ k j, k < m → j < m → k ≠ j → G k ≠ G j
  lo : ∀ k, k < m → g < G k
/-- Both, beside a family of blocks. -/
structure OrM (w : World) (base pb tb nl nd m : Nat) (G : Nat → Nat) (put : Nat → Nat) (last : Nat → Nat → Nat) (S : Ix → Ob) : Prop where
  ptb : base ≤ pb
  lt : pb < tb
  pu : NumB w pb nl put
  la : TabB w tb nl nd m G last
  n1 : ¬ Fmy S pb
  n2 : ¬ Fmy S tb
  n3 : ∀ k, k < m → ¬ Fmy S (G k)
section
variable {w w' : World} {g n base pb tb nl nd m : Nat} {G f put : Nat → Nat} {last h2 : Nat → Nat → Nat} {S S' : Ix → Ob}
theorem NumB.cell (h : NumB w g n f) {k : Nat} (hk : k < n) : w.cell? ⟨g, k, none⟩ = some (.int .i64 (f k : Nat)) ∧ w.frozen? ⟨g, k, none⟩ = false := by
  obtain ⟨cs, hb, hc⟩ := h
  exact ⟨(hb.cell k).trans (hc k hk), hb.frozen k⟩
theorem NumB.lt (h : NumB w g n f) : g < w.heap.size := by obtain ⟨cs, hb, hc⟩ := h; exact hb.lt
theorem NumB.set_ (h : NumB w g n f) {i : Nat} (x : Nat) : NumB (w.setCell ⟨g, i, none⟩ (.int .i64 (x : Nat))) g n (updF f i x) := by
  obtain ⟨cs, hb, hc⟩ := h
  refine ⟨_, hb.set_ i _, ?_⟩
  intro k hk
  have h0 := hc k hk
  rw [Array.getElem?_setIfInBounds]
  have hs : k < cs.size := (Array.getElem?_eq_some_iff.1 h0).1
  by_cases e : i = k
  · subst e; simp [hs, updF]
  · rw [if_neg e]
    unfold updF
    rw [if_neg (fun (h : k = i) => e h.symm)]; exact h0
theorem NumB.keep (h : NumB w g n f) (hb : w'.heap[g]? = w.heap[g]?) : NumB w' g n f := by
  obtain ⟨cs, h1, hc⟩ := h; exact ⟨cs, hb.trans h1, hc⟩
theorem TabB.lt (h : TabB w g nl nd m G h2) : g < w.heap.size := by obtain ⟨cs, hb, hc⟩ := h.top; exact hb.lt
theorem TabB.cell (h : TabB w g nl nd m G h2) {k : Nat} (hk : k < m) : w.cell? ⟨g, k, none⟩ = some (.slice (some ⟨G k, 0, none⟩) nd nd) := by
  obtain ⟨cs, hb, _, hc⟩ := h.top
  exact (hb.cell k).trans (hc k hk)
theorem TabB.keep (h : TabB w g nl nd m G h2) (hg : w'.heap[g]? = w.heap[g]?) (hG : ∀ k, k < m → w'.heap[G k]? = w.heap[G k]?) : TabB w' g nl nd m G h2 :=
  ⟨by obtain ⟨cs, hb, h1⟩ := h.top; exact ⟨cs, hg.trans hb, h1⟩, fun k hk => (h.row k hk).keep (hG k hk), h.ne, h.lo⟩
theorem OrM.step (h : OrM w base pb tb nl nd m G put last S) (hk : KeptS w w' S S') : OrM w' base pb tb nl nd m G put last S' :=
  ⟨h.ptb, h.lt, h.pu.keep (hk.block pb h.pu.lt h.n1), h.la.keep (hk.block tb h.la.lt h.n2) (fun k hm => hk.block _ (h.la.row k hm).lt (h.n3 k hm)), hk.not h.pu.lt h.n1, hk.not h.la.lt h.n2, fun k hm => hk.not (h.la.row k hm).lt (h.n3 k hm)⟩
theorem OrM.below (h : OrM w base pb tb nl nd m G put last S) (hB : Below w.heap.size w w') : OrM w' base pb tb nl nd m G put last S := h.step (.of_below hB)
theorem OrM.setPut (h : OrM w base pb tb nl nd m G put last S) (k x : Nat) : OrM (w.setCell ⟨pb, k, none⟩ (.int .i64 (x : Nat))) base pb tb nl nd m G (updF put k x) last S :=
  ⟨h.ptb, h.lt, h.pu.set_ x, h.la.keep (Below.heap_setCell w _ _ tb (by have := h.lt; show tb ≠ pb; omega)) (fun j hj => Below.heap_setCell w _ _ _ (by have := h.lt; have := h.la.lo j hj; show G j ≠ pb; omega)), h.n1, h.n2, h.n3⟩
theorem OrM.setLast (h : OrM w base pb tb nl nd m G put last S) {k : Nat} (hk : k < m) (i x : Nat) : OrM (w.setCell ⟨G k, i, none⟩ (.int .i64 (x : Nat))) base pb tb nl nd m G put (upd2 last k i x) S := by
  have h1 := h.lt
  have h2 := h.la.lo k hk
  refine ⟨h.ptb, h.lt, h.pu.keep (Below.heap_setCell w _ _ pb (by show pb ≠ G k; omega)), ⟨?_, fun j hj => ?_, h.la.ne, h.la.lo⟩, h.n1, h.n2, h.n3⟩
  · obtain ⟨cs, hb, hc⟩ := h.la.top
    exact ⟨cs, hb.far (p := ⟨G k, i, none⟩) (by show tb ≠ G k; omega) _, hc⟩
  · by_cases e : j = k
    · subst e
      have := (h.la.row j hj).set_ (i := i) x
      have e2 : upd2 last j i x j = updF (last j) i x := by funext b; simp [upd2, updF]
      rw [e2]; exact this
    · have e2 : upd2 last k i x j = last j := by funext b; simp [upd2, e]
      rw [e2]
      exact (h.la.row j hj).keep (Below.heap_setCell w _ _ _ (by show G j ≠ G k; exact h.la.ne j k hj hk e))
/-- A row of zeros more. -/
theorem OrM.addRow {cs : Array Value} (h : OrM w base pb tb nl nd m G put (fun _ _ => 0) S) (hm : m < nl) (hc : ∀ k, k < nd → cs[k]? = some (.int .i64 ((0 : Nat) : Int))) (hn : ¬ Fmy S w.heap.size) : OrM ((w.setCell ⟨tb, m, none⟩ (.slice (some ⟨w.heap.size, 0, none⟩) nd nd)).alloc (.cells cs 3)) base pb tb nl nd (m + 1) (updF G m w.heap.size) put (fun _ _ => 0) S := by
  have h1 := h.lt
  have h2 := h.la.lt
  have hsz : (w.setCell ⟨tb, m, none⟩ (.slice (some ⟨w.heap.size, 0, none⟩) nd nd)).heap.size = w.heap.size := by simp [World.setCell]
  have ha : ∀ i, i < w.heap.size → i ≠ tb → ((w.setCell ⟨tb, m, none⟩ (.slice (some ⟨w.heap.size, 0, none⟩) nd nd)).alloc (.cells cs 3)).heap[i]? = w.heap[i]? := fun i hi hne => (Below.heap_alloc _ _ i (by rw [hsz]; exact hi)).trans (Below.heap_setCell _ _ _ i hne)
  have hGl : ∀ j, j < m → G j < w.heap.size := fun j hj => (h.la.row j hj).lt
  refine ⟨h.ptb, h.lt, h.pu.keep (ha pb h.pu.lt (by omega)), ⟨?_, fun j hj => ?_, fun j i hj hi hne => ?_, fun j hj => ?_⟩, h.n1, h.n2, fun j hj => ?_⟩
  · obtain ⟨ct, hb, hsz, hct⟩ := h.la.top
    refine ⟨_, (hb.set_ m _).alloc (.cells cs 3), by simpa using hsz, fun k hk => ?_⟩
    rw [Array.getElem?_setIfInBounds]
    by_cases e : m = k
    · subst e
      simp [hsz, hm, updF]
    · rw [if_neg e]
      unfold updF
      rw [if_neg (fun (h : k = m) => e h.symm)]
      exact hct k (by omega)
  · unfold updF
    by_cases e : j = m
    · subst e
      rw [if_pos rfl]
      exact ⟨cs, by have := Blk.new (w.setCell ⟨tb, j, none⟩ (.slice (some ⟨w.heap.size, 0, none⟩) nd nd)) 3 cs; rw [hsz] at this; exact this, hc⟩
    · rw [if_neg e]
      have hjm : j < m := by omega
      exact (h.la.row j hjm).keep (ha _ (hGl j hjm) (by have := h.la.lo j hjm; omega))
  · unfold updF
    by_cases e : j = m <;> by_cases e2 : i = m
    · omega
    · rw [if_pos e, if_neg e2]; have := hGl i (by omega); omega
    · rw [if_neg e, if_pos e2]; have := hGl j (by omega); omega
    · rw [if_neg e, if_neg e2]; exact h.la.ne j i (by omega) (by omega) hne
  · unfold updF
    by_cases e : j = m
    · rw [if_pos e]; exact h2
    · rw [if_neg e]; exact h.la.lo j (by omega)
  · unfold updF
    by_cases e : j = m
    · rw [if_pos e]; exact hn
    · rw [if_neg e]; exact h.n3 j (by omega)
/-- A cluster stays where a block beside it changes. -/
theorem Objs.keepF (h : Objs w base S) (hs : w.heap.size ≤ w'.heap.size) (hk : ∀ i, i < w.heap.size → Fmy S i → w'.heap[i]? = w.heap[i]?) : Objs w' base S :=
  ⟨fun x => (h.at_ x).keep (fun k hk' hf => hk k hk' ⟨x, hf⟩), fun x k hm => ⟨(h.own x k hm).1, Nat.lt_of_lt_of_le (h.own x k hm).2 hs⟩, h.sep⟩
end
theorem made_info : (Tryz.prog.info? 3).map (fun i => (i.zero, i.size, i.bytes)) = some (some (.int .i64 0), 1, 8) := by kernel_rfl
theorem make_nums (n : Nat) (hn : n ≤ 1000) : ∃ cs : Array Value, (∀ w : World, (Instr.makeSlice 27 (.int .i64 n) (.int .i64 n)).run Tryz.prog w = .ok (.slice (some ⟨w.heap.size, 0, none⟩) n n) (w.alloc (.cells cs 3))) ∧ ∀ k, k < n → cs[k]? = some (.int .i64 ((0 : Nat) : Int)) := by
  obtain ⟨i0, hi, hz0, hz1, hz2⟩ := en_info_parts made_info
  refine ⟨madeCells (Value.int .i64 0).cells ((n : Int).toNat * i0.size), fun w => ?_, ?_⟩
  · have := run_makeSlice (P := Tryz.prog) w 27 3 i0 (.int .i64 0) Tryz.underlying27 hi hz0 .i64 .i64 n n (by omega) (by omega) (by rw [hz1]; simp; omega) (by rw [hz2]; simp; omega) (by omega)
    simpa using this
  · intro k hk
    rw [hz1]
    simp [madeCells, Value.cells]
    exact ⟨k, by simp [hk], by rw [Nat.mod_one]; rfl⟩
theorem OrM.start {w : World} {base nl nd : Nat} {cs ct : Array Value} {S : Ix → Ob} (h1 : ∀ k, k < nl → cs[k]? = some (.int .i64 ((0 : Nat) : Int))) (h2 : ct.size = nl) (hb : base ≤ w.heap.size) (n1 : ¬ Fmy S w.heap.size) (n2 : ¬ Fmy S (w.heap.size + 1)) : OrM ((w.alloc (.cells cs 3)).alloc (.cells ct 27)) base w.heap.size (w.heap.size + 1) nl nd 0 (fun _ => 0) (fun _ => 0) (fun _ _ => 0) S :=
  ⟨hb, by omega, ⟨cs, (Blk.new w _ _).alloc _, h1⟩, ⟨⟨ct, by have := Blk.new (w.alloc (.cells cs 3)) 27 ct; simpa using this, h2, fun k hk => by omega⟩, fun k hk => by omega, fun k j hk => by omega, fun k hk => by omega⟩, n1, n2, fun k hk => by omega⟩
/-- A round lies at a place. -/
def RnB (w : World) (b o : Nat) (r : Rn) : Prop := ∃ A1 c1 A2 c2 A3 c3 A4 c4, w.cell? ⟨b, o, none⟩ = some (.slice A1 r.ls.length c1) ∧ w.cell? ⟨b, o + 1, none⟩ = some (.slice A2 r.rg.length c2) ∧ w.cell? ⟨b, o + 2, none⟩ = some (.slice A3 r.dr.length c3) ∧ w.cell? ⟨b, o + 3, none⟩ = some (.slice A4 r.md.length c4) ∧ LossAt w A1 r.ls ∧ RgAt w A2 r.rg ∧ IsL w A3 r.dr ∧ IsL w A4 r.md ∧ r.ls.length ≤ 9223372036854775807 ∧ r.rg.length ≤ 9223372036854775807 ∧ r.dr.length ≤ 9223372036854775807 ∧ r.md.length ≤ 9223372036854775807
/-- What is said lies in memory: links and rounds. -/
def SaAt (w : World) (A : Option Addr) (l : List (Int × Rn)) : Prop := ∀ (j : Nat) (x : Int × Rn), l[j]? = some x → ∃ b off, A = some ⟨b, off, none⟩ ∧ w.cell? ⟨b, off + j * 5, none⟩ = some (.int .i64 x.1) ∧ RnB w b (off + j * 5 + 1) x.2
/-- Receiving keeps the bounds. -/
theorem clRecv_ok0 {p : Pl} {N : Nat} {c : Cl} (h : ClOk p N c) (k i : Nat) : ClOk p N (clRecv k i c) := by
  refine ⟨h.len, h.ck, h.rd, h.mm, h.sd, h.tk, fun a b => ?_⟩
  have h1 := h.pr a b
  unfold clRecv
  dsimp only
  unfold upd2
  split
  · rename_i e
    obtain ⟨rfl, rfl⟩ := e
    exact ⟨h1.1, h1.2.1, by rw [List.length_tail]; omega⟩
  · exact h1
/-- A message of two numbers. -/
def mkS (k n : Nat) : ByteArray := strOfNums [(n : Int), (k : Int)]
theorem mkS_size (k n : Nat) : (mkS k n).size = 2 := by unfold mkS; rw [strOfNums_size]; rfl
theorem mkS_idx {k n : Nat} (hk : k < 256) (hn : n < 256) (w : World) : (Instr.index 9 (.string (mkS k n)) (.int .i64 0)).run Tryz.prog w = .ok (.int .u8 n) w ∧ (Instr.index 9 (.string (mkS k n)) (.int .i64 1)).run Tryz.prog w = .ok (.int .u8 k) w := by
  have hs := mkS_size k n
  have e0 : (mkS k n)[0]'(by rw [hs]; decide) = UInt8.ofNat n := rfl
  have e1 : (mkS k n)[1]'(by rw [hs]; decide) = UInt8.ofNat k := rfl
  constructor
  · rw [run_index_string w 9 _ .i64 0 Tryz.underlying9, dif_pos (by rw [hs]; decide)]
    show Result.ok (Value.int .u8 (((mkS k n)[0]'(by rw [hs]; decide)).toNat)) w = _
    rw [e0, UInt8.toNat_ofNat', Nat.mod_eq_of_lt (by simpa using hn)]
  · rw [run_index_string w 9 _ .i64 1 Tryz.underlying9, dif_pos (by rw [hs]; decide)]
    show Result.ok (Value.int .u8 (((mkS k n)[1]'(by rw [hs]; decide)).toNat)) w = _
    rw [e1, UInt8.toNat_ofNat', Nat.mod_eq_of_lt (by simpa using hk)]
end Go.Proofs.YtdogdlnaacimpaaGreatDoor
