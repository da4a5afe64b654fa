/- A queue: a slice of one-cell elements that is appended to at its end and cut at its front; plain facts and one law; no condition. -/
import Derived.Test.YtfdadkngbnhmeaaDoorLib
import Derived.ArgAppend
import Derived.RegionTactic
namespace Go.Proofs.YtfdadkngbnhmeaaDoor
open Go.RowKit

/-- A slice value that holds just these elements, in a row of the call's own from block base on. -/
def QAt (w : World) (base : Nat) (e : TypeId) (v : Value) (l : List Value) : Prop :=
  (l = [] ∧ ∃ ao, v = .slice ao 0 0) ∨
  ∃ g off cap cur, v = .slice (some ⟨g, off, none⟩) l.length cap ∧ base ≤ g ∧ w.heap[g]? = some (.cells cur e (0, 0)) ∧ 0 < cap ∧ l.length ≤ cap ∧ cap ≤ maxLen ∧ cur.size = off + cap ∧ ∀ j, j < l.length → cur[off + j]? = l[j]?

theorem QAt.nil (w : World) (base : Nat) (e : TypeId) (ao : Option Addr) : QAt w base e (.slice ao 0 0) [] := .inl ⟨rfl, ao, rfl⟩
theorem QAt.of_own {w : World} {base b2 : Nat} {e : TypeId} {v : Value} {n : Nat} {l : List Value} (h : w.ownsRow b2 e 1 v n l) (hb : base ≤ b2) : QAt w base e v l := by
  obtain ⟨hl, h | ⟨g, cap, cur, hv, hg, hh, hn, hm, hs, ht⟩⟩ := h
  · obtain ⟨rfl, rfl⟩ := h
    exact .inl ⟨List.eq_nil_of_length_eq_zero (by omega), none, rfl⟩
  · have hl' : l.length = n := by omega
    by_cases hc : cap = 0
    · exact .inl ⟨List.eq_nil_of_length_eq_zero (by omega), some ⟨g, 0, none⟩, by rw [hv, hc]; congr 1; omega⟩
    · refine .inr ⟨g, 0, cap, cur, by rw [hl']; exact hv, by omega, hh, by omega, by omega, hm, by omega, fun j hj => ?_⟩
      rw [Nat.zero_add, ← ht, List.getElem?_take]
      rw [if_pos (by omega)]
      simp
theorem QAt.shape {w : World} {base : Nat} {e : TypeId} {v : Value} {l : List Value} (h : QAt w base e v l) : ∃ ao c, v = .slice ao l.length c ∧ l.length ≤ c := by
  rcases h with ⟨rfl, ao, rfl⟩ | ⟨g, off, cap, cur, rfl, _, _, _, hl, _⟩
  · exact ⟨ao, 0, rfl, Nat.le_refl _⟩
  · exact ⟨_, _, rfl, hl⟩
/-- The block that it lies in. -/
theorem QAt.block {w : World} {base : Nat} {e : TypeId} {ao : Option Addr} {n c : Nat} {l : List Value} (h : QAt w base e (.slice ao n c) l) (hn : 0 < n) : ∃ g off, ao = some ⟨g, off, none⟩ ∧ base ≤ g ∧ g < w.heap.size ∧ ∀ j, j < n → w.cell? ⟨g, off + j, none⟩ = l[j]? := by
  rcases h with ⟨rfl, ao', e'⟩ | ⟨g, off, cap, cur, e', hb, hg, hc, hl, hm, hs, hcell⟩
  · cases e'; omega
  · cases e'
    exact ⟨g, off, rfl, hb, (Array.getElem?_eq_some_iff.1 hg).1, fun j hj => by rw [cell_of_row w g (off + j) cur e (0, 0) hg]; exact hcell j hj⟩
/-- Blocks that are not its own may change. -/
theorem QAt.keep {w w' : World} {base : Nat} {e : TypeId} {v : Value} {l : List Value} (h : QAt w base e v l) (hk : ∀ g, base ≤ g → g < w.heap.size → v.ownBlock = some g → w'.heap[g]? = w.heap[g]?) : QAt w' base e v l := by
  rcases h with h | ⟨g, off, cap, cur, rfl, hb, hg, r⟩
  · exact .inl h
  · exact .inr ⟨g, off, cap, cur, rfl, hb, by rw [hk g hb (Array.getElem?_eq_some_iff.1 hg).1 rfl]; exact hg, r⟩
theorem QAt.below {w w' : World} {base B : Nat} {e : TypeId} {v : Value} {l : List Value} (h : QAt w base e v l) (hB : Below B w w') (hs : w.heap.size ≤ B) : QAt w' base e v l := h.keep (fun g _ hg _ => hB.block g (by omega))
theorem QAt.far {w : World} {base : Nat} {e : TypeId} {v : Value} {l : List Value} (h : QAt w base e v l) {p : Addr} (hp : v.ownBlock ≠ some p.block) (u : Value) : QAt (w.setCell p u) base e v l :=
  h.keep (fun g _ _ hv => Below.heap_setCell w p u g (by rintro rfl; exact hp hv))
theorem QAt.alloc {w : World} {base : Nat} {e : TypeId} {v : Value} {l : List Value} (h : QAt w base e v l) (o : Obj) : QAt (w.alloc o) base e v l := h.keep (fun g _ hg _ => Below.heap_alloc w o g hg)
theorem QAt.drew {w : World} {base : Nat} {e : TypeId} {v : Value} {l : List Value} (h : QAt w base e v l) : QAt w.drew base e v l := h.keep (fun _ _ _ _ => rfl)
theorem QAt.drewN {w : World} {base : Nat} {e : TypeId} {v : Value} {l : List Value} (h : QAt w base e v l) (n : Nat) : QAt (w.drewN n) base e v l := h.keep (fun _ _ _ _ => rfl)
theorem QAt.grown {w w' : World} {row : Option Nat} {base : Nat} {e : TypeId} {v : Value} {l : List Value} (h : QAt w base e v l) (hg : w.grownBy w' row) (hv : v.ownBlock = none ∨ v.ownBlock ≠ row) : QAt w' base e v l :=
  h.keep (fun g _ hlt e => hg.block g hlt (by rcases hv with hv | hv <;> rw [e] at hv <;> simp_all))
theorem QAt.mono {w : World} {base b2 : Nat} {e : TypeId} {v : Value} {l : List Value} (h : QAt w base e v l) (hb : b2 ≤ base) : QAt w b2 e v l := by
  rcases h with h | ⟨g, off, cap, cur, e1, h2, r⟩
  · exact .inl h
  · exact .inr ⟨g, off, cap, cur, e1, by omega, r⟩
theorem QAt.own {w : World} {base : Nat} {e : TypeId} {v : Value} {l : List Value} (h : QAt w base e v l) (hl : l ≠ []) (g : Nat) (hv : v.ownBlock = some g) : base ≤ g ∧ g < w.heap.size := by
  rcases h with h | ⟨g', off, cap, cur, rfl, hb, hg, r⟩
  · exact absurd h.1 hl
  · simp [Value.ownBlock] at hv
    subst hv
    exact ⟨hb, (Array.getElem?_eq_some_iff.1 hg).1⟩

/-- The first one off. (At the row's end the address stays.) -/
theorem QAt.tail {w : World} {base : Nat} {e : TypeId} {g off n c : Nat} {x : Value} {l : List Value} (h : QAt w base e (.slice (some ⟨g, off, none⟩) n c) (x :: l)) :
    QAt w base e (.slice (if c = 1 then some ⟨g, off, none⟩ else some ⟨g, off + 1, none⟩) (n - 1) (c - 1)) l := by
  rcases h with ⟨h, _⟩ | ⟨g', off', cap, cur, e', hb, hg, hc, hl, hm, hs, hcell⟩
  · cases h
  · cases e'
    simp only [List.length_cons, Nat.add_sub_cancel] at *
    by_cases h1 : c = 1
    · rw [if_pos h1]
      have hl0 : l.length = 0 := by omega
      exact .inl ⟨List.eq_nil_of_length_eq_zero hl0, some ⟨g, off, none⟩, by rw [hl0, h1]⟩
    · rw [if_neg h1]
      refine .inr ⟨g, off + 1, c - 1, cur, rfl, hb, hg, by omega, by omega, by omega, by omega, fun j hj => ?_⟩
      have := hcell (j + 1) (by omega)
      rw [List.getElem?_cons_succ] at this
      rw [← this]; congr 1; omega

section
variable {P : Program}
/-- One more at the end: the value and the world as some that hold one more; all else is as it was but for the value's own row. -/
theorem run_append_q (w : World) (base : Nat) (t ty e : TypeId) (i : TypeInfo) (z : Value) (bytes : Nat) (ht : P.underlying t = some (.slice e)) (hi : P.info? e = some i) (hz : i.zero = some z) (hsize : i.size = 1) (hby : i.bytes = bytes) (hzs : z.cells.size = 1)
    (v : Value) (l : List Value) (hQ : QAt w base e v l) (B o c : Nat) (u : Value) (hnews : w.cell? ⟨B, o, none⟩ = some u) (h1 : u.oneCell' = true) (h63 : l.length + 1 ≤ maxLen) (hbytes : (l.length + 1) * bytes ≤ 140737488355328) (hbase : base ≤ w.heap.size) :
    ∃ g off cap w', (Builtin.append_ #[t, t] ty #[v, .slice (some ⟨B, o, none⟩) 1 c]).run P w = .ok (.slice (some ⟨g, off, none⟩) (l.length + 1) cap) w' ∧ QAt w' base e (.slice (some ⟨g, off, none⟩) (l.length + 1) cap) (l ++ [u]) ∧ w.grownBy w' v.ownBlock ∧ (v.ownBlock = some g ∨ w.heap.size ≤ g) ∧ base ≤ g ∧ g < w'.heap.size := by
  have hadd : ∀ (g o j : Nat), (⟨g, o, none⟩ : Addr).add j = ⟨g, o + j, none⟩ := by intro g o j; unfold Addr.add; split <;> simp_all
  have hn : ∀ j u', [u][j]? = some u' → w.cell? ((⟨B, o, none⟩ : Addr).add j) = some u' := by
    intro j u' h
    cases j with
    | zero => simp at h; subst h; rw [hadd]; exact hnews
    | succ j => simp at h
  have h1' : ∀ x ∈ [u], x.oneCell' = true := by intro x hx; simp at hx; subst hx; exact h1
  have grow : ∀ (ao : Option Addr) (n cap : Nat), (ao = none → n = 0 ∧ cap = 0) → l.length = n → cap < n + 1 → (∀ b, ao = some b → ∀ j u, l[j]? = some u → w.cell? (b.add j) = some u) → v = .slice ao n cap →
      ∃ g off cap w', (Builtin.append_ #[t, t] ty #[v, .slice (some ⟨B, o, none⟩) 1 c]).run P w = .ok (.slice (some ⟨g, off, none⟩) (l.length + 1) cap) w' ∧ QAt w' base e (.slice (some ⟨g, off, none⟩) (l.length + 1) cap) (l ++ [u]) ∧ w.grownBy w' v.ownBlock ∧ (v.ownBlock = some g ∨ w.heap.size ≤ g) ∧ base ≤ g ∧ g < w'.heap.size := by
    intro ao n cap hnone hln hcap hold hv
    subst hln
    have hfin : ∀ (v' : Value) (w' : World), (Builtin.append_ #[t, t] ty #[v, .slice (some ⟨B, o, none⟩) 1 c]).run P w = .ok v' w' → w'.ownsRow w.heap.size e 1 v' (l.length + 1) (l ++ [u]) → w.grownBy w' none → 
      ∃ g off cap w', (Builtin.append_ #[t, t] ty #[v, .slice (some ⟨B, o, none⟩) 1 c]).run P w = .ok (.slice (some ⟨g, off, none⟩) (l.length + 1) cap) w' ∧ QAt w' base e (.slice (some ⟨g, off, none⟩) (l.length + 1) cap) (l ++ [u]) ∧ w.grownBy w' v.ownBlock ∧ (v.ownBlock = some g ∨ w.heap.size ≤ g) ∧ base ≤ g ∧ g < w'.heap.size := by
      intro v' w' hr ho hg
      have ho2 := ho
      obtain ⟨_, ⟨_, h0⟩ | ⟨g, cap', cur, rfl, hb, hh, _⟩⟩ := ho
      · omega
      · exact ⟨g, 0, cap', w', hr, QAt.of_own ho2 hbase, ⟨hg.os, hg.tape, hg.output, hg.size, fun k hk _ => hg.block k hk (by simp)⟩, .inr hb, by omega, (Array.getElem?_eq_some_iff.1 hh).1⟩
    cases ao with
    | none =>
      obtain ⟨h0, rfl⟩ := hnone rfl
      obtain rfl := List.eq_nil_of_length_eq_zero h0
      obtain ⟨v', w', hr, r1, r2, _⟩ := run_append_own (P := P) w w.heap.size t ty e i z 1 bytes ht hi hz hsize hby hzs (by decide) (.slice none 0 0) 0 [] (World.ownsRow_nil w _ e 1) ⟨B, o, none⟩ 1 c [u] rfl hn h1' (by simpa using h63) (by simpa using hbytes) (Nat.le_refl _)
      exact hfin v' w' (by rw [hv]; exact hr) (by simpa using r1) (by simpa [Value.ownBlock] using r2)
    | some b =>
      obtain ⟨v', w', hr, r1, r2⟩ := run_append_arg_grows (P := P) w t ty e i z 1 bytes ht hi hz hsize hby hzs (by decide) b l.length cap l (by simp) (hold b rfl) ⟨B, o, none⟩ 1 c [u] rfl hn hcap h63 hbytes
      exact hfin v' w' (by rw [hv]; exact hr) r1 r2
  rcases hQ with ⟨rfl, ao, hv⟩ | ⟨g, off, cap, cur, hv, hb, hg, hc0, hl, hm, hs, hcell⟩
  · exact grow ao 0 0 (fun _ => ⟨rfl, rfl⟩) rfl (by omega) (by intro b _ j u h; simp at h) hv
  · by_cases hroom : l.length + 1 ≤ cap
    · have hlen2 : off + l.length < cur.size := by omega
      have hrun := run_append_room_cells (P := P) w t ty e i ht hi g off l.length cap ⟨B, o, none⟩ 1 c [u] (by rw [hsize]; rfl) hn h1' hroom
        (fun j hj => by
          simp at hj; subst hj
          rw [cell_of_row w g _ cur e (0, 0) hg, hsize, Nat.mul_one, Nat.add_zero, Array.getElem?_eq_getElem hlen2]; rfl)
        (fun j hj => by simp [World.frozen?, hg])
      rw [hsize, Nat.mul_one] at hrun
      have hset : w.setCells g (off + l.length) [u] = w.setCell ⟨g, off + l.length, none⟩ u := rfl
      refine ⟨g, off, cap, _, by rw [hv]; exact hrun, ?_, ?_, .inl (by rw [hv]; rfl), hb, ?_⟩
      · refine .inr ⟨g, off, cap, cur.setIfInBounds (off + l.length) u, by simp, hb, ?_, hc0, by simpa using hroom, hm, by simpa using hs, ?_⟩
        · rw [hset]; simp [World.setCell, Array.getElem?_modify, hg]
        · intro j hj
          simp at hj
          rw [Array.getElem?_setIfInBounds]
          by_cases e' : off + l.length = off + j
          · rw [if_pos e', if_pos hlen2]
            have : j = l.length := by omega
            subst this
            simp
          · rw [if_neg e', hcell j (by omega), List.getElem?_append_left (by omega)]
      · rw [hset, hv]
        exact ⟨rfl, rfl, rfl, by simp [World.setCell], fun k hk hne => Below.heap_setCell w _ u k (by rintro rfl; exact hne rfl)⟩
      · rw [hset]; simpa [World.setCell] using (Array.getElem?_eq_some_iff.1 hg).1
    · exact grow (some ⟨g, off, none⟩) l.length cap (fun h => by cases h) rfl (by omega) (by
        intro b hb' j u' h
        cases hb'
        have hj : j < l.length := (List.getElem?_eq_some_iff.1 h).1
        rw [hadd, cell_of_row w g _ cur e (0, 0) hg, hcell j hj]; exact h) hv

theorem wp_append_q (w : World) {o : Oper} {a : Act} {K : Act → World → Prop} {Q : Exit → Act → World → Prop} (s x : Operand) (t : TypeId)
    (ho : o.op = .call { callee := .builtin .append, args := #[s, x], argTypes := #[t, t] })
    (base : Nat) (e : TypeId) (i : TypeInfo) (z : Value) (bytes : Nat) (ht : P.underlying t = some (.slice e)) (hi : P.info? e = some i) (hz : i.zero = some z) (hsize : i.size = 1) (hby : i.bytes = bytes) (hzs : z.cells.size = 1)
    (v : Value) (l : List Value) (hs : a.eval s = v) (hQ : QAt w base e v l) (B off c : Nat) (u : Value) (hx : a.eval x = .slice (some ⟨B, off, none⟩) 1 c) (hnews : w.cell? ⟨B, off, none⟩ = some u) (h1 : u.oneCell' = true) (h63 : l.length + 1 ≤ maxLen) (hbytes : (l.length + 1) * bytes ≤ 140737488355328) (hbase : base ≤ w.heap.size)
    (h : ∀ g off cap w', QAt w' base e (.slice (some ⟨g, off, none⟩) (l.length + 1) cap) (l ++ [u]) → w.grownBy w' v.ownBlock → (v.ownBlock = some g ∨ w.heap.size ≤ g) → base ≤ g → g < w'.heap.size → K (a.put o.dst (.slice (some ⟨g, off, none⟩) (l.length + 1) cap)) w') : o.wp P a w K Q := by
  obtain ⟨g, off', cap, w', hr, h2, h3, h4, h5, h6⟩ := run_append_q (P := P) w base t o.type e i z bytes ht hi hz hsize hby hzs v l hQ B off c u hnews h1 h63 hbytes hbase
  unfold Oper.wp execOp
  simp only [ho, resolve, invoke, builtin, Sem.run_bind, Sem.run_pure, Result.andThen_ok, List.map_toArray, List.map_cons, List.map_nil, hs, hx, hr]
  exact h g off' cap w' h2 h3 h4 h5 h6
theorem wpList_append_q (w : World) {ops : Array Oper} {rest : List Oper} {o : Oper} {a : Act} {Q : Exit → Act → World → Prop} (hgd : o.guard = none) (s x : Operand) (t : TypeId)
    (ho : o.op = .call { callee := .builtin .append, args := #[s, x], argTypes := #[t, t] })
    (base : Nat) (e : TypeId) (i : TypeInfo) (z : Value) (bytes : Nat) (ht : P.underlying t = some (.slice e)) (hi : P.info? e = some i) (hz : i.zero = some z) (hsize : i.size = 1) (hby : i.bytes = bytes) (hzs : z.cells.size = 1)
    (v : Value) (l : List Value) (hs : a.eval s = v) (hQ : QAt w base e v l) (B off c : Nat) (u : Value) (hx : a.eval x = .slice (some ⟨B, off, none⟩) 1 c) (hnews : w.cell? ⟨B, off, none⟩ = some u) (h1 : u.oneCell' = true) (h63 : l.length + 1 ≤ maxLen) (hbytes : (l.length + 1) * bytes ≤ 140737488355328) (hbase : base ≤ w.heap.size)
    (h : ∀ g off cap w', QAt w' base e (.slice (some ⟨g, off, none⟩) (l.length + 1) cap) (l ++ [u]) → w.grownBy w' v.ownBlock → (v.ownBlock = some g ∨ w.heap.size ≤ g) → base ≤ g → g < w'.heap.size → wpList P ops Q rest (a.put o.dst (.slice (some ⟨g, off, none⟩) (l.length + 1) cap)) w') : wpList P ops Q (o :: rest) a w :=
  wpList_plain hgd fun _ hK => wp_append_q w s x t ho base e i z bytes ht hi hz hsize hby hzs v l hs hQ B off c u hx hnews h1 h63 hbytes hbase fun g off' cap w' h2 h3 h4 h5 h6 => hK _ _ (h g off' cap w' h2 h3 h4 h5 h6)
theorem step_append_q (w : World) {ops : Array Oper} {o : Oper} {a : Act} {K : Act → World → Prop} {Q : Exit → Act → World → Prop} {E : Prop} (hgd : o.guard = none) (s x : Operand) (t : TypeId)
    (ho : o.op = .call { callee := .builtin .append, args := #[s, x], argTypes := #[t, t] })
    (base : Nat) (e : TypeId) (i : TypeInfo) (z : Value) (bytes : Nat) (ht : P.underlying t = some (.slice e)) (hi : P.info? e = some i) (hz : i.zero = some z) (hsize : i.size = 1) (hby : i.bytes = bytes) (hzs : z.cells.size = 1)
    (v : Value) (l : List Value) (hs : a.eval s = v) (hQ : QAt w base e v l) (B off c : Nat) (u : Value) (hx : a.eval x = .slice (some ⟨B, off, none⟩) 1 c) (hnews : w.cell? ⟨B, off, none⟩ = some u) (h1 : u.oneCell' = true) (h63 : l.length + 1 ≤ maxLen) (hbytes : (l.length + 1) * bytes ≤ 140737488355328) (hbase : base ≤ w.heap.size)
    (h : ∀ g off cap w', QAt w' base e (.slice (some ⟨g, off, none⟩) (l.length + 1) cap) (l ++ [u]) → w.grownBy w' v.ownBlock → (v.ownBlock = some g ∨ w.heap.size ≤ g) → base ≤ g → g < w'.heap.size → K (a.put o.dst (.slice (some ⟨g, off, none⟩) (l.length + 1) cap)) w') :
    if Region.wanted o (yielded ops a.tmps) = true then Oper.wp P o a w K Q else E := by
  have hw : Region.wanted o (yielded ops a.tmps) = true := by simp [Region.wanted, hgd]
  rw [if_pos hw]
  exact wp_append_q w s x t ho base e i z bytes ht hi hz hsize hby hzs v l hs hQ B off c u hx hnews h1 h63 hbytes hbase h
end
end Go.Proofs.YtfdadkngbnhmeaaDoor
