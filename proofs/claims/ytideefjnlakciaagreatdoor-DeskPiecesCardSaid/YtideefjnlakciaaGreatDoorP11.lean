/- A region that draws its order, whose last operation writes what a load in it reads: the condition on the world is asked only as long as that last one has not come up; no condition. -/
import Derived.Test.YtideefjnlakciaaGreatDoorP09
import Derived.Test.YtideefjnlakciaaGreatDoorP10
import Derived.Deep.RegionHeld3
import Derived.Deep.AppendLies
import Derived.Deep.RegionLaw
import Derived.BigQuiet
import Derived.Deep.Cut
import Derived.Deep.CutRange
import Derived.Deep.CutBlock
set_option linter.unusedVariables false
set_option linter.unusedSimpArgs false
namespace Go.Proofs.YtideefjnlakciaaGreatDoor
section
open Go
section
variable {P : Program} {ops : Array Oper} {Q : Exit → Act → World → Prop} {md : Region.Mode} {S : World → Prop} {L : Nat}
def wpAnyL (P : Program) (md : Region.Mode) (ops : Array Oper) (Q : Exit → Act → World → Prop) (S : World → Prop) (L : Nat) : Nat → Array Bool → Act → World → Prop
 | 0, listed, a, w => Region.ready md ops listed = [] ∧ Q .normal a w
 | fuel + 1, listed, a, w => (Region.ready md ops listed = [] → Q .normal a w) ∧
  ∀ i ∈ Region.ready md ops listed, wpOp P ops Q i (fun a' w' => ((listed.setIfInBounds i true).getD L true = false → S w') ∧ wpAnyL P md ops Q S L fuel (listed.setIfInBounds i true) a' w') a w
theorem wpAny_of_L : ∀ (fuel : Nat) (listed : Array Bool) (a : Act) (w : World), wpAnyL P md ops Q S L fuel listed a w → wpAny P md ops Q fuel listed a w
 | 0, _, _, _, h => h
 | fuel + 1, _, _, _, h => ⟨h.1, fun i hi => wpOp_mono (fun a' w' h' => wpAny_of_L fuel _ a' w' h'.2) (h.2 i hi)⟩
def waitsFor (md : Region.Mode) (ops : Array Oper) (L i : Nat) : Bool := ((ops[L]?).map fun o => o.after.any fun e => Region.binds md e && e.on == i).getD false
theorem waits_out {i : Nat} {oL : Oper} (h : waitsFor md ops L i = true) (ho : ops[L]? = some oL) (hnot : ∀ e ∈ oL.after, Region.binds md e = true → e.on ≠ i) : False := by
 unfold waitsFor at h
 rw [ho] at h
 simp only [Option.map_some, Option.getD_some] at h
 obtain ⟨e, he, h1⟩ := Array.any_eq_true'.1 h
 simp only [Bool.and_eq_true, beq_iff_eq] at h1
 exact hnot e he h1.1 h1.2
theorem wpAnyL_first {i : Nat} {oi : Oper} {v : Value} (hi : ops[i]? = some oi) (hsel : ∀ (j : Nat) (o : Oper) cs b, ops[j]? = some o → o.op ≠ .select cs b)
 (hQ : ∀ c a w, Q (.panic c) (a.put oi.dst v) w → Q (.panic c) a w) (hLi : L ≠ i) (hw : waitsFor md ops L i = true) :
 ∀ (fuel : Nat) (listed : Array Bool) (a : Act) (w : World),
  (∀ j oj, ops[j]? = some oj → j ≠ i → listed.getD j true = false → (∀ e ∈ oj.after, Region.binds md e = true → e.on ≠ i) → oi.apart ops oj = true) →
  i ∈ Region.ready md ops listed → YieldsIf P ops S oi v a → S w → listed.getD L true = false →
  wpAnyL P md ops Q S L fuel (listed.setIfInBounds i true) (a.put oi.dst v) w → wpAnyL P md ops Q S L (fuel + 1) listed a w := by
 intro fuel
 induction fuel with
 | zero =>
  intro listed a w _ hr hy hS _ H
  refine ⟨fun h => (by rw [h] at hr; cases hr), fun j hj => ?_⟩
  by_cases hji : j = i
  ·subst hji; exact hy.wpOp hi hS ⟨fun _ => hS, H⟩
  ·have := ready_mono hj hji
   rw [H.1] at this
   cases this
 | succ fuel ih =>
  intro listed a w hfree hr hy hS hL H
  refine ⟨fun h => (by rw [h] at hr; cases hr), fun j hj => ?_⟩
  by_cases hji : j = i
  ·subst hji; exact hy.wpOp hi hS ⟨fun _ => hS, H⟩
  ·have h1 := H.2 j (ready_mono hj hji)
   obtain ⟨hjun, oj, hoj, hall⟩ := mem_ready.1 hj
   have hnot : ∀ e ∈ oj.after, Region.binds md e = true → e.on ≠ i := fun e he hb heq => by
    have h1 := hall e he hb
    have h0 := (mem_ready.1 hr).1
    rw [heq] at h1
    rcases Nat.lt_or_ge i listed.size with h' | h'
    ·simp [h'] at h0 h1; rw [h0] at h1; cases h1
    ·simp [Array.getElem?_eq_none h'] at h1
   have hjL : j ≠ L := fun e => by subst e; exact waits_out hw hoj hnot
   have h2 := wpOp_putIf hoj (hfree j oj hoj hji hjun hnot) (fun cs b => hsel i oi cs b hi) (fun cs b => hsel j oj cs b hoj) hQ hy h1
   have hfree' : ∀ k ok, ops[k]? = some ok → k ≠ i → (listed.setIfInBounds j true).getD k true = false →
    (∀ e ∈ ok.after, Region.binds md e = true → e.on ≠ i) → oi.apart ops ok = true := fun k ok hk hki hun hno => by
    refine hfree k ok hk hki ?_ hno
    by_cases hjk : j = k
    ·subst hjk; exact hjun
    ·rw [Go.getD_set_ne true hjk] at hun; exact hun
   have hL' : (listed.setIfInBounds j true).getD L true = false := by rw [Go.getD_set_ne true hjL]; exact hL
   refine wpOp_mono (fun a' w' h3 => ?_) h2
   have hS' : S w' := h3.2.1 (by rw [Go.getD_set_ne true hjL, Go.getD_set_ne true (Ne.symm hLi)]; exact hL)
   refine ⟨fun _ => hS', ih (listed.setIfInBounds j true) a' w' hfree' (ready_mono hr (Ne.symm hji)) h3.1 hS' hL' ?_⟩
   rw [Array.setIfInBounds_comm _ _ hji]
   exact h3.2.2
theorem wpAnyL_take {i : Nat} {oi : Oper} {v : Value} {fuel : Nat} {listed : Array Bool} {a : Act} {w : World} (hi : ops[i]? = some oi)
 (hs : Region.noSelect ops = true) (hf : Region.free md ops listed i = true) (hr : (Region.ready md ops listed).contains i = true)
 (hLi : (L != i && waitsFor md ops L i && !listed.getD L true) = true)
 (hQ : ∀ c a w, Q (.panic c) (a.put oi.dst v) w → Q (.panic c) a w) (hy : YieldsIf P ops S oi v a) (hS : S w)
 (h : wpAnyL P md ops Q S L fuel (listed.setIfInBounds i true) (a.put oi.dst v) w) : wpAnyL P md ops Q S L (fuel + 1) listed a w := by
 simp only [Bool.and_eq_true, bne_iff_ne, Bool.not_eq_true'] at hLi
 exact wpAnyL_first hi (Region.noSelect_spec hs) hQ hLi.1.1 hLi.1.2 fuel listed a w (Region.free_spec hi hf) (by simpa using hr) hy hS hLi.2 h
theorem wpAnyL_firstM {i : Nat} {oi : Oper} {v : Value} (hi : ops[i]? = some oi) (hsel : ∀ (j : Nat) (o : Oper) cs b, ops[j]? = some o → o.op ≠ .select cs b)
 (hQ : ∀ c a w, Q (.panic c) (a.put oi.dst v) w → Q (.panic c) a w) (hLi : L ≠ i) :
 ∀ (fuel : Nat) (listed : Array Bool) (a : Act) (w : World),
  (∀ j oj, ops[j]? = some oj → j ≠ i → listed.getD j true = false → (∀ e ∈ oj.after, Region.binds md e = true → e.on ≠ i) → oi.apart ops oj = true) →
  i ∈ Region.ready md ops listed → YieldsIf P ops (fun _ => True) oi v a → (listed.getD L true = false → S w) →
  wpAnyL P md ops Q S L fuel (listed.setIfInBounds i true) (a.put oi.dst v) w → wpAnyL P md ops Q S L (fuel + 1) listed a w := by
 intro fuel
 induction fuel with
 | zero =>
  intro listed a w _ hr hy hS H
  refine ⟨fun h => (by rw [h] at hr; cases hr), fun j hj => ?_⟩
  by_cases hji : j = i
  ·subst hji; exact hy.wpOp hi trivial ⟨fun h => hS (by rwa [Go.getD_set_ne true (Ne.symm hLi)] at h), H⟩
  ·have := ready_mono hj hji
   rw [H.1] at this
   cases this
 | succ fuel ih =>
  intro listed a w hfree hr hy hS H
  refine ⟨fun h => (by rw [h] at hr; cases hr), fun j hj => ?_⟩
  by_cases hji : j = i
  ·subst hji; exact hy.wpOp hi trivial ⟨fun h => hS (by rwa [Go.getD_set_ne true (Ne.symm hLi)] at h), H⟩
  ·have h1 := H.2 j (ready_mono hj hji)
   obtain ⟨hjun, oj, hoj, hall⟩ := mem_ready.1 hj
   have hnot : ∀ e ∈ oj.after, Region.binds md e = true → e.on ≠ i := fun e he hb heq => by
    have h1 := hall e he hb
    have h0 := (mem_ready.1 hr).1
    rw [heq] at h1
    rcases Nat.lt_or_ge i listed.size with h' | h'
    ·simp [h'] at h0 h1; rw [h0] at h1; cases h1
    ·simp [Array.getElem?_eq_none h'] at h1
   have h2 := wpOp_putIf hoj (hfree j oj hoj hji hjun hnot) (fun cs b => hsel i oi cs b hi) (fun cs b => hsel j oj cs b hoj) hQ hy h1
   have hfree' : ∀ k ok, ops[k]? = some ok → k ≠ i → (listed.setIfInBounds j true).getD k true = false →
    (∀ e ∈ ok.after, Region.binds md e = true → e.on ≠ i) → oi.apart ops ok = true := fun k ok hk hki hun hno => by
    refine hfree k ok hk hki ?_ hno
    by_cases hjk : j = k
    ·subst hjk; exact hjun
    ·rw [Go.getD_set_ne true hjk] at hun; exact hun
   refine wpOp_mono (fun a' w' h3 => ?_) h2
   have hS' : (listed.setIfInBounds j true).getD L true = false → S w' := fun h => h3.2.1 (by rw [← Array.setIfInBounds_comm _ _ hji, Go.getD_set_ne true (Ne.symm hLi)]; exact h)
   refine ⟨hS', ih (listed.setIfInBounds j true) a' w' hfree' (ready_mono hr (Ne.symm hji)) h3.1 hS' ?_⟩
   rw [Array.setIfInBounds_comm _ _ hji]
   exact h3.2.2
theorem wpAnyL_takeM {i : Nat} {oi : Oper} {v : Value} {fuel : Nat} {listed : Array Bool} {a : Act} {w : World} (hi : ops[i]? = some oi)
 (hs : Region.noSelect ops = true) (hf : Region.free md ops listed i = true) (hr : (Region.ready md ops listed).contains i = true)
 (hLi : (L != i) = true)
 (hQ : ∀ c a w, Q (.panic c) (a.put oi.dst v) w → Q (.panic c) a w) (hy : YieldsIf P ops (fun _ => True) oi v a) (hS : S w)
 (h : wpAnyL P md ops Q S L fuel (listed.setIfInBounds i true) (a.put oi.dst v) w) : wpAnyL P md ops Q S L (fuel + 1) listed a w :=
 wpAnyL_firstM hi (Region.noSelect_spec hs) hQ (by simpa using hLi) fuel listed a w (Region.free_spec hi hf) (by simpa using hr) hy (fun _ => hS) h
theorem wpAnyL_one {i : Nat} {o : Oper} {fuel : Nat} {listed : Array Bool} {a : Act} {w : World} (hr : Region.ready md ops listed = [i]) (ho : ops[i]? = some o)
 (h : ∀ K' : Act → World → Prop, Shut (∀ a w, ((listed.setIfInBounds i true).getD L true = false → S w) → wpAnyL P md ops Q S L fuel (listed.setIfInBounds i true) a w → K' a w) → if Region.wanted o (yielded ops a.tmps) = true then Oper.wp P o a w K' Q else K' (a.put o.dst undef) w) :
 wpAnyL P md ops Q S L (fuel + 1) listed a w := by
 refine ⟨fun h0 => (by rw [hr] at h0; cases h0), fun j hj => ?_⟩
 rw [hr] at hj
 obtain rfl := List.mem_singleton.1 hj
 exact wpOp_step ho (fun K' hK => h K' (fun a w hS hW => hK a w ⟨hS, hW⟩))
theorem wpAnyL_done {listed : Array Bool} {a : Act} {w : World} (hr : Region.ready md ops listed = []) (h : Q .normal a w) : ∀ fuel, wpAnyL P md ops Q S L fuel listed a w
 | 0 => ⟨hr, h⟩
 | _ + 1 => ⟨fun _ => h, by rw [hr]; simp⟩
theorem wp_region_L {id : Nat} {a : Act} {w : World} (hm : P.follows .mixedOrders = true)
 (h : wpAnyL P .any ops Q S L ops.size (Array.replicate ops.size false) a w.drew) : (Code.region id ops true).wp P Q a w :=
 wp_region_any hm (wpAny_of_L _ _ _ _ h)
end
end
section
open Go
section
variable {P : Program} {ops : Array Oper} {Q : Exit → Act → World → Prop} {md : Region.Mode} {S : World → Prop} {L : Nat}
theorem wpAnyL_two {i j : Nat} {oi oj : Oper} {fuel : Nat} {listed : Array Bool} {a : Act} {w : World} (hr : Region.ready md ops listed = [i, j]) (hi : ops[i]? = some oi) (hj : ops[j]? = some oj)
 (h1 : ∀ K' : Act → World → Prop, Shut (∀ a w, ((listed.setIfInBounds i true).getD L true = false → S w) → wpAnyL P md ops Q S L fuel (listed.setIfInBounds i true) a w → K' a w) → if Region.wanted oi (yielded ops a.tmps) = true then Oper.wp P oi a w K' Q else K' (a.put oi.dst undef) w)
 (h2 : ∀ K' : Act → World → Prop, Shut (∀ a w, ((listed.setIfInBounds j true).getD L true = false → S w) → wpAnyL P md ops Q S L fuel (listed.setIfInBounds j true) a w → K' a w) → if Region.wanted oj (yielded ops a.tmps) = true then Oper.wp P oj a w K' Q else K' (a.put oj.dst undef) w) :
 wpAnyL P md ops Q S L (fuel + 1) listed a w := by
 refine ⟨fun h0 => (by rw [h0] at hr; cases hr), fun q hq => ?_⟩
 rw [hr] at hq
 rcases List.mem_cons.1 hq with rfl | hq
 ·exact wpOp_step hi (fun K' hK => h1 K' (fun a w hS hW => hK a w ⟨hS, hW⟩))
 ·obtain rfl := List.mem_singleton.1 hq
  exact wpOp_step hj (fun K' hK => h2 K' (fun a w hS hW => hK a w ⟨hS, hW⟩))
end
end
section
open Go Go.RowKit
attribute [local irreducible] chk honL liesB wildB
theorem nrecv_any (w : World) :
 Calls Tryz.prog 148 #[] w fun e w' => e = .returned (.pointer (some ⟨w.heap.size, 0, none⟩)) ∧ (w.alloc (.cells #[.int .i64 (-1), .int .i64 0, .int .i64 0] 275)) = w' := by
 go_enter Tryz.func148, Tryz.ntmps148
 go_wp2_with fail
 go_ret
 exact ⟨rfl, rfl⟩
theorem liars_succ (fy k : Nat) : liars fy (k + 1) = liars fy k + (if liesB fy k = true then 1 else 0) := by
 unfold liars
 rw [List.range_succ, List.countP_append]
 simp [List.countP_cons]
theorem liars_le (fy k : Nat) : liars fy k ≤ k := by
 unfold liars
 have := List.countP_le_length (p := fun k => liesB fy k) (l := List.range k)
 simpa using this
theorem honL_mem2 {fy : Nat} {zs : List Int} {n : Nat} {x : Int} (h : x ∈ honL fy zs n) : ∃ j, j < n ∧ liesB fy j = false ∧ x = zs.getD j 0 := by
 induction n with
 | zero => unfold honL at h; simp at h
 | succ n ih =>
  cases hb : liesB fy n
  ·rw [honL_no hb] at h
   rcases List.mem_append.1 h with h | h
   ·obtain ⟨j, h1, h2, h3⟩ := ih h
    exact ⟨j, by omega, h2, h3⟩
   ·simp at h
    exact ⟨n, by omega, hb, h⟩
  ·rw [honL_yes hb] at h
   obtain ⟨j, h1, h2, h3⟩ := ih h
   exact ⟨j, by omega, h2, h3⟩
theorem honL_some {fy : Nat} (zs : List Int) {n k : Nat} (hk : k < n) (h : liesB fy k = false) : 0 < (honL fy zs n).length := by
 induction n with
 | zero => omega
 | succ n ih =>
  cases hb : liesB fy n
  ·rw [honL_no hb, List.length_append, List.length_singleton]; omega
  ·rw [honL_yes hb]
   refine ih ?_
   rcases Nat.lt_or_ge k n with h1 | h1
   ·exact h1
   ·obtain rfl : k = n := by omega
    rw [h] at hb; cases hb
theorem spread_le {fy : Nat} {zs : List Int} {n : Nat} {d a b : Int} (h : apartLe fy zs n d) (ha : IsTop (honL fy zs n) a) (hb : IsLow (honL fy zs n) b) : a - b ≤ d ∧ 0 ≤ a - b := by
 obtain ⟨j, hj, e⟩ := ha.1
 obtain ⟨q, hq, e2⟩ := hb.1
 have h1 := getD_memC hj
 have h2 := getD_memC hq
 rw [e] at h1
 rw [e2] at h2
 obtain ⟨x, x1, x2, x3⟩ := honL_mem2 h1
 obtain ⟨y, y1, y2, y3⟩ := honL_mem2 h2
 have := h x y x1 y1 x2 y2
 have h4 := ha.2 q hq
 rw [e2] at h4
 omega
theorem ptr_infoM : (Tryz.prog.info? 211).map (fun i => (i.zero, i.size, i.bytes)) = some (some (.pointer none), 1, 8) := by kernel_rfl
theorem ptr_infoS : (Tryz.prog.info? 217).map (fun i => (i.zero, i.size, i.bytes)) = some (some (.pointer none), 1, 8) := by kernel_rfl
theorem ptr_infoT : (Tryz.prog.info? 232).map (fun i => (i.zero, i.size, i.bytes)) = some (some (.pointer none), 1, 8) := by kernel_rfl
theorem ptr_infoQ : (Tryz.prog.info? 219).map (fun i => (i.zero, i.size, i.bytes)) = some (some (.pointer none), 1, 8) := by kernel_rfl
theorem sl_infoT : (Tryz.prog.info? 229).map (fun i => (i.zero, i.size, i.bytes)) = some (some (.slice none 0 0), 1, 24) := by kernel_rfl
theorem sl_infoQ : (Tryz.prog.info? 220).map (fun i => (i.zero, i.size, i.bytes)) = some (some (.slice none 0 0), 1, 24) := by kernel_rfl
theorem own_empty {W : World} {base b : Nat} (h : Blk W b 3 #[]) (hb : base ≤ b) : W.ownsRow base 3 1 (.slice (some ⟨b, 0, none⟩) 0 0) 0 [] :=
 ⟨rfl, .inr ⟨b, 0, #[], rfl, hb, h, Nat.le_refl _, by simp [maxLen], rfl, rfl⟩⟩
theorem isl_news {w W : World} {B bz oz : Nat} {zs : List Int} (hI : IsL w (some ⟨bz, oz, none⟩) zs) (hw : w.heap.size ≤ B) (hB : Below B w W) : ∀ (j : Nat) (u : Value), (zs.map (Value.int .i64))[j]? = some u → W.cell? ((⟨bz, oz, none⟩ : Addr).add j) = some u := by
 intro j u hu
 have hj : j < zs.length := by have := (List.getElem?_eq_some_iff.1 hu).1; simpa using this
 obtain ⟨b, o, e, hc⟩ := (hI.below hw hB) j hj
 cases e
 rw [show (⟨bz, oz, none⟩ : Addr).add j = ⟨bz, oz + j, none⟩ by unfold Addr.add; split <;> simp_all, hc]
 rw [List.getElem?_map, List.getElem?_eq_getElem hj] at hu
 rw [List.getD_eq_getElem?_getD, List.getElem?_eq_getElem hj]
 exact hu
theorem nk_zero (nd : Nat) : (fun j : Nat => if j < 0 then nd else 0) = fun _ => 0 := by funext j; simp
theorem nk_at (nd k : Nat) : updF (fun j : Nat => if j < k then nd else 0) k 0 = fun j => if j < k then nd else 0 := by
 funext j
 unfold updF
 by_cases e : j = k
 ·subst e; simp
 ·rw [if_neg e]
theorem nk_end (nd k : Nat) : updF (fun j : Nat => if j < k then nd else 0) k nd = fun j => if j < k + 1 then nd else 0 := by
 funext j
 unfold updF
 by_cases e : j = k
 ·subst e; simp
 ·rw [if_neg e]
  dsimp only
  by_cases h : j < k
  ·rw [if_pos h, if_pos (by omega)]
  ·rw [if_neg h, if_neg (by omega)]
theorem updF_upd {α : Type} (f : Nat → α) (k : Nat) (x y : α) : updF (updF f k x) k y = updF f k y := by
 funext j
 unfold updF
 split <;> rfl
theorem plan_cells {w : World} {g : Nat} {t : TypeId} {a0 a1 a2 a3 a4 a5 a6 a7 a8 a9 : Value} (h : Blk w g t #[a0, a1, a2, a3, a4, a5, a6, a7, a8, a9]) : w.cell? ⟨g, 0, none⟩ = some a0 ∧ w.cell? ⟨g, 1, none⟩ = some a1 ∧ w.cell? ⟨g, 2, none⟩ = some a2 ∧ w.cell? ⟨g, 3, none⟩ = some a3 ∧ w.cell? ⟨g, 4, none⟩ = some a4 ∧ w.cell? ⟨g, 5, none⟩ = some a5 ∧ w.cell? ⟨g, 6, none⟩ = some a6 ∧ w.cell? ⟨g, 7, none⟩ = some a7 ∧ w.cell? ⟨g, 8, none⟩ = some a8 ∧ w.cell? ⟨g, 9, none⟩ = some a9 :=
 ⟨by simpa using h.cell 0, by simpa using h.cell 1, by simpa using h.cell 2, by simpa using h.cell 3, by simpa using h.cell 4, by simpa using h.cell 5, by simpa using h.cell 6, by simpa using h.cell 7, by simpa using h.cell 8, by simpa using h.cell 9⟩
set_option maxRecDepth 100000 in
set_option maxHeartbeats 8000000 in
theorem new_any (w : World) (p : Pl) (A : Option Addr) (c : Nat) (AL : Option Addr) (cl : Nat) (AQ : Option Addr) (cq : Nat) (hchk : chk p = (0, -1)) (s2 : SlotsAt w A p.sl.length p.sl) (l2 : LinksAt w AL p.lk.length p.lk) (q2 : WinsAt w AQ p.wn.length p.wn)
 (fy : Nat) (hfy : fy < 2 ^ p.nd.toNat) (hli : (liars fy p.nd.toNat : Int) ≤ p.fa) (bz oz cz : Nat) (zs : List Int) (hI : IsL w (some ⟨bz, oz, none⟩) zs) (hcz : zs.length ≤ cz) (hlen : zs.length = p.nd.toNat) (hz : ∀ j, -274877906944 ≤ zs.getD j 0 ∧ zs.getD j 0 ≤ 274877906944) (hsk : apartLe fy zs p.nd.toNat p.sk) :
 Calls Tryz.prog 107 #[.agg (planC p.nd p.fa p.sk p.ji p.dr p.rd (.slice A p.sl.length c) (.slice AL p.lk.length cl) p.fr (.slice AQ p.wn.length cq)), .int .i64 fy, .slice (some ⟨bz, oz, none⟩) p.nd.toNat cz] w fun e w' =>
  ∃ a : Ad, e = .returned (.tuple #[.pointer (some ⟨a.g, 0, none⟩), .nilIface]) ∧ Below w.heap.size w w' ∧ ClAt w' w.heap.size a (fullN p) p ⟨.slice A p.sl.length c, .slice AL p.lk.length cl, .slice AQ p.wn.length cq⟩ fy (startF p zs) := by
 have hp := PlOk.of hchk
 have hn16 := hp.n16
 have hn1 := hp.n1
 obtain ⟨w1, hw1⟩ : ∃ w1, w.alloc (.cells (planC p.nd p.fa p.sk p.ji p.dr p.rd (.slice A p.sl.length c) (.slice AL p.lk.length cl) p.fr (.slice AQ p.wn.length cq)) 29) = w1 := ⟨_, rfl⟩
 have hB1 : Below w.heap.size w w1 := by rw [← hw1]; exact (Below.refl w.heap.size w).alloc (Nat.le_refl _) _
 have hX : Blk w1 w.heap.size 29 (planC p.nd p.fa p.sk p.ji p.dr p.rd (.slice A p.sl.length c) (.slice AL p.lk.length cl) p.fr (.slice AQ p.wn.length cq)) := by rw [← hw1]; exact Blk.new w _ _
 have HCK := hide (check_any p A p.sl.length c AL p.lk.length cl AQ p.wn.length cq w1 rfl rfl rfl (hS0 s2 (Nat.le_refl _) hB1) (hL0 l2 (Nat.le_refl _) hB1) (q2.below hB1))
 rw [hchk] at HCK
 obtain ⟨nd, hnd⟩ : ∃ nd, p.nd.toNat = nd := ⟨_, rfl⟩
 rw [hnd] at hfy hli hlen hsk ⊢
 have hpn : p.nd = (nd : Int) := by omega
 have hnd1 : 0 < nd := by omega
 have hnd16 : nd ≤ 16 := by omega
 have HX := hide hX; have HB1 := hide hB1; have HW1 := hide hw1; have HP := hide hp; have HI := hide hI; have HZ := hide hz; have HSK := hide hsk; have HLI := hide hli; have HLEN := hide hlen; have HPN := hide hpn; have HND := hide hnd; have HL2 := hide l2
 obtain ⟨x0, x1, x2, x3, x4, x5, x6, x7, x8, x9⟩ := plan_cells hX
 clear hX hB1 hw1 hp hI hz hsk hli hlen hpn hnd hchk s2 l2 q2 hn16 hn1
 go_enter Tryz.func107, Tryz.ntmps107
 go_wp2_with fail
 rw [HW1.out]
 refine HCK.out.mono ?_
 rintro e w2 ⟨hB2, ⟨-, rfl⟩ | ⟨h0, -⟩⟩
 case inr => exact absurd rfl h0
 have HX2 := hide (HX.out.below hB2 HX.out.lt)
 have HB2 := hide (HB1.out.trans (hB2.mono HB1.out.size))
 clear hB2 x0 x1 x2 x3 x4 x5 x6 x7 x8 x9
 obtain ⟨x0, x1, x2, x3, x4, x5, x6, x7, x8, x9⟩ := plan_cells HX2.out
 go_wp2_with fail
 obtain ⟨i0, hi, hz0, hz1, hz2⟩ := en_info_parts ar_info
 have HSZ2 := hide HB2.out.size
 have hx2lt := HX2.out.lt
 have HE0 : Hid ((w2.alloc (.cells #[] 3)).drew.ownsRow (w.heap.size + 1) 3 1 (.slice (some ⟨w2.heap.size, 0, none⟩) 0 0) 0 []) := hide (own_empty (Blk.new w2 3 #[]).drew hx2lt)
 have HNE : Hid (∀ (j : Nat) (u : Value), (zs.map (Value.int .i64))[j]? = some u → (w2.alloc (.cells #[] 3)).drew.cell? ((⟨bz, oz, none⟩ : Addr).add j) = some u) := hide (isl_news HI.out (Nat.le_refl _) (below_drewN (HB2.out.alloc HSZ2.out _) 1))
 have HX3 : Hid (∀ W, (w2.alloc (.cells #[] 3)).drew.grownBy W (some w2.heap.size) → Blk W w.heap.size 29 (planC p.nd p.fa p.sk p.ji p.dr p.rd (.slice A p.sl.length c) (.slice AL p.lk.length cl) p.fr (.slice AQ p.wn.length cq)) ∧ Below w.heap.size w W) := hide (fun W hg => ⟨((HX2.out.alloc (.cells #[] 3)).drew).grown hg (fun e => by have h1 := HX2.out.lt; have h2 := Option.some.inj e; omega), (below_drewN (HB2.out.alloc HSZ2.out (.cells #[] 3)) 1).grown hg (by show w.heap.size ≤ (w2.alloc _).heap.size; have := HSZ2.out; simp; omega) (fun k e => by have h2 := Option.some.inj e; have := HSZ2.out; omega)⟩)
 have HLM : Hid ((zs.map (Value.int .i64)).length = nd * 1 ∧ (∀ u ∈ zs.map (Value.int .i64), u.oneCell' = true) ∧ 0 + nd ≤ maxLen ∧ (0 + nd) * 8 ≤ 140737488355328) := hide ⟨by rw [List.length_map, HLEN.out]; omega, by intro u hu; obtain ⟨q, _, rfl⟩ := List.mem_map.1 hu; rfl, by simp [maxLen]; omega, by omega⟩
 have HSZ3 : Hid (w.heap.size + 1 ≤ (w2.alloc (.cells #[] 3)).drew.heap.size) := hide (by show _ ≤ (w2.alloc _).heap.size; have := HSZ2.out; simp; omega)
 go_cut [9] from 9 to 34 (fun v wx => ∃ a : Ad, v = .pointer (some ⟨a.g, 0, none⟩) ∧ Hid (Below w.heap.size w wx) ∧ Hid (Blk wx w.heap.size 29 (planC p.nd p.fa p.sk p.ji p.dr p.rd (.slice A p.sl.length c) (.slice AL p.lk.length cl) p.fr (.slice AQ p.wn.length cq))) ∧ Hid (w.heap.size < a.g) ∧ Hid (∃ g cp, a.ck = .slice (some ⟨g, 0, none⟩) nd cp ∧ w.heap.size < g) ∧ Hid (∀ j, a.rt j = .slice none 0 0 ∧ a.rp j = .slice none 0 0) ∧ Hid (ClAt wx (w.heap.size + 1) a n00 p ⟨.slice A p.sl.length c, .slice AL p.lk.length cl, .slice AQ p.wn.length cq⟩ fy (startF p zs)))
 case first =>
  go_region_law (first
   | (refine step_append_lies _ rfl (.tmp 30) (.tmp 31) _ rfl (w.heap.size + 1) 3 i0 _ 1 8 Tryz.underlying33 hi hz0 hz1 hz2 rfl (by decide) (.slice (some ⟨w2.heap.size, 0, none⟩) 0 0) 0 [] rfl (by exact HE0.out) ⟨bz, oz, none⟩ nd cz (zs.map (Value.int .i64)) rfl HLM.out.1 (by exact HNE.out) HLM.out.2.1 hnd1 HLM.out.2.2.1 HLM.out.2.2.2 (by exact HSZ3.out) _ rfl ?_; intro g8 cp8 w8 hown hg hat hlt; simp only [Nat.zero_add, List.nil_append] at hown; have HX8 := hide (HX3.out w8 hg); have HO8 := hide hown; obtain ⟨y0, y1, y2, y3, y4, y5, y6, y7, y8, y9⟩ := plan_cells HX8.out.1; have HG8 := hide (show w.heap.size < g8 by rcases hat with e | e; (have e2 : w2.heap.size = g8 := Option.some.inj e; have h2 := hx2lt; omega); (rw [e]; show _ < (w2.alloc _).heap.size; simp; omega)); have HL8 := hide hlt; clear hown hg hat hlt))
  all_goals
   go_wp2_with fail
   go_meet
   exact ⟨ad0 w8.heap.size (.slice (some ⟨g8, 0, none⟩) nd cp8), rfl, hide (HX8.out.2.alloc HX8.out.2.size _), hide (HX8.out.1.alloc _), hide (by show w.heap.size < w8.heap.size; have h1 := HG8.out; have h2 := HL8.out; omega), hide ⟨g8, cp8, rfl, HG8.out⟩, hide (fun _ => ⟨rfl, rfl⟩), hide (start_at (p := p) (P := ⟨.slice A p.sl.length c, .slice AL p.lk.length cl, .slice AQ p.wn.length cq⟩) (fy := fy) (QAt.of_own HO8.out (Nat.le_refl _)) (fun k e => by cases e; exact ⟨HG8.out, HL8.out⟩) (Nat.le_trans HG8.out (Nat.le_of_lt HL8.out)))⟩
 case rest =>
  obtain ⟨a, rfl, HB4, HX4, HGA, HCKA, HRN, HA4⟩ := hcut
  clear HE0 HNE HX3 HLM HSZ3 HSZ2 hx2lt HX2 HB2 x0 x1 x2 x3 x4 x5 x6 x7 x8 x9
  obtain ⟨G, hG⟩ : ∃ G, a.g = G := ⟨_, rfl⟩
  have HG := hide hG
  rw [hG]
  obtain ⟨x0, x1, x2, x3, x4, x5, x6, x7, x8, x9⟩ := plan_cells HX4.out
  rw [HPN.out] at x0
  have hf16 : fy < 65536 := by
   have : (2 : Nat) ^ nd ≤ 2 ^ 16 := Nat.pow_le_pow_right (by omega) hnd16
   omega
  clear hG
  go_wp2_with fail
  go_loopw [10, 37] (fun v10 v37 wr => ∃ k : Nat, k ≤ nd ∧ v37 = .int .i64 k ∧ v10 = .int .i64 (liars fy k : Nat) ∧ wr = wc) (fun _ v _ => nd - (intOf v).toNat)
  case atStart => exact ⟨0, by omega, rfl, rfl, rfl⟩
  case round =>
   obtain ⟨k, hk, rfl, rfl, rfl⟩ := hrel
   have hlk := liars_le fy k
   by_cases hlt : k < nd
   ·have hb1 := bit_one fy k hf16
    have hls := liars_succ fy k
    obtain ⟨b, hb⟩ : ∃ b, liesB fy k = b := ⟨_, rfl⟩
    have hb2 : fy.testBit k = b := by rw [← hb]; unfold liesB; rfl
    rw [hb2] at hb1
    rw [hb] at hls
    cases b
    ·rw [if_neg (by decide)] at hb1 hls
     go_wp2_with fail
     go_roundw
     case rel => exact ⟨k + 1, by omega, by go_num, by rw [hls]; go_num, trivial⟩
     case measure => simp [intOf]; omega
    ·rw [if_pos rfl] at hb1 hls
     go_wp2_with fail
     go_roundw
     case rel => exact ⟨k + 1, by omega, by go_num, by rw [hls]; go_num, trivial⟩
     case measure => simp [intOf]; omega
   ·obtain rfl : nd = k := by omega
    obtain ⟨gk, cpk, hck, hgk⟩ := HCKA.out
    have hfa := HLI.out
    have d1 : decide (p.fa < ((liars fy nd : Nat) : Int)) = false := decide_eq_false (by omega)
    have d2 : decide ((fy : Int) < 0) = false := decide_eq_false (by omega)
    have hdv : (fy : Int) / 2 ^ nd = 0 := by
     have h1 : ((2 : Int) ^ nd) = ((2 ^ nd : Nat) : Int) := by simp
     rw [h1]
     exact Int.ediv_eq_zero_of_lt (by omega) (by omega)
    have HWW := hide (wild_no (zs := zs) (fun j _ => HZ.out j))
    have HCV : Hid (∀ W, Below wr.heap.size wr W → Blk W G 210 (clC p.nd p.fa p.sk p.ji p.dr p.rd (.slice A p.sl.length c) (.slice AL p.lk.length cl) p.fr (.slice AQ p.wn.length cq) fy (.slice (some ⟨gk, 0, none⟩) nd cpk) a.mm a.sd a.tk a.pr 0) ∧ IsL W (some ⟨gk, 0, none⟩) zs ∧ W.cell? ⟨w.heap.size, 2, none⟩ = some (.int .i64 p.sk)) := hide (fun W hB => by
     have hA := HA4.out.below hB
     refine ⟨?_, hA.ckI HLEN.out hck, ?_⟩
     ·have := hA.cluB
      rw [HG.out, hck] at this
      exact this
     ·exact (plan_cells (HX4.out.below hB HX4.out.lt)).2.2.1)
    have HWI : Hid (∀ W, Below wr.heap.size wr W → Calls Tryz.prog 144 #[.pointer (some ⟨G, 0, none⟩)] W fun e w' => e = .returned (.bool false) ∧ w' = W) := hide (fun W hB => by
     have h1 := HCV.out W hB
     have := wild_any G p.nd p.fa p.sk p.ji p.dr p.rd (.slice A p.sl.length c) (.slice AL p.lk.length cl) p.fr (.slice AQ p.wn.length cq) a.mm a.sd a.tk a.pr 0 fy (some ⟨gk, 0, none⟩) cpk zs W (by rw [HLEN.out]; exact h1.1) h1.2.1 (by rw [HLEN.out]; omega)
     rw [HWW.out] at this
     exact this)
    obtain ⟨q0, hq1, hq2⟩ := some_right (fy := fy) HP.out (by rw [HND.out]; exact hfa)
    have HSP : Hid (∀ W, Below wr.heap.size wr W → Calls Tryz.prog 106 #[.pointer (some ⟨G, 0, none⟩)] W fun e w' => (∃ sp : Int, e = .returned (.int .i64 sp) ∧ decide (p.sk < sp) = false) ∧ Below W.heap.size W w') := hide (fun W hB => by
     have h1 := HCV.out W hB
     have := spreadC_any G p.nd p.fa p.sk p.ji p.dr p.rd (.slice A p.sl.length c) (.slice AL p.lk.length cl) p.fr (.slice AQ p.wn.length cq) a.mm a.sd a.tk a.pr 0 fy (some ⟨gk, 0, none⟩) cpk zs W (by rw [HLEN.out]; exact h1.1) hf16 h1.2.1 (by rw [HLEN.out]; exact hnd16) (by rw [HLEN.out]; exact honL_some zs (by rw [HND.out] at hq1; exact hq1) hq2) (fun j _ => by have := HZ.out j; omega)
     refine this.mono ?_
     rintro e w' ⟨⟨x, y, rfl, ht, hl⟩, hb⟩
     rw [HLEN.out] at ht hl
     exact ⟨⟨x - y, rfl, decide_eq_false (by have := (spread_le HSK.out ht hl).1; omega)⟩, hb⟩)
    have hx2 := x2
    clear hfa hq1 hq2
    go_wp2_with fail
    go_region_held3 (fun w' => w'.cell? ⟨w.heap.size, 2, none⟩ = some (.int .i64 p.sk)) (first | exact hx2 | exact HS5.out)
     (first
      | (go_at_call 144; go_must (refine (HWI.out _ (by first | exact Below.refl _ _ | exact below_drewN (Below.refl _ _) 1)).mono ?_); rintro e w5 ⟨rfl, rfl⟩)
      | (go_at_call 106; go_must (refine (HSP.out _ (by first | exact Below.refl _ _ | exact below_drewN (Below.refl _ _) 1)).mono ?_); rintro e w5 ⟨⟨sp, rfl, hsp⟩, hB5⟩; have HB5 := hide ((below_drewN (Below.refl wr.heap.size wr) 1).trans hB5); have HS5 := hide (HCV.out w5 HB5.out).2.2; clear hB5))
    have HX5 := hide (HX4.out.below HB5.out HX4.out.lt)
    have HB45 := hide (HB4.out.trans (HB5.out.mono HB4.out.size))
    have HA5 := hide (HA4.out.below HB5.out)
    clear HWI HSP HCV HS5 HWW hx2 x0 x1 x2 x3 x4 x5 x6 x7 x8 x9 hdv d1 d2 hsp
    obtain ⟨x0, x1, x2, x3, x4, x5, x6, x7, x8, x9⟩ := plan_cells HX5.out
    rw [HPN.out] at x0
    obtain ⟨iM, hiM, hzM, hzM1, hzM2⟩ := en_info_parts ptr_infoM
    go_wp2_with fail
    clear x0 x1 x2 x3 x4 x5 x6 x7 x8 x9
    go_loopw [84] (fun v wr => ∃ (k : Nat) (a' : Ad), k ≤ nd ∧ v = .int .i64 k ∧ Hid (a'.g = G) ∧ Hid (∀ j, a'.rt j = .slice none 0 0 ∧ a'.rp j = .slice none 0 0) ∧ Hid (Below w.heap.size w wr) ∧ Hid (Blk wr w.heap.size 29 (planC p.nd p.fa p.sk p.ji p.dr p.rd (.slice A p.sl.length c) (.slice AL p.lk.length cl) p.fr (.slice AQ p.wn.length cq))) ∧ Hid (ClAt wr (w.heap.size + 1) a' ⟨k, 0, 0, fun _ => 0⟩ p ⟨.slice A p.sl.length c, .slice AL p.lk.length cl, .slice AQ p.wn.length cq⟩ fy (startF p zs))) (fun v _ => nd - (intOf v).toNat)
    case atStart => exact ⟨0, a, by omega, rfl, HG, HRN, HB45, HX5, HA5⟩
    case round =>
     obtain ⟨k, a', hk, rfl, HG', HRNr, HBr, HXr, HAr⟩ := hrel
     by_cases hlt : k < nd
     ·obtain ⟨x0, x1, x2, x3, x4, x5, x6, x7, x8, x9⟩ := plan_cells HXr.out
      rw [HPN.out] at x0
      have k12 := HAr.out.cluB.cell 12
      simp at k12
      rw [HG'.out] at k12
      obtain ⟨vm, hvm⟩ : ∃ vm, a'.mm = vm := ⟨_, rfl⟩
      rw [hvm] at k12
      have HVM := hide hvm
      have hGl := HAr.out.cluB.lt
      rw [HG'.out] at hGl
      have hXl := HXr.out.lt
      obtain ⟨W1, hW1⟩ : ∃ W1, wr.alloc (.cells (nodeC k nd (2 ^ nd - 1) 1 0 false) 261) = W1 := ⟨_, rfl⟩
      have hB1' : Below wr.heap.size wr W1 := by rw [← hW1]; exact (Below.refl _ _).alloc (Nat.le_refl _) _
      have hbk1 : Blk W1 wr.heap.size 261 (nodeC k nd (2 ^ nd - 1) 1 0 false) := by rw [← hW1]; exact Blk.new wr _ _
      have k12' : W1.cell? ⟨G, 12, none⟩ = some vm := (hB1'.cell (p := ⟨G, 12, none⟩) hGl).trans k12
      have HB2W := hide ((Below.refl W1.heap.size W1).alloc (Nat.le_refl _) (.cells #[.pointer (some ⟨wr.heap.size, 0, none⟩)] 211))
      have HQ2 : Hid (QAt (W1.alloc (.cells #[.pointer (some ⟨wr.heap.size, 0, none⟩)] 211)) (w.heap.size + 1) 211 vm ((List.range k).map fun i => ptrV (a'.gm i))) := hide (by
       have := (HAr.out.below hB1').memQ
       rw [hvm] at this
       exact this.alloc _)
      have HB1' := hide hB1'; have HBK1 := hide hbk1; have HW1' := hide hW1
      have HSZW : Hid (w.heap.size + 1 ≤ (W1.alloc (.cells #[.pointer (some ⟨wr.heap.size, 0, none⟩)] 211)).heap.size) := hide (by have h1 := HXr.out.lt; have h2 := hB1'.size; simp; omega)
      have HLQ : Hid (((List.range k).map fun i => ptrV (a'.gm i)).length + 1 ≤ maxLen ∧ (((List.range k).map fun i => ptrV (a'.gm i)).length + 1) * 8 ≤ 140737488355328) := hide (by simp [maxLen]; omega)
      have HNEW := hide (new_in k nd wr hlt hnd16)
      have HXNot : Hid (vm.ownBlock ≠ some w.heap.size) := hide (fun e => by have := (HAr.out.own .memA w.heap.size (by simp [shape, Ob.foot, hvm, e])).1; omega)
      clear hvm hB1' hbk1 hW1
      go_wp2_with fail
      refine HNEW.out.mono ?_
      rintro e w6 ⟨rfl, rfl⟩
      rw [HW1'.out]
      go_wp2_with (at_builtin; go_must (refine wpList_append_q _ rfl (.tmp 98) (.tmp 100) _ rfl (w.heap.size + 1) 211 iM _ 8 Tryz.underlying205 hiM hzM hzM1 hzM2 rfl vm ((List.range k).map fun i => ptrV (a'.gm i)) rfl (by exact HQ2.out) W1.heap.size 0 1 (.pointer (some ⟨wr.heap.size, 0, none⟩)) rfl (by exact (Blk.new W1 211 #[.pointer (some ⟨wr.heap.size, 0, none⟩)]).cells1.1) rfl HLQ.out.1 HLQ.out.2 (by exact HSZW.out) ?_); intro g1 o1 cap1 w3 hQ3 hgr ho hb1 hlt1; simp only [List.length_map, List.length_range] at hQ3; have hcb := HAr.out.addMemC (HB1'.out.trans (HB2W.out.mono HB1'.out.size)) (by rw [HVM.out]; exact hgr); rw [HG'.out] at hcb; have hc12 := hcb.cell 12; have hf12 := hcb.frozen 12; simp at hc12; have HQ3 := hide hQ3; have HGR := hide hgr; have HO := hide ho; have HL1 := hide hlt1; clear hQ3 hgr ho hb1 hlt1 hcb)
      have HCN := HAr.out.addMem (x := ⟨2 ^ p.nd.toNat - 1, 1, 0, false⟩) HXr.out.lt rfl HB1'.out (by rw [HND.out]; exact HBK1.out) (Nat.le_refl _) HB2W.out HQ3.out (by rw [HVM.out]; exact HGR.out) (by rw [HVM.out]; exact HO.out) HL1.out
      rw [HG'.out] at HCN
      have hvlo : ∀ q, vm.ownBlock = some q → w.heap.size ≤ q := fun q e => Nat.le_of_succ_le (HAr.out.own .memA q (by simp [shape, Ob.foot, HVM.out, e])).1
      have hGlo : w.heap.size < G := by rw [← HG.out]; exact HGA.out
      have HBN := hide ((((HBr.out.trans (HB1'.out.mono HBr.out.size)).trans (HB2W.out.mono (Nat.le_trans HBr.out.size HB1'.out.size))).grown HGR.out (Nat.le_of_succ_le HSZW.out) hvlo).setCell (p := ⟨G, 12, none⟩) (Nat.le_of_lt hGlo) (.slice (some ⟨g1, o1, none⟩) (k + 1) cap1))
      have HXN := hide (((((HXr.out.below HB1'.out HXr.out.lt).below HB2W.out (Nat.lt_of_lt_of_le HXr.out.lt HB1'.out.size))).grown HGR.out (fun e => HXNot.out e.symm)).far (p := ⟨G, 12, none⟩) (Nat.ne_of_lt hGlo) (.slice (some ⟨g1, o1, none⟩) (k + 1) cap1))
      have HCN' := hide HCN
      clear HCN hvlo
      go_roundw
      case rel => exact ⟨k + 1, { a' with g := G, mm := .slice (some ⟨g1, o1, none⟩) (k + 1) cap1, gm := updF a'.gm k wr.heap.size }, by omega, by go_num, hide rfl, HRNr, HBN, HXN, HCN'⟩
      case measure => simp [intOf]; omega
     ·obtain rfl : nd = k := by omega
      obtain ⟨x0, x1, x2, x3, x4, x5, x6, x7, x8, x9⟩ := plan_cells HXr.out
      have hl8 := HP.out.lk
      obtain ⟨nl, hnl⟩ : ∃ nl, p.lk.length = nl := ⟨_, rfl⟩
      rw [hnl] at x7 hl8
      have HNL := hide hnl
      clear hnl
      obtain ⟨iS, hiS, hzS, hzS1, hzS2⟩ := en_info_parts ptr_infoS
      have HNK0 : Hid (ClAt wr (w.heap.size + 1) a' ⟨nd, 0, 0, fun j => if j < 0 then nd else 0⟩ p ⟨.slice A p.sl.length c, .slice AL p.lk.length cl, .slice AQ p.wn.length cq⟩ fy (startF p zs)) := hide (by rw [nk_zero]; exact HAr.out)
      go_wp2_with fail
      clear x0 x1 x2 x3 x4 x5 x6 x7 x8 x9
      go_loopw [108] (fun v wr => ∃ (k : Nat) (a' : Ad), k ≤ nl ∧ v = .int .i64 k ∧ Hid (a'.g = G) ∧ Hid (∀ j, k ≤ j → a'.rt j = .slice none 0 0 ∧ a'.rp j = .slice none 0 0) ∧ Hid (Below w.heap.size w wr) ∧ Hid (Blk wr w.heap.size 29 (planC p.nd p.fa p.sk p.ji p.dr p.rd (.slice A p.sl.length c) (.slice AL p.lk.length cl) p.fr (.slice AQ p.wn.length cq))) ∧ Hid (ClAt wr (w.heap.size + 1) a' ⟨nd, k, k, fun j => if j < k then nd else 0⟩ p ⟨.slice A p.sl.length c, .slice AL p.lk.length cl, .slice AQ p.wn.length cq⟩ fy (startF p zs))) (fun v _ => nl - (intOf v).toNat)
      case atStart => exact ⟨0, a', by omega, rfl, HG', hide (fun j _ => HRNr.out j), HBr, HXr, HNK0⟩
      case round =>
       clear HG' HRNr HBr HXr HAr HNK0
       obtain ⟨k, a', hk, rfl, HG', HRNr, HBr, HXr, HAr⟩ := hrel
       by_cases hlt : k < nl
       ·obtain ⟨bl, ol, hAL, lnk, hlk, f0, f1, f2, f3⟩ := (hL0 HL2.out (Nat.le_refl _) HBr.out) k (by rw [HNL.out]; exact hlt)
        have HLk := hide hlk
        have hlb := HP.out.link k lnk hlk
        have k13 := HAr.out.cluB.cell 13
        simp at k13
        rw [HG'.out] at k13
        obtain ⟨vm, hvm⟩ : ∃ vm, a'.sd = vm := ⟨_, rfl⟩
        rw [hvm] at k13
        have HVM := hide hvm
        have hGl := HAr.out.cluB.lt
        rw [HG'.out] at hGl
        have hXl := HXr.out.lt
        subst hAL
        obtain ⟨W0, hW0⟩ : ∃ W0, wr.alloc (.cells #[.int .i64 lnk.f, .int .i64 lnk.t, .int .i64 lnk.b, .int .i64 lnk.q] 88) = W0 := ⟨_, rfl⟩
        have HB0' : Hid (Below wr.heap.size wr W0) := hide (by rw [← hW0]; exact (Below.refl _ _).alloc (Nat.le_refl _) _)
        have HNEW := hide (newSender_ok (lf := lnk.f) (lt := lnk.t) lnk.b lnk.q W0 (by omega) (by omega) (by omega) (by omega))
        have HW0 := hide hW0
        have HXNot : Hid (vm.ownBlock ≠ some w.heap.size) := hide (fun e => by have := (HAr.out.own .sndA w.heap.size (by simp [shape, Ob.foot, hvm, e])).1; omega)
        have HQ0 := hide HAr.out.sndQ
        rw [hvm] at HQ0
        have HLQ : Hid (((List.range k).map fun i => ptrV (a'.gs i)).length + 1 ≤ maxLen ∧ (((List.range k).map fun i => ptrV (a'.gs i)).length + 1) * 8 ≤ 140737488355328) := hide (by simp [maxLen]; omega)
        clear hlk hlb hvm hW0
        go_wp2_with fail
        rw [HW0.out]
        refine HNEW.out.mono ?_
        rintro e w6 ⟨gx, rfl, hB6, hgx, hbk⟩
        have HB6 := hide (HB0'.out.trans (hB6.mono HB0'.out.size)); have HBK := hide hbk
        have HGX := hide (Nat.le_trans HB0'.out.size hgx)
        have k13' : w6.cell? ⟨G, 13, none⟩ = some vm := (HB6.out.cell (p := ⟨G, 13, none⟩) hGl).trans k13
        have hGl6 : G < w6.heap.size := Nat.lt_of_lt_of_le hGl HB6.out.size
        have HB2W := hide ((Below.refl w6.heap.size w6).alloc (Nat.le_refl _) (.cells #[.pointer (some ⟨gx, 0, none⟩)] 217))
        have HQ2 := hide ((HQ0.out.below HB6.out (Nat.le_refl _)).alloc (.cells #[.pointer (some ⟨gx, 0, none⟩)] 217))
        have HSZW : Hid (w.heap.size + 1 ≤ (w6.alloc (.cells #[.pointer (some ⟨gx, 0, none⟩)] 217)).heap.size) := hide (by have h1 := HXr.out.lt; have h2 := HB6.out.size; simp; omega)
        clear hB6 hgx hbk k13 f0 f1 f2 f3
        go_wp2_with (at_builtin; go_must (refine wpList_append_q _ rfl (.tmp 121) (.tmp 123) _ rfl (w.heap.size + 1) 217 iS _ 8 Tryz.underlying206 hiS hzS hzS1 hzS2 rfl vm ((List.range k).map fun i => ptrV (a'.gs i)) rfl (by exact HQ2.out) w6.heap.size 0 1 (.pointer (some ⟨gx, 0, none⟩)) rfl (by exact (Blk.new w6 217 #[.pointer (some ⟨gx, 0, none⟩)]).cells1.1) rfl HLQ.out.1 HLQ.out.2 (by exact HSZW.out) ?_); intro g1 o1 cap1 w3 hQ3 hgr ho hb1 hlt1; simp only [List.length_map, List.length_range] at hQ3; have hcb := HAr.out.addSndC (HB6.out.trans (HB2W.out.mono HB6.out.size)) (by rw [HVM.out]; exact hgr); rw [HG'.out] at hcb; have hc13 := hcb.cell 13; have hf13 := hcb.frozen 13; simp at hc13; have HQ3 := hide hQ3; have HGR := hide hgr; have HO := hide ho; have HL1 := hide hlt1; have hx0' := (plan_cells (((HXr.out.below HB6.out HXr.out.lt).below HB2W.out (Nat.lt_of_lt_of_le HXr.out.lt HB6.out.size)).grown hgr (fun e => HXNot.out e.symm))).1; rw [HPN.out] at hx0'; have hGw : w.heap.size < G := (by rw [← HG.out]; exact HGA.out); clear hQ3 hgr ho hb1 hlt1 hcb)
        have HCN := HAr.out.addSnd HXr.out.lt HLk.out rfl HB6.out HBK.out HGX.out HB2W.out HQ3.out (by rw [HVM.out]; exact HGR.out) (by rw [HVM.out]; exact HO.out) HL1.out
        rw [HG'.out] at HCN
        have hvlo : ∀ q, vm.ownBlock = some q → w.heap.size ≤ q := fun q e => Nat.le_of_succ_le (HAr.out.own .sndA q (by simp [shape, Ob.foot, HVM.out, e])).1
        have HBN := hide (((HBr.out.trans ((HB6.out.trans (HB2W.out.mono HB6.out.size)).mono HBr.out.size)).grown HGR.out (Nat.le_of_succ_le HSZW.out) hvlo).setCell (p := ⟨G, 13, none⟩) (Nat.le_of_lt hGw) (.slice (some ⟨g1, o1, none⟩) (k + 1) cap1))
        have HXN := hide (((((HXr.out.below HB6.out HXr.out.lt).below HB2W.out (Nat.lt_of_lt_of_le HXr.out.lt HB6.out.size))).grown HGR.out (fun e => HXNot.out e.symm)).far (p := ⟨G, 13, none⟩) (Nat.ne_of_lt hGw) (.slice (some ⟨g1, o1, none⟩) (k + 1) cap1))
        have HCN' := hide HCN
        have HRk := hide (HRNr.out k (Nat.le_refl _))
        have HRj : Hid (∀ j, k < j → a'.rt j = .slice none 0 0 ∧ a'.rp j = .slice none 0 0) := hide (fun j hj => HRNr.out j (Nat.le_of_lt hj))
        obtain ⟨iT, hiT, hzT, hzT1, hzT2⟩ := en_info_parts ptr_infoT
        obtain ⟨iQ, hiQ, hzQ, hzQ1, hzQ2⟩ := en_info_parts ptr_infoQ
        clear HCN hvlo hc13 hf13 hx0' k13' hGl6
        go_loopw [19, 20, 129] (fun v19 v20 v wr => ∃ (i : Nat) (a2 : Ad), i ≤ nd ∧ v = .int .i64 i ∧ v19 = a2.rt k ∧ v20 = a2.rp k ∧ Hid (a2.g = G) ∧ Hid (∀ j, k < j → a2.rt j = .slice none 0 0 ∧ a2.rp j = .slice none 0 0) ∧ Hid (Below w.heap.size w wr) ∧ Hid (Blk wr w.heap.size 29 (planC p.nd p.fa p.sk p.ji p.dr p.rd (.slice A p.sl.length c) (.slice (some ⟨bl, ol, none⟩) p.lk.length cl) p.fr (.slice AQ p.wn.length cq))) ∧ Hid (ClAt wr (w.heap.size + 1) a2 ⟨nd, k + 1, k, updF (fun j => if j < k then nd else 0) k i⟩ p ⟨.slice A p.sl.length c, .slice (some ⟨bl, ol, none⟩) p.lk.length cl, .slice AQ p.wn.length cq⟩ fy (startF p zs))) (fun _ _ v _ => nd - (intOf v).toNat)
        case atStart => exact ⟨0, { a' with g := G, sd := .slice (some ⟨g1, o1, none⟩) (k + 1) cap1, gs := updF a'.gs k gx, vs := updF a'.vs k (.slice none 0 0) }, by omega, rfl, HRk.out.1.symm, HRk.out.2.symm, hide rfl, HRj, HBN, HXN, hide (by rw [nk_at]; exact HCN'.out)⟩
        case round =>
         clear HB6 HBK HGX HB2W HQ2 HSZW HQ3 HGR HO HL1 HXNot HNEW HQ0 HLQ HRk HRj HBN HXN HCN' HW0 HB0' HVM hGl
         obtain ⟨i, a2, hi2, rfl, rfl, rfl, HG2, HRN2, HB2, HX2r, HA2⟩ := hrel
         by_cases hlti : i < nd
         ·obtain ⟨vt, hvt⟩ : ∃ vt, a2.rt k = vt := ⟨_, rfl⟩
          obtain ⟨vq, hvq⟩ : ∃ vq, a2.rp k = vq := ⟨_, rfl⟩
          obtain ⟨Wq, hWq⟩ : ∃ Wq, wr.alloc (.cells (quC 16 (.slice none 0 0) 0) 266) = Wq := ⟨_, rfl⟩
          obtain ⟨Wt, hWt⟩ : ∃ Wt, Wq.alloc (.cells #[.int .i64 (-1), .int .i64 0, .int .i64 0] 275) = Wt := ⟨_, rfl⟩
          have HBq : Hid (Below wr.heap.size wr Wq) := hide (by rw [← hWq]; exact (Below.refl _ _).alloc (Nat.le_refl _) _)
          have HBt : Hid (Below Wq.heap.size Wq Wt) := hide (by rw [← hWt]; exact (Below.refl _ _).alloc (Nat.le_refl _) _)
          have HKq : Hid (Blk Wq wr.heap.size 266 (quC 16 (.slice none 0 0) 0)) := hide (by rw [← hWq]; exact Blk.new wr _ _)
          have HKt : Hid (Blk Wt Wq.heap.size 275 #[.int .i64 (-1), .int .i64 0, .int .i64 0]) := hide (by rw [← hWt]; exact Blk.new Wq _ _)
          have HQn := hide (newQue_ok 16 wr (by decide) (by decide))
          rw [hWq] at HQn
          have HRn := hide (nrecv_any Wq)
          rw [hWt] at HRn
          have hnki : updF (fun j => if j < k then nd else 0) k i k = i := updF_self _ _ _
          have hqt := HA2.out.takRQ (k := k)
          rw [hnki, hvt] at hqt
          have hqp := HA2.out.prtRQ (k := k)
          rw [hnki, hvq] at hqp
          have hvl : ∀ q, vt.ownBlock = some q → w.heap.size + 1 ≤ q ∧ q < wr.heap.size := fun q e => HA2.out.own (.takR k) q (by simp [shape, Ob.foot, hvt, e])
          have hvl2 : ∀ q, vq.ownBlock = some q → w.heap.size + 1 ≤ q ∧ q < wr.heap.size := fun q e => HA2.out.own (.prtR k) q (by simp [shape, Ob.foot, hvq, e])
          have hsep : ∀ q, vt.ownBlock = some q → vq.ownBlock ≠ some q := fun q e e2 => by
           have := HA2.out.sep (.takR k) (.prtR k) q (by simp [shape, Ob.foot, hvt, e]) (by simp [shape, Ob.foot, hvq, e2])
           cases this
          have hs1 : wr.heap.size < Wq.heap.size := HKq.out.lt
          have hs2 : Wq.heap.size < Wt.heap.size := HKt.out.lt
          have HB3W := hide ((Below.refl Wt.heap.size Wt).alloc (Nat.le_refl _) (.cells #[.pointer (some ⟨Wq.heap.size, 0, none⟩)] 232))
          have HB03 := hide ((HBq.out.trans (HBt.out.mono HBq.out.size)).trans (HB3W.out.mono (Nat.le_trans HBq.out.size HBt.out.size)))
          have HQT := hide (hqt.below HB03.out (Nat.le_refl _))
          have HQP := hide hqp
          have hxl := HX2r.out.lt
          have HSZT : Hid (w.heap.size + 1 ≤ (Wt.alloc (.cells #[.pointer (some ⟨Wq.heap.size, 0, none⟩)] 232)).heap.size) := hide (by simp; omega)
          have HLT : Hid (((List.range i).map fun j => ptrV (a2.gt k j)).length + 1 ≤ maxLen ∧ (((List.range i).map fun j => ptrV (a2.gt k j)).length + 1) * 8 ≤ 140737488355328) := hide (by simp [maxLen]; omega)
          have HLP : Hid (((List.range i).map fun j => ptrV (a2.gp k j)).length + 1 ≤ maxLen ∧ (((List.range i).map fun j => ptrV (a2.gp k j)).length + 1) * 8 ≤ 140737488355328) := hide (by simp [maxLen]; omega)
          have HG4 : Hid (∀ w4 g (ho : vt.ownBlock = some g ∨ (Wt.alloc (.cells #[.pointer (some ⟨Wq.heap.size, 0, none⟩)] 232)).heap.size ≤ g), (Wt.alloc (.cells #[.pointer (some ⟨Wq.heap.size, 0, none⟩)] 232)).grownBy w4 vt.ownBlock → QAt w4 (w.heap.size + 1) 219 vq ((List.range i).map fun j => ptrV (a2.gp k j)) ∧ w.heap.size + 1 ≤ w4.heap.size ∧ wr.heap.size < w4.heap.size) := hide (fun w4 g _ hg => ⟨(HQP.out.below HB03.out (Nat.le_refl _)).keep (fun q _ hq e => hg.block q hq (fun e2 => hsep q e2.symm e)), Nat.le_trans HSZT.out hg.size, by have h1 := hg.size; have h2 := HB3W.out.size; omega⟩)
          have HVL := hide hvl; have HVL2 := hide hvl2
          rw [hvt, hvq]
          have HVT := hide hvt; have HVQ := hide hvq
          clear hqt hqp hvl hvl2 hsep hvt hvq hWq hWt
          go_wp2_with fail
          refine HQn.out.mono ?_
          rintro e w6 ⟨rfl, rfl⟩
          go_wp2_with (first
           | (go_at_call 148; go_must (refine HRn.out.mono ?_); rintro e w7 ⟨rfl, rfl⟩)
           | (at_builtin; (refine wpList_append_q _ rfl (.tmp 135) (.tmp 137) _ rfl (w.heap.size + 1) 232 iT _ 8 Tryz.underlying229 hiT hzT hzT1 hzT2 rfl vt ((List.range i).map fun j => ptrV (a2.gt k j)) rfl (by exact HQT.out) Wt.heap.size 0 1 (.pointer (some ⟨Wq.heap.size, 0, none⟩)) rfl (by exact (Blk.new Wt 232 #[.pointer (some ⟨Wq.heap.size, 0, none⟩)]).cells1.1) rfl HLT.out.1 HLT.out.2 (by exact HSZT.out) ?_); intro g1 o1 cap1 w4 hQ3 hgr ho hb1 hlt1; simp only [List.length_map, List.length_range] at hQ3; have H4 := hide (HG4.out w4 g1 ho hgr); have HQ3 := hide hQ3; have HGR := hide hgr; have HO := hide ho; have HL1 := hide hlt1; clear hQ3 hgr ho hb1 hlt1)
           | (at_builtin; (refine wpList_append_q _ rfl (.tmp 139) (.tmp 141) _ rfl (w.heap.size + 1) 219 iQ _ 8 Tryz.underlying220 hiQ hzQ hzQ1 hzQ2 rfl vq ((List.range i).map fun j => ptrV (a2.gp k j)) rfl (by exact H4.out.1.alloc _) w4.heap.size 0 1 (.pointer (some ⟨wr.heap.size, 0, none⟩)) rfl (by exact (Blk.new w4 219 #[.pointer (some ⟨wr.heap.size, 0, none⟩)]).cells1.1) rfl HLP.out.1 HLP.out.2 (by have := H4.out.2.1; simp; omega) ?_); intro g2 o2 cap2 w6 hQ6 hgr6 ho6 hb6 hlt6; simp only [List.length_map, List.length_range] at hQ6; have HQ6 := hide hQ6; have HGR6 := hide hgr6; have HO6 := hide ho6; have HL6 := hide hlt6; clear hQ6 hgr6 ho6 hb6 hlt6))
          have HB5W := hide ((Below.refl w4.heap.size w4).alloc (Nat.le_refl _) (.cells #[.pointer (some ⟨wr.heap.size, 0, none⟩)] 219))
          have HCN := hide (HA2.out.addRow hxl hnki rfl rfl HBq.out HKq.out (Nat.le_refl _) HBt.out HKt.out (Nat.le_refl _) HB3W.out HQ3.out (by rw [HVT.out]; exact HGR.out) (by rw [HVT.out]; exact HO.out) HL1.out HB5W.out HQ6.out (by rw [HVQ.out]; exact HGR6.out) (by rw [HVQ.out]; exact HO6.out) HL6.out)
          have HBN := hide ((((HB2.out.trans (HB03.out.mono HB2.out.size)).grown HGR.out (Nat.le_of_succ_le HSZT.out) (fun q e => Nat.le_of_succ_le (HVL.out q e).1)).alloc (Nat.le_of_succ_le H4.out.2.1) (.cells #[.pointer (some ⟨wr.heap.size, 0, none⟩)] 219)).grown HGR6.out (Nat.le_trans (Nat.le_of_succ_le H4.out.2.1) HB5W.out.size) (fun q e => Nat.le_of_succ_le (HVL2.out q e).1))
          have HXN := hide ((((HX2r.out.below HB03.out hxl).grown HGR.out (fun e => Nat.not_succ_le_self _ (HVL.out _ e.symm).1)).alloc (.cells #[.pointer (some ⟨wr.heap.size, 0, none⟩)] 219)).grown HGR6.out (fun e => Nat.not_succ_le_self _ (HVL2.out _ e.symm).1))
          go_roundw
          case rel => exact ⟨i + 1, { a2 with rt := updF a2.rt k (.slice (some ⟨g1, o1, none⟩) (i + 1) cap1), rp := updF a2.rp k (.slice (some ⟨g2, o2, none⟩) (i + 1) cap2), gt := upd2 a2.gt k i Wq.heap.size, gp := upd2 a2.gp k i wr.heap.size, vp := upd2 a2.vp k i (.slice none 0 0) }, by omega, by go_num, (updF_self _ _ _).symm, (updF_self _ _ _).symm, HG2, hide (fun j hj => ⟨(updF_ne _ _ (by omega)).trans (HRN2.out j hj).1, (updF_ne _ _ (by omega)).trans (HRN2.out j hj).2⟩), HBN, HXN, hide (by have := HCN.out; rw [updF_upd] at this; exact this)⟩
          case measure => simp [intOf]; omega
         ·obtain rfl : nd = i := by omega
          obtain ⟨ao1, cp1, hvt, -⟩ := (HA2.out.takRQ (k := k)).shape
          obtain ⟨ao2, cp2, hvq, -⟩ := (HA2.out.prtRQ (k := k)).shape
          simp only [List.length_map, List.length_range, updF_self] at hvt hvq
          obtain ⟨ta, hta⟩ : ∃ ta, a2.tk = ta := ⟨_, rfl⟩
          obtain ⟨pa, hpa⟩ : ∃ pa, a2.pr = pa := ⟨_, rfl⟩
          have hcb := HA2.out.cluB
          rw [HG2.out] at hcb
          have k14 := hcb.cell 14
          have k15 := hcb.cell 15
          simp at k14 k15
          rw [hta] at k14
          rw [hpa] at k15
          have hGl := hcb.lt
          have hqt := HA2.out.takAQ
          rw [hta] at hqt
          have hqp := HA2.out.prtAQ
          rw [hpa] at hqp
          have hvl : ∀ q, ta.ownBlock = some q → w.heap.size + 1 ≤ q ∧ q < wr.heap.size := fun q e => HA2.out.own .takA q (by simp [shape, Ob.foot, hta, e])
          have hvl2 : ∀ q, pa.ownBlock = some q → w.heap.size + 1 ≤ q ∧ q < wr.heap.size := fun q e => HA2.out.own .prtA q (by simp [shape, Ob.foot, hpa, e])
          have hsep : ∀ q, ta.ownBlock = some q → pa.ownBlock ≠ some q := fun q e e2 => by
           have := HA2.out.sep .takA .prtA q (by simp [shape, Ob.foot, hta, e]) (by simp [shape, Ob.foot, hpa, e2])
           cases this
          have hGt : ta.ownBlock ≠ some G := fun e => by
           have := HA2.out.sep .takA .clu G (by simp [shape, Ob.foot, hta, e]) (by simp [shape, Ob.foot, HG2.out])
           cases this
          have hGp : pa.ownBlock ≠ some G := fun e => by
           have := HA2.out.sep .prtA .clu G (by simp [shape, Ob.foot, hpa, e]) (by simp [shape, Ob.foot, HG2.out])
           cases this
          obtain ⟨iA, hiA, hzA, hzA1, hzA2⟩ := en_info_parts sl_infoT
          obtain ⟨iB, hiB, hzB, hzB1, hzB2⟩ := en_info_parts sl_infoQ
          have HVT := hide hvt; have HVQ := hide hvq; have HTA := hide hta; have HPA := hide hpa
          have HQT := hide hqt; have HQP := hide hqp; have HVL := hide hvl; have HVL2 := hide hvl2; have HSP := hide hsep; have HGT := hide hGt; have HGP := hide hGp; have HCB := hide hcb
          have hxl := HX2r.out.lt
          have HXL := hide hxl
          have HLT : Hid (((List.range k).map a2.rt).length + 1 ≤ maxLen ∧ (((List.range k).map a2.rt).length + 1) * 24 ≤ 140737488355328) := hide (by simp [maxLen]; omega)
          have HLP : Hid (((List.range k).map a2.rp).length + 1 ≤ maxLen ∧ (((List.range k).map a2.rp).length + 1) * 24 ≤ 140737488355328) := hide (by simp [maxLen]; omega)
          rw [hvt, hvq]
          clear hqt hqp hvl hvl2 hsep hvt hvq hta hpa hcb hGt hGp
          go_wp2_with fail
          have HPIN : Hid (∀ W0 w8, Below wr.heap.size wr W0 → W0.grownBy w8 ta.ownBlock → QAt w8 (w.heap.size + 1) 220 pa ((List.range k).map a2.rp) ∧ Blk w8 G 210 (clC p.nd p.fa p.sk p.ji p.dr p.rd (.slice A p.sl.length c) (.slice (some ⟨bl, ol, none⟩) p.lk.length cl) p.fr (.slice AQ p.wn.length cq) fy a2.ck a2.mm a2.sd a2.tk a2.pr (startF p zs).rd) ∧ w.heap.size + 1 ≤ w8.heap.size) := hide (fun W0 w8 hB hg => by
           have h1 := (app_after hB hg).1
           refine ⟨HQP.out.keep (fun q _ hq e => h1.block q hq (fun hm => HSP.out q (by simpa using hm) e)), (h1.block G hGl (fun hm => HGT.out (by simpa using hm))).trans HCB.out, Nat.le_trans HXL.out h1.size⟩)
          obtain ⟨S9, hS9⟩ : ∃ S9 : World → Prop, S9 = fun w' => w'.cell? ⟨G, 14, none⟩ = some ta ∧ w'.cell? ⟨G, 15, none⟩ = some pa := ⟨_, rfl⟩
          have HS9 := hide hS9; clear hS9
          have HS8 : Hid (∀ W, Below wr.heap.size wr W → S9 W) := hide (fun W hB => by
           have h1 := HCB.out.below hB hGl
           have c14 := h1.cell 14
           have c15 := h1.cell 15
           simp at c14 c15
           rw [HTA.out] at c14
           rw [HPA.out] at c15
           rw [HS9.out]
           exact ⟨c14, c15⟩)
          have HS8' : Hid (∀ W0 W, Below wr.heap.size wr W0 → W0.grownBy W ta.ownBlock → ∀ W', Below W.heap.size W W' → S9 W') := hide (fun W0 W hB hg W' hB' => by
           have h1 := (HPIN.out W0 W hB hg).2.1
           have h1 := h1.below hB' h1.lt
           have c14 := h1.cell 14
           have c15 := h1.cell 15
           simp at c14 c15
           rw [HTA.out] at c14
           rw [HPA.out] at c15
           rw [HS9.out]
           exact ⟨c14, c15⟩)
          go_upto_region 35 with fail
          refine wp_region_noPanic ?_
          refine wp_region_L (S := S9) (L := 18) (by kernel_rfl) ?_
          clear k14 k15
          have hH : S9 wr.drew := HS8.out _ (below_drewN (Below.refl _ _) 1)
          try simp only [List.size_toArray, List.length_cons, List.length_nil, Nat.reduceAdd]
          refine wpAnyL_takeM (i := 0) (v := ?v0) rfl (by kernel_rfl) (by kernel_rfl) (by kernel_rfl) (by kernel_rfl) (fun _ _ _ h => h) (Or.inl ⟨by rfl, ?hy0⟩) (by assumption) ?rest0
          case hy0 => (intro w9 _; go_simp <;> with_reducible rfl)
          try simp only [Act.put, List.setIfInBounds_toArray, List.set_cons_zero, List.set_cons_succ, List.getElem_toArray, List.getElem_cons_zero]
          refine wpAnyL_takeM (i := 1) (v := ?v1) rfl (by kernel_rfl) (by kernel_rfl) (by kernel_rfl) (by kernel_rfl) (fun _ _ _ h => h) (Or.inl ⟨by rfl, ?hy1⟩) (by assumption) ?rest1
          case hy1 => (intro w9 _; go_simp <;> with_reducible rfl)
          try simp only [Act.put, List.setIfInBounds_toArray, List.set_cons_zero, List.set_cons_succ, List.getElem_toArray, List.getElem_cons_zero, List.getElem_cons_succ]
          refine wpAnyL_takeM (i := 2) (v := ?v2) rfl (by kernel_rfl) (by kernel_rfl) (by kernel_rfl) (by kernel_rfl) (fun _ _ _ h => h) (Or.inl ⟨by rfl, ?hy2⟩) (by assumption) ?rest2
          case hy2 => (intro w9 _; go_simp <;> with_reducible rfl)
          try simp only [Act.put, List.setIfInBounds_toArray, List.set_cons_zero, List.set_cons_succ, List.getElem_toArray, List.getElem_cons_zero, List.getElem_cons_succ]
          refine wpAnyL_takeM (i := 3) (v := ?v3) rfl (by kernel_rfl) (by kernel_rfl) (by kernel_rfl) (by kernel_rfl) (fun _ _ _ h => h) (Or.inl ⟨by rfl, ?hy3⟩) (by assumption) ?rest3
          case hy3 => (intro w9 _; go_simp <;> with_reducible rfl)
          try simp only [Act.put, List.setIfInBounds_toArray, List.set_cons_zero, List.set_cons_succ, List.getElem_toArray, List.getElem_cons_zero, List.getElem_cons_succ]
          refine wpAnyL_takeM (i := 4) (v := ?v4) rfl (by kernel_rfl) (by kernel_rfl) (by kernel_rfl) (by kernel_rfl) (fun _ _ _ h => h) (Or.inl ⟨by rfl, ?hy4⟩) (by assumption) ?rest4
          case hy4 => (intro w9 _; go_simp <;> with_reducible rfl)
          try simp only [Act.put, List.setIfInBounds_toArray, List.set_cons_zero, List.set_cons_succ, List.getElem_toArray, List.getElem_cons_zero, List.getElem_cons_succ]
          refine wpAnyL_take (i := 5) (v := ?v5) rfl (by kernel_rfl) (by kernel_rfl) (by kernel_rfl) (by kernel_rfl) (fun _ _ _ h => h) (Or.inl ⟨by rfl, ?hy5⟩) (by assumption) ?rest5
          case hy5 => (intro w9 hSw; rw [HS9.out] at hSw; obtain ⟨q0, q1⟩ := hSw; go_simp <;> with_reducible rfl)
          try simp only [Act.put, List.setIfInBounds_toArray, List.set_cons_zero, List.set_cons_succ, List.getElem_toArray, List.getElem_cons_zero, List.getElem_cons_succ]
          refine wpAnyL_takeM (i := 6) (v := ?v6) rfl (by kernel_rfl) (by kernel_rfl) (by kernel_rfl) (by kernel_rfl) (fun _ _ _ h => h) (Or.inl ⟨by rfl, ?hy6⟩) (by assumption) ?rest6
          case hy6 => (intro w9 _; go_simp <;> with_reducible rfl)
          try simp only [Act.put, List.setIfInBounds_toArray, List.set_cons_zero, List.set_cons_succ, List.getElem_toArray, List.getElem_cons_zero, List.getElem_cons_succ]
          refine wpAnyL_takeM (i := 9) (v := ?v9) rfl (by kernel_rfl) (by kernel_rfl) (by kernel_rfl) (by kernel_rfl) (fun _ _ _ h => h) (Or.inl ⟨by rfl, ?hy9⟩) (by assumption) ?rest9
          case hy9 => (intro w9 _; go_simp <;> with_reducible rfl)
          try simp only [Act.put, List.setIfInBounds_toArray, List.set_cons_zero, List.set_cons_succ, List.getElem_toArray, List.getElem_cons_zero, List.getElem_cons_succ]
          refine wpAnyL_takeM (i := 10) (v := ?v10) rfl (by kernel_rfl) (by kernel_rfl) (by kernel_rfl) (by kernel_rfl) (fun _ _ _ h => h) (Or.inl ⟨by rfl, ?hy10⟩) (by assumption) ?rest10
          case hy10 => (intro w9 _; go_simp <;> with_reducible rfl)
          try simp only [Act.put, List.setIfInBounds_toArray, List.set_cons_zero, List.set_cons_succ, List.getElem_toArray, List.getElem_cons_zero, List.getElem_cons_succ]
          refine wpAnyL_takeM (i := 11) (v := ?v11) rfl (by kernel_rfl) (by kernel_rfl) (by kernel_rfl) (by kernel_rfl) (fun _ _ _ h => h) (Or.inl ⟨by rfl, ?hy11⟩) (by assumption) ?rest11
          case hy11 => (intro w9 _; go_simp <;> with_reducible rfl)
          try simp only [Act.put, List.setIfInBounds_toArray, List.set_cons_zero, List.set_cons_succ, List.getElem_toArray, List.getElem_cons_zero, List.getElem_cons_succ]
          refine wpAnyL_take (i := 12) (v := ?v12) rfl (by kernel_rfl) (by kernel_rfl) (by kernel_rfl) (by kernel_rfl) (fun _ _ _ h => h) (Or.inl ⟨by rfl, ?hy12⟩) (by assumption) ?rest12
          case hy12 => (intro w9 hSw; rw [HS9.out] at hSw; obtain ⟨q0, q1⟩ := hSw; go_simp <;> with_reducible rfl)
          try simp only [Act.put, List.setIfInBounds_toArray, List.set_cons_zero, List.set_cons_succ, List.getElem_toArray, List.getElem_cons_zero, List.getElem_cons_succ]
          refine wpAnyL_takeM (i := 13) (v := ?v13) rfl (by kernel_rfl) (by kernel_rfl) (by kernel_rfl) (by kernel_rfl) (fun _ _ _ h => h) (Or.inl ⟨by rfl, ?hy13⟩) (by assumption) ?rest13
          case hy13 => (intro w9 _; go_simp <;> with_reducible rfl)
          try simp only [Act.put, List.setIfInBounds_toArray, List.set_cons_zero, List.set_cons_succ, List.getElem_toArray, List.getElem_cons_zero, List.getElem_cons_succ]
          clear hH
          refine wpAnyL_two (i := 7) (j := 14) (by kernel_rfl) rfl rfl (fun K9 hK9 => ?_) (fun K9 hK9 => ?_)
          ·try simp only [List.getElem_toArray, List.getElem_cons_zero, List.getElem_cons_succ]
           go_simp
           refine hK9.out _ _ (fun _ => HS8.out _ (by first | exact below_drewN (Below.refl _ _) 1 | exact below_drewN ((Below.refl _ _).alloc (Nat.le_refl _) _) 1 | exact below_drewN (((Below.refl _ _).alloc (Nat.le_refl _) _).alloc (by simp) _) 1)) ?_
           clear hK9 K9
           try simp only [Act.put, List.setIfInBounds_toArray, List.set_cons_zero, List.set_cons_succ]
           refine wpAnyL_two (i := 8) (j := 14) (by kernel_rfl) rfl rfl (fun K9 hK9 => ?_) (fun K9 hK9 => ?_)
           ·try simp only [List.getElem_toArray, List.getElem_cons_zero, List.getElem_cons_succ]
            rw [if_pos (by rfl)]
            refine wp_append_q _ (.tmp 149) (.tmp 151) 207 rfl (w.heap.size + 1) 229 iA _ 24 Tryz.underlying207 hiA hzA hzA1 hzA2 rfl ta ((List.range k).map a2.rt) rfl (by first | exact (HQT.out.alloc _).drew | exact ((HQT.out.alloc _).alloc _).drew) _ _ _ (.slice ao1 nd cp1) rfl (by simp) rfl HLT.out.1 HLT.out.2 (by simp; omega) ?_
            intro g1 o1 cap1 w8 hQ3 hgr ho hb1 hlt1
            simp only [List.length_map, List.length_range] at hQ3
            have hb0 := below_for (wr := wr) hgr (by first | exact below_drewN (Below.refl _ _) 1 | exact below_drewN ((Below.refl _ _).alloc (Nat.le_refl _) _) 1 | exact below_drewN (((Below.refl _ _).alloc (Nat.le_refl _) _).alloc (by simp) _) 1)
            have H8 := hide (HPIN.out _ w8 hb0 hgr); have HB08 := hide (app_after hb0 hgr); have HB0W := hide hb0; have hGl8 := H8.out.2.1.lt; have HQ8 := hide hQ3; have HG8 := hide hgr; have HO8 := hide ho; have HL8 := hide hlt1; have HSS := hide (HS8'.out _ w8 hb0 hgr)
            clear hQ3 hgr ho hb1 hlt1 hb0
            refine hK9.out _ _ (fun _ => HSS.out _ (Below.refl _ _)) ?_
            clear hK9 K9
            try simp only [Act.put, List.setIfInBounds_toArray, List.set_cons_zero, List.set_cons_succ]
            refine wpAnyL_one (i := 14) (by kernel_rfl) rfl (fun K9 hK9 => ?_)
            try simp only [List.getElem_toArray, List.getElem_cons_zero, List.getElem_cons_succ]
            go_simp
            refine hK9.out _ _ (fun _ => HSS.out _ ((Below.refl _ _).alloc (Nat.le_refl _) _)) ?_
            clear hK9 K9
            try simp only [Act.put, List.setIfInBounds_toArray, List.set_cons_zero, List.set_cons_succ]
            refine wpAnyL_one (i := 15) (by kernel_rfl) rfl (fun K9 hK9 => ?_)
            try simp only [List.getElem_toArray, List.getElem_cons_zero, List.getElem_cons_succ]
            rw [if_pos (by rfl)]
            refine wp_append_q _ (.tmp 156) (.tmp 158) 208 rfl (w.heap.size + 1) 220 iB _ 24 Tryz.underlying208 hiB hzB hzB1 hzB2 rfl pa ((List.range k).map a2.rp) rfl (by first | exact H8.out.1 | exact H8.out.1.alloc _) _ _ _ (.slice ao2 nd cp2) rfl (by first | (simp; done) | exact (HB08.out.2 _ (by first | (simp; done) | (simp; omega)) (fun e => by have := (HVL.out _ e).2; omega) 0).trans (by simp)) rfl HLP.out.1 HLP.out.2 (by have := H8.out.2.2; first | exact this | (simp; omega)) ?_
            intro g2 o2 cap2 w9 hQ3 hgr ho hb1 hlt1
            simp only [List.length_map, List.length_range] at hQ3
            have hb9 := below_for (wr := w8) hgr (by first | exact Below.refl _ _ | exact (Below.refl _ _).alloc (Nat.le_refl _) _)
            have HFI := hide (HA2.out.addRows2 HXL.out HB0W.out (by rw [HVT.out]; exact HQ8.out) (by rw [HTA.out]; exact HG8.out) (by rw [HTA.out]; exact HO8.out) HL8.out hb9 (by rw [HVQ.out]; exact hQ3) (by rw [HPA.out]; exact hgr) (by rw [HPA.out]; exact ho) hlt1)
            have hcb9 := HFI.out.2.2; rw [HG2.out] at hcb9; have c14 := hcb9.cell 14; have c15 := hcb9.cell 15; have f14 := hcb9.frozen 14; have f15 := hcb9.frozen 15; simp at c14 c15; rw [HTA.out] at c14; rw [HPA.out] at c15
            clear hQ3 hgr ho hb1 hlt1 hcb9 hb9
            have hH9 : S9 w9 := by rw [HS9.out]; exact ⟨c14, c15⟩
            refine hK9.out _ _ (fun _ => hH9) ?_
            clear hK9 K9
            try simp only [Act.put, List.setIfInBounds_toArray, List.set_cons_zero, List.set_cons_succ]
            refine wpAnyL_one (i := 16) (by kernel_rfl) rfl (fun K9 hK9 => ?_)
            try simp only [List.getElem_toArray, List.getElem_cons_zero, List.getElem_cons_succ]
            go_simp
            refine hK9.out _ _ (fun _ => hH9) ?_
            clear hK9 K9
            try simp only [Act.put, List.setIfInBounds_toArray, List.set_cons_zero, List.set_cons_succ]
            refine wpAnyL_one (i := 17) (by kernel_rfl) rfl (fun K9 hK9 => ?_)
            try simp only [List.getElem_toArray, List.getElem_cons_zero, List.getElem_cons_succ]
            go_simp
            refine hK9.out _ _ (fun _ => hH9) ?_
            clear hK9 K9
            try simp only [Act.put, List.setIfInBounds_toArray, List.set_cons_zero, List.set_cons_succ]
            refine wpAnyL_one (i := 18) (by kernel_rfl) rfl (fun K9 hK9 => ?_)
            try simp only [List.getElem_toArray, List.getElem_cons_zero, List.getElem_cons_succ]
            go_simp
            refine hK9.out _ _ (fun h9 => absurd h9 (by decide)) ?_
            clear hK9 K9
            try simp only [Act.put, List.setIfInBounds_toArray, List.set_cons_zero, List.set_cons_succ]
            refine wpAnyL_one (i := 19) (by kernel_rfl) rfl (fun K9 hK9 => ?_)
            try simp only [List.getElem_toArray, List.getElem_cons_zero, List.getElem_cons_succ]
            go_simp
            refine hK9.out _ _ (fun h9 => absurd h9 (by decide)) ?_
            clear hK9 K9
            try simp only [Act.put, List.setIfInBounds_toArray, List.set_cons_zero, List.set_cons_succ]
            refine wpAnyL_one (i := 20) (by kernel_rfl) rfl (fun K9 hK9 => ?_)
            try simp only [List.getElem_toArray, List.getElem_cons_zero, List.getElem_cons_succ]
            go_simp
            refine hK9.out _ _ (fun h9 => absurd h9 (by decide)) ?_
            clear hK9 K9
            try simp only [Act.put, List.setIfInBounds_toArray, List.set_cons_zero, List.set_cons_succ]
            refine wpAnyL_one (i := 21) (by kernel_rfl) rfl (fun K9 hK9 => ?_)
            try simp only [List.getElem_toArray, List.getElem_cons_zero, List.getElem_cons_succ]
            go_simp
            refine hK9.out _ _ (fun h9 => absurd h9 (by decide)) ?_
            refine wpAnyL_done (by kernel_rfl) ?_ _
            refine NoPanic.normal ?_
            clear hK9 K9
            have hkl := HFI.out.2.1
            rw [HTA.out, HPA.out] at hkl
            have hF : ∀ q, q ∈ ta.ownBlock.toList ++ pa.ownBlock.toList → w.heap.size + 1 ≤ q := fun q hm => by
             rcases List.mem_append.1 hm with hm | hm
             ·exact (HVL.out q (by simpa using hm)).1
             ·exact (HVL2.out q (by simpa using hm)).1
            have hGw2 : w.heap.size < G := by rw [← HG.out]; exact HGA.out
            have hbl := (KeptL.below HB2.out HB2.out.size hkl (fun q hm => Nat.le_of_succ_le (hF q hm)))
            have hbx : Blk w9 w.heap.size 29 (planC p.nd p.fa p.sk p.ji p.dr p.rd (.slice A p.sl.length c) (.slice (some ⟨bl, ol, none⟩) p.lk.length cl) p.fr (.slice AQ p.wn.length cq)) := (hkl.block w.heap.size HXL.out (fun hm => Nat.not_succ_le_self _ (hF _ hm))).trans HX2r.out
            have hat := HFI.out.1
            rw [HG2.out] at hat
            have HBL := hide hbl; have HBX := hide hbx; have HAT := hide hat
            clear hkl hF hbl hbx hat
            go_wp2_with fail
            go_roundw
            case rel => exact ⟨k + 1, { a2 with g := G, tk := .slice (some ⟨g1, o1, none⟩) (k + 1) cap1, pr := .slice (some ⟨g2, o2, none⟩) (k + 1) cap2 }, by omega, by go_num, hide rfl, hide (fun j hj => HRN2.out j (by omega)), hide ((HBL.out.setCell (p := ⟨G, 14, none⟩) (Nat.le_of_lt hGw2) _).setCell (p := ⟨G, 15, none⟩) (Nat.le_of_lt hGw2) _), hide ((HBX.out.far (p := ⟨G, 14, none⟩) (Nat.ne_of_lt hGw2) _).far (p := ⟨G, 15, none⟩) (Nat.ne_of_lt hGw2) _), hide (by have := HAT.out; rw [nk_end] at this; exact this)⟩
            case measure => simp [intOf]; omega
           ·try simp only [List.getElem_toArray, List.getElem_cons_zero, List.getElem_cons_succ]
            go_simp
            refine hK9.out _ _ (fun _ => HS8.out _ (by first | exact below_drewN (Below.refl _ _) 1 | exact below_drewN ((Below.refl _ _).alloc (Nat.le_refl _) _) 1 | exact below_drewN (((Below.refl _ _).alloc (Nat.le_refl _) _).alloc (by simp) _) 1)) ?_
            clear hK9 K9
            try simp only [Act.put, List.setIfInBounds_toArray, List.set_cons_zero, List.set_cons_succ]
            refine wpAnyL_one (i := 8) (by kernel_rfl) rfl (fun K9 hK9 => ?_)
            try simp only [List.getElem_toArray, List.getElem_cons_zero, List.getElem_cons_succ]
            rw [if_pos (by rfl)]
            refine wp_append_q _ (.tmp 149) (.tmp 151) 207 rfl (w.heap.size + 1) 229 iA _ 24 Tryz.underlying207 hiA hzA hzA1 hzA2 rfl ta ((List.range k).map a2.rt) rfl (by first | exact (HQT.out.alloc _).drew | exact ((HQT.out.alloc _).alloc _).drew) _ _ _ (.slice ao1 nd cp1) rfl (by simp) rfl HLT.out.1 HLT.out.2 (by simp; omega) ?_
            intro g1 o1 cap1 w8 hQ3 hgr ho hb1 hlt1
            simp only [List.length_map, List.length_range] at hQ3
            have hb0 := below_for (wr := wr) hgr (by first | exact below_drewN (Below.refl _ _) 1 | exact below_drewN ((Below.refl _ _).alloc (Nat.le_refl _) _) 1 | exact below_drewN (((Below.refl _ _).alloc (Nat.le_refl _) _).alloc (by simp) _) 1)
            have H8 := hide (HPIN.out _ w8 hb0 hgr); have HB08 := hide (app_after hb0 hgr); have HB0W := hide hb0; have hGl8 := H8.out.2.1.lt; have HQ8 := hide hQ3; have HG8 := hide hgr; have HO8 := hide ho; have HL8 := hide hlt1; have HSS := hide (HS8'.out _ w8 hb0 hgr)
            clear hQ3 hgr ho hb1 hlt1 hb0
            refine hK9.out _ _ (fun _ => HSS.out _ (Below.refl _ _)) ?_
            clear hK9 K9
            try simp only [Act.put, List.setIfInBounds_toArray, List.set_cons_zero, List.set_cons_succ]
            refine wpAnyL_one (i := 15) (by kernel_rfl) rfl (fun K9 hK9 => ?_)
            try simp only [List.getElem_toArray, List.getElem_cons_zero, List.getElem_cons_succ]
            rw [if_pos (by rfl)]
            refine wp_append_q _ (.tmp 156) (.tmp 158) 208 rfl (w.heap.size + 1) 220 iB _ 24 Tryz.underlying208 hiB hzB hzB1 hzB2 rfl pa ((List.range k).map a2.rp) rfl (by first | exact H8.out.1 | exact H8.out.1.alloc _) _ _ _ (.slice ao2 nd cp2) rfl (by first | (simp; done) | exact (HB08.out.2 _ (by first | (simp; done) | (simp; omega)) (fun e => by have := (HVL.out _ e).2; omega) 0).trans (by simp)) rfl HLP.out.1 HLP.out.2 (by have := H8.out.2.2; first | exact this | (simp; omega)) ?_
            intro g2 o2 cap2 w9 hQ3 hgr ho hb1 hlt1
            simp only [List.length_map, List.length_range] at hQ3
            have hb9 := below_for (wr := w8) hgr (by first | exact Below.refl _ _ | exact (Below.refl _ _).alloc (Nat.le_refl _) _)
            have HFI := hide (HA2.out.addRows2 HXL.out HB0W.out (by rw [HVT.out]; exact HQ8.out) (by rw [HTA.out]; exact HG8.out) (by rw [HTA.out]; exact HO8.out) HL8.out hb9 (by rw [HVQ.out]; exact hQ3) (by rw [HPA.out]; exact hgr) (by rw [HPA.out]; exact ho) hlt1)
            have hcb9 := HFI.out.2.2; rw [HG2.out] at hcb9; have c14 := hcb9.cell 14; have c15 := hcb9.cell 15; have f14 := hcb9.frozen 14; have f15 := hcb9.frozen 15; simp at c14 c15; rw [HTA.out] at c14; rw [HPA.out] at c15
            clear hQ3 hgr ho hb1 hlt1 hcb9 hb9
            have hH9 : S9 w9 := by rw [HS9.out]; exact ⟨c14, c15⟩
            refine hK9.out _ _ (fun _ => hH9) ?_
            clear hK9 K9
            try simp only [Act.put, List.setIfInBounds_toArray, List.set_cons_zero, List.set_cons_succ]
            refine wpAnyL_one (i := 16) (by kernel_rfl) rfl (fun K9 hK9 => ?_)
            try simp only [List.getElem_toArray, List.getElem_cons_zero, List.getElem_cons_succ]
            go_simp
            refine hK9.out _ _ (fun _ => hH9) ?_
            clear hK9 K9
            try simp only [Act.put, List.setIfInBounds_toArray, List.set_cons_zero, List.set_cons_succ]
            refine wpAnyL_one (i := 17) (by kernel_rfl) rfl (fun K9 hK9 => ?_)
            try simp only [List.getElem_toArray, List.getElem_cons_zero, List.getElem_cons_succ]
            go_simp
            refine hK9.out _ _ (fun _ => hH9) ?_
            clear hK9 K9
            try simp only [Act.put, List.setIfInBounds_toArray, List.set_cons_zero, List.set_cons_succ]
            refine wpAnyL_one (i := 18) (by kernel_rfl) rfl (fun K9 hK9 => ?_)
            try simp only [List.getElem_toArray, List.getElem_cons_zero, List.getElem_cons_succ]
            go_simp
            refine hK9.out _ _ (fun h9 => absurd h9 (by decide)) ?_
            clear hK9 K9
            try simp only [Act.put, List.setIfInBounds_toArray, List.set_cons_zero, List.set_cons_succ]
            refine wpAnyL_one (i := 19) (by kernel_rfl) rfl (fun K9 hK9 => ?_)
            try simp only [List.getElem_toArray, List.getElem_cons_zero, List.getElem_cons_succ]
            go_simp
            refine hK9.out _ _ (fun h9 => absurd h9 (by decide)) ?_
            clear hK9 K9
            try simp only [Act.put, List.setIfInBounds_toArray, List.set_cons_zero, List.set_cons_succ]
            refine wpAnyL_one (i := 20) (by kernel_rfl) rfl (fun K9 hK9 => ?_)
            try simp only [List.getElem_toArray, List.getElem_cons_zero, List.getElem_cons_succ]
            go_simp
            refine hK9.out _ _ (fun h9 => absurd h9 (by decide)) ?_
            clear hK9 K9
            try simp only [Act.put, List.setIfInBounds_toArray, List.set_cons_zero, List.set_cons_succ]
            refine wpAnyL_one (i := 21) (by kernel_rfl) rfl (fun K9 hK9 => ?_)
            try simp only [List.getElem_toArray, List.getElem_cons_zero, List.getElem_cons_succ]
            go_simp
            refine hK9.out _ _ (fun h9 => absurd h9 (by decide)) ?_
            refine wpAnyL_done (by kernel_rfl) ?_ _
            refine NoPanic.normal ?_
            clear hK9 K9
            have hkl := HFI.out.2.1
            rw [HTA.out, HPA.out] at hkl
            have hF : ∀ q, q ∈ ta.ownBlock.toList ++ pa.ownBlock.toList → w.heap.size + 1 ≤ q := fun q hm => by
             rcases List.mem_append.1 hm with hm | hm
             ·exact (HVL.out q (by simpa using hm)).1
             ·exact (HVL2.out q (by simpa using hm)).1
            have hGw2 : w.heap.size < G := by rw [← HG.out]; exact HGA.out
            have hbl := (KeptL.below HB2.out HB2.out.size hkl (fun q hm => Nat.le_of_succ_le (hF q hm)))
            have hbx : Blk w9 w.heap.size 29 (planC p.nd p.fa p.sk p.ji p.dr p.rd (.slice A p.sl.length c) (.slice (some ⟨bl, ol, none⟩) p.lk.length cl) p.fr (.slice AQ p.wn.length cq)) := (hkl.block w.heap.size HXL.out (fun hm => Nat.not_succ_le_self _ (hF _ hm))).trans HX2r.out
            have hat := HFI.out.1
            rw [HG2.out] at hat
            have HBL := hide hbl; have HBX := hide hbx; have HAT := hide hat
            clear hkl hF hbl hbx hat
            go_wp2_with fail
            go_roundw
            case rel => exact ⟨k + 1, { a2 with g := G, tk := .slice (some ⟨g1, o1, none⟩) (k + 1) cap1, pr := .slice (some ⟨g2, o2, none⟩) (k + 1) cap2 }, by omega, by go_num, hide rfl, hide (fun j hj => HRN2.out j (by omega)), hide ((HBL.out.setCell (p := ⟨G, 14, none⟩) (Nat.le_of_lt hGw2) _).setCell (p := ⟨G, 15, none⟩) (Nat.le_of_lt hGw2) _), hide ((HBX.out.far (p := ⟨G, 14, none⟩) (Nat.ne_of_lt hGw2) _).far (p := ⟨G, 15, none⟩) (Nat.ne_of_lt hGw2) _), hide (by have := HAT.out; rw [nk_end] at this; exact this)⟩
            case measure => simp [intOf]; omega
          ·try simp only [List.getElem_toArray, List.getElem_cons_zero, List.getElem_cons_succ]
           go_simp
           refine hK9.out _ _ (fun _ => HS8.out _ (by first | exact below_drewN (Below.refl _ _) 1 | exact below_drewN ((Below.refl _ _).alloc (Nat.le_refl _) _) 1 | exact below_drewN (((Below.refl _ _).alloc (Nat.le_refl _) _).alloc (by simp) _) 1)) ?_
           clear hK9 K9
           try simp only [Act.put, List.setIfInBounds_toArray, List.set_cons_zero, List.set_cons_succ]
           refine wpAnyL_one (i := 7) (by kernel_rfl) rfl (fun K9 hK9 => ?_)
           try simp only [List.getElem_toArray, List.getElem_cons_zero, List.getElem_cons_succ]
           go_simp
           refine hK9.out _ _ (fun _ => HS8.out _ (by first | exact below_drewN (Below.refl _ _) 1 | exact below_drewN ((Below.refl _ _).alloc (Nat.le_refl _) _) 1 | exact below_drewN (((Below.refl _ _).alloc (Nat.le_refl _) _).alloc (by simp) _) 1)) ?_
           clear hK9 K9
           try simp only [Act.put, List.setIfInBounds_toArray, List.set_cons_zero, List.set_cons_succ]
           refine wpAnyL_one (i := 8) (by kernel_rfl) rfl (fun K9 hK9 => ?_)
           try simp only [List.getElem_toArray, List.getElem_cons_zero, List.getElem_cons_succ]
           rw [if_pos (by rfl)]
           refine wp_append_q _ (.tmp 149) (.tmp 151) 207 rfl (w.heap.size + 1) 229 iA _ 24 Tryz.underlying207 hiA hzA hzA1 hzA2 rfl ta ((List.range k).map a2.rt) rfl (by first | exact (HQT.out.alloc _).drew | exact ((HQT.out.alloc _).alloc _).drew) _ _ _ (.slice ao1 nd cp1) rfl (by simp) rfl HLT.out.1 HLT.out.2 (by simp; omega) ?_
           intro g1 o1 cap1 w8 hQ3 hgr ho hb1 hlt1
           simp only [List.length_map, List.length_range] at hQ3
           have hb0 := below_for (wr := wr) hgr (by first | exact below_drewN (Below.refl _ _) 1 | exact below_drewN ((Below.refl _ _).alloc (Nat.le_refl _) _) 1 | exact below_drewN (((Below.refl _ _).alloc (Nat.le_refl _) _).alloc (by simp) _) 1)
           have H8 := hide (HPIN.out _ w8 hb0 hgr); have HB08 := hide (app_after hb0 hgr); have HB0W := hide hb0; have hGl8 := H8.out.2.1.lt; have HQ8 := hide hQ3; have HG8 := hide hgr; have HO8 := hide ho; have HL8 := hide hlt1; have HSS := hide (HS8'.out _ w8 hb0 hgr)
           clear hQ3 hgr ho hb1 hlt1 hb0
           refine hK9.out _ _ (fun _ => HSS.out _ (Below.refl _ _)) ?_
           clear hK9 K9
           try simp only [Act.put, List.setIfInBounds_toArray, List.set_cons_zero, List.set_cons_succ]
           refine wpAnyL_one (i := 15) (by kernel_rfl) rfl (fun K9 hK9 => ?_)
           try simp only [List.getElem_toArray, List.getElem_cons_zero, List.getElem_cons_succ]
           rw [if_pos (by rfl)]
           refine wp_append_q _ (.tmp 156) (.tmp 158) 208 rfl (w.heap.size + 1) 220 iB _ 24 Tryz.underlying208 hiB hzB hzB1 hzB2 rfl pa ((List.range k).map a2.rp) rfl (by first | exact H8.out.1 | exact H8.out.1.alloc _) _ _ _ (.slice ao2 nd cp2) rfl (by first | (simp; done) | exact (HB08.out.2 _ (by first | (simp; done) | (simp; omega)) (fun e => by have := (HVL.out _ e).2; omega) 0).trans (by simp)) rfl HLP.out.1 HLP.out.2 (by have := H8.out.2.2; first | exact this | (simp; omega)) ?_
           intro g2 o2 cap2 w9 hQ3 hgr ho hb1 hlt1
           simp only [List.length_map, List.length_range] at hQ3
           have hb9 := below_for (wr := w8) hgr (by first | exact Below.refl _ _ | exact (Below.refl _ _).alloc (Nat.le_refl _) _)
           have HFI := hide (HA2.out.addRows2 HXL.out HB0W.out (by rw [HVT.out]; exact HQ8.out) (by rw [HTA.out]; exact HG8.out) (by rw [HTA.out]; exact HO8.out) HL8.out hb9 (by rw [HVQ.out]; exact hQ3) (by rw [HPA.out]; exact hgr) (by rw [HPA.out]; exact ho) hlt1)
           have hcb9 := HFI.out.2.2; rw [HG2.out] at hcb9; have c14 := hcb9.cell 14; have c15 := hcb9.cell 15; have f14 := hcb9.frozen 14; have f15 := hcb9.frozen 15; simp at c14 c15; rw [HTA.out] at c14; rw [HPA.out] at c15
           clear hQ3 hgr ho hb1 hlt1 hcb9 hb9
           have hH9 : S9 w9 := by rw [HS9.out]; exact ⟨c14, c15⟩
           refine hK9.out _ _ (fun _ => hH9) ?_
           clear hK9 K9
           try simp only [Act.put, List.setIfInBounds_toArray, List.set_cons_zero, List.set_cons_succ]
           refine wpAnyL_one (i := 16) (by kernel_rfl) rfl (fun K9 hK9 => ?_)
           try simp only [List.getElem_toArray, List.getElem_cons_zero, List.getElem_cons_succ]
           go_simp
           refine hK9.out _ _ (fun _ => hH9) ?_
           clear hK9 K9
           try simp only [Act.put, List.setIfInBounds_toArray, List.set_cons_zero, List.set_cons_succ]
           refine wpAnyL_one (i := 17) (by kernel_rfl) rfl (fun K9 hK9 => ?_)
           try simp only [List.getElem_toArray, List.getElem_cons_zero, List.getElem_cons_succ]
           go_simp
           refine hK9.out _ _ (fun _ => hH9) ?_
           clear hK9 K9
           try simp only [Act.put, List.setIfInBounds_toArray, List.set_cons_zero, List.set_cons_succ]
           refine wpAnyL_one (i := 18) (by kernel_rfl) rfl (fun K9 hK9 => ?_)
           try simp only [List.getElem_toArray, List.getElem_cons_zero, List.getElem_cons_succ]
           go_simp
           refine hK9.out _ _ (fun h9 => absurd h9 (by decide)) ?_
           clear hK9 K9
           try simp only [Act.put, List.setIfInBounds_toArray, List.set_cons_zero, List.set_cons_succ]
           refine wpAnyL_one (i := 19) (by kernel_rfl) rfl (fun K9 hK9 => ?_)
           try simp only [List.getElem_toArray, List.getElem_cons_zero, List.getElem_cons_succ]
           go_simp
           refine hK9.out _ _ (fun h9 => absurd h9 (by decide)) ?_
           clear hK9 K9
           try simp only [Act.put, List.setIfInBounds_toArray, List.set_cons_zero, List.set_cons_succ]
           refine wpAnyL_one (i := 20) (by kernel_rfl) rfl (fun K9 hK9 => ?_)
           try simp only [List.getElem_toArray, List.getElem_cons_zero, List.getElem_cons_succ]
           go_simp
           refine hK9.out _ _ (fun h9 => absurd h9 (by decide)) ?_
           clear hK9 K9
           try simp only [Act.put, List.setIfInBounds_toArray, List.set_cons_zero, List.set_cons_succ]
           refine wpAnyL_one (i := 21) (by kernel_rfl) rfl (fun K9 hK9 => ?_)
           try simp only [List.getElem_toArray, List.getElem_cons_zero, List.getElem_cons_succ]
           go_simp
           refine hK9.out _ _ (fun h9 => absurd h9 (by decide)) ?_
           refine wpAnyL_done (by kernel_rfl) ?_ _
           refine NoPanic.normal ?_
           clear hK9 K9
           have hkl := HFI.out.2.1
           rw [HTA.out, HPA.out] at hkl
           have hF : ∀ q, q ∈ ta.ownBlock.toList ++ pa.ownBlock.toList → w.heap.size + 1 ≤ q := fun q hm => by
            rcases List.mem_append.1 hm with hm | hm
            ·exact (HVL.out q (by simpa using hm)).1
            ·exact (HVL2.out q (by simpa using hm)).1
           have hGw2 : w.heap.size < G := by rw [← HG.out]; exact HGA.out
           have hbl := (KeptL.below HB2.out HB2.out.size hkl (fun q hm => Nat.le_of_succ_le (hF q hm)))
           have hbx : Blk w9 w.heap.size 29 (planC p.nd p.fa p.sk p.ji p.dr p.rd (.slice A p.sl.length c) (.slice (some ⟨bl, ol, none⟩) p.lk.length cl) p.fr (.slice AQ p.wn.length cq)) := (hkl.block w.heap.size HXL.out (fun hm => Nat.not_succ_le_self _ (hF _ hm))).trans HX2r.out
           have hat := HFI.out.1
           rw [HG2.out] at hat
           have HBL := hide hbl; have HBX := hide hbx; have HAT := hide hat
           clear hkl hF hbl hbx hat
           go_wp2_with fail
           go_roundw
           case rel => exact ⟨k + 1, { a2 with g := G, tk := .slice (some ⟨g1, o1, none⟩) (k + 1) cap1, pr := .slice (some ⟨g2, o2, none⟩) (k + 1) cap2 }, by omega, by go_num, hide rfl, hide (fun j hj => HRN2.out j (by omega)), hide ((HBL.out.setCell (p := ⟨G, 14, none⟩) (Nat.le_of_lt hGw2) _).setCell (p := ⟨G, 15, none⟩) (Nat.le_of_lt hGw2) _), hide ((HBX.out.far (p := ⟨G, 14, none⟩) (Nat.ne_of_lt hGw2) _).far (p := ⟨G, 15, none⟩) (Nat.ne_of_lt hGw2) _), hide (by have := HAT.out; rw [nk_end] at this; exact this)⟩
           case measure => simp [intOf]; omega
       ·obtain rfl : nl = k := by omega
        go_wp2_with fail
        go_ret2
        refine ⟨a', by rw [HG'.out]; rfl, HBr.out, ?_⟩
        have hfull : fullN p = ⟨nd, nl, nl, fun j => if j < nl then nd else 0⟩ := by unfold fullN; rw [HND.out, HNL.out]
        rw [hfull]
        exact HAr.out.mono (Nat.le_succ _)
end
end Go.Proofs.YtideefjnlakciaaGreatDoor
