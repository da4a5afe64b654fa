/- The document's cluster as it is built, part by part; plain facts; conditions: none. -/
import Derived.Test.YtdogdlnaacimpaaGreatDoorP24
import Derived.Test.YtdogdlnaacimpaaGreatDoorP13
import Derived.Test.YtdogdlnaacimpaaGreatDoorP21
import Derived.Test.YtdogdlnaacimpaaGreatDoorP31
import Derived.Test.YtdogdlnaacimpaaGreatDoorP16
import Derived.Test.YtdogdlnaacimpaaGreatDoorP19
import Derived.Test.YtdogdlnaacimpaaGreatDoorP02
import Derived.Test.YtdogdlnaacimpaaGreatDoorP14
set_option linter.unusedVariables false
set_option linter.unusedSimpArgs false
namespace Go.Proofs.YtdogdlnaacimpaaGreatDoor
section
open Go Go.RowKit
theorem GFam.appArr {ι : Type} [DecidableEq ι] {w w' : World} {base : Nat} {S : ι → GO} (h : GFam w base S) (x : ι) {t : TypeId} {v : Value} {l : List Value} (hx : S x = .arr base t v l) {u : Value} {g o cp : Nat} (hQ : QAt w' base t (.slice (some ⟨g, o, none⟩) (l.length + 1) cp) (l ++ [u])) (hg : w.grownBy w' v.ownBlock) (ho : v.ownBlock = some g ∨ w.heap.size ≤ g) (hlt : g < w'.heap.size) (hb : base ≤ w.heap.size) :
 GFam w' base (putG S x (.arr base t (.slice (some ⟨g, o, none⟩) (l.length + 1) cp) (l ++ [u]))) ∧ KeptG w w' S (putG S x (.arr base t (.slice (some ⟨g, o, none⟩) (l.length + 1) cp) (l ++ [u]))) := by
 refine h.step x _ (by rw [hx]; exact grown_toV hg) hQ (fun k hm => ?_) hb
 rw [hx]
 simp [GO.arr, Value.ownBlock] at hm
 subst hm
 exact ⟨hlt, ho.imp (fun e => by simp [GO.arr, e]) id⟩
section
variable {a : Ad2} {p : Pl} {P : Sv3} {fy : Nat} {c : Cl} {na i : Nat} {nk : Nat → Nat} {base : Nat}
theorem dshape_addNod {g gt : Nat} {v : Value} {k ns : Nat} (x : Mm) (hx : c.mm k = x) :
 putG (putG (putG (dshape base a ⟨k, ns, na, nk⟩ p P fy c) (.nod k) (.mem g gt k p.nd.toNat x.m x.gd x.bd x.fz)) .nodA (.arr base 92 v ((List.range k).map (fun i => ptrV (a.gm i)) ++ [ptrV g]))) .clu (.blk a.g 83 ((rclC p P fy a.ck a.nd a.lk a.tm a.pm c.rd).setIfInBounds 12 v)) = dshape base { a with nd := v, gm := updF a.gm k g, gt := updF a.gt k gt } ⟨k + 1, ns, na, nk⟩ p P fy c := by
 funext y
 cases y with
 | clu => rfl
 | nodA =>
  rw [putG_ne _ (by simp), putG_self]
  show _ = GO.arr base _ v _
  rw [range_snoc, map_upd]
  simp only [updF_self]
 | nod j =>
  rw [putG_ne _ (by simp), putG_ne _ (by simp)]
  by_cases e : j = k
  ·subst e
   rw [putG_self]
   subst hx
   simp [dshape, updF_self]
  ·rw [putG_ne _ (by simpa using e)]
   by_cases h : j < k
   ·simp [dshape, h, Nat.lt_succ_of_lt h, updF_ne a.gm g e, updF_ne a.gt gt e]
   ·simp [dshape, h, show ¬ j < k + 1 by omega]
 | _ => rw [putG_ne _ (by simp), putG_ne _ (by simp), putG_ne _ (by simp)]; rfl
theorem dshape_addLnk {g : Nat} {v : Value} {k nm : Nat} {l : Lk} (hl : p.lk[k]? = some l) (hs : c.sd k = ⟨0, -1, 0, []⟩) :
 putG (putG (putG (dshape base a ⟨nm, k, na, nk⟩ p P fy c) (.lnk k) (.snd base g (.slice none 0 0) l.b l.q 0 0 0 [])) .lnkA (.arr base 84 v ((List.range k).map (fun i => ptrV (a.gs i)) ++ [ptrV g]))) .clu (.blk a.g 83 ((rclC p P fy a.ck a.nd a.lk a.tm a.pm c.rd).setIfInBounds 13 v)) = dshape base { a with lk := v, gs := updF a.gs k g, vs := updF a.vs k (.slice none 0 0), al := updF a.al k [], wt := updF a.wt k 0, ls := updF a.ls k 0 } ⟨nm, k + 1, na, nk⟩ p P fy c := by
 funext y
 cases y with
 | clu => rfl
 | lnkA =>
  rw [putG_ne _ (by simp), putG_self]
  show _ = GO.arr base _ v _
  rw [range_snoc, map_upd]
  simp only [updF_self]
 | lnk j =>
  rw [putG_ne _ (by simp), putG_ne _ (by simp)]
  by_cases e : j = k
  ·subst e
   rw [putG_self]
   simp [dshape, updF_self, hl, hs]
  ·rw [putG_ne _ (by simpa using e)]
   by_cases h : j < k
   ·simp [dshape, h, Nat.lt_succ_of_lt h, updF_ne a.gs g e, updF_ne a.vs (.slice none 0 0) e, updF_ne a.al [] e, updF_ne a.wt 0 e, updF_ne a.ls 0 e]
   ·simp [dshape, h, show ¬ j < k + 1 by omega]
 | _ => rw [putG_ne _ (by simp), putG_ne _ (by simp), putG_ne _ (by simp)]; rfl
theorem dshape_addTak {g : Nat} {k nm ns : Nat} (hk : nk k = i) (h1 : c.tk k i = ⟨-1, 0, 0⟩) (l : List KV) :
 putG (putG (dshape base a ⟨nm, ns, na, nk⟩ p P fy c) (.tak k i) (.blk g 141 #[.int .i64 (-1), .int .i64 0, .int .i64 0])) .takM (.mp a.tm l) = dshape base { a with kt := l, gk := upd2 a.gk k i g } ⟨nm, ns, na, updF nk k (i + 1)⟩ p P fy c := by
 funext y
 cases y with
 | takM => rfl
 | tak j q =>
  rw [putG_ne _ (by simp)]
  by_cases e : j = k
  ·subst e
   by_cases e2 : q = i
   ·subst e2
    rw [putG_self]
    simp [dshape, updF_self, upd2_at2, h1]
   ·rw [putG_ne _ (by simpa using e2)]
    simp only [dshape, updF_self, upd2_nei a.gk g e2, hk]
    by_cases h : q < i
    ·rw [if_pos h, if_pos (by omega)]
    ·rw [if_neg h, if_neg (by omega)]
  ·rw [putG_ne _ (by simp [e])]
   simp only [dshape, updF_ne nk (i + 1) e, upd2_ne a.gk g e]
 | _ => rw [putG_ne _ (by simp), putG_ne _ (by simp)]; rfl
end
/-- Where the document's cluster's parts lie at first. -/
def ad20 (g : Nat) (v : Value) (tm pm : Nat) : Ad2 := ⟨g, v, .slice none 0 0, .slice none 0 0, fun _ => 0, fun _ => 0, fun _ => 0, fun _ => .slice none 0 0, fun _ => [], fun _ => 0, fun _ => 0, tm, [], fun _ _ => 0, pm, [], fun _ _ => .slice none 0 0⟩
theorem foot20 {base g tm pm : Nat} {v : Value} {p : Pl} {P : Sv3} {fy : Nat} {c : Cl} {x : Ix2} {k : Nat} (h : k ∈ (dshape base (ad20 g v tm pm) n00 p P fy c x).foot) : (x = .clu ∧ k = g) ∨ (x = .nums ∧ v.ownBlock = some k) ∨ (x = .takM ∧ k = tm) ∨ (x = .prtM ∧ k = pm) := by
 cases x with
 | clu => simp [dshape, GO.blk, ad20] at h; exact .inl ⟨rfl, h⟩
 | nums => simp [dshape, GO.arr, ad20] at h; exact .inr (.inl ⟨rfl, h⟩)
 | nodA => simp [dshape, GO.arr, ad20, Value.ownBlock] at h
 | nod i => simp [dshape, GO.none, n00] at h
 | lnkA => simp [dshape, GO.arr, ad20, Value.ownBlock] at h
 | lnk i => simp [dshape, GO.none, n00] at h
 | takM => simp [dshape, GO.mp, ad20] at h; exact .inr (.inr (.inl ⟨rfl, h⟩))
 | tak i j => simp [dshape, GO.none, n00] at h
 | prtM => simp [dshape, GO.mp, ad20] at h; exact .inr (.inr (.inr ⟨rfl, h⟩))
 | prt i j => simp [dshape, GO.arr, ad20, Value.ownBlock] at h
theorem dc_start {w8 : World} {base tm pm : Nat} {p : Pl} {P : Sv3} {fy : Nat} {v : Value} {zs : List Int} (hq : QAt w8 base 3 v (zs.map (Value.int .i64))) (hv : ∀ k, v.ownBlock = some k → base ≤ k ∧ k < w8.heap.size) (ht : MapP w8 tm []) (hp : MapP w8 pm []) (hbt : base ≤ tm) (hbp : base ≤ pm) (hne : tm ≠ pm) (hvt : v.ownBlock ≠ some tm) (hvp : v.ownBlock ≠ some pm) (hb : base ≤ w8.heap.size) :
 DcAt (w8.alloc (.cells (rclC p P fy v (.slice none 0 0) (.slice none 0 0) tm pm 0) 83)) base (ad20 w8.heap.size v tm pm) n00 p P fy (startF p zs) 0 := by
 have hB : Below w8.heap.size w8 (w8.alloc (.cells (rclC p P fy v (.slice none 0 0) (.slice none 0 0) tm pm 0) 83)) := (Below.refl _ _).alloc (Nat.le_refl _) _
 refine ⟨⟨fun x => ?_, fun x k h => ?_, fun x y k hx hy => ?_⟩, ⟨fun k h => absurd h (by simp [n00]), fun k h => absurd h (by simp [n00]), fun k i h => absurd h (by simp [n00]), fun k i => rfl⟩⟩
 ·cases x with
  | clu => exact Blk.new w8 _ _
  | nums => exact hq.alloc _
  | nodA => exact QAt.nil _ _ _ _
  | nod i => simp [dshape, n00, GO.none]
  | lnkA => exact QAt.nil _ _ _ _
  | lnk i => simp [dshape, n00, GO.none]
  | takM => exact ht.keep (hB.block _ ht.lt)
  | tak i j => simp [dshape, n00, GO.none]
  | prtM => exact hp.keep (hB.block _ hp.lt)
  | prt i j => exact QAt.nil _ _ _ _
 ·have h1 := ht.lt
  have h2 := hp.lt
  rcases foot20 h with ⟨_, rfl⟩ | ⟨_, e⟩ | ⟨_, rfl⟩ | ⟨_, rfl⟩
  ·simp; exact hb
  ·have := hv k e
   simp; omega
  ·simp; omega
  ·simp; omega
 ·have h1 := ht.lt
  have h2 := hp.lt
  rcases foot20 hx with ⟨rfl, e1⟩ | ⟨rfl, e1⟩ | ⟨rfl, e1⟩ | ⟨rfl, e1⟩ <;> rcases foot20 hy with ⟨rfl, e2⟩ | ⟨rfl, e2⟩ | ⟨rfl, e2⟩ | ⟨rfl, e2⟩
  ·rfl
  ·have := hv k e2; omega
  ·omega
  ·omega
  ·have := hv k e1; omega
  ·rfl
  ·subst e2; exact absurd e1 hvt
  ·subst e2; exact absurd e1 hvp
  ·omega
  ·subst e1; exact absurd e2 hvt
  ·rfl
  ·omega
  ·omega
  ·subst e1; exact absurd e2 hvp
  ·omega
  ·rfl
section
variable {a : Ad2} {p : Pl} {P : Sv3} {fy M : Nat} {c : Cl} {na ns nm k i gx gt g o cp : Nat} {nk : Nat → Nat} {w w' w2 w3 : World} {base : Nat}
/-- A member is added: w' bears it, w2 the pointer, w3 the longer row. -/
theorem DcAt.addNod (h : DcAt w base a ⟨k, ns, na, nk⟩ p P fy c M) (hb : base ≤ w.heap.size) {x : Mm} (hx : c.mm k = x) (hB : Below w.heap.size w w') (h1 : Blk w' gx 95 (refC k p.nd.toNat gt x.gd x.bd x.fz)) (h2 : Blk w' gt 4 (tkB p.nd.toNat (x.m.testBit ·))) (hne : gx ≠ gt) (hgx : w.heap.size ≤ gx) (hgt : w.heap.size ≤ gt) (hB2 : Below w'.heap.size w' w2)
 (hQ : QAt w3 base 92 (.slice (some ⟨g, o, none⟩) (k + 1) cp) ((List.range k).map (fun i => ptrV (a.gm i)) ++ [ptrV gx])) (hg : w2.grownBy w3 a.nd.ownBlock) (ho : a.nd.ownBlock = some g ∨ w2.heap.size ≤ g) (hlt : g < w3.heap.size) :
 DcAt (w3.setCell ⟨a.g, 12, none⟩ (.slice (some ⟨g, o, none⟩) (k + 1) cp)) base { a with nd := .slice (some ⟨g, o, none⟩) (k + 1) cp, gm := updF a.gm k gx, gt := updF a.gt k gt } ⟨k + 1, ns, na, nk⟩ p P fy c M ∧ KeptG w (w3.setCell ⟨a.g, 12, none⟩ (.slice (some ⟨g, o, none⟩) (k + 1) cp)) (dshape base a ⟨k, ns, na, nk⟩ p P fy c) (dshape base { a with nd := .slice (some ⟨g, o, none⟩) (k + 1) cp, gm := updF a.gm k gx, gt := updF a.gt k gt } ⟨k + 1, ns, na, nk⟩ p P fy c) := by
 obtain ⟨f1, q1⟩ := h.fam.add (.nod k) (.mem gx gt k p.nd.toNat x.m x.gd x.bd x.fz) hB ⟨h1, h2, hne⟩ (fun q hm => by
  simp only [GO.mem, List.mem_cons, List.not_mem_nil, or_false] at hm
  rcases hm with rfl | rfl
  ·exact ⟨h1.lt, hgx⟩
  ·exact ⟨h2.lt, hgt⟩) hb
 have hb2 : base ≤ w2.heap.size := Nat.le_trans hb (Nat.le_trans hB.size hB2.size)
 have f2 := f1.below hB2
 have q2 := q1.below hB2
 obtain ⟨f3, q3⟩ := f2.appArr .nodA (v := a.nd) (l := (List.range k).map (fun i => ptrV (a.gm i))) (by rw [putG_ne _ (by simp)]; rfl) (u := ptrV gx) (g := g) (o := o) (cp := cp) (by simpa using hQ) hg ho hlt hb2
 obtain ⟨f4, q4⟩ := f3.setBlk .clu (g := a.g) (by rw [putG_ne _ (by simp), putG_ne _ (by simp)]; rfl) 12 (.slice (some ⟨g, o, none⟩) (k + 1) cp) (Nat.le_trans hb2 hg.size)
 have q5 := (q2.trans q3).trans q4
 simp only [List.length_map, List.length_range] at f4 q5
 rw [dshape_addNod x hx] at f4 q5
 exact ⟨⟨f4, h.rel.sd, h.rel.al, h.rel.tk, h.rel.pr⟩, q5⟩
/-- A sender is added. -/
theorem DcAt.addLnk (h : DcAt w base a ⟨nm, k, na, nk⟩ p P fy c M) (hb : base ≤ w.heap.size) {l : Lk} (hl : p.lk[k]? = some l) (hs : c.sd k = ⟨0, -1, 0, []⟩) (hB : Below w.heap.size w w') (hbk : Blk w' gx 138 (rsC l.b l.q (.slice none 0 0) 0 0 0)) (hgx : w.heap.size ≤ gx) (hB2 : Below w'.heap.size w' w2)
 (hQ : QAt w3 base 84 (.slice (some ⟨g, o, none⟩) (k + 1) cp) ((List.range k).map (fun i => ptrV (a.gs i)) ++ [ptrV gx])) (hg : w2.grownBy w3 a.lk.ownBlock) (ho : a.lk.ownBlock = some g ∨ w2.heap.size ≤ g) (hlt : g < w3.heap.size) :
 DcAt (w3.setCell ⟨a.g, 13, none⟩ (.slice (some ⟨g, o, none⟩) (k + 1) cp)) base { a with lk := .slice (some ⟨g, o, none⟩) (k + 1) cp, gs := updF a.gs k gx, vs := updF a.vs k (.slice none 0 0), al := updF a.al k [], wt := updF a.wt k 0, ls := updF a.ls k 0 } ⟨nm, k + 1, na, nk⟩ p P fy c M ∧ KeptG w (w3.setCell ⟨a.g, 13, none⟩ (.slice (some ⟨g, o, none⟩) (k + 1) cp)) (dshape base a ⟨nm, k, na, nk⟩ p P fy c) (dshape base { a with lk := .slice (some ⟨g, o, none⟩) (k + 1) cp, gs := updF a.gs k gx, vs := updF a.vs k (.slice none 0 0), al := updF a.al k [], wt := updF a.wt k 0, ls := updF a.ls k 0 } ⟨nm, k + 1, na, nk⟩ p P fy c) := by
 obtain ⟨f1, q1⟩ := h.fam.add (.lnk k) (.snd base gx (.slice none 0 0) l.b l.q 0 0 0 []) hB ⟨hbk, QAt.nil _ _ _ _, by simp [Value.ownBlock]⟩ (fun q hm => by
  simp [GO.snd, Value.ownBlock] at hm
  subst hm
  exact ⟨hbk.lt, hgx⟩) hb
 have hb2 : base ≤ w2.heap.size := Nat.le_trans hb (Nat.le_trans hB.size hB2.size)
 have f2 := f1.below hB2
 have q2 := q1.below hB2
 obtain ⟨f3, q3⟩ := f2.appArr .lnkA (v := a.lk) (l := (List.range k).map (fun i => ptrV (a.gs i))) (by rw [putG_ne _ (by simp)]; rfl) (u := ptrV gx) (g := g) (o := o) (cp := cp) (by simpa using hQ) hg ho hlt hb2
 obtain ⟨f4, q4⟩ := f3.setBlk .clu (g := a.g) (by rw [putG_ne _ (by simp), putG_ne _ (by simp)]; rfl) 13 (.slice (some ⟨g, o, none⟩) (k + 1) cp) (Nat.le_trans hb2 hg.size)
 have q5 := (q2.trans q3).trans q4
 simp only [List.length_map, List.length_range] at f4 q5
 rw [dshape_addLnk hl hs] at f4 q5
 refine ⟨⟨f4, fun j hj => ?_, fun j hj => ?_, h.rel.tk, h.rel.pr⟩, q5⟩
 ·dsimp only
  by_cases e : j = k
  ·subst e
   rw [updF_self, updF_self, updF_self, hs]
   exact VsRel.start
  ·rw [updF_ne _ _ e, updF_ne _ _ e, updF_ne _ _ e]
   exact h.rel.sd j (by dsimp only at hj ⊢; omega)
 ·dsimp only
  by_cases e : j = k
  ·subst e
   rw [updF_self]
   simp
  ·rw [updF_ne _ _ e]
   exact h.rel.al j (by dsimp only at hj ⊢; omega)
/-- A receiver is added: w' bears it, w3 the longer map. -/
theorem DcAt.addTak (h : DcAt w base a ⟨nm, ns, na, nk⟩ p P fy c M) (hb : base ≤ w.heap.size) (hk : nk k = i) (h1 : c.tk k i = ⟨-1, 0, 0⟩) (hB : Below w.heap.size w w') (hbk : Blk w' gx 141 #[.int .i64 (-1), .int .i64 0, .int .i64 0]) (hgx : w.heap.size ≤ gx)
 (hm : MapP w3 a.tm (setK k i (ptrV gx) a.kt)) (hg : w'.grownBy w3 (some a.tm)) :
 DcAt w3 base { a with kt := setK k i (ptrV gx) a.kt, gk := upd2 a.gk k i gx } ⟨nm, ns, na, updF nk k (i + 1)⟩ p P fy c M ∧ KeptG w w3 (dshape base a ⟨nm, ns, na, nk⟩ p P fy c) (dshape base { a with kt := setK k i (ptrV gx) a.kt, gk := upd2 a.gk k i gx } ⟨nm, ns, na, updF nk k (i + 1)⟩ p P fy c) := by
 obtain ⟨f1, q1⟩ := h.fam.add (.tak k i) (.blk gx 141 #[.int .i64 (-1), .int .i64 0, .int .i64 0]) hB hbk (fun q hm => by
  simp only [GO.blk, List.mem_singleton] at hm
  subst hm
  exact ⟨hbk.lt, hgx⟩) hb
 have hb2 : base ≤ w'.heap.size := Nat.le_trans hb hB.size
 have hx : putG (dshape base a ⟨nm, ns, na, nk⟩ p P fy c) (.tak k i) (.blk gx 141 #[.int .i64 (-1), .int .i64 0, .int .i64 0]) .takM = .mp a.tm a.kt := by rw [putG_ne _ (by simp)]; rfl
 obtain ⟨f2, q2⟩ := f1.step .takM (.mp a.tm (setK k i (ptrV gx) a.kt)) (w' := w3) (by rw [hx]; exact grown_toL hg) hm (fun q hm' => by
  rw [hx]
  simp only [GO.mp, List.mem_singleton] at hm' ⊢
  subst hm'
  exact ⟨hm.lt, .inl rfl⟩) hb2
 have q5 := q1.trans q2
 rw [dshape_addTak hk h1] at f2 q5
 refine ⟨⟨f2, h.rel.sd, h.rel.al, fun k2 i2 h2 => ?_, h.rel.pr⟩, q5⟩
 dsimp only at h2 ⊢
 rw [valK_set]
 unfold upd2
 by_cases e : k2 = k
 ·subst e
  rw [updF_self] at h2
  by_cases e2 : i2 = i
  ·subst e2
   rw [if_pos ⟨rfl, rfl⟩, if_pos ⟨rfl, rfl⟩]
  ·rw [if_neg (fun hh => e2 hh.2), if_neg (fun hh => e2 hh.2)]
   exact h.rel.tk k2 i2 (by dsimp only; omega)
 ·rw [updF_ne _ _ e] at h2
  rw [if_neg (fun hh => e hh.1), if_neg (fun hh => e hh.1)]
  exact h.rel.tk k2 i2 h2
theorem DcAt.addNodC {n : Cn} (h : DcAt w base a n p P fy c M) (hB : Below w.heap.size w w2) (hg : w2.grownBy w3 a.nd.ownBlock) : Blk w3 a.g 83 (rclC p P fy a.ck a.nd a.lk a.tm a.pm c.rd) :=
 (h.cluB.below hB h.cluB.lt).grown hg (fun e => by
  have := h.fam.sep .clu .nodA a.g (by simp [dshape, GO.blk]) (by simp [dshape, GO.arr, ← e])
  cases this)
theorem DcAt.addLnkC {n : Cn} (h : DcAt w base a n p P fy c M) (hB : Below w.heap.size w w2) (hg : w2.grownBy w3 a.lk.ownBlock) : Blk w3 a.g 83 (rclC p P fy a.ck a.nd a.lk a.tm a.pm c.rd) :=
 (h.cluB.below hB h.cluB.lt).grown hg (fun e => by
  have := h.fam.sep .clu .lnkA a.g (by simp [dshape, GO.blk]) (by simp [dshape, GO.arr, ← e])
  cases this)
theorem DcAt.setNa {na' : Nat} (h : DcAt w base a ⟨nm, ns, na, nk⟩ p P fy c M) : DcAt w base a ⟨nm, ns, na', nk⟩ p P fy c M := by
 have e : dshape base a ⟨nm, ns, na, nk⟩ p P fy c = dshape base a ⟨nm, ns, na', nk⟩ p P fy c := by funext y; cases y <;> rfl
 exact ⟨e ▸ h.fam, h.rel.sd, h.rel.al, h.rel.tk, h.rel.pr⟩
theorem dshape_foot {b : Nat} {n : Cn} (x : Ix2) : (dshape b a n p P fy c x).foot = (dshape base a n p P fy c x).foot := by
 cases x with
 | lnk k =>
  simp only [dshape]
  split
  ·cases p.lk[k]? <;> rfl
  ·rfl
 | _ => rfl
theorem dshape_mono {b : Nat} {n : Cn} (hb : b ≤ base) (x : Ix2) (h : (dshape base a n p P fy c x).At w) : (dshape b a n p P fy c x).At w := by
 cases x with
 | nums => exact QAt.mono h hb
 | nodA => exact QAt.mono h hb
 | lnkA => exact QAt.mono h hb
 | prt k i => exact QAt.mono h hb
 | lnk k =>
  simp only [dshape] at h ⊢
  split
  ·rename_i hk
   rw [if_pos hk] at h
   cases hl : p.lk[k]? with
   | none => rw [hl] at h; exact h
   | some l =>
    rw [hl] at h
    exact ⟨h.1, QAt.mono h.2.1 hb, h.2.2⟩
  ·rename_i hk
   rw [if_neg hk] at h
   exact h
 | _ => exact h
theorem DcAt.mono {b : Nat} {n : Cn} (h : DcAt w base a n p P fy c M) (hb : b ≤ base) : DcAt w b a n p P fy c M :=
 ⟨⟨fun x => dshape_mono hb x (h.fam.at_ x), fun x k hm => by
   rw [dshape_foot (base := base)] at hm
   have := h.fam.own x k hm
   exact ⟨Nat.le_trans hb this.1, this.2⟩, fun x y k hx hy => by
   rw [dshape_foot (base := base)] at hx hy
   exact h.fam.sep x y k hx hy⟩, h.rel⟩
theorem DcAt.far {n : Cn} {q : Addr} (h : DcAt w base a n p P fy c M) (hq : q.block < base) (v : Value) : DcAt (w.setCell q v) base a n p P fy c M :=
 ⟨h.fam.far (fun ⟨x, hx⟩ => by have := (h.fam.own x _ hx).1; omega) v, h.rel⟩
end
end
section
open Go Go.RowKit
/-- Both at one time; the blocks that are kept beside them. -/
def TwG (w0 w : World) (base ga gb : Nat) (p : Pl) (P : Sv3) (fy : Nat) (x y : Cl) (M : Nat) (w1 : World) (bs : List Nat) : Prop := ∃ (a : Ad) (b : Ad2), a.g = ga ∧ b.g = gb ∧ ClAt w base a (fullN p) p P fy x ∧ DcAt w base b (fullN p) p P fy y M ∧ (∀ k, Fmy (shape a (fullN p) p P fy x) k → ¬ Gmy (dshape base b (fullN p) p P fy y) k) ∧ Below base w0 w ∧ base ≤ w.heap.size ∧
 ∀ q ∈ bs, q < w.heap.size ∧ ¬ Fmy (shape a (fullN p) p P fy x) q ∧ ¬ Gmy (dshape base b (fullN p) p P fy y) q ∧ w.heap[q]? = w1.heap[q]?
section
variable {w0 w w' w1 : World} {base ga gb : Nat} {p : Pl} {P : Sv3} {fy M M' N : Nat} {x y x1 y1 : Cl} {bs : List Nat}
theorem TwG.bel (h : TwG w0 w base ga gb p P fy x y M w1 bs) : Below base w0 w := by obtain ⟨a, b, -, -, -, -, -, h1, -⟩ := h; exact h1
theorem TwG.below (h : TwG w0 w base ga gb p P fy x y M w1 bs) (hB : Below w.heap.size w w') : TwG w0 w' base ga gb p P fy x y M w1 bs := by
 obtain ⟨a, b, e1, e2, h1, h2, h3, h4, h5, h6⟩ := h
 exact ⟨a, b, e1, e2, h1.below hB, h2.below hB, h3, h4.trans (hB.mono h5), Nat.le_trans h5 hB.size, fun q hq => ⟨Nat.lt_of_lt_of_le (h6 q hq).1 hB.size, (h6 q hq).2.1, (h6 q hq).2.2.1, (hB.block q (h6 q hq).1).trans (h6 q hq).2.2.2⟩⟩
theorem TwG.less (h : TwG w0 w base ga gb p P fy x y M w1 bs) {bs' : List Nat} (hs : ∀ q ∈ bs', q ∈ bs) : TwG w0 w base ga gb p P fy x y M w1 bs' := by
 obtain ⟨a, b, e1, e2, h1, h2, h3, h4, h5, h6⟩ := h
 exact ⟨a, b, e1, e2, h1, h2, h3, h4, h5, fun q hq => h6 q (hs q hq)⟩
theorem TwG.now (h : TwG w0 w base ga gb p P fy x y M w1 bs) : TwG w0 w base ga gb p P fy x y M w bs := by
 obtain ⟨a, b, e1, e2, h1, h2, h3, h4, h5, h6⟩ := h
 exact ⟨a, b, e1, e2, h1, h2, h3, h4, h5, fun q hq => ⟨(h6 q hq).1, (h6 q hq).2.1, (h6 q hq).2.2.1, rfl⟩⟩
theorem TwG.more (h : TwG w0 w base ga gb p P fy x y M w1 bs) (hB : Below w.heap.size w w') {q : Nat} (hq : w.heap.size ≤ q) (hq2 : q < w'.heap.size) : TwG w0 w' base ga gb p P fy x y M w' (q :: bs) := by
 have h' := (h.below hB).now
 obtain ⟨a, b, e1, e2, h1, h2, h3, h4, h5, h6⟩ := h
 exact ⟨a, b, e1, e2, h1.below hB, h2.below hB, h3, h4.trans (hB.mono h5), Nat.le_trans h5 hB.size, fun r hr => by
  rcases List.mem_cons.1 hr with rfl | hr
  ·exact ⟨hq2, h1.not_new hq, h2.fam.not_new hq, rfl⟩
  ·exact ⟨Nat.lt_of_lt_of_le (h6 r hr).1 hB.size, (h6 r hr).2.1, (h6 r hr).2.2.1, rfl⟩⟩
theorem TwG.heap (h : TwG w0 w base ga gb p P fy x y M w1 bs) {q : Nat} (hq : q ∈ bs) : w.heap[q]? = w1.heap[q]? := by
 obtain ⟨a, b, -, -, -, -, -, -, -, h6⟩ := h
 exact (h6 q hq).2.2.2
theorem TwG.lt_ (h : TwG w0 w base ga gb p P fy x y M w1 bs) {q : Nat} (hq : q ∈ bs) : q < w.heap.size := by
 obtain ⟨a, b, -, -, -, -, -, -, -, h6⟩ := h
 exact (h6 q hq).1
theorem TwG.blk (h : TwG w0 w base ga gb p P fy x y M w1 bs) {q : Nat} (hq : q ∈ bs) {t : TypeId} {cs : Array Value} (hb : Blk w1 q t cs) : Blk w q t cs := (h.heap hq).trans hb
/-- A step of the cluster. -/
theorem TwG.ofL {a : Ad} {b : Ad2} (e1 : a.g = ga) (e2 : b.g = gb) (h1 : ClAt w base a (fullN p) p P fy x) (h2 : DcAt w base b (fullN p) p P fy y M) (h3 : ∀ k, Fmy (shape a (fullN p) p P fy x) k → ¬ Gmy (dshape base b (fullN p) p P fy y) k) (h4 : Below base w0 w) (h5 : base ≤ w.heap.size) (h6 : ∀ q ∈ bs, q < w.heap.size ∧ ¬ Fmy (shape a (fullN p) p P fy x) q ∧ ¬ Gmy (dshape base b (fullN p) p P fy y) q ∧ w.heap[q]? = w1.heap[q]?) (ht : ClTo w base a (fullN p) p P fy x w' x1) : TwG w0 w' base ga gb p P fy x1 y M w1 bs := by
 obtain ⟨a', e, hA, hK⟩ := ht
 refine ⟨a', b, e.trans e1, e2, hA, ⟨h2.fam.keepF hK.size (fun i hi hg => hK.block i hi (fun hf => h3 i hf hg)), h2.rel⟩, fun k hf hg => ?_, hK.old h1 h4 h5, Nat.le_trans h5 hK.size, fun q hq => ?_⟩
 ·rcases hK.fam k hf with h | h
  ·exact h3 k h hg
  ·exact h2.fam.not_new h hg
 ·obtain ⟨q1, q2, q3, q4⟩ := h6 q hq
  exact ⟨Nat.lt_of_lt_of_le q1 hK.size, hK.not q1 q2, q3, (hK.block q q1 q2).trans q4⟩
open Classical in
/-- All blocks that are none of the document's. -/
theorem all_blocks (w : World) (G : Nat → Prop) : ∃ l : List Nat, ∀ q, q ∈ l ↔ q < w.heap.size ∧ ¬ G q :=
 ⟨(List.range w.heap.size).filter (fun q => decide (¬ G q)), fun q => by simp⟩
/-- A step of the document's cluster: told by what it leaves of all other blocks. -/
theorem TwG.ofR (h : TwG w0 w base ga gb p P fy x y M w1 bs) : ∃ l : List Nat, DsG w0 w base gb p P fy y M w l ∧ (∀ q ∈ bs, q ∈ l) ∧ (∀ q, q < base → q ∈ l) ∧ ∀ w' y1 M', DsG w0 w' base gb p P fy y1 M' w l → TwG w0 w' base ga gb p P fy x y1 M' w1 bs := by
 obtain ⟨a, b, e1, e2, h1, h2, h3, h4, h5, h6⟩ := h
 obtain ⟨l, hl⟩ := all_blocks w (Gmy (dshape base b (fullN p) p P fy y))
 refine ⟨l, ⟨b, e2, h2, h4, h5, fun q hq => ⟨((hl q).1 hq).1, ((hl q).1 hq).2, rfl⟩⟩, fun q hq => (hl q).2 ⟨(h6 q hq).1, (h6 q hq).2.2.1⟩, fun q hq => (hl q).2 ⟨Nat.lt_of_lt_of_le hq h5, fun ⟨z, hz⟩ => by have := (h2.fam.own z q hz).1; omega⟩, ?_⟩
 rintro w' y1 M' ⟨b', e3, g2, g4, g5, g6⟩
 have hf : ∀ k, Fmy (shape a (fullN p) p P fy x) k → k ∈ l := fun k hk => by
  obtain ⟨z, hz⟩ := hk
  exact (hl k).2 ⟨(h1.own z k hz).2, h3 k ⟨z, hz⟩⟩
 refine ⟨a, b', e1, e3, ⟨fun z => (h1.at_ z).keep (fun k hk hm => (g6 k (hf k ⟨z, hm⟩)).2.2), fun z k hm => ⟨(h1.own z k hm).1, (g6 k (hf k ⟨z, hm⟩)).1⟩, h1.sep⟩, g2, fun k hk => (g6 k (hf k hk)).2.1, g4, g5, fun q hq => ?_⟩
 obtain ⟨q1, q2, q3, q4⟩ := h6 q hq
 obtain ⟨r1, r2, r3⟩ := g6 q ((hl q).2 ⟨q1, q3⟩)
 exact ⟨r1, q2, r2, r3.trans q4⟩
end
end
section
open Go Go.RowKit
section
variable {P : Program}
theorem wp_append_ints (w : World) {o : Oper} {a : Act} {K : Act → World → Prop} {Q : Exit → Act → World → Prop} (s x : Operand) (t : TypeId)
 (ho : o.op = .call { callee := .builtin .append, args := #[s, x], argTypes := #[t, t] })
 (base : Nat) (e : TypeId) (i : TypeInfo) (z : Value) (bytes : Nat) (ht : P.underlying t = some (.slice e)) (hi : P.info? e = some i) (hz : i.zero = some z) (hsize : i.size = 1) (hby : i.bytes = bytes) (hzs : z.cells.size = 1)
 (v : Value) (n : Nat) (xs : List Value) (hs : a.eval s = v) (hown : w.ownsRow base e 1 v n xs) (A : Option Addr) (cap ln : Nat) (zs : List Int) (hln : zs.length = ln) (hx : a.eval x = .slice A ln cap) (hle : ln ≤ cap) (hI : IsL w A zs)
 (h63 : n + ln ≤ maxLen) (hbytes : (n + ln) * bytes ≤ 140737488355328) (hbase : base ≤ w.heap.size)
 (h : ∀ v' w', w'.ownsRow base e 1 v' (n + ln) (xs ++ zs.map (Value.int .i64)) → w.grownBy w' v.ownBlock → (v'.ownBlock = v.ownBlock ∨ ∀ k, v'.ownBlock = some k → w.heap.size ≤ k) → K (a.put o.dst v') w') : o.wp P a w K Q := by
 subst hln
 rcases Nat.eq_zero_or_pos zs.length with h0 | h0
 ·have hnil : zs = [] := List.eq_nil_of_length_eq_zero h0
  subst hnil
  have hS : Src P i.size t (.slice A 0 cap) 0 [] w := by
   cases A with
   | none =>
    rcases Nat.eq_zero_or_pos cap with h1 | h1
    ·subst h1; exact Src.ofNil w ht 0
    ·exact Src.ofNil w ht cap
   | some ad => exact Src.ofSlice w ht ad 0 cap [] (by simp) (fun j u hu => by simp at hu) (fun u hu => by cases hu)
  have hv : ∃ b sl sc, v = .slice b sl sc ∧ sl ≤ sc := by
   rcases hown.2 with ⟨rfl, _⟩ | ⟨g, cap, cur, rfl, _, _, hn, _⟩
   ·exact ⟨none, 0, 0, rfl, Nat.le_refl _⟩
   ·exact ⟨_, _, _, rfl, hn⟩
  obtain ⟨b, sl, sc, rfl, hle2⟩ := hv
  have hr := run_append_nothing w t t o.type e i ht hi b sl sc hle2 (.slice A 0 cap) hS
  unfold Oper.wp execOp
  simp only [List.length_nil] at hx
  simp only [ho, resolve, invoke, builtin, Sem.run_bind, Sem.run_pure, Result.andThen_ok, List.map_toArray, List.map_cons, List.map_nil, hs, hx, hr]
  exact h _ _ (by simpa using hown) (World.grownBy.refl w _) (.inl rfl)
 ·obtain ⟨bz, oz, rfl, -⟩ := hI 0 h0
  have h1 := isl_news hI (Nat.le_refl _) (Below.refl w.heap.size w)
  have := wp_append_own2 (P := P) (Q := Q) (K := K) w s x t ho base e i z 1 bytes ht hi hz hsize hby hzs (by decide) v n xs hs hown ⟨bz, oz, none⟩ zs.length cap (zs.map (Value.int .i64)) hx (by simp) h1 (by intro u hu; obtain ⟨q, _, rfl⟩ := List.mem_map.1 hu; rfl) h63 hbytes hbase h
  exact this
theorem step_append_ints (w : World) {ops : Array Oper} {o : Oper} {a : Act} {K : Act → World → Prop} {Q : Exit → Act → World → Prop} {E : Prop} (hgd : o.guard = none) (s x : Operand) (t : TypeId)
 (ho : o.op = .call { callee := .builtin .append, args := #[s, x], argTypes := #[t, t] })
 (base : Nat) (e : TypeId) (i : TypeInfo) (z : Value) (bytes : Nat) (ht : P.underlying t = some (.slice e)) (hi : P.info? e = some i) (hz : i.zero = some z) (hsize : i.size = 1) (hby : i.bytes = bytes) (hzs : z.cells.size = 1)
 (v : Value) (n : Nat) (xs : List Value) (hs : a.eval s = v) (hown : w.ownsRow base e 1 v n xs) (A : Option Addr) (cap ln : Nat) (zs : List Int) (hln : zs.length = ln) (hx : a.eval x = .slice A ln cap) (hle : ln ≤ cap) (hI : IsL w A zs)
 (h63 : n + ln ≤ maxLen) (hbytes : (n + ln) * bytes ≤ 140737488355328) (hbase : base ≤ w.heap.size)
 (h : ∀ v' w', w'.ownsRow base e 1 v' (n + ln) (xs ++ zs.map (Value.int .i64)) → w.grownBy w' v.ownBlock → (v'.ownBlock = v.ownBlock ∨ ∀ k, v'.ownBlock = some k → w.heap.size ≤ k) → K (a.put o.dst v') w') :
 if Region.wanted o (yielded ops a.tmps) = true then Oper.wp P o a w K Q else E := by
 have hw : Region.wanted o (yielded ops a.tmps) = true := by simp [Region.wanted, hgd]
 rw [if_pos hw]
 exact wp_append_ints w s x t ho base e i z bytes ht hi hz hsize hby hzs v n xs hs hown A cap ln zs hln hx hle hI h63 hbytes hbase h
end
/-- All is right with the faulty. -/
def FyOk (p : Pl) (f0 : Int) : Prop := ∃ fy : Nat, f0 = (fy : Int) ∧ fy < 2 ^ p.nd.toNat ∧ (liars fy p.nd.toNat : Int) ≤ p.fa
/-- All is right with the clocks. -/
def CkOk (p : Pl) (f0 : Int) (zs : List Int) : Prop := wildB zs = false ∧ apartLe f0.toNat zs p.nd.toNat p.sk
/-- What is wrong with what a cluster is made of. -/
def NewIs (p : Pl) (f0 : Int) (zs : List Int) (e : Int) : Prop :=
 (¬ FyOk p f0 ∧ e = 1) ∨ (FyOk p f0 ∧ zs.length ≠ p.nd.toNat ∧ e = 7) ∨ (FyOk p f0 ∧ zs.length = p.nd.toNat ∧ ¬ CkOk p f0 zs ∧ e = 2) ∨ (FyOk p f0 ∧ zs.length = p.nd.toNat ∧ CkOk p f0 zs ∧ e = 0)
theorem newIs_any (p : Pl) (f0 : Int) (zs : List Int) : ∃ e, NewIs p f0 zs e := by
 by_cases h1 : FyOk p f0
 ·by_cases h2 : zs.length = p.nd.toNat
  ·by_cases h3 : CkOk p f0 zs
   ·exact ⟨0, .inr (.inr (.inr ⟨h1, h2, h3, rfl⟩))⟩
   ·exact ⟨2, .inr (.inr (.inl ⟨h1, h2, h3, rfl⟩))⟩
  ·exact ⟨7, .inr (.inl ⟨h1, h2, rfl⟩)⟩
 ·exact ⟨1, .inl ⟨h1, rfl⟩⟩
theorem NewIs.good {p : Pl} {f0 : Int} {zs : List Int} (h : NewIs p f0 zs 0) : FyOk p f0 ∧ zs.length = p.nd.toNat ∧ CkOk p f0 zs := by
 rcases h with ⟨_, h⟩ | ⟨_, _, h⟩ | ⟨_, _, _, h⟩ | ⟨h1, h2, h3, _⟩
 ·cases h
 ·cases h
 ·cases h
 ·exact ⟨h1, h2, h3⟩
theorem honL_put {fy : Nat} {zs : List Int} {i : Nat} (h : liesB fy i = false) : ∀ {n : Nat}, i < n → zs.getD i 0 ∈ honL fy zs n
 | 0, hi => absurd hi (by omega)
 | n + 1, hi => by
  rcases Nat.lt_or_ge i n with h1 | h1
  ·have ih := honL_put (zs := zs) h h1
   cases hb : liesB fy n
   ·rw [honL_no hb]; exact List.mem_append_left _ ih
   ·rw [honL_yes hb]; exact ih
  ·obtain rfl : i = n := by omega
   rw [honL_no h]
   exact List.mem_append_right _ (by simp)
/-- Clocks further apart than the plan says. -/
theorem apart_no {fy : Nat} {zs : List Int} {n : Nat} {d a b : Int} (h : ¬ apartLe fy zs n d) (ha : IsTop (honL fy zs n) a) (hb : IsLow (honL fy zs n) b) : d < a - b := by
 unfold apartLe at h
 simp only [Classical.not_forall] at h
 obtain ⟨i, j, hi, hj, h1, h2, h3⟩ := h
 have m1 : zs.getD i 0 ∈ honL fy zs n := honL_put h1 hi
 have m2 : zs.getD j 0 ∈ honL fy zs n := honL_put h2 hj
 obtain ⟨x, hx, e1⟩ := List.mem_iff_getElem.1 m1
 obtain ⟨y, hy, e2⟩ := List.mem_iff_getElem.1 m2
 have g1 := ha.2 x hx
 have g2 := hb.2 y hy
 rw [List.getD_eq_getElem?_getD, List.getElem?_eq_getElem hx, Option.getD_some, e1] at g1
 rw [List.getD_eq_getElem?_getD, List.getElem?_eq_getElem hy, Option.getD_some, e2] at g2
 omega
end
section
open Go.RowKit
/-- metronomelaw.is at an error at a place. -/
theorem is_atV (v : Value) (e pl : Int) (w : World) (hg : ErrT w) (hv : AtV w v e pl) (h0 : e ≠ 0) : Calls Tryz.prog 18 #[v, .agg #[.int .i64 e, .int .i64 pl]] w fun r w' => r = .returned (.bool true) ∧ Below w.heap.size w w' := by
 rcases hv with ⟨rfl, rfl⟩ | ⟨g, rfl, hb⟩
 ·have h := is_errV e e (-1) w hg
  unfold errV at h
  rw [if_neg h0] at h
  exact h.mono fun r w' ⟨a, b⟩ => ⟨by rw [a]; simp, b⟩
 ·exact (is_at e pl g e pl w hg hb).mono fun r w' ⟨a, b⟩ => ⟨by rw [a]; simp, b⟩
theorem is_fine (w : World) (hg : ErrT w) : Calls Tryz.prog 18 #[.nilIface, .agg #[.int .i64 0, .int .i64 (-1)]] w fun r w' => r = .returned (.bool true) ∧ Below w.heap.size w w' := by
 have h := is_errV 0 0 (-1) w hg
 unfold errV at h
 rw [if_pos rfl] at h
 exact h.mono fun r w' ⟨a, b⟩ => ⟨by rw [a]; simp, b⟩
end
section
open Go Go.RowKit
/-- An error, or none, at a place. -/
def ErV (w : World) (v : Value) (e pl : Int) : Prop := (e = 0 ∧ pl = -1 ∧ v = .nilIface) ∨ (e ≠ 0 ∧ AtV w v e pl)
theorem ErV.below {w w' : World} {v : Value} {e pl : Int} (h : ErV w v e pl) (hB : Below w.heap.size w w') : ErV w' v e pl := by
 rcases h with h | ⟨h0, h⟩
 ·exact .inl h
 ·exact .inr ⟨h0, h.below hB⟩
theorem is_erV (v : Value) (e pl : Int) (w : World) (hg : ErrT w) (hv : ErV w v e pl) : Calls Tryz.prog 18 #[v, .agg #[.int .i64 e, .int .i64 pl]] w fun r w' => r = .returned (.bool true) ∧ Below w.heap.size w w' := by
 rcases hv with ⟨rfl, rfl, rfl⟩ | ⟨h0, h⟩
 ·exact is_fine w hg
 ·exact is_atV v e pl w hg h h0
theorem chk_nil {p : Pl} (h : (chk p).1 = 0) : (chk p).2 = -1 := by
 unfold chk at h ⊢
 by_cases h1 : headE p ≠ 0
 ·rw [if_pos h1] at h; exact absurd h h1
 ·rw [if_neg h1] at h ⊢
  by_cases h2 : (firstE (slEs p.sk p.rd p.nd 0 p.sl) 0).1 ≠ 0
  ·rw [if_pos h2] at h; exact absurd h h2
  ·rw [if_neg h2] at h ⊢
   by_cases h3 : (firstE (p.lk.map (lkE p.nd)) 0).1 ≠ 0
   ·rw [if_pos h3] at h; exact absurd h h3
   ·rw [if_neg h3] at h ⊢
    by_cases h4 : (firstE (wnEs p.fr 0 p.wn) 0).1 ≠ 0
    ·rw [if_pos h4] at h; exact absurd h h4
    ·rw [if_neg h4]
end
end Go.Proofs.YtdogdlnaacimpaaGreatDoor
