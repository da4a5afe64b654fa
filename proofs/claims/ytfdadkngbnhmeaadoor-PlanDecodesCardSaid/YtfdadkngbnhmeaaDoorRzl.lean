/- What the loops of metronomeref.Decode keep in memory. -/
import Derived.Test.YtfdadkngbnhmeaaDoorRz
namespace Go.Proofs.YtfdadkngbnhmeaaDoor
open Go.RowKit

/-- What lies above the closures and was there is as it was. -/
structure Kp (wL wr : World) (gn : Nat) : Prop where
  sz : wL.heap.size ≤ wr.heap.size
  kp : ∀ k, gn + 1 + 1 < k → k < wL.heap.size → wr.heap[k]? = wL.heap[k]?
section
variable {w wL wr w2 : World} {gn : Nat}
theorem Kp.refl (wL : World) (gn : Nat) : Kp wL wL gn := ⟨Nat.le_refl _, fun _ _ _ => rfl⟩
theorem Kp.only2 (h : Kp wL wr gn) (k : Only2 wr w2 gn (gn + 1)) : Kp wL w2 gn := ⟨by rw [k.size]; exact h.sz, fun i h1 h2 => (k.block i (by omega) (by omega)).trans (h.kp i h1 h2)⟩
theorem Kp.below (h : Kp wL wr gn) (k : Below wr.heap.size wr w2) : Kp wL w2 gn := ⟨Nat.le_trans h.sz k.size, fun i h1 h2 => (k.block i (by have := h.sz; omega)).trans (h.kp i h1 h2)⟩
theorem Kp.set_ (h : Kp wL wr gn) {p : Addr} (hp : p.block ≤ gn + 1 + 1 ∨ wL.heap.size ≤ p.block) (u : Value) : Kp wL (wr.setCell p u) gn := ⟨by simpa [World.setCell] using h.sz, fun i h1 h2 => (Below.heap_setCell wr p u i (by omega)).trans (h.kp i h1 h2)⟩
theorem Kp.grown (h : Kp wL wr gn) {row : Option Nat} (k : wr.grownBy w2 row) (hr : ∀ i, row = some i → wL.heap.size ≤ i) : Kp wL w2 gn := ⟨Nat.le_trans h.sz k.size, fun i h1 h2 => (k.block i (by have := h.sz; omega) (fun e => by have := hr i e.symm; omega)).trans (h.kp i h1 h2)⟩
theorem Kp.row (h : Kp wL wr gn) {base size n : Nat} {e : TypeId} {v : Value} {xs : List Value} (ho : wL.ownsRow base e size v n xs) (hb : gn + 1 + 1 < base) : wr.ownsRow base e size v n xs := own_keep ho fun g hg hlt => h.kp g (by omega) hlt
end
theorem RdAt.grown {w wr w2 : World} {gn b : Nat} {s : Rst} {v : Value} {P : Array Value} {row : Option Nat} (h : RdAt w wr gn s v P) (k : wr.grownBy w2 row) (hr : ∀ i, row = some i → b ≤ i) (hb : gn + 1 + 1 < b) : RdAt w w2 gn s v P := by
  have hg := h.hg
  have kk : ∀ i, i < b → i < wr.heap.size → w2.heap[i]? = wr.heap[i]? := fun i h1 h2 => k.block i h2 (fun e => by have := hr i e.symm; omega)
  have e0 := h.z.lt; have e1 := h.e.lt; have e2 := h.p.lt; have e3 := h.f.lt; have e4 := h.nt.bn.lt; have e5 := h.nt.bb.lt
  exact ⟨(kk _ (by omega) e0).trans h.z, (kk _ (by omega) e1).trans h.e, (kk _ (by omega) e2).trans h.p,
    h.nt.keep k.size (fun i hi => by
      rcases hi with rfl | rfl | e
      · exact kk _ (by omega) e4
      · exact kk _ (by omega) e5
      · have := h.vo i e; exact kk _ (by omega) (h.nt.o i e).1), (kk _ (by omega) e3).trans h.f, h.hg, h.vo,
    ⟨k.os.trans h.old.os, k.tape.trans h.old.tape, k.output.trans h.old.output, Nat.le_trans h.old.size k.size, fun i hi => (kk i (by omega) (by have := h.old.size; omega)).trans (h.old.block i hi)⟩⟩
theorem RdAt.far {w wr : World} {gn hs : Nat} {s : Rst} {v : Value} {P : Array Value} (h : RdAt w wr gn s v P) (hb : gn + 1 + 1 < hs) (i : Nat) (u : Value) : RdAt w (wr.setCell ⟨hs, i, none⟩ u) gn s v P := by
  have hg := h.hg
  exact ⟨h.z.far (by show w.heap.size ≠ hs; omega) u, h.e.far (by show w.heap.size + 1 ≠ hs; omega) u, h.p.far (by show w.heap.size + 1 + 1 ≠ hs; omega) u, h.nt.keep (by simp [World.setCell]) (fun k hk => Below.heap_setCell wr _ u k (by
    show k ≠ hs
    rcases hk with rfl | rfl | e
    · omega
    · omega
    · have := (h.vo k e).2; omega)), h.f.far (by show gn + 1 + 1 ≠ hs; omega) u, h.hg, h.vo, h.old.setCell (by show w.heap.size ≤ hs; omega) u⟩
theorem rz_many {w wr : World} {gn k : Nat} {s s2 : Rst} {v : Value} {P : Array Value} (most : Nat) (h : RdAt w wr gn s v P) (hl : s.l.length ≤ 3000) (e1 : Hid (mnK most s = k)) (e2 : Hid (mnS most s = s2)) :
    Calls Tryd.prog 23 #[.int .i64 (most : Nat), .pointer (some ⟨gn + 1 + 1, 0, none⟩), .pointer (some ⟨gn + 1, 0, none⟩)] wr fun r w' => r = .returned (.int .i64 (k : Nat)) ∧ ∃ v', RdAt w w' gn s2 v' P ∧ Only2 wr w' gn (gn + 1) :=
  (many_any most w.heap.size gn (gn + 1) (gn + 1 + 1) s v wr h.nt hl h.f).mono fun r w' ⟨h1, h2⟩ => ⟨by rw [h1, e1.out], h.next (by rw [e2.out] at h2; exact h2)⟩
theorem mnS_le {most m : Nat} {s s2 : Rst} (h : s.l.length ≤ m) (e : Hid (mnS most s = s2)) : s2.l.length ≤ m := by
  have := numN_len s
  rw [← e.out]; exact Nat.le_trans this h
theorem mnK_le {most k : Nat} {s : Rst} (e : Hid (mnK most s = k)) : k ≤ most := by
  rw [← e.out]; unfold mnK; split <;> omega
/-- What a loop keeps: rows of numbers in a row of its own. -/
structure LvAt (w wL wr : World) (gn : Nat) (P : Array Value) (t : TypeId) (j : Nat) (V : Value) (xs : List (List Nat)) (s : Rst) : Prop where
  at_ : ∃ v, RdAt w wr gn s v P
  own : wr.ownsRow wL.heap.size t j V xs.length (rc xs)
  k : Kp wL wr gn
  gl : gn + 1 + 1 < wL.heap.size
  few : s.l.length ≤ 3000
section
variable {w wL wr w2 : World} {gn j fi : Nat} {P : Array Value} {t : TypeId} {V V2 : Value} {xs : List (List Nat)} {s s2 : Rst}
theorem LvAt.below (h : LvAt w wL wr gn P t j V xs s) (hB : Below wr.heap.size wr w2) : LvAt w wL w2 gn P t j V xs s := by
  obtain ⟨⟨v, h1⟩, h2, h3, h4, h5⟩ := h
  exact ⟨⟨v, h1.below hB⟩, own_keep h2 fun g _ hlt => hB.block g hlt, h3.below hB, h4, h5⟩
theorem LvAt.alloc (h : LvAt w wL wr gn P t j V xs s) (o : Obj) : LvAt w wL (wr.alloc o) gn P t j V xs s := h.below ((Below.refl _ _).alloc (Nat.le_refl _) o)
theorem LvAt.drewN (h : LvAt w wL wr gn P t j V xs s) (n : Nat) : LvAt w wL (wr.drewN n) gn P t j V xs s := h.below (below_drewN (Below.refl _ _) n)
theorem LvAt.drew (h : LvAt w wL wr gn P t j V xs s) : LvAt w wL wr.drew gn P t j V xs s := h.drewN 1
theorem LvAt.next {a : Nat} (h : LvAt w wL wr gn P t j V xs s) (e : Hid (numN s = (a, s2))) :
    Calls Tryd.prog 22 #[.pointer (some ⟨gn, 0, none⟩), .pointer (some ⟨gn + 1, 0, none⟩)] wr fun r w' => r = .returned (.int .i64 (a : Nat)) ∧ LvAt w wL w' gn P t j V xs s2 ∧ Only2 wr w' gn (gn + 1) := by
  obtain ⟨⟨v, h1⟩, h2, h3, h4, h5⟩ := h
  exact (rz_next h1 h5 e).mono fun r w' ⟨hr, v', k1, k2⟩ => ⟨hr, ⟨⟨v', k1⟩, own_keep h2 fun g hg _ => k2.block g (by omega) (by omega), h3.only2 k2, h4, numN_le h5 e⟩, k2⟩
theorem LvAt.f (h : LvAt w wL wr gn P t j V xs s) : wr.cell? ⟨gn + 1 + 1, 0, none⟩ = some (ndF gn (gn + 1)) := by
  obtain ⟨⟨v, h1⟩, -⟩ := h
  exact h1.f.cells1.1
theorem LvAt.pb (h : LvAt w wL wr gn P t j V xs s) : Blk wr (w.heap.size + 1 + 1) 27 P := by
  obtain ⟨⟨v, h1⟩, -⟩ := h
  exact h1.p
theorem LvAt.bb (h : LvAt w wL wr gn P t j V xs s) : Blk wr (gn + 1) 4 #[.bool s.bad] := by
  obtain ⟨⟨v, h1⟩, -⟩ := h
  exact h1.nt.bb
theorem LvAt.pgrown (h : LvAt w wL wr gn P t j V xs s) (hg : wr.grownBy w2 V.ownBlock) : Blk w2 (w.heap.size + 1 + 1) 27 P := by
  obtain ⟨⟨v, h1⟩, h2, h3, h4, h5⟩ := h
  exact (h1.grown hg (own_base h2) h4).p
theorem LvAt.fgrown (h : LvAt w wL wr gn P t j V xs s) (hg : wr.grownBy w2 V.ownBlock) : w2.cell? ⟨gn + 1 + 1, 0, none⟩ = some (ndF gn (gn + 1)) := by
  obtain ⟨⟨v, h1⟩, h2, h3, h4, h5⟩ := h
  exact (h1.grown hg (own_base h2) h4).f.cells1.1
theorem LvAt.push {x : List Nat} (h : LvAt w wL wr gn P t j V xs s) (ho : w2.ownsRow wL.heap.size t j V2 (xs.length + 1) (rc xs ++ x.map fun (n : Nat) => Value.int .i64 (n : Int))) (hg : wr.grownBy w2 V.ownBlock) :
    LvAt w wL (w2.setCell ⟨w.heap.size + 1 + 1, fi, none⟩ V2) gn (P.setIfInBounds fi V2) t j V2 (xs ++ [x]) s := by
  obtain ⟨⟨v, h1⟩, h2, h3, h4, h5⟩ := h
  have hb := own_base h2
  have hgg := h1.hg
  refine ⟨⟨v, (h1.grown hg hb h4).setp fi V2⟩, ?_, (h3.grown hg hb).set_ (.inl (by show w.heap.size + 1 + 1 ≤ gn + 1 + 1; omega)) V2, h4, h5⟩
  rw [rc_snoc, List.length_append]
  exact own_set ho (by show w.heap.size + 1 + 1 < wL.heap.size; omega) V2
end
theorem lk_s {W : World} {g gn : Nat} {P : Array Value} (hf : W.cell? ⟨gn + 1 + 1, 0, none⟩ = some (ndF gn (gn + 1))) (hp : Blk W g 27 P) (hs : P.size = 10) : W.cell? ⟨gn + 1 + 1, 0, none⟩ = some (.func (.func 22) #[] #[.pointer (some ⟨gn, 0, none⟩), .pointer (some ⟨gn + 1, 0, none⟩)]) ∧ W.cell? ⟨g, 7, none⟩ = some (cv W g 7) ∧ W.frozen? ⟨g, 7, none⟩ = false :=
  ⟨hf, cv_eq (by rw [hp.cell 7, Array.getElem?_eq_getElem (by omega)]), hp.frozen 7⟩
theorem blk_cv {W : World} {g i : Nat} {t : TypeId} {P : Array Value} {V : Value} (hp : Blk W g t P) (h : P[i]? = some V) : cv W g i = V := by
  have h1 : W.cell? ⟨g, i, none⟩ = some V := by rw [hp.cell i]; exact h
  have h2 := cv_eq h1
  rw [h1] at h2; exact (Option.some.inj h2).symm
/-- .. with a struct under way. -/
structure SvAt (w wL wr : World) (gn : Nat) (P : Array Value) (t : TypeId) (j : Nat) (V : Value) (xs : List (List Nat)) (s : Rst) (hs : Nat) (cs : Array Value) : Prop where
  lv : LvAt w wL wr gn P t j V xs s
  b : Blk wr hs t cs
  hh : wL.heap.size ≤ hs
  no : ∀ k, V.ownBlock = some k → k ≠ hs
section
variable {w wL wr w2 : World} {gn j fi hs : Nat} {P cs : Array Value} {t : TypeId} {V V2 : Value} {xs : List (List Nat)} {s s2 : Rst}
theorem own_lt {w : World} {base size n : Nat} {e : TypeId} {v : Value} {xs : List Value} (h : w.ownsRow base e size v n xs) : ∀ k, v.ownBlock = some k → k < w.heap.size := by
  intro k e
  obtain ⟨_, ⟨rfl, _⟩ | ⟨g, cap, cur, rfl, hg, hh, _⟩⟩ := h
  · simp [Value.ownBlock] at e
  · simp [Value.ownBlock] at e; subst e; exact (Array.getElem?_eq_some_iff.1 hh).1
theorem own_keep_set {w : World} {base size n hs i : Nat} {e : TypeId} {v : Value} {xs : List Value} (h : w.ownsRow base e size v n xs) (no : ∀ k, v.ownBlock = some k → k ≠ hs) (u : Value) : (w.setCell ⟨hs, i, none⟩ u).ownsRow base e size v n xs := by
  obtain ⟨hl, h | ⟨g, cap, cur, hv, hg, hh, r⟩⟩ := h
  · exact ⟨hl, .inl h⟩
  · exact ⟨hl, .inr ⟨g, cap, cur, hv, hg, (Below.heap_setCell w ⟨hs, i, none⟩ u g (fun e => by subst hv; exact no g rfl e)).trans hh, r⟩⟩
theorem SvAt.start (h : LvAt w wL wr gn P t j V xs s) (cs : Array Value) : SvAt w wL (wr.alloc (.cells cs t)) gn P t j V xs s wr.heap.size cs :=
  ⟨h.alloc _, Blk.new wr t cs, h.k.sz, fun k e => by have := own_lt h.own k e; omega⟩
theorem SvAt.drew (h : SvAt w wL wr gn P t j V xs s hs cs) : SvAt w wL wr.drew gn P t j V xs s hs cs := ⟨h.lv.drew, h.b, h.hh, h.no⟩
theorem SvAt.next {a : Nat} (h : SvAt w wL wr gn P t j V xs s hs cs) (e : Hid (numN s = (a, s2))) :
    Calls Tryd.prog 22 #[.pointer (some ⟨gn, 0, none⟩), .pointer (some ⟨gn + 1, 0, none⟩)] wr fun r w' => r = .returned (.int .i64 (a : Nat)) ∧ SvAt w wL w' gn P t j V xs s2 hs cs := by
  have h4 := h.lv.gl; have h5 := h.hh
  exact (h.lv.next e).mono fun r w' ⟨hr, k1, k2⟩ => ⟨hr, k1, h.b.only2 k2 (by omega) (by omega), h.hh, h.no⟩
theorem SvAt.set_ (h : SvAt w wL wr gn P t j V xs s hs cs) (i : Nat) (u : Value) : SvAt w wL (wr.setCell ⟨hs, i, none⟩ u) gn P t j V xs s hs (cs.setIfInBounds i u) := by
  obtain ⟨⟨⟨v, h1⟩, h2, h3, h4, h5⟩, hb, hh, no⟩ := h
  exact ⟨⟨⟨v, h1.far (by omega) i u⟩, own_keep_set h2 no u, h3.set_ (.inr hh) u, h4, h5⟩, hb.set_ i u, hh, no⟩
theorem sv_s (h : SvAt w wL wr gn P t j V xs s hs cs) (hc : cs.size = 3) : wr.cell? ⟨gn + 1 + 1, 0, none⟩ = some (.func (.func 22) #[] #[.pointer (some ⟨gn, 0, none⟩), .pointer (some ⟨gn + 1, 0, none⟩)]) ∧ (wr.cell? ⟨hs, 0, none⟩ = some (cv wr hs 0) ∧ wr.frozen? ⟨hs, 0, none⟩ = false) ∧ (wr.cell? ⟨hs, 1, none⟩ = some (cv wr hs 1) ∧ wr.frozen? ⟨hs, 1, none⟩ = false) ∧ (wr.cell? ⟨hs, 2, none⟩ = some (cv wr hs 2) ∧ wr.frozen? ⟨hs, 2, none⟩ = false) := by
  have k : ∀ i, i < 3 → wr.cell? ⟨hs, i, none⟩ = some (cv wr hs i) ∧ wr.frozen? ⟨hs, i, none⟩ = false := fun i hi => ⟨cv_eq (by rw [h.b.cell i, Array.getElem?_eq_getElem (by omega)]), h.b.frozen i⟩
  exact ⟨h.lv.f, k 0 (by omega), k 1 (by omega), k 2 (by omega)⟩
end
theorem lg_true {m : Nat} {bd : Bool} (h : true = (decide (0 < m) && !bd)) : (∃ m2, m = m2 + 1) ∧ bd = false := by
  have h2 := Eq.symm h
  rw [Bool.and_eq_true] at h2
  have h3 := of_decide_eq_true h2.1
  exact ⟨⟨m - 1, by omega⟩, by cases bd <;> simp_all⟩
theorem lg_false {m : Nat} {bd : Bool} (h : false = (decide (0 < m) && !bd)) : m = 0 ∨ bd = true := by
  rcases Nat.eq_zero_or_pos m with h1 | h1
  · exact .inl h1
  · rw [decide_eq_true h1] at h; cases bd <;> simp_all
/-- What a loop has read. -/
structure RlEq (j N : Nat) (s2 : Rst) (m : Nat) (xs : List (List Nat)) (s' : Rst) : Prop where
  eq : rows_ numN j N s2 = (xs ++ (rows_ numN j m s').1, (rows_ numN j m s').2)
  len : xs.length + m = N
  wid : ∀ x ∈ xs, x.length = j
theorem RlEq.start (j N : Nat) (s2 : Rst) : RlEq j N s2 N [] s2 := ⟨by simp, by simp, by simp⟩
theorem RlEq.step {j N m : Nat} {s2 s' : Rst} {xs : List (List Nat)} (h : RlEq j N s2 (m + 1) xs s') (hb : s'.bad = false) : RlEq j N s2 m (xs ++ [(some_ numN j s').1]) (some_ numN j s').2 :=
  ⟨by rw [h.eq, rows_, if_neg (by rw [hb]; decide)]; simp, by have := h.len; rw [List.length_append]; simp; omega, fun x hx => by
    rcases List.mem_append.1 hx with h1 | h1
    · exact h.wid x h1
    · simp at h1; subst h1; exact some_len _ _ _⟩
theorem RlEq.done {j N m : Nat} {s2 s' : Rst} {xs : List (List Nat)} (h : RlEq j N s2 m xs s') (hb : m = 0 ∨ s'.bad = true) : rows_ numN j N s2 = (xs, s') := by
  rw [h.eq]
  have e : rows_ numN j m s' = ([], s') := by
    cases m with
    | zero => rfl
    | succ m =>
      rcases hb with hb | hb
      · cases hb
      · rw [rows_, if_pos hb]
  rw [e]; simp
theorem LvAt.fz {w wL wr : World} {gn j : Nat} {P : Array Value} {t : TypeId} {V : Value} {xs : List (List Nat)} {s : Rst} (h : LvAt w wL wr gn P t j V xs s) (i : Nat) : wr.frozen? ⟨w.heap.size + 1 + 1, i, none⟩ = false := h.pb.frozen i
theorem dn_eq {s0 s1 s2 s3 s4 s5 s6 t1 t2 t3 r1 r2 r3 tf : Rst} {a1 a2 a3 a4 a5 a6 f N1 N2 N3 : Nat} {b1 b2 b3 : List (List Nat)} (q1 : numN s0 = (a1, s1)) (q2 : numN s1 = (a2, s2)) (q3 : numN s2 = (a3, s3)) (q4 : numN s3 = (a4, s4)) (q5 : numN s4 = (a5, s5)) (q6 : numN s5 = (a6, s6))
    (k1 : mnK 32 s6 = N1) (e1 : mnS 32 s6 = t1) (d1 : rows_ numN 3 N1 t1 = (b1, r1)) (k2 : mnK 8 r1 = N2) (e2 : mnS 8 r1 = t2) (d2 : rows_ numN 4 N2 t2 = (b2, r2)) (qf : numN r2 = (f, tf)) (k3 : mnK 32 tf = N3) (e3 : mnS 32 tf = t3) (d3 : rows_ numN 3 N3 t3 = (b3, r3)) :
    dec_ numN s0 = (([a1, a2, a3, a4, a5, a6], b1, b2, f, b3), r3) := by
  have e : some_ numN 6 s0 = ([a1, a2, a3, a4, a5, a6], s6) := by simp [some_, q1, q2, q3, q4, q5, q6]
  unfold dec_
  simp only [e, many_is, k1, e1, d1, k2, e2, d2, qf, k3, e3, d3]
theorem rd_none {l ns : List Nat} {ok bad : Bool} {n : Nat} {raw : Raw} {t : Rst} (h1 : ok = true → nums l = some ns) (h2 : ok = false → nums l = none ∧ ns = []) (hb : bad = (!ok || decide (2000 < n))) (hd : dec_ numN ⟨ns, bad⟩ = (raw, t)) (h : t.bad = true ∨ 0 < t.l.length) : decB l = none ∨ 2000 < n := by
  rw [decB_eq]
  cases ok with
  | false => rw [(h2 rfl).1]; exact .inl rfl
  | true =>
    rw [h1 rfl]
    by_cases hn : 2000 < n
    · exact .inr hn
    · have : bad = false := by rw [hb, decide_eq_false hn]; rfl
      subst this
      left
      show decN ns = none
      unfold decN
      rw [hd, if_pos]
      rcases h with h | h
      · exact .inl h
      · exact .inr fun e => by simp only at e; rw [e] at h; simp at h
theorem rd_some {l ns : List Nat} {ok bad : Bool} {n : Nat} {raw : Raw} {t : Rst} (h1 : ok = true → nums l = some ns) (hb : bad = (!ok || decide (2000 < n))) (hd : dec_ numN ⟨ns, bad⟩ = (raw, t)) (h3 : t.bad = false) (h4 : t.l.length = 0) : decB l = some raw ∧ n ≤ 2000 := by
  have hbf : bad = false := by
    cases bad with
    | false => rfl
    | true =>
      have := dec_mono numN_mono ⟨ns, true⟩ rfl
      rw [hd] at this
      rw [h3] at this; cases this
  rw [hbf] at hb
  have hok : ok = true := by
    cases ok with
    | true => rfl
    | false => cases hb
  have hn : ¬ 2000 < n := by intro h; rw [hok, decide_eq_true h] at hb; cases hb
  refine ⟨?_, by omega⟩
  rw [decB_eq, h1 hok]
  subst hbf
  show decN ns = some raw
  unfold decN
  rw [hd, if_neg]
  rintro (h | h)
  · simp only at h; rw [h3] at h; cases h
  · exact h (List.eq_nil_of_length_eq_zero h4)
end Go.Proofs.YtfdadkngbnhmeaaDoor
