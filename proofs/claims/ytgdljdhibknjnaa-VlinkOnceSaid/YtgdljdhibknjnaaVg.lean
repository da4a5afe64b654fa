/- What VlinkOnce keeps in memory; no condition. -/
import Derived.Test.YtgdljdhibknjnaaVe
import Derived.Test.YtgdljdhibknjnaaPk
import Derived.Laws.MakeOwn
import Derived.Laws.BytesArg
namespace Go.Proofs.Ytgdljdhibknjnaa
open Go.RowKit

/-- Numbers in a block. -/
def IntsB (w : World) (g n : Nat) (f : Nat → Nat) : Prop := ∃ cs : Array Value, Blk w g 3 cs ∧ ∀ k, k < n → cs[k]? = some (.int .i64 (f k : Nat))
section
variable {w w' : World} {g n : Nat} {f : Nat → Nat}
theorem IntsB.cell (h : IntsB w g n f) (k : Nat) (hk : k < n) : w.cell? ⟨g, k, none⟩ = some (.int .i64 (f k : Nat)) ∧ w.frozen? ⟨g, k, none⟩ = false := by
  obtain ⟨cs, hb, hc⟩ := h
  exact ⟨(hb.cell k).trans (hc k hk), hb.frozen k⟩
theorem IntsB.lt (h : IntsB w g n f) : g < w.heap.size := by obtain ⟨cs, hb, hc⟩ := h; exact hb.lt
theorem IntsB.set_ (h : IntsB w g n f) (i x : Nat) (hi : i < n) : IntsB (w.setCell ⟨g, i, none⟩ (.int .i64 (x : Nat))) g n (fun k => if k = i then x else f k) := by
  obtain ⟨cs, hb, hc⟩ := h
  refine ⟨_, hb.set_ i _, ?_⟩
  intro k hk
  have h0 := hc k hk
  rw [Array.getElem?_setIfInBounds]
  have hs : k < cs.size := (Array.getElem?_eq_some_iff.1 h0).1
  by_cases e : i = k
  · subst e; simp [hs]
  · rw [if_neg e]
    show cs[k]? = some (.int .i64 ((if k = i then x else f k : Nat) : Int))
    rw [if_neg (fun (h : k = i) => e h.symm)]; exact h0
theorem IntsB.keep (h : IntsB w g n f) (hb : w'.heap[g]? = w.heap[g]?) : IntsB w' g n f := by
  obtain ⟨cs, h1, hc⟩ := h; exact ⟨cs, hb.trans h1, hc⟩
end
theorem int_info : (Try.prog.info? 3).map (fun i => (i.zero, i.size, i.bytes)) = some (some (.int .i64 0), 1, 8) := by kernel_rfl
theorem make_ints (n : Nat) (hn : n ≤ 1000) : ∃ cs : Array Value, (∀ w : World, (Instr.makeSlice 22 (.int .i64 n) (.int .i64 n)).run Try.prog w = .ok (.slice (some ⟨w.heap.size, 0, none⟩) n n) (w.alloc (.cells cs 3))) ∧ ∀ k, k < n → cs[k]? = some (.int .i64 ((0 : Nat) : Int)) := by
  obtain ⟨i0, hi, hz0, hz1, hz2⟩ := vs_info_parts int_info
  refine ⟨madeCells (Value.int .i64 0).cells ((n : Int).toNat * i0.size), fun w => ?_, ?_⟩
  · have := run_makeSlice (P := Try.prog) w 22 3 i0 (.int .i64 0) Try.underlying22 hi hz0 .i64 .i64 n n (by omega) (by omega) (by rw [hz1]; simp; omega) (by rw [hz2]; simp; omega) (by omega)
    simpa using this
  · intro k hk
    rw [hz1]
    simp [madeCells, Value.cells]
    exact ⟨k, by simp [hk], by rw [Nat.mod_one]; rfl⟩
theorem item_info : (Try.prog.info? 30).map (fun i => (i.zero, i.size, i.bytes)) = some (some (.agg #[.int .i64 0, .string ⟨#[]⟩]), 2, 24) := by kernel_rfl
/-- The cells of messages. -/
def itm (f : Nat → ByteArray) (k : Nat) : List Value := (List.range k).flatMap fun j => [.int .i64 (ordr j), .string (f j)]
theorem itm_next (f : Nat → ByteArray) (k : Nat) (d : ByteArray) : itm (fun j => if j = k then d else f j) (k + 1) = itm f k ++ [.int .i64 (ordr k), .string d] := by
  unfold itm
  rw [List.range_succ, List.flatMap_append]
  congr 1
  · have e : ∀ l : List Nat, (∀ j ∈ l, j < k) → (l.flatMap fun j => [Value.int .i64 (ordr j), Value.string (if j = k then d else f j)]) = l.flatMap fun j => [Value.int .i64 (ordr j), Value.string (f j)] := by
      intro l
      induction l with
      | nil => intro _; rfl
      | cons x l ih =>
        intro h
        have hx := h x (by simp)
        rw [List.flatMap_cons, List.flatMap_cons, ih (fun j hj => h j (by simp [hj])), if_neg (by omega)]
    exact e _ (fun j hj => List.mem_range.1 hj)
  · simp
theorem itm_len (f : Nat → ByteArray) (k : Nat) : (itm f k).length = k * 2 := by
  induction k with
  | zero => rfl
  | succ k ih =>
    have e : itm f (k + 1) = itm f k ++ [.int .i64 (ordr k), .string (f k)] := by unfold itm; rw [List.range_succ, List.flatMap_append]; simp
    rw [e, List.length_append, ih]; simp; omega
theorem itm_get (f : Nat → ByteArray) (k j : Nat) (hj : j < k) : (itm f k)[j * 2]? = some (.int .i64 (ordr j)) ∧ (itm f k)[j * 2 + 1]? = some (.string (f j)) := by
  induction k with
  | zero => omega
  | succ k ih =>
    have e : itm f (k + 1) = itm f k ++ [.int .i64 (ordr k), .string (f k)] := by unfold itm; rw [List.range_succ, List.flatMap_append]; simp
    rw [e]
    rcases Nat.lt_or_ge j k with h | h
    · obtain ⟨a, b⟩ := ih h
      have hl := itm_len f k
      rw [List.getElem?_append_left (by omega), List.getElem?_append_left (by omega)]
      exact ⟨a, b⟩
    · obtain rfl : j = k := by omega
      have hl := itm_len f j
      rw [List.getElem?_append_right (by omega), List.getElem?_append_right (by omega), hl]
      simp
/-- Two numbers as a text. -/
theorem two_txt (X Y : Int) : (strOfNums [X, Y]).size = 2 := by rw [strOfNums_size]; rfl
theorem sput_two {w : World} {base g : Nat} {v : Value} {nx la nw : Int} (d : ByteArray) (hd : d.size = 2) (hb : Blk w g 116 (sdC 1 3 v nx la nw)) (hQ : QAt w base 9 v (sv [])) (hv : ∀ k, v.ownBlock = some k → k < w.heap.size) (hg : v.ownBlock ≠ some g) (hbase : base ≤ w.heap.size) :
    Calls Try.prog 33 #[.pointer (some ⟨g, 0, none⟩), .string d] w fun r w' => r = .returned (errV 0) ∧ SdPost w base g 1 3 v nx la nw [d] w' :=
  (sput_any g base 1 3 v nx la nw [] w d 0 (hide (by unfold putE; rw [hd]; rfl)) hb hQ hv hg hbase (by rw [hd]; decide) (by decide)).mono fun r w' ⟨h1, h2⟩ => ⟨h1, by rw [putQ_zero] at h2; exact h2⟩

/-- The first loop: messages are sent. -/
structure OnA (w wr : World) (g1 g2 : Nat) (v : Value) (nx la nw : Int) (q : List ByteArray) (k : Nat) (av : Value) (f : Nat → ByteArray) : Prop where
  lk : LkAt w wr 1 3 g1 v nx la nw q g2 #[.int .i64 (-1), .int .i64 0, .int .i64 0]
  al : wr.ownsRow w.heap.size 30 2 av k (itm f k)
  ne : ∀ b, av.ownBlock = some b → b ≠ g1 ∧ b ≠ g2 ∧ v.ownBlock ≠ some b
section
variable {w w1 w2 : World} {g1 g2 : Nat} {v : Value} {nx la nw : Int} {q : List ByteArray} {k : Nat} {av : Value} {f : Nat → ByteArray}
theorem own_keep2 {w w' : World} {base size n : Nat} {e : TypeId} {v : Value} {xs : List Value} (h : w.ownsRow base e size v n xs) (hk : ∀ g, v.ownBlock = some g → g < w.heap.size → w'.heap[g]? = w.heap[g]?) : w'.ownsRow base e size v n xs := by
  obtain ⟨hl, h | ⟨g, cap, cur, hv, hg, hh, r⟩⟩ := h
  · exact ⟨hl, .inl h⟩
  · exact ⟨hl, .inr ⟨g, cap, cur, hv, hg, by rw [hk g (by rw [hv]; rfl) (Array.getElem?_eq_some_iff.1 hh).1]; exact hh, r⟩⟩
theorem OnA.below (h : OnA w w1 g1 g2 v nx la nw q k av f) (hB : Below w1.heap.size w1 w2) : OnA w w2 g1 g2 v nx la nw q k av f :=
  ⟨h.lk.below hB, own_keep2 h.al fun g _ hlt => hB.block g hlt, h.ne⟩
theorem OnA.alloc (h : OnA w w1 g1 g2 v nx la nw q k av f) (o : Obj) : OnA w (w1.alloc o) g1 g2 v nx la nw q k av f := h.below ((Below.refl _ _).alloc (Nat.le_refl _) o)
theorem OnA.step {nx' la' nw' : Int} {q' : List ByteArray} (h : OnA w w1 g1 g2 v nx la nw q k av f) (hs : SdPost w1 w.heap.size g1 1 3 v nx' la' nw' q' w2) : ∃ v', OnA w w2 g1 g2 v' nx' la' nw' q' k av f := by
  obtain ⟨v', hL, ho, hk⟩ := h.lk.step hs
  refine ⟨v', hL, own_keep2 h.al fun g hg hlt => hk.block g hlt (h.ne g hg).1 (fun e => (h.ne g hg).2.2 e.symm), fun b hb => ⟨(h.ne b hb).1, (h.ne b hb).2.1, fun e => ?_⟩⟩
  obtain ⟨_, hold | hnew⟩ := ho b e
  · exact (h.ne b hb).2.2 hold
  · have := (h.al.lt b hb).2; omega
theorem OnA.app {av' : Value} {d : ByteArray} (h : OnA w w1 g1 g2 v nx la nw q k av f) (ho : w2.ownsRow w.heap.size 30 2 av' (k + 1) (itm f k ++ [.int .i64 (ordr k), .string d])) (hg : w1.grownBy w2 av.ownBlock) (hor : av'.ownBlock = av.ownBlock ∨ ∀ b, av'.ownBlock = some b → w1.heap.size ≤ b) : ∃ f', OnA w w2 g1 g2 v nx la nw q (k + 1) av' f' := by
  refine ⟨fun j => if j = k then d else f j, ⟨h.lk.b1.grown hg (fun e => (h.ne _ e.symm).1 rfl), h.lk.q1.grown hg ?_, h.lk.b2.grown hg (fun e => (h.ne _ e.symm).2.1 rfl), h.lk.n1, h.lk.n2, h.lk.n12, fun b e => ⟨(h.lk.o1 b e).1, Nat.lt_of_lt_of_le (h.lk.o1 b e).2.1 hg.size, (h.lk.o1 b e).2.2⟩, ?_⟩, by rw [itm_next]; exact ho, ?_⟩
  · cases hv : v.ownBlock with
    | none => exact .inl rfl
    | some b => exact .inr fun e => (h.ne b e.symm).2.2 hv
  · exact ⟨hg.os.trans h.lk.old.os, hg.tape.trans h.lk.old.tape, hg.output.trans h.lk.old.output, Nat.le_trans h.lk.old.size hg.size, fun i hi => (hg.block i (Nat.lt_of_lt_of_le hi h.lk.old.size) (fun e => by have := (h.al.lt i e.symm).1; omega)).trans (h.lk.old.block i hi)⟩
  · intro b hb
    rcases hor with e | e
    · rw [e] at hb; exact h.ne b hb
    · have hle := e b hb
      have l1 := h.lk.b1.lt
      have l2 := h.lk.b2.lt
      exact ⟨by omega, by omega, fun e' => by have := (h.lk.o1 b e').2.1; omega⟩
end
/-- Then: the receiver, what was sent, who loses what. -/
structure OnB (w wr : World) (g2 gl many : Nat) (rc : Array Value) (av : Value) (f : Nat → ByteArray) (lv : Nat → Nat) : Prop where
  b2 : Blk wr g2 107 rc
  al : wr.ownsRow w.heap.size 30 2 av many (itm f many)
  lo : IntsB wr gl many lv
  l4 : ∀ j, lv j < 4
  n2 : w.heap.size ≤ g2
  nl : w.heap.size ≤ gl
  n2l : g2 ≠ gl
  ne : ∀ b, av.ownBlock = some b → b ≠ g2 ∧ b ≠ gl
  old : Below w.heap.size w wr
section
variable {w w1 w2 : World} {g1 g2 gl many : Nat} {rc : Array Value} {v av : Value} {f : Nat → ByteArray} {lv : Nat → Nat} {nx la nw : Int} {q : List ByteArray}
theorem OnA.toB {cs : Array Value} (h : OnA w w1 g1 g2 v nx la nw q many av f) (hc : ∀ k, k < many → cs[k]? = some (.int .i64 ((0 : Nat) : Int))) : OnB w (w1.alloc (.cells cs 3)) g2 w1.heap.size many #[.int .i64 (-1), .int .i64 0, .int .i64 0] av f (fun _ => 0) :=
  ⟨h.lk.b2.alloc _, h.al.alloc _, ⟨cs, Blk.new w1 _ _, hc⟩, fun _ => by omega, h.lk.n2, h.lk.old.size, Nat.ne_of_lt h.lk.b2.lt, fun b e => ⟨(h.ne b e).2.1, Nat.ne_of_lt (h.al.lt b e).2⟩, h.lk.old.alloc h.lk.old.size _⟩
theorem OnB.below (h : OnB w w1 g2 gl many rc av f lv) (hB : Below w1.heap.size w1 w2) : OnB w w2 g2 gl many rc av f lv :=
  ⟨h.b2.below hB h.b2.lt, own_keep2 h.al fun g _ hlt => hB.block g hlt, h.lo.keep (hB.block gl h.lo.lt), h.l4, h.n2, h.nl, h.n2l, h.ne, h.old.trans (hB.mono h.old.size)⟩
theorem OnB.set_ (h : OnB w w1 g2 gl many rc av f lv) (i x : Nat) (hi : i < many) (hx : x < 4) : OnB w (w1.setCell ⟨gl, i, none⟩ (.int .i64 (x : Nat))) g2 gl many rc av f (fun k => if k = i then x else lv k) :=
  ⟨h.b2.far (by exact h.n2l) _, own_keep2 h.al fun g hg _ => Below.heap_setCell w1 _ _ g (by exact (h.ne g hg).2), h.lo.set_ i x hi, fun j => by show (if j = i then x else lv j) < 4; split; exact hx; exact h.l4 j, h.n2, h.nl, h.n2l, h.ne, h.old.setCell (by exact h.nl) _⟩
theorem OnB.take {rc' : Array Value} (h : OnB w w1 g2 gl many rc av f lv) (hb : Blk w2 g2 107 rc') (hg : w1.grownBy w2 (some g2)) : OnB w w2 g2 gl many rc' av f lv :=
  ⟨hb, own_keep2 h.al fun g hv hlt => hg.block g hlt (fun e => (h.ne g hv).1 (Option.some.inj e)), h.lo.keep (hg.block gl h.lo.lt (fun e => h.n2l (Option.some.inj e).symm)), h.l4, h.n2, h.nl, h.n2l, h.ne, grown_below h.old hg h.n2⟩
end
/-- The messages that were sent. -/
def ItemsAt (w : World) (A : Option Addr) (n : Nat) (f : Nat → ByteArray) : Prop := ∀ j, j < n → ∃ b off, A = some ⟨b, off, none⟩ ∧ w.cell? ⟨b, off + j * 2, none⟩ = some (.int .i64 (ordr j)) ∧ w.cell? ⟨b, off + j * 2 + 1, none⟩ = some (.string (f j))
theorem items_of {w : World} {base : Nat} {av : Value} {n : Nat} {f : Nat → ByteArray} (h : w.ownsRow base 30 2 av n (itm f n)) : ∃ A c, av = .slice A n c ∧ n ≤ c ∧ ItemsAt w A n f := by
  obtain ⟨hl, ⟨rfl, rfl⟩ | ⟨g, cap, cur, rfl, hg, hh, hn, hm, hs, ht⟩⟩ := h
  · exact ⟨none, 0, rfl, Nat.le_refl _, fun j hj => by omega⟩
  · refine ⟨_, cap, rfl, hn, fun j hj => ⟨g, 0, rfl, ?_⟩⟩
    obtain ⟨e0, e1⟩ := itm_get f n j hj
    rw [cell_of_row w g _ cur _ (0, 0) hh, cell_of_row w g _ cur _ (0, 0) hh, Nat.zero_add, ← e0, ← e1, ← ht, List.getElem?_take, if_pos (by omega), List.getElem?_take, if_pos (by omega)]
    simp
/-- Then: where both channels are, and what was told. -/
def gi (got : List Nat) : List Value := got.map fun (n : Nat) => .int .i64 (n : Int)
structure OnE (w wr : World) (g2 gl gt many : Nat) (rc : Array Value) (av : Value) (f : Nat → ByteArray) (lv : Nat → Nat) (B a b : Nat) (gv : Value) (got : List Nat) : Prop where
  on : OnB w wr g2 gl many rc av f lv
  cs : Blk wr gt 73 #[.int .i64 (a : Nat), .int .i64 (b : Nat)]
  gs : wr.ownsRow B 3 1 gv got.length (gi got)
  nt : w.heap.size ≤ gt
  nt2 : gt ≠ g2
  ntl : gt ≠ gl
  nta : ∀ b, av.ownBlock = some b → b ≠ gt
  hB : g2 < B ∧ gl < B ∧ gt < B ∧ w.heap.size ≤ B ∧ B ≤ wr.heap.size
  hBa : ∀ b, av.ownBlock = some b → b < B
section
variable {w w1 w2 : World} {g2 gl gt many : Nat} {rc : Array Value} {av : Value} {f : Nat → ByteArray} {lv : Nat → Nat} {B a b : Nat} {gv : Value} {got : List Nat}
theorem OnE.start (h : OnB w w1 g2 gl many rc av f lv) : OnE w (w1.alloc (.cells #[.int .i64 ((0 : Nat) : Int), .int .i64 ((0 : Nat) : Int)] 73)) g2 gl w1.heap.size many rc av f lv (w1.heap.size + 1) 0 0 (.slice none 0 0) [] :=
  ⟨h.below ((Below.refl _ _).alloc (Nat.le_refl _) _), Blk.new w1 _ _, ⟨rfl, .inl ⟨rfl, rfl⟩⟩, h.old.size, Nat.ne_of_gt h.b2.lt, Nat.ne_of_gt h.lo.lt, fun b e => Nat.ne_of_lt (h.al.lt b e).2, ⟨Nat.lt_succ_of_lt h.b2.lt, Nat.lt_succ_of_lt h.lo.lt, Nat.lt_succ_self _, Nat.le_succ_of_le h.old.size, by simp⟩, fun b e => Nat.lt_succ_of_lt (h.al.lt b e).2⟩
theorem OnE.below (h : OnE w w1 g2 gl gt many rc av f lv B a b gv got) (hb : Below w1.heap.size w1 w2) : OnE w w2 g2 gl gt many rc av f lv B a b gv got :=
  ⟨h.on.below hb, h.cs.below hb h.cs.lt, own_keep2 h.gs fun g _ hlt => hb.block g hlt, h.nt, h.nt2, h.ntl, h.nta, ⟨h.hB.1, h.hB.2.1, h.hB.2.2.1, h.hB.2.2.2.1, Nat.le_trans h.hB.2.2.2.2 hb.size⟩, h.hBa⟩
theorem OnE.drew (h : OnE w w1 g2 gl gt many rc av f lv B a b gv got) : OnE w w1.drew g2 gl gt many rc av f lv B a b gv got := h.below (below_drewN (Below.refl _ _) 1)
theorem OnE.alloc (h : OnE w w1 g2 gl gt many rc av f lv B a b gv got) (o : Obj) : OnE w (w1.alloc o) g2 gl gt many rc av f lv B a b gv got := h.below ((Below.refl _ _).alloc (Nat.le_refl _) o)
theorem OnE.sets (h : OnE w w1 g2 gl gt many rc av f lv B a b gv got) (i a' b' : Nat) (u : Value) (he : #[Value.int .i64 (a : Nat), Value.int .i64 (b : Nat)].setIfInBounds i u = #[Value.int .i64 (a' : Nat), Value.int .i64 (b' : Nat)]) : OnE w (w1.setCell ⟨gt, i, none⟩ u) g2 gl gt many rc av f lv B a' b' gv got :=
  ⟨⟨h.on.b2.far (by exact h.nt2.symm) _, own_keep2 h.on.al fun g hg _ => Below.heap_setCell w1 _ _ g (by exact h.nta g hg), h.on.lo.keep (Below.heap_setCell w1 _ _ gl (by exact h.ntl.symm)), h.on.l4, h.on.n2, h.on.nl, h.on.n2l, h.on.ne, h.on.old.setCell (by exact h.nt) _⟩,
    he ▸ h.cs.set_ i u, own_keep2 h.gs fun g hg _ => Below.heap_setCell w1 _ _ g (by have := (h.gs.lt g hg).1; have := h.hB.2.2.1; show g ≠ gt; omega), h.nt, h.nt2, h.ntl, h.nta, ⟨h.hB.1, h.hB.2.1, h.hB.2.2.1, h.hB.2.2.2.1, by simpa [World.setCell] using h.hB.2.2.2.2⟩, h.hBa⟩
theorem OnE.take {rc' : Array Value} (h : OnE w w1 g2 gl gt many rc av f lv B a b gv got) (hb : Blk w2 g2 107 rc') (hg : w1.grownBy w2 (some g2)) : OnE w w2 g2 gl gt many rc' av f lv B a b gv got :=
  ⟨h.on.take hb hg, h.cs.grown hg (fun e => h.nt2 (Option.some.inj e)), own_keep2 h.gs fun g hv hlt => hg.block g hlt (fun e => by have := (h.gs.lt g hv).1; have := h.hB.1; have := Option.some.inj e; omega), h.nt, h.nt2, h.ntl, h.nta, ⟨h.hB.1, h.hB.2.1, h.hB.2.2.1, h.hB.2.2.2.1, Nat.le_trans h.hB.2.2.2.2 hg.size⟩, h.hBa⟩
theorem OnE.app {gv' : Value} {k : Nat} (h : OnE w w1 g2 gl gt many rc av f lv B a b gv got) (ho : w2.ownsRow B 3 1 gv' (got.length + 1) (gi got ++ [.int .i64 (k : Nat)])) (hg : w1.grownBy w2 gv.ownBlock) : OnE w w2 g2 gl gt many rc av f lv B a b gv' (got ++ [k]) := by
  have hne : ∀ g, g < B → some g ≠ gv.ownBlock := fun g hg e => by have := (h.gs.lt g e.symm).1; omega
  exact ⟨⟨h.on.b2.grown hg (hne _ h.hB.1), own_keep2 h.on.al fun g hv hlt => hg.block g hlt (hne _ (h.hBa g hv)), h.on.lo.keep (hg.block gl h.on.lo.lt (hne _ h.hB.2.1)), h.on.l4, h.on.n2, h.on.nl, h.on.n2l, h.on.ne,
      ⟨hg.os.trans h.on.old.os, hg.tape.trans h.on.old.tape, hg.output.trans h.on.old.output, Nat.le_trans h.on.old.size hg.size, fun i hi => (hg.block i (Nat.lt_of_lt_of_le hi h.on.old.size) (hne i (Nat.lt_of_lt_of_le hi h.hB.2.2.2.1))).trans (h.on.old.block i hi)⟩⟩,
    h.cs.grown hg (hne _ h.hB.2.2.1), by simpa [gi] using ho, h.nt, h.nt2, h.ntl, h.nta, ⟨h.hB.1, h.hB.2.1, h.hB.2.2.1, h.hB.2.2.2.1, Nat.le_trans h.hB.2.2.2.2 hg.size⟩, h.hBa⟩
theorem got_of {w : World} {base : Nat} {gv : Value} {got : List Nat} (h : w.ownsRow base 3 1 gv got.length (gi got)) : ∃ A c, gv = .slice A got.length c ∧ got.length ≤ c ∧ ∀ j, j < got.length → ∃ g, A = some ⟨g, 0, none⟩ ∧ w.cell? ⟨g, j, none⟩ = some (.int .i64 (got.getD j 0 : Nat)) := by
  obtain ⟨hl, ⟨rfl, e⟩ | ⟨g, cap, cur, rfl, hg, hh, hn, hm, hs, ht⟩⟩ := h
  · rw [e]; exact ⟨none, 0, rfl, Nat.le_refl _, fun j hj => by omega⟩
  · refine ⟨_, cap, rfl, hn, fun j hj => ⟨g, rfl, ?_⟩⟩
    rw [cell_of_row w g j cur _ (0, 0) hh]
    have e : (gi got)[j]? = some (.int .i64 (got.getD j 0 : Nat)) := by simp [gi, hj]
    rw [← e, ← ht, List.getElem?_take, if_pos (by omega)]
    simp
end
end Go.Proofs.Ytgdljdhibknjnaa
