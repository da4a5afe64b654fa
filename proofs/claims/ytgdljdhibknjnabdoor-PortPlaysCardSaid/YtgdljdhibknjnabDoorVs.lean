/- The contracts of vlink.NewSender and of the sender's methods; conditions: the sender lies in a block of its own, its queue in another one. -/
import Derived.Test.YtgdljdhibknjnabDoorQu
import Derived.Test.YtgdljdhibknjnabDoorVp
import Derived.Deep.RegionHeld3
import Derived.RegionTactic
import Derived.Deep.Cut
import Derived.Deep.CutRange
import Derived.Deep.CutBlock
namespace Go.Proofs.YtgdljdhibknjnabDoor
open Go.RowKit

/-- Nothing that was there changed, but two blocks. -/
structure Kept2 (w w' : World) (g : Nat) (vb : Option Nat) : Prop where
  os : w'.os = w.os
  tape : w'.tape = w.tape
  output : w'.output = w.output
  size : w.heap.size ≤ w'.heap.size
  block : ∀ i, i < w.heap.size → i ≠ g → some i ≠ vb → w'.heap[i]? = w.heap[i]?
section
variable {w w' w0 : World} {g : Nat} {vb : Option Nat}
theorem Kept2.refl (w : World) (g : Nat) (vb : Option Nat) : Kept2 w w g vb := ⟨rfl, rfl, rfl, Nat.le_refl _, fun _ _ _ _ => rfl⟩
theorem Kept2.of_grown (h : w.grownBy w' (some g)) (vb : Option Nat) : Kept2 w w' g vb := ⟨h.os, h.tape, h.output, h.size, fun i hi h1 _ => h.block i hi (by simpa using h1)⟩
theorem Kept2.of_below (h : Below w.heap.size w w') (g : Nat) (vb : Option Nat) : Kept2 w w' g vb := ⟨h.os, h.tape, h.output, h.size, fun i hi _ _ => h.block i hi⟩
theorem Kept2.set_ (h : Kept2 w w' g vb) (i : Nat) (u : Value) : Kept2 w (w'.setCell ⟨g, i, none⟩ u) g vb :=
  ⟨h.os, h.tape, h.output, by simpa [World.setCell] using h.size, fun k hk h1 h2 => (Below.heap_setCell w' _ u k (fun e => h1 e)).trans (h.block k hk h1 h2)⟩
theorem Kept2.drew (h : Kept2 w w' g vb) : Kept2 w w'.drew g vb := ⟨h.os, h.tape, h.output, h.size, h.block⟩
theorem Kept2.drewN (h : Kept2 w w' g vb) (n : Nat) : Kept2 w (w'.drewN n) g vb := ⟨h.os, h.tape, h.output, h.size, h.block⟩
theorem Kept2.undrew (h : Kept2 w.drew w' g vb) : Kept2 w w' g vb := ⟨h.os, h.tape, h.output, h.size, h.block⟩
theorem Kept2.alloc (h : Kept2 w w' g vb) (o : Obj) : Kept2 w (w'.alloc o) g vb :=
  ⟨h.os, h.tape, h.output, Nat.le_trans h.size (by simp), fun k hk h1 h2 => (Below.heap_alloc w' o k (Nat.lt_of_lt_of_le hk h.size)).trans (h.block k hk h1 h2)⟩
theorem Kept2.trans {w2 : World} (h : Kept2 w w' g vb) (h2 : Kept2 w' w2 g vb) : Kept2 w w2 g vb :=
  ⟨h2.os.trans h.os, h2.tape.trans h.tape, h2.output.trans h.output, Nat.le_trans h.size h2.size, fun k hk a b => (h2.block k (Nat.lt_of_lt_of_le hk h.size) a b).trans (h.block k hk a b)⟩
theorem Kept2.grown_vb {w2 : World} (h : Kept2 w w' g vb) (h2 : w'.grownBy w2 vb) : Kept2 w w2 g vb :=
  ⟨h2.os.trans h.os, h2.tape.trans h.tape, h2.output.trans h.output, Nat.le_trans h.size h2.size, fun k hk a b => (h2.block k (Nat.lt_of_lt_of_le hk h.size) b).trans (h.block k hk a b)⟩
theorem Kept2.below {B : Nat} (h : Below B w0 w) (hs : B ≤ w.heap.size) (hk : Kept2 w w' g vb) (hg : B ≤ g) (hv : ∀ k, vb = some k → B ≤ k) : Below B w0 w' :=
  ⟨hk.os.trans h.os, hk.tape.trans h.tape, hk.output.trans h.output, Nat.le_trans h.size hk.size, fun k hkB => (hk.block k (by omega) (by omega) (by intro e; have := hv k e.symm; omega)).trans (h.block k hkB)⟩
theorem Blk.kept2 {k : Nat} {t : TypeId} {cs : Array Value} (h : Blk w k t cs) (hk : Kept2 w w' g vb) (h1 : k ≠ g) (h2 : vb ≠ some k) : Blk w' k t cs := (hk.block k h.lt h1 (fun e => h2 e.symm)).trans h
theorem QAt.kept2 {base : Nat} {e : TypeId} {v : Value} {l : List Value} (h : QAt w base e v l) (hk : Kept2 w w' g vb) (h1 : v.ownBlock ≠ some g) (h2 : ∀ k, v.ownBlock = some k → vb ≠ some k) : QAt w' base e v l :=
  h.keep (fun k _ hlt ho => hk.block k hlt (by rintro rfl; exact h1 ho) (fun e => h2 k ho e.symm))
end
/-- A sender's cells. -/
def sdC (bag que : Int) (v : Value) (nx la nw : Int) : Array Value := #[.int .i64 0, .int .i64 0, .int .i64 bag, .int .i64 que, v, .int .i64 nx, .int .i64 la, .int .i64 nw]
/-- A queue of texts. -/
def sv (q : List ByteArray) : List Value := q.map Value.string
theorem sv_len (q : List ByteArray) : (sv q).length = q.length := by simp [sv]
theorem sv_snoc (q : List ByteArray) (d : ByteArray) : sv (q ++ [d]) = sv q ++ [.string d] := by simp [sv]
theorem Blk.cells8 {w : World} {g : Nat} {t : TypeId} {a0 a1 a2 a3 a4 a5 a6 a7 : Value} (h : Blk w g t #[a0, a1, a2, a3, a4, a5, a6, a7]) :
    w.cell? ⟨g, 0, none⟩ = some a0 ∧ w.cell? ⟨g, 1, none⟩ = some a1 ∧ w.cell? ⟨g, 2, none⟩ = some a2 ∧ w.cell? ⟨g, 3, none⟩ = some a3 ∧ w.cell? ⟨g, 4, none⟩ = some a4 ∧ w.cell? ⟨g, 5, none⟩ = some a5 ∧ w.cell? ⟨g, 6, none⟩ = some a6 ∧ w.cell? ⟨g, 7, none⟩ = some a7 :=
  ⟨by simpa using h.cell 0, by simpa using h.cell 1, by simpa using h.cell 2, by simpa using h.cell 3, by simpa using h.cell 4, by simpa using h.cell 5, by simpa using h.cell 6, by simpa using h.cell 7⟩

/-- Where a queue's block is. -/
def Own (w w' : World) (v v' : Value) : Prop := ∀ k, v'.ownBlock = some k → k < w'.heap.size ∧ (v.ownBlock = some k ∨ w.heap.size ≤ k)
/-- What Put leaves. -/
def SdPost (w : World) (base g : Nat) (bag que : Int) (v : Value) (nx la nw : Int) (q : List ByteArray) (w' : World) : Prop :=
  ∃ v', Blk w' g 149 (sdC bag que v' nx la nw) ∧ QAt w' base 9 v' (sv q) ∧ Kept2 w w' g v.ownBlock ∧ Own w w' v v'
theorem SdPost.drewN {w w' : World} {base g : Nat} {bag que : Int} {v : Value} {nx la nw : Int} {q : List ByteArray} (h : SdPost w base g bag que v nx la nw q w') (n : Nat) : SdPost w base g bag que v nx la nw q (w'.drewN n) := by
  obtain ⟨v', a, b, c, d⟩ := h
  exact ⟨v', a.drewN n, b.drewN n, c.drewN n, d⟩
theorem Kept2.set_new {w w' : World} {g : Nat} {vb : Option Nat} (h : Kept2 w w' g vb) {p : Addr} (hp : w.heap.size ≤ p.block) (u : Value) : Kept2 w (w'.setCell p u) g vb :=
  ⟨h.os, h.tape, h.output, by simpa [World.setCell] using h.size, fun k hk h1 h2 => (Below.heap_setCell w' p u k (by rintro rfl; omega)).trans (h.block k hk h1 h2)⟩
theorem SdPost.keep {w w' : World} {base g : Nat} {bag que : Int} {v : Value} {nx la nw : Int} {q : List ByteArray} (hb : Blk w' g 149 (sdC bag que v nx la nw)) (hQ : QAt w' base 9 v (sv q)) (hk : Kept2 w w' g v.ownBlock) (hv : ∀ k, v.ownBlock = some k → k < w.heap.size) : SdPost w base g bag que v nx la nw q w' :=
  ⟨v, hb, hQ, hk, fun k e => ⟨Nat.lt_of_lt_of_le (hv k e) hk.size, .inl e⟩⟩
theorem own_ne {w : World} {v : Value} (h : ∀ k, v.ownBlock = some k → k < w.heap.size) : v.ownBlock ≠ some w.heap.size := fun e => Nat.lt_irrefl _ (h _ e)
theorem own_lt {w : World} {base : Nat} {v : Value} (h : ∀ k, v.ownBlock = some k → k < w.heap.size ∧ base ≤ k) : ∀ k, v.ownBlock = some k → k < w.heap.size := fun k e => (h k e).1
theorem SdPost.same {w w' : World} {base g : Nat} {bag que : Int} {v : Value} {nx la nw : Int} {q : List ByteArray} (hb : Blk w g 149 (sdC bag que v nx la nw)) (hQ : QAt w base 9 v (sv q)) (hv : ∀ k, v.ownBlock = some k → k < w.heap.size) (hB : Below w.heap.size w w') : SdPost w base g bag que v nx la nw q w' :=
  ⟨v, hb.below hB hb.lt, hQ.below hB (Nat.le_refl _), Kept2.of_below hB _ _, fun k e => ⟨Nat.lt_of_lt_of_le (hv k e) hB.size, .inl e⟩⟩

theorem str_info : (Tryd.prog.info? 9).map (fun i => (i.zero, i.size, i.bytes)) = some (some (.string ⟨#[]⟩), 1, 16) := by kernel_rfl
theorem vs_info_parts {t : TypeId} {z : Value} {a b : Nat} (h : (Tryd.prog.info? t).map (fun i => (i.zero, i.size, i.bytes)) = some (some z, a, b)) : ∃ i, Tryd.prog.info? t = some i ∧ i.zero = some z ∧ i.size = a ∧ i.bytes = b := by
  cases e : Tryd.prog.info? t with
  | none => rw [e] at h; cases h
  | some i => rw [e] at h; simp at h; exact ⟨i, rfl, h.1, h.2.1, h.2.2⟩
set_option maxRecDepth 100000 in
theorem newSender_bad (f t bag que : Int) (w : World) (h : bag < 1 ∨ 1099511627776 < bag ∨ que < 1 ∨ 16 < que) :
    Calls Tryd.prog 25 #[.agg #[.int .i64 f, .int .i64 t, .int .i64 bag, .int .i64 que]] w fun e w' => e = .returned (.tuple #[.pointer none, errV 2]) ∧ Below w.heap.size w w' := by
  have hB := hide ((Below.refl w.heap.size w).alloc (Nat.le_refl _) (.cells #[.int .i64 f, .int .i64 t, .int .i64 bag, .int .i64 que] 51))
  by_cases h1 : bag < 1
  · have d1 : decide (bag < 1) = true := by simp [h1]
    clear h h1
    go_enter Tryd.func25, Tryd.ntmps25
    go_wp2_with fail
    go_ret2
    exact ⟨rfl, hB.out⟩
  · have d1 : decide (bag < 1) = false := by simp; omega
    by_cases h2 : 1099511627776 < bag
    · have d2 : decide (1099511627776 < bag) = true := by simp [h2]
      clear h h1 h2
      go_enter Tryd.func25, Tryd.ntmps25
      go_wp2_with fail
      go_ret2
      exact ⟨rfl, hB.out⟩
    · have d2 : decide (1099511627776 < bag) = false := by simp; omega
      by_cases h3 : que < 1
      · have d3 : decide (que < 1) = true := by simp [h3]
        clear h h1 h2 h3
        go_enter Tryd.func25, Tryd.ntmps25
        go_wp2_with fail
        go_ret2
        exact ⟨rfl, hB.out⟩
      · have d3 : decide (que < 1) = false := by simp; omega
        have d4 : decide (16 < que) = true := by simp; omega
        clear h h1 h2 h3
        go_enter Tryd.func25, Tryd.ntmps25
        go_wp2_with fail
        go_ret2
        exact ⟨rfl, hB.out⟩
set_option maxRecDepth 100000 in
theorem newSender_ok (bag que : Int) (w : World) (h1 : 1 ≤ bag) (h2 : bag ≤ 1099511627776) (h3 : 1 ≤ que) (h4 : que ≤ 16) :
    Calls Tryd.prog 25 #[.agg #[.int .i64 0, .int .i64 0, .int .i64 bag, .int .i64 que]] w fun e w' => ∃ g, e = .returned (.tuple #[.pointer (some ⟨g, 0, none⟩), errV 0]) ∧ Below w.heap.size w w' ∧ w.heap.size ≤ g ∧ Blk w' g 149 (sdC bag que (.slice none 0 0) 0 (-1) 0) := by
  have d1 : decide (bag < 1) = false := by simp; omega
  have d2 : decide (1099511627776 < bag) = false := by simp; omega
  have d3 : decide (que < 1) = false := by simp; omega
  have d4 : decide (16 < que) = false := by simp; omega
  have hB := hide ((Below.refl w.heap.size w).alloc (Nat.le_refl _) (.cells #[.int .i64 0, .int .i64 0, .int .i64 bag, .int .i64 que] 51))
  clear h1 h2 h3 h4
  go_enter Tryd.func25, Tryd.ntmps25
  go_wp2_with fail
  go_ret2
  exact ⟨w.heap.size + 1, by simp <;> rfl, hB.out.alloc (by simp) _, by omega, by have h := Blk.new (w.alloc (.cells #[.int .i64 0, .int .i64 0, .int .i64 bag, .int .i64 que] 51)) 149 (sdC bag que (.slice none 0 0) 0 (-1) 0); rw [World.size_alloc] at h; exact h⟩

theorem putQ_zero (q : List ByteArray) (d : ByteArray) : putQ q d 0 = q ++ [d] := by unfold putQ; rw [if_pos rfl]
theorem putQ_no (q : List ByteArray) (d : ByteArray) {e : Int} (h : e ≠ 0) : putQ q d e = q := by unfold putQ; rw [if_neg h]
section
variable (g base : Nat) (bag que : Int) (v : Value) (nx la nw : Int) (q : List ByteArray)
set_option maxRecDepth 100000 in
set_option maxHeartbeats 2000000 in
theorem sput_any (w : World) (d : ByteArray) (e : Int) (he : Hid (putE d.size q.length que = e)) (hb : Blk w g 149 (sdC bag que v nx la nw)) (hQ : QAt w base 9 v (sv q)) (hv : ∀ k, v.ownBlock = some k → k < w.heap.size) (hg : v.ownBlock ≠ some g) (hbase : base ≤ w.heap.size) (hd : d.size ≤ maxLen) (hq : q.length ≤ 1000) :
    Calls Tryd.prog 26 #[.pointer (some ⟨g, 0, none⟩), .string d] w fun r w' => r = .returned (errV e) ∧ SdPost w base g bag que v nx la nw (putQ q d e) w' := by
  have q1 := he.out
  unfold putE at q1
  unfold maxLen at hd
  by_cases h1 : 40 < d.size
  · have d1 : decide ((40 : Int) < (d.size : Int)) = true := decide_eq_true (by omega)
    rw [if_pos h1] at q1
    subst q1
    have HP := hide (SdPost.same hb hQ hv (Below.refl _ _))
    clear h1 he hb hQ hv hd hq
    go_enter Tryd.func26, Tryd.ntmps26
    go_wp2_with fail
    go_ret
    exact ⟨rfl, by rw [putQ_no _ _ (by decide)]; exact HP.out⟩
  · have d1 : decide ((40 : Int) < (d.size : Int)) = false := decide_eq_false (by omega)
    rw [if_neg h1] at q1
    obtain ⟨ao, c, hvv, hlc⟩ := hQ.shape
    obtain ⟨c0, c1, c2, c3, c4, c5, c6, c7⟩ := hb.cells8
    rw [sv_len] at hvv hlc
    by_cases h2 : que ≤ q.length
    · have d2 : decide (que ≤ (q.length : Int)) = true := decide_eq_true h2
      rw [if_pos h2] at q1
      subst q1
      have HP := hide (fun w' hB => SdPost.same (w' := w') hb hQ hv hB)
      subst hvv
      clear h1 h2 he hb hQ hv hd hq hlc
      go_enter Tryd.func26, Tryd.ntmps26
      go_wp2_with fail
      go_quiet (fail)
      go_wp2_with fail
      go_ret
      exact ⟨rfl, by rw [putQ_no _ _ (by decide)]; exact HP.out _ (below_drewN (Below.refl _ _) _)⟩
    · have d2 : decide (que ≤ (q.length : Int)) = false := decide_eq_false h2
      rw [if_neg h2] at q1
      subst q1
      subst hvv
      have HB := hide hb; have HQ := hide hQ; have HV := hide hv; have HG := hide hg; have HBA := hide hbase; have HL := hide hq
      obtain ⟨i0, hi, hz0, hz1, hz2⟩ := vs_info_parts str_info
      clear h1 h2 he hb hQ hv hd hlc hbase hq hg
      go_enter Tryd.func26, Tryd.ntmps26
      go_wp2_with fail
      go_quiet (fail)
      go_wp2_with (at_builtin; go_must (refine wpList_append_q _ rfl (.tmp 25) (.tmp 27) _ rfl base 9 i0 _ 16 Tryd.underlying53 hi hz0 hz1 hz2 rfl (.slice ao q.length c) (sv q) rfl (by exact (HQ.out.drewN _).alloc _) w.heap.size 0 1 (.string d) rfl (by exact (Blk.new (w.drewN _) 9 #[.string d]).cells1.1) rfl (by have := HL.out; simp [maxLen, sv_len]; omega) (by have := HL.out; simp [sv_len]; omega) (by have := HBA.out; simp; omega) ?_); intro g1 o1 cap1 w3 hQ3 hgr ho hb1 hlt1; have HQ3 := hide hQ3; have HB3 := hide (((HB.out.drewN _).alloc _).grown hgr (fun e => HG.out e.symm)); have HK3 := hide ((((Kept2.refl w g (Value.slice ao q.length c).ownBlock).drewN _).alloc _).grown_vb hgr); have HO := hide ho; have HL1 := hide hlt1; have hf := HB3.out.frozen 4; obtain ⟨_, _, _, _, e4, _, _, _⟩ := HB3.out.cells8; clear hQ3 hgr ho hb1 hlt1)
      go_ret
      have hne : (Value.slice (some ⟨g1, o1, none⟩) ((sv q).length + 1) cap1).ownBlock ≠ some g := by
        intro e
        simp [Value.ownBlock] at e
        subst e
        rcases HO.out with h | h
        · exact HG.out h
        · have := HB.out.lt; simp at h; omega
      refine ⟨rfl, _, HB3.out.set_ 4 _, ?_, HK3.out.set_ 4 _, ?_⟩
      · rw [putQ_zero, sv_snoc]
        exact QAt.far (p := ⟨g, 4, none⟩) HQ3.out hne _
      · intro k e
        simp [Value.ownBlock] at e
        subst e
        refine ⟨by simpa [World.setCell] using HL1.out, ?_⟩
        rcases HO.out with h | h
        · exact .inl h
        · right; simp at h; omega

theorem sd_own {w w' : World} {gq : Nat} {v v' : Value} (h : v'.ownBlock = some gq) (hlt : gq < w'.heap.size) (hv : v.ownBlock = some gq := by rfl) : Own w w' v v' := by
  intro k e
  rw [h] at e
  cases e
  exact ⟨hlt, .inl hv⟩
theorem sd_first {w : World} {base gq off n c : Nat} {q : List ByteArray} {d : ByteArray} (h : QAt w base 9 (.slice (some ⟨gq, off, none⟩) (n + 1) c) (sv (d :: q))) : w.cell? ⟨gq, off, none⟩ = some (.string d) := by
  obtain ⟨g', o', e1, _, _, hc'⟩ := h.block (by omega)
  cases e1
  have := hc' 0 (by omega)
  simpa [sv] using this
theorem sd_results (tmps : Array Value) (w : World) (g : Nat) (a b v : Value) (h2 : tmps[4]? = some (.pointer (some ⟨g, 0, none⟩))) (h3 : tmps[5]? = some v) (hb : Blk w g 63 #[a, b]) :
    (results Tryd.f29 tmps).run Tryd.prog w = .ok (.tuple #[.agg #[a, b], v]) w := by
  obtain ⟨k0, k1, _⟩ := hb.cells2
  simp [results, Tryd.results29, go_sem, h2, h3, k0, k1]
set_option maxRecDepth 100000 in
set_option maxHeartbeats 2000000 in
theorem ssend_bad (w : World) (now : Int) (e : Int) (he : Hid (sdE now la nw bag q.length = e)) (h0 : e ≠ 0) (hb : Blk w g 149 (sdC bag que v nx la nw)) (hQ : QAt w base 9 v (sv q)) (hv : ∀ k, v.ownBlock = some k → k < w.heap.size) (hg : v.ownBlock ≠ some g) (hla : -1 ≤ la ∧ la ≤ 1099511627776) (hq : q.length ≤ 1000) :
    Calls Tryd.prog 29 #[.pointer (some ⟨g, 0, none⟩), .int .i64 now] w fun r w' => r = .returned (.tuple #[.agg #[.int .i64 0, .string ⟨#[]⟩], errV e]) ∧ SdPost w base g bag que v nx la (sdN e now nw) q w' := by
  have q1 := he.out
  unfold sdE at q1
  have HN := hide (Blk.new w 63 #[.int .i64 0, .string ⟨#[]⟩])
  have HB := hide ((Below.refl w.heap.size w).alloc (Nat.le_refl _) (.cells #[.int .i64 0, .string ⟨#[]⟩] 63))
  have HP := hide (fun w' hB => SdPost.same (w' := w') hb hQ hv hB)
  by_cases h1 : now < 0
  · have d1 : decide (now < 0) = true := decide_eq_true h1
    rw [if_pos (.inl h1)] at q1
    subst q1
    clear h1 he hb hQ hv hg hq hla
    go_enter Tryd.func29, Tryd.ntmps29
    go_wp2_with fail
    exact bodyPost_ret (sd_results _ _ w.heap.size _ _ _ rfl rfl HN.out) rfl ⟨rfl, HP.out _ HB.out⟩
  · have d1 : decide (now < 0) = false := decide_eq_false h1
    by_cases h2 : 1099511627776 < now
    · have d2 : decide (1099511627776 < now) = true := decide_eq_true h2
      rw [if_pos (.inr h2)] at q1
      subst q1
      clear h1 h2 he hb hQ hv hg hq hla
      go_enter Tryd.func29, Tryd.ntmps29
      go_wp2_with fail
      exact bodyPost_ret (sd_results _ _ w.heap.size _ _ _ rfl rfl HN.out) rfl ⟨rfl, HP.out _ HB.out⟩
    · have d2 : decide (1099511627776 < now) = false := decide_eq_false h2
      rw [if_neg (by omega)] at q1
      obtain ⟨c0, c1, c2, c3, c4, c5, c6, c7⟩ := (hb.alloc (.cells #[.int .i64 0, .string ⟨#[]⟩] 63)).cells8
      by_cases h3 : now < nw
      · have d3 : decide (now < nw) = true := decide_eq_true h3
        rw [if_pos h3] at q1
        subst q1
        clear h1 h2 h3 he hb hQ hv hg hq hla
        go_enter Tryd.func29, Tryd.ntmps29
        go_wp2_with fail
        exact bodyPost_ret (sd_results _ _ w.heap.size _ _ _ rfl rfl HN.out) rfl ⟨rfl, HP.out _ HB.out⟩
      · have d3 : decide (now < nw) = false := decide_eq_false h3
        rw [if_neg h3] at q1
        obtain ⟨ao, c, hvv, hlc⟩ := hQ.shape
        rw [sv_len] at hvv hlc
        have hne : e = 8 ∧ (q.length = 0 ∨ (0 ≤ la ∧ now - la < bag)) := by
          split at q1
          · exact ⟨q1.symm, ‹_›⟩
          · exact absurd q1.symm h0
        obtain ⟨rfl, hq2⟩ := hne
        have HBA := hide ((hb.alloc (.cells #[.int .i64 0, .string ⟨#[]⟩] 63)).set_ 7 (.int .i64 now))
        have HQA := hide ((hQ.alloc (.cells #[.int .i64 0, .string ⟨#[]⟩] 63)).far (p := ⟨g, 7, none⟩) hg (.int .i64 now))
        have HKA := hide (((Kept2.refl w g v.ownBlock).alloc (.cells #[.int .i64 0, .string ⟨#[]⟩] 63)).set_ 7 (.int .i64 now))
        have HV := hide hv
        have HGL := hide hb.lt
        have HN2 := hide (HN.out.far (p := ⟨g, 7, none⟩) (by have := hb.lt; exact Nat.ne_of_gt this) (.int .i64 now))
        have hfz := (hb.alloc (.cells #[.int .i64 0, .string ⟨#[]⟩] 63)).frozen 7
        subst hvv
        by_cases h4 : q.length = 0
        · have d4 : ((q.length : Int) == 0) = true := by rw [h4]; rfl
          clear h1 h2 h3 he hb hQ hv hg hq hla hq2 q1 hlc h4
          go_enter Tryd.func29, Tryd.ntmps29
          go_wp2_with fail
          go_quiet (fail)
          go_wp2_with fail
          exact bodyPost_ret (sd_results _ _ w.heap.size _ _ _ rfl rfl (((HN2.out.drewN _).set_ 0 _).set_ 1 _)) rfl ⟨rfl, SdPost.keep (((HBA.out.drewN _).far (p := ⟨w.heap.size, 0, none⟩) (Nat.ne_of_lt HGL.out) _).far (p := ⟨w.heap.size, 1, none⟩) (Nat.ne_of_lt HGL.out) _) (((HQA.out.drewN _).far (p := ⟨w.heap.size, 0, none⟩) (own_ne HV.out) _).far (p := ⟨w.heap.size, 1, none⟩) (own_ne HV.out) _) (((HKA.out.drewN _).set_new (p := ⟨w.heap.size, 0, none⟩) (Nat.le_refl _) _).set_new (p := ⟨w.heap.size, 1, none⟩) (Nat.le_refl _) _) HV.out⟩
        · have d4 : ((q.length : Int) == 0) = false := by rw [beq_eq_false_iff_ne]; omega
          have d5 : decide (0 ≤ la) = true := decide_eq_true (by omega)
          have d6 : decide (now - la < bag) = true := decide_eq_true (by omega)
          have hnow : 0 ≤ now ∧ now ≤ 1099511627776 := by omega
          clear h1 h2 h3 he hb hQ hv hg hq hq2 q1 hlc h4
          go_enter Tryd.func29, Tryd.ntmps29
          go_wp2_with fail
          go_quiet (fail)
          go_wp2_with fail
          exact bodyPost_ret (sd_results _ _ w.heap.size _ _ _ rfl rfl (((HN2.out.drewN _).set_ 0 _).set_ 1 _)) rfl ⟨rfl, SdPost.keep (((HBA.out.drewN _).far (p := ⟨w.heap.size, 0, none⟩) (Nat.ne_of_lt HGL.out) _).far (p := ⟨w.heap.size, 1, none⟩) (Nat.ne_of_lt HGL.out) _) (((HQA.out.drewN _).far (p := ⟨w.heap.size, 0, none⟩) (own_ne HV.out) _).far (p := ⟨w.heap.size, 1, none⟩) (own_ne HV.out) _) (((HKA.out.drewN _).set_new (p := ⟨w.heap.size, 0, none⟩) (Nat.le_refl _) _).set_new (p := ⟨w.heap.size, 1, none⟩) (Nat.le_refl _) _) HV.out⟩

end
end Go.Proofs.YtgdljdhibknjnabDoor
