/- The contracts of metronomeref.Decode's closures next and many; conditions: what they hold lies in blocks of its own. -/
import Derived.Test.YtfdadkngbnhmeaaDoorRq
namespace Go.Proofs.YtfdadkngbnhmeaaDoor
open Go.RowKit

/-- Nothing that was there changed, but two blocks; nothing new. -/
structure Only2 (w w' : World) (a b : Nat) : Prop where
  os : w'.os = w.os
  tape : w'.tape = w.tape
  output : w'.output = w.output
  size : w'.heap.size = w.heap.size
  block : ∀ i, i ≠ a → i ≠ b → w'.heap[i]? = w.heap[i]?
section
variable {w w1 w2 : World} {a b : Nat}
theorem Only2.refl (w : World) (a b : Nat) : Only2 w w a b := ⟨rfl, rfl, rfl, rfl, fun _ _ _ => rfl⟩
theorem Only2.drewN (h : Only2 w w1 a b) (n : Nat) : Only2 w (w1.drewN n) a b := ⟨h.os, h.tape, h.output, h.size, h.block⟩
theorem Only2.drew (h : Only2 w w1 a b) : Only2 w w1.drew a b := h.drewN 1
theorem Only2.undrew (h : Only2 w.drew w1 a b) : Only2 w w1 a b := ⟨h.os, h.tape, h.output, h.size, h.block⟩
theorem Only2.seta (h : Only2 w w1 a b) (i : Nat) (u : Value) : Only2 w (w1.setCell ⟨a, i, none⟩ u) a b :=
  ⟨h.os, h.tape, h.output, by simpa [World.setCell] using h.size, fun k h1 h2 => (Below.heap_setCell w1 _ u k (fun e => h1 e)).trans (h.block k h1 h2)⟩
theorem Only2.setb (h : Only2 w w1 a b) (i : Nat) (u : Value) : Only2 w (w1.setCell ⟨b, i, none⟩ u) a b :=
  ⟨h.os, h.tape, h.output, by simpa [World.setCell] using h.size, fun k h1 h2 => (Below.heap_setCell w1 _ u k (fun e => h2 e)).trans (h.block k h1 h2)⟩
theorem Only2.trans (h : Only2 w w1 a b) (k : Only2 w1 w2 a b) : Only2 w w2 a b :=
  ⟨k.os.trans h.os, k.tape.trans h.tape, k.output.trans h.output, k.size.trans h.size, fun i h1 h2 => (k.block i h1 h2).trans (h.block i h1 h2)⟩
theorem Blk.only2 {g : Nat} {t : TypeId} {cs : Array Value} (h : Blk w g t cs) (k : Only2 w w1 a b) (h1 : g ≠ a) (h2 : g ≠ b) : Blk w1 g t cs := (k.block g h1 h2).trans h
end
/-- What next holds: the numbers that are left, and whether something is wrong. -/
structure NtAt (w : World) (base gn gb : Nat) (s : Rst) (v : Value) : Prop where
  bn : Blk w gn 40 #[v]
  q : QAt w base 3 v (zN s.l)
  bb : Blk w gb 4 #[.bool s.bad]
  ne : gn ≠ gb
  o : ∀ k, v.ownBlock = some k → k < w.heap.size ∧ k ≠ gn ∧ k ≠ gb
theorem NtAt.keep {w w' : World} {base gn gb : Nat} {s : Rst} {v : Value} (h : NtAt w base gn gb s v) (hs : w.heap.size ≤ w'.heap.size) (hk : ∀ k, k = gn ∨ k = gb ∨ v.ownBlock = some k → w'.heap[k]? = w.heap[k]?) : NtAt w' base gn gb s v :=
  ⟨(hk gn (.inl rfl)).trans h.bn, h.q.keep (fun g _ _ e => hk g (.inr (.inr e))), (hk gb (.inr (.inl rfl))).trans h.bb, h.ne, fun k e => ⟨Nat.lt_of_lt_of_le (h.o k e).1 hs, (h.o k e).2⟩⟩
theorem NtAt.drewN {w : World} {base gn gb : Nat} {s : Rst} {v : Value} (h : NtAt w base gn gb s v) (n : Nat) : NtAt (w.drewN n) base gn gb s v := h.keep (Nat.le_refl _) (fun _ _ => rfl)
theorem NtAt.drew {w : World} {base gn gb : Nat} {s : Rst} {v : Value} (h : NtAt w base gn gb s v) : NtAt w.drew base gn gb s v := h.drewN 1
theorem NtAt.below {w w' : World} {base gn gb : Nat} {s : Rst} {v : Value} (h : NtAt w base gn gb s v) (hB : Below w.heap.size w w') : NtAt w' base gn gb s v :=
  h.keep hB.size (fun k hk => hB.block k (by rcases hk with rfl | rfl | e; exact h.bn.lt; exact h.bb.lt; exact (h.o k e).1))
/-- What next leaves. -/
def NtPost (w : World) (base gn gb : Nat) (v : Value) (s2 : Rst) (w' : World) : Prop := ∃ v', NtAt w' base gn gb s2 v' ∧ Only2 w w' gn gb ∧ v'.ownBlock = v.ownBlock
theorem zN_first {w : World} {base gq off n c x : Nat} {l : List Nat} (h : QAt w base 3 (.slice (some ⟨gq, off, none⟩) n c) (zN (x :: l))) (hn : 0 < n) : w.cell? ⟨gq, off, none⟩ = some (.int .i64 (x : Nat)) := by
  obtain ⟨g', o', e1, _, _, hc'⟩ := h.block hn
  cases e1
  have := hc' 0 hn
  simpa [zN] using this
set_option maxRecDepth 100000 in
set_option maxHeartbeats 1000000 in
theorem next_any (base gn gb : Nat) (s : Rst) (v : Value) (w : World) (h : NtAt w base gn gb s v) (hl : s.l.length ≤ 3000) :
    Calls Tryd.prog 22 #[.pointer (some ⟨gn, 0, none⟩), .pointer (some ⟨gb, 0, none⟩)] w fun r w' => r = .returned (.int .i64 ((numN s).1 : Nat)) ∧ NtPost w base gn gb v (numN s).2 w' := by
  obtain ⟨l, bad⟩ := s
  obtain ⟨ao, c, hv, hc⟩ := h.q.shape
  rw [zN_len] at hv hc
  dsimp only at hv hc hl
  subst hv
  obtain ⟨c0, f0, -⟩ : w.cell? ⟨gn, 0, none⟩ = some (.slice ao l.length c) ∧ w.frozen? ⟨gn, 0, none⟩ = false ∧ True := ⟨h.bn.cells1.1, h.bn.frozen 0, trivial⟩
  have fb := h.bb.frozen 0
  have cb := h.bb.cells1.1
  have HN := hide h
  cases l with
  | nil =>
    have hn : numN ⟨[], bad⟩ = (0, ⟨[], true⟩) := rfl
    rw [hn]
    clear h hn hc
    go_enter Tryd.func22, Tryd.ntmps22
    go_wp2_with fail
    go_ret
    refine ⟨rfl, _, ⟨HN.out.bn.far (by exact HN.out.ne) _, HN.out.q.far (fun e => (HN.out.o _ e).2.2 rfl) _, HN.out.bb.set_ 0 _, HN.out.ne, fun k e => ⟨by simpa [World.setCell] using (HN.out.o k e).1, (HN.out.o k e).2⟩⟩, (Only2.refl _ _ _).setb 0 _, rfl⟩
  | cons x l =>
    have hn : numN ⟨x :: l, bad⟩ = (x, ⟨l, bad⟩) := rfl
    rw [hn]
    obtain ⟨gq, off, hao, -, hlq, -⟩ := h.q.block (by simp)
    subst hao
    have hcell := zN_first h.q (by simp)
    have hne := (h.o gq rfl).2
    have d1 : ((l.length : Int) + 1 == 0) = false := beq_eq_false_iff_ne.2 (by omega)
    have hc2 : l.length + 1 ≤ c := hc
    have hl2 : l.length + 1 ≤ 3000 := hl
    clear h hn hc hl
    go_enter Tryd.func22, Tryd.ntmps22
    go_upto_region 6 with fail
    obtain ⟨ao2, hao⟩ : ∃ ao2 : Option Addr, ao2 = if c = 1 then some ⟨gq, off, none⟩ else some ⟨gq, off + 1, none⟩ := ⟨_, rfl⟩
    rw [← hao]
    have HO5 : Hid ((Value.slice ao2 l.length (c - 1)).ownBlock = some gq) := hide (by rw [hao]; split <;> rfl)
    have HQ5 : Hid (QAt w base 3 (.slice ao2 l.length (c - 1)) (zN l)) := hide (by rw [hao]; exact HN.out.q.tail)
    have HNE := hide hne
    have HLQ := hide hlq
    clear hao
    go_wp2_with fail
    go_ret
    refine ⟨rfl, .slice ao2 l.length (c - 1), ⟨HN.out.bn.set_ 0 _, HQ5.out.far (fun e => by rw [HO5.out] at e; exact HNE.out.1 (Option.some.inj e)) _, HN.out.bb.far (by exact HN.out.ne.symm) _, HN.out.ne, fun k e => ?_⟩, (Only2.refl _ _ _).seta 0 _, HO5.out⟩
    rw [HO5.out] at e
    cases e
    exact ⟨by simpa [World.setCell] using HLQ.out, HNE.out⟩
/-- What many answers. -/
def mnK (most : Nat) (s : Rst) : Nat := if most < (numN s).1 then 0 else (numN s).1
def mnS (most : Nat) (s : Rst) : Rst := ⟨(numN s).2.l, (numN s).2.bad || decide (most < (numN s).1)⟩
theorem many_is (j most : Nat) (s : Rst) : many_ numN j most s = rows_ numN j (mnK most s) (mnS most s) := by
  unfold many_ mnK mnS
  by_cases h : most < (numN s).1
  · rw [if_pos h]
    cases e : (numN s).1 with
    | zero => omega
    | succ k => rw [e] at h; simp [rows_, h]
  · rw [if_neg h]
theorem numN_len (s : Rst) : (numN s).2.l.length ≤ s.l.length := by
  unfold numN
  cases h : s.l with
  | nil => simp
  | cons x l => simp
set_option maxRecDepth 100000 in
set_option maxHeartbeats 1000000 in
theorem many_any (most base gn gb gf : Nat) (s : Rst) (v : Value) (w : World) (h : NtAt w base gn gb s v) (hl : s.l.length ≤ 3000) (hf : Blk w gf 61 #[.func (.func 22) #[] #[.pointer (some ⟨gn, 0, none⟩), .pointer (some ⟨gb, 0, none⟩)]]) :
    Calls Tryd.prog 23 #[.int .i64 (most : Nat), .pointer (some ⟨gf, 0, none⟩), .pointer (some ⟨gb, 0, none⟩)] w fun r w' => r = .returned (.int .i64 (mnK most s : Nat)) ∧ NtPost w base gn gb v (mnS most s) w' := by
  have HN := hide (next_any base gn gb s v w h hl)
  have c0 := hf.cells1.1
  clear h hf
  by_cases hm : most < (numN s).1
  · have e1 : mnK most s = 0 := if_pos hm
    have e2 : mnS most s = ⟨(numN s).2.l, true⟩ := by unfold mnS; rw [decide_eq_true hm, Bool.or_true]
    have d1 : decide ((most : Int) < (((numN s).1 : Nat) : Int)) = true := decide_eq_true (by omega)
    rw [e1, e2]
    generalize (numN s).1 = x at *
    have d2 : decide (most < x) = true := decide_eq_true hm
    clear e1 e2 hm
    go_enter Tryd.func23, Tryd.ntmps23
    go_wp2_with fail
    refine HN.out.mono ?_
    rintro r w2 ⟨rfl, v2, hN2, hO2, hV2⟩
    have HN2 := hide hN2
    have HO2 := hide hO2
    have fb := hN2.bb.frozen 0
    have cb := hN2.bb.cells1.1
    clear hN2 hO2 c0
    go_wp2_with fail
    go_ret
    exact ⟨rfl, v2, ⟨HN2.out.bn.far (by exact HN2.out.ne) _, HN2.out.q.far (fun e => (HN2.out.o _ e).2.2 rfl) _, HN2.out.bb.set_ 0 _, HN2.out.ne, fun k e => ⟨by simpa [World.setCell] using (HN2.out.o k e).1, (HN2.out.o k e).2⟩⟩, HO2.out.setb 0 _, hV2⟩
  · have e1 : mnK most s = (numN s).1 := if_neg hm
    have e2 : mnS most s = (numN s).2 := by unfold mnS; rw [decide_eq_false hm, Bool.or_false]
    have d1 : decide ((most : Int) < (((numN s).1 : Nat) : Int)) = false := decide_eq_false (by omega)
    rw [e1, e2]
    generalize (numN s).1 = x at *
    have d2 : decide (most < x) = false := decide_eq_false hm
    clear e1 e2 hm
    go_enter Tryd.func23, Tryd.ntmps23
    go_wp2_with fail
    refine HN.out.mono ?_
    rintro r w2 ⟨rfl, v2, hN2, hO2, hV2⟩
    have HN2 := hide hN2
    have HO2 := hide hO2
    have fb := hN2.bb.frozen 0
    have cb := hN2.bb.cells1.1
    clear hN2 hO2 c0
    go_wp2_with fail
    go_ret
    exact ⟨rfl, v2, HN2.out, HO2.out, hV2⟩
end Go.Proofs.YtfdadkngbnhmeaaDoor
