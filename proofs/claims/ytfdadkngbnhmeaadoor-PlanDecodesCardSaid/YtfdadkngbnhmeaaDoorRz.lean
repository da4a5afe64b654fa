/- The contract of metronomeref.Decode; conditions: the bytes lie in memory; metronomeref.Fine holds what start-up lays there. -/
import Derived.Test.YtfdadkngbnhmeaaDoorRy
import Derived.Test.YtfdadkngbnhmeaaDoorDf
import Derived.Test.YtfdadkngbnhmeaaDoorRk
namespace Go.Proofs.YtfdadkngbnhmeaaDoor
open Go.RowKit

abbrev ndF (gn gb : Nat) : Value := .func (.func 22) #[] #[.pointer (some ⟨gn, 0, none⟩), .pointer (some ⟨gb, 0, none⟩)]
/-- What Decode keeps in memory. -/
structure RdAt (w wr : World) (gn : Nat) (s : Rst) (v : Value) (P : Array Value) : Prop where
  z : Blk wr w.heap.size 27 planZ
  e : Blk wr (w.heap.size + 1) 30 #[.int .i64 0, .int .i64 0]
  p : Blk wr (w.heap.size + 1 + 1) 27 P
  nt : NtAt wr w.heap.size gn (gn + 1) s v
  f : Blk wr (gn + 1 + 1) 61 #[ndF gn (gn + 1)]
  hg : w.heap.size + 1 + 1 < gn
  vo : ∀ k, v.ownBlock = some k → w.heap.size + 1 + 1 < k ∧ k < gn
  old : Below w.heap.size w wr
section
variable {w w1 w2 : World} {gn : Nat} {s s2 : Rst} {v : Value} {P : Array Value}
theorem RdAt.below (h : RdAt w w1 gn s v P) (hB : Below w1.heap.size w1 w2) : RdAt w w2 gn s v P :=
  ⟨h.z.below hB h.z.lt, h.e.below hB h.e.lt, h.p.below hB h.p.lt, h.nt.below hB, h.f.below hB h.f.lt, h.hg, h.vo, h.old.trans (hB.mono h.old.size)⟩
theorem RdAt.alloc (h : RdAt w w1 gn s v P) (o : Obj) : RdAt w (w1.alloc o) gn s v P := h.below ((Below.refl _ _).alloc (Nat.le_refl _) o)
theorem RdAt.drewN (h : RdAt w w1 gn s v P) (n : Nat) : RdAt w (w1.drewN n) gn s v P := h.below (below_drewN (Below.refl _ _) n)
theorem RdAt.drew (h : RdAt w w1 gn s v P) : RdAt w w1.drew gn s v P := h.drewN 1
theorem RdAt.next (h : RdAt w w1 gn s v P) (hs : NtPost w1 w.heap.size gn (gn + 1) v s2 w2) : ∃ v', RdAt w w2 gn s2 v' P ∧ Only2 w1 w2 gn (gn + 1) := by
  obtain ⟨v', hN, hO, hv⟩ := hs
  have hg := h.hg
  exact ⟨v', ⟨h.z.only2 hO (by omega) (by omega), h.e.only2 hO (by omega) (by omega), h.p.only2 hO (by omega) (by omega), hN, h.f.only2 hO (by omega) (by omega), h.hg, fun k e => h.vo k (by rw [← hv]; exact e),
    ⟨hO.os.trans h.old.os, hO.tape.trans h.old.tape, hO.output.trans h.old.output, by rw [hO.size]; exact h.old.size, fun i hi => (hO.block i (by omega) (by omega)).trans (h.old.block i hi)⟩⟩, hO⟩
theorem RdAt.setp (h : RdAt w w1 gn s v P) (i : Nat) (u : Value) : RdAt w (w1.setCell ⟨w.heap.size + 1 + 1, i, none⟩ u) gn s v (P.setIfInBounds i u) := by
  have hg := h.hg
  exact ⟨h.z.far (by show w.heap.size ≠ w.heap.size + 1 + 1; omega) u, h.e.far (by show w.heap.size + 1 ≠ w.heap.size + 1 + 1; omega) u, h.p.set_ i u, h.nt.keep (by simp [World.setCell]) (fun k hk => Below.heap_setCell w1 _ u k (by
    show k ≠ w.heap.size + 1 + 1
    rcases hk with rfl | rfl | e
    · omega
    · omega
    · have := (h.vo k e).1; omega)), h.f.far (by show gn + 1 + 1 ≠ w.heap.size + 1 + 1; omega) u, h.hg, h.vo, h.old.setCell (by show w.heap.size ≤ w.heap.size + 1 + 1; omega) u⟩
end
theorem cf6 {w : World} {g : Nat} {t : TypeId} {a0 a1 a2 a3 a4 a5 a6 a7 a8 a9 : Value} (h : Blk w g t #[a0, a1, a2, a3, a4, a5, a6, a7, a8, a9]) : (w.cell? ⟨g, 0, none⟩ = some (cv w g 0) ∧ w.frozen? ⟨g, 0, none⟩ = false) ∧ (w.cell? ⟨g, 1, none⟩ = some (cv w g 1) ∧ w.frozen? ⟨g, 1, none⟩ = false) ∧ (w.cell? ⟨g, 2, none⟩ = some (cv w g 2) ∧ w.frozen? ⟨g, 2, none⟩ = false) ∧ (w.cell? ⟨g, 3, none⟩ = some (cv w g 3) ∧ w.frozen? ⟨g, 3, none⟩ = false) ∧ (w.cell? ⟨g, 4, none⟩ = some (cv w g 4) ∧ w.frozen? ⟨g, 4, none⟩ = false) ∧ (w.cell? ⟨g, 5, none⟩ = some (cv w g 5) ∧ w.frozen? ⟨g, 5, none⟩ = false) :=
  ⟨⟨cv_eq (h.cell 0), h.frozen 0⟩, ⟨cv_eq (h.cell 1), h.frozen 1⟩, ⟨cv_eq (h.cell 2), h.frozen 2⟩, ⟨cv_eq (h.cell 3), h.frozen 3⟩, ⟨cv_eq (h.cell 4), h.frozen 4⟩, ⟨cv_eq (h.cell 5), h.frozen 5⟩⟩
theorem rz_next {w wr : World} {gn : Nat} {s s2 : Rst} {a : Nat} {v : Value} {P : Array Value} (h : RdAt w wr gn s v P) (hl : s.l.length ≤ 3000) (e : Hid (numN s = (a, s2))) :
    Calls Tryd.prog 22 #[.pointer (some ⟨gn, 0, none⟩), .pointer (some ⟨gn + 1, 0, none⟩)] wr fun r w' => r = .returned (.int .i64 (a : Nat)) ∧ ∃ v', RdAt w w' gn s2 v' P ∧ Only2 wr w' gn (gn + 1) :=
  (next_any w.heap.size gn (gn + 1) s v wr h.nt hl).mono fun r w' ⟨h1, h2⟩ => ⟨by rw [h1, e.out], h.next (by rw [e.out] at h2; exact h2)⟩
theorem numN_le {s s2 : Rst} {a m : Nat} (h : s.l.length ≤ m) (e : Hid (numN s = (a, s2))) : s2.l.length ≤ m := by have := numN_len s; rw [e.out] at this; exact Nat.le_trans this h
theorem RdAt.start {w w1 : World} {s : Rst} {v : Value} (hB : Below (((w.alloc (.cells planZ 27)).alloc (.cells #[.int .i64 0, .int .i64 0] 30)).alloc (.cells planZ 27)).heap.size (((w.alloc (.cells planZ 27)).alloc (.cells #[.int .i64 0, .int .i64 0] 30)).alloc (.cells planZ 27)) w1)
    (hq : QAt w1 (((w.alloc (.cells planZ 27)).alloc (.cells #[.int .i64 0, .int .i64 0] 30)).alloc (.cells planZ 27)).heap.size 3 v (zN s.l)) (hv : ∀ k, v.ownBlock = some k → w.heap.size + 1 + 1 < k ∧ k < w1.heap.size) :
    RdAt w (((w1.alloc (.cells #[v] 40)).alloc (.cells #[.bool s.bad] 4)).alloc (.cells #[ndF w1.heap.size (w1.heap.size + 1)] 61)) w1.heap.size s v planZ := by
  have hs0 : (((w.alloc (.cells planZ 27)).alloc (.cells #[.int .i64 0, .int .i64 0] 30)).alloc (.cells planZ 27)).heap.size = w.heap.size + 1 + 1 + 1 := by simp
  have h1 := hB.size
  rw [hs0] at h1
  have a0 : Blk (((w.alloc (.cells planZ 27)).alloc (.cells #[.int .i64 0, .int .i64 0] 30)).alloc (.cells planZ 27)) w.heap.size 27 planZ := ((Blk.new w _ _).alloc _).alloc _
  have a1 : Blk (((w.alloc (.cells planZ 27)).alloc (.cells #[.int .i64 0, .int .i64 0] 30)).alloc (.cells planZ 27)) (w.heap.size + 1) 30 #[.int .i64 0, .int .i64 0] := (by simpa using Blk.new (w.alloc (.cells planZ 27)) 30 #[.int .i64 0, .int .i64 0] : Blk _ (w.heap.size + 1) _ _).alloc _
  have a2 : Blk (((w.alloc (.cells planZ 27)).alloc (.cells #[.int .i64 0, .int .i64 0] 30)).alloc (.cells planZ 27)) (w.heap.size + 1 + 1) 27 planZ := by simpa using Blk.new ((w.alloc (.cells planZ 27)).alloc (.cells #[.int .i64 0, .int .i64 0] 30)) 27 planZ
  have b0 : Below w.heap.size w (((w.alloc (.cells planZ 27)).alloc (.cells #[.int .i64 0, .int .i64 0] 30)).alloc (.cells planZ 27)) := (((Below.refl _ _).alloc (Nat.le_refl _) _).alloc (by simp) _).alloc (by simp; omega) _
  have n1 : Blk (((w1.alloc (.cells #[v] 40)).alloc (.cells #[.bool s.bad] 4)).alloc (.cells #[ndF w1.heap.size (w1.heap.size + 1)] 61)) w1.heap.size 40 #[v] := ((Blk.new w1 _ _).alloc _).alloc _
  have n2 : Blk (((w1.alloc (.cells #[v] 40)).alloc (.cells #[.bool s.bad] 4)).alloc (.cells #[ndF w1.heap.size (w1.heap.size + 1)] 61)) (w1.heap.size + 1) 4 #[.bool s.bad] := (by simpa using Blk.new (w1.alloc (.cells #[v] 40)) 4 #[.bool s.bad] : Blk _ (w1.heap.size + 1) _ _).alloc _
  have n3 : Blk (((w1.alloc (.cells #[v] 40)).alloc (.cells #[.bool s.bad] 4)).alloc (.cells #[ndF w1.heap.size (w1.heap.size + 1)] 61)) (w1.heap.size + 1 + 1) 61 #[ndF w1.heap.size (w1.heap.size + 1)] := by simpa using Blk.new ((w1.alloc (.cells #[v] 40)).alloc (.cells #[.bool s.bad] 4)) 61 #[ndF w1.heap.size (w1.heap.size + 1)]
  exact ⟨(((a0.below hB a0.lt).alloc _).alloc _).alloc _, (((a1.below hB a1.lt).alloc _).alloc _).alloc _, (((a2.below hB a2.lt).alloc _).alloc _).alloc _,
    ⟨n1, (((hq.alloc _).alloc _).alloc _).mono (by omega), n2, by omega, fun k e => ⟨by have := (hv k e).2; simp; omega, by have := (hv k e).2; omega, by have := (hv k e).2; omega⟩⟩, n3, by omega, hv, (((b0.trans (hB.mono (by omega))).alloc (by omega) _).alloc (by simp; omega) _).alloc (by simp; omega) _⟩
/-- What Decode answers. -/
def RdPost (w : World) (l : List Nat) (r : Ending) (w' : World) : Prop := Below w.heap.size w w' ∧
  (((decB l = none ∨ 2000 < l.length) ∧ r = .returned (.tuple #[.agg planZ, .agg #[.int .i64 3, .int .i64 (-1)]])) ∨
  (∃ raw, decB l = some raw ∧ l.length ≤ 2000 ∧ (chk (plO raw)).1 ≠ 0 ∧ r = .returned (.tuple #[.agg planZ, .agg #[.int .i64 (chk (plO raw)).1, .int .i64 (chk (plO raw)).2]])) ∨
  (∃ raw, decB l = some raw ∧ l.length ≤ 2000 ∧ (chk (plO raw)).1 = 0 ∧ ∃ A c AL cl AQ cq, r = .returned (.tuple #[.agg (planC (plO raw).nd (plO raw).fa (plO raw).sk (plO raw).ji (plO raw).dr (plO raw).rd (.slice A (plO raw).sl.length c) (.slice AL (plO raw).lk.length cl) (plO raw).fr (.slice AQ (plO raw).wn.length cq)), .agg #[.int .i64 0, .int .i64 (-1)]]) ∧
    SlotsAt w' A (plO raw).sl.length (plO raw).sl ∧ LinksAt w' AL (plO raw).lk.length (plO raw).lk ∧ WinsAt w' AQ (plO raw).wn.length (plO raw).wn))
end Go.Proofs.YtfdadkngbnhmeaaDoor
