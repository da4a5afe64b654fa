/- The contract of guard's Passes; condition: the slots lie in memory. -/
import Derived.Test.YtgdljdhibknjnaaGo
import Derived.Test.YtgdljdhibknjnaaTt
import Derived.Deep.LoopGhost
namespace Go.Proofs.Ytgdljdhibknjnaa
open Go.RowKit

theorem opE_out (f s n d R round : Int) (x : Sl) (h : round < 0 ∨ R < 1 ∨ 1099511627776 / R < round) : opE f s n d R round x = 2 ∧ opA f s n d R round x = 0 ∧ opB f s n d R round x = 0 := by
  have e : opE f s n d R round x = 2 := by unfold opE; rw [if_pos h]
  refine ⟨e, ?_, ?_⟩
  · unfold opA; rw [e]; rfl
  · unfold opB; rw [e]; rfl
/-- Opens, at a slot that there is. -/
theorem go_at (nd fa sk ji dr R : Int) (A : Option Addr) (len c : Nat) (L : Value) (fr : Int) (Q : Value) (f s n d id : Int) (round : Int) (k : Nat) (x : Sl) (sl : List Sl) (w : World) (hk : k < len) (hm : len ≤ 9223372036854775807) (hx : sl[k]? = some x) (hS : SlotsAt w A len sl) :
    Calls Try.prog 59 #[.agg (gdC nd fa sk ji dr R (.slice A len c) L fr Q f s n d id), .int .i64 round, .int .i64 k] w (GoPost w (opA f s n d R round x) (opB f s n d R round x) (opE f s n d R round x)) := by
  by_cases h : round < 0 ∨ R < 1 ∨ 1099511627776 / R < round
  · obtain ⟨e1, e2, e3⟩ := opE_out f s n d R round x h
    rw [e1, e2, e3]
    exact go_late nd fa sk ji dr R A len c L fr Q f s n d id round k w hk hm h
  · exact go_fine nd fa sk ji dr R A len c L fr Q f s n d id round k x sl w hk hm hx hS (by omega) (by omega) (by omega)

/-- One answer, or the next one. -/
def orE (a b : Option (Int × Int)) : Option (Int × Int) := match a with | some v => some v | none => b
theorem psR_next (f s n d R nd sa sb to : Int) (sl : List Sl) (k : Nat) (round : Int) (h : round ≤ to) : psR f s n d R nd sa sb to sl (k + 1) round = orE (psT f s n d R nd sa sb round (sl.drop 0)) (psR f s n d R nd sa sb to sl k (round + 1)) := by
  rw [List.drop_zero]
  show (if round ≤ to then _ else _) = _
  rw [if_pos h]
  rfl
theorem psR_over (f s n d R nd sa sb to : Int) (sl : List Sl) (k : Nat) (round : Int) (h : to < round) : psR f s n d R nd sa sb to sl k round = none := by
  cases k with
  | zero => rfl
  | succ k => unfold psR; rw [if_neg (by omega)]
/-- What Passes answers. -/
def PaPost (w : World) (o : Option (Int × Int)) (r : Ending) (w' : World) : Prop := r = .returned (.tuple #[spanV (o.getD (0, 0)).1 (o.getD (0, 0)).2, .bool o.isSome]) ∧ Below w.heap.size w w'
theorem PaPost.some_ {w w' : World} {o : Option (Int × Int)} {a b : Int} (h : o = some (a, b)) (hB : Below w.heap.size w w') : PaPost w o (.returned (.tuple #[spanV a b, .bool true])) w' := by rw [h]; exact ⟨rfl, hB⟩
theorem PaPost.none_ {w w' : World} {o : Option (Int × Int)} (h : o = none) (hB : Below w.heap.size w w') : PaPost w o (.returned (.tuple #[spanV 0 0, .bool false])) w' := by rw [h]; exact ⟨rfl, hB⟩
theorem pa_results (tmps : Array Value) (w : World) (g : Nat) (a b v : Value) (h2 : tmps[8]? = some (.pointer (some ⟨g, 0, none⟩))) (h3 : tmps[9]? = some v) (hb : Blk w g 88 #[a, b]) :
    (results Try.f42 tmps).run Try.prog w = .ok (.tuple #[.agg #[a, b], v]) w := by
  obtain ⟨k0, k1, _⟩ := hb.cells2
  simp [results, Try.results42, go_sem, h2, h3, k0, k1]
theorem com_lt {a b c d : Int} (h : meetB a b c d = true) : comA a b c d < comB a b c d := by
  unfold comA comB
  rw [if_pos h, if_pos h]
  unfold meetB at h
  simp only [decide_eq_true_eq] at h
  omega
theorem com_zero {a b c d : Int} (h : meetB a b c d = false) : comA a b c d = 0 ∧ comB a b c d = 0 := by
  unfold comA comB
  rw [if_neg (by rw [h]; decide), if_neg (by rw [h]; decide)]; exact ⟨rfl, rfl⟩

/-- What Passes keeps in memory. -/
structure PaAt (w wr : World) (G S : Array Value) (A : Option Addr) (len : Nat) (sl : List Sl) : Prop where
  g : Blk wr w.heap.size 95 G
  s : Blk wr (w.heap.size + 1) 88 S
  r : Blk wr (w.heap.size + 1 + 1) 88 #[.int .i64 0, .int .i64 0]
  old : Below w.heap.size w wr
  sl : SlotsAt wr A len sl
theorem PaAt.below {w w1 w2 : World} {G S : Array Value} {A : Option Addr} {len : Nat} {sl : List Sl} (h : PaAt w w1 G S A len sl) (hB : Below w1.heap.size w1 w2) : PaAt w w2 G S A len sl :=
  ⟨h.g.below hB h.g.lt, h.s.below hB h.s.lt, h.r.below hB h.r.lt, h.old.trans (hB.mono h.old.size), h.sl.below hB⟩
theorem PaAt.alloc {w w1 : World} {G S : Array Value} {A : Option Addr} {len : Nat} {sl : List Sl} (h : PaAt w w1 G S A len sl) (o : Obj) : PaAt w (w1.alloc o) G S A len sl := h.below ((Below.refl _ _).alloc (Nat.le_refl _) o)

section
variable (nd fa sk ji dr R : Int) (A : Option Addr) (len c : Nat) (L : Value) (fr : Int) (Q : Value) (f s n d id : Int)
set_option maxRecDepth 100000 in
set_option maxHeartbeats 8000000 in
theorem gpass_any (sa sb frm to : Int) (sl : List Sl) (w : World) (hm : len ≤ 9223372036854775807) (hsl : sl.length = len) (hS : SlotsAt w A len sl) (h64 : frm ≤ 9223372036854775807) (h65 : to ≤ 9223372036854775807) :
    Calls Try.prog 42 #[.agg (gdC nd fa sk ji dr R (.slice A len c) L fr Q f s n d id), spanV sa sb, .int .i64 frm, .int .i64 to] w (PaPost w (psR f s n d R id sa sb to sl 50 (max frm 0))) := by
  obtain ⟨F, hF⟩ : ∃ F : Nat, max frm 0 = F := ⟨(max frm 0).toNat, by omega⟩
  have hF1 : (F : Int) ≤ 9223372036854775807 := by omega
  obtain ⟨res, hres⟩ : ∃ res, res = psR f s n d R id sa sb to sl 50 F := ⟨_, rfl⟩
  have hlate : Hid (1099511627776 < (F : Int) → res = none) := hide (fun h => by rw [hres]; exact psR_late f s n d R id sa sb to sl 50 F h)
  rw [hF, ← hres]
  have HRES := hide hres; clear hres
  have hP0 : PaAt w (((w.alloc (.cells (gdC nd fa sk ji dr R (.slice A len c) L fr Q f s n d id) 95)).alloc (.cells #[.int .i64 sa, .int .i64 sb] 88)).alloc (.cells #[.int .i64 0, .int .i64 0] 88)) (gdC nd fa sk ji dr R (.slice A len c) L fr Q f s n d id) #[.int .i64 sa, .int .i64 sb] A len sl := by
    have hB : Below w.heap.size w (((w.alloc (.cells (gdC nd fa sk ji dr R (.slice A len c) L fr Q f s n d id) 95)).alloc (.cells #[.int .i64 sa, .int .i64 sb] 88)).alloc (.cells #[.int .i64 0, .int .i64 0] 88)) := (((Below.refl _ _).alloc (Nat.le_refl _) _).alloc (by simp) _).alloc (by simp; omega) _
    exact ⟨((Blk.new w _ _).alloc _).alloc _, (by simpa using Blk.new (w.alloc _) _ _ : Blk _ (w.heap.size + 1) _ _).alloc _, by simpa using Blk.new ((w.alloc _).alloc _) 88 #[.int .i64 0, .int .i64 0], hB, hS.below hB⟩
  have HP := hide hP0; clear hP0 hS
  have HSL := hide hsl; clear hsl
  by_cases hov : (F : Int) + 50 ≤ 9223372036854775807
  · obtain ⟨hn, hc⟩ | ⟨hn, rfl⟩ : (frm < 0 ∧ F = 0) ∨ (0 ≤ frm ∧ frm = F) := by omega
    case' inl => have HC := hide hc; clear hc
    case' inr => have HC := hide (rfl : F = F)
    all_goals
      clear hF h64 hlate
      go_enter Try.func42, Try.ntmps42
      go_wp2_with fail
      go_loopw [10] (fun i wr => ∃ k j : Nat, k ≤ 50 ∧ i = .int .i64 j ∧ Hid (j = F + k ∧ res = psR f s n d R id sa sb to sl (50 - k) j) ∧ PaAt w wr (gdC nd fa sk ji dr R (.slice A len c) L fr Q f s n d id) #[.int .i64 sa, .int .i64 sb] A len sl) (fun i _ => 50 + F - (intOf i).toNat)
      case atStart => exact ⟨0, F, by omega, by first | rfl | (rw [HC.out]; rfl), hide ⟨rfl, HRES.out⟩, HP.out⟩
      case round =>
        obtain ⟨k, j, hk, rfl, hr, hP⟩ := hrel
        by_cases h1 : (j : Int) ≤ to
        · by_cases h2 : k < 50
          · have hj : (j : Int) < F + 50 := by have := hr.out.1; omega
            first | (have d2 : decide ((j : Int) < 50) = true := decide_eq_true (by have := HC.out; omega)) | (have d2 : decide ((j : Int) < (F : Int) + 50) = true := decide_eq_true hj)
            have HP := hide hP; clear hP
            obtain ⟨i0, i1, i2, i3, i4, i5, i6, i7, i8, i9, i10, i11, i12, i13, i14⟩ := HP.out.g.cells15
            obtain ⟨wo, hwo⟩ : ∃ wo : World, wo = wr := ⟨_, rfl⟩
            rw [← hwo] at HP i0 i1 i2 i3 i4 i5 i6 i7 i8 i9 i10 i11 i12 i13 i14 ⊢
            clear hwo
            have hr1 := hide (show res = orE (psT f s n d R id sa sb j (sl.drop 0)) (psR f s n d R id sa sb to sl (49 - k) ((j : Int) + 1)) by rw [← psR_next f s n d R id sa sb to sl (49 - k) j h1, show 49 - k + 1 = 50 - k by omega]; exact hr.out.2)
            go_wp2_with fail
            go_loopw [34] (fun i wr => ∃ m : Nat, m ≤ len ∧ i = .int .i64 m ∧ Hid (res = orE (psT f s n d R id sa sb j (sl.drop m)) (psR f s n d R id sa sb to sl (49 - k) ((j : Int) + 1))) ∧ PaAt w wr (gdC nd fa sk ji dr R (.slice A len c) L fr Q f s n d id) #[.int .i64 sa, .int .i64 sb] A len sl) (fun i _ => len - (intOf i).toNat)
            case atStart => exact ⟨0, by omega, rfl, hr1, HP.out⟩
            case round =>
              have hr4 := hide hr.out.1
              clear i0 i1 i2 i3 i4 i5 i6 i7 i8 i9 i10 i11 i12 i13 i14 HP HRES hr hr1
              obtain ⟨m, hm2, rfl, hr2, hP⟩ := hrel
              by_cases hlt : m < len
              · obtain ⟨b, off, rfl, x, hx, c0, c1, c2⟩ := hP.sl m hlt
                have HX := hide hx; have HP := hide hP; clear hx hP
                have hst := hide (psT_step f s n d R id sa sb j sl m x HX.out)
                have HP2 := hide (HP.out.alloc (.cells #[.int .i64 x.n, .int .i64 x.f, .int .i64 x.t] 127))
                obtain ⟨i0, i1, i2, i3, i4, i5, i6, i7, i8, i9, i10, i11, i12, i13, i14⟩ := HP2.out.g.cells15
                by_cases hnd : x.n = id
                · have q1 : (x.n != id) = false := by simp [hnd]
                  have HND := hide hnd; clear hnd
                  obtain ⟨E, hE⟩ : ∃ E, opE f s n d R j x = E := ⟨_, rfl⟩
                  obtain ⟨a, ha⟩ : ∃ a, opA f s n d R j x = a := ⟨_, rfl⟩
                  obtain ⟨bb, hbb⟩ : ∃ bb, opB f s n d R j x = bb := ⟨_, rfl⟩
                  have HG : Hid (∀ w0 : World, SlotsAt w0 (some ⟨b, off, none⟩) len sl → Calls Try.prog 59 #[.agg (gdC nd fa sk ji dr R (.slice (some ⟨b, off, none⟩) len c) L fr Q f s n d id), .int .i64 j, .int .i64 m] w0 (GoPost w0 a bb E)) := hide (fun w0 h => by rw [← hE, ← ha, ← hbb]; exact go_at nd fa sk ji dr R (some ⟨b, off, none⟩) len c L fr Q f s n d id j m x sl w0 hlt hm HX.out h)
                  have hgo : Hid (goes f s n d R id sa sb j x = (decide (E = 0) && meetB a bb sa sb)) := hide (by unfold goes; rw [hE, ha, hbb, decide_eq_true HND.out, Bool.true_and])
                  rw [ha, hbb] at hst
                  clear hE ha hbb
                  go_wp2_with fail
                  refine (HG.out _ ((HP.out.alloc _).sl)).mono ?_
                  rintro e w3 ⟨rfl, hB⟩
                  have HP3 := hide (HP2.out.below hB)
                  have HP4 := hide (HP3.out.alloc (.cells #[.int .i64 a, .int .i64 bb] 88))
                  clear hB HP2 HP c0 c1 c2 i0 i1 i2 i3 i4 i5 i6 i7 i8 i9 i10 i11 i12 i13 i14
                  obtain ⟨s0, s1, _, _⟩ := HP4.out.s.cells2
                  obtain ⟨t0, t1, _, _⟩ := (Blk.new w3 88 #[.int .i64 a, .int .i64 bb]).cells2
                  by_cases hE : E = 0
                  · have q2 : (E != 0) = false := by simp [hE]
                    have HE0 := hide hE; clear hE
                    go_wp2_with fail
                    refine (tcommon_any a bb sa sb _).mono ?_
                    rintro e w5 ⟨rfl, hB⟩
                    have HP5 := hide (HP4.out.below hB)
                    clear hB s0 s1 t0 t1
                    cases hmt : meetB a bb sa sb
                    · obtain ⟨z1, z2⟩ := com_zero hmt
                      have HMT := hide hmt
                      have HP6 := hide (HP5.out.alloc (.cells #[.int .i64 (comA a bb sa sb), .int .i64 (comB a bb sa sb)] 88))
                      rw [z1, z2] at HP6 ⊢
                      have hno := hide (show psT f s n d R id sa sb j (sl.drop m) = psT f s n d R id sa sb j (sl.drop (m + 1)) by rw [hst.out, if_neg (by rw [hgo.out, HMT.out]; simp)])
                      clear hmt z1 z2
                      go_wp2_with fail
                      go_roundw
                      case rel => exact ⟨m + 1, by omega, by go_num, hide (by rw [← hno.out]; exact hr2.out), HP6.out⟩
                      case measure => simp [intOf]; omega
                    · have hlt2 : decide (comA a bb sa sb < comB a bb sa sb) = true := decide_eq_true (com_lt hmt)
                      have HP6 := hide (HP5.out.alloc (.cells #[.int .i64 (comA a bb sa sb), .int .i64 (comB a bb sa sb)] 88))
                      have hyes := hide (show res = some (comA a bb sa sb, comB a bb sa sb) by rw [hr2.out, hst.out, if_pos (by rw [hgo.out, hmt, decide_eq_true HE0.out]; rfl)]; rfl)
                      clear hmt hr2 hst hgo
                      generalize comA a bb sa sb = ca at *
                      generalize comB a bb sa sb = cb at *
                      obtain ⟨t0, t1, _, _⟩ := (Blk.new w5 88 #[.int .i64 ca, .int .i64 cb]).cells2
                      have hRb := HP6.out.r
                      obtain ⟨r0, r1, rz0, rz1⟩ := hRb.cells2
                      have HR := hide hRb; clear hRb
                      go_wp2_with fail
                      exact bodyPost_ret (pa_results _ _ (w.heap.size + 1 + 1) _ _ _ rfl rfl ((HR.out.set_ 0 _).set_ 1 _)) rfl (PaPost.some_ hyes.out ((HP6.out.old.setCell (by exact Nat.le_add_right _ 2) _).setCell (by exact Nat.le_add_right _ 2) _))
                  · have q2 : (E != 0) = true := by simp [hE]
                    have hno := hide (show psT f s n d R id sa sb j (sl.drop m) = psT f s n d R id sa sb j (sl.drop (m + 1)) by rw [hst.out, if_neg (by rw [hgo.out, decide_eq_false hE]; simp)])
                    clear hE
                    go_wp2_with fail
                    go_roundw
                    case rel => exact ⟨m + 1, by omega, by go_num, hide (by rw [← hno.out]; exact hr2.out), HP4.out⟩
                    case measure => simp [intOf]; omega
                · have q1 : (x.n != id) = true := by simp [hnd]
                  have hno := hide (show psT f s n d R id sa sb j (sl.drop m) = psT f s n d R id sa sb j (sl.drop (m + 1)) by rw [hst.out, if_neg (by unfold goes; rw [decide_eq_false hnd]; simp)])
                  clear hnd
                  go_wp2_with fail
                  go_roundw
                  case rel => exact ⟨m + 1, by omega, by go_num, hide (by rw [← hno.out]; exact hr2.out), HP.out.alloc _⟩
                  case measure => simp [intOf]; omega
              · obtain rfl : m = len := by omega
                have hr3 := hide (show res = psR f s n d R id sa sb to sl (49 - k) ((j : Int) + 1) by rw [hr2.out, psT_end f s n d R id sa sb j sl m (by rw [HSL.out]; exact Nat.le_refl _)]; rfl)
                have HP := hide hP; clear hP hr2
                go_wp2_with fail
                go_roundw
                case rel => exact ⟨k + 1, j + 1, by omega, by go_num, hide ⟨by have := hr4.out; omega, by rw [hr3.out, show 50 - (k + 1) = 49 - k by omega]; rfl⟩, HP.out⟩
                case measure => simp [intOf]; omega
          · have hj : ¬ (j : Int) < F + 50 := by have := hr.out.1; omega
            first | (have d2 : decide ((j : Int) < 50) = false := decide_eq_false (by have := HC.out; omega)) | (have d2 : decide ((j : Int) < (F : Int) + 50) = false := decide_eq_false hj)
            have hnone := hide (show res = none by rw [hr.out.2, show 50 - k = 0 by omega]; rfl)
            have HP := hide hP; clear hP hr
            have hRb := HP.out.r
            obtain ⟨r0, r1, rz0, rz1⟩ := hRb.cells2
            have HR := hide hRb; clear hRb
            go_wp2_with fail
            exact bodyPost_ret (pa_results _ _ (w.heap.size + 1 + 1) _ _ _ rfl rfl ((HR.out.set_ 0 _).set_ 1 _)) rfl (PaPost.none_ hnone.out ((HP.out.old.setCell (by exact Nat.le_add_right _ 2) _).setCell (by exact Nat.le_add_right _ 2) _))
        · have hnone := hide (show res = none by rw [hr.out.2]; exact psR_over f s n d R id sa sb to sl _ _ (by omega))
          have HP := hide hP; clear hP hr
          have hRb := HP.out.r
          obtain ⟨r0, r1, rz0, rz1⟩ := hRb.cells2
          have HR := hide hRb; clear hRb
          go_wp2_with fail
          exact bodyPost_ret (pa_results _ _ (w.heap.size + 1 + 1) _ _ _ rfl rfl ((HR.out.set_ 0 _).set_ 1 _)) rfl (PaPost.none_ hnone.out ((HP.out.old.setCell (by exact Nat.le_add_right _ 2) _).setCell (by exact Nat.le_add_right _ 2) _))
  · have hnone := hide (hlate.out (by omega))
    obtain rfl : frm = F := by omega
    have hw50 : wrap64 ((F : Int) + 50) = (F : Int) + 50 - 18446744073709551616 := by unfold wrap64; omega
    have d3 : ¬ (F : Int) < (F : Int) + 50 - 18446744073709551616 := by omega
    clear hF hlate HRES
    have hRb := HP.out.r
    obtain ⟨r0, r1, rz0, rz1⟩ := hRb.cells2
    have HR := hide hRb; clear hRb r0 r1 rz0 rz1
    go_enter Try.func42, Try.ntmps42
    go_wp2_with fail
    refine wp_loop_rounds 1 ?_
    rw [rounds_succ]
    go_wp2_with fail
    all_goals exact bodyPost_ret (pa_results _ _ (w.heap.size + 1 + 1) _ _ _ rfl rfl HR.out) rfl (PaPost.none_ hnone.out HP.out.old)
end
end Go.Proofs.Ytgdljdhibknjnaa
