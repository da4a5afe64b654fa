/- The contract of metronomeref.Passes; condition: the slots lie in memory. -/
import Derived.Test.YtgdljdhibknjnaaGr
import Derived.Test.YtgdljdhibknjnaaGq
namespace Go.Proofs.Ytgdljdhibknjnaa
open Go.RowKit

/-- The document's Opens, at a slot that there is. -/
theorem gr_at (nd fa sk ji dr R : Int) (A : Option Addr) (len c : Nat) (L : Value) (fr : Int) (Q : Value) (f s n d : Int) (round : Int) (k : Nat) (x : Sl) (sl : List Sl) (w : World) (hk : k < len) (hm : len ≤ 9223372036854775807) (hx : sl[k]? = some x) (hS : SlotsAt w A len sl) :
    Calls Try.prog 57 #[.agg (planC nd fa sk ji dr R (.slice A len c) L fr Q), clk f s n d, .int .i64 round, .int .i64 k] w (GrPost w (opA f s n d R round x) (opB f s n d R round x) (opE f s n d R round x)) := by
  by_cases h : round < 0 ∨ R < 1 ∨ 1099511627776 / R < round
  · obtain ⟨e1, e2, e3⟩ := opE_out f s n d R round x h
    rw [e1, e2, e3]
    exact gr_late nd fa sk ji dr R A len c L fr Q f s n d round k w hk hm h
  · exact gr_fine nd fa sk ji dr R A len c L fr Q f s n d round k x sl w hk hm hx hS (by omega) (by omega) (by omega)
theorem rp_results (tmps : Array Value) (w : World) (g : Nat) (a b v : Value) (h2 : tmps[12]? = some (.pointer (some ⟨g, 0, none⟩))) (h3 : tmps[13]? = some v) (hb : Blk w g 88 #[a, b]) :
    (results Try.f40 tmps).run Try.prog w = .ok (.tuple #[.agg #[a, b], v]) w := by
  obtain ⟨k0, k1, _⟩ := hb.cells2
  simp [results, Try.results40, go_sem, h2, h3, k0, k1]

/-- What the document's Passes keeps in memory. -/
structure PrAt (w wr : World) (G C S : Array Value) (A : Option Addr) (len : Nat) (sl : List Sl) : Prop where
  g : Blk wr w.heap.size 86 G
  c : Blk wr (w.heap.size + 1) 92 C
  s : Blk wr (w.heap.size + 1 + 1) 88 S
  r : Blk wr (w.heap.size + 1 + 1 + 1) 88 #[.int .i64 0, .int .i64 0]
  old : Below w.heap.size w wr
  sl : SlotsAt wr A len sl
theorem PrAt.below {w w1 w2 : World} {G C S : Array Value} {A : Option Addr} {len : Nat} {sl : List Sl} (h : PrAt w w1 G C S A len sl) (hB : Below w1.heap.size w1 w2) : PrAt w w2 G C S A len sl :=
  ⟨h.g.below hB h.g.lt, h.c.below hB h.c.lt, h.s.below hB h.s.lt, h.r.below hB h.r.lt, h.old.trans (hB.mono h.old.size), h.sl.below hB⟩
theorem PrAt.alloc {w w1 : World} {G C S : Array Value} {A : Option Addr} {len : Nat} {sl : List Sl} (h : PrAt w w1 G C S A len sl) (o : Obj) : PrAt w (w1.alloc o) G C S A len sl := h.below ((Below.refl _ _).alloc (Nat.le_refl _) o)

section
variable (nd fa sk ji dr R : Int) (A : Option Addr) (len c : Nat) (L : Value) (fr : Int) (Q : Value) (f s n d id : Int)
set_option maxRecDepth 100000 in
set_option maxHeartbeats 8000000 in
theorem rpass_any (sa sb frm to : Int) (sl : List Sl) (w : World) (hm : len ≤ 9223372036854775807) (hsl : sl.length = len) (hS : SlotsAt w A len sl) (h64 : frm ≤ 9223372036854775807) (h65 : to ≤ 9223372036854775807) (h66 : -9223372036854775808 ≤ to) :
    Calls Try.prog 40 #[.agg (planC nd fa sk ji dr R (.slice A len c) L fr Q), clk f s n d, .int .i64 id, spanV sa sb, .int .i64 frm, .int .i64 to] w (PaPost w (psR f s n d R id sa sb to sl 50 (max frm 0))) := by
  obtain ⟨F, hF⟩ : ∃ F : Nat, max frm 0 = F := ⟨(max frm 0).toNat, by omega⟩
  have hF1 : (F : Int) ≤ 9223372036854775807 := by omega
  obtain ⟨res, hres⟩ : ∃ res, res = psR f s n d R id sa sb to sl 50 F := ⟨_, rfl⟩
  rw [hF, ← hres]
  have HRES := hide hres; clear hres
  have hP0 : PrAt w ((((w.alloc (.cells (planC nd fa sk ji dr R (.slice A len c) L fr Q) 86)).alloc (.cells #[.int .i64 f, .int .i64 s, .int .i64 n, .int .i64 d] 92)).alloc (.cells #[.int .i64 sa, .int .i64 sb] 88)).alloc (.cells #[.int .i64 0, .int .i64 0] 88)) (planC nd fa sk ji dr R (.slice A len c) L fr Q) #[.int .i64 f, .int .i64 s, .int .i64 n, .int .i64 d] #[.int .i64 sa, .int .i64 sb] A len sl := by
    have hB : Below w.heap.size w ((((w.alloc (.cells (planC nd fa sk ji dr R (.slice A len c) L fr Q) 86)).alloc (.cells #[.int .i64 f, .int .i64 s, .int .i64 n, .int .i64 d] 92)).alloc (.cells #[.int .i64 sa, .int .i64 sb] 88)).alloc (.cells #[.int .i64 0, .int .i64 0] 88)) := ((((Below.refl _ _).alloc (Nat.le_refl _) _).alloc (by simp) _).alloc (by simp; omega) _).alloc (by simp; omega) _
    exact ⟨(((Blk.new w _ _).alloc _).alloc _).alloc _, ((by simpa using Blk.new (w.alloc _) _ _ : Blk _ (w.heap.size + 1) _ _).alloc _).alloc _, (by simpa using Blk.new ((w.alloc _).alloc _) _ _ : Blk _ (w.heap.size + 1 + 1) _ _).alloc _, by simpa using Blk.new (((w.alloc _).alloc _).alloc _) 88 #[.int .i64 0, .int .i64 0], hB, hS.below hB⟩
  have HP := hide hP0; clear hP0 hS
  have HSL := hide hsl; clear hsl
  obtain ⟨hn, hc⟩ | ⟨hn, rfl⟩ : (frm < 0 ∧ F = 0) ∨ (0 ≤ frm ∧ frm = F) := by omega
  · have HC := hide hc; clear hc
    clear hF h64
    go_enter Try.func40, Try.ntmps40
    go_wp2_with fail
    go_loopw [22] (fun i wr => ∃ k : Nat, k ≤ 50 ∧ i = .int .i64 k ∧ Hid (res = psR f s n d R id sa sb to sl (50 - k) ((F : Int) + k) ∧ (k = 0 ∨ 0 ≤ to)) ∧ PrAt w wr (planC nd fa sk ji dr R (.slice A len c) L fr Q) #[.int .i64 f, .int .i64 s, .int .i64 n, .int .i64 d] #[.int .i64 sa, .int .i64 sb] A len sl) (fun i _ => 50 - (intOf i).toNat)
    case atStart => exact ⟨0, by omega, rfl, hide ⟨by rw [HRES.out]; simp, .inl rfl⟩, HP.out⟩
    case round =>
      obtain ⟨k, hk, rfl, hr, hP⟩ := hrel
      have HP := hide hP; clear hP
      by_cases h2 : k < 50
      · have d3 : decide ((k : Int) < 50) = true := decide_eq_true (by omega)
        by_cases h1 : (F : Int) + k ≤ to
        · have d2 : decide (to - (k : Int) < (F : Int)) = false := decide_eq_false (by omega)
          have d2z : decide (to - (k : Int) < 0) = false := decide_eq_false (by omega)
          have d2b : wrap64 (to - (k : Int)) = to - (k : Int) := by unfold wrap64; omega
          have d2c : wrap64 ((F : Int) + (k : Int)) = (F : Int) + (k : Int) := by unfold wrap64; omega
          have hr1 := hide (show res = orE (psT f s n d R id sa sb ((F : Int) + k) (sl.drop 0)) (psR f s n d R id sa sb to sl (49 - k) ((F : Int) + k + 1)) by rw [← psR_next f s n d R id sa sb to sl (49 - k) _ h1, show 49 - k + 1 = 50 - k by omega]; exact hr.out.1)
          have hto := hide (show 0 ≤ to by omega)
          have hJ : (F : Int) + (k : Int) = (k : Int) := by have := HC.out; omega
          rw [hJ] at hr1 d2c
          have HJ := hide hJ; clear hJ h1 hr
          obtain ⟨i0, i1, i2, i3, i4, i5, i6, i7, i8, i9⟩ := HP.out.g.cells10
          obtain ⟨wo, hwo⟩ : ∃ wo : World, wo = wr := ⟨_, rfl⟩
          rw [← hwo] at HP i0 i1 i2 i3 i4 i5 i6 i7 i8 i9 ⊢
          clear hwo
          go_wp2_with fail
          go_loopw [33] (fun i wr => ∃ m : Nat, m ≤ len ∧ i = .int .i64 m ∧ Hid (res = orE (psT f s n d R id sa sb (k : Int) (sl.drop m)) (psR f s n d R id sa sb to sl (49 - k) ((k : Int) + 1))) ∧ PrAt w wr (planC nd fa sk ji dr R (.slice A len c) L fr Q) #[.int .i64 f, .int .i64 s, .int .i64 n, .int .i64 d] #[.int .i64 sa, .int .i64 sb] A len sl) (fun i _ => len - (intOf i).toNat)
          case atStart => exact ⟨0, by omega, rfl, hr1, HP.out⟩
          case round =>
            clear i0 i1 i2 i3 i4 i5 i6 i7 i8 i9 HP HRES hr1 d2 d2b d2z d3
            obtain ⟨m, hm2, rfl, hr2, hP⟩ := hrel
            by_cases hlt : m < len
            · obtain ⟨b, off, rfl, x, hx, c0, c1, c2⟩ := hP.sl m hlt
              have HX := hide hx; have HP := hide hP; clear hx hP
              have hst := hide (psT_step f s n d R id sa sb (k : Int) sl m x HX.out)
              obtain ⟨i0, i1, i2, i3, i4, i5, i6, i7, i8, i9⟩ := HP.out.g.cells10
              obtain ⟨k0, k1, k2, k3⟩ := HP.out.c.cells4
              by_cases hnd : x.n = id
              · have q1 : (x.n != id) = false := by simp [hnd]
                have HND := hide hnd; clear hnd
                obtain ⟨E, hE⟩ : ∃ E, opE f s n d R (k : Int) x = E := ⟨_, rfl⟩
                obtain ⟨a, ha⟩ : ∃ a, opA f s n d R (k : Int) x = a := ⟨_, rfl⟩
                obtain ⟨bb, hbb⟩ : ∃ bb, opB f s n d R (k : Int) x = bb := ⟨_, rfl⟩
                have HG : Hid (∀ w0 : World, SlotsAt w0 (some ⟨b, off, none⟩) len sl → Calls Try.prog 57 #[.agg (planC nd fa sk ji dr R (.slice (some ⟨b, off, none⟩) len c) L fr Q), clk f s n d, .int .i64 (k : Int), .int .i64 m] w0 (GrPost w0 a bb E)) := hide (fun w0 h => by rw [← hE, ← ha, ← hbb]; exact gr_at nd fa sk ji dr R (some ⟨b, off, none⟩) len c L fr Q f s n d (k : Int) m x sl w0 hlt hm HX.out h)
                have hgo : Hid (goes f s n d R id sa sb (k : Int) x = (decide (E = 0) && meetB a bb sa sb)) := hide (by unfold goes; rw [hE, ha, hbb, decide_eq_true HND.out, Bool.true_and])
                rw [ha, hbb] at hst
                clear hE ha hbb
                go_wp2_with fail
                refine (HG.out _ (HP.out.sl)).mono ?_
                rintro e w3 ⟨rfl, hB⟩
                have HP3 := hide (HP.out.below hB)
                have HP4 := hide (HP3.out.alloc (.cells #[.int .i64 a, .int .i64 bb] 88))
                clear hB HP c0 c1 c2 i0 i1 i2 i3 i4 i5 i6 i7 i8 i9 k0 k1 k2 k3
                obtain ⟨s0, s1, _, _⟩ := HP4.out.s.cells2
                obtain ⟨t0, t1, _, _⟩ := (Blk.new w3 88 #[.int .i64 a, .int .i64 bb]).cells2
                by_cases hE : E = 0
                · have q2 : (E == 0) = true := by simp [hE]
                  have HE0 := hide hE; clear hE
                  go_wp2_with fail
                  refine (rcommon_any a bb sa sb _).mono ?_
                  rintro e w5 ⟨rfl, hB⟩
                  have HP5 := hide (HP4.out.below hB)
                  clear hB s0 s1 t0 t1
                  cases hmt : meetB a bb sa sb
                  · have HMT := hide hmt
                    have HP6 := hide (HP5.out.alloc (.cells #[.int .i64 (comA a bb sa sb), .int .i64 (comB a bb sa sb)] 88))
                    have hno := hide (show psT f s n d R id sa sb (k : Int) (sl.drop m) = psT f s n d R id sa sb (k : Int) (sl.drop (m + 1)) by rw [hst.out, if_neg (by rw [hgo.out, HMT.out]; simp)])
                    clear hmt
                    generalize comA a bb sa sb = ca at *
                    generalize comB a bb sa sb = cb at *
                    go_wp2_with fail
                    go_roundw
                    case rel => exact ⟨m + 1, by omega, by go_num, hide (by rw [← hno.out]; exact hr2.out), HP6.out⟩
                    case measure => simp [intOf]; omega
                  · have HP6 := hide (HP5.out.alloc (.cells #[.int .i64 (comA a bb sa sb), .int .i64 (comB a bb sa sb)] 88))
                    have hyes := hide (show res = some (comA a bb sa sb, comB a bb sa sb) by rw [hr2.out, hst.out, if_pos (by rw [hgo.out, hmt, decide_eq_true HE0.out]; rfl)]; rfl)
                    clear hmt hr2 hst hgo
                    generalize comA a bb sa sb = ca at *
                    generalize comB a bb sa sb = cb at *
                    obtain ⟨t0, t1, _, _⟩ := (Blk.new w5 88 #[.int .i64 ca, .int .i64 cb]).cells2
                    have hRb := HP6.out.r
                    obtain ⟨r0, r1, rz0, rz1⟩ := hRb.cells2
                    have HR := hide hRb; clear hRb
                    go_wp2_with fail
                    exact bodyPost_ret (rp_results _ _ (w.heap.size + 1 + 1 + 1) _ _ _ rfl rfl ((HR.out.set_ 0 _).set_ 1 _)) rfl (PaPost.some_ hyes.out ((HP6.out.old.setCell (by exact Nat.le_add_right _ 3) _).setCell (by exact Nat.le_add_right _ 3) _))
                · have q2 : (E == 0) = false := by simp [hE]
                  have hno := hide (show psT f s n d R id sa sb (k : Int) (sl.drop m) = psT f s n d R id sa sb (k : Int) (sl.drop (m + 1)) by rw [hst.out, if_neg (by rw [hgo.out, decide_eq_false hE]; simp)])
                  clear hE
                  go_wp2_with fail
                  go_roundw
                  case rel => exact ⟨m + 1, by omega, by go_num, hide (by rw [← hno.out]; exact hr2.out), HP4.out⟩
                  case measure => simp [intOf]; omega
              · have q1 : (x.n != id) = true := by simp [hnd]
                have hno := hide (show psT f s n d R id sa sb (k : Int) (sl.drop m) = psT f s n d R id sa sb (k : Int) (sl.drop (m + 1)) by rw [hst.out, if_neg (by unfold goes; rw [decide_eq_false hnd]; simp)])
                clear hnd
                go_wp2_with fail
                go_roundw
                case rel => exact ⟨m + 1, by omega, by go_num, hide (by rw [← hno.out]; exact hr2.out), HP.out⟩
                case measure => simp [intOf]; omega
            · obtain rfl : m = len := by omega
              have hr3 := hide (show res = psR f s n d R id sa sb to sl (49 - k) ((k : Int) + 1) by rw [hr2.out, psT_end f s n d R id sa sb (k : Int) sl m (by rw [HSL.out]; exact Nat.le_refl _)]; rfl)
              have HP := hide hP; clear hP hr2
              go_wp2_with fail
              go_roundw
              case rel => exact ⟨k + 1, by omega, by go_num, hide ⟨by rw [hr3.out, show 50 - (k + 1) = 49 - k by omega, ← HJ.out, show (F : Int) + (k : Int) + 1 = (F : Int) + ((k + 1 : Nat) : Int) by omega], .inr hto.out⟩, HP.out⟩
              case measure => simp [intOf]; omega
        · have d2 : decide (to - (k : Int) < (F : Int)) = true := decide_eq_true (by omega)
          have d2z : decide (to - (k : Int) < 0) = true := decide_eq_true (by have := HC.out; omega)
          have d2b : wrap64 (to - (k : Int)) = to - (k : Int) := by have := hr.out.2; unfold wrap64; omega
          have hnone := hide (show res = none by rw [hr.out.1]; exact psR_over f s n d R id sa sb to sl _ _ (by omega))
          clear hr
          have hRb := HP.out.r
          obtain ⟨r0, r1, rz0, rz1⟩ := hRb.cells2
          have HR := hide hRb; clear hRb
          go_wp2_with fail
          exact bodyPost_ret (rp_results _ _ (w.heap.size + 1 + 1 + 1) _ _ _ rfl rfl ((HR.out.set_ 0 _).set_ 1 _)) rfl (PaPost.none_ hnone.out ((HP.out.old.setCell (by exact Nat.le_add_right _ 3) _).setCell (by exact Nat.le_add_right _ 3) _))
      · obtain rfl : k = 50 := by omega
        have hnone := hide (show res = none by rw [hr.out.1]; rfl)
        clear hr
        have hRb := HP.out.r
        obtain ⟨r0, r1, rz0, rz1⟩ := hRb.cells2
        have HR := hide hRb; clear hRb
        go_wp2_with fail
        exact bodyPost_ret (rp_results _ _ (w.heap.size + 1 + 1 + 1) _ _ _ rfl rfl ((HR.out.set_ 0 _).set_ 1 _)) rfl (PaPost.none_ hnone.out ((HP.out.old.setCell (by exact Nat.le_add_right _ 3) _).setCell (by exact Nat.le_add_right _ 3) _))
  · have HC := hide (rfl : F = F)
    clear hF h64
    go_enter Try.func40, Try.ntmps40
    go_wp2_with fail
    go_loopw [22] (fun i wr => ∃ k : Nat, k ≤ 50 ∧ i = .int .i64 k ∧ Hid (res = psR f s n d R id sa sb to sl (50 - k) ((F : Int) + k) ∧ (k = 0 ∨ 0 ≤ to)) ∧ PrAt w wr (planC nd fa sk ji dr R (.slice A len c) L fr Q) #[.int .i64 f, .int .i64 s, .int .i64 n, .int .i64 d] #[.int .i64 sa, .int .i64 sb] A len sl) (fun i _ => 50 - (intOf i).toNat)
    case atStart => exact ⟨0, by omega, rfl, hide ⟨by rw [HRES.out]; simp, .inl rfl⟩, HP.out⟩
    case round =>
      obtain ⟨k, hk, rfl, hr, hP⟩ := hrel
      have HP := hide hP; clear hP
      by_cases h2 : k < 50
      · have d3 : decide ((k : Int) < 50) = true := decide_eq_true (by omega)
        by_cases h1 : (F : Int) + k ≤ to
        · have d2 : decide (to - (k : Int) < (F : Int)) = false := decide_eq_false (by omega)
          have d2b : wrap64 (to - (k : Int)) = to - (k : Int) := by unfold wrap64; omega
          have d2c : wrap64 ((F : Int) + (k : Int)) = (F : Int) + (k : Int) := by unfold wrap64; omega
          have hr1 := hide (show res = orE (psT f s n d R id sa sb ((F : Int) + k) (sl.drop 0)) (psR f s n d R id sa sb to sl (49 - k) ((F : Int) + k + 1)) by rw [← psR_next f s n d R id sa sb to sl (49 - k) _ h1, show 49 - k + 1 = 50 - k by omega]; exact hr.out.1)
          have hto := hide (show 0 ≤ to by omega)
          obtain ⟨J, hJ⟩ : ∃ J, (F : Int) + (k : Int) = J := ⟨_, rfl⟩
          rw [hJ] at hr1 d2c
          have HJ := hide hJ; clear hJ h1 hr
          obtain ⟨i0, i1, i2, i3, i4, i5, i6, i7, i8, i9⟩ := HP.out.g.cells10
          obtain ⟨wo, hwo⟩ : ∃ wo : World, wo = wr := ⟨_, rfl⟩
          rw [← hwo] at HP i0 i1 i2 i3 i4 i5 i6 i7 i8 i9 ⊢
          clear hwo
          go_wp2_with fail
          go_loopw [33] (fun i wr => ∃ m : Nat, m ≤ len ∧ i = .int .i64 m ∧ Hid (res = orE (psT f s n d R id sa sb J (sl.drop m)) (psR f s n d R id sa sb to sl (49 - k) (J + 1))) ∧ PrAt w wr (planC nd fa sk ji dr R (.slice A len c) L fr Q) #[.int .i64 f, .int .i64 s, .int .i64 n, .int .i64 d] #[.int .i64 sa, .int .i64 sb] A len sl) (fun i _ => len - (intOf i).toNat)
          case atStart => exact ⟨0, by omega, rfl, hr1, HP.out⟩
          case round =>
            clear i0 i1 i2 i3 i4 i5 i6 i7 i8 i9 HP HRES hr1 d2 d2b d3
            obtain ⟨m, hm2, rfl, hr2, hP⟩ := hrel
            by_cases hlt : m < len
            · obtain ⟨b, off, rfl, x, hx, c0, c1, c2⟩ := hP.sl m hlt
              have HX := hide hx; have HP := hide hP; clear hx hP
              have hst := hide (psT_step f s n d R id sa sb J sl m x HX.out)
              obtain ⟨i0, i1, i2, i3, i4, i5, i6, i7, i8, i9⟩ := HP.out.g.cells10
              obtain ⟨k0, k1, k2, k3⟩ := HP.out.c.cells4
              by_cases hnd : x.n = id
              · have q1 : (x.n != id) = false := by simp [hnd]
                have HND := hide hnd; clear hnd
                obtain ⟨E, hE⟩ : ∃ E, opE f s n d R J x = E := ⟨_, rfl⟩
                obtain ⟨a, ha⟩ : ∃ a, opA f s n d R J x = a := ⟨_, rfl⟩
                obtain ⟨bb, hbb⟩ : ∃ bb, opB f s n d R J x = bb := ⟨_, rfl⟩
                have HG : Hid (∀ w0 : World, SlotsAt w0 (some ⟨b, off, none⟩) len sl → Calls Try.prog 57 #[.agg (planC nd fa sk ji dr R (.slice (some ⟨b, off, none⟩) len c) L fr Q), clk f s n d, .int .i64 J, .int .i64 m] w0 (GrPost w0 a bb E)) := hide (fun w0 h => by rw [← hE, ← ha, ← hbb]; exact gr_at nd fa sk ji dr R (some ⟨b, off, none⟩) len c L fr Q f s n d J m x sl w0 hlt hm HX.out h)
                have hgo : Hid (goes f s n d R id sa sb J x = (decide (E = 0) && meetB a bb sa sb)) := hide (by unfold goes; rw [hE, ha, hbb, decide_eq_true HND.out, Bool.true_and])
                rw [ha, hbb] at hst
                clear hE ha hbb
                have hJ2 := HJ.out
                go_wp2_with fail
                clear hJ2
                refine (HG.out _ (HP.out.sl)).mono ?_
                rintro e w3 ⟨rfl, hB⟩
                have HP3 := hide (HP.out.below hB)
                have HP4 := hide (HP3.out.alloc (.cells #[.int .i64 a, .int .i64 bb] 88))
                clear hB HP c0 c1 c2 i0 i1 i2 i3 i4 i5 i6 i7 i8 i9 k0 k1 k2 k3
                obtain ⟨s0, s1, _, _⟩ := HP4.out.s.cells2
                obtain ⟨t0, t1, _, _⟩ := (Blk.new w3 88 #[.int .i64 a, .int .i64 bb]).cells2
                by_cases hE : E = 0
                · have q2 : (E == 0) = true := by simp [hE]
                  have HE0 := hide hE; clear hE
                  go_wp2_with fail
                  refine (rcommon_any a bb sa sb _).mono ?_
                  rintro e w5 ⟨rfl, hB⟩
                  have HP5 := hide (HP4.out.below hB)
                  clear hB s0 s1 t0 t1
                  cases hmt : meetB a bb sa sb
                  · have HMT := hide hmt
                    have HP6 := hide (HP5.out.alloc (.cells #[.int .i64 (comA a bb sa sb), .int .i64 (comB a bb sa sb)] 88))
                    have hno := hide (show psT f s n d R id sa sb J (sl.drop m) = psT f s n d R id sa sb J (sl.drop (m + 1)) by rw [hst.out, if_neg (by rw [hgo.out, HMT.out]; simp)])
                    clear hmt
                    generalize comA a bb sa sb = ca at *
                    generalize comB a bb sa sb = cb at *
                    go_wp2_with fail
                    go_roundw
                    case rel => exact ⟨m + 1, by omega, by go_num, hide (by rw [← hno.out]; exact hr2.out), HP6.out⟩
                    case measure => simp [intOf]; omega
                  · have HP6 := hide (HP5.out.alloc (.cells #[.int .i64 (comA a bb sa sb), .int .i64 (comB a bb sa sb)] 88))
                    have hyes := hide (show res = some (comA a bb sa sb, comB a bb sa sb) by rw [hr2.out, hst.out, if_pos (by rw [hgo.out, hmt, decide_eq_true HE0.out]; rfl)]; rfl)
                    clear hmt hr2 hst hgo
                    generalize comA a bb sa sb = ca at *
                    generalize comB a bb sa sb = cb at *
                    obtain ⟨t0, t1, _, _⟩ := (Blk.new w5 88 #[.int .i64 ca, .int .i64 cb]).cells2
                    have hRb := HP6.out.r
                    obtain ⟨r0, r1, rz0, rz1⟩ := hRb.cells2
                    have HR := hide hRb; clear hRb
                    go_wp2_with fail
                    exact bodyPost_ret (rp_results _ _ (w.heap.size + 1 + 1 + 1) _ _ _ rfl rfl ((HR.out.set_ 0 _).set_ 1 _)) rfl (PaPost.some_ hyes.out ((HP6.out.old.setCell (by exact Nat.le_add_right _ 3) _).setCell (by exact Nat.le_add_right _ 3) _))
                · have q2 : (E == 0) = false := by simp [hE]
                  have hno := hide (show psT f s n d R id sa sb J (sl.drop m) = psT f s n d R id sa sb J (sl.drop (m + 1)) by rw [hst.out, if_neg (by rw [hgo.out, decide_eq_false hE]; simp)])
                  clear hE
                  go_wp2_with fail
                  go_roundw
                  case rel => exact ⟨m + 1, by omega, by go_num, hide (by rw [← hno.out]; exact hr2.out), HP4.out⟩
                  case measure => simp [intOf]; omega
              · have q1 : (x.n != id) = true := by simp [hnd]
                have hno := hide (show psT f s n d R id sa sb J (sl.drop m) = psT f s n d R id sa sb J (sl.drop (m + 1)) by rw [hst.out, if_neg (by unfold goes; rw [decide_eq_false hnd]; simp)])
                clear hnd
                go_wp2_with fail
                go_roundw
                case rel => exact ⟨m + 1, by omega, by go_num, hide (by rw [← hno.out]; exact hr2.out), HP.out⟩
                case measure => simp [intOf]; omega
            · obtain rfl : m = len := by omega
              have hr3 := hide (show res = psR f s n d R id sa sb to sl (49 - k) (J + 1) by rw [hr2.out, psT_end f s n d R id sa sb J sl m (by rw [HSL.out]; exact Nat.le_refl _)]; rfl)
              have HP := hide hP; clear hP hr2
              go_wp2_with fail
              go_roundw
              case rel => exact ⟨k + 1, by omega, by go_num, hide ⟨by rw [hr3.out, show 50 - (k + 1) = 49 - k by omega, ← HJ.out, show (F : Int) + (k : Int) + 1 = (F : Int) + ((k + 1 : Nat) : Int) by omega], .inr hto.out⟩, HP.out⟩
              case measure => simp [intOf]; omega
        · have d2 : decide (to - (k : Int) < (F : Int)) = true := decide_eq_true (by omega)
          have d2b : wrap64 (to - (k : Int)) = to - (k : Int) := by have := hr.out.2; unfold wrap64; omega
          have hnone := hide (show res = none by rw [hr.out.1]; exact psR_over f s n d R id sa sb to sl _ _ (by omega))
          clear hr
          have hRb := HP.out.r
          obtain ⟨r0, r1, rz0, rz1⟩ := hRb.cells2
          have HR := hide hRb; clear hRb
          go_wp2_with fail
          exact bodyPost_ret (rp_results _ _ (w.heap.size + 1 + 1 + 1) _ _ _ rfl rfl ((HR.out.set_ 0 _).set_ 1 _)) rfl (PaPost.none_ hnone.out ((HP.out.old.setCell (by exact Nat.le_add_right _ 3) _).setCell (by exact Nat.le_add_right _ 3) _))
      · obtain rfl : k = 50 := by omega
        have hnone := hide (show res = none by rw [hr.out.1]; rfl)
        clear hr
        have hRb := HP.out.r
        obtain ⟨r0, r1, rz0, rz1⟩ := hRb.cells2
        have HR := hide hRb; clear hRb
        go_wp2_with fail
        exact bodyPost_ret (rp_results _ _ (w.heap.size + 1 + 1 + 1) _ _ _ rfl rfl ((HR.out.set_ 0 _).set_ 1 _)) rfl (PaPost.none_ hnone.out ((HP.out.old.setCell (by exact Nat.le_add_right _ 3) _).setCell (by exact Nat.le_add_right _ 3) _))
end
end Go.Proofs.Ytgdljdhibknjnaa
