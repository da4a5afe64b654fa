/- The walk of metronomeref.Decode; conditions: the bytes lie in memory; metronomeref.Fine holds what start-up lays there. -/
import Derived.Test.YtfdadkngbnhmeaaDoorRzm
import Derived.Test.YtfdadkngbnhmeaaDoorSto
import Derived.Laws.EntriesVeiled
import Derived.Test.YtfdadkngbnhmeaaDoorRgl
namespace Go.Proofs.YtfdadkngbnhmeaaDoor
open Go.RowKit

theorem cfp {w : World} {g : Nat} {t : TypeId} {cs : Array Value} (h : Blk w g t cs) (hs : cs.size = 10) : (w.cell? ⟨g, 0, none⟩ = some (cv w g 0) ∧ w.frozen? ⟨g, 0, none⟩ = false) ∧ (w.cell? ⟨g, 1, none⟩ = some (cv w g 1) ∧ w.frozen? ⟨g, 1, none⟩ = false) ∧ (w.cell? ⟨g, 2, none⟩ = some (cv w g 2) ∧ w.frozen? ⟨g, 2, none⟩ = false) ∧ (w.cell? ⟨g, 3, none⟩ = some (cv w g 3) ∧ w.frozen? ⟨g, 3, none⟩ = false) ∧ (w.cell? ⟨g, 4, none⟩ = some (cv w g 4) ∧ w.frozen? ⟨g, 4, none⟩ = false) ∧ (w.cell? ⟨g, 5, none⟩ = some (cv w g 5) ∧ w.frozen? ⟨g, 5, none⟩ = false) := by
  have k : ∀ i, i < 10 → w.cell? ⟨g, i, none⟩ = some (cv w g i) ∧ w.frozen? ⟨g, i, none⟩ = false := fun i hi => ⟨cv_eq (by rw [h.cell i, Array.getElem?_eq_getElem (by omega)]), h.frozen i⟩
  exact ⟨k 0 (by omega), k 1 (by omega), k 2 (by omega), k 3 (by omega), k 4 (by omega), k 5 (by omega)⟩
theorem planZ_set6 (a1 a2 a3 a4 a5 a6 : Value) : ((((((planZ.setIfInBounds 0 a1).setIfInBounds 1 a2).setIfInBounds 2 a3).setIfInBounds 3 a4).setIfInBounds 4 a5).setIfInBounds 5 a6) = #[a1, a2, a3, a4, a5, a6, .slice none 0 0, .slice none 0 0, .int .i64 0, .slice none 0 0] := by simp
theorem rz_s {w wr : World} {gn : Nat} {s : Rst} {v : Value} {P : Array Value} (h : RdAt w wr gn s v P) (hs : P.size = 10) : wr.cell? ⟨gn + 1 + 1, 0, none⟩ = some (.func (.func 22) #[] #[.pointer (some ⟨gn, 0, none⟩), .pointer (some ⟨gn + 1, 0, none⟩)]) ∧ (wr.cell? ⟨w.heap.size + 1 + 1, 0, none⟩ = some (cv wr (w.heap.size + 1 + 1) 0) ∧ wr.frozen? ⟨w.heap.size + 1 + 1, 0, none⟩ = false) ∧ (wr.cell? ⟨w.heap.size + 1 + 1, 1, none⟩ = some (cv wr (w.heap.size + 1 + 1) 1) ∧ wr.frozen? ⟨w.heap.size + 1 + 1, 1, none⟩ = false) ∧ (wr.cell? ⟨w.heap.size + 1 + 1, 2, none⟩ = some (cv wr (w.heap.size + 1 + 1) 2) ∧ wr.frozen? ⟨w.heap.size + 1 + 1, 2, none⟩ = false) ∧ (wr.cell? ⟨w.heap.size + 1 + 1, 3, none⟩ = some (cv wr (w.heap.size + 1 + 1) 3) ∧ wr.frozen? ⟨w.heap.size + 1 + 1, 3, none⟩ = false) ∧ (wr.cell? ⟨w.heap.size + 1 + 1, 4, none⟩ = some (cv wr (w.heap.size + 1 + 1) 4) ∧ wr.frozen? ⟨w.heap.size + 1 + 1, 4, none⟩ = false) ∧ (wr.cell? ⟨w.heap.size + 1 + 1, 5, none⟩ = some (cv wr (w.heap.size + 1 + 1) 5) ∧ wr.frozen? ⟨w.heap.size + 1 + 1, 5, none⟩ = false) := ⟨h.f.cells1.1, cfp h.p hs⟩
theorem setTen {P : Array Value} (h : P.size = 10) (i : Nat) (v : Value) : (P.setIfInBounds i v).size = 10 := by rw [Array.size_setIfInBounds]; exact h
theorem below_dr {B : Nat} {a w : World} (h : Below B a w) : Below B a w.drew := ⟨h.os, h.tape, h.output, h.size, h.block⟩
theorem pz10 : planZ.size = 10 := rfl
/-- numbers' answer, whatever it is. -/
theorem rq_open {w : World} {l : List Nat} {r : Ending} {w' : World} (h : RqPost w l r w') : ∃ ns v ok, r = .returned (.tuple #[v, .bool ok]) ∧ QAt w' w.heap.size 3 v (zN ns) ∧ ns.length ≤ l.length ∧ (ok = true → nums l = some ns) ∧ (ok = false → nums l = none ∧ ns = []) ∧ (∀ k, v.ownBlock = some k → w.heap.size ≤ k ∧ k < w'.heap.size) ∧ Below w.heap.size w w' := by
  obtain ⟨hB, ⟨h1, rfl⟩ | ⟨ns, v, h1, h2, rfl, h3⟩⟩ := h
  · exact ⟨[], .slice none 0 0, false, rfl, QAt.nil _ _ _ _, by simp, (fun e => by cases e), (fun _ => ⟨h1, rfl⟩), (fun k e => by simp [Value.ownBlock] at e), hB⟩
  · exact ⟨ns, v, true, rfl, QAt.of_own h3 (Nat.le_refl _), h2, (fun _ => h1), (fun e => by cases e), rn_base h3, hB⟩
set_option maxRecDepth 100000 in
set_option maxHeartbeats 8000000 in
theorem rdec_any (A : Option Addr) (n c : Nat) (l : List Nat) (w : World) (hB : BsAt w A l) (hl : l.length = n) (hc : n ≤ c) (hm : c ≤ 9223372036854775807) (h256 : ∀ x ∈ l, x < 256) (hl3 : n ≤ 3000) (hF : FinT w) :
    Calls Tryd.prog 7 #[.slice A n c] w (RdPost w l) := by
  have HB := hide hB; have HL := hide hl; have H256 := hide h256; have HF := hide hF
  clear hB hl h256 hF
  obtain ⟨W0, hW0⟩ : ∃ W0, W0 = ((w.alloc (.cells planZ 27)).alloc (.cells #[.int .i64 0, .int .i64 0] 30)).alloc (.cells planZ 27) := ⟨_, rfl⟩
  have HB0 : Hid (Below w.heap.size w W0) := hide (by rw [hW0]; exact (((Below.refl _ _).alloc (Nat.le_refl _) _).alloc (by simp) _).alloc (by simp; omega) _)
  have HS0 : Hid (W0.heap.size = w.heap.size + 1 + 1 + 1) := hide (by rw [hW0]; simp)
  go_enter Tryd.func7, Tryd.ntmps7
  go_wp2_with fail
  rw [← hW0]
  refine (numbers_any A n c l W0 (HB.out.below HB0.out) HL.out hc hm H256.out hl3).mono ?_
  rintro r w1 hpost
  obtain ⟨ns, v, ok, rfl, hq, hns, hok1, hok2, hv, hBn⟩ := rq_open hpost
  obtain ⟨aq, cq, hvv, -⟩ := hq.shape
  rw [zN_len] at hvv
  subst hvv
  obtain ⟨bad, hbad⟩ : ∃ bad, bad = (!ok || decide (2000 < n)) := ⟨_, rfl⟩
  have HST := hide (RdAt.start (w := w) (s := ⟨ns, bad⟩) (by rw [← hW0]; exact hBn) (by rw [← hW0]; exact hq) (fun k e => ⟨by have := (hv k e).1; rw [HS0.out] at this; omega, (hv k e).2⟩))
  have HOK1 := hide hok1; have HOK2 := hide hok2; have HNS : Hid (ns.length ≤ 3000) := hide (by have := HL.out; omega)
  have HBAD := hide hbad
  clear hpost hq hns hok1 hok2 hv hBn hW0 hbad
  go_upto_region 3 with fail
  go_cut [7] from 21 to 27 (fun p wx => p = .pointer (some ⟨w1.heap.size + 1, 0, none⟩) ∧ wx = (w1.alloc (.cells #[.slice aq ns.length cq] 40)).alloc (.cells #[.bool bad] 4))
  case first =>
    cases ok
    case false =>
      have hb : bad = true := by rw [HBAD.out]; rfl
      subst hb
      go_wp2_with fail
      go_meet
      case rel => exact ⟨by simp, rfl⟩
    case true =>
      have hb : bad = decide (2000 < n) := by rw [HBAD.out]; rfl
      by_cases h2 : 2000 < n
      · have d1 : decide ((2000 : Int) < (n : Int)) = true := decide_eq_true (by omega)
        have hb2 : bad = true := by rw [hb]; exact decide_eq_true h2
        subst hb2
        clear hb
        go_wp2_with fail
        go_meet
        case rel => exact ⟨by simp, rfl⟩
      · have d1 : decide ((2000 : Int) < (n : Int)) = false := decide_eq_false (by omega)
        have hb2 : bad = false := by rw [hb]; exact decide_eq_false h2
        subst hb2
        clear hb
        go_wp2_with fail
        go_meet
        case rel => exact ⟨by simp, rfl⟩
  case rest =>
  obtain ⟨rfl, rfl⟩ := hcut
  go_upto_region 6 with fail
  obtain ⟨gn, hgn⟩ : ∃ gn, w1.heap.size = gn := ⟨_, rfl⟩
  rw [hgn] at HST
  obtain ⟨W5, hW5⟩ : ∃ W5, W5 = ((w1.alloc (.cells #[.slice aq ns.length cq] 40)).alloc (.cells #[.bool bad] 4)).alloc (.cells #[ndF gn (gn + 1)] 61) := ⟨_, rfl⟩
  have HST2 : Hid (RdAt w W5 gn ⟨ns, bad⟩ (.slice aq ns.length cq) planZ) := hide (by rw [hW5]; exact HST.out)
  rw [hgn, ← hW5]
  clear hgn hW5 HST
  obtain ⟨s0, hs0⟩ : ∃ s0 : Rst, s0 = ⟨ns, bad⟩ := ⟨_, rfl⟩
  obtain ⟨a1, s1, hq1⟩ : ∃ a s, numN s0 = (a, s) := ⟨_, _, rfl⟩
  obtain ⟨a2, s2, hq2⟩ : ∃ a s, numN s1 = (a, s) := ⟨_, _, rfl⟩
  obtain ⟨a3, s3, hq3⟩ : ∃ a s, numN s2 = (a, s) := ⟨_, _, rfl⟩
  obtain ⟨a4, s4, hq4⟩ : ∃ a s, numN s3 = (a, s) := ⟨_, _, rfl⟩
  obtain ⟨a5, s5, hq5⟩ : ∃ a s, numN s4 = (a, s) := ⟨_, _, rfl⟩
  obtain ⟨a6, s6, hq6⟩ : ∃ a s, numN s5 = (a, s) := ⟨_, _, rfl⟩
  rw [← hs0] at HST2
  have HL0 : Hid (s0.l.length ≤ 3000) := hide (by rw [hs0]; exact HNS.out)
  have HQ1 := hide hq1; have HQ2 := hide hq2; have HQ3 := hide hq3; have HQ4 := hide hq4; have HQ5 := hide hq5; have HQ6 := hide hq6
  have HL1 := hide (numN_le HL0.out HQ1); have HL2 := hide (numN_le HL1.out HQ2); have HL3 := hide (numN_le HL2.out HQ3); have HL4 := hide (numN_le HL3.out HQ4); have HL5 := hide (numN_le HL4.out HQ5); have HL6 := hide (numN_le HL5.out HQ6)
  have HS00 := hide hs0
  clear hs0 hq1 hq2 hq3 hq4 hq5 hq6
  have HR0 := hide HST2.out.drew
  have HK0 := hide (rz_s HR0.out rfl)
  go_cut [] from 30 to 47 (fun wx => ∃ v', Hid (RdAt w wx gn s6 v' #[.int .i64 (a1 : Nat), .int .i64 (a2 : Nat), .int .i64 (a3 : Nat), .int .i64 (a4 : Nat), .int .i64 (a5 : Nat), .int .i64 (a6 : Nat), .slice none 0 0, .slice none 0 0, .int .i64 0, .slice none 0 0]))
  case first =>
    go_region_held3 (fun w' => w'.cell? ⟨gn + 1 + 1, 0, none⟩ = some (.func (.func 22) #[] #[.pointer (some ⟨gn, 0, none⟩), .pointer (some ⟨gn + 1, 0, none⟩)]) ∧ (w'.cell? ⟨w.heap.size + 1 + 1, 0, none⟩ = some (cv w' (w.heap.size + 1 + 1) 0) ∧ w'.frozen? ⟨w.heap.size + 1 + 1, 0, none⟩ = false) ∧ (w'.cell? ⟨w.heap.size + 1 + 1, 1, none⟩ = some (cv w' (w.heap.size + 1 + 1) 1) ∧ w'.frozen? ⟨w.heap.size + 1 + 1, 1, none⟩ = false) ∧ (w'.cell? ⟨w.heap.size + 1 + 1, 2, none⟩ = some (cv w' (w.heap.size + 1 + 1) 2) ∧ w'.frozen? ⟨w.heap.size + 1 + 1, 2, none⟩ = false) ∧ (w'.cell? ⟨w.heap.size + 1 + 1, 3, none⟩ = some (cv w' (w.heap.size + 1 + 1) 3) ∧ w'.frozen? ⟨w.heap.size + 1 + 1, 3, none⟩ = false) ∧ (w'.cell? ⟨w.heap.size + 1 + 1, 4, none⟩ = some (cv w' (w.heap.size + 1 + 1) 4) ∧ w'.frozen? ⟨w.heap.size + 1 + 1, 4, none⟩ = false) ∧ (w'.cell? ⟨w.heap.size + 1 + 1, 5, none⟩ = some (cv w' (w.heap.size + 1 + 1) 5) ∧ w'.frozen? ⟨w.heap.size + 1 + 1, 5, none⟩ = false)) (first | (with_reducible exact HK0.out) | (with_reducible exact HK1.out) | (with_reducible exact HK2.out) | (with_reducible exact HK3.out) | (with_reducible exact HK4.out) | (with_reducible exact HK5.out) | (with_reducible exact HK6.out) | (with_reducible exact rz_s (HR6.out.setp 0 (.int .i64 (a1 : Nat))) (setTen pz10 0 _)) | (with_reducible exact rz_s ((HR6.out.setp 0 (.int .i64 (a1 : Nat))).setp 1 (.int .i64 (a2 : Nat))) (setTen (setTen pz10 0 _) 1 _)) | (with_reducible exact rz_s (((HR6.out.setp 0 (.int .i64 (a1 : Nat))).setp 1 (.int .i64 (a2 : Nat))).setp 2 (.int .i64 (a3 : Nat))) (setTen (setTen (setTen pz10 0 _) 1 _) 2 _)) | (with_reducible exact rz_s ((((HR6.out.setp 0 (.int .i64 (a1 : Nat))).setp 1 (.int .i64 (a2 : Nat))).setp 2 (.int .i64 (a3 : Nat))).setp 3 (.int .i64 (a4 : Nat))) (setTen (setTen (setTen (setTen pz10 0 _) 1 _) 2 _) 3 _)) | (with_reducible exact rz_s (((((HR6.out.setp 0 (.int .i64 (a1 : Nat))).setp 1 (.int .i64 (a2 : Nat))).setp 2 (.int .i64 (a3 : Nat))).setp 3 (.int .i64 (a4 : Nat))).setp 4 (.int .i64 (a5 : Nat))) (setTen (setTen (setTen (setTen (setTen pz10 0 _) 1 _) 2 _) 3 _) 4 _)) | (with_reducible exact rz_s ((((((HR6.out.setp 0 (.int .i64 (a1 : Nat))).setp 1 (.int .i64 (a2 : Nat))).setp 2 (.int .i64 (a3 : Nat))).setp 3 (.int .i64 (a4 : Nat))).setp 4 (.int .i64 (a5 : Nat))).setp 5 (.int .i64 (a6 : Nat))) (setTen (setTen (setTen (setTen (setTen (setTen pz10 0 _) 1 _) 2 _) 3 _) 4 _) 5 _)))
      (first
        | (go_at_call 22; (with_reducible refine (rz_next HR0.out HL0.out HQ1).mono ?_); rintro r w2 ⟨rfl, v1, h1, h2⟩; have HR1 := hide h1; have HK1 := hide (rz_s h1 rfl); clear h1 h2)
        | (go_at_call 22; (with_reducible refine (rz_next HR1.out HL1.out HQ2).mono ?_); rintro r w3 ⟨rfl, v2, h1, h2⟩; have HR2 := hide h1; have HK2 := hide (rz_s h1 rfl); clear h1 h2)
        | (go_at_call 22; (with_reducible refine (rz_next HR2.out HL2.out HQ3).mono ?_); rintro r w4 ⟨rfl, v3, h1, h2⟩; have HR3 := hide h1; have HK3 := hide (rz_s h1 rfl); clear h1 h2)
        | (go_at_call 22; (with_reducible refine (rz_next HR3.out HL3.out HQ4).mono ?_); rintro r w5 ⟨rfl, v4, h1, h2⟩; have HR4 := hide h1; have HK4 := hide (rz_s h1 rfl); clear h1 h2)
        | (go_at_call 22; (with_reducible refine (rz_next HR4.out HL4.out HQ5).mono ?_); rintro r w6 ⟨rfl, v5, h1, h2⟩; have HR5 := hide h1; have HK5 := hide (rz_s h1 rfl); clear h1 h2)
        | (go_at_call 22; (with_reducible refine (rz_next HR5.out HL5.out HQ6).mono ?_); rintro r w7 ⟨rfl, v6, h1, h2⟩; have HR6 := hide h1; have HK6 := hide (rz_s h1 rfl); clear h1 h2))
    go_wp2_with fail
    go_meet
    case rel =>
      have hx := ((((((HR6.out.setp 0 (.int .i64 (a1 : Nat))).setp 1 (.int .i64 (a2 : Nat))).setp 2 (.int .i64 (a3 : Nat))).setp 3 (.int .i64 (a4 : Nat))).setp 4 (.int .i64 (a5 : Nat))).setp 5 (.int .i64 (a6 : Nat)))
      rw [planZ_set6] at hx
      exact ⟨v6, hide hx⟩
  case rest =>
  obtain ⟨v7, HR7⟩ := hcut
  obtain ⟨N1, hn⟩ : ∃ N, mnK 32 s6 = N := ⟨_, rfl⟩
  obtain ⟨t1, ht⟩ : ∃ t, mnS 32 s6 = t := ⟨_, rfl⟩
  have HN1 := hide hn; have HT1 := hide ht; have HNL1 := hide (mnK_le HN1)
  clear hn ht
  go_wp2_with fail
  refine (rz_many 32 HR7.out HL6.out HN1 HT1).mono ?_
  rintro r wl1 ⟨rfl, vv, h1, h2⟩
  have HV0 : Hid (LvAt w wl1 wl1 gn #[.int .i64 (a1 : Nat), .int .i64 (a2 : Nat), .int .i64 (a3 : Nat), .int .i64 (a4 : Nat), .int .i64 (a5 : Nat), .int .i64 (a6 : Nat), .slice none 0 0, .slice none 0 0, .int .i64 0, .slice none 0 0] 66 3 (.slice none 0 0) [] t1) := hide ⟨⟨vv, h1⟩, World.ownsRow_nil _ _ _ _, Kp.refl _ _, h1.f.lt, mnS_le HL6.out HT1⟩
  clear h1 h2
  obtain ⟨i1, hi1, hza1, hzb1, hzc1⟩ := en_info_parts info_Slot
  go_wp2_with fail
  go_loopw [10] (fun nn wr => ∃ (m : Nat) (xs : List (List Nat)) (s : Rst) (V : Value), nn = .int .i64 (m : Nat) ∧ m ≤ N1 ∧ Hid (RlEq 3 N1 t1 m xs s) ∧ Hid (LvAt w wl1 wr gn #[.int .i64 (a1 : Nat), .int .i64 (a2 : Nat), .int .i64 (a3 : Nat), .int .i64 (a4 : Nat), .int .i64 (a5 : Nat), .int .i64 (a6 : Nat), V, .slice none 0 0, .int .i64 0, .slice none 0 0] 66 3 V xs s)) (fun nn _ => (intOf nn).toNat)
  case atStart => exact ⟨N1, [], t1, .slice none 0 0, rfl, Nat.le_refl _, hide (RlEq.start _ _ _), HV0⟩
  case round =>
    clear HV0
    obtain ⟨m, xs1, sr1, V1, rfl, hmN, HE1, HV1⟩ := hrel
    have HM1 := hide hmN; clear hmN
    obtain ⟨bd, hbd⟩ : ∃ bd, sr1.bad = bd := ⟨_, rfl⟩
    have cb : wr.cell? ⟨gn + 1, 0, none⟩ = some (.bool bd) := by rw [← hbd]; exact HV1.out.bb.cells1.1
    have HBD := hide hbd; clear hbd
    obtain ⟨lg, hlg⟩ : ∃ lg, lg = (decide (0 < m) && !bd) := ⟨_, rfl⟩
    have HLG := hide hlg; clear hlg
    go_upto_region 8 with fail
    go_cut [55] from 50 to 55 (fun p wx => p = .bool lg ∧ wx = wr)
    case first =>
      cases m with
      | zero => (have hl : lg = false := by rw [HLG.out]; rfl); subst hl; go_wp2_with fail; go_meet; case rel => exact ⟨rfl, rfl⟩
      | succ m =>
        have q1 : decide ((0 : Int) < ((m + 1 : Nat) : Int)) = true := decide_eq_true (by omega)
        have q2 : decide ((0 : Int) < (m : Int) + 1) = true := decide_eq_true (by omega)
        cases bd
        case false => (have hl : lg = true := by rw [HLG.out]; simp); subst hl; go_wp2_with fail; go_meet; case rel => exact ⟨rfl, rfl⟩
        case true => (have hl : lg = false := by rw [HLG.out]; simp); subst hl; go_wp2_with fail; go_meet; case rel => exact ⟨rfl, rfl⟩
    case rest =>
    obtain ⟨rfl, rfl⟩ := hcut
    cases lg
    case true =>
      obtain ⟨⟨m, rfl⟩, hb⟩ := lg_true HLG.out
      subst hb; clear cb
      have HFEW : Hid (xs1.length ≤ 40) := hide (by have := HE1.out.len; have := HNL1.out; omega)
      have hmb : m ≤ 40 := by have := HE1.out.len; have := HNL1.out; omega
      obtain ⟨x1, y1, hx1⟩ : ∃ a t, numN sr1 = (a, t) := ⟨_, _, rfl⟩
      obtain ⟨x2, y2, hx2⟩ : ∃ a t, numN y1 = (a, t) := ⟨_, _, rfl⟩
      obtain ⟨x3, y3, hx3⟩ : ∃ a t, numN y2 = (a, t) := ⟨_, _, rfl⟩
      have hsm : some_ numN 3 sr1 = ([x1, x2, x3], y3) := by simp [some_, hx1, hx2, hx3]
      have HE2 := hide (HE1.out.step HBD.out); rw [hsm] at HE2
      have HX1 := hide hx1
      have HX2 := hide hx2
      have HX3 := hide hx3
      clear hsm hx1 hx2 hx3
      go_upto_region 11 with fail
      obtain ⟨hs, hhs⟩ : ∃ hs, wc.heap.size = hs := ⟨_, rfl⟩
      obtain ⟨wS, hwS⟩ : ∃ wS, wS = wc.alloc (.cells #[.int .i64 0, .int .i64 0, .int .i64 0] 66) := ⟨_, rfl⟩
      have HS : Hid (SvAt w wl1 wS gn #[.int .i64 (a1 : Nat), .int .i64 (a2 : Nat), .int .i64 (a3 : Nat), .int .i64 (a4 : Nat), .int .i64 (a5 : Nat), .int .i64 (a6 : Nat), V1, .slice none 0 0, .int .i64 0, .slice none 0 0] 66 3 V1 xs1 sr1 hs #[.int .i64 0, .int .i64 0, .int .i64 0]) := hide (by rw [hwS, ← hhs]; exact SvAt.start HV1.out _)
      rw [hhs, ← hwS]
      clear hhs hwS
      have HS0 := hide HS.out.drew
      have HK0 := hide (sv_s HS0.out rfl)
      go_cut [] from 58 to 68 (fun wx => Hid (SvAt w wl1 wx gn #[.int .i64 (a1 : Nat), .int .i64 (a2 : Nat), .int .i64 (a3 : Nat), .int .i64 (a4 : Nat), .int .i64 (a5 : Nat), .int .i64 (a6 : Nat), V1, .slice none 0 0, .int .i64 0, .slice none 0 0] 66 3 V1 xs1 y3 hs #[.int .i64 (x1 : Nat), .int .i64 (x2 : Nat), .int .i64 (x3 : Nat)]))
      case first =>
        go_region_held3 (fun w' => w'.cell? ⟨gn + 1 + 1, 0, none⟩ = some (.func (.func 22) #[] #[.pointer (some ⟨gn, 0, none⟩), .pointer (some ⟨gn + 1, 0, none⟩)]) ∧ (w'.cell? ⟨hs, 0, none⟩ = some (cv w' hs 0) ∧ w'.frozen? ⟨hs, 0, none⟩ = false) ∧ (w'.cell? ⟨hs, 1, none⟩ = some (cv w' hs 1) ∧ w'.frozen? ⟨hs, 1, none⟩ = false) ∧ (w'.cell? ⟨hs, 2, none⟩ = some (cv w' hs 2) ∧ w'.frozen? ⟨hs, 2, none⟩ = false)) (first | (with_reducible exact HK0.out) | (with_reducible exact HK1.out) | (with_reducible exact HK2.out) | (with_reducible exact HK3.out) | (with_reducible exact sv_s (HS3.out.set_ 0 (.int .i64 (x1 : Nat))) (by simp)) | (with_reducible exact sv_s ((HS3.out.set_ 0 (.int .i64 (x1 : Nat))).set_ 1 (.int .i64 (x2 : Nat))) (by simp)) | (with_reducible exact sv_s (((HS3.out.set_ 0 (.int .i64 (x1 : Nat))).set_ 1 (.int .i64 (x2 : Nat))).set_ 2 (.int .i64 (x3 : Nat))) (by simp)))
          (first | (go_at_call 22; (with_reducible refine (HS0.out.next HX1).mono ?_); rintro r ws1 ⟨rfl, h1⟩; have HS1 := hide h1; have HK1 := hide (sv_s h1 rfl); clear h1) | (go_at_call 22; (with_reducible refine (HS1.out.next HX2).mono ?_); rintro r ws2 ⟨rfl, h1⟩; have HS2 := hide h1; have HK2 := hide (sv_s h1 rfl); clear h1) | (go_at_call 22; (with_reducible refine (HS2.out.next HX3).mono ?_); rintro r ws3 ⟨rfl, h1⟩; have HS3 := hide h1; have HK3 := hide (sv_s h1 rfl); clear h1))
        go_wp2_with fail
        go_meet
        case rel =>
          have hx := (((HS3.out.set_ 0 (.int .i64 (x1 : Nat))).set_ 1 (.int .i64 (x2 : Nat))).set_ 2 (.int .i64 (x3 : Nat)))
          exact hide (by simpa using hx)
      case rest =>
      have HS3 := hcut; clear hcut
      obtain ⟨sc0, sc1, sc2⟩ := blk_cells3 HS3.out.b
      have pc : wc.cell? ⟨w.heap.size + 1 + 1, 6, none⟩ = some V1 := by have := HS3.out.lv.pb.cell 6; simpa using this
      have pf := HS3.out.lv.fz 6
      have HOA := hide (HS3.out.lv.alloc (.cells #[.int .i64 (x1 : Nat), .int .i64 (x2 : Nat), .int .i64 (x3 : Nat)] 66)).own
      clear HK0 HS0 HS
      go_wp2_with (at_builtin; go_must (refine wpList_append_own _ rfl (.tmp 70) (.tmp 72) _ rfl wl1.heap.size 66 i1 _ 3 24 Tryd.underlying23 hi1 hza1 hzb1 hzc1 rfl (by decide) V1 xs1.length (rc xs1) rfl HOA.out ⟨wc.heap.size, 0, none⟩ 1 1 [.int .i64 (x1 : Nat), .int .i64 (x2 : Nat), .int .i64 (x3 : Nat)] rfl rfl (by exact news_blk (Blk.new wc _ _)) (by simp [Value.oneCell']) (by have := HFEW.out; simp [maxLen]; omega) (by have := HFEW.out; omega) (by have := HS3.out.lv.k.sz; simp; omega) ?_); intro v7 w7 hown7 hg7 _; obtain ⟨Bn, en, hv7, hle7, -⟩ := own_cell hown7; subst hv7; have p7 := (HS3.out.lv.alloc _).pgrown hg7; have pc7 := p7.cell 6; have pf7 := p7.frozen 6; have HV7 := hide ((HS3.out.lv.alloc _).push (fi := 6) (x := [x1, x2, x3]) hown7 hg7); clear hown7 hg7 p7)
      go_roundw
      case rel => exact ⟨m, _, _, .slice Bn (xs1.length + 1) en, by go_num, by have := HM1.out; omega, HE2, hide (by have := HV7.out; simpa using this)⟩
      case measure => simp [intOf]
    case false =>
      have HDN1 := hide (HE1.out.done ((lg_false HLG.out).imp id fun e => by rw [HBD.out]; exact e))
      have HW1 := hide HE1.out.wid
      obtain ⟨va1, hva⟩ := HV1.out.at_
      have HRA1 := hide hva; have HFEW1 := hide HV1.out.few; have HGL1 := hide HV1.out.gl
      have HOW1 := hide HV1.out.own
      clear hva HLG HM1 cb HBD HE1 HV1
      obtain ⟨N2, hn⟩ : ∃ N, mnK 8 sr1 = N := ⟨_, rfl⟩
      obtain ⟨t2, ht⟩ : ∃ t, mnS 8 sr1 = t := ⟨_, rfl⟩
      have HN2 := hide hn; have HT2 := hide ht; have HNL2 := hide (mnK_le HN2)
      clear hn ht
      go_wp2_with fail
      refine (rz_many 8 HRA1.out HFEW1.out HN2 HT2).mono ?_
      rintro r wl2 ⟨rfl, vv, h1, h2⟩
      have HV0 : Hid (LvAt w wl2 wl2 gn #[.int .i64 (a1 : Nat), .int .i64 (a2 : Nat), .int .i64 (a3 : Nat), .int .i64 (a4 : Nat), .int .i64 (a5 : Nat), .int .i64 (a6 : Nat), V1, .slice none 0 0, .int .i64 0, .slice none 0 0] 68 4 (.slice none 0 0) [] t2) := hide ⟨⟨vv, h1⟩, World.ownsRow_nil _ _ _ _, Kp.refl _ _, h1.f.lt, mnS_le HFEW1.out HT2⟩
      have HOW1 := hide (own_keep HOW1.out (w' := wl2) fun g hg _ => h2.block g (by have := HGL1.out; omega) (by have := HGL1.out; omega))
      clear h1 h2
      obtain ⟨i2, hi2, hza2, hzb2, hzc2⟩ := en_info_parts info_Link
      go_wp2_with fail
      go_loopw [12] (fun nn wr => ∃ (m : Nat) (xs : List (List Nat)) (s : Rst) (V : Value), nn = .int .i64 (m : Nat) ∧ m ≤ N2 ∧ Hid (RlEq 4 N2 t2 m xs s) ∧ Hid (LvAt w wl2 wr gn #[.int .i64 (a1 : Nat), .int .i64 (a2 : Nat), .int .i64 (a3 : Nat), .int .i64 (a4 : Nat), .int .i64 (a5 : Nat), .int .i64 (a6 : Nat), V1, V, .int .i64 0, .slice none 0 0] 68 4 V xs s)) (fun nn _ => (intOf nn).toNat)
      case atStart => exact ⟨N2, [], t2, .slice none 0 0, rfl, Nat.le_refl _, hide (RlEq.start _ _ _), HV0⟩
      case round =>
        clear HV0
        obtain ⟨m, xs2, sr2, V2, rfl, hmN, HE2, HV2⟩ := hrel
        have HM1 := hide hmN; clear hmN
        obtain ⟨bd, hbd⟩ : ∃ bd, sr2.bad = bd := ⟨_, rfl⟩
        have cb : wr.cell? ⟨gn + 1, 0, none⟩ = some (.bool bd) := by rw [← hbd]; exact HV2.out.bb.cells1.1
        have HBD := hide hbd; clear hbd
        obtain ⟨lg, hlg⟩ : ∃ lg, lg = (decide (0 < m) && !bd) := ⟨_, rfl⟩
        have HLG := hide hlg; clear hlg
        go_upto_region 14 with fail
        go_cut [82] from 77 to 82 (fun p wx => p = .bool lg ∧ wx = wr)
        case first =>
          cases m with
          | zero => (have hl : lg = false := by rw [HLG.out]; rfl); subst hl; go_wp2_with fail; go_meet; case rel => exact ⟨rfl, rfl⟩
          | succ m =>
            have q1 : decide ((0 : Int) < ((m + 1 : Nat) : Int)) = true := decide_eq_true (by omega)
            have q2 : decide ((0 : Int) < (m : Int) + 1) = true := decide_eq_true (by omega)
            cases bd
            case false => (have hl : lg = true := by rw [HLG.out]; simp); subst hl; go_wp2_with fail; go_meet; case rel => exact ⟨rfl, rfl⟩
            case true => (have hl : lg = false := by rw [HLG.out]; simp); subst hl; go_wp2_with fail; go_meet; case rel => exact ⟨rfl, rfl⟩
        case rest =>
        obtain ⟨rfl, rfl⟩ := hcut
        cases lg
        case true =>
          obtain ⟨⟨m, rfl⟩, hb⟩ := lg_true HLG.out
          subst hb; clear cb
          have HFEW : Hid (xs2.length ≤ 40) := hide (by have := HE2.out.len; have := HNL2.out; omega)
          have hmb : m ≤ 40 := by have := HE2.out.len; have := HNL2.out; omega
          obtain ⟨x1, y1, hx1⟩ : ∃ a t, numN sr2 = (a, t) := ⟨_, _, rfl⟩
          obtain ⟨x2, y2, hx2⟩ : ∃ a t, numN y1 = (a, t) := ⟨_, _, rfl⟩
          obtain ⟨x3, y3, hx3⟩ : ∃ a t, numN y2 = (a, t) := ⟨_, _, rfl⟩
          obtain ⟨x4, y4, hx4⟩ : ∃ a t, numN y3 = (a, t) := ⟨_, _, rfl⟩
          have hsm : some_ numN 4 sr2 = ([x1, x2, x3, x4], y4) := by simp [some_, hx1, hx2, hx3, hx4]
          have HE2 := hide (HE2.out.step HBD.out); rw [hsm] at HE2
          have HX1 := hide hx1
          have HX2 := hide hx2
          have HX3 := hide hx3
          have HX4 := hide hx4
          clear hsm hx1 hx2 hx3 hx4
          have HS0 := hide HV2.out.drew
          have pc0 : wc.drew.cell? ⟨w.heap.size + 1 + 1, 7, none⟩ = some V2 := by have := HS0.out.pb.cell 7; simpa using this
          have HPC0 := hide pc0; clear pc0
          obtain ⟨S9, hS9⟩ : ∃ S9 : World → Prop, S9 = fun w' => w'.cell? ⟨gn + 1 + 1, 0, none⟩ = some (.func (.func 22) #[] #[.pointer (some ⟨gn, 0, none⟩), .pointer (some ⟨gn + 1, 0, none⟩)]) ∧ w'.cell? ⟨w.heap.size + 1 + 1, 7, none⟩ = some V2 := ⟨_, rfl⟩
          have HS9 := hide hS9; clear hS9
          go_upto_region 16 with fail
          refine wp_region_noPanic ?_
          refine wp_region_L (S := S9) (L := 14) (by kernel_rfl) ?_
          have hH : S9 wc.drew := by rw [HS9.out]; exact ⟨HS0.out.f, HPC0.out⟩
          try simp only [List.size_toArray, List.length_cons, List.length_nil, Nat.reduceAdd]
          refine wpAnyL_take (i := 0) (v := ?v0) rfl (by kernel_rfl) (by kernel_rfl) (by kernel_rfl) (by kernel_rfl) (fun _ _ _ h => h) (Or.inl ⟨by rfl, ?hy0⟩) (by assumption) ?rest0
          case hy0 => (intro w9 hSw; rw [HS9.out] at hSw; obtain ⟨q9, r9⟩ := hSw; go_simp <;> with_reducible rfl)
          try simp only [Act.put, List.setIfInBounds_toArray, List.set_cons_zero, List.set_cons_succ, List.getElem_toArray, List.getElem_cons_zero]
          refine wpAnyL_take (i := 1) (v := ?v1) rfl (by kernel_rfl) (by kernel_rfl) (by kernel_rfl) (by kernel_rfl) (fun _ _ _ h => h) (Or.inl ⟨by rfl, ?hy1⟩) (by assumption) ?rest1
          case hy1 => (intro w9 hSw; rw [HS9.out] at hSw; obtain ⟨q9, r9⟩ := hSw; go_simp <;> with_reducible rfl)
          try simp only [Act.put, List.setIfInBounds_toArray, List.set_cons_zero, List.set_cons_succ, List.getElem_toArray, List.getElem_cons_zero, List.getElem_cons_succ]
          refine wpAnyL_take (i := 2) (v := ?v2) rfl (by kernel_rfl) (by kernel_rfl) (by kernel_rfl) (by kernel_rfl) (fun _ _ _ h => h) (Or.inl ⟨by rfl, ?hy2⟩) (by assumption) ?rest2
          case hy2 => (intro w9 hSw; rw [HS9.out] at hSw; obtain ⟨q9, r9⟩ := hSw; go_simp <;> with_reducible rfl)
          try simp only [Act.put, List.setIfInBounds_toArray, List.set_cons_zero, List.set_cons_succ, List.getElem_toArray, List.getElem_cons_zero, List.getElem_cons_succ]
          refine wpAnyL_take (i := 4) (v := ?v4) rfl (by kernel_rfl) (by kernel_rfl) (by kernel_rfl) (by kernel_rfl) (fun _ _ _ h => h) (Or.inl ⟨by rfl, ?hy4⟩) (by assumption) ?rest4
          case hy4 => (intro w9 hSw; rw [HS9.out] at hSw; obtain ⟨q9, r9⟩ := hSw; go_simp <;> with_reducible rfl)
          try simp only [Act.put, List.setIfInBounds_toArray, List.set_cons_zero, List.set_cons_succ, List.getElem_toArray, List.getElem_cons_zero, List.getElem_cons_succ]
          refine wpAnyL_take (i := 6) (v := ?v6) rfl (by kernel_rfl) (by kernel_rfl) (by kernel_rfl) (by kernel_rfl) (fun _ _ _ h => h) (Or.inl ⟨by rfl, ?hy6⟩) (by assumption) ?rest6
          case hy6 => (intro w9 hSw; rw [HS9.out] at hSw; obtain ⟨q9, r9⟩ := hSw; go_simp <;> with_reducible rfl)
          try simp only [Act.put, List.setIfInBounds_toArray, List.set_cons_zero, List.set_cons_succ, List.getElem_toArray, List.getElem_cons_zero, List.getElem_cons_succ]
          refine wpAnyL_take (i := 8) (v := ?v8) rfl (by kernel_rfl) (by kernel_rfl) (by kernel_rfl) (by kernel_rfl) (fun _ _ _ h => h) (Or.inl ⟨by rfl, ?hy8⟩) (by assumption) ?rest8
          case hy8 => (intro w9 hSw; rw [HS9.out] at hSw; obtain ⟨q9, r9⟩ := hSw; go_simp <;> with_reducible rfl)
          try simp only [Act.put, List.setIfInBounds_toArray, List.set_cons_zero, List.set_cons_succ, List.getElem_toArray, List.getElem_cons_zero, List.getElem_cons_succ]
          refine wpAnyL_one (i := 3) (by kernel_rfl) rfl (fun K9 hK9 => ?_)
          try simp only [List.getElem_toArray, List.getElem_cons_zero, List.getElem_cons_succ]
          go_simp
          (with_reducible refine (HS0.out.next HX1).mono ?_)
          rintro r ws1 ⟨rfl, h1, -⟩
          have HS1 := hide h1; clear h1
          have HPC1 : Hid (ws1.cell? ⟨w.heap.size + 1 + 1, 7, none⟩ = some V2) := hide (by have := HS1.out.pb.cell 7; simpa using this)
          clear hH
          try go_simp
          refine hK9.out _ _ (fun _ => ?hSws1) ?_
          case hSws1 => (rw [HS9.out]; exact ⟨HS1.out.f, HPC1.out⟩)
          have hH : S9 (ws1) := by rw [HS9.out]; exact ⟨HS1.out.f, HPC1.out⟩
          clear hK9 K9
          try simp only [Act.put, List.setIfInBounds_toArray, List.set_cons_zero, List.set_cons_succ]
          refine wpAnyL_one (i := 5) (by kernel_rfl) rfl (fun K9 hK9 => ?_)
          try simp only [List.getElem_toArray, List.getElem_cons_zero, List.getElem_cons_succ]
          go_simp
          (with_reducible refine (HS1.out.next HX2).mono ?_)
          rintro r ws2 ⟨rfl, h1, -⟩
          have HS2 := hide h1; clear h1
          have HPC2 : Hid (ws2.cell? ⟨w.heap.size + 1 + 1, 7, none⟩ = some V2) := hide (by have := HS2.out.pb.cell 7; simpa using this)
          clear hH
          try go_simp
          refine hK9.out _ _ (fun _ => ?hSws2) ?_
          case hSws2 => (rw [HS9.out]; exact ⟨HS2.out.f, HPC2.out⟩)
          have hH : S9 (ws2) := by rw [HS9.out]; exact ⟨HS2.out.f, HPC2.out⟩
          clear hK9 K9
          try simp only [Act.put, List.setIfInBounds_toArray, List.set_cons_zero, List.set_cons_succ]
          refine wpAnyL_one (i := 7) (by kernel_rfl) rfl (fun K9 hK9 => ?_)
          try simp only [List.getElem_toArray, List.getElem_cons_zero, List.getElem_cons_succ]
          go_simp
          (with_reducible refine (HS2.out.next HX3).mono ?_)
          rintro r ws3 ⟨rfl, h1, -⟩
          have HS3 := hide h1; clear h1
          have HPC3 : Hid (ws3.cell? ⟨w.heap.size + 1 + 1, 7, none⟩ = some V2) := hide (by have := HS3.out.pb.cell 7; simpa using this)
          clear hH
          try go_simp
          refine hK9.out _ _ (fun _ => ?hSws3) ?_
          case hSws3 => (rw [HS9.out]; exact ⟨HS3.out.f, HPC3.out⟩)
          have hH : S9 (ws3) := by rw [HS9.out]; exact ⟨HS3.out.f, HPC3.out⟩
          clear hK9 K9
          try simp only [Act.put, List.setIfInBounds_toArray, List.set_cons_zero, List.set_cons_succ]
          refine wpAnyL_one (i := 9) (by kernel_rfl) rfl (fun K9 hK9 => ?_)
          try simp only [List.getElem_toArray, List.getElem_cons_zero, List.getElem_cons_succ]
          go_simp
          (with_reducible refine (HS3.out.next HX4).mono ?_)
          rintro r ws4 ⟨rfl, h1, -⟩
          have HS4 := hide h1; clear h1
          have HPC4 : Hid (ws4.cell? ⟨w.heap.size + 1 + 1, 7, none⟩ = some V2) := hide (by have := HS4.out.pb.cell 7; simpa using this)
          clear hH
          try go_simp
          refine hK9.out _ _ (fun _ => ?hSws4) ?_
          case hSws4 => (rw [HS9.out]; exact ⟨HS4.out.f, HPC4.out⟩)
          have hH : S9 (ws4) := by rw [HS9.out]; exact ⟨HS4.out.f, HPC4.out⟩
          clear hK9 K9
          try simp only [Act.put, List.setIfInBounds_toArray, List.set_cons_zero, List.set_cons_succ]
          refine wpAnyL_take (i := 10) (v := ?v10) rfl (by kernel_rfl) (by kernel_rfl) (by kernel_rfl) (by kernel_rfl) (fun _ _ _ h => h) (Or.inl ⟨by rfl, ?hy10⟩) (by assumption) ?rest10
          case hy10 => (intro w9 hSw; rw [HS9.out] at hSw; obtain ⟨q9, r9⟩ := hSw; go_simp <;> with_reducible rfl)
          try simp only [Act.put, List.setIfInBounds_toArray, List.set_cons_zero, List.set_cons_succ, List.getElem_toArray, List.getElem_cons_zero, List.getElem_cons_succ]
          refine wpAnyL_one (i := 11) (by kernel_rfl) rfl (fun K9 hK9 => ?_)
          try simp only [List.getElem_toArray, List.getElem_cons_zero, List.getElem_cons_succ]
          go_simp
          have HA := hide (HS4.out.alloc (.cells #[.int .i64 (x1 : Nat), .int .i64 (x2 : Nat), .int .i64 (x3 : Nat), .int .i64 (x4 : Nat)] 68))
          have HPA : Hid ((ws4.alloc (.cells #[.int .i64 (x1 : Nat), .int .i64 (x2 : Nat), .int .i64 (x3 : Nat), .int .i64 (x4 : Nat)] 68)).cell? ⟨w.heap.size + 1 + 1, 7, none⟩ = some V2) := hide (by have := HA.out.pb.cell 7; simpa using this)
          clear hH
          refine hK9.out _ _ (fun _ => ?hSws) ?_
          case hSws => (rw [HS9.out]; exact ⟨HA.out.f, HPA.out⟩)
          have hH : S9 ((ws4.alloc (.cells #[.int .i64 (x1 : Nat), .int .i64 (x2 : Nat), .int .i64 (x3 : Nat), .int .i64 (x4 : Nat)] 68))) := by rw [HS9.out]; exact ⟨HA.out.f, HPA.out⟩
          clear hK9 K9
          try simp only [Act.put, List.setIfInBounds_toArray, List.set_cons_zero, List.set_cons_succ]
          refine wpAnyL_one (i := 12) (by kernel_rfl) rfl (fun K9 hK9 => ?_)
          try simp only [List.getElem_toArray, List.getElem_cons_zero, List.getElem_cons_succ]
          rw [if_pos (by rfl)]
          refine wp_append_own _ (.tmp 86) (.tmp 96) 24 rfl wl2.heap.size 68 i2 _ 4 32 Tryd.underlying24 hi2 hza2 hzb2 hzc2 rfl (by decide) V2 xs2.length (rc xs2) rfl (by exact HA.out.own) ⟨ws4.heap.size, 0, none⟩ 1 1 [.int .i64 (x1 : Nat), .int .i64 (x2 : Nat), .int .i64 (x3 : Nat), .int .i64 (x4 : Nat)] rfl rfl (by exact news_blk (Blk.new ws4 _ _)) (by simp [Value.oneCell']) (by have := HFEW.out; simp [maxLen]; omega) (by have := HFEW.out; omega) (by have := HS4.out.k.sz; simp; omega) ?_
          intro v7 w7 hown7 hg7 _; obtain ⟨Bn, en, hv7, hle7, -⟩ := own_cell hown7; subst hv7; have HP7 := hide (HA.out.pgrown hg7); have HF7 := hide (HA.out.fgrown hg7); have HV7 := hide (HA.out.push (fi := 7) (x := [x1, x2, x3, x4]) hown7 hg7); clear hown7 hg7 hH
          have HPC7 : Hid (w7.cell? ⟨w.heap.size + 1 + 1, 7, none⟩ = some V2) := hide (by have := HP7.out.cell 7; simpa using this)
          refine hK9.out _ _ (fun _ => ?hSw7) ?_
          case hSw7 => (rw [HS9.out]; exact ⟨HF7.out, HPC7.out⟩)
          have hH : S9 (w7) := by rw [HS9.out]; exact ⟨HF7.out, HPC7.out⟩
          clear hK9 K9
          try simp only [Act.put, List.setIfInBounds_toArray, List.set_cons_zero, List.set_cons_succ]
          refine wpAnyL_take (i := 13) (v := ?v13) rfl (by kernel_rfl) (by kernel_rfl) (by kernel_rfl) (by kernel_rfl) (fun _ _ _ h => h) (Or.inl ⟨by rfl, ?hy13⟩) (by assumption) ?rest13
          case hy13 => (intro w9 hSw; rw [HS9.out] at hSw; obtain ⟨q9, r9⟩ := hSw; go_simp <;> with_reducible rfl)
          try simp only [Act.put, List.setIfInBounds_toArray, List.set_cons_zero, List.set_cons_succ, List.getElem_toArray, List.getElem_cons_zero, List.getElem_cons_succ]
          refine wpAnyL_one (i := 14) (by kernel_rfl) rfl (fun K9 hK9 => ?_)
          try simp only [List.getElem_toArray, List.getElem_cons_zero, List.getElem_cons_succ]
          have pc7 := HPC7.out
          have pf7 := HP7.out.frozen 7
          go_simp
          refine hK9.out _ _ (fun h9 => absurd h9 (by decide)) ?_
          refine wpAnyL_done (by kernel_rfl) ?_ _
          refine NoPanic.normal ?_
          clear hK9 K9
          all_goals (go_wp2_with fail; go_roundw; (case rel => exact ⟨m, _, _, .slice Bn (xs2.length + 1) en, by go_num, by have := HM1.out; omega, HE2, hide (by have := HV7.out; simpa using this)⟩); (case measure => simp [intOf]))
        case false =>
          have HDN2 := hide (HE2.out.done ((lg_false HLG.out).imp id fun e => by rw [HBD.out]; exact e))
          have HW2 := hide HE2.out.wid
          obtain ⟨va2, hva⟩ := HV2.out.at_
          have HRA2 := hide hva; have HFEW2 := hide HV2.out.few; have HGL2 := hide HV2.out.gl
          have HOW1 := hide (HV2.out.k.row HOW1.out HGL1.out)
          have HOW2 := hide HV2.out.own
          clear hva HLG HM1 cb HBD HE2 HV2
          obtain ⟨f, tf, hqf⟩ : ∃ a t, numN sr2 = (a, t) := ⟨_, _, rfl⟩
          have HQF := hide hqf; have HLF := hide (numN_le HFEW2.out HQF); clear hqf
          have cf := HRA2.out.f.cells1.1
          go_wp2_with fail
          refine (rz_next HRA2.out HFEW2.out HQF).mono ?_
          rintro r wF ⟨rfl, vF, h1, h2⟩
          have HOW1 := hide (own_set (own_keep HOW1.out (w' := wF) fun g hg _ => h2.block g (by have := HGL1.out; omega) (by have := HGL1.out; omega)) (p := ⟨w.heap.size + 1 + 1, 8, none⟩) (by show w.heap.size + 1 + 1 < wl1.heap.size; have := HGL1.out; have := h1.hg; omega) (.int .i64 (f : Nat)))
          have HOW2 := hide (own_set (own_keep HOW2.out (w' := wF) fun g hg _ => h2.block g (by have := HGL2.out; omega) (by have := HGL2.out; omega)) (p := ⟨w.heap.size + 1 + 1, 8, none⟩) (by show w.heap.size + 1 + 1 < wl2.heap.size; have := HGL2.out; have := h1.hg; omega) (.int .i64 (f : Nat)))
          have z8 : wF.cell? ⟨w.heap.size + 1 + 1, 8, none⟩ = some (.int .i64 0) := by have := h1.p.cell 8; simpa using this
          have y8 := h1.p.frozen 8
          have HRF : Hid (RdAt w (wF.setCell ⟨w.heap.size + 1 + 1, 8, none⟩ (.int .i64 (f : Nat))) gn tf vF #[.int .i64 (a1 : Nat), .int .i64 (a2 : Nat), .int .i64 (a3 : Nat), .int .i64 (a4 : Nat), .int .i64 (a5 : Nat), .int .i64 (a6 : Nat), V1, V2, .int .i64 (f : Nat), .slice none 0 0]) := hide (by have := h1.setp 8 (.int .i64 (f : Nat)); simpa using this)
          clear h1 h2 cf
          obtain ⟨N3, hn⟩ : ∃ N, mnK 32 tf = N := ⟨_, rfl⟩
          obtain ⟨t3, ht⟩ : ∃ t, mnS 32 tf = t := ⟨_, rfl⟩
          have HN3 := hide hn; have HT3 := hide ht; have HNL3 := hide (mnK_le HN3)
          clear hn ht
          go_wp2_with fail
          refine (rz_many 32 HRF.out HLF.out HN3 HT3).mono ?_
          rintro r wl3 ⟨rfl, vv, h1, h2⟩
          have HV0 : Hid (LvAt w wl3 wl3 gn #[.int .i64 (a1 : Nat), .int .i64 (a2 : Nat), .int .i64 (a3 : Nat), .int .i64 (a4 : Nat), .int .i64 (a5 : Nat), .int .i64 (a6 : Nat), V1, V2, .int .i64 (f : Nat), .slice none 0 0] 70 3 (.slice none 0 0) [] t3) := hide ⟨⟨vv, h1⟩, World.ownsRow_nil _ _ _ _, Kp.refl _ _, h1.f.lt, mnS_le HLF.out HT3⟩
          have HOW1 := hide (own_keep HOW1.out (w' := wl3) fun g hg _ => h2.block g (by have := HGL1.out; omega) (by have := HGL1.out; omega))
          have HOW2 := hide (own_keep HOW2.out (w' := wl3) fun g hg _ => h2.block g (by have := HGL2.out; omega) (by have := HGL2.out; omega))
          clear h1 h2
          obtain ⟨i3, hi3, hza3, hzb3, hzc3⟩ := en_info_parts info_Window
          go_wp2_with fail
          go_loopw [13] (fun nn wr => ∃ (m : Nat) (xs : List (List Nat)) (s : Rst) (V : Value), nn = .int .i64 (m : Nat) ∧ m ≤ N3 ∧ Hid (RlEq 3 N3 t3 m xs s) ∧ Hid (LvAt w wl3 wr gn #[.int .i64 (a1 : Nat), .int .i64 (a2 : Nat), .int .i64 (a3 : Nat), .int .i64 (a4 : Nat), .int .i64 (a5 : Nat), .int .i64 (a6 : Nat), V1, V2, .int .i64 (f : Nat), V] 70 3 V xs s)) (fun nn _ => (intOf nn).toNat)
          case atStart => exact ⟨N3, [], t3, .slice none 0 0, rfl, Nat.le_refl _, hide (RlEq.start _ _ _), HV0⟩
          case round =>
            clear HV0
            obtain ⟨m, xs3, sr3, V3, rfl, hmN, HE3, HV3⟩ := hrel
            have HM1 := hide hmN; clear hmN
            obtain ⟨bd, hbd⟩ : ∃ bd, sr3.bad = bd := ⟨_, rfl⟩
            have cb : wr.cell? ⟨gn + 1, 0, none⟩ = some (.bool bd) := by rw [← hbd]; exact HV3.out.bb.cells1.1
            have HBD := hide hbd; clear hbd
            obtain ⟨lg, hlg⟩ : ∃ lg, lg = (decide (0 < m) && !bd) := ⟨_, rfl⟩
            have HLG := hide hlg; clear hlg
            go_upto_region 19 with fail
            go_cut [109] from 104 to 109 (fun p wx => p = .bool lg ∧ wx = wr)
            case first =>
              cases m with
              | zero => (have hl : lg = false := by rw [HLG.out]; rfl); subst hl; go_wp2_with fail; go_meet; case rel => exact ⟨rfl, rfl⟩
              | succ m =>
                have q1 : decide ((0 : Int) < ((m + 1 : Nat) : Int)) = true := decide_eq_true (by omega)
                have q2 : decide ((0 : Int) < (m : Int) + 1) = true := decide_eq_true (by omega)
                cases bd
                case false => (have hl : lg = true := by rw [HLG.out]; simp); subst hl; go_wp2_with fail; go_meet; case rel => exact ⟨rfl, rfl⟩
                case true => (have hl : lg = false := by rw [HLG.out]; simp); subst hl; go_wp2_with fail; go_meet; case rel => exact ⟨rfl, rfl⟩
            case rest =>
            obtain ⟨rfl, rfl⟩ := hcut
            cases lg
            case true =>
              obtain ⟨⟨m, rfl⟩, hb⟩ := lg_true HLG.out
              subst hb; clear cb
              have HFEW : Hid (xs3.length ≤ 40) := hide (by have := HE3.out.len; have := HNL3.out; omega)
              have hmb : m ≤ 40 := by have := HE3.out.len; have := HNL3.out; omega
              obtain ⟨x1, y1, hx1⟩ : ∃ a t, numN sr3 = (a, t) := ⟨_, _, rfl⟩
              obtain ⟨x2, y2, hx2⟩ : ∃ a t, numN y1 = (a, t) := ⟨_, _, rfl⟩
              obtain ⟨x3, y3, hx3⟩ : ∃ a t, numN y2 = (a, t) := ⟨_, _, rfl⟩
              have hsm : some_ numN 3 sr3 = ([x1, x2, x3], y3) := by simp [some_, hx1, hx2, hx3]
              have HE2 := hide (HE3.out.step HBD.out); rw [hsm] at HE2
              have HX1 := hide hx1
              have HX2 := hide hx2
              have HX3 := hide hx3
              clear hsm hx1 hx2 hx3
              go_upto_region 22 with fail
              obtain ⟨hs, hhs⟩ : ∃ hs, wc.heap.size = hs := ⟨_, rfl⟩
              obtain ⟨wS, hwS⟩ : ∃ wS, wS = wc.alloc (.cells #[.int .i64 0, .int .i64 0, .int .i64 0] 70) := ⟨_, rfl⟩
              have HS : Hid (SvAt w wl3 wS gn #[.int .i64 (a1 : Nat), .int .i64 (a2 : Nat), .int .i64 (a3 : Nat), .int .i64 (a4 : Nat), .int .i64 (a5 : Nat), .int .i64 (a6 : Nat), V1, V2, .int .i64 (f : Nat), V3] 70 3 V3 xs3 sr3 hs #[.int .i64 0, .int .i64 0, .int .i64 0]) := hide (by rw [hwS, ← hhs]; exact SvAt.start HV3.out _)
              rw [hhs, ← hwS]
              clear hhs hwS
              have HS0 := hide HS.out.drew
              have HK0 := hide (sv_s HS0.out rfl)
              go_cut [] from 112 to 122 (fun wx => Hid (SvAt w wl3 wx gn #[.int .i64 (a1 : Nat), .int .i64 (a2 : Nat), .int .i64 (a3 : Nat), .int .i64 (a4 : Nat), .int .i64 (a5 : Nat), .int .i64 (a6 : Nat), V1, V2, .int .i64 (f : Nat), V3] 70 3 V3 xs3 y3 hs #[.int .i64 (x1 : Nat), .int .i64 (x2 : Nat), .int .i64 (x3 : Nat)]))
              case first =>
                go_region_held3 (fun w' => w'.cell? ⟨gn + 1 + 1, 0, none⟩ = some (.func (.func 22) #[] #[.pointer (some ⟨gn, 0, none⟩), .pointer (some ⟨gn + 1, 0, none⟩)]) ∧ (w'.cell? ⟨hs, 0, none⟩ = some (cv w' hs 0) ∧ w'.frozen? ⟨hs, 0, none⟩ = false) ∧ (w'.cell? ⟨hs, 1, none⟩ = some (cv w' hs 1) ∧ w'.frozen? ⟨hs, 1, none⟩ = false) ∧ (w'.cell? ⟨hs, 2, none⟩ = some (cv w' hs 2) ∧ w'.frozen? ⟨hs, 2, none⟩ = false)) (first | (with_reducible exact HK0.out) | (with_reducible exact HK1.out) | (with_reducible exact HK2.out) | (with_reducible exact HK3.out) | (with_reducible exact sv_s (HS3.out.set_ 0 (.int .i64 (x1 : Nat))) (by simp)) | (with_reducible exact sv_s ((HS3.out.set_ 0 (.int .i64 (x1 : Nat))).set_ 1 (.int .i64 (x2 : Nat))) (by simp)) | (with_reducible exact sv_s (((HS3.out.set_ 0 (.int .i64 (x1 : Nat))).set_ 1 (.int .i64 (x2 : Nat))).set_ 2 (.int .i64 (x3 : Nat))) (by simp)))
                  (first | (go_at_call 22; (with_reducible refine (HS0.out.next HX1).mono ?_); rintro r ws1 ⟨rfl, h1⟩; have HS1 := hide h1; have HK1 := hide (sv_s h1 rfl); clear h1) | (go_at_call 22; (with_reducible refine (HS1.out.next HX2).mono ?_); rintro r ws2 ⟨rfl, h1⟩; have HS2 := hide h1; have HK2 := hide (sv_s h1 rfl); clear h1) | (go_at_call 22; (with_reducible refine (HS2.out.next HX3).mono ?_); rintro r ws3 ⟨rfl, h1⟩; have HS3 := hide h1; have HK3 := hide (sv_s h1 rfl); clear h1))
                go_wp2_with fail
                go_meet
                case rel =>
                  have hx := (((HS3.out.set_ 0 (.int .i64 (x1 : Nat))).set_ 1 (.int .i64 (x2 : Nat))).set_ 2 (.int .i64 (x3 : Nat)))
                  exact hide (by simpa using hx)
              case rest =>
              have HS3 := hcut; clear hcut
              obtain ⟨sc0, sc1, sc2⟩ := blk_cells3 HS3.out.b
              have pc : wc.cell? ⟨w.heap.size + 1 + 1, 9, none⟩ = some V3 := by have := HS3.out.lv.pb.cell 9; simpa using this
              have pf := HS3.out.lv.fz 9
              have HOA := hide (HS3.out.lv.alloc (.cells #[.int .i64 (x1 : Nat), .int .i64 (x2 : Nat), .int .i64 (x3 : Nat)] 70)).own
              clear HK0 HS0 HS
              go_wp2_with (at_builtin; go_must (refine wpList_append_own _ rfl (.tmp 124) (.tmp 126) _ rfl wl3.heap.size 70 i3 _ 3 24 Tryd.underlying25 hi3 hza3 hzb3 hzc3 rfl (by decide) V3 xs3.length (rc xs3) rfl HOA.out ⟨wc.heap.size, 0, none⟩ 1 1 [.int .i64 (x1 : Nat), .int .i64 (x2 : Nat), .int .i64 (x3 : Nat)] rfl rfl (by exact news_blk (Blk.new wc _ _)) (by simp [Value.oneCell']) (by have := HFEW.out; simp [maxLen]; omega) (by have := HFEW.out; omega) (by have := HS3.out.lv.k.sz; simp; omega) ?_); intro v7 w7 hown7 hg7 _; obtain ⟨Bn, en, hv7, hle7, -⟩ := own_cell hown7; subst hv7; have p7 := (HS3.out.lv.alloc _).pgrown hg7; have pc7 := p7.cell 9; have pf7 := p7.frozen 9; have HV7 := hide ((HS3.out.lv.alloc _).push (fi := 9) (x := [x1, x2, x3]) hown7 hg7); clear hown7 hg7 p7)
              go_roundw
              case rel => exact ⟨m, _, _, .slice Bn (xs3.length + 1) en, by go_num, by have := HM1.out; omega, HE2, hide (by have := HV7.out; simpa using this)⟩
              case measure => simp [intOf]
            case false =>
              have HDN3 := hide (HE3.out.done ((lg_false HLG.out).imp id fun e => by rw [HBD.out]; exact e))
              have HW3 := hide HE3.out.wid
              obtain ⟨va3, hva⟩ := HV3.out.at_
              have HRA3 := hide hva; have HFEW3 := hide HV3.out.few; have HGL3 := hide HV3.out.gl
              have HOW1 := hide (HV3.out.k.row HOW1.out HGL1.out)
              have HOW2 := hide (HV3.out.k.row HOW2.out HGL2.out)
              have HOW3 := hide HV3.out.own
              clear hva HLG HM1 cb HBD HE3 HV3
              obtain ⟨B1, e1, hv, hle, -⟩ := own_cell HOW1.out; subst hv; clear hle
              obtain ⟨B2, e2, hv, hle, -⟩ := own_cell HOW2.out; subst hv; clear hle
              obtain ⟨B3, e3, hv, hle, -⟩ := own_cell HOW3.out; subst hv; clear hle
              have HDD := hide (dn_eq HQ1.out HQ2.out HQ3.out HQ4.out HQ5.out HQ6.out HN1.out HT1.out HDN1.out HN2.out HT2.out HDN2.out HQF.out HN3.out HT3.out HDN3.out)
              rw [HS00.out] at HDD
              have HNO := hide (rd_none HOK1.out HOK2.out HBAD.out HDD.out)
              have HSO := hide (rd_some HOK1.out HBAD.out HDD.out)
              obtain ⟨bd, hbd⟩ : ∃ bd, sr3.bad = bd := ⟨_, rfl⟩
              have cb : wc.cell? ⟨gn + 1, 0, none⟩ = some (.bool bd) := by rw [← hbd]; exact HRA3.out.nt.bb.cells1.1
              obtain ⟨ao, cx, hvv, -⟩ := HRA3.out.nt.q.shape
              rw [zN_len] at hvv
              obtain ⟨mm, hmm⟩ : ∃ mm, sr3.l.length = mm := ⟨_, rfl⟩
              rw [hmm] at hvv
              have cn : wc.cell? ⟨gn, 0, none⟩ = some (.slice ao mm cx) := by rw [← hvv]; exact HRA3.out.nt.bn.cells1.1
              have HBD := hide hbd; have HMM := hide hmm
              clear hbd hmm hvv
              have HNX : Hid (bd = true ∨ 0 < mm → decB l = none ∨ 2000 < l.length) := hide (fun h => by rw [HL.out]; exact HNO.out (by rw [HBD.out, HMM.out]; exact h))
              cases bd
              case true =>
                go_wp2_with fail
                refine (bareF 3 _).mono ?_
                rintro r wB ⟨rfl, hB⟩
                have HRB := hide (HRA3.out.below hB)
                clear hB cb cn
                obtain ⟨x0, x1, x2, x3, x4, x5, x6, x7, x8, x9⟩ := HRB.out.z.cells10
                have xf0 := HRB.out.z.frozen 0
                have xf1 := HRB.out.z.frozen 1
                have xf2 := HRB.out.z.frozen 2
                have xf3 := HRB.out.z.frozen 3
                have xf4 := HRB.out.z.frozen 4
                have xf5 := HRB.out.z.frozen 5
                have xf6 := HRB.out.z.frozen 6
                have xf7 := HRB.out.z.frozen 7
                have xf8 := HRB.out.z.frozen 8
                have xf9 := HRB.out.z.frozen 9
                obtain ⟨g0, g1, gf0, gf1⟩ := HRB.out.e.cells2
                go_wp2_with fail
                obtain ⟨f1, f2, f3⟩ := setRd_fin HRB.out.z HRB.out.e HRB.out.old (.int .i64 0) (.int .i64 0) (.int .i64 0) (.int .i64 0) (.int .i64 0) (.int .i64 0) (.slice none 0 0) (.slice none 0 0) (.int .i64 0) (.slice none 0 0) (.int .i64 3) (.int .i64 (-1))
                exact bodyPost_ret (rdec_results _ _ w.heap.size (w.heap.size + 1) _ _ _ _ _ _ _ _ _ _ _ _ rfl rfl f1 f2) rfl ⟨f3, .inl ⟨HNX.out (.inl (by simp)), rfl⟩⟩
              case false =>
              by_cases hm0 : 0 < mm
              · have g1 : decide ((0 : Int) < (mm : Int)) = true := decide_eq_true (by omega)
                go_wp2_with fail
                refine (bareF 3 _).mono ?_
                rintro r wB ⟨rfl, hB⟩
                have HRB := hide (HRA3.out.below hB)
                clear hB cb cn
                obtain ⟨x0, x1, x2, x3, x4, x5, x6, x7, x8, x9⟩ := HRB.out.z.cells10
                have xf0 := HRB.out.z.frozen 0
                have xf1 := HRB.out.z.frozen 1
                have xf2 := HRB.out.z.frozen 2
                have xf3 := HRB.out.z.frozen 3
                have xf4 := HRB.out.z.frozen 4
                have xf5 := HRB.out.z.frozen 5
                have xf6 := HRB.out.z.frozen 6
                have xf7 := HRB.out.z.frozen 7
                have xf8 := HRB.out.z.frozen 8
                have xf9 := HRB.out.z.frozen 9
                obtain ⟨g0, g1, gf0, gf1⟩ := HRB.out.e.cells2
                go_wp2_with fail
                obtain ⟨f1, f2, f3⟩ := setRd_fin HRB.out.z HRB.out.e HRB.out.old (.int .i64 0) (.int .i64 0) (.int .i64 0) (.int .i64 0) (.int .i64 0) (.int .i64 0) (.slice none 0 0) (.slice none 0 0) (.int .i64 0) (.slice none 0 0) (.int .i64 3) (.int .i64 (-1))
                exact bodyPost_ret (rdec_results _ _ w.heap.size (w.heap.size + 1) _ _ _ _ _ _ _ _ _ _ _ _ rfl rfl f1 f2) rfl ⟨f3, .inl ⟨HNX.out (.inr (by omega)), rfl⟩⟩
              have g1 : decide ((0 : Int) < (mm : Int)) = false := decide_eq_false (by omega)
              obtain ⟨hdb, hn2⟩ := HSO.out HBD.out (by rw [HMM.out]; omega)
              obtain ⟨raw, hraw⟩ : ∃ raw : Raw, raw = ([a1, a2, a3, a4, a5, a6], xs1, xs2, f, xs3) := ⟨_, rfl⟩
              rw [← hraw] at hdb
              have HDB := hide hdb; have HLN : Hid (l.length ≤ 2000) := hide (by rw [HL.out]; exact hn2)
              have HCK : Hid (∀ W, W = wc → Calls Tryd.prog 25 #[.agg #[.int .i64 (a1 : Nat), .int .i64 (a2 : Nat), .int .i64 (a3 : Nat), .int .i64 (a4 : Nat), .int .i64 (a5 : Nat), .int .i64 (a6 : Nat), .slice B1 xs1.length e1, .slice B2 xs2.length e2, .int .i64 (f : Nat), .slice B3 xs3.length e3]] W (RckPost W (chk (plO raw)))) := hide (by rintro W rfl; rw [hraw]; exact rck_raw a1 a2 a3 a4 a5 a6 f xs1 xs2 xs3 B1 B2 B3 e1 e2 e3 _ _ _ _ HOW1.out HOW2.out HOW3.out HW1.out HW2.out HW3.out (HF.out.below HRA3.out.old))
              have HRAW := hide hraw
              clear hdb hn2 hraw
              obtain ⟨ce, hce⟩ : ∃ c, (chk (plO raw)).1 = c := ⟨_, rfl⟩
              obtain ⟨cp, hcp⟩ : ∃ c, (chk (plO raw)).2 = c := ⟨_, rfl⟩
              have HCE := hide hce; have HCP := hide hcp
              clear hce hcp
              go_upto_region 26 with fail
              clear cb cn g1
              obtain ⟨k0, k1, k2, k3, k4, k5, k6, k7, k8, k9⟩ := HRA3.out.p.cells10
              go_wp2_with fail
              refine (HCK.out _ rfl).mono ?_
              rintro r wK ⟨rfl, hB⟩
              rw [HCE.out, HCP.out]
              have HRK := hide (HRA3.out.below hB)
              have HOW1 := hide (own_keep HOW1.out (w' := wK) fun g _ hlt => hB.block g hlt)
              have HOW2 := hide (own_keep HOW2.out (w' := wK) fun g _ hlt => hB.block g hlt)
              have HOW3 := hide (own_keep HOW3.out (w' := wK) fun g _ hlt => hB.block g hlt)
              clear hB k0 k1 k2 k3 k4 k5 k6 k7 k8 k9
              go_upto_region 27 with fail
              obtain ⟨hq, hhq⟩ : ∃ hq, wK.heap.size = hq := ⟨_, rfl⟩
              obtain ⟨wA, hwA⟩ : ∃ wA, wA = wK.alloc (.cells #[.int .i64 ce, .int .i64 cp] 30) := ⟨_, rfl⟩
              have HQB : Hid (Blk wA hq 30 #[.int .i64 ce, .int .i64 cp]) := hide (by rw [hwA, ← hhq]; exact Blk.new _ _ _)
              have HRQ : Hid (RdAt w wA gn sr3 va3 #[.int .i64 (a1 : Nat), .int .i64 (a2 : Nat), .int .i64 (a3 : Nat), .int .i64 (a4 : Nat), .int .i64 (a5 : Nat), .int .i64 (a6 : Nat), .slice B1 xs1.length e1, .slice B2 xs2.length e2, .int .i64 (f : Nat), .slice B3 xs3.length e3]) := hide (by rw [hwA]; exact HRK.out.alloc _)
              have HOW1 := hide (own_keep HOW1.out (w' := wA) fun g _ hlt => by rw [hwA]; exact ((Below.refl wK.heap.size wK).alloc (Nat.le_refl _) _).block g hlt)
              have HOW2 := hide (own_keep HOW2.out (w' := wA) fun g _ hlt => by rw [hwA]; exact ((Below.refl wK.heap.size wK).alloc (Nat.le_refl _) _).block g hlt)
              have HOW3 := hide (own_keep HOW3.out (w' := wA) fun g _ hlt => by rw [hwA]; exact ((Below.refl wK.heap.size wK).alloc (Nat.le_refl _) _).block g hlt)
              rw [hhq, ← hwA]
              have n0 := World.block_lt_of_cell? w ⟨0, 0, none⟩ HF.out.1
              have n1 : w.heap.size ≠ 0 := by have : 0 < w.heap.size := n0; omega
              have n2 : (0 : Nat) ≠ w.heap.size := Ne.symm n1
              have n3 : hq ≠ w.heap.size := by have := HRK.out.z.lt; omega
              have n4 : w.heap.size ≠ hq := Ne.symm n3
              have n5 : hq ≠ w.heap.size + 1 := by have := HRK.out.e.lt; omega
              have n6 : w.heap.size + 1 ≠ hq := Ne.symm n5
              clear n0
              clear hhq hwA HRK
              obtain ⟨q0, q1, -, -⟩ := HQB.out.cells2
              obtain ⟨x0, x1, x2, x3, x4, x5, x6, x7, x8, x9⟩ := HRQ.out.z.cells10
              have xf0 := HRQ.out.z.frozen 0
              have xf1 := HRQ.out.z.frozen 1
              have xf2 := HRQ.out.z.frozen 2
              have xf3 := HRQ.out.z.frozen 3
              have xf4 := HRQ.out.z.frozen 4
              have xf5 := HRQ.out.z.frozen 5
              have xf6 := HRQ.out.z.frozen 6
              have xf7 := HRQ.out.z.frozen 7
              have xf8 := HRQ.out.z.frozen 8
              have xf9 := HRQ.out.z.frozen 9
              obtain ⟨g0, g1, gf0, gf1⟩ := HRQ.out.e.cells2
              by_cases hc0 : ce = 0
              · subst hc0
                obtain ⟨k0, k1, k2, k3, k4, k5, k6, k7, k8, k9⟩ := HRQ.out.p.cells10
                obtain ⟨fn0, fn1⟩ := HF.out.below HRQ.out.old
                go_wp2_with fail
                go_region
                all_goals (go_wp2_with fail)
                obtain ⟨f1, f2, f3⟩ := setRd_fin HRQ.out.z HRQ.out.e HRQ.out.old (.int .i64 (a1 : Nat)) (.int .i64 (a2 : Nat)) (.int .i64 (a3 : Nat)) (.int .i64 (a4 : Nat)) (.int .i64 (a5 : Nat)) (.int .i64 (a6 : Nat)) (.slice B1 xs1.length e1) (.slice B2 xs2.length e2) (.int .i64 (f : Nat)) (.slice B3 xs3.length e3) (.int .i64 0) (.int .i64 (-1))
                obtain ⟨wf, hwf⟩ : ∃ wf, wf = setRd wA w.heap.size (.int .i64 (a1 : Nat)) (.int .i64 (a2 : Nat)) (.int .i64 (a3 : Nat)) (.int .i64 (a4 : Nat)) (.int .i64 (a5 : Nat)) (.int .i64 (a6 : Nat)) (.slice B1 xs1.length e1) (.slice B2 xs2.length e2) (.int .i64 (f : Nat)) (.slice B3 xs3.length e3) (.int .i64 0) (.int .i64 (-1)) := ⟨_, rfl⟩
                rw [← hwf] at f1 f2 f3
                have HO1 := hide (own_keep (w' := wf) HOW1.out (fun g hg _ => by rw [hwf]; exact setRd_heap wA w.heap.size g (by have := HGL1.out; have := HRQ.out.hg; omega) (by have := HGL1.out; have := HRQ.out.hg; omega) (.int .i64 (a1 : Nat)) (.int .i64 (a2 : Nat)) (.int .i64 (a3 : Nat)) (.int .i64 (a4 : Nat)) (.int .i64 (a5 : Nat)) (.int .i64 (a6 : Nat)) (.slice B1 xs1.length e1) (.slice B2 xs2.length e2) (.int .i64 (f : Nat)) (.slice B3 xs3.length e3) (.int .i64 0) (.int .i64 (-1))))
                have HO2 := hide (own_keep (w' := wf) HOW2.out (fun g hg _ => by rw [hwf]; exact setRd_heap wA w.heap.size g (by have := HGL2.out; have := HRQ.out.hg; omega) (by have := HGL2.out; have := HRQ.out.hg; omega) (.int .i64 (a1 : Nat)) (.int .i64 (a2 : Nat)) (.int .i64 (a3 : Nat)) (.int .i64 (a4 : Nat)) (.int .i64 (a5 : Nat)) (.int .i64 (a6 : Nat)) (.slice B1 xs1.length e1) (.slice B2 xs2.length e2) (.int .i64 (f : Nat)) (.slice B3 xs3.length e3) (.int .i64 0) (.int .i64 (-1))))
                have HO3 := hide (own_keep (w' := wf) HOW3.out (fun g hg _ => by rw [hwf]; exact setRd_heap wA w.heap.size g (by have := HGL3.out; have := HRQ.out.hg; omega) (by have := HGL3.out; have := HRQ.out.hg; omega) (.int .i64 (a1 : Nat)) (.int .i64 (a2 : Nat)) (.int .i64 (a3 : Nat)) (.int .i64 (a4 : Nat)) (.int .i64 (a5 : Nat)) (.int .i64 (a6 : Nat)) (.slice B1 xs1.length e1) (.slice B2 xs2.length e2) (.int .i64 (f : Nat)) (.slice B3 xs3.length e3) (.int .i64 0) (.int .i64 (-1))))
                unfold setRd set10 at hwf
                rw [← hwf]
                clear hwf
                have HP1 := hide (own_keep (w' := wf.drew) HO1.out (fun g _ _ => rfl))
                have HP2 := hide (own_keep (w' := wf.drew) HO2.out (fun g _ _ => rfl))
                have HP3 := hide (own_keep (w' := wf.drew) HO3.out (fun g _ _ => rfl))
                exact bodyPost_ret (rdec_results _ _ w.heap.size (w.heap.size + 1) _ _ _ _ _ _ _ _ _ _ _ _ rfl rfl f1.drew f2.drew) rfl (rd_good HP1.out HP2.out HP3.out HW1.out HW2.out HW3.out (below_dr f3) raw HRAW.out HDB.out HLN.out HCE.out)
              · have c1 : (ce == 0) = false := beq_eq_false_iff_ne.2 hc0
                have c2 : (ce != 0) = true := bne_iff_ne.2 hc0
                have HC0 := hide hc0; clear hc0
                go_wp2_with fail
                go_region
                all_goals (go_wp2_with fail)
                all_goals (obtain ⟨f1, f2, f3⟩ := setRd_fin HRQ.out.z HRQ.out.e HRQ.out.old (.int .i64 0) (.int .i64 0) (.int .i64 0) (.int .i64 0) (.int .i64 0) (.int .i64 0) (.slice none 0 0) (.slice none 0 0) (.int .i64 0) (.slice none 0 0) (.int .i64 ce) (.int .i64 cp))
                all_goals (exact bodyPost_ret (rdec_results _ _ w.heap.size (w.heap.size + 1) _ _ _ _ _ _ _ _ _ _ _ _ rfl rfl f1.drew f2.drew) rfl ⟨below_dr f3, .inr (.inl ⟨raw, HDB.out, HLN.out, by rw [HCE.out]; exact HC0.out, by rw [HCE.out, HCP.out]⟩)⟩)
end Go.Proofs.YtfdadkngbnhmeaaDoor
