/- The contract of the sender's method Send, where a message goes; conditions: the sender lies in a block of its own, its queue in another one. -/
import Derived.Test.YtgdljdhibknjnaaVs
namespace Go.Proofs.Ytgdljdhibknjnaa
open Go.RowKit
section
variable (g base : Nat) (bag que : Int) (v : Value) (nx la nw : Int) (q : List ByteArray)
set_option maxRecDepth 100000 in
set_option maxHeartbeats 4000000 in
theorem ssend_ok (w : World) (now : Int) (d : ByteArray) (he : Hid (sdE now la nw bag (q.length + 1) = 0)) (hb : Blk w g 116 (sdC bag que v nx la nw)) (hQ : QAt w base 9 v (sv (d :: q))) (hv : ∀ k, v.ownBlock = some k → k < w.heap.size) (hg : v.ownBlock ≠ some g) (hla : -1 ≤ la ∧ la ≤ 1099511627776) (hnx : 0 ≤ nx ∧ nx ≤ 255) (hq : q.length ≤ 1000) :
    Calls Try.prog 34 #[.pointer (some ⟨g, 0, none⟩), .int .i64 now] w fun r w' => r = .returned (.tuple #[.agg #[.int .i64 nx, .string d], errV 0]) ∧ SdPost w base g bag que v (if nx + 1 = 256 then 1 else nx + 1) now now q w' := by
  have q1 := he.out
  unfold sdE at q1
  obtain ⟨nx2, hnx2⟩ : ∃ nx2 : Int, (if nx + 1 = 256 then 1 else nx + 1) = nx2 := ⟨_, rfl⟩
  rw [hnx2]
  have HX2 := hide hnx2; clear hnx2
  have h12 : ¬ (now < 0 ∨ 1099511627776 < now) := by intro h; rw [if_pos h] at q1; cases q1
  rw [if_neg h12] at q1
  have h3 : ¬ now < nw := by intro h; rw [if_pos h] at q1; cases q1
  rw [if_neg h3] at q1
  have h4 : ¬ (0 ≤ la ∧ now - la < bag) := by intro h; rw [if_pos (.inr h)] at q1; cases q1
  have d1 : decide (now < 0) = false := decide_eq_false (by omega)
  have d2 : decide (1099511627776 < now) = false := decide_eq_false (by omega)
  have d3 : decide (now < nw) = false := decide_eq_false h3
  have d4 : ((q.length : Int) + 1 == 0) = false := by rw [beq_eq_false_iff_ne]; omega
  have hnow : 0 ≤ now ∧ now ≤ 1099511627776 := by omega
  have HN := hide (Blk.new w 30 #[.int .i64 0, .string ⟨#[]⟩])
  obtain ⟨c0, c1, c2, c3, c4, c5, c6, c7⟩ := (hb.alloc (.cells #[.int .i64 0, .string ⟨#[]⟩] 30)).cells8
  obtain ⟨ao, c, hvv, hlc⟩ := hQ.shape
  simp only [sv_len, List.length_cons] at hvv hlc
  subst hvv
  obtain ⟨gq, off, rfl, hbq, hlq, hcq⟩ := hQ.block (by omega)
  have hcell : w.cell? ⟨gq, off, none⟩ = some (.string d) := by have := hcq 0 (by omega); simpa [sv] using this
  have hgq : gq ≠ g := fun e => hg (by rw [e]; rfl)
  obtain ⟨W1, hW1⟩ : ∃ W1, W1 = (w.alloc (.cells #[.int .i64 0, .string ⟨#[]⟩] 30)).setCell ⟨g, 7, none⟩ (.int .i64 now) := ⟨_, rfl⟩
  have hB1 : Blk W1 g 116 (sdC bag que (.slice (some ⟨gq, off, none⟩) (q.length + 1) c) nx la now) := by rw [hW1]; exact (hb.alloc _).set_ 7 _
  have hN1 : Blk W1 w.heap.size 30 #[.int .i64 0, .string ⟨#[]⟩] := by rw [hW1]; exact HN.out.far (p := ⟨g, 7, none⟩) (Nat.ne_of_gt hb.lt) _
  have hQ1 : QAt W1 base 9 (.slice (some ⟨gq, off, none⟩) (q.length + 1) c) (sv (d :: q)) := by rw [hW1]; exact (hQ.alloc _).far (p := ⟨g, 7, none⟩) hg _
  have hK1 : Kept2 w W1 g (some gq) := by rw [hW1]; exact ((Kept2.refl w g _).alloc _).set_ 7 _
  have hC1 : W1.cell? ⟨gq, off, none⟩ = some (.string d) := sd_first hQ1
  have hfz := (hb.alloc (.cells #[.int .i64 0, .string ⟨#[]⟩] 30)).frozen 7
  have HB1 := hide hB1; have HN1 := hide hN1; have HQ1 := hide hQ1; have HK1 := hide hK1; have HGL := hide hb.lt; have HGQ := hide hgq; have HLQ := hide hlq; have HV := hide hv; have HG := hide hg
  have HLC := hide hlc
  clear q1 h12 h3 he hb hQ hlc hbq hcq hcell hlq hgq hv hg HN hN1 hQ1 hK1
  obtain ⟨e0, e1, e2, e3, e4, e5, e6, e7⟩ := hB1.cells8
  clear hB1
  go_enter Try.func34, Try.ntmps34
  go_wp2_with fail
  rw [← hW1]
  clear hW1 c0 c1 c2 c3 c4 c5 c6 c7 hfz
  go_upto_region 6 with fail
  go_cut [55] from 29 to 55 (fun v wx => v = .bool false ∧ ∃ n, wx = W1.drewN n)
  case first =>
    by_cases hla0 : 0 ≤ la
    · have d5 : decide (0 ≤ la) = true := decide_eq_true hla0
      have d6 : decide (now - la < bag) = false := decide_eq_false (by omega)
      clear h4 hla0
      go_quiet (fail)
      go_wp2_with fail
      go_meet
      case rel => exact ⟨rfl, _, rfl⟩
    · have d5 : decide (0 ≤ la) = false := decide_eq_false hla0
      clear h4 hla0
      go_quiet (fail)
      go_wp2_with fail
      go_meet
      case rel => exact ⟨rfl, _, rfl⟩
  case rest =>
    obtain ⟨rfl, nq, rfl⟩ := hcut
    clear h4 d1 d2 d3 d4
    go_upto_region 8 with fail
    go_cut [6] from 58 to 68 (fun p wx => ∃ gx, p = .pointer (some ⟨gx, 0, none⟩) ∧ Hid (w.heap.size < gx) ∧ Hid (Blk wx gx 30 #[.int .i64 nx, .string d]) ∧ Hid (Blk wx g 116 (sdC bag que (.slice (some ⟨gq, off, none⟩) (q.length + 1) c) nx la now)) ∧ Hid (Blk wx w.heap.size 30 #[.int .i64 0, .string ⟨#[]⟩]) ∧ Hid (QAt wx base 9 (.slice (some ⟨gq, off, none⟩) (q.length + 1) c) (sv (d :: q))) ∧ Hid (Kept2 w wx g (some gq)))
    case first =>
      have HK2 := hide (HK1.out.drewN nq); have HB2 := hide (HB1.out.drewN nq); have HN2 := hide (HN1.out.drewN nq); have HQ2 := hide (HQ1.out.drewN nq)
      obtain ⟨W2, hW2⟩ : ∃ W2, W2 = W1.drewN nq := ⟨_, rfl⟩
      rw [← hW2] at HK2 HB2 HN2 HQ2 ⊢
      clear hW2 HB1 HN1 HQ1 HK1 e0 e1 e2 e3 e4 e5 e6 e7 hC1
      obtain ⟨e0, e1, e2, e3, e4, e5, e6, e7⟩ := HB2.out.cells8
      have hc2 := sd_first HQ2.out
      obtain ⟨a0, a1, a2, a3, a4, a5, a6, a7⟩ := (HB2.out.alloc (.cells #[.int .i64 0, .string ⟨#[]⟩] 30)).cells8
      have hc3 := sd_first (HQ2.out.alloc (.cells #[.int .i64 0, .string ⟨#[]⟩] 30))
      obtain ⟨k0, k1, kf0, kf1⟩ := (Blk.new W2 30 #[.int .i64 0, .string ⟨#[]⟩]).cells2
      go_region
      go_wp2_with fail
      go_meet
      case rel => exact ⟨W2.heap.size, rfl, hide HN2.out.lt, hide (Blk.new W2 _ _).drew, hide (HB2.out.alloc _).drew, hide (HN2.out.alloc _).drew, hide (HQ2.out.alloc _).drew, hide (HK2.out.alloc _).drew⟩
    case rest =>
      obtain ⟨gx, rfl, HNX, HX4, HB4, HN4, HQ4, HK4⟩ := hcut
      obtain ⟨c0, c1, c2, c3, c4, c5, c6, c7⟩ := HB4.out.cells8
      obtain ⟨k0, k1, kf0, kf1⟩ := HX4.out.cells2
      have f4 := HB4.out.frozen 4
      have f5 := HB4.out.frozen 5
      have f6 := HB4.out.frozen 6
      have hlc := HLC.out
      have hnx2 := HNX.out
      have hgl2 := HGL.out
      have hne1 : g ≠ gx := by omega
      have hne2 : g ≠ w.heap.size := by omega
      have hne3 : w.heap.size ≠ gx := by omega
      obtain ⟨n0, n1, nf0, nf1⟩ := HN4.out.cells2
      clear e0 e1 e2 e3 e4 e5 e6 e7 hC1
      go_upto_region 10 with fail
      obtain ⟨ao2, hao⟩ : ∃ ao2 : Option Addr, ao2 = if c = 1 then some ⟨gq, off, none⟩ else some ⟨gq, off + 1, none⟩ := ⟨_, rfl⟩
      rw [← hao]
      have HQ5 : Hid (QAt wc base 9 (.slice ao2 q.length (c - 1)) (sv q)) := hide (by rw [hao]; exact HQ4.out.tail)
      have HO5 : Hid ((Value.slice ao2 q.length (c - 1)).ownBlock = some gq) := hide (by rw [hao]; split <;> rfl)
      clear hao hlc HLC HQ4
      have HE1 : Hid ((Value.slice ao2 q.length (c - 1)).ownBlock ≠ some g) := hide (by rw [HO5.out]; intro e; exact HGQ.out (Option.some.inj e))
      have HE2 : Hid ((Value.slice ao2 q.length (c - 1)).ownBlock ≠ some w.heap.size) := hide (by rw [HO5.out]; intro e; have := Option.some.inj e; have := HLQ.out; omega)
      by_cases h256 : nx + 1 = 256
      · have d7 : (nx + 1 == 256) = true := by rw [h256]; rfl
        obtain rfl : 1 = nx2 := by rw [← HX2.out, if_pos h256]
        clear h256 HX2
        go_wp2_with fail
        exact bodyPost_ret (sd_results _ _ w.heap.size _ _ _ rfl rfl ((((((HN4.out.far (p := ⟨g, 4, none⟩) (Nat.ne_of_gt HGL.out) _).far (p := ⟨g, 6, none⟩) (Nat.ne_of_gt HGL.out) _).far (p := ⟨g, 5, none⟩) (Nat.ne_of_gt HGL.out) _).far (p := ⟨g, 5, none⟩) (Nat.ne_of_gt HGL.out) _).set_ 0 _).set_ 1 _)) rfl ⟨rfl, .slice ao2 q.length (c - 1), ((((((HB4.out.set_ 4 _).set_ 6 _).set_ 5 _).set_ 5 _).far (p := ⟨w.heap.size, 0, none⟩) (Nat.ne_of_lt HGL.out) _).far (p := ⟨w.heap.size, 1, none⟩) (Nat.ne_of_lt HGL.out) _), ((((((HQ5.out.far (p := ⟨g, 4, none⟩) HE1.out _).far (p := ⟨g, 6, none⟩) HE1.out _).far (p := ⟨g, 5, none⟩) HE1.out _).far (p := ⟨g, 5, none⟩) HE1.out _).far (p := ⟨w.heap.size, 0, none⟩) HE2.out _).far (p := ⟨w.heap.size, 1, none⟩) HE2.out _), ((((((HK4.out.set_ 4 _).set_ 6 _).set_ 5 _).set_ 5 _).set_new (p := ⟨w.heap.size, 0, none⟩) (Nat.le_refl _) _).set_new (p := ⟨w.heap.size, 1, none⟩) (Nat.le_refl _) _), sd_own HO5.out (by simpa [World.setCell] using Nat.lt_of_lt_of_le HLQ.out HK4.out.size)⟩
      · have d7 : (nx + 1 == 256) = false := by rw [beq_eq_false_iff_ne]; exact h256
        obtain rfl : nx + 1 = nx2 := by rw [← HX2.out, if_neg h256]
        clear h256 HX2
        go_wp2_with fail
        exact bodyPost_ret (sd_results _ _ w.heap.size _ _ _ rfl rfl (((((HN4.out.far (p := ⟨g, 4, none⟩) (Nat.ne_of_gt HGL.out) _).far (p := ⟨g, 6, none⟩) (Nat.ne_of_gt HGL.out) _).far (p := ⟨g, 5, none⟩) (Nat.ne_of_gt HGL.out) _).set_ 0 _).set_ 1 _)) rfl ⟨rfl, .slice ao2 q.length (c - 1), (((((HB4.out.set_ 4 _).set_ 6 _).set_ 5 _).far (p := ⟨w.heap.size, 0, none⟩) (Nat.ne_of_lt HGL.out) _).far (p := ⟨w.heap.size, 1, none⟩) (Nat.ne_of_lt HGL.out) _), (((((HQ5.out.far (p := ⟨g, 4, none⟩) HE1.out _).far (p := ⟨g, 6, none⟩) HE1.out _).far (p := ⟨g, 5, none⟩) HE1.out _).far (p := ⟨w.heap.size, 0, none⟩) HE2.out _).far (p := ⟨w.heap.size, 1, none⟩) HE2.out _), (((((HK4.out.set_ 4 _).set_ 6 _).set_ 5 _).set_new (p := ⟨w.heap.size, 0, none⟩) (Nat.le_refl _) _).set_new (p := ⟨w.heap.size, 1, none⟩) (Nat.le_refl _) _), sd_own HO5.out (by simpa [World.setCell] using Nat.lt_of_lt_of_le HLQ.out HK4.out.size)⟩
end
end Go.Proofs.Ytgdljdhibknjnaa
