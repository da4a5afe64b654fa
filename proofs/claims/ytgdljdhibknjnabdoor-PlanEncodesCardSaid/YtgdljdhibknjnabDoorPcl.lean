/- The walk of metronomelaw.PlanChecks; conditions: slots, links and windows lie in memory; errors.errorType and metronomeref.Fine hold what start-up lays there. -/
import Derived.Test.YtgdljdhibknjnabDoorRk
import Derived.Test.YtgdljdhibknjnabDoorPtl
import Derived.Test.YtgdljdhibknjnabDoorGsm
import Derived.Deep.RegionHeld3
namespace Go.Proofs.YtgdljdhibknjnabDoor
open Go.RowKit

/-- An error, or none, at a place. -/
def ErV (w : World) (v : Value) (e pl : Int) : Prop := (e = 0 ∧ pl = -1 ∧ v = .nilIface) ∨ (e ≠ 0 ∧ AtV w v e pl)
theorem ErV.below {w w' : World} {v : Value} {e pl : Int} (h : ErV w v e pl) (hB : Below w.heap.size w w') : ErV w' v e pl := by
  rcases h with h | ⟨h0, h⟩
  · exact .inl h
  · exact .inr ⟨h0, h.below hB⟩
theorem is_erV (v : Value) (e pl : Int) (w : World) (hg : ErrT w) (hv : ErV w v e pl) : Calls Tryd.prog 62 #[v, .agg #[.int .i64 e, .int .i64 pl]] w fun r w' => r = .returned (.bool true) ∧ Below w.heap.size w w' := by
  rcases hv with ⟨rfl, rfl, rfl⟩ | ⟨h0, h⟩
  · exact is_fine w hg
  · exact is_atV v e pl w hg h h0
theorem chk_nil {p : Pl} (h : (chk p).1 = 0) : (chk p).2 = -1 := by
  unfold chk at h ⊢
  by_cases h1 : headE p ≠ 0
  · rw [if_pos h1] at h; exact absurd h h1
  · rw [if_neg h1] at h ⊢
    by_cases h2 : (firstE (slEs p.sk p.rd p.nd 0 p.sl) 0).1 ≠ 0
    · rw [if_pos h2] at h; exact absurd h h2
    · rw [if_neg h2] at h ⊢
      by_cases h3 : (firstE (p.lk.map (lkE p.nd)) 0).1 ≠ 0
      · rw [if_pos h3] at h; exact absurd h h3
      · rw [if_neg h3] at h ⊢
        by_cases h4 : (firstE (wnEs p.fr 0 p.wn) 0).1 ≠ 0
        · rw [if_pos h4] at h; exact absurd h h4
        · rw [if_neg h4]
theorem pc_er {w w' : World} {p : Pl} {r : Ending} (h : PcPost w (chk p) r w') : ∃ v, r = .returned v ∧ ErV w' v (chk p).1 (chk p).2 ∧ Below w.heap.size w w' := by
  obtain ⟨hB, ⟨h0, rfl⟩ | ⟨h0, v, rfl, hv⟩⟩ := h
  · exact ⟨_, rfl, .inl ⟨h0, chk_nil h0, rfl⟩, hB⟩
  · exact ⟨v, rfl, .inr ⟨h0, hv⟩, hB⟩
/-- What the law keeps in memory. -/
structure PwAt (w wr : World) (G : Array Value) : Prop where
  g : Blk wr w.heap.size 78 G
  old : Below w.heap.size w wr
  e : ErrT wr
theorem PwAt.below {w w1 w2 : World} {G : Array Value} (h : PwAt w w1 G) (hB : Below w1.heap.size w1 w2) : PwAt w w2 G := ⟨h.g.below hB h.g.lt, h.old.trans (hB.mono h.old.size), errT_below h.e hB⟩
theorem PwAt.drew {w w1 : World} {G : Array Value} (h : PwAt w w1 G) : PwAt w w1.drew G := ⟨h.g.drew, below_drewN h.old 1, h.e⟩
theorem PwAt.new {w : World} (h : ErrT w) (G : Array Value) : PwAt w (w.alloc (.cells G 78)) G := ⟨Blk.new w _ _, (Below.refl _ _).alloc (Nat.le_refl _) _, errT_alloc h _⟩
theorem pwS {p : Pl} {A : Option Addr} {len c : Nat} {AL : Option Addr} {ll cl : Nat} {AQ : Option Addr} {lq cq : Nat} {w w' : World} (h : PwAt w w' (planC p.nd p.fa p.sk p.ji p.dr p.rd (.slice A len c) (.slice AL ll cl) p.fr (.slice AQ lq cq))) : w'.cell? ⟨w.heap.size, 0, none⟩ = some (.int .i64 p.nd) ∧ w'.cell? ⟨w.heap.size, 1, none⟩ = some (.int .i64 p.fa) ∧ w'.cell? ⟨w.heap.size, 2, none⟩ = some (.int .i64 p.sk) ∧ w'.cell? ⟨w.heap.size, 3, none⟩ = some (.int .i64 p.ji) ∧ w'.cell? ⟨w.heap.size, 4, none⟩ = some (.int .i64 p.dr) ∧ w'.cell? ⟨w.heap.size, 5, none⟩ = some (.int .i64 p.rd) ∧ w'.cell? ⟨w.heap.size, 6, none⟩ = some (.slice A len c) ∧ w'.cell? ⟨w.heap.size, 7, none⟩ = some (.slice AL ll cl) ∧ w'.cell? ⟨w.heap.size, 8, none⟩ = some (.int .i64 p.fr) ∧ w'.cell? ⟨w.heap.size, 9, none⟩ = some (.slice AQ lq cq) := by
  obtain ⟨i0, i1, i2, i3, i4, i5, i6, i7, i8, i9⟩ := h.g.cells10
  exact ⟨i0, i1, i2, i3, i4, i5, i6, i7, i8, i9⟩
section
variable (p : Pl) (A : Option Addr) (len c : Nat) (AL : Option Addr) (ll cl : Nat) (AQ : Option Addr) (lq cq : Nat)
set_option maxRecDepth 100000 in
set_option maxHeartbeats 8000000 in
theorem pchecks_law (w : World) (s1 : p.sl.length = len) (l1 : p.lk.length = ll) (q1 : p.wn.length = lq) (s2 : SlotsAt w A len p.sl) (l2 : LinksAt w AL ll p.lk) (q2 : WinsAt w AQ lq p.wn) (hE : ErrT w) (hF : FinT w) :
    Calls Tryd.prog 12 #[.agg (planC p.nd p.fa p.sk p.ji p.dr p.rd (.slice A len c) (.slice AL ll cl) p.fr (.slice AQ lq cq))] w fun e w' => e = .returned (.bool true) ∧ Below w.heap.size w w' := by
  have HP := hide (PwAt.new hE (planC p.nd p.fa p.sk p.ji p.dr p.rd (.slice A len c) (.slice AL ll cl) p.fr (.slice AQ lq cq)))
  have HRC : Hid (∀ w0, Below w.heap.size w w0 → Calls Tryd.prog 67 #[.agg (planC p.nd p.fa p.sk p.ji p.dr p.rd (.slice A len c) (.slice AL ll cl) p.fr (.slice AQ lq cq))] w0 (RckPost w0 (chk p))) := hide fun w0 hB => rck_any p A len c AL ll cl AQ lq cq w0 s1 l1 q1 (s2.below hB) (l2.below hB) (q2.below hB) (hF.below hB)
  have HPC : Hid (∀ w0, Below w.heap.size w w0 → Calls Tryd.prog 66 #[.agg (planC p.nd p.fa p.sk p.ji p.dr p.rd (.slice A len c) (.slice AL ll cl) p.fr (.slice AQ lq cq))] w0 fun r w' => ∃ v, r = .returned v ∧ ErV w' v (chk p).1 (chk p).2 ∧ Below w0.heap.size w0 w') := hide fun w0 hB => (check_any p A len c AL ll cl AQ lq cq w0 s1 l1 q1 (s2.below hB) (l2.below hB) (q2.below hB)).mono fun r w' h => pc_er h
  unfold RckPost at HRC
  generalize (chk p).1 = ce at HRC HPC
  generalize (chk p).2 = cp at HRC HPC
  clear s1 l1 q1 s2 l2 q2 hE hF
  obtain ⟨i0, i1, i2, i3, i4, i5, i6, i7, i8, i9⟩ := HP.out.g.cells10
  cases hsm : decide (wrap64 (wrap64 ((len : Int) + (ll : Int)) + (lq : Int)) ≤ 120)
  case false =>
    have HSM := hide (small_any p.nd p.fa p.sk p.ji p.dr p.rd A len c AL ll cl p.fr AQ lq cq false hsm); clear hsm
    go_enter Tryd.func12, Tryd.ntmps12
    go_wp2_with fail
    go_region_with ((go_at_call 35; refine (HSM.out _).mono ?_; rintro r w2 ⟨rfl, hB⟩; have HP2 := hide (PwAt.below (by first | exact HP.out | exact HP.out.drew) hB); clear hB))
    all_goals (go_wp2_with fail; go_ret; exact ⟨rfl, HP2.out.old⟩)
  case true =>
    have HSM := hide (small_any p.nd p.fa p.sk p.ji p.dr p.rd A len c AL ll cl p.fr AQ lq cq true hsm); clear hsm
    go_enter Tryd.func12, Tryd.ntmps12
    go_wp2_with fail
    go_region_held3 (fun w' => w'.cell? ⟨w.heap.size, 0, none⟩ = some (.int .i64 p.nd) ∧ w'.cell? ⟨w.heap.size, 1, none⟩ = some (.int .i64 p.fa) ∧ w'.cell? ⟨w.heap.size, 2, none⟩ = some (.int .i64 p.sk) ∧ w'.cell? ⟨w.heap.size, 3, none⟩ = some (.int .i64 p.ji) ∧ w'.cell? ⟨w.heap.size, 4, none⟩ = some (.int .i64 p.dr) ∧ w'.cell? ⟨w.heap.size, 5, none⟩ = some (.int .i64 p.rd) ∧ w'.cell? ⟨w.heap.size, 6, none⟩ = some (.slice A len c) ∧ w'.cell? ⟨w.heap.size, 7, none⟩ = some (.slice AL ll cl) ∧ w'.cell? ⟨w.heap.size, 8, none⟩ = some (.int .i64 p.fr) ∧ w'.cell? ⟨w.heap.size, 9, none⟩ = some (.slice AQ lq cq))
      (first | exact pwS HP.out | exact pwS HP2.out | exact pwS HP3.out | exact pwS HP4.out | exact pwS HP5.out | exact pwS HP.out.drew | exact pwS HP2.out.drew)
      (first
        | (go_at_call 35; refine (HSM.out _).mono ?_; rintro r w2 ⟨rfl, hB⟩; have HP2 := hide (PwAt.below (by first | exact HP.out | exact HP.out.drew) hB); clear hB)
        | (go_at_call 66; refine (HPC.out _ (by exact HP2.out.old)).mono ?_; rintro r w3 ⟨v, rfl, hv, hB⟩; have HV3 := hide hv; have HP3 := hide (PwAt.below (by exact HP2.out) hB); clear hB hv)
        | (go_at_call 67; refine (HRC.out _ (by exact HP3.out.old)).mono ?_; rintro r w4 ⟨rfl, hB⟩; have HV4 := hide (HV3.out.below hB); have HP4 := hide (PwAt.below (by exact HP3.out) hB); clear hB)
        | (go_at_call 62; refine (is_erV v ce cp _ (by exact HP4.out.e) (by exact HV4.out)).mono ?_; rintro r w5 ⟨rfl, hB⟩; have HP5 := hide (PwAt.below (by exact HP4.out) hB); clear hB))
    all_goals (go_wp2_with fail; go_ret; exact ⟨rfl, HP5.out.old⟩)
end
end Go.Proofs.YtgdljdhibknjnabDoor
