/- The walk of metronomelaw.PlanDecodes; conditions: the bytes lie in memory; errors.errorType and metronomeref.Fine hold what start-up lays there. -/
import Derived.Test.YtfdadkngbnhmeaaDoorRza
import Derived.Test.YtfdadkngbnhmeaaDoorDe
import Derived.Test.YtfdadkngbnhmeaaDoorSa
import Derived.Test.YtfdadkngbnhmeaaDoorIsv
namespace Go.Proofs.YtfdadkngbnhmeaaDoor
open Go.RowKit

theorem planZ_is : planZ = planC 0 0 0 0 0 0 (.slice none 0 0) (.slice none 0 0) 0 (.slice none 0 0) := rfl
theorem same_zero (w : World) : Calls Tryd.prog 10 #[.agg planZ, .agg planZ] w fun e w' => e = .returned (.bool true) ∧ Below w.heap.size w w' := by
  rw [planZ_is]
  exact same_any ⟨0, 0, 0, 0, 0, 0, [], [], 0, []⟩ none 0 0 none 0 0 none 0 0 none 0 none 0 none 0 w (by omega) (by omega) (by omega) (fun j hj => by omega) (fun j hj => by omega) (fun j hj => by omega) (fun j hj => by omega) (fun j hj => by omega) (fun j hj => by omega)
/-- What the law keeps: the document's plan and fault. -/
structure PdAt (w wr : World) (g : Nat) (G : Array Value) (e pl : Int) : Prop where
  a : Blk wr g 27 G
  b : Blk wr (g + 1) 30 #[.int .i64 e, .int .i64 pl]
  old : Below w.heap.size w wr
  t : ErrT wr
theorem PdAt.below {w w1 w2 : World} {g : Nat} {G : Array Value} {e pl : Int} (h : PdAt w w1 g G e pl) (hB : Below w1.heap.size w1 w2) : PdAt w w2 g G e pl := ⟨h.a.below hB h.a.lt, h.b.below hB h.b.lt, h.old.trans (hB.mono h.old.size), errT_below h.t hB⟩
theorem PdAt.alloc {w w1 : World} {g : Nat} {G : Array Value} {e pl : Int} (h : PdAt w w1 g G e pl) (o : Obj) : PdAt w (w1.alloc o) g G e pl := h.below ((Below.refl _ _).alloc (Nat.le_refl _) o)
theorem PdAt.new {w w1 : World} (hB : Below w.heap.size w w1) (hE : ErrT w) (G : Array Value) (e pl : Int) : PdAt w ((w1.alloc (.cells G 27)).alloc (.cells #[.int .i64 e, .int .i64 pl] 30)) w1.heap.size G e pl :=
  ⟨(Blk.new w1 _ _).alloc _, by have := Blk.new (w1.alloc (.cells G 27)) 30 #[.int .i64 e, .int .i64 pl]; simpa using this, (hB.alloc hB.size _).alloc (by have := hB.size; simp; omega) _, errT_below (errT_below hE hB) (((Below.refl _ _).alloc (Nat.le_refl _) _).alloc (by simp) _)⟩
set_option maxRecDepth 100000 in
set_option maxHeartbeats 8000000 in
theorem pdecodes_law (A : Option Addr) (n c : Nat) (l : List Nat) (w : World) (hI : BsAt w A l) (hA : ∀ b off, A = some ⟨b, off, none⟩ → b < w.heap.size) (hl : l.length = n) (hc : n ≤ c) (hm : c ≤ 9223372036854775807) (h256 : ∀ x ∈ l, x < 256) (hE : ErrT w) (hF : FinT w) :
    Calls Tryd.prog 3 #[.slice A n c] w fun e w' => e = .returned (.bool true) ∧ Below w.heap.size w w' := by
  by_cases h3 : 3000 < n
  · have d1 : decide ((3000 : Int) < (n : Int)) = true := decide_eq_true (by omega)
    clear hI hE hF hA h256 hl
    go_enter Tryd.func3, Tryd.ntmps3
    go_wp2_with fail
    go_ret
    exact ⟨rfl, Below.refl _ _⟩
  have d1 : decide ((3000 : Int) < (n : Int)) = false := decide_eq_false (by omega)
  have HR := hide (rdec_any A n c l w hI hl hc hm h256 (by omega) hF)
  have HP : Hid (∀ w0, Below w.heap.size w w0 → Calls Tryd.prog 8 #[.slice A n c] w0 (DePost w0 l)) := hide fun w0 hB => decode_any A n c l w0 (hI.keep fun b off e hb => hB.block b (hA b off e)) (fun b off e => Nat.lt_of_lt_of_le (hA b off e) hB.size) hl hc hm h256
  have HE := hide hE
  clear hI hA h256 hE hF h3
  by_cases hd : decB l = none ∨ 2000 < l.length
  · have HR2 : Hid (Calls Tryd.prog 7 #[.slice A n c] w fun r w' => r = .returned (.tuple #[.agg planZ, .agg #[.int .i64 3, .int .i64 (-1)]]) ∧ Below w.heap.size w w') := hide (HR.out.mono fun r w' h => by
      obtain ⟨hB, ⟨_, h⟩ | ⟨raw, h1, h2, _⟩ | ⟨raw, h1, h2, _⟩⟩ := h
      · exact ⟨h, hB⟩
      · rcases hd with hd | hd
        · rw [hd] at h1; cases h1
        · omega
      · rcases hd with hd | hd
        · rw [hd] at h1; cases h1
        · omega)
    have HP2 : Hid (∀ w0, Below w.heap.size w w0 → Calls Tryd.prog 8 #[.slice A n c] w0 fun r w' => r = .returned (.tuple #[.agg planZ, errV 3]) ∧ Below w0.heap.size w0 w') := hide fun w0 hB => (HP.out w0 hB).mono fun r w' h => by
      obtain ⟨hB, ⟨_, h⟩ | ⟨raw, h1, h2, _⟩ | ⟨raw, h1, h2, _⟩⟩ := h
      · exact ⟨h, hB⟩
      · rcases hd with hd | hd
        · rw [hd] at h1; cases h1
        · omega
      · rcases hd with hd | hd
        · rw [hd] at h1; cases h1
        · omega
    clear HR HP hl hd
    go_enter Tryd.func3, Tryd.ntmps3
    go_wp2_with fail
    refine HR2.out.mono ?_
    rintro r w1 ⟨rfl, hB⟩
    have HD := hide (PdAt.new hB HE.out planZ 3 (-1))
    clear hB HR2
    go_wp2_with fail
    refine (HP2.out _ HD.out.old).mono ?_
    rintro r w2 ⟨rfl, hB⟩
    have HD2 := hide ((HD.out.below hB).alloc (.cells planZ 27))
    have HQ := hide (Blk.new w2 27 planZ)
    clear hB HD HP2
    obtain ⟨f0, f1, -, -⟩ := HD2.out.b.cells2
    go_wp2_with fail
    refine (is_errV 3 3 (-1) _ HD2.out.t).mono ?_
    rintro r w3 ⟨rfl, hB⟩
    have HD3 := hide (HD2.out.below hB)
    have HQ3 := hide (HQ.out.below hB HQ.out.lt)
    clear hB HD2 HQ f0 f1
    obtain ⟨x0, x1, x2, x3, x4, x5, x6, x7, x8, x9⟩ := HD3.out.a.cells10
    obtain ⟨y0, y1, y2, y3, y4, y5, y6, y7, y8, y9⟩ := HQ3.out.cells10
    go_wp2_with fail
    refine (same_zero _).mono ?_
    rintro r w4 ⟨rfl, hB⟩
    have HB4 := hide (HD3.out.old.trans (hB.mono HD3.out.old.size))
    clear hB x0 x1 x2 x3 x4 x5 x6 x7 x8 x9 y0 y1 y2 y3 y4 y5 y6 y7 y8 y9
    go_wp2_with fail
    go_ret
    exact ⟨rfl, HB4.out⟩
  · obtain ⟨raw, hraw⟩ : ∃ raw, decB l = some raw := by
      cases h : decB l with
      | none => exact absurd (.inl h) hd
      | some raw => exact ⟨raw, rfl⟩
    have h2000 : l.length ≤ 2000 := by omega
    by_cases h0 : (chk (plO raw)).1 = 0
    · have HR2 : Hid (Calls Tryd.prog 7 #[.slice A n c] w fun r w' => ∃ A c AL cl AQ cq, r = .returned (.tuple #[.agg (planC (plO raw).nd (plO raw).fa (plO raw).sk (plO raw).ji (plO raw).dr (plO raw).rd (.slice A (plO raw).sl.length c) (.slice AL (plO raw).lk.length cl) (plO raw).fr (.slice AQ (plO raw).wn.length cq)), .agg #[.int .i64 0, .int .i64 (-1)]]) ∧
          SlotsAt w' A (plO raw).sl.length (plO raw).sl ∧ LinksAt w' AL (plO raw).lk.length (plO raw).lk ∧ WinsAt w' AQ (plO raw).wn.length (plO raw).wn ∧ Below w.heap.size w w') := hide (HR.out.mono fun r w' h => by
        obtain ⟨hB, ⟨h, _⟩ | ⟨raw2, h1, h2, h3, _⟩ | ⟨raw2, h1, h2, h3, A2, c2, AL2, cl2, AQ2, cq2, h4, h5, h6, h7⟩⟩ := h
        · exact absurd h hd
        · rw [hraw] at h1; cases h1; exact absurd h0 h3
        · rw [hraw] at h1; cases h1; exact ⟨A2, c2, AL2, cl2, AQ2, cq2, h4, h5, h6, h7, hB⟩)
      have HP2 : Hid (∀ w0, Below w.heap.size w w0 → Calls Tryd.prog 8 #[.slice A n c] w0 fun r w' => ∃ A c AL cl AQ cq, r = .returned (.tuple #[.agg (planC (plO raw).nd (plO raw).fa (plO raw).sk (plO raw).ji (plO raw).dr (plO raw).rd (.slice A (plO raw).sl.length c) (.slice AL (plO raw).lk.length cl) (plO raw).fr (.slice AQ (plO raw).wn.length cq)), .nilIface]) ∧
          SlotsAt w' A (plO raw).sl.length (plO raw).sl ∧ LinksAt w' AL (plO raw).lk.length (plO raw).lk ∧ WinsAt w' AQ (plO raw).wn.length (plO raw).wn ∧ Below w0.heap.size w0 w') := hide fun w0 hB => (HP.out w0 hB).mono fun r w' h => by
        obtain ⟨hB, ⟨h, _⟩ | ⟨raw2, h1, h2, h3, _⟩ | ⟨raw2, h1, h2, h3, A2, c2, AL2, cl2, AQ2, cq2, h4, h5, h6, h7⟩⟩ := h
        · exact absurd h hd
        · rw [hraw] at h1; cases h1; exact absurd h0 h3
        · rw [hraw] at h1; cases h1; exact ⟨A2, c2, AL2, cl2, AQ2, cq2, h4, h5, h6, h7, hB⟩
      have hb := chk_bounds h0
      have HBD : Hid ((plO raw).sl.length ≤ 1000 ∧ (plO raw).lk.length ≤ 1000 ∧ (plO raw).wn.length ≤ 1000) := hide (by omega)
      generalize plO raw = p at HR2 HP2 HBD
      clear HR HP hl hd hraw h2000 h0 hb
      obtain ⟨ns, hns⟩ : ∃ ns, p.sl.length = ns := ⟨_, rfl⟩
      obtain ⟨nl, hnl⟩ : ∃ nl, p.lk.length = nl := ⟨_, rfl⟩
      obtain ⟨nw, hnw⟩ : ∃ nw, p.wn.length = nw := ⟨_, rfl⟩
      rw [hns, hnl, hnw] at HR2 HP2 HBD
      clear hns hnl hnw
      go_enter Tryd.func3, Tryd.ntmps3
      go_wp2_with fail
      refine HR2.out.mono ?_
      rintro r w1 ⟨A1, c1, AL1, cl1, AQ1, cq1, rfl, hS, hL, hW, hB⟩
      have HD := hide (PdAt.new hB HE.out (planC p.nd p.fa p.sk p.ji p.dr p.rd (.slice A1 ns c1) (.slice AL1 nl cl1) p.fr (.slice AQ1 nw cq1)) 0 (-1))
      have hB1 : Below w1.heap.size w1 ((w1.alloc (.cells (planC p.nd p.fa p.sk p.ji p.dr p.rd (.slice A1 ns c1) (.slice AL1 nl cl1) p.fr (.slice AQ1 nw cq1)) 27)).alloc (.cells #[.int .i64 0, .int .i64 (-1)] 30)) := ((Below.refl _ _).alloc (Nat.le_refl _) _).alloc (by simp) _
      have HS1 := hide (hS.below hB1); have HL1 := hide (hL.below hB1); have HW1 := hide (hW.below hB1)
      clear hB hB1 hS hL hW HR2
      go_wp2_with fail
      refine (HP2.out _ HD.out.old).mono ?_
      rintro r w2 ⟨A2, c2, AL2, cl2, AQ2, cq2, rfl, hS, hL, hW, hB⟩
      have HD2 := hide ((HD.out.below hB).alloc (.cells (planC p.nd p.fa p.sk p.ji p.dr p.rd (.slice A2 ns c2) (.slice AL2 nl cl2) p.fr (.slice AQ2 nw cq2)) 27))
      have HQ := hide (Blk.new w2 27 (planC p.nd p.fa p.sk p.ji p.dr p.rd (.slice A2 ns c2) (.slice AL2 nl cl2) p.fr (.slice AQ2 nw cq2)))
      have hB2 : Below w2.heap.size w2 (w2.alloc (.cells (planC p.nd p.fa p.sk p.ji p.dr p.rd (.slice A2 ns c2) (.slice AL2 nl cl2) p.fr (.slice AQ2 nw cq2)) 27)) := (Below.refl _ _).alloc (Nat.le_refl _) _
      have HS2 := hide (hS.below hB2); have HL2 := hide (hL.below hB2); have HW2 := hide (hW.below hB2)
      have HS3 := hide ((HS1.out.below hB).below hB2); have HL3 := hide ((HL1.out.below hB).below hB2); have HW3 := hide ((HW1.out.below hB).below hB2)
      clear hB hB2 hS hL hW HD HP2 HS1 HL1 HW1
      obtain ⟨f0, f1, -, -⟩ := HD2.out.b.cells2
      go_wp2_with fail
      refine (is_fine _ HD2.out.t).mono ?_
      rintro r w3 ⟨rfl, hB⟩
      have HD3 := hide (HD2.out.below hB)
      have HQ3 := hide (HQ.out.below hB HQ.out.lt)
      have HSM := hide (same_any p A2 ns c2 AL2 nl cl2 AQ2 nw cq2 A1 c1 AL1 cl1 AQ1 cq1 w3 HBD.out.1 HBD.out.2.1 HBD.out.2.2 (HS2.out.below hB) (HL2.out.below hB) (HW2.out.below hB) (HS3.out.below hB) (HL3.out.below hB) (HW3.out.below hB))
      clear hB HD2 HQ f0 f1 HS2 HL2 HW2 HS3 HL3 HW3
      obtain ⟨x0, x1, x2, x3, x4, x5, x6, x7, x8, x9⟩ := HD3.out.a.cells10
      obtain ⟨y0, y1, y2, y3, y4, y5, y6, y7, y8, y9⟩ := HQ3.out.cells10
      go_wp2_with fail
      refine HSM.out.mono ?_
      rintro r w4 ⟨rfl, hB⟩
      have HB4 := hide (HD3.out.old.trans (hB.mono HD3.out.old.size))
      clear hB x0 x1 x2 x3 x4 x5 x6 x7 x8 x9 y0 y1 y2 y3 y4 y5 y6 y7 y8 y9
      go_wp2_with fail
      go_ret
      exact ⟨rfl, HB4.out⟩
    · have HR2 : Hid (Calls Tryd.prog 7 #[.slice A n c] w fun r w' => r = .returned (.tuple #[.agg planZ, .agg #[.int .i64 (chk (plO raw)).1, .int .i64 (chk (plO raw)).2]]) ∧ Below w.heap.size w w') := hide (HR.out.mono fun r w' h => by
        obtain ⟨hB, ⟨h, _⟩ | ⟨raw2, h1, h2, h3, h4⟩ | ⟨raw2, h1, h2, h3, _⟩⟩ := h
        · exact absurd h hd
        · rw [hraw] at h1; cases h1; exact ⟨h4, hB⟩
        · rw [hraw] at h1; cases h1; exact absurd h3 h0)
      have HP2 : Hid (∀ w0, Below w.heap.size w w0 → Calls Tryd.prog 8 #[.slice A n c] w0 fun r w' => ∃ v, r = .returned (.tuple #[.agg planZ, v]) ∧ AtV w' v (chk (plO raw)).1 (chk (plO raw)).2 ∧ Below w0.heap.size w0 w') := hide fun w0 hB => (HP.out w0 hB).mono fun r w' h => by
        obtain ⟨hB, ⟨h, _⟩ | ⟨raw2, h1, h2, h3, v, h4, h5⟩ | ⟨raw2, h1, h2, h3, _⟩⟩ := h
        · exact absurd h hd
        · rw [hraw] at h1; cases h1; exact ⟨v, h4, h5, hB⟩
        · rw [hraw] at h1; cases h1; exact absurd h3 h0
      have H0 := hide h0
      generalize (chk (plO raw)).1 = ce at HR2 HP2 H0
      generalize (chk (plO raw)).2 = cp at HR2 HP2
      clear HR HP hl hd hraw h2000 h0
      go_enter Tryd.func3, Tryd.ntmps3
      go_wp2_with fail
      refine HR2.out.mono ?_
      rintro r w1 ⟨rfl, hB⟩
      have HD := hide (PdAt.new hB HE.out planZ ce cp)
      clear hB HR2
      go_wp2_with fail
      refine (HP2.out _ HD.out.old).mono ?_
      rintro r w2 ⟨v, rfl, hv, hB⟩
      have HD2 := hide ((HD.out.below hB).alloc (.cells planZ 27))
      have HQ := hide (Blk.new w2 27 planZ)
      have HV := hide (hv.below ((Below.refl _ _).alloc (Nat.le_refl _) (.cells planZ 27)))
      clear hB hv HD HP2
      obtain ⟨f0, f1, -, -⟩ := HD2.out.b.cells2
      go_wp2_with fail
      refine (is_atV v ce cp _ HD2.out.t HV.out H0.out).mono ?_
      rintro r w3 ⟨rfl, hB⟩
      have HD3 := hide (HD2.out.below hB)
      have HQ3 := hide (HQ.out.below hB HQ.out.lt)
      clear hB HD2 HQ f0 f1
      obtain ⟨x0, x1, x2, x3, x4, x5, x6, x7, x8, x9⟩ := HD3.out.a.cells10
      obtain ⟨y0, y1, y2, y3, y4, y5, y6, y7, y8, y9⟩ := HQ3.out.cells10
      go_wp2_with fail
      refine (same_zero _).mono ?_
      rintro r w4 ⟨rfl, hB⟩
      have HB4 := hide (HD3.out.old.trans (hB.mono HD3.out.old.size))
      clear hB x0 x1 x2 x3 x4 x5 x6 x7 x8 x9 y0 y1 y2 y3 y4 y5 y6 y7 y8 y9
      go_wp2_with fail
      go_ret
      exact ⟨rfl, HB4.out⟩
end Go.Proofs.YtfdadkngbnhmeaaDoor
