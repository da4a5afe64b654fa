/- The contract of plan.Decode; condition: the bytes lie in memory. -/
import Derived.Test.YtfdadkngbnhmeaaDoorDf
namespace Go.Proofs.YtfdadkngbnhmeaaDoor
open Go.RowKit

set_option maxRecDepth 100000 in
set_option maxHeartbeats 8000000 in
set_option profiler true in
set_option profiler.threshold 1500 in
theorem decode_any (A : Option Addr) (n c : Nat) (l : List Nat) (w : World) (hB : BsAt w A l) (hA : ∀ b off, A = some ⟨b, off, none⟩ → b < w.heap.size) (hl : l.length = n) (hc : n ≤ c) (hm : c ≤ 9223372036854775807) (h256 : ∀ x ∈ l, x < 256) :
    Calls Tryd.prog 8 #[.slice A n c] w (DePost w l) := by
  obtain ⟨s0, hs0⟩ : ∃ s0 : Rst, s0 = ⟨l, false⟩ := ⟨_, rfl⟩
  obtain ⟨a1, s1, hq1⟩ : ∃ a s, numB s0 = (a, s) := ⟨_, _, rfl⟩
  obtain ⟨a2, s2, hq2⟩ : ∃ a s, numB s1 = (a, s) := ⟨_, _, rfl⟩
  obtain ⟨a3, s3, hq3⟩ : ∃ a s, numB s2 = (a, s) := ⟨_, _, rfl⟩
  obtain ⟨a4, s4, hq4⟩ : ∃ a s, numB s3 = (a, s) := ⟨_, _, rfl⟩
  obtain ⟨a5, s5, hq5⟩ : ∃ a s, numB s4 = (a, s) := ⟨_, _, rfl⟩
  obtain ⟨a6, s6, hq6⟩ : ∃ a s, numB s5 = (a, s) := ⟨_, _, rfl⟩
  have HQ1 := hide hq1; have HQ2 := hide hq2; have HQ3 := hide hq3; have HQ4 := hide hq4; have HQ5 := hide hq5; have HQ6 := hide hq6
  have HS0 := hide hs0
  have hz0 : Blk (((w.alloc (.cells planZ 27)).alloc (.cells #[.slice A n c, .bool false] 75)).alloc (.cells #[.pointer (some ⟨w.heap.size + 1, 0, none⟩)] 73)) w.heap.size 27 planZ := ((Blk.new w _ _).alloc _).alloc _
  have hr0 : Blk (((w.alloc (.cells planZ 27)).alloc (.cells #[.slice A n c, .bool false] 75)).alloc (.cells #[.pointer (some ⟨w.heap.size + 1, 0, none⟩)] 73)) (w.heap.size + 1) 75 #[.slice A n c, .bool false] := (by simpa using Blk.new (w.alloc (.cells planZ 27)) 75 #[.slice A n c, .bool false] : Blk _ (w.heap.size + 1) _ _).alloc _
  have hp0 : Blk (((w.alloc (.cells planZ 27)).alloc (.cells #[.slice A n c, .bool false] 75)).alloc (.cells #[.pointer (some ⟨w.heap.size + 1, 0, none⟩)] 73)) (w.heap.size + 1 + 1) 73 #[.pointer (some ⟨w.heap.size + 1, 0, none⟩)] := by simpa using Blk.new ((w.alloc (.cells planZ 27)).alloc (.cells #[.slice A n c, .bool false] 75)) 73 #[.pointer (some ⟨w.heap.size + 1, 0, none⟩)]
  have hb0 : Below w.heap.size w (((w.alloc (.cells planZ 27)).alloc (.cells #[.slice A n c, .bool false] 75)).alloc (.cells #[.pointer (some ⟨w.heap.size + 1, 0, none⟩)] 73)) := (((Below.refl _ _).alloc (Nat.le_refl _) _).alloc (by simp) _).alloc (by simp; omega) _
  have HRS : Hid (RsAt (((w.alloc (.cells planZ 27)).alloc (.cells #[.slice A n c, .bool false] 75)).alloc (.cells #[.pointer (some ⟨w.heap.size + 1, 0, none⟩)] 73)) (w.heap.size + 1 + 1) (w.heap.size + 1) s0) := hide (by
    rw [hs0]
    refine ⟨A, c, by dsimp only; rw [hl]; exact hr0, hB.below hb0, ⟨fun b off ha => by have := hA b off ha; omega, by omega⟩, by dsimp only; rw [hl]; exact hc, hm, h256⟩)
  obtain ⟨W0, hW0⟩ : ∃ W0, W0 = ((w.alloc (.cells planZ 27)).alloc (.cells #[.slice A n c, .bool false] 75)).alloc (.cells #[.pointer (some ⟨w.heap.size + 1, 0, none⟩)] 73) := ⟨_, rfl⟩
  rw [← hW0] at hz0 hp0 hb0 HRS
  have HR0 : Hid (DeB w W0.drew s0 none) := hide ⟨hz0.drew, hp0.drew, HRS.out.far fun _ _ _ => rfl, fun hp e => (by cases e), below_drewN hb0 1⟩
  have HC0 := hide HR0.out.p.cells1.1
  have HCW := hide hp0.cells1.1
  have HPW := hide hp0
  have HL := hide hl
  clear hz0 hr0 hp0 hb0 HRS hB hl h256 hs0 hq1 hq2 hq3 hq4 hq5 hq6
  go_enter Tryd.func8, Tryd.ntmps8
  go_wp2_with fail
  rw [← hW0]
  clear hW0
  go_upto_region 2 with fail
  go_cut [5] from 10 to 22 (fun p wx => ∃ hp, p = .pointer (some ⟨hp, 0, none⟩) ∧ Hid (DeAt w wx s6 hp #[.int .i64 (a1 : Nat), .int .i64 (a2 : Nat), .int .i64 (a3 : Nat), .int .i64 (a4 : Nat), .int .i64 (a5 : Nat), .int .i64 (a6 : Nat), .slice none 0 0, .slice none 0 0, .int .i64 0, .slice none 0 0]))
  case first =>
    go_region_held3 (fun w' => w'.cell? ⟨w.heap.size + 1 + 1, 0, none⟩ = some (.pointer (some ⟨w.heap.size + 1, 0, none⟩))) (first | (with_reducible exact HCW.out) | (with_reducible exact HC0.out) | (with_reducible exact HC1.out) | (with_reducible exact HC2.out) | (with_reducible exact HC3.out) | (with_reducible exact HC4.out) | (with_reducible exact HC5.out) | (with_reducible exact HC6.out) | (with_reducible exact HR0.out.born1.p.cells1.1) | (with_reducible exact HR1.out.born.p.cells1.1) | (with_reducible exact HR2.out.born.p.cells1.1) | (with_reducible exact HR3.out.born.p.cells1.1) | (with_reducible exact HR4.out.born.p.cells1.1) | (with_reducible exact HR5.out.born.p.cells1.1) | (with_reducible exact HR6.out.born.p.cells1.1) | (with_reducible exact (HPW.out.alloc _).cells1.1) | (with_reducible exact (HPW.out.alloc _).drew.cells1.1) | (with_reducible exact (HR6.out.p.alloc _).cells1.1) | (with_reducible exact (HR6.out.at_.set10 _ _ _ _ _ _ _ _ _ _).p.cells1.1))
      (first
        | (go_at_call 26; (with_reducible refine (num_is (w.heap.size + 1 + 1) (w.heap.size + 1) s0 s1 a1 _ ?_ HQ1).mono ?_); (first | (with_reducible exact HR0.out.r) | (with_reducible exact HR0.out.born1.r)); rintro r w1 ⟨rfl, h1, h2⟩; (first | (with_reducible have HR1 := hide (HR0.out.step h1 h2)) | (with_reducible have HR1 := hide (HR0.out.born1.step h1 h2))); have HC1 := hide HR1.out.p.cells1.1; clear h1 h2)
        | (go_at_call 26; (with_reducible refine (num_is (w.heap.size + 1 + 1) (w.heap.size + 1) s1 s2 a2 _ ?_ HQ2).mono ?_); (first | (with_reducible exact HR1.out.r) | (with_reducible exact HR1.out.born.r)); rintro r w2 ⟨rfl, h1, h2⟩; (first | (with_reducible have HR2 := hide (HR1.out.step h1 h2)) | (with_reducible have HR2 := hide (HR1.out.born.step h1 h2))); have HC2 := hide HR2.out.p.cells1.1; clear h1 h2)
        | (go_at_call 26; (with_reducible refine (num_is (w.heap.size + 1 + 1) (w.heap.size + 1) s2 s3 a3 _ ?_ HQ3).mono ?_); (first | (with_reducible exact HR2.out.r) | (with_reducible exact HR2.out.born.r)); rintro r w3 ⟨rfl, h1, h2⟩; (first | (with_reducible have HR3 := hide (HR2.out.step h1 h2)) | (with_reducible have HR3 := hide (HR2.out.born.step h1 h2))); have HC3 := hide HR3.out.p.cells1.1; clear h1 h2)
        | (go_at_call 26; (with_reducible refine (num_is (w.heap.size + 1 + 1) (w.heap.size + 1) s3 s4 a4 _ ?_ HQ4).mono ?_); (first | (with_reducible exact HR3.out.r) | (with_reducible exact HR3.out.born.r)); rintro r w4 ⟨rfl, h1, h2⟩; (first | (with_reducible have HR4 := hide (HR3.out.step h1 h2)) | (with_reducible have HR4 := hide (HR3.out.born.step h1 h2))); have HC4 := hide HR4.out.p.cells1.1; clear h1 h2)
        | (go_at_call 26; (with_reducible refine (num_is (w.heap.size + 1 + 1) (w.heap.size + 1) s4 s5 a5 _ ?_ HQ5).mono ?_); (first | (with_reducible exact HR4.out.r) | (with_reducible exact HR4.out.born.r)); rintro r w5 ⟨rfl, h1, h2⟩; (first | (with_reducible have HR5 := hide (HR4.out.step h1 h2)) | (with_reducible have HR5 := hide (HR4.out.born.step h1 h2))); have HC5 := hide HR5.out.p.cells1.1; clear h1 h2)
        | (go_at_call 26; (with_reducible refine (num_is (w.heap.size + 1 + 1) (w.heap.size + 1) s5 s6 a6 _ ?_ HQ6).mono ?_); (first | (with_reducible exact HR5.out.r) | (with_reducible exact HR5.out.born.r)); rintro r w6 ⟨rfl, h1, h2⟩; (first | (with_reducible have HR6 := hide (HR5.out.step h1 h2)) | (with_reducible have HR6 := hide (HR5.out.born.step h1 h2))); have HC6 := hide HR6.out.p.cells1.1; (try (obtain ⟨z0, z1, z2, z3, z4, z5, z6, z7, z8, z9⟩ := (HR6.out.b _ rfl).1.cells10; have y0 := (HR6.out.b _ rfl).1.frozen 0; have y1 := (HR6.out.b _ rfl).1.frozen 1; have y2 := (HR6.out.b _ rfl).1.frozen 2; have y3 := (HR6.out.b _ rfl).1.frozen 3; have y4 := (HR6.out.b _ rfl).1.frozen 4; have y5 := (HR6.out.b _ rfl).1.frozen 5; have y6 := (HR6.out.b _ rfl).1.frozen 6; have y7 := (HR6.out.b _ rfl).1.frozen 7; have y8 := (HR6.out.b _ rfl).1.frozen 8; have y9 := (HR6.out.b _ rfl).1.frozen 9)); clear h1 h2))
    all_goals (go_wp2_with fail; go_meet; case rel => (refine ⟨_, rfl, ?_⟩; apply hide; first | (have hx := HR6.out.new #[.int .i64 (a1 : Nat), .int .i64 (a2 : Nat), .int .i64 (a3 : Nat), .int .i64 (a4 : Nat), .int .i64 (a5 : Nat), .int .i64 (a6 : Nat), .slice none 0 0, .slice none 0 0, .int .i64 0, .slice none 0 0]; with_reducible exact hx) | (have hx := HR6.out.at_.set10 (.int .i64 (a1 : Nat)) (.int .i64 (a2 : Nat)) (.int .i64 (a3 : Nat)) (.int .i64 (a4 : Nat)) (.int .i64 (a5 : Nat)) (.int .i64 (a6 : Nat)) (.slice none 0 0) (.slice none 0 0) (.int .i64 0) (.slice none 0 0); with_reducible exact hx)))
  case rest =>
    obtain ⟨hp, rfl, HD⟩ := hcut
    have hne : w.heap.size + 1 + 1 ≠ w.heap.size + 1 := by omega
    have c4 := HD.out.p.cells1.1
    go_wp2_with fail
    refine (rows1_any (w.heap.size + 1 + 1) (w.heap.size + 1 + 1) (w.heap.size + 1) 32 s6 _ (by exact HD.out.p.cells1.1) hne (by exact HD.out.r) (by exact Nat.le_of_lt HD.out.p.lt) (by decide)).mono ?_
    rintro r w3 ⟨v1, rfl, ho, hr, hg, hlen1, hwid1⟩
    obtain ⟨b1, hb⟩ : ∃ x, (many_ numB 3 32 s6).1 = x := ⟨_, rfl⟩
    obtain ⟨t1, ht⟩ : ∃ x, (many_ numB 3 32 s6).2 = x := ⟨_, rfl⟩
    rw [hb] at ho hlen1 hwid1; rw [ht] at hr
    have HM1 := hide (And.intro hb ht); have HW1 := hide hwid1; clear hb ht hwid1
    obtain ⟨B1, e1, hv, hle1, -⟩ := own_cell ho; subst hv
    have HO1 := hide (own_set (p := ⟨hp, 6, none⟩) ho (by exact HD.out.q.lt) (.slice B1 b1.length e1))
    have HBS1 := hide (And.intro HD.out.q.lt (Nat.lt_of_succ_lt HD.out.p.lt))
    have HDg := hide (HD.out.grown hr hg)
    obtain ⟨z0, z1, z2, z3, z4, z5, z6, z7, z8, z9⟩ := HDg.out.q.cells10
    have y6 := HDg.out.q.frozen 6
    have HD1 : Hid (DeAt w (w3.setCell ⟨hp, 6, none⟩ (.slice B1 b1.length e1)) t1 hp #[.int .i64 (a1 : Nat), .int .i64 (a2 : Nat), .int .i64 (a3 : Nat), .int .i64 (a4 : Nat), .int .i64 (a5 : Nat), .int .i64 (a6 : Nat), .slice B1 b1.length e1, .slice none 0 0, .int .i64 0, .slice none 0 0]) := hide (by have := HDg.out.set_ 6 (.slice B1 b1.length e1); simpa using this)
    have d4 := HD1.out.p.cells1.1
    clear hr hg c4 HD ho
    go_wp2_with fail
    clear z0 z1 z2 z3 z4 z5 z6 z7 z8 z9 y6 HDg
    try clear d4
    have c4 := HD1.out.p.cells1.1
    refine (rows2_any (w.heap.size + 1 + 1) (w.heap.size + 1 + 1) (w.heap.size + 1) 8 t1 _ (by exact HD1.out.p.cells1.1) hne (by exact HD1.out.r) (by exact Nat.le_of_lt HD1.out.p.lt) (by decide)).mono ?_
    rintro r w4 ⟨v2, rfl, ho, hr, hg, hlen2, hwid2⟩
    obtain ⟨b2, hb⟩ : ∃ x, (many_ numB 4 8 t1).1 = x := ⟨_, rfl⟩
    obtain ⟨t2, ht⟩ : ∃ x, (many_ numB 4 8 t1).2 = x := ⟨_, rfl⟩
    rw [hb] at ho hlen2 hwid2; rw [ht] at hr
    have HM2 := hide (And.intro hb ht); have HW2 := hide hwid2; clear hb ht hwid2
    obtain ⟨B2, e2, hv, hle2, -⟩ := own_cell ho; subst hv
    have HO2 := hide (own_set (p := ⟨hp, 7, none⟩) ho (by exact HD1.out.q.lt) (.slice B2 b2.length e2))
    have HBS2 := hide (And.intro HD1.out.q.lt (Nat.lt_of_succ_lt HD1.out.p.lt))
    have HO1 := hide (own_set (p := ⟨hp, 7, none⟩) (own_grown HO1.out hg (by exact HBS1.out.2)) (by exact HBS1.out.1) (.slice B2 b2.length e2))
    have HDg := hide (HD1.out.grown hr hg)
    obtain ⟨z0, z1, z2, z3, z4, z5, z6, z7, z8, z9⟩ := HDg.out.q.cells10
    have y7 := HDg.out.q.frozen 7
    have HD2 : Hid (DeAt w (w4.setCell ⟨hp, 7, none⟩ (.slice B2 b2.length e2)) t2 hp #[.int .i64 (a1 : Nat), .int .i64 (a2 : Nat), .int .i64 (a3 : Nat), .int .i64 (a4 : Nat), .int .i64 (a5 : Nat), .int .i64 (a6 : Nat), .slice B1 b1.length e1, .slice B2 b2.length e2, .int .i64 0, .slice none 0 0]) := hide (by have := HDg.out.set_ 7 (.slice B2 b2.length e2); simpa using this)
    have d4 := HD2.out.p.cells1.1
    clear hr hg c4 HD1 ho
    go_wp2_with fail
    clear z0 z1 z2 z3 z4 z5 z6 z7 z8 z9 y7 HDg
    try clear d4
    have c4 := HD2.out.p.cells1.1
    refine (num_any (w.heap.size + 1 + 1) (w.heap.size + 1) t2 _ (by exact HD2.out.r)).mono ?_
    rintro r w5 ⟨rfl, hr, hg⟩
    obtain ⟨f, hb⟩ : ∃ x, (numB t2).1 = x := ⟨_, rfl⟩
    obtain ⟨t3, ht⟩ : ∃ x, (numB t2).2 = x := ⟨_, rfl⟩
    rw [ht] at hr
    rw [hb]
    have HM3 := hide (And.intro hb ht); clear hb ht
    have HO1 := hide (own_set (p := ⟨hp, 8, none⟩) (own_grown HO1.out hg (by exact HBS1.out.2)) (by exact HBS1.out.1) (.int .i64 (f : Nat)))
    have HO2 := hide (own_set (p := ⟨hp, 8, none⟩) (own_grown HO2.out hg (by exact HBS2.out.2)) (by exact HBS2.out.1) (.int .i64 (f : Nat)))
    have HDg := hide (HD2.out.grown hr hg)
    obtain ⟨z0, z1, z2, z3, z4, z5, z6, z7, z8, z9⟩ := HDg.out.q.cells10
    have y8 := HDg.out.q.frozen 8
    have HD3 : Hid (DeAt w (w5.setCell ⟨hp, 8, none⟩ (.int .i64 (f : Nat))) t3 hp #[.int .i64 (a1 : Nat), .int .i64 (a2 : Nat), .int .i64 (a3 : Nat), .int .i64 (a4 : Nat), .int .i64 (a5 : Nat), .int .i64 (a6 : Nat), .slice B1 b1.length e1, .slice B2 b2.length e2, .int .i64 (f : Nat), .slice none 0 0]) := hide (by have := HDg.out.set_ 8 (.int .i64 (f : Nat)); simpa using this)
    have d4 := HD3.out.p.cells1.1
    clear hr hg c4 HD2
    go_wp2_with fail
    clear z0 z1 z2 z3 z4 z5 z6 z7 z8 z9 y8 HDg
    try clear d4
    have c4 := HD3.out.p.cells1.1
    refine (rows3_any (w.heap.size + 1 + 1) (w.heap.size + 1 + 1) (w.heap.size + 1) 32 t3 _ (by exact HD3.out.p.cells1.1) hne (by exact HD3.out.r) (by exact Nat.le_of_lt HD3.out.p.lt) (by decide)).mono ?_
    rintro r w6 ⟨v3, rfl, ho, hr, hg, hlen4, hwid4⟩
    obtain ⟨b4, hb⟩ : ∃ x, (many_ numB 3 32 t3).1 = x := ⟨_, rfl⟩
    obtain ⟨t4, ht⟩ : ∃ x, (many_ numB 3 32 t3).2 = x := ⟨_, rfl⟩
    rw [hb] at ho hlen4 hwid4; rw [ht] at hr
    have HM4 := hide (And.intro hb ht); have HW4 := hide hwid4; clear hb ht hwid4
    obtain ⟨B4, e4, hv, hle4, -⟩ := own_cell ho; subst hv
    have HO4 := hide (own_set (p := ⟨hp, 9, none⟩) ho (by exact HD3.out.q.lt) (.slice B4 b4.length e4))
    have HBS4 := hide (And.intro HD3.out.q.lt (Nat.lt_of_succ_lt HD3.out.p.lt))
    have HO1 := hide (own_set (p := ⟨hp, 9, none⟩) (own_grown HO1.out hg (by exact HBS1.out.2)) (by exact HBS1.out.1) (.slice B4 b4.length e4))
    have HO2 := hide (own_set (p := ⟨hp, 9, none⟩) (own_grown HO2.out hg (by exact HBS2.out.2)) (by exact HBS2.out.1) (.slice B4 b4.length e4))
    have HDg := hide (HD3.out.grown hr hg)
    obtain ⟨z0, z1, z2, z3, z4, z5, z6, z7, z8, z9⟩ := HDg.out.q.cells10
    have y9 := HDg.out.q.frozen 9
    have HD4 : Hid (DeAt w (w6.setCell ⟨hp, 9, none⟩ (.slice B4 b4.length e4)) t4 hp #[.int .i64 (a1 : Nat), .int .i64 (a2 : Nat), .int .i64 (a3 : Nat), .int .i64 (a4 : Nat), .int .i64 (a5 : Nat), .int .i64 (a6 : Nat), .slice B1 b1.length e1, .slice B2 b2.length e2, .int .i64 (f : Nat), .slice B4 b4.length e4]) := hide (by have := HDg.out.set_ 9 (.slice B4 b4.length e4); simpa using this)
    have d4 := HD4.out.p.cells1.1
    clear hr hg c4 HD3 ho
    obtain ⟨Ar, cr, hbr, -⟩ := HD4.out.r
    obtain ⟨r0, r1, -, -⟩ := hbr.cells2
    have HEQ := hide (de_eq HS0.out HQ1.out HQ2.out HQ3.out HQ4.out HQ5.out HQ6.out HM1.out HM2.out HM3.out HM4.out)
    obtain ⟨bd, hbd⟩ : ∃ x, t4.bad = x := ⟨_, rfl⟩
    obtain ⟨m, hm4⟩ : ∃ x, t4.l.length = x := ⟨_, rfl⟩
    rw [hbd] at r1; rw [hm4] at r0
    have HBD := hide hbd; have HM := hide hm4
    obtain ⟨x0, x1, x2, x3, x4, x5, x6, x7, x8, x9⟩ := HD4.out.z.cells10
    have xf0 := HD4.out.z.frozen 0
    have xf1 := HD4.out.z.frozen 1
    have xf2 := HD4.out.z.frozen 2
    have xf3 := HD4.out.z.frozen 3
    have xf4 := HD4.out.z.frozen 4
    have xf5 := HD4.out.z.frozen 5
    have xf6 := HD4.out.z.frozen 6
    have xf7 := HD4.out.z.frozen 7
    have xf8 := HD4.out.z.frozen 8
    have xf9 := HD4.out.z.frozen 9
    have hnn : (n : Int) = (l.length : Int) := by rw [HL.out]
    clear hbr hbd hm4 HQ1 HQ2 HQ3 HQ4 HQ5 HQ6 HM1 HM2 HM3 HM4 HS0 hnn
    cases bd
    case true =>
      go_wp2_with fail
      exact bodyPost_ret (de_results _ _ w.heap.size _ _ _ _ _ _ _ _ _ _ _ rfl rfl (set10_blk HD4.out.z _ _ _ _ _ _ _ _ _ _)) rfl ⟨set10_old HD4.out.old _ _ _ _ _ _ _ _ _ _, .inl ⟨.inl (de_none HEQ.out (.inl HBD.out)), rfl⟩⟩
    case false =>
      by_cases hm0 : 0 < m
      · have g1 : decide ((0 : Int) < (m : Int)) = true := decide_eq_true (by omega)
        go_wp2_with fail
        exact bodyPost_ret (de_results _ _ w.heap.size _ _ _ _ _ _ _ _ _ _ _ rfl rfl (set10_blk HD4.out.z _ _ _ _ _ _ _ _ _ _)) rfl ⟨set10_old HD4.out.old _ _ _ _ _ _ _ _ _ _, .inl ⟨.inl (de_none HEQ.out (.inr (by rw [HM.out]; exact hm0))), rfl⟩⟩
      have g1 : decide ((0 : Int) < (m : Int)) = false := decide_eq_false (by omega)
      by_cases hn2 : 2000 < n
      · have g2 : decide ((2000 : Int) < (n : Int)) = true := decide_eq_true (by omega)
        go_wp2_with fail
        exact bodyPost_ret (de_results _ _ w.heap.size _ _ _ _ _ _ _ _ _ _ _ rfl rfl (set10_blk HD4.out.z _ _ _ _ _ _ _ _ _ _)) rfl ⟨set10_old HD4.out.old _ _ _ _ _ _ _ _ _ _, .inl ⟨.inr (by rw [HL.out]; exact hn2), rfl⟩⟩
      have g2 : decide ((2000 : Int) < (n : Int)) = false := decide_eq_false (by omega)
      have HDB := hide (de_some HEQ.out HBD.out (by rw [HM.out]; omega))
      have HLN : Hid (l.length ≤ 2000) := hide (by rw [HL.out]; omega)
      obtain ⟨raw, hraw⟩ : ∃ raw : Raw, raw = ([a1, a2, a3, a4, a5, a6], b1, b2, f, b4) := ⟨_, rfl⟩
      have HRAW := hide hraw
      rw [← hraw] at HDB
      clear hraw
      go_wp2_with fail
      refine (check_raw a1 a2 a3 a4 a5 a6 f b1 b2 b4 B1 B2 B4 e1 e2 e4 _ _ _ _ (by exact HO1.out) (by exact HO2.out) (by exact HO4.out) HW1.out HW2.out HW4.out raw HRAW.out).mono ?_
      rintro r w7 ⟨hB, ⟨hc0, rfl⟩ | ⟨hc0, v, rfl, hv⟩⟩
      · have HD5 : Hid (Blk w7 w.heap.size 27 planZ) := hide (HD4.out.z.below hB HD4.out.z.lt)
        have HQ5 := hide (HD4.out.q.below hB HD4.out.q.lt)
        have HB5 := hide (HD4.out.old.trans (hB.mono HD4.out.old.size))
        have HF1 := hide (own_fin (w := w) HO1.out hB (Nat.lt_of_succ_lt HBS1.out.2) (.int .i64 (a1 : Nat)) (.int .i64 (a2 : Nat)) (.int .i64 (a3 : Nat)) (.int .i64 (a4 : Nat)) (.int .i64 (a5 : Nat)) (.int .i64 (a6 : Nat)) (.slice B1 b1.length e1) (.slice B2 b2.length e2) (.int .i64 (f : Nat)) (.slice B4 b4.length e4))
        have HF2 := hide (own_fin (w := w) HO2.out hB (Nat.lt_of_succ_lt HBS2.out.2) (.int .i64 (a1 : Nat)) (.int .i64 (a2 : Nat)) (.int .i64 (a3 : Nat)) (.int .i64 (a4 : Nat)) (.int .i64 (a5 : Nat)) (.int .i64 (a6 : Nat)) (.slice B1 b1.length e1) (.slice B2 b2.length e2) (.int .i64 (f : Nat)) (.slice B4 b4.length e4))
        have HF4 := hide (own_fin (w := w) HO4.out hB (Nat.lt_of_succ_lt HBS4.out.2) (.int .i64 (a1 : Nat)) (.int .i64 (a2 : Nat)) (.int .i64 (a3 : Nat)) (.int .i64 (a4 : Nat)) (.int .i64 (a5 : Nat)) (.int .i64 (a6 : Nat)) (.slice B1 b1.length e1) (.slice B2 b2.length e2) (.int .i64 (f : Nat)) (.slice B4 b4.length e4))
        have HC0 := hide hc0
        clear hB hc0 z0 z1 z2 z3 z4 z5 z6 z7 z8 z9 y9 d4 r0 r1 x0 x1 x2 x3 x4 x5 x6 x7 x8 x9 HD4 HO1 HO2 HO4
        obtain ⟨x0, x1, x2, x3, x4, x5, x6, x7, x8, x9⟩ := HD5.out.cells10
        obtain ⟨k0, k1, k2, k3, k4, k5, k6, k7, k8, k9⟩ := HQ5.out.cells10
        have xf0 := HD5.out.frozen 0
        have xf1 := HD5.out.frozen 1
        have xf2 := HD5.out.frozen 2
        have xf3 := HD5.out.frozen 3
        have xf4 := HD5.out.frozen 4
        have xf5 := HD5.out.frozen 5
        have xf6 := HD5.out.frozen 6
        have xf7 := HD5.out.frozen 7
        have xf8 := HD5.out.frozen 8
        have xf9 := HD5.out.frozen 9
        go_wp2_with fail
        exact bodyPost_ret (de_results _ _ w.heap.size _ _ _ _ _ _ _ _ _ _ _ rfl rfl (set10_blk HD5.out _ _ _ _ _ _ _ _ _ _)) rfl (de_fin HF1.out HF2.out HF4.out HW1.out HW2.out HW4.out (set10_old HB5.out _ _ _ _ _ _ _ _ _ _) raw HRAW.out HDB.out HLN.out HC0.out)
      · obtain ⟨ti, ui, rfl⟩ := hv.iface
        have HD5 : Hid (Blk w7 w.heap.size 27 planZ) := hide (HD4.out.z.below hB HD4.out.z.lt)
        have HB5 := hide (HD4.out.old.trans (hB.mono HD4.out.old.size))
        have HV := hide hv
        have HC0 := hide hc0
        clear hB hc0 hv z0 z1 z2 z3 z4 z5 z6 z7 z8 z9 y9 d4 r0 r1 x0 x1 x2 x3 x4 x5 x6 x7 x8 x9 HD4 HO1 HO2 HO4
        obtain ⟨x0, x1, x2, x3, x4, x5, x6, x7, x8, x9⟩ := HD5.out.cells10
        have xf0 := HD5.out.frozen 0
        have xf1 := HD5.out.frozen 1
        have xf2 := HD5.out.frozen 2
        have xf3 := HD5.out.frozen 3
        have xf4 := HD5.out.frozen 4
        have xf5 := HD5.out.frozen 5
        have xf6 := HD5.out.frozen 6
        have xf7 := HD5.out.frozen 7
        have xf8 := HD5.out.frozen 8
        have xf9 := HD5.out.frozen 9
        go_wp2_with fail
        exact bodyPost_ret (de_results _ _ w.heap.size _ _ _ _ _ _ _ _ _ _ _ rfl rfl (set10_blk HD5.out _ _ _ _ _ _ _ _ _ _)) rfl ⟨set10_old HB5.out _ _ _ _ _ _ _ _ _ _, .inr (.inl ⟨raw, HDB.out, HLN.out, HC0.out, _, rfl, at_fin HV.out (at_ne HV.out HD5.out) _ _ _ _ _ _ _ _ _ _⟩)⟩
end Go.Proofs.YtfdadkngbnhmeaaDoor
