/- The contract of cluster.New where something is wrong; conditions: the plan and the clocks lie in memory. -/
import Derived.Test.YtdogdlnaacimpaaGreatDoorP32
set_option linter.unusedVariables false
set_option linter.unusedSimpArgs false
namespace Go.Proofs.YtdogdlnaacimpaaGreatDoor
section
open Go Go.RowKit
attribute [local irreducible] chk honL liesB wildB
theorem and_one01 (x : Int) : bits .and .i64 x 1 = 0 ∨ bits .and .i64 x 1 = 1 := by
 have e : bits .and .i64 x 1 = IntKind.i64.wrap ((BitVec.ofInt 64 x &&& BitVec.ofInt 64 1).toNat : Int) := rfl
 rw [e, BitVec.toNat_and, show (BitVec.ofInt 64 1).toNat = 1 from rfl, Nat.and_one_is_mod]
 rcases Nat.mod_two_eq_zero_or_one (BitVec.ofInt 64 x).toNat with h | h <;> rw [h]
 ·exact .inl rfl
 ·exact .inr rfl
theorem own_sl {w : World} {b : Nat} {t : TypeId} {v : Value} {n : Nat} {l : List Value} (h : w.ownsRow b t 1 v n l) : ∃ ob sc, v = .slice ob n sc := by
 rcases h.2 with ⟨rfl, h2⟩ | ⟨g, cap, cur, rfl, _⟩
 ·have h1 := h.1
  subst h2
  simp at h1
  subst h1
  exact ⟨_, _, rfl⟩
 ·exact ⟨_, _, rfl⟩
theorem fy_iff {p : Pl} {f0 m : Int} {nd : Nat} (hnd : p.nd.toNat = nd) (h16 : nd ≤ 16) (hm : ∀ fy : Nat, f0 = (fy : Int) → fy < 65536 → m = (liars fy nd : Nat)) : FyOk p f0 ↔ (m ≤ p.fa ∧ 0 ≤ f0 ∧ f0 / 2 ^ nd = 0) := by
 have h2 : (2 : Nat) ^ nd ≤ 2 ^ 16 := Nat.pow_le_pow_right (by omega) h16
 have hpos : 0 < (2 : Nat) ^ nd := Nat.two_pow_pos nd
 have hdv : ∀ fy : Nat, ((fy : Int) / 2 ^ nd) = ((fy / 2 ^ nd : Nat) : Int) := fun fy => by simp
 constructor
 ·rintro ⟨fy, rfl, h, hl⟩
  rw [hnd] at h hl
  have h1 := hm fy rfl (by omega)
  refine ⟨by omega, by omega, ?_⟩
  rw [hdv, Nat.div_eq_of_lt h]
  rfl
 ·rintro ⟨h1, h3, h4⟩
  obtain ⟨fy, rfl⟩ := Int.eq_ofNat_of_zero_le h3
  rw [hdv] at h4
  have h5 : fy < 2 ^ nd := by
   rcases Nat.lt_or_ge fy (2 ^ nd) with h | h
   ·exact h
   ·have := Nat.div_pos h hpos
    omega
  have h6 := hm fy rfl (by omega)
  exact ⟨fy, rfl, by rw [hnd]; exact h5, by rw [hnd]; omega⟩
theorem wild_in {zs : List Int} (h : wildB zs = false) {j : Nat} (hj : j < zs.length) : -274877906944 ≤ zs.getD j 0 ∧ zs.getD j 0 ≤ 274877906944 := by
 unfold wildB at h
 rw [List.any_eq_false] at h
 have := h (zs.getD j 0) (getD_memC hj)
 rw [Bool.or_eq_true, decide_eq_true_eq, decide_eq_true_eq] at this
 omega
theorem isl_of_own {W : World} {b g n cp : Nat} {zs : List Int} (h : W.ownsRow b 3 1 (.slice (some ⟨g, 0, none⟩) n cp) n (zs.map (Value.int .i64))) (hn : zs.length = n) : IsL W (some ⟨g, 0, none⟩) zs := fun j hj => ⟨g, 0, rfl, by
 have := (own_cellT h (by rw [← hn]; exact hj)).1
 rw [Nat.zero_add, this, List.getElem?_map, List.getElem?_eq_getElem hj, List.getD_eq_getElem?_getD, List.getElem?_eq_getElem hj]
 rfl⟩
section
variable (p : Pl) (A : Option Addr) (c : Nat) (AL : Option Addr) (cl : Nat) (AQ : Option Addr) (cq : Nat) (f0 : Int) (B : Option Addr) (ln cz : Nat)
set_option maxRecDepth 100000 in
set_option maxHeartbeats 8000000 in
theorem new_chk (w : World) (hchk : chk p ≠ (0, -1)) (s2 : SlotsAt w A p.sl.length p.sl) (l2 : LinksAt w AL p.lk.length p.lk) (q2 : WinsAt w AQ p.wn.length p.wn) :
 Calls Tryz.prog 16 #[.agg (planC p.nd p.fa p.sk p.ji p.dr p.rd (.slice A p.sl.length c) (.slice AL p.lk.length cl) p.fr (.slice AQ p.wn.length cq)), .int .i64 f0, .slice B ln cz] w fun e w' =>
  ∃ v, e = .returned (.tuple #[.pointer none, v]) ∧ ErV w' v (chk p).1 (chk p).2 ∧ Below w.heap.size w w' := by
 obtain ⟨w1, hw1⟩ : ∃ w1, w.alloc (.cells (planC p.nd p.fa p.sk p.ji p.dr p.rd (.slice A p.sl.length c) (.slice AL p.lk.length cl) p.fr (.slice AQ p.wn.length cq)) 26) = w1 := ⟨_, rfl⟩
 have hB1 : Below w.heap.size w w1 := by rw [← hw1]; exact (Below.refl w.heap.size w).alloc (Nat.le_refl _) _
 have hX : Blk w1 w.heap.size 26 (planC p.nd p.fa p.sk p.ji p.dr p.rd (.slice A p.sl.length c) (.slice AL p.lk.length cl) p.fr (.slice AQ p.wn.length cq)) := by rw [← hw1]; exact Blk.new w _ _
 have HCK := hide (check_any p A p.sl.length c AL p.lk.length cl AQ p.wn.length cq w1 rfl rfl rfl (hS0 s2 (Nat.le_refl _) hB1) (hL0 l2 (Nat.le_refl _) hB1) (q2.below hB1))
 have HX := hide hX; have HB1 := hide hB1; have HW1 := hide hw1
 obtain ⟨x0, x1, x2, x3, x4, x5, x6, x7, x8, x9⟩ := plan_cells hX
 have HNE : Hid ((chk p).1 ≠ 0) := hide (fun h => hchk (Prod.ext h (chk_nil h)))
 obtain ⟨ck, hck⟩ : ∃ ck, chk p = ck := ⟨_, rfl⟩
 rw [hck] at HCK HNE ⊢
 clear hX hB1 hw1 s2 l2 q2 hchk hck
 go_enter Tryz.func16, Tryz.ntmps16
 go_wp2_with fail
 rw [HW1.out]
 refine HCK.out.mono ?_
 rintro e w2 ⟨hB2, ⟨h0, -⟩ | ⟨-, v, rfl, hv⟩⟩
 ·exact absurd h0 HNE.out
 ·have HV := hide hv
  have HB2 := hide (HB1.out.trans (hB2.mono HB1.out.size))
  clear hB2 hv x0 x1 x2 x3 x4 x5 x6 x7 x8 x9
  obtain ⟨t, u, rfl⟩ := HV.out.iface
  go_wp2_with fail
  go_ret2
  exact ⟨_, rfl, .inr ⟨HNE.out, HV.out⟩, HB2.out⟩
set_option maxRecDepth 100000 in
set_option maxHeartbeats 8000000 in
theorem new_bad (w : World) (hchk : chk p = (0, -1)) (s2 : SlotsAt w A p.sl.length p.sl) (l2 : LinksAt w AL p.lk.length p.lk) (q2 : WinsAt w AQ p.wn.length p.wn) (zs : List Int) (hln : zs.length = ln) (hI : IsL w B zs) (hle : ln ≤ cz) (h30 : ln ≤ 30) (e : Int) (he : NewIs p f0 zs e) (h0 : e ≠ 0) :
 Calls Tryz.prog 16 #[.agg (planC p.nd p.fa p.sk p.ji p.dr p.rd (.slice A p.sl.length c) (.slice AL p.lk.length cl) p.fr (.slice AQ p.wn.length cq)), .int .i64 f0, .slice B ln cz] w fun r w' => r = .returned (.tuple #[.pointer none, errV e]) ∧ Below w.heap.size w w' := by
 have hp := PlOk.of hchk
 have hn16 := hp.n16
 have hn1 := hp.n1
 obtain ⟨w1, hw1⟩ : ∃ w1, w.alloc (.cells (planC p.nd p.fa p.sk p.ji p.dr p.rd (.slice A p.sl.length c) (.slice AL p.lk.length cl) p.fr (.slice AQ p.wn.length cq)) 26) = w1 := ⟨_, rfl⟩
 have hB1 : Below w.heap.size w w1 := by rw [← hw1]; exact (Below.refl w.heap.size w).alloc (Nat.le_refl _) _
 have hX : Blk w1 w.heap.size 26 (planC p.nd p.fa p.sk p.ji p.dr p.rd (.slice A p.sl.length c) (.slice AL p.lk.length cl) p.fr (.slice AQ p.wn.length cq)) := by rw [← hw1]; exact Blk.new w _ _
 have HCK := hide (check_any p A p.sl.length c AL p.lk.length cl AQ p.wn.length cq w1 rfl rfl rfl (hS0 s2 (Nat.le_refl _) hB1) (hL0 l2 (Nat.le_refl _) hB1) (q2.below hB1))
 rw [hchk] at HCK
 obtain ⟨nd, hnd⟩ : ∃ nd, p.nd.toNat = nd := ⟨_, rfl⟩
 have hpn : p.nd = (nd : Int) := by omega
 have hnd1 : 0 < nd := by omega
 have hnd16 : nd ≤ 16 := by omega
 have HX := hide hX; have HB1 := hide hB1; have HW1 := hide hw1; have HP := hide hp; have HI := hide hI; have HLN := hide hln; have HPN := hide hpn; have HND := hide hnd; have HE := hide he; have HE0 := hide h0; have HLE := hide hle; have H30 := hide h30
 obtain ⟨x0, x1, x2, x3, x4, x5, x6, x7, x8, x9⟩ := plan_cells hX
 clear hX hB1 hw1 hp hI hln hpn hnd hchk s2 l2 q2 hn16 hn1 he h0 hle h30
 go_enter Tryz.func16, Tryz.ntmps16
 go_wp2_with fail
 rw [HW1.out]
 refine HCK.out.mono ?_
 rintro e w2 ⟨hB2, ⟨-, rfl⟩ | ⟨h0, -⟩⟩
 case inr => exact absurd rfl h0
 have HX2 := hide (HX.out.below hB2 HX.out.lt)
 have HB2 := hide (HB1.out.trans (hB2.mono HB1.out.size))
 clear hB2 x0 x1 x2 x3 x4 x5 x6 x7 x8 x9
 obtain ⟨x0, x1, x2, x3, x4, x5, x6, x7, x8, x9⟩ := plan_cells HX2.out
 go_wp2_with fail
 obtain ⟨i0, hi, hz0, hz1, hz2⟩ := en_info_parts ar_info
 have HSZ2 := hide HB2.out.size
 have hx2lt := HX2.out.lt
 have HE1 : Hid ((w2.alloc (.cells #[] 3)).drew.ownsRow (w.heap.size + 1) 3 1 (.slice (some ⟨w2.heap.size, 0, none⟩) 0 0) 0 []) := hide (own_empty (Blk.new w2 3 #[]).drew hx2lt)
 have HIE : Hid (IsL (w2.alloc (.cells #[] 3)).drew B zs) := hide (HI.out.below (Nat.le_refl _) (below_drewN (HB2.out.alloc HSZ2.out _) 1))
 have HX3 : Hid (∀ W, (w2.alloc (.cells #[] 3)).drew.grownBy W (some w2.heap.size) → Blk W w.heap.size 26 (planC p.nd p.fa p.sk p.ji p.dr p.rd (.slice A p.sl.length c) (.slice AL p.lk.length cl) p.fr (.slice AQ p.wn.length cq)) ∧ Below w.heap.size w W) := hide (fun W hg => ⟨((HX2.out.alloc (.cells #[] 3)).drew).grown hg (fun e => by have h1 := HX2.out.lt; have h2 := Option.some.inj e; omega), (below_drewN (HB2.out.alloc HSZ2.out (.cells #[] 3)) 1).grown hg (by show w.heap.size ≤ (w2.alloc _).heap.size; have := HSZ2.out; simp; omega) (fun k e => by have h2 := Option.some.inj e; have := HSZ2.out; omega)⟩)
 have HLM : Hid (0 + ln ≤ maxLen ∧ (0 + ln) * 8 ≤ 140737488355328) := hide ⟨by have := H30.out; simp [maxLen]; omega, by have := H30.out; omega⟩
 have HSZ3 : Hid (w.heap.size + 1 ≤ (w2.alloc (.cells #[] 3)).drew.heap.size) := hide (by show _ ≤ (w2.alloc _).heap.size; have := HSZ2.out; simp; omega)
 go_cut [9] from 9 to 34 (fun v wx => ∃ G ck, v = .pointer (some ⟨G, 0, none⟩) ∧ Hid (Below w.heap.size w wx) ∧ Hid (Blk wx w.heap.size 26 (planC p.nd p.fa p.sk p.ji p.dr p.rd (.slice A p.sl.length c) (.slice AL p.lk.length cl) p.fr (.slice AQ p.wn.length cq))) ∧ Hid (Blk wx G 109 (clC p.nd p.fa p.sk p.ji p.dr p.rd (.slice A p.sl.length c) (.slice AL p.lk.length cl) p.fr (.slice AQ p.wn.length cq) f0 ck (.slice none 0 0) (.slice none 0 0) (.slice none 0 0) (.slice none 0 0) 0)) ∧ Hid (wx.ownsRow (w.heap.size + 1) 3 1 ck ln (zs.map (Value.int .i64))))
 case first =>
  go_region_law (first
   | (refine step_append_ints _ rfl (.tmp 30) (.tmp 31) _ rfl (w.heap.size + 1) 3 i0 _ 8 Tryz.underlying27 hi hz0 hz1 hz2 rfl (.slice (some ⟨w2.heap.size, 0, none⟩) 0 0) 0 [] rfl (by exact HE1.out) B cz ln zs HLN.out rfl HLE.out (by exact HIE.out) HLM.out.1 HLM.out.2 (by exact HSZ3.out) ?_; intro v8 w8 hown hg hat; simp only [Nat.zero_add, List.nil_append] at hown; obtain ⟨sb, sc, rfl⟩ := own_sl hown; have HX8 := hide (HX3.out w8 hg); have HO8 := hide hown; obtain ⟨y0, y1, y2, y3, y4, y5, y6, y7, y8, y9⟩ := plan_cells HX8.out.1; clear hown hg hat))
  all_goals
   go_wp2_with fail
   go_meet
   exact ⟨w8.heap.size, _, rfl, hide (HX8.out.2.alloc HX8.out.2.size _), hide (HX8.out.1.alloc _), hide (Blk.new w8 _ _), hide (own_keepR HO8.out ((Below.refl w8.heap.size w8).alloc (Nat.le_refl _) _))⟩
 case rest =>
  obtain ⟨G, ck, rfl, HB4, HX4, HG4, HO4⟩ := hcut
  clear HE1 HIE HX3 HLM HSZ3 HSZ2 hx2lt HX2 HB2 x0 x1 x2 x3 x4 x5 x6 x7 x8 x9
  obtain ⟨x0, x1, x2, x3, x4, x5, x6, x7, x8, x9⟩ := plan_cells HX4.out
  rw [HPN.out] at x0
  go_wp2_with fail
  go_loopw [10, 37] (fun v10 v37 wr => ∃ (k : Nat) (m : Int), k ≤ nd ∧ v37 = .int .i64 k ∧ v10 = .int .i64 m ∧ 0 ≤ m ∧ m ≤ (k : Int) ∧ Hid (∀ fy : Nat, f0 = (fy : Int) → fy < 65536 → m = (liars fy k : Nat)) ∧ wr = wc) (fun _ v _ => nd - (intOf v).toNat)
  case atStart => exact ⟨0, 0, by omega, rfl, rfl, by omega, by omega, hide (fun fy _ _ => rfl), rfl⟩
  case round =>
   obtain ⟨k, m, hk, rfl, rfl, hm0, hmk, HML, rfl⟩ := hrel
   by_cases hlt : k < nd
   ·obtain ⟨x, hx⟩ : ∃ x, bits .and .i64 (f0 / 2 ^ k) 1 = x := ⟨_, rfl⟩
    have hx01 : x = 0 ∨ x = 1 := by rw [← hx]; exact and_one01 _
    have HML2 : Hid (∀ fy : Nat, f0 = (fy : Int) → fy < 65536 → m + x = (liars fy (k + 1) : Nat)) := hide (fun fy e hf => by
     have h1 := HML.out fy e hf
     have h2 := bit_one fy k hf
     rw [← e, hx] at h2
     rw [liars_succ, h1, h2]
     unfold liesB
     split <;> simp_all)
    go_wp2_with fail
    go_roundw
    case rel => exact ⟨k + 1, m + x, by omega, by go_num, by go_num, by omega, by omega, HML2, trivial⟩
    case measure => simp [intOf]; omega
   ·obtain rfl : nd = k := by omega
    have HFI := hide (fy_iff HND.out hnd16 HML.out)
    clear hmk HML
    by_cases a1 : m ≤ p.fa
    case neg =>
     have HNF : Hid (¬ FyOk p f0) := hide (fun h => a1 (HFI.out.1 h).1)
     have d1 : decide (p.fa < m) = true := decide_eq_true (by omega)
     clear a1
     have e1 : e = 1 := by
      rcases HE.out with ⟨_, h⟩ | ⟨h, _⟩ | ⟨h, _⟩ | ⟨h, _⟩
      ·exact h
      all_goals exact absurd h HNF.out
     subst e1
     go_wp2_with fail
     go_ret2
     exact ⟨rfl, HB4.out⟩
    have d1 : decide (p.fa < m) = false := decide_eq_false (by omega)
    by_cases a2 : 0 ≤ f0
    case neg =>
     have HNF : Hid (¬ FyOk p f0) := hide (fun h => a2 (HFI.out.1 h).2.1)
     have d2 : decide (f0 < 0) = true := decide_eq_true (by omega)
     clear a1 a2
     have e1 : e = 1 := by
      rcases HE.out with ⟨_, h⟩ | ⟨h, _⟩ | ⟨h, _⟩ | ⟨h, _⟩
      ·exact h
      all_goals exact absurd h HNF.out
     subst e1
     go_wp2_with fail
     go_ret2
     exact ⟨rfl, HB4.out⟩
    have d2 : decide (f0 < 0) = false := decide_eq_false (by omega)
    by_cases a3 : f0 / 2 ^ nd = 0
    case neg =>
     have HNF : Hid (¬ FyOk p f0) := hide (fun h => a3 (HFI.out.1 h).2.2)
     have d3 : (f0 / 2 ^ nd == 0) = false := beq_eq_false_iff_ne.2 a3
     clear a1 a2
     have e1 : e = 1 := by
      rcases HE.out with ⟨_, h⟩ | ⟨h, _⟩ | ⟨h, _⟩ | ⟨h, _⟩
      ·exact h
      all_goals exact absurd h HNF.out
     subst e1
     go_wp2_with fail
     go_ret2
     exact ⟨rfl, HB4.out⟩
    obtain ⟨fy, rfl, hfl, hli⟩ := HFI.out.2 ⟨a1, a2, a3⟩
    have HFO : Hid (FyOk p fy) := hide ⟨fy, rfl, hfl, hli⟩
    have HLI := hide hli
    rw [HND.out] at hfl
    have hf16 : fy < 65536 := by
     have : (2 : Nat) ^ nd ≤ 2 ^ 16 := Nat.pow_le_pow_right (by omega) hnd16
     omega
    clear a1 a2 HFI hli hfl
    by_cases a4 : ln = nd
    case neg =>
     have e1 : e = 7 := by
      rcases HE.out with ⟨h, _⟩ | ⟨_, _, h⟩ | ⟨_, h, _⟩ | ⟨_, h, _⟩
      ·exact absurd HFO.out h
      ·exact h
      all_goals (rw [HLN.out, HND.out] at h; exact absurd h a4)
     subst e1
     have d4 : ((ln : Int) == (nd : Int)) = false := beq_eq_false_iff_ne.2 (fun h => a4 (Int.ofNat_inj.1 h))
     have d5 : decide ((ln : Int) = (nd : Int)) = false := decide_eq_false (fun h => a4 (Int.ofNat_inj.1 h))
     go_wp2_with fail
     go_ret2
     exact ⟨rfl, HB4.out⟩
    subst a4
    obtain ⟨gk, cpk, cur, rfl, -, -, -, -, -, -⟩ := block_of_own HO4.out hnd1
    have HIS := hide (isl_of_own HO4.out HLN.out)
    have e1 : e = 2 := by
     rcases HE.out with ⟨h, _⟩ | ⟨_, h, _⟩ | ⟨_, _, _, h⟩ | ⟨_, _, _, h⟩
     ·exact absurd HFO.out h
     ·rw [HLN.out, HND.out] at h; exact absurd rfl h
     ·exact h
     ·exact absurd h HE0.out
    subst e1
    have HNC : Hid (¬ CkOk p fy zs) := hide (by
     rcases HE.out with ⟨h, _⟩ | ⟨_, h, _⟩ | ⟨_, _, h, _⟩ | ⟨_, _, _, h⟩
     ·exact absurd HFO.out h
     ·rw [HLN.out, HND.out] at h; exact absurd rfl h
     ·exact h
     ·exact absurd h HE0.out)
    have HCV : Hid (∀ W, Below wr.heap.size wr W → Blk W G 109 (clC p.nd p.fa p.sk p.ji p.dr p.rd (.slice A p.sl.length c) (.slice AL p.lk.length cl) p.fr (.slice AQ p.wn.length cq) fy (.slice (some ⟨gk, 0, none⟩) ln cpk) (.slice none 0 0) (.slice none 0 0) (.slice none 0 0) (.slice none 0 0) 0) ∧ IsL W (some ⟨gk, 0, none⟩) zs ∧ W.cell? ⟨w.heap.size, 2, none⟩ = some (.int .i64 p.sk)) := hide (fun W hB => ⟨HG4.out.below hB HG4.out.lt, HIS.out.below (Nat.le_refl _) hB, (plan_cells (HX4.out.below hB HX4.out.lt)).2.2.1⟩)
    obtain ⟨wb, hwb⟩ : ∃ wb, wildB zs = wb := ⟨_, rfl⟩
    have HWI : Hid (∀ W, Below wr.heap.size wr W → Calls Tryz.prog 37 #[.pointer (some ⟨G, 0, none⟩)] W fun e w' => e = .returned (.bool wb) ∧ w' = W) := hide (fun W hB => by
     have h1 := HCV.out W hB
     have := wild_any G p.nd p.fa p.sk p.ji p.dr p.rd (.slice A p.sl.length c) (.slice AL p.lk.length cl) p.fr (.slice AQ p.wn.length cq) (.slice none 0 0) (.slice none 0 0) (.slice none 0 0) (.slice none 0 0) 0 fy (some ⟨gk, 0, none⟩) cpk zs W (by rw [HLN.out]; exact h1.1) h1.2.1 (by rw [HLN.out]; omega)
     rw [hwb] at this
     exact this)
    cases wb
    ·obtain ⟨q0, hq1, hq2⟩ := some_right (fy := fy) HP.out HLI.out
     have HWB := hide hwb
     have HSP : Hid (∀ W, Below wr.heap.size wr W → Calls Tryz.prog 11 #[.pointer (some ⟨G, 0, none⟩)] W fun e w' => (∃ sp : Int, e = .returned (.int .i64 sp) ∧ decide (p.sk < sp) = true) ∧ Below W.heap.size W w') := hide (fun W hB => by
      have h1 := HCV.out W hB
      have := spreadC_any G p.nd p.fa p.sk p.ji p.dr p.rd (.slice A p.sl.length c) (.slice AL p.lk.length cl) p.fr (.slice AQ p.wn.length cq) (.slice none 0 0) (.slice none 0 0) (.slice none 0 0) (.slice none 0 0) 0 fy (some ⟨gk, 0, none⟩) cpk zs W (by rw [HLN.out]; exact h1.1) hf16 h1.2.1 (by rw [HLN.out]; exact hnd16) (by rw [HLN.out]; exact honL_some zs (by rw [HND.out] at hq1; exact hq1) hq2) (fun j hj => by have := wild_in HWB.out hj; omega)
      refine this.mono ?_
      rintro e w' ⟨⟨x, y, rfl, ht, hl⟩, hb⟩
      rw [HLN.out] at ht hl
      refine ⟨⟨x - y, rfl, decide_eq_true (apart_no (fun ha => HNC.out ⟨HWB.out, ?_⟩) ht hl)⟩, hb⟩
      rw [Int.toNat_natCast, HND.out]
      exact ha)
     have hx2 := x2
     clear hq1 hq2 hwb
     go_wp2_with fail
     go_region_held3 (fun w' => w'.cell? ⟨w.heap.size, 2, none⟩ = some (.int .i64 p.sk)) (first | exact hx2 | exact HS5.out)
      (first
       | (go_at_call 37; go_must (refine (HWI.out _ (by first | exact Below.refl _ _ | exact below_drewN (Below.refl _ _) 1)).mono ?_); rintro e w5 ⟨rfl, rfl⟩)
       | (go_at_call 11; go_must (refine (HSP.out _ (by first | exact Below.refl _ _ | exact below_drewN (Below.refl _ _) 1)).mono ?_); rintro e w5 ⟨⟨sp, rfl, hsp⟩, hB5⟩; have HB5 := hide ((below_drewN (Below.refl wr.heap.size wr) 1).trans hB5); have HS5 := hide (HCV.out w5 HB5.out).2.2; clear hB5))
     go_wp2_with fail
     go_ret2
     exact ⟨rfl, HB4.out.trans (HB5.out.mono HB4.out.size)⟩
    ·have hx2 := x2
     clear hwb
     go_wp2_with fail
     go_quiet ((go_at_call 37; (with_reducible exact Calls.quiet_of_same (HWI.out _ (below_drewN (Below.refl _ _) _)))))
     go_wp2_with fail
     go_ret2
     exact ⟨rfl, below_drewN HB4.out _⟩
end
end
end Go.Proofs.YtdogdlnaacimpaaGreatDoor
