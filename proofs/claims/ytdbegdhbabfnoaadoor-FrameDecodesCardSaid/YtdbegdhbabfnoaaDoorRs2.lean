/- The contract of the method Bytes of metronomeref.Frame at a frame with a message; no condition. -/
import Derived.Test.YtdbegdhbabfnoaaDoorRn
import Derived.Deep.RegionLaw
import Derived.Deep.Cut
import Derived.Deep.CutRange
import Derived.Test.YtdbegdhbabfnoaaDoorSto
set_option linter.unusedVariables false
set_option linter.unusedSimpArgs false
namespace Go.Proofs.YtdbegdhbabfnoaaDoor
open Go.RowKit

theorem step_append_str {P : Program} {ops : Array Oper} {o : Oper} {a : Act} {w : World} {K : Act → World → Prop} {Q : Exit → Act → World → Prop} {E : Prop}
    (hg : o.guard = none) (sl x : Operand) (t u : TypeId) (ho : o.op = .call { callee := .builtin .append, args := #[sl, x], argTypes := #[t, u] })
    (base : Nat) (e : TypeId) (i : TypeInfo) (ht : P.underlying t = some (.slice e)) (hu : P.underlying u = some .string) (hi : P.info? e = some i) (hz : i.zero = some (.int .u8 0))
    (hsize : i.size = 1) (hby : i.bytes = 1)
    (v : Value) (n : Nat) (xs : List Value) (hs : a.eval sl = v) (hown : w.ownsRow base e 1 v n xs) (s : ByteArray) (hx : a.eval x = .string s)
    (h63 : n + s.size ≤ maxLen) (hbytes : n + s.size ≤ 140737488355328) (hbase : base ≤ w.heap.size)
    (h : ∀ v' w', w'.ownsRow base e 1 v' (n + s.size) (xs ++ Lib.strCells s) → w.grownBy w' v.ownBlock → (v' = .slice none 0 0 ↔ v = .slice none 0 0 ∧ s.size = 0) → K (a.put o.dst v') w') :
    if Region.wanted o (yielded ops a.tmps) = true then Oper.wp P o a w K Q else E := by
  have hw : Region.wanted o (yielded ops a.tmps) = true := by simp [Region.wanted, hg]
  rw [if_pos hw]
  obtain ⟨v', w', hr, h2, h3, h4⟩ := Lib.run_append_own_string (P := P) w base t u o.type e i ht hu hi hz hsize hby v n xs hown s h63 hbytes hbase
  unfold Oper.wp execOp
  simp only [ho, resolve, invoke, builtin, Sem.run_bind, Sem.run_pure, Result.andThen_ok, List.map_toArray, List.map_cons, List.map_nil, hs, hx, hr]
  exact h v' w' h2 h3 h4

theorem own_base {w : World} {b b' n : Nat} {t : TypeId} {v : Value} {xs : List Value} (h : w.ownsRow b t 1 v n xs) (hb : b' ≤ b) : w.ownsRow b' t 1 v n xs :=
  ⟨h.1, h.2.imp id fun ⟨g, cap, cur, e1, e2, e3⟩ => ⟨g, cap, cur, e1, Nat.le_trans hb e2, e3⟩⟩

set_option maxRecDepth 100000 in
set_option maxHeartbeats 4000000 in
theorem rb_some (nd sl mb lk sq : Nat) (d : ByteArray) (w : World) (h1 : nd < 16) (h2 : sl < 32) (h3 : mb < 65536) (h4 : lk < 8) (h5 : sq < 256) (h6 : d.size ≤ 40) :
    Calls Tryd.prog 10 #[frV nd sl mb lk sq d] w (RbPost w (withSum (frB nd sl mb lk sq (dl d)))) := by
  have hb0' := Blk.new w 24 (frC nd sl mb lk sq d)
  obtain ⟨i0, i1, i2, i3, i4, i5⟩ := blk_cells6 hb0'
  have hlt0 := hb0'.lt
  clear hb0'
  have n1 : inB (nd : Int) 0 15 = true := inB_nat nd 15 (by omega)
  have n2 : inB (sl : Int) 0 31 = true := inB_nat sl 31 (by omega)
  have n3 : inB (mb : Int) 0 65535 = true := inB_nat mb 65535 (by omega)
  have n4 : inB (lk : Int) 0 7 = true := inB_nat lk 7 (by omega)
  have n5 : inB (sq : Int) 0 255 = true := inB_nat sq 255 (by omega)
  obtain ⟨x2, hx2⟩ : ∃ x : Nat, x = mb / 256 := ⟨_, rfl⟩
  obtain ⟨x3, hx3⟩ : ∃ x : Nat, x = mb % 256 := ⟨_, rfl⟩
  obtain ⟨x4, hx4⟩ : ∃ x : Nat, x = lk + 1 := ⟨_, rfl⟩
  obtain ⟨n, hn⟩ : ∃ n : Nat, n = d.size := ⟨_, rfl⟩
  have q2 : (mb : Int) / 256 = (x2 : Int) := by omega
  have q3 : (mb : Int) % 256 = (x3 : Int) := by omega
  have q4 : (lk : Int) + 1 = (x4 : Int) := by omega
  have q5 : ((lk : Int) == -1) = false := by simp <;> omega
  have qn : (d.size : Int) = (n : Int) := by omega
  have X : Hid (x2 = mb / 256 ∧ x3 = mb % 256 ∧ x4 = lk + 1 ∧ n = d.size) := ⟨hx2, hx3, hx4, hn⟩
  have b2 : x2 < 256 := by omega
  have b3 : x3 < 256 := by omega
  have b4 : x4 < 256 := by omega
  have n40 : n ≤ 40 := by omega
  clear hx2 hx3 hx4 hn h6
  have r0 : (nd : Int) % 256 = nd := by omega
  have r1 : (sl : Int) % 256 = sl := by omega
  have r2 : (x2 : Int) % 256 = x2 := by omega
  have r3 : (x3 : Int) % 256 = x3 := by omega
  have r4 : (x4 : Int) % 256 = x4 := by omega
  have r5 : (sq : Int) % 256 = sq := by omega
  have r6 : (n : Int) % 256 = n := by omega
  have d1 : decide ((n : Int) ≤ 40) = true := decide_eq_true (by omega)
  go_enter Tryd.func10, Tryd.ntmps10
  go_upto_if 77 with (go_at_call 14; refine (in_any _ _ _ _).mono ?_; rintro e w' ⟨rfl, rfl⟩)
  generalize hW : (World.alloc (World.alloc _ _) _) = W0
  obtain ⟨i4, i5, m1, hB, hgt, hfr⟩ : W0.cell? ⟨w.heap.size, 4, none⟩ = some (.int .i64 sq) ∧ W0.cell? ⟨w.heap.size, 5, none⟩ = some (.string d) ∧ W0.ownsRow (w.heap.size + 1) 5 1 (.slice (some ⟨w.heap.size + 1, 0, none⟩) 5 5) 5 (bv [nd, sl, x2, x3, x4]) ∧ Below w.heap.size w W0 ∧ w.heap.size + 1 ≤ W0.heap.size ∧ Blk W0 w.heap.size 24 (frC nd sl mb lk sq d) := by
    subst hW
    have hb0 := (Blk.new w 24 (frC nd sl mb lk sq d)).alloc (.cells (bv [nd, sl, x2, x3, x4]).toArray 5)
    obtain ⟨_, _, _, _, k4, k5⟩ := blk_cells6 hb0
    refine ⟨k4, k5, ?_, ?_, by simp, hb0⟩
    · have := own_of_blk (base := w.heap.size + 1) (n := 5) (Blk.new (w.alloc (.cells (frC nd sl mb lk sq d) 24)) 5 (bv [nd, sl, x2, x3, x4]).toArray) (by simp) rfl (by simp [maxLen])
      simp only [World.size_alloc] at this
      exact this
    · exact ((Below.refl w.heap.size w).alloc (Nat.le_refl _) _).alloc (by simp) _
  clear hW i0 i1 i2 i3 hlt0
  obtain ⟨i0', hi, hz0, hz1, hz2⟩ := info_parts u8_info
  have hnw : Hid (([.int .u8 (IntKind.u8.wrap (sq : Int)), .int .u8 (IntKind.u8.wrap (n : Int))] : List Value) = bv [sq, n]) := hide (by
    have e1 : IntKind.u8.wrap (sq : Int) = sq := by rw [IntKind.wrap_u8]; omega
    have e2 : IntKind.u8.wrap (n : Int) = n := by rw [IntKind.wrap_u8]; omega
    rw [e1, e2]; rfl)
  have N0 := hide ((m1.alloc (.cells #[.int .u8 (IntKind.u8.wrap (sq : Int)), .int .u8 (IntKind.u8.wrap (n : Int))] 5)).drew)
  have N2 := hide (show ∀ j u, ([.int .u8 (IntKind.u8.wrap (sq : Int)), .int .u8 (IntKind.u8.wrap (n : Int))] : List Value)[j]? = some u → (W0.alloc (.cells #[.int .u8 (IntKind.u8.wrap (sq : Int)), .int .u8 (IntKind.u8.wrap (n : Int))] 5)).drew.cell? ((⟨W0.heap.size, 0, none⟩ : Addr).add j) = some u from news_of_blk (Blk.new W0 5 ([.int .u8 (IntKind.u8.wrap (sq : Int)), .int .u8 (IntKind.u8.wrap (n : Int))] : List Value).toArray))
  have B0 := hide ((hB.alloc hB.size (.cells #[.int .u8 (IntKind.u8.wrap (sq : Int)), .int .u8 (IntKind.u8.wrap (n : Int))] 5)).drew)
  have hF0 := hide ((hfr.alloc (.cells #[.int .u8 (IntKind.u8.wrap (sq : Int)), .int .u8 (IntKind.u8.wrap (n : Int))] 5)).drew)
  have HG : Hid (∀ w1, (W0.alloc (.cells #[.int .u8 (IntKind.u8.wrap (sq : Int)), .int .u8 (IntKind.u8.wrap (n : Int))] 5)).drew.grownBy w1 (Value.ownBlock (.slice (some ⟨w.heap.size + 1, 0, none⟩) 5 5)) → Below w.heap.size w w1 ∧ w1.cell? ⟨w.heap.size, 5, none⟩ = some (.string d)) := hide (by
    intro w1 hg1
    refine ⟨B0.out.grown hg1 B0.out.size ?_, (blk_cells6 (hF0.out.grown hg1 ?_)).2.2.2.2.2⟩
    · intro k hk
      simp [Value.ownBlock] at hk
      omega
    · intro e
      simp [Value.ownBlock] at e)
  have HS : Hid (w.heap.size + 1 ≤ (W0.alloc (.cells #[.int .u8 (IntKind.u8.wrap (sq : Int)), .int .u8 (IntKind.u8.wrap (n : Int))] 5)).drew.heap.size) := hide (Nat.le_trans hgt (by show W0.heap.size ≤ (W0.alloc _).heap.size; simp))
  have k5 := (blk_cells6 hF0.out).2.2.2.2.2
  clear m1 hB hfr
  go_cut [7] from 77 to 90 (fun v wx => wx.ownsRow (w.heap.size + 1) 5 1 v (7 + d.size) (bv ([nd, sl, x2, x3, x4] ++ [sq, n] ++ dl d)) ∧ Below w.heap.size w wx)
  case first =>
    clear q2 q3 q4
    go_wp2_with fail
    go_region_law (first
      | (refine step_append_own rfl (.tmp 78) (.tmp 86) 22 rfl (w.heap.size + 1) 5 i0' _ 1 1 Tryd.underlying22 hi hz0 hz1 hz2 rfl (by decide) (.slice (some ⟨w.heap.size + 1, 0, none⟩) 5 5) 5 (bv [nd, sl, x2, x3, x4]) rfl N0.out ⟨W0.heap.size, 0, none⟩ 2 2 [.int .u8 (IntKind.u8.wrap (sq : Int)), .int .u8 (IntKind.u8.wrap (n : Int))] rfl rfl N2.out (by rw [hnw.out]; exact bv_one _) (by simp [maxLen]) (by omega) HS.out ?_; intro v1 w1 hown1 hg1 _; obtain ⟨hb1, hF1⟩ := HG.out w1 hg1; have O1 := hide hown1; have HB1 := hide hb1; clear hown1 hg1 hb1)
      | (refine step_append_str rfl (.tmp 87) (.tmp 89) 22 9 rfl (w.heap.size + 1) 5 i0' Tryd.underlying22 Tryd.underlying9 hi hz0 hz1 hz2 v1 7 (bv [nd, sl, x2, x3, x4] ++ [.int .u8 (IntKind.u8.wrap (sq : Int)), .int .u8 (IntKind.u8.wrap (n : Int))]) rfl O1.out d rfl (by have := X.out.2.2.2; simp [maxLen]; omega) (by have := X.out.2.2.2; omega) (Nat.le_of_lt (by obtain ⟨g, cap, hv, h1, h2, _⟩ := own_form O1.out (by omega); omega)) ?_; intro v2 w2 hown2 hg2 _; have O2 := hide hown2; have HB2 := hide (HB1.out.grown hg2 HB1.out.size (fun k hk => Nat.le_trans (by omega) (O1.out.lt k hk).1)); clear hown2 hg2))
    all_goals
      go_simp
      go_wp2_with fail
      go_meet
      refine ⟨?_, HB2.out⟩
      rw [bv_app, bv_app, bv_dl, ← hnw.out]
      exact O2.out
  case rest =>
    obtain ⟨hO2, hB2⟩ := hcut
    have hlen : ([nd, sl, x2, x3, x4] ++ [sq, n] ++ dl d).length = 7 + d.size := by simp [dl_len]; omega
    have hlt : ∀ x ∈ ([nd, sl, x2, x3, x4] ++ [sq, n] ++ dl d), x < 256 := by
      intro x hx
      simp only [List.mem_append, List.mem_cons, List.not_mem_nil, or_false] at hx
      rcases hx with (hx | hx) | hx
      · omega
      · omega
      · exact dl_lt d x hx
    obtain ⟨g, cap, hv, hgb, hgl, _⟩ := own_form hO2 (by omega)
    subst hv
    have hBA := bytesAt_of_own hO2
    obtain ⟨bs, hbs⟩ : ∃ bs, bs = [nd, sl, x2, x3, x4] ++ [sq, n] ++ dl d := ⟨_, rfl⟩
    rw [← hbs] at hlen hlt hBA hO2
    have hcs := crcS_lt bs hlt
    have hfin : withSum (frB nd sl mb lk sq (dl d)) = bs ++ [crcS bs / 256, crcS bs % 256] := by
      obtain ⟨e2, e3, e4, e5⟩ := X.out
      have : frB nd sl mb lk sq (dl d) = bs := by rw [hbs, frB, e2, e3, e4, e5, dl_len]; simp
      rw [withSum, this]
    rw [← hlen] at hBA hO2 ⊢
    obtain ⟨m, hm⟩ : ∃ m, m = bs.length := ⟨_, rfl⟩
    have hm50 : m ≤ 50 := by have := X.out.2.2.2; omega
    rw [← hm] at hBA hO2 ⊢
    have HM := hide hm
    have HBA := hide hBA; have HO := hide hO2; have HF := hide hfin; have HLT := hide hlt; have HB2 := hide hB2
    have HSum : Hid (Calls Tryd.prog 9 #[.slice (some ⟨g, 0, none⟩) m cap] wc fun e w' => e = .returned (.int .i64 (crcS bs : Nat)) ∧ wc = w') := hide (by
      have := rsum_any (some ⟨g, 0, none⟩) cap bs wc (by rw [← hm]; exact hBA) hlt (by omega)
      rw [← hm] at this; exact this)
    clear hBA hO2 hfin hbs hlen hlt hm hB2
    go_wp2_with fail
    refine HSum.out.mono ?_
    rintro e w3 ⟨rfl, rfl⟩
    generalize hc : crcS bs = c at *
    obtain ⟨y1, hy1⟩ : ∃ y : Nat, y = c / 256 := ⟨_, rfl⟩
    obtain ⟨y2, hy2⟩ : ∃ y : Nat, y = c % 256 := ⟨_, rfl⟩
    have p1 : (c : Int) / 256 = (y1 : Int) := by omega
    have p2 : (c : Int) % 256 = (y2 : Int) := by omega
    have c1 : y1 < 256 := by omega
    have c2 : y2 < 256 := by omega
    have p3 : (y1 : Int) % 256 = y1 := by omega
    have p4 : (y2 : Int) % 256 = y2 := by omega
    have Y : Hid (y1 = c / 256 ∧ y2 = c % 256) := ⟨hy1, hy2⟩
    clear hy1 hy2 hc
    go_wp2_with fail
    refine HSum.out.mono ?_
    rintro e w3 ⟨rfl, rfl⟩
    have n3 := (own_base HO.out (Nat.le_succ w.heap.size)).alloc (.cells (bv [y1, y2]).toArray 5)
    have n4 := news_of_blk (Blk.new wc 5 (bv [y1, y2]).toArray)
    have hB3 := HB2.out.alloc HB2.out.size (.cells (bv [y1, y2]).toArray 5)
    have N3 := hide n3; have N4 := hide n4; have B3 := hide hB3; clear n3 n4 hB3
    go_wp2_with (first
      | (at_builtin; go_must (refine wpList_append_own _ rfl (.tmp 91) (.tmp 100) _ rfl w.heap.size 5 i0' _ 1 1 Tryd.underlying22 hi hz0 hz1 hz2 rfl (by decide) (.slice (some ⟨g, 0, none⟩) m cap) m (bv bs) rfl (by exact N3.out) ⟨wc.heap.size, 0, none⟩ 2 2 (bv [y1, y2]) rfl rfl (by exact N4.out) (bv_one _) (by simp [maxLen]; omega) (by omega) B3.out.size ?_); intro v5 w5 hown5 hg5 _; have O5 := hide hown5; have HB5 := hide (B3.out.grown hg5 B3.out.size (by intro k hk; simp [Value.ownBlock] at hk; omega)); clear hown5 hg5))
    go_ret2
    refine ⟨v5, rfl, ?_, HB5.out⟩
    obtain ⟨e1, e2⟩ := Y.out
    rw [HF.out, List.length_append, bv_app, ← e1, ← e2, ← HM.out]
    exact O5.out
end Go.Proofs.YtdbegdhbabfnoaaDoor
