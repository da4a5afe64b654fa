/- The contract of metronomeref.Open ; condition: the bytes lie in memory. -/
import Derived.Test.YtdbegdhbabfnoaaDoorOq
import Derived.BigRegion
import Derived.Deep.Cut
import Derived.Deep.CutRange
import Derived.Deep.CutBlock
set_option linter.unusedVariables false
set_option linter.unusedSimpArgs false
namespace Go.Proofs.YtdbegdhbabfnoaaDoor
open Go.RowKit

/-- What Open answers: the frame, or none and ErrForm. -/
def OpPost (w : World) (ok : Bool) (v : Value) (e : Ending) (w' : World) : Prop :=
  e = .returned (.tuple #[if ok then v else frZ, .int .i64 (if ok then 0 else 3)]) ∧ Below w.heap.size w w'

theorem OpPost.no {w w' : World} {ok : Bool} {v : Value} (h : ok = false) (hB : Below w.heap.size w w') : OpPost w ok v (.returned (.tuple #[frZ, .int .i64 3])) w' := by rw [h]; exact ⟨rfl, hB⟩
theorem OpPost.yes {w w' : World} {ok : Bool} {v u : Value} (h : ok = true) (hv : v = u) (hB : Below w.heap.size w w') : OpPost w ok v (.returned (.tuple #[u, .int .i64 0])) w' := by rw [h, hv]; exact ⟨rfl, hB⟩
theorem opn_results (tmps : Array Value) (w : World) (g : Nat) (a b c d e f v : Value) (h2 : tmps[2]? = some (.pointer (some ⟨g, 0, none⟩))) (h3 : tmps[3]? = some v) (hb : Blk w g 24 #[a, b, c, d, e, f]) :
    (results Tryd.f4 tmps).run Tryd.prog w = .ok (.tuple #[.agg #[a, b, c, d, e, f], v]) w := by
  obtain ⟨k0, k1, k2, k3, k4, k5, _⟩ := hb.cells6
  simp [results, Tryd.results4, go_sem, h2, h3, k0, k1, k2, k3, k4, k5]

set_option maxRecDepth 100000 in
set_option maxHeartbeats 4000000 in
theorem opn_short (A : Option Addr) (n c : Nat) (w : World) (v : Value) (h : n < 7) :
    Calls Tryd.prog 4 #[.slice A n c] w (OpPost w false v) := by
  have h1 : decide ((n : Int) < 7) = true := decide_eq_true (by omega)
  clear h
  go_enter Tryd.func4, Tryd.ntmps4
  go_wp2_with fail
  exact bodyPost_ret (opn_results _ _ w.heap.size _ _ _ _ _ _ (.int .i64 3) rfl rfl (Blk.new w _ #[.int .i64 0, .int .i64 0, .int .i64 0, .int .i64 0, .int .i64 0, .string ⟨#[]⟩])) rfl ⟨rfl, (Below.refl _ _).alloc (Nat.le_refl _) _⟩

set_option maxRecDepth 100000 in
set_option maxHeartbeats 4000000 in
theorem opn_any (l : List Nat) (b off c : Nat) (w : World) (hl : ∀ x ∈ l, x < 256) (h7 : 7 ≤ l.length) (hc : l.length ≤ c) (hc2 : c ≤ 9223372036854775807) (hB : BytesAt w (some ⟨b, off, none⟩) l.length l) :
    Calls Tryd.prog 4 #[.slice (some ⟨b, off, none⟩) l.length c] w (OpPost w (opnOk l) (frVal (decF l))) := by
  obtain ⟨m, hm⟩ : ∃ m, m = l.length := ⟨_, rfl⟩
  have hcell := fun j hj => bytes_cell hB j hj
  have g0 : w.cell? ⟨b, off, none⟩ = some (.int .u8 (l.getD 0 0 : Nat)) := by simpa using hcell 0 (by omega)
  have g1 := hcell 1 (by omega)
  have g2 := hcell 2 (by omega)
  have g3 := hcell 3 (by omega)
  have g4 := hcell 4 (by omega)
  have l0 := getD_lt hl 0
  have l1 := getD_lt hl 1
  have l2 := getD_lt hl 2
  have l3 := getD_lt hl 3
  have l4 := getD_lt hl 4
  obtain ⟨ok, hok⟩ : ∃ ok, ok = opnOk l := ⟨_, rfl⟩
  obtain ⟨v, hv⟩ : ∃ v, v = frVal (decF l) := ⟨_, rfl⟩
  rw [← hok, ← hv, ← hm]
  have HC0 : Hid (l.getD 4 0 = 0 → ok = decide (bx (l.getD 0 0) (l.getD 1 0) (l.getD 2 0 * 256 + l.getD 3 0 : Nat) ((l.getD 4 0 : Int) - 1) 0 ⟨#[]⟩ = some l) ∧ v = frV (l.getD 0 0) (l.getD 1 0) (l.getD 2 0 * 256 + l.getD 3 0 : Nat) ((l.getD 4 0 : Int) - 1) 0 ⟨#[]⟩) := hide (fun h => by rw [hok, hv]; exact opn_case0 l h7 h)
  obtain ⟨xs, hxs⟩ : ∃ xs, xs = (l.drop 7).take (l.length - 9) := ⟨_, rfl⟩
  have HC1 : Hid (l.getD 4 0 ≠ 0 → 9 ≤ m → ok = decide (bx (l.getD 0 0) (l.getD 1 0) (l.getD 2 0 * 256 + l.getD 3 0 : Nat) ((l.getD 4 0 : Int) - 1) (l.getD 5 0) (strN xs) = some l) ∧ v = frV (l.getD 0 0) (l.getD 1 0) (l.getD 2 0 * 256 + l.getD 3 0 : Nat) ((l.getD 4 0 : Int) - 1) (l.getD 5 0) (strN xs)) := hide (fun h h9 => by rw [hok, hv, hxs]; exact opn_case1 l hl (by omega) h)
  have HC2 : Hid (l.getD 4 0 ≠ 0 → ¬ 9 ≤ m → ok = false) := hide (fun h h9 => by rw [hok]; exact opn_case2 l (by omega) h)
  have hxl : 9 ≤ m → xs.length = m - 9 := fun _ => by rw [hxs, List.length_take, List.length_drop]; omega
  have hxc : ∀ j, j < m - 9 → w.cell? ⟨b, off + 7 + j, none⟩ = some (.int .u8 (xs.getD j 0 : Nat)) := fun j hj => by
    have e : xs.getD j 0 = l.getD (7 + j) 0 := by rw [hxs, List.getD, List.getElem?_take_of_lt (by omega), List.getElem?_drop]; rfl
    rw [e, Nat.add_assoc]; exact hcell (7 + j) (by omega)
  have HXL := hide hxl; clear hxs hxl
  have g5 := hcell 5 (by omega)
  have l5 := getD_lt hl 5
  generalize l.getD 0 0 = nd at *
  generalize l.getD 1 0 = sl at *
  generalize l.getD 2 0 = x2 at *
  generalize l.getD 3 0 = x3 at *
  generalize l.getD 4 0 = lk at *
  generalize l.getD 5 0 = x5 at *
  have h1 : decide ((m : Int) < 7) = false := decide_eq_false (by omega)
  have m7 : 7 ≤ m := by omega
  have hcl : Hid (∀ j, j < m → w.cell? ⟨b, off + j, none⟩ = some (.int .u8 (l.getD j 0 : Nat))) := hide (fun j hj => hcell j (by omega))
  have HL := hide hl; have HOK := hide hok; have HV := hide hv; have HM := hide hm; have HC := hide hc
  clear hl hB hok hv hcell hc hm HOK HV
  go_enter Tryd.func4, Tryd.ntmps4
  go_upto_region 3 with fail
  generalize hW : (World.alloc _ _) = W
  obtain ⟨hb, hBW⟩ : Blk W w.heap.size 24 #[.int .i64 0, .int .i64 0, .int .i64 0, .int .i64 0, .int .i64 0, .string ⟨#[]⟩] ∧ Below w.heap.size w W := by
    subst hW
    exact ⟨Blk.new w _ _, (Below.refl _ _).alloc (Nat.le_refl _) _⟩
  clear hW
  have e0 := (hBW.cell (World.block_lt_of_cell? _ _ g0)).trans g0
  have e1 := (hBW.cell (World.block_lt_of_cell? _ _ g1)).trans g1
  have e2 := (hBW.cell (World.block_lt_of_cell? _ _ g2)).trans g2
  have e3 := (hBW.cell (World.block_lt_of_cell? _ _ g3)).trans g3
  have e4 := (hBW.cell (World.block_lt_of_cell? _ _ g4)).trans g4
  have E5 := hide ((hBW.cell (World.block_lt_of_cell? _ _ g5)).trans g5)
  have HXC : Hid (∀ j, j < m - 9 → W.cell? ⟨b, off + 7 + j, none⟩ = some (.int .u8 (xs.getD j 0 : Nat))) := hide (fun j hj => (hBW.cell (World.block_lt_of_cell? _ _ (hxc j hj))).trans (hxc j hj))
  have HBL : Hid (∀ j, j < m → W.cell? ⟨b, off + j, none⟩ = some (.int .u8 (l.getD j 0 : Nat))) := hide (fun j hj => (hBW.cell (World.block_lt_of_cell? _ _ (hcl.out j hj))).trans (hcl.out j hj))
  have Hb := hide hb; have HBW := hide hBW; have hsz := hBW.size
  have HBS := hide (show w.heap.size + 1 ≤ W.heap.size from hb.lt)
  clear hb hBW g0 g1 g2 g3 g4 g5 hxc
  have hbl : b < W.heap.size := World.block_lt_of_cell? _ _ e0
  have hbn : b ≠ W.heap.size := Nat.ne_of_lt hbl
  have hbm : W.heap.size ≠ b := fun h => hbn h.symm
  have d0 : ∀ o j, (W.alloc o).drew.cell? ⟨b, j, none⟩ = W.cell? ⟨b, j, none⟩ := fun o j => World.cell?_alloc_past _ _ _ hbl
  go_cut [4] from 11 to 34 (fun z4 wx => z4 = .pointer (some ⟨W.heap.size, 0, none⟩) ∧ Blk wx W.heap.size 24 #[.int .i64 nd, .int .i64 sl, .int .i64 ((x2 * 256 + x3 : Nat) : Int), .int .i64 ((lk : Int) - 1), .int .i64 0, .string ⟨#[]⟩] ∧ Blk wx w.heap.size 24 #[.int .i64 0, .int .i64 0, .int .i64 0, .int .i64 0, .int .i64 0, .string ⟨#[]⟩] ∧ Below w.heap.size w wx ∧ ∀ j, wx.cell? ⟨b, j, none⟩ = W.cell? ⟨b, j, none⟩)
  case first =>
    go_region
    go_wp2_with fail
    go_meet
    have hmb : ((x2 * 256 + x3 : Nat) : Int) = (x2 : Int) * 256 + (x3 : Int) := by omega
    rw [hmb]
    exact ⟨rfl, (Blk.new W _ _).drew, (Hb.out.alloc _).drew, (HBW.out.alloc hsz _).drew, fun j => d0 _ j⟩
  case rest =>
    obtain ⟨rfl, ha, hb3, hB3, hd3⟩ := hcut
    by_cases hz : lk = 0
    · obtain ⟨hq, hv2⟩ := HC0.out hz
      subst hz
      rw [show (((0 : Nat) : Int) - 1) = -1 from rfl] at hq hv2 ha
      have h37 : decide ((0 : Int) ≤ -1) = false := by decide
      have HA := hide ha; have HB3 := hide hb3; have HBB := hide hB3; have HD := hide hd3
      obtain ⟨j0, j1, j2, j3, j4, j5, _⟩ := ha.cells6
      clear ha hb3 hB3 hd3
      obtain ⟨hbx, hbx2⟩ := bytes_any nd sl ((x2 * 256 + x3 : Nat) : Int) ((-1)) 0 (⟨#[]⟩) (by decide)
      generalize bx nd sl ((x2 * 256 + x3 : Nat) : Int) ((-1)) 0 (⟨#[]⟩) = o at hq hbx hbx2
      have HBX := hide hbx; have HBX2 := hide hbx2; have HQ := hide hq
      clear hbx hbx2 hq
      go_wp2_with fail
      refine (HBX.out _).mono ?_
      intro e w5 hr
      cases o with
      | none =>
        obtain ⟨rfl, hB⟩ := hr
        have hb5 := HB3.out.below hB HB3.out.lt
        obtain ⟨k0, k1, k2, k3, k4, k5, f0, f1, f2, f3, f4, f5⟩ := hb5.cells6
        have HB5 := hide (HBB.out.trans (hB.mono HBB.out.size)); have HK5 := hide hb5
        have HN := hide (show ok = false by rw [HQ.out]; rfl)
        clear hB hb5 j0 j1 j2 j3 j4 j5
        go_wp2_with fail
        exact bodyPost_ret (opn_results _ _ w.heap.size _ _ _ _ _ _ (.int .i64 3) rfl rfl ((((((HK5.out.set_ 0 _).set_ 1 _).set_ 2 _).set_ 3 _).set_ 4 _).set_ 5 _)) rfl (OpPost.no HN.out ((((((HB5.out.setCell (Nat.le_refl _) _).setCell (Nat.le_refl _) _).setCell (Nat.le_refl _) _).setCell (Nat.le_refl _) _).setCell (Nat.le_refl _) _).setCell (Nat.le_refl _) _))
      | some ws =>
        obtain ⟨hw1, hw2⟩ := HBX2.out ws rfl
        obtain ⟨g, cap, rfl, hby, hgl, hB⟩ := RbPost.open hr (by omega)
        have hb5 := HB3.out.below hB HB3.out.lt
        obtain ⟨k0, k1, k2, k3, k4, k5, f0, f1, f2, f3, f4, f5⟩ := hb5.cells6
        have ha5 := HA.out.below hB HA.out.lt
        obtain ⟨i0, i1, i2, i3, i4, i5, _⟩ := ha5.cells6
        have HB5 := hide (HBB.out.trans (hB.mono HBB.out.size)); have HK5 := hide hb5
        have hs1 := str_of_bytes (c := cap) hby rfl
        have hs2 := run_convert_bytes_arg (P := Tryd.prog) w5 22 5 Tryd.underlying22 Tryd.underlying5 b off m c (l.map fun (x : Nat) => (x : Int)) (by rw [List.length_map]; exact HM.out.symm) (fun i hi => by
          have h1 : wc.cell? ⟨b, off + i, none⟩ = some (.int .u8 (l.getD i 0 : Nat)) := by rw [HD.out]; exact HBL.out i hi
          rw [(hB.cell (p := ⟨b, off + i, none⟩) (World.block_lt_of_cell? _ _ h1)).trans h1]
          congr 2
          simp only [List.getD, List.getElem?_map]
          cases l[i]? <;> rfl) 9 Tryd.underlying9
        rw [show strOfNums (l.map fun (x : Nat) => (x : Int)) = strN l from rfl] at hs2
        by_cases he : ws = l
        · subst he
          have HN := hide (show ok = true by rw [HQ.out]; simp)
          have HV2 := hide hv2
          clear hB hb5 ha5 j0 j1 j2 j3 j4 j5 hv2 hw1 hby hgl hr
          generalize strN ws = sw at *
          go_wp2_with fail
          exact bodyPost_ret (opn_results _ _ w.heap.size _ _ _ _ _ _ (.int .i64 0) rfl rfl ((((((HK5.out.set_ 0 _).set_ 1 _).set_ 2 _).set_ 3 _).set_ 4 _).set_ 5 _)) rfl (OpPost.yes HN.out HV2.out ((((((HB5.out.setCell (Nat.le_refl _) _).setCell (Nat.le_refl _) _).setCell (Nat.le_refl _) _).setCell (Nat.le_refl _) _).setCell (Nat.le_refl _) _).setCell (Nat.le_refl _) _))
        · have hne : strN ws ≠ strN l := fun h => he (strN_inj hw1 HL.out h)
          have HN := hide (show ok = false by rw [HQ.out]; simpa using he)
          clear hB hb5 ha5 j0 j1 j2 j3 j4 j5 hv2 hw1 hby hgl hr he
          generalize strN ws = sw at *
          generalize strN l = sz at *
          have hq1 : (sw.toList == sz.toList) = false := by rw [beq_eq_false_iff_ne]; intro h; apply hne; rw [ByteArray.toList_eq, ByteArray.toList_eq] at h; exact Go.WideShapes.bytes_inj h
          go_wp2_with fail
          exact bodyPost_ret (opn_results _ _ w.heap.size _ _ _ _ _ _ (.int .i64 3) rfl rfl ((((((HK5.out.set_ 0 _).set_ 1 _).set_ 2 _).set_ 3 _).set_ 4 _).set_ 5 _)) rfl (OpPost.no HN.out ((((((HB5.out.setCell (Nat.le_refl _) _).setCell (Nat.le_refl _) _).setCell (Nat.le_refl _) _).setCell (Nat.le_refl _) _).setCell (Nat.le_refl _) _).setCell (Nat.le_refl _) _))
    · by_cases h9 : 9 ≤ m
      · obtain ⟨hq, hv2⟩ := HC1.out hz h9
        have hxl2 := hide (HXL.out h9)
        have h37 : decide ((0 : Int) ≤ (lk : Int) - 1) = true := decide_eq_true (by omega)
        have h40 : decide ((m : Int) < 9) = false := decide_eq_false (by omega)
        have HA := hide ha; have HB3 := hide hb3; have HBB := hide hB3; have HD := hide hd3
        have e5 : wc.cell? ⟨b, off + 5, none⟩ = some (.int .u8 x5) := by rw [HD.out]; exact E5.out
        have hmc : m ≤ c := by rw [HM.out]; exact HC.out
        have hxs2 : (xs.map fun (x : Nat) => (x : Int)).length = m - 2 - 7 := by rw [List.length_map, hxl2.out]; omega
        have hxg : ∀ i, (xs.map fun (x : Nat) => (x : Int)).getD i 0 = ((xs.getD i 0 : Nat) : Int) := fun i => by
          simp only [List.getD, List.getElem?_map]
          cases xs[i]? <;> rfl
        have hsz4 : w.heap.size ≤ W.heap.size := hsz
        obtain ⟨j0, j1, j2, j3, j4, j5, q_u0, q_u1, q_u2, q_u3, q_u4, q_u5⟩ := ha.cells6
        clear ha hb3 hB3 hd3
        have hstr := run_convert_bytes_arg (P := Tryd.prog) wc.drew 22 5 Tryd.underlying22 Tryd.underlying5 b (off + 7) (m - 2 - 7) (c - 7) (xs.map fun (x : Nat) => (x : Int)) hxs2 (fun i hi => by show wc.cell? _ = _; rw [HD.out, hxg]; exact HXC.out i (by omega)) 9 Tryd.underlying9
        have hstr2 := run_convert_bytes_arg (P := Tryd.prog) (wc.setCell ⟨W.heap.size, 4, none⟩ (.int .i64 (x5 : Int))).drew 22 5 Tryd.underlying22 Tryd.underlying5 b (off + 7) (m - 2 - 7) (c - 7) (xs.map fun (x : Nat) => (x : Int)) hxs2 (fun i hi => by show (wc.setCell _ _).cell? _ = _; rw [World.cell?_setCell_other (h := (fun e => hbm (congrArg Addr.block e) : (⟨W.heap.size, 4, none⟩ : Addr) ≠ ⟨b, off + 7 + i, none⟩)), HD.out, hxg]; exact HXC.out i (by omega)) 9 Tryd.underlying9
        rw [show strOfNums (xs.map fun (x : Nat) => (x : Int)) = strN xs from rfl] at hstr hstr2
        go_upto_region 7 with fail
        go_cut [42] from 42 to 53 (fun _ wx => wx = ((wc.setCell ⟨W.heap.size, 4, none⟩ (.int .i64 (x5 : Int))).setCell ⟨W.heap.size, 5, none⟩ (.string (strN xs))).drew)
        case first =>
          go_region
          go_wp2_with fail
          go_meet
          exact rfl
        case rest =>
          subst hcut
          have hbw : w.heap.size ≠ W.heap.size := Nat.ne_of_lt HBS.out
          generalize hW : (World.drew _) = W4
          obtain ⟨ha, hb3, hB3, hd3⟩ : Blk W4 W.heap.size 24 #[.int .i64 nd, .int .i64 sl, .int .i64 ((x2 * 256 + x3 : Nat) : Int), .int .i64 ((lk : Int) - 1), .int .i64 x5, .string (strN xs)] ∧ Blk W4 w.heap.size 24 #[.int .i64 0, .int .i64 0, .int .i64 0, .int .i64 0, .int .i64 0, .string ⟨#[]⟩] ∧ Below w.heap.size w W4 ∧ ∀ j, W4.cell? ⟨b, j, none⟩ = W.cell? ⟨b, j, none⟩ := by
            subst hW
            refine ⟨((HA.out.set_ 4 _).set_ 5 _).drew, ((HB3.out.far (by exact hbw) _).far (by exact hbw) _).drew, ((HBB.out.setCell (by exact hsz4) _).setCell (by exact hsz4) _).drew, fun j => ?_⟩
            show ((wc.setCell _ _).setCell _ _).cell? _ = _
            rw [World.cell?_setCell_other (h := (fun e => hbm (congrArg Addr.block e) : (⟨W.heap.size, 5, none⟩ : Addr) ≠ ⟨b, j, none⟩)), World.cell?_setCell_other (h := (fun e => hbm (congrArg Addr.block e) : (⟨W.heap.size, 4, none⟩ : Addr) ≠ ⟨b, j, none⟩))]
            exact HD.out j
          clear hW hstr hstr2 j0 j1 j2 j3 j4 j5 q_u0 q_u1 q_u2 q_u3 q_u4 q_u5 HA HB3 HBB HD e5 hxs2 hxg
          have HA := hide ha; have HB3 := hide hb3; have HBB := hide hB3; have HD := hide hd3
          obtain ⟨j0, j1, j2, j3, j4, j5, _⟩ := ha.cells6
          clear ha hb3 hB3 hd3
          obtain ⟨hbx, hbx2⟩ := bytes_any nd sl ((x2 * 256 + x3 : Nat) : Int) ((lk : Int) - 1) x5 (strN xs) (by rw [strN_size, hxl2.out]; omega)
          generalize bx nd sl ((x2 * 256 + x3 : Nat) : Int) ((lk : Int) - 1) x5 (strN xs) = o at hq hbx hbx2
          have HBX := hide hbx; have HBX2 := hide hbx2; have HQ := hide hq
          clear hbx hbx2 hq
          go_wp2_with fail
          refine (HBX.out _).mono ?_
          intro e w5 hr
          cases o with
          | none =>
            obtain ⟨rfl, hB⟩ := hr
            have hb5 := HB3.out.below hB HB3.out.lt
            obtain ⟨k0, k1, k2, k3, k4, k5, f0, f1, f2, f3, f4, f5⟩ := hb5.cells6
            have HB5 := hide (HBB.out.trans (hB.mono HBB.out.size)); have HK5 := hide hb5
            have HN := hide (show ok = false by rw [HQ.out]; rfl)
            clear hB hb5 j0 j1 j2 j3 j4 j5
            go_wp2_with fail
            exact bodyPost_ret (opn_results _ _ w.heap.size _ _ _ _ _ _ (.int .i64 3) rfl rfl ((((((HK5.out.set_ 0 _).set_ 1 _).set_ 2 _).set_ 3 _).set_ 4 _).set_ 5 _)) rfl (OpPost.no HN.out ((((((HB5.out.setCell (Nat.le_refl _) _).setCell (Nat.le_refl _) _).setCell (Nat.le_refl _) _).setCell (Nat.le_refl _) _).setCell (Nat.le_refl _) _).setCell (Nat.le_refl _) _))
          | some ws =>
            obtain ⟨hw1, hw2⟩ := HBX2.out ws rfl
            obtain ⟨g, cap, rfl, hby, hgl, hB⟩ := RbPost.open hr (by omega)
            have hb5 := HB3.out.below hB HB3.out.lt
            obtain ⟨k0, k1, k2, k3, k4, k5, f0, f1, f2, f3, f4, f5⟩ := hb5.cells6
            have ha5 := HA.out.below hB HA.out.lt
            obtain ⟨i0, i1, i2, i3, i4, i5, _⟩ := ha5.cells6
            have HB5 := hide (HBB.out.trans (hB.mono HBB.out.size)); have HK5 := hide hb5
            have hs1 := str_of_bytes (c := cap) hby rfl
            have hs2 := run_convert_bytes_arg (P := Tryd.prog) w5 22 5 Tryd.underlying22 Tryd.underlying5 b off m c (l.map fun (x : Nat) => (x : Int)) (by rw [List.length_map]; exact HM.out.symm) (fun i hi => by
              have h1 : W4.cell? ⟨b, off + i, none⟩ = some (.int .u8 (l.getD i 0 : Nat)) := by rw [HD.out]; exact HBL.out i hi
              rw [(hB.cell (p := ⟨b, off + i, none⟩) (World.block_lt_of_cell? _ _ h1)).trans h1]
              congr 2
              simp only [List.getD, List.getElem?_map]
              cases l[i]? <;> rfl) 9 Tryd.underlying9
            rw [show strOfNums (l.map fun (x : Nat) => (x : Int)) = strN l from rfl] at hs2
            by_cases he : ws = l
            · subst he
              have HN := hide (show ok = true by rw [HQ.out]; simp)
              have HV2 := hide hv2
              clear hB hb5 ha5 j0 j1 j2 j3 j4 j5 hv2 hw1 hby hgl hr
              generalize strN ws = sw at *
              go_wp2_with fail
              exact bodyPost_ret (opn_results _ _ w.heap.size _ _ _ _ _ _ (.int .i64 0) rfl rfl ((((((HK5.out.set_ 0 _).set_ 1 _).set_ 2 _).set_ 3 _).set_ 4 _).set_ 5 _)) rfl (OpPost.yes HN.out HV2.out ((((((HB5.out.setCell (Nat.le_refl _) _).setCell (Nat.le_refl _) _).setCell (Nat.le_refl _) _).setCell (Nat.le_refl _) _).setCell (Nat.le_refl _) _).setCell (Nat.le_refl _) _))
            · have hne : strN ws ≠ strN l := fun h => he (strN_inj hw1 HL.out h)
              have HN := hide (show ok = false by rw [HQ.out]; simpa using he)
              clear hB hb5 ha5 j0 j1 j2 j3 j4 j5 hv2 hw1 hby hgl hr he
              generalize strN ws = sw at *
              generalize strN l = sz at *
              have hq1 : (sw.toList == sz.toList) = false := by rw [beq_eq_false_iff_ne]; intro h; apply hne; rw [ByteArray.toList_eq, ByteArray.toList_eq] at h; exact Go.WideShapes.bytes_inj h
              go_wp2_with fail
              exact bodyPost_ret (opn_results _ _ w.heap.size _ _ _ _ _ _ (.int .i64 3) rfl rfl ((((((HK5.out.set_ 0 _).set_ 1 _).set_ 2 _).set_ 3 _).set_ 4 _).set_ 5 _)) rfl (OpPost.no HN.out ((((((HB5.out.setCell (Nat.le_refl _) _).setCell (Nat.le_refl _) _).setCell (Nat.le_refl _) _).setCell (Nat.le_refl _) _).setCell (Nat.le_refl _) _).setCell (Nat.le_refl _) _))
      · have HN := hide (HC2.out hz h9)
        have h37 : decide ((0 : Int) ≤ (lk : Int) - 1) = true := decide_eq_true (by omega)
        have h40 : decide ((m : Int) < 9) = true := decide_eq_true (by omega)
        obtain ⟨j0, j1, j2, j3, j4, j5, _⟩ := ha.cells6
        obtain ⟨k0, k1, k2, k3, k4, k5, f0, f1, f2, f3, f4, f5⟩ := hb3.cells6
        have HB5 := hide hB3; have HK5 := hide hb3
        clear ha hb3 hB3 hd3
        go_wp2_with fail
        exact bodyPost_ret (opn_results _ _ w.heap.size _ _ _ _ _ _ (.int .i64 3) rfl rfl ((((((HK5.out.set_ 0 _).set_ 1 _).set_ 2 _).set_ 3 _).set_ 4 _).set_ 5 _)) rfl (OpPost.no HN.out ((((((HB5.out.setCell (Nat.le_refl _) _).setCell (Nat.le_refl _) _).setCell (Nat.le_refl _) _).setCell (Nat.le_refl _) _).setCell (Nat.le_refl _) _).setCell (Nat.le_refl _) _))
end Go.Proofs.YtdbegdhbabfnoaaDoor
