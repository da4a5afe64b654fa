/- The walk of metronomekeep.PartOne; condition: the windows lie in memory. -/
import Derived.Test.YtgdljdhibknjnaaPe
import Derived.Test.YtgdljdhibknjnaaPk
import Derived.Deep.RegionHeld3
import Derived.Deep.Cut
import Derived.Deep.CutRange
import Derived.Deep.CutBlock
namespace Go.Proofs.Ytgdljdhibknjnaa
open Go.RowKit

/-- Counts of what runs in a frame's first i times. -/
def SharesAt (w : World) (b : Nat) (i : Int) (ws : List Wn) : Prop := ∃ cur : Array Value, Blk w b 3 cur ∧ ∀ r : Nat, r < 6 → cur[r]? = some (.int .i64 (shr r i ws))
theorem SharesAt.below {w w' : World} {b : Nat} {i : Int} {ws : List Wn} (h : SharesAt w b i ws) (hB : Below w.heap.size w w') : SharesAt w' b i ws := by
  obtain ⟨cur, hb, hc⟩ := h
  exact ⟨cur, hb.below hB hb.lt, hc⟩
theorem SharesAt.cell {w : World} {b : Nat} {i : Int} {ws : List Wn} (h : SharesAt w b i ws) (r : Nat) (hr : r < 6) : w.cell? ⟨b, r, none⟩ = some (.int .i64 (shr r i ws)) ∧ w.frozen? ⟨b, r, none⟩ = false ∧ b < w.heap.size := by
  obtain ⟨cur, hb, hc⟩ := h
  exact ⟨by rw [hb.cell r]; exact hc r hr, hb.frozen r, hb.lt⟩
theorem shr_le {fr : Int} {ws : List Wn} (h : wOk fr 0 ws = true) (r : Int) (hr : 0 ≤ r) (n : Nat) : 0 ≤ shr r n ws ∧ shr r n ws ≤ n := by
  refine ⟨shr_nonneg r n ws, ?_⟩
  induction n with
  | zero => have := shr_zero h r; simp at *; omega
  | succ k ih =>
    have := shr_step h r k hr
    rw [show ((k + 1 : Nat) : Int) = (k : Int) + 1 by omega, this]
    split <;> omega
theorem lft_le {fr e f0 : Int} {ws : List Wn} (h : wOk fr e ws = true) (x : Int) (h0 : f0 ≤ fr) (hz : 0 ≤ fr) : lft fr f0 ws x ≤ 2 * fr - x := by
  induction ws generalizing e with
  | nil => unfold lft; omega
  | cons w l ih =>
    obtain ⟨g1, g2, g3, g4, g5, g6⟩ := wOk_cons h
    unfold lft
    have := ih g6
    split
    · split <;> omega
    · exact this
theorem atL_le {fr : Int} {ws : List Wn} (h : wOk fr 0 ws = true) (x : Int) (h0 : 0 ≤ x) (h1 : 1 ≤ fr) : atL fr ws x ≤ 2 * fr := by
  cases ws with
  | nil => show (-1 : Int) ≤ _; omega
  | cons w l =>
    obtain ⟨g1, g2, g3, g4, g5, g6⟩ := wOk_cons h
    have := lft_le (f0 := w.f) h x (by omega) (by omega)
    rw [atL_cons]; omega

theorem atL_ge {fr : Int} {ws : List Wn} (h : wOk fr 0 ws = true) (x : Int) (_ : 0 ≤ x) (h1 : x < fr) : -1 ≤ atL fr ws x := by
  cases ws with
  | nil => show (-1 : Int) ≤ -1; omega
  | cons w l =>
    obtain ⟨g1, g2, g3, g4, g5, g6⟩ := wOk_cons h
    have := lft_pos (f0 := w.f) h x h1 (by omega)
    rw [atL_cons]; omega

theorem make_six : ∃ cs : Array Value, (∀ w : World, (Instr.makeSlice 22 (.int .i64 6) (.int .i64 6)).run Try.prog w = .ok (.slice (some ⟨w.heap.size, 0, none⟩) 6 6) (w.alloc (.cells cs 3))) ∧ ∀ r : Nat, r < 6 → cs[r]? = some (.int .i64 0) :=
  ⟨#[.int .i64 0, .int .i64 0, .int .i64 0, .int .i64 0, .int .i64 0, .int .i64 0], fun w => by kernel_rfl, fun r hr => by match r, hr with | 0, _ | 1, _ | 2, _ | 3, _ | 4, _ | 5, _ => rfl⟩
theorem SharesAt.same {w : World} {b : Nat} {i j : Int} {ws : List Wn} (h : SharesAt w b i ws) (e : ∀ r : Nat, r < 6 → shr r j ws = shr r i ws) : SharesAt w b j ws := by
  obtain ⟨cur, hb, hc⟩ := h
  exact ⟨cur, hb, fun r hr => by rw [hc r hr, e r hr]⟩
theorem SharesAt.set_ {w : World} {b : Nat} {i j : Int} {ws : List Wn} (h : SharesAt w b i ws) (q : Nat) (v : Int) (hv : v = shr q j ws) (e : ∀ r : Nat, r < 6 → r ≠ q → shr r j ws = shr r i ws) : SharesAt (w.setCell ⟨b, q, none⟩ (.int .i64 v)) b j ws := by
  obtain ⟨cur, hb, hc⟩ := h
  refine ⟨_, hb.set_ q _, fun r hr => ?_⟩
  rw [Array.getElem?_setIfInBounds]
  by_cases hq : q = r
  · subst hq
    have : q < cur.size := (Array.getElem?_eq_some_iff.1 (hc q hr)).1
    rw [if_pos rfl, if_pos this, hv]
  · rw [if_neg hq, hc r hr, e r hr (fun h => hq h.symm)]
/-- A table in memory. -/
def TabAt (w : World) (g : Nat) (fr : Int) (A : Option Addr) (n c : Nat) (ws : List Wn) : Prop := w.cell? ⟨g, 0, none⟩ = some (.int .i64 fr) ∧ w.cell? ⟨g, 1, none⟩ = some (.slice A n c) ∧ WinsAt w A n ws
theorem TabAt.far {w : World} {g : Nat} {fr : Int} {A : Option Addr} {n c : Nat} {ws : List Wn} (h : TabAt w g fr A n c ws) {p : Addr} (h1 : g ≠ p.block) (h2 : 0 < n → ∀ b off, A = some ⟨b, off, none⟩ → b ≠ p.block) (u : Value) : TabAt (w.setCell p u) g fr A n c ws := by
  have far : ∀ b o, b ≠ p.block → (w.setCell p u).cell? ⟨b, o, none⟩ = w.cell? ⟨b, o, none⟩ := fun b o hb => World.cell?_setCell_other w p ⟨b, o, none⟩ u (fun e => hb (by rw [e]))
  refine ⟨(far _ _ h1).trans h.1, (far _ _ h1).trans h.2.1, fun j hj => ?_⟩
  obtain ⟨b, off, hA, y, hy, c0, c1, c2⟩ := h.2.2 j hj
  have hb := h2 (by omega) b off hA
  exact ⟨b, off, hA, y, hy, (far _ _ hb).trans c0, (far _ _ hb).trans c1, (far _ _ hb).trans c2⟩
theorem TabAt.lt {w : World} {g : Nat} {fr : Int} {A : Option Addr} {n c : Nat} {ws : List Wn} (h : TabAt w g fr A n c ws) : g < w.heap.size ∧ (0 < n → ∀ b off, A = some ⟨b, off, none⟩ → b < w.heap.size) := by
  refine ⟨World.block_lt_of_cell? _ _ h.1, fun hn b off hA => ?_⟩
  obtain ⟨b', off', hA', y, hy, c0, c1, c2⟩ := h.2.2 0 hn
  rw [hA] at hA'; cases hA'
  exact World.block_lt_of_cell? _ _ c0
theorem TabAt.below {w w' : World} {g : Nat} {fr : Int} {A : Option Addr} {n c : Nat} {ws : List Wn} (h : TabAt w g fr A n c ws) (hB : Below w.heap.size w w') : TabAt w' g fr A n c ws :=
  ⟨(hB.cell (p := ⟨g, 0, none⟩) (World.block_lt_of_cell? _ _ h.1)).trans h.1, (hB.cell (p := ⟨g, 1, none⟩) (World.block_lt_of_cell? _ _ h.2.1)).trans h.2.1, h.2.2.below hB⟩
/-- At, by the table. -/
theorem tab_at (g : Nat) (fr now : Int) (A : Option Addr) (n c : Nat) (ws : List Wn) (w : World) (hn : n ≤ 32) (hws : ws.length = n) (hok : wOk fr 0 ws = true) (f1 : 1 ≤ fr) (hf : fr ≤ 1099511627776) (t0 : 0 ≤ now) (t1 : now ≤ 1099511627776) (hT : TabAt w g fr A n c ws) (p q : Int) (hp : p = atP ws (now % fr)) (hq : q = atL fr ws (now % fr)) :
    Calls Try.prog 37 #[.pointer (some ⟨g, 0, none⟩), .int .i64 now] w fun e w' => e = .returned (.tuple #[.int .i64 p, .int .i64 q, .nilIface]) ∧ Below w.heap.size w w' :=
  at_any g fr now A n c ws w (by omega) hws hok f1 hf t0 t1 hT.1 hT.2.1 hT.2.2 _ (hide rfl) p q (hide hp) (hide hq)

set_option maxRecDepth 100000 in
set_option maxHeartbeats 4000000 in
theorem partOne_any (a b : Int) (A : Option Addr) (n c : Nat) (ws : List Wn) (W : World) (hws : ws.length = n) (hW : WinsAt W A n ws) (hnm : n ≤ 9223372036854775807) :
    Calls Try.prog 9 #[.int .i64 a, .slice A n c, .int .i64 b] W fun e w' => e = .returned (.bool true) ∧ Below W.heap.size W w' := by
  by_cases h40 : 40 < n
  · have hd : decide ((40 : Int) < n) = true := decide_eq_true (by omega)
    go_enter Try.func9, Try.ntmps9
    go_wp2
    go_ret
    exact ⟨rfl, Below.refl _ _⟩
  · have hd : decide ((40 : Int) < n) = false := decide_eq_false (by omega)
    have HW := hide hW; clear hW
    go_enter Try.func9, Try.ntmps9
    go_wp2_with fail
    refine (pick_any a 300 W (by decide) (by decide)).mono ?_
    rintro e w1 ⟨rfl, rfl⟩
    have hp := Nat.mod_lt (a % 18446744073709551616).toNat (show 0 < 300 by decide)
    generalize (a % 18446744073709551616).toNat % 300 = p at *
    obtain ⟨fr, hfr⟩ : ∃ fr : Int, fr = 1 + p := ⟨_, rfl⟩
    have f1 : 1 ≤ fr := by omega
    have f2 : fr ≤ 300 := by omega
    have q : 1 + (p : Int) = fr := by omega
    clear hfr
    go_wp2_with fail
    refine (pick_any b 1073741824 W (by decide) (by decide)).mono ?_
    rintro e w1 ⟨rfl, rfl⟩
    have hnw := Nat.mod_lt (b % 18446744073709551616).toNat (show 0 < 1073741824 by decide)
    generalize (b % 18446744073709551616).toNat % 1073741824 = now0 at *
    obtain ⟨now, hnow⟩ : ∃ now : Int, now = (now0 : Int) := ⟨_, rfl⟩
    have n1 : 0 ≤ now := by omega
    have n2 : now < 1073741824 := by omega
    rw [← hnow]
    clear hnow hnw
    go_wp2_with fail
    refine (parted_any _).mono ?_
    rintro e w1 ⟨rfl, hB⟩
    have HB1 := hide hB; have HW1 := hide (HW.out.below hB); clear hB
    go_wp2_with fail
    refine (pnew_all fr A n c ws _ hws (by exact HW1.out)).mono ?_
    rintro e w2 ⟨hB, ⟨_, v, rfl, hv⟩ | ⟨_, _, _, hn32, hok, g, A2, c2, rfl, c0, c1, hw⟩⟩
    · obtain ⟨t, u, rfl⟩ := hv.iface
      have HB2 := hide (HB1.out.trans (hB.mono HB1.out.size)); clear hB hv
      go_wp2_with fail
      go_ret
      exact ⟨rfl, HB2.out⟩
    · have HB2 := hide (HB1.out.trans (hB.mono HB1.out.size))
      have HT2 : Hid (TabAt w2 g fr A2 n c2 ws) := hide ⟨c0, c1, hw⟩
      have HOK := hide hok
      clear hB c0 c1 hw hok
      obtain ⟨x, hx⟩ : ∃ x, x = now % fr := ⟨_, rfl⟩
      have hx0 : 0 ≤ x := by rw [hx]; exact Int.emod_nonneg _ (by omega)
      have hx1 : x < fr := by rw [hx]; exact Int.emod_lt_of_pos _ (by omega)
      obtain ⟨P, hP⟩ : ∃ P, P = atP ws x := ⟨_, rfl⟩
      obtain ⟨L, hL⟩ : ∃ L, L = atL fr ws x := ⟨_, rfl⟩
      have hL1 : L ≤ 600 := by have := atL_le HOK.out x hx0 f1; omega
      have hL0 : -1 ≤ L := by have := atL_ge HOK.out x hx0 hx1; omega
      have HX := hide (And.intro hx (And.intro hP hL)); clear hx hP hL
      go_wp2_with fail
      refine (tab_at g fr now A2 n c2 ws _ hn32 hws HOK.out f1 (by omega) n1 (by omega) HT2.out P L (by rw [HX.out.2.1, HX.out.1]) (by rw [HX.out.2.2, HX.out.1])).mono ?_
      rintro e w3 ⟨rfl, hB⟩
      have HB3 := hide (HB2.out.trans (hB.mono HB2.out.size)); have HT3 := hide (HT2.out.below hB); clear hB HB2
      go_wp2_with fail
      refine (tab_at g fr (now + fr) A2 n c2 ws _ hn32 hws HOK.out f1 (by omega) (by omega) (by omega) HT3.out P L (by rw [Int.add_emod_right, HX.out.2.1, HX.out.1]) (by rw [Int.add_emod_right, HX.out.2.2, HX.out.1])).mono ?_
      rintro e w4 ⟨rfl, hB⟩
      have HB4 := hide (HB3.out.trans (hB.mono HB3.out.size)); have HT4 := hide (HT3.out.below hB); clear hB HB3
      go_upto_if 78 with fail
      go_cut [15] from 15 to 99 (fun _ wx => TabAt wx g fr A2 n c2 ws ∧ Below W.heap.size W wx)
      case first =>
        rcases Int.lt_or_le 1 L with h1 | h1
        · obtain ⟨e1, e2, e3⟩ := HX.out
          obtain ⟨k1, k2⟩ := at_next fr ws HOK.out x hx0 hx1 (by rw [← e3]; exact h1)
          have em : (now + 1) % fr = (x + 1) % fr := by rw [e1, Int.emod_add_emod]
          have HK := hide (And.intro (show P = atP ws ((now + 1) % fr) by rw [em, k1]; exact e2) (show L - 1 = atL fr ws ((now + 1) % fr) by rw [em, k2, e3]))
          clear e1 e2 e3 k1 k2 em
          go_wp2_with fail
          refine (tab_at g fr (now + 1) A2 n c2 ws _ hn32 hws HOK.out f1 (by omega) (by omega) (by omega) HT4.out P (L - 1) HK.out.1 HK.out.2).mono ?_
          rintro e w5 ⟨rfl, hB⟩
          have HB5 := hide (HB4.out.trans (hB.mono HB4.out.size)); have HT5 := hide (HT4.out.below hB); clear hB
          go_wp2_with fail
          all_goals
            go_meet
            exact ⟨HT5.out, HB5.out⟩
        · go_wp2_with fail
          go_meet
          exact ⟨HT4.out, HB4.out⟩
      case rest =>
        obtain ⟨hT5, hB5⟩ := hcut
        have HT5 := hide hT5; have HB5 := hide hB5; clear hT5 hB5 HT4 HB4
        obtain ⟨bb, hbb⟩ : ∃ bb : Bool, bb = (decide (0 < L) && decide (P < 0)) := ⟨_, rfl⟩
        have HBB := hide hbb; clear hbb
        go_upto_region 17 with fail
        go_cut [105] from 100 to 105 (fun z wx => z = .bool bb ∧ wx = wc)
        case first =>
          rcases Int.lt_or_le 0 L with h1 | h1
          · rcases Int.lt_or_le P 0 with h2 | h2
            · go_wp2_with fail
              go_meet
              exact ⟨by rw [HBB.out, decide_eq_true h1, decide_eq_true h2]; rfl, rfl⟩
            · go_wp2_with fail
              go_meet
              exact ⟨by rw [HBB.out, decide_eq_false (by omega : ¬ P < 0), Bool.and_false], rfl⟩
          · go_wp2_with fail
            go_meet
            exact ⟨by rw [HBB.out, decide_eq_false (by omega : ¬ 0 < L), Bool.false_and], rfl⟩
        case rest =>
        obtain ⟨rfl, rfl⟩ := hcut
        go_upto_if 105 with fail
        go_cut [18] from 18 to 120 (fun _ wx => TabAt wx g fr A2 n c2 ws ∧ Below W.heap.size W wx)
        case first =>
          cases bb
          · go_wp2_with fail
            go_meet
            exact ⟨HT5.out, HB5.out⟩
          · obtain ⟨e1, e2, e3⟩ := HX.out
            have hbb := HBB.out
            obtain ⟨h1, h2⟩ : 0 < L ∧ P < 0 := by simpa using hbb.symm
            have k1 := at_then fr ws HOK.out x hx0 hx1 (by rw [← e3]; exact h1) (by rw [← e2]; exact h2)
            obtain ⟨R, hR⟩ : ∃ R, R = atP ws ((now + L) % fr) := ⟨_, rfl⟩
            obtain ⟨R2, hR2⟩ : ∃ R2, R2 = atL fr ws ((now + L) % fr) := ⟨_, rfl⟩
            have hR0 : 0 ≤ R := by rw [hR, show (now + L) % fr = (x + L) % fr by rw [e1, Int.emod_add_emod], e3]; exact k1
            have HK := hide (And.intro hR hR2)
            clear e1 e2 e3 k1 hR hR2 hbb
            go_wp2_with fail
            refine (tab_at g fr (now + L) A2 n c2 ws _ hn32 hws HOK.out f1 (by omega) (by omega) (by omega) HT5.out R R2 HK.out.1 HK.out.2).mono ?_
            rintro e w6 ⟨rfl, hB⟩
            have HB6 := hide (HB5.out.trans (hB.mono HB5.out.size)); have HT6 := hide (HT5.out.below hB); clear hB
            go_wp2_with fail
            go_meet
            exact ⟨HT6.out, HB6.out⟩
        case rest =>
          obtain ⟨hT6, hB6⟩ := hcut
          have HT6 := hide hT6; have HB6 := hide hB6; clear hT6 hB6 HT5 HB5 HX hL1 hL0
          obtain ⟨w6, hw6⟩ : ∃ w6, w6 = wc := ⟨_, rfl⟩
          rw [← hw6] at HT6 HB6 ⊢
          clear hw6
          obtain ⟨cs, hmk, hcs⟩ := make_six
          have HCS := hide hcs; clear hcs
          have hs6 := HB6.out.size
          have HLt := hide HT6.out.lt
          go_wp2_with fail
          go_loopw [22] (fun i wr => ∃ k : Nat, (k : Int) ≤ fr ∧ i = .int .i64 k ∧ TabAt wr g fr A2 n c2 ws ∧ SharesAt wr w6.heap.size k ws ∧ Below W.heap.size W wr) (fun i _ => fr.toNat - (intOf i).toNat)
          case atStart =>
            refine ⟨0, by omega, rfl, HT6.out.below ((Below.refl _ _).alloc (Nat.le_refl _) _), ⟨cs, Blk.new w6 _ _, fun r hr => by rw [HCS.out r hr]; exact congrArg (fun z => some (Value.int .i64 z)) (shr_zero HOK.out r).symm⟩, HB6.out.alloc hs6 _⟩
          case round =>
            obtain ⟨k, hk, rfl, hT, hS, hB⟩ := hrel
            have HT := hide hT; have HS := hide hS; have HB := hide hB; clear hT hS hB HT6 HB6
            by_cases hlt : (k : Int) < fr
            · obtain ⟨R, hR⟩ : ∃ R, R = atP ws (k : Int) := ⟨_, rfl⟩
              obtain ⟨R2, hR2⟩ : ∃ R2, R2 = atL fr ws (k : Int) := ⟨_, rfl⟩
              have hkm : (k : Int) % fr = k := Int.emod_eq_of_lt (by omega) hlt
              have hRb : -1 ≤ R ∧ R < 6 := by rw [hR]; exact prt_le HOK.out _
              have HK := hide (And.intro hR (And.intro hR2 hkm))
              clear hR hR2 hkm
              go_wp2_with fail
              refine (tab_at g fr (k : Int) A2 n c2 ws _ hn32 hws HOK.out f1 (by omega) (by omega) (by omega) HT.out R R2 (by rw [HK.out.2.2, HK.out.1]) (by rw [HK.out.2.2, HK.out.2.1])).mono ?_
              rintro e w7 ⟨rfl, hB⟩
              have HB7 := hide (HB.out.trans (hB.mono HB.out.size)); have HT7 := hide (HT.out.below hB); have HS7 := hide (HS.out.below hB); clear hB
              rcases Int.lt_or_le R 0 with h0 | h0
              · go_wp2_with fail
                refine ⟨⟨k + 1, by omega, by go_num, HT7.out, HS7.out.same (fun r hr => ?_), HB7.out⟩, by simp [intOf]; omega⟩
                have := shr_step HOK.out (r : Int) (k : Int) (by omega)
                have hR := HK.out.1
                unfold atP at hR
                rw [← hR, if_neg (by omega)] at this
                rw [show ((k + 1 : Nat) : Int) = (k : Int) + 1 by omega, this]; omega
              · obtain ⟨r, rfl⟩ : ∃ r : Nat, R = r := ⟨R.toNat, by omega⟩
                have hr6 : r < 6 := by omega
                obtain ⟨c0, c1, c2⟩ := HS7.out.cell r hr6
                obtain ⟨b0, b1⟩ := shr_le HOK.out (r : Int) (by omega) k
                have hsv := hide (show shr (r : Int) ((k + 1 : Nat) : Int) ws = shr (r : Int) (k : Int) ws + 1 by
                  have := shr_step HOK.out (r : Int) (k : Int) (by omega)
                  have hR := HK.out.1
                  unfold atP at hR
                  rw [← hR, if_pos rfl] at this
                  rw [show ((k + 1 : Nat) : Int) = (k : Int) + 1 by omega, this])
                have hso : Hid (∀ r' : Nat, r' < 6 → r' ≠ r → shr (r' : Int) ((k + 1 : Nat) : Int) ws = shr (r' : Int) (k : Int) ws) := hide (fun r' _ hne => by
                  have := shr_step HOK.out (r' : Int) (k : Int) (by omega)
                  have hR := HK.out.1
                  unfold atP at hR
                  rw [← hR, if_neg (by omega)] at this
                  rw [show ((k + 1 : Nat) : Int) = (k : Int) + 1 by omega, this]; omega)
                generalize hv : shr (r : Int) (k : Int) ws = sv at *
                have HV := hide hv; clear hv
                go_wp2_with fail
                refine ⟨⟨k + 1, by omega, by go_num, HT7.out.far (Nat.ne_of_lt HLt.out.1) (fun hn b off hA => Nat.ne_of_lt (HLt.out.2 hn b off hA)) _, HS7.out.set_ r _ hsv.out.symm hso.out, HB7.out.setCell (by exact hs6) _⟩, by simp [intOf]; omega⟩
            · obtain ⟨K, hK⟩ : ∃ K : Nat, (K : Int) = fr := ⟨k, by omega⟩
              have hke : (k : Int) = fr := by omega
              rw [hke] at HS
              have HS' : Hid (∀ r : Nat, r < 6 → wr.cell? ⟨w6.heap.size, r, none⟩ = some (.int .i64 (shA r ws))) := hide (fun r hr => by rw [← shr_all HOK.out (r : Int)]; exact (HS.out.cell r hr).1)
              have hlt6 := (HS.out.cell 0 (by decide)).2.2
              obtain ⟨w8, hw8⟩ : ∃ w8, w8 = wr := ⟨_, rfl⟩
              rw [← hw8] at HT HB HS' hlt6 ⊢
              clear hw8 hK hke HS
              go_wp2_with fail
              go_loopw [26] (fun i wr => ∃ r : Nat, r ≤ 6 ∧ i = .int .i64 r ∧ Below w8.heap.size w8 wr) (fun i _ => 6 - (intOf i).toNat)
              case atStart => exact ⟨0, by omega, rfl, Below.refl _ _⟩
              case round =>
                obtain ⟨r, hr, rfl, hB⟩ := hrel
                by_cases hlt2 : r < 6
                · have qr : decide ((r : Int) < 6) = true := decide_eq_true (by omega)
                  have hcell := (hB.cell (p := ⟨w6.heap.size, r, none⟩) hlt6).trans (HS'.out r hlt2)
                  have HT9 := hide (HT.out.below hB)
                  have HB9 := hide hB; have hB9s := hB.size; clear hB
                  have r0 : (0 : Int) ≤ (r : Int) := by omega
                  have r6 : (r : Int) < 6 := by omega
                  have HSh : Hid (∀ w0 : World, TabAt w0 g fr A2 n c2 ws → Calls Try.prog 38 #[.pointer (some ⟨g, 0, none⟩), .int .i64 r] w0 fun e w' => e = .returned (.int .i64 (shA (r : Int) ws)) ∧ Below w0.heap.size w0 w') := hide (fun w0 h => share_any g fr (r : Int) A2 n c2 ws w0 (by omega) hws HOK.out (by omega) h.1 h.2.1 h.2.2)
                  generalize shA (r : Int) ws = sv at *
                  have hcl := Nat.lt_of_lt_of_le hlt6 hB9s
                  go_wp2_with fail
                  go_region_held3 (fun w' => w'.cell? ⟨w6.heap.size, r, none⟩ = some (.int .i64 sv)) (first | assumption | (simp [go_sem]; assumption))
                    (first | (go_at_call 38; refine (HSh.out _ (by exact HT9.out)).mono ?_; rintro e w10 ⟨rfl, hB⟩; have HB10 := hide (HB9.out.trans ((below_undrew hB).mono HB9.out.size)); have hcell2 := (hB.cell (p := ⟨w6.heap.size, r, none⟩) (by exact hcl)).trans hcell; clear hB))
                  all_goals
                    go_wp2_with fail
                    exact ⟨⟨r + 1, by omega, by go_num, HB10.out⟩, by simp [intOf]; omega⟩
                · obtain rfl : r = 6 := by omega
                  have HB9 := hide (HB.out.trans (hB.mono HB.out.size)); clear hB
                  go_wp2_with fail
                  go_ret
                  exact ⟨rfl, HB9.out⟩
end Go.Proofs.Ytgdljdhibknjnaa
