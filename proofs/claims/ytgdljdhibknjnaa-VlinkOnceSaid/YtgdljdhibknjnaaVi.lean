/- The walk of metronomekeep.VlinkOnce; condition: the numbers lie in memory. -/
import Derived.Test.YtgdljdhibknjnaaVg
import Derived.Test.YtgdljdhibknjnaaOpen
import Derived.Test.YtgdljdhibknjnaaBt
import Derived.Deep.RegionHeld3
import Derived.RegionTactic
import Derived.Deep.Cut
import Derived.Deep.CutRange
import Derived.Deep.CutBlock
namespace Go.Proofs.Ytgdljdhibknjnaa
open Go.RowKit

theorem news_blk2 {w : World} {g : Nat} {t : TypeId} {cs : List Value} (h : Blk w g t cs.toArray) : ∀ j u, cs[j]? = some u → w.cell? ((⟨g, 0, none⟩ : Addr).add j) = some u := by
  intro j u hu
  have : (⟨g, 0, none⟩ : Addr).add j = ⟨g, j, none⟩ := by unfold Addr.add; split <;> simp_all
  rw [this, h.cell j]
  simpa using hu
theorem ints_below {w W : World} {A : Option Addr} {n : Nat} {l : List Int} (h : IntsAt w A n l) (hB : Below w.heap.size w W) : IntsAt W A n l := by
  intro j hj
  obtain ⟨b, off, hA, c⟩ := h j hj
  exact ⟨b, off, hA, (hB.cell (p := ⟨b, off + j, none⟩) (World.block_lt_of_cell? _ _ c)).trans c⟩
/-- Does the other channel come first? -/
def swB (e a b M : Nat) : Bool := if e = 0 then (decide (a = M) || decide (b + 50 < a)) else (decide (b = M) || decide (a + 50 < b))
theorem items_at {w : World} {base n c : Nat} {A : Option Addr} {f : Nat → ByteArray} (h : w.ownsRow base 30 2 (.slice A n c) n (itm f n)) : ItemsAt w A n f := by
  obtain ⟨A', c', e, _, h⟩ := items_of h
  cases e
  exact h
theorem nwst_succ (k : Nat) : nwst (k + 1) = ordr k := by unfold nwst; rw [if_neg (by omega), Nat.add_sub_cancel]
theorem pair_len {l : List Nat} {L : Nat} (h : l.Pairwise (· < ·)) (hL : ∀ j ∈ l, j < L) : l.length ≤ L := by
  have hi : ∀ i (hi : i < l.length), i ≤ l[i] := by
    intro i
    induction i with
    | zero => intro _; omega
    | succ i ih =>
      intro hi
      have h1 := ih (by omega)
      have h2 := List.pairwise_iff_getElem.1 h i (i + 1) (by omega) hi (by omega)
      omega
  rcases Nat.lt_or_ge L l.length with hlt | hge
  · have h1 := hi L hlt
    have h2 := hL l[L] (List.getElem_mem hlt)
    omega
  · exact hge
theorem got_step {got : List Nat} {n k : Nat} (hp : ∀ j, j < n → ∀ x, got[j]? = some x → x < k) (hv : got[n]? = some k) : ∀ j, j < n + 1 → ∀ x, got[j]? = some x → x < k + 1 := by
  intro j hj x hx
  rcases Nat.lt_or_ge j n with h | h
  · have := hp j h x hx
    omega
  · obtain rfl : j = n := by omega
    rw [hv] at hx
    cases hx
    omega
theorem sd_zero {k : Nat} {la nw : Int} (hk : k ≤ 700) (hla : la ≤ (k : Int) - 1) (hnw : nw ≤ (k : Int)) : sdE (k : Int) la nw 1 1 = 0 := by
  unfold sdE
  rw [if_neg (by omega), if_neg (by omega), if_neg (by omega)]
set_option maxRecDepth 100000 in
set_option maxHeartbeats 8000000 in
theorem once_law (mny : Int) (A : Option Addr) (la ca : Nat) (ya : List Int) (B : Option Addr) (lb cb : Nat) (yb : List Int) (C : Option Addr) (lc cc : Nat) (yc : List Int) (w : World) (hA : IntsAt w A la ya) (ha : la ≤ 9223372036854775807) (hB : IntsAt w B lb yb) (hb : lb ≤ 9223372036854775807) (hC : IntsAt w C lc yc) (hc : lc ≤ 9223372036854775807) :
    Calls Try.prog 8 #[.int .i64 mny, .slice A la ca, .slice B lb cb, .slice C lc cc] w fun e w' => e = .returned (.bool true) ∧ Below w.heap.size w w' := by
  have HA := hide hA; have HBB := hide hB; have HCC := hide hC
  clear hA hB hC
  go_enter Try.func8, Try.ntmps8
  go_wp2_with fail
  refine (pick_any mny 700 w (by decide) (by decide)).mono ?_
  rintro e w1 ⟨rfl, rfl⟩
  have hp := Nat.mod_lt (mny % 18446744073709551616).toNat (show 0 < 700 by decide)
  generalize (mny % 18446744073709551616).toNat % 700 = M at *
  cases hsm : decide (500 < wrap64 ((la : Int) + (lb : Int)))
  case true =>
    go_wp2_with fail
    go_ret
    exact ⟨rfl, Below.refl _ _⟩
  case false =>
  cases htn : decide (2000 < (lc : Int))
  case true =>
    go_wp2_with fail
    go_ret
    exact ⟨rfl, Below.refl _ _⟩
  case false =>
  go_wp2_with fail
  refine (newSender_ok 1 3 _ (by decide) (by decide) (by decide) (by decide)).mono ?_
  rintro e w1 ⟨g1, rfl, hB, hg, hbk⟩
  have HS := hide (linked_start hB hg hbk)
  clear hB hg hbk
  go_wp2_with fail
  refine (newReceiver_any _).mono ?_
  rintro e w2 ⟨rfl, rfl⟩
  obtain ⟨g2, hg2⟩ : ∃ g2, w1.heap.size = g2 := ⟨_, rfl⟩
  obtain ⟨w2, hw2⟩ : ∃ w2, w1.alloc (.cells #[.int .i64 (-1), .int .i64 0, .int .i64 0] 107) = w2 := ⟨_, rfl⟩
  rw [hg2, hw2] at HS
  rw [hg2, hw2]
  clear hg2 hw2 hsm htn
  go_wp2_with fail
  refine (linked_any _).mono ?_
  rintro e w3 ⟨rfl, hB⟩
  have HS3 := hide (HS.out.below hB)
  clear hB HS
  go_wp2_with fail
  go_loopw [12, 13] (fun av i wr => ∃ (k : Nat) (f : Nat → ByteArray) (v : Value) (la nw : Int), k ≤ M ∧ i = .int .i64 k ∧ Hid (-1 ≤ la ∧ la ≤ (k : Int) - 1 ∧ nw ≤ (k : Int)) ∧ Hid (OnA w wr g1 g2 v (ordr k) la nw [] k av f)) (fun _ i _ => M - (intOf i).toNat)
  case atStart => exact ⟨0, fun _ => ⟨#[]⟩, .slice none 0 0, -1, 0, by omega, rfl, hide ⟨by decide, by decide, by decide⟩, hide ⟨HS3.out, ⟨rfl, .inl ⟨rfl, rfl⟩⟩, fun b e => by simp [Value.ownBlock] at e⟩⟩
  case round =>
    clear HS3
    obtain ⟨k, f, v, sla, nw, hk, rfl, HLA, HO⟩ := hrel
    by_cases hlt : k < M
    · have hcv : ∀ X Y : Int, (convert 56 9 (.slice (some ⟨wr.heap.size, 0, none⟩) 2 2)).run Try.prog (wr.alloc (.cells #[.int .u8 X, .int .u8 Y] 5)) = .ok (.string (strOfNums [X, Y])) (wr.alloc (.cells #[.int .u8 X, .int .u8 Y] 5)) := fun X Y =>
        run_convert_bytes_arg (P := Try.prog) _ 56 5 Try.underlying56 Try.underlying5 wr.heap.size 0 2 2 [X, Y] rfl (fun i hi => by
          have hb := Blk.new wr 5 #[.int .u8 X, .int .u8 Y]
          match i, hi with
          | 0, _ => exact hb.cell 0
          | 1, _ => exact hb.cell 1) 9 Try.underlying9
      obtain ⟨i0, hi, hz0, hz1, hz2⟩ := vs_info_parts item_info
      go_wp2_with fail
      refine (sput_two _ (two_txt _ _) (by exact (HO.out.alloc _).lk.b1) (by exact (HO.out.alloc _).lk.q1) (by exact (HO.out.alloc _).lk.olt) HO.out.lk.og (by exact (HO.out.alloc _).lk.old.size)).mono ?_
      rintro r w4 ⟨rfl, hs⟩
      generalize strOfNums _ = d at hs
      obtain ⟨v4, hL⟩ := (HO.out.alloc _).step hs
      have HO4 := hide hL
      clear hs hL hcv HO
      go_wp2_with fail
      refine (ssend_ok g1 w.heap.size 1 3 v4 (ordr k) sla nw [] _ k d (hide (sd_zero (by omega) HLA.out.2.1 HLA.out.2.2)) HO4.out.lk.b1 HO4.out.lk.q1 HO4.out.lk.olt HO4.out.lk.og (by have := HLA.out; omega) (ordr_bd k) (by decide)).mono ?_
      rintro r w5 ⟨rfl, hs⟩
      obtain ⟨v5, hL⟩ := HO4.out.step hs
      rw [ordr_succ] at hL
      have HO5 := hide ((hL.alloc (.cells #[.int .i64 (ordr k), .string d] 30)).alloc (.cells #[.int .i64 (ordr k), .string d] 30))
      obtain ⟨j0, j1⟩ := blk_two (Blk.new w5 30 #[.int .i64 (ordr k), .string d])
      have n2 := news_blk2 (Blk.new (w5.alloc (.cells #[.int .i64 (ordr k), .string d] 30)) 30 [Value.int .i64 (ordr k), .string d].toArray)
      simp only [World.size_alloc] at n2
      have N2 := hide n2
      clear hs hL HO4 n2
      go_wp2_with (at_builtin; go_must (refine wpList_append_own2 _ rfl (.tmp 85) (.tmp 87) _ rfl w.heap.size 30 i0 _ 2 24 Try.underlying68 hi hz0 hz1 hz2 rfl (by decide) u12 k (itm f k) rfl (by exact HO5.out.al) ⟨w5.heap.size + 1, 0, none⟩ 1 1 [Value.int .i64 (ordr k), .string d] rfl rfl (by exact N2.out) (by intro u hu; simp at hu; rcases hu with rfl | rfl <;> rfl) (by simp [maxLen]; omega) (by omega) (by exact HO5.out.lk.old.size) ?_); intro v6 w6 hown hg hor; obtain ⟨f6, hA6⟩ := HO5.out.app hown hg hor; have HO6 := hide hA6; clear hown hg hor hA6)
      go_roundw
      case rel => exact ⟨k + 1, f6, v5, k, k, by omega, by go_num, hide ⟨by omega, by omega, by omega⟩, HO6⟩
      case measure => simp [intOf]; omega
    · obtain rfl : M = k := by omega
      clear hlt hk
      obtain ⟨cs, hmk, hcs⟩ := make_ints M (by omega)
      have HO2 := hide (HO.out.toB hcs)
      clear hcs HO HLA
      obtain ⟨gl, hgl⟩ : ∃ gl, wr.heap.size = gl := ⟨_, rfl⟩
      obtain ⟨W2, hW2⟩ : ∃ W2, wr.alloc (.cells cs 3) = W2 := ⟨_, rfl⟩
      rw [hgl, hW2] at HO2
      go_upto_block 2 with fail
      try rw [hgl]
      try rw [hW2]
      clear hgl hW2 hmk
      go_cut [17] from 91 to 111 (fun i wx => ∃ lv, Hid (OnB w wx g2 gl M #[.int .i64 (-1), .int .i64 0, .int .i64 0] u12 f lv))
      case first =>
        go_wp2_with fail
        go_loopw [17] (fun i wr => ∃ (k : Nat) (lv : Nat → Nat), k ≤ la ∧ i = .int .i64 k ∧ Hid (OnB w wr g2 gl M #[.int .i64 (-1), .int .i64 0, .int .i64 0] u12 f lv)) (fun i _ => la - (intOf i).toNat)
        case atStart => exact ⟨0, _, by omega, rfl, HO2⟩
        case round =>
          clear HO2
          obtain ⟨k, lv, hk, rfl, HO⟩ := hrel
          by_cases hlt : k < la
          · have d1 : decide ((k : Int) < (la : Int)) = true := decide_eq_true (by omega)
            by_cases hM : 0 < M
            · have d2 : decide ((0 : Int) < (M : Int)) = true := decide_eq_true (by omega)
              obtain ⟨b, off, rfl, hcell⟩ := (ints_below HA.out HO.out.old) k hlt
              generalize ya.getD k 0 = x at hcell
              go_wp2_with fail
              refine (pick_any x M _ hM (by omega)).mono ?_
              rintro e w3 ⟨rfl, rfl⟩
              have hp := Nat.mod_lt (x % 18446744073709551616).toNat hM
              generalize (x % 18446744073709551616).toNat % M = p at *
              obtain ⟨c0, c1⟩ := HO.out.lo.cell p hp
              have h4 := HO.out.l4 p
              have HN := hide (HO.out.set_ p (lv p ||| 1) hp (Nat.or_lt_two_pow (n := 2) h4 (by decide)))
              generalize lv p = y at *
              have hor := i64_or_nat y 1 (by omega) (by decide)
              rw [← hor] at HN
              clear hor hcell
              go_wp2_with fail
              go_roundw
              case rel => exact ⟨k + 1, _, by omega, by go_num, HN⟩
              case measure => simp [intOf]; omega
            · obtain rfl : M = 0 := by omega
              go_wp2_with fail
              go_meet
              case rel => exact ⟨lv, HO⟩
          · have d1 : decide ((k : Int) < (la : Int)) = false := decide_eq_false (by omega)
            go_wp2_with fail
            go_meet
            case rel => exact ⟨lv, HO⟩
      case rest =>
      clear HO2
      obtain ⟨lv1, HO2⟩ := hcut
      go_upto_block 4 with fail
      go_cut [18] from 112 to 132 (fun i wx => ∃ lv, Hid (OnB w wx g2 gl M #[.int .i64 (-1), .int .i64 0, .int .i64 0] u12 f lv))
      case first =>
        go_wp2_with fail
        go_loopw [18] (fun i wr => ∃ (k : Nat) (lv : Nat → Nat), k ≤ lb ∧ i = .int .i64 k ∧ Hid (OnB w wr g2 gl M #[.int .i64 (-1), .int .i64 0, .int .i64 0] u12 f lv)) (fun i _ => lb - (intOf i).toNat)
        case atStart => exact ⟨0, _, by omega, rfl, HO2⟩
        case round =>
          clear HO2
          obtain ⟨k, lv, hk, rfl, HO⟩ := hrel
          by_cases hlt : k < lb
          · have d1 : decide ((k : Int) < (lb : Int)) = true := decide_eq_true (by omega)
            by_cases hM : 0 < M
            · have d2 : decide ((0 : Int) < (M : Int)) = true := decide_eq_true (by omega)
              obtain ⟨b, off, rfl, hcell⟩ := (ints_below HBB.out HO.out.old) k hlt
              generalize yb.getD k 0 = x at hcell
              go_wp2_with fail
              refine (pick_any x M _ hM (by omega)).mono ?_
              rintro e w3 ⟨rfl, rfl⟩
              have hp := Nat.mod_lt (x % 18446744073709551616).toNat hM
              generalize (x % 18446744073709551616).toNat % M = p at *
              obtain ⟨c0, c1⟩ := HO.out.lo.cell p hp
              have h4 := HO.out.l4 p
              have HN := hide (HO.out.set_ p (lv p ||| 2) hp (Nat.or_lt_two_pow (n := 2) h4 (by decide)))
              generalize lv p = y at *
              have hor := i64_or_nat y 2 (by omega) (by decide)
              rw [← hor] at HN
              clear hor hcell
              go_wp2_with fail
              go_roundw
              case rel => exact ⟨k + 1, _, by omega, by go_num, HN⟩
              case measure => simp [intOf]; omega
            · obtain rfl : M = 0 := by omega
              go_wp2_with fail
              go_meet
              case rel => exact ⟨lv, HO⟩
          · have d1 : decide ((k : Int) < (lb : Int)) = false := decide_eq_false (by omega)
            go_wp2_with fail
            go_meet
            case rel => exact ⟨lv, HO⟩
      case rest =>
      clear HO2
      obtain ⟨lv2, HO2⟩ := hcut
      clear HA HBB
      go_wp2_with fail
      obtain ⟨A12, c12, rfl, hc12, -⟩ := items_of HO2.out.al
      go_loopw [19, 20] (fun row i wr => ∃ (k r : Nat), k ≤ M ∧ i = .int .i64 k ∧ row = .int .i64 r ∧ r ≤ 50 ∧ Hid (RowInv lv2 k r) ∧ Hid (OnB w wr g2 gl M #[.int .i64 (-1), .int .i64 0, .int .i64 0] (.slice A12 M c12) f lv2)) (fun _ i _ => M - (intOf i).toNat)
      case atStart => exact ⟨0, 0, by omega, rfl, rfl, by omega, hide (RowInv.start lv2), HO2⟩
      case round =>
        clear HO2
        obtain ⟨k, r, hk, rfl, rfl, hr, HR, HO⟩ := hrel
        by_cases hlt : k < M
        · have d1 : decide ((k : Int) < (M : Int)) = true := decide_eq_true (by omega)
          obtain ⟨c0, -⟩ := HO.out.lo.cell k hlt
          by_cases h3 : lv2 k = 3
          · have d2 : (((lv2 k : Nat) : Int) == 3) = true := by rw [h3]; rfl
            have H3 := hide h3
            generalize lv2 k = y at c0 d2
            clear h3
            by_cases h50 : r + 1 ≤ 50
            · have d3 : decide ((50 : Int) < (r : Int) + 1) = false := decide_eq_false (by omega)
              go_wp2_with fail
              go_roundw
              case rel => exact ⟨k + 1, r + 1, by omega, by go_num, by go_num, h50, hide (HR.out.both h50), HO⟩
              case measure => simp [intOf]; omega
            · have d3 : decide ((50 : Int) < (r : Int) + 1) = true := decide_eq_true (by omega)
              go_wp2_with fail
              go_ret
              exact ⟨rfl, HO.out.old⟩
          · have d2 : (((lv2 k : Nat) : Int) == 3) = false := by rw [beq_eq_false_iff_ne]; omega
            have H3 := hide h3
            generalize lv2 k = y at c0 d2
            clear h3
            go_wp2_with fail
            go_roundw
            case rel => exact ⟨k + 1, 0, by omega, by go_num, rfl, by omega, hide (HR.out.one H3.out), HO⟩
            case measure => simp [intOf]; omega
        · obtain rfl : M = k := by omega
          have d1 : decide ((M : Int) < (M : Int)) = false := decide_eq_false (by omega)
          have HF : Hid (Few lv2 M) := hide HR.out.h4
          clear HR hlt hk hr
          go_wp2_with fail
          clear d1
          have HE0 := hide (OnE.start HO.out)
          have HL4 := hide HO.out.l4
          obtain ⟨gt, hgt⟩ : ∃ gt, wr.heap.size = gt := ⟨_, rfl⟩
          obtain ⟨W3, hW3⟩ : ∃ W3, wr.alloc (.cells #[.int .i64 0, .int .i64 0] 73) = W3 := ⟨_, rfl⟩
          have HE : Hid (OnE w W3 g2 gl gt M #[.int .i64 (-1), .int .i64 0, .int .i64 0] (.slice A12 M c12) f lv2 (gt + 1) 0 0 (.slice none 0 0) []) := hide (by rw [← hgt, ← hW3]; exact HE0.out)
          rw [hgt, hW3]
          clear HO hgt hW3 HE0
          go_loopw [22, 23, 24, 25] (fun gv lst gc _ wr => ∃ (a b L i : Nat) (got : List Nat) (k0 k1 : Int), a + b = i ∧ a ≤ M ∧ b ≤ M ∧ gc = .int .i64 i ∧ lst = .int .i64 ((L : Int) - 1) ∧ Hid (0 ≤ k0 ∧ 0 ≤ k1 ∧ k0 + k1 ≤ (i : Int)) ∧ Hid (OInv M lv2 a b L got) ∧ Hid (OnE w wr g2 gl gt M #[.int .i64 (nwst L), .int .i64 k0, .int .i64 k1] (.slice A12 M c12) f lv2 (gt + 1) a b gv got)) (fun _ _ i _ _ => 2 * M - (intOf i).toNat)
          case atStart => exact ⟨0, 0, 0, 0, [], 0, 0, rfl, by omega, by omega, rfl, rfl, hide ⟨by decide, by decide, by decide⟩, hide (OInv.start _ _), HE⟩
          case round =>
            clear HE
            obtain ⟨a, b, L, i, got, k0, k1, hi, hla, hlb, rfl, rfl, HK, HI, HE⟩ := hrel
            obtain ⟨a0, a1⟩ := blk_two HE.out.cs
            by_cases hgo : a < M ∨ b < M
            · go_upto_region 40 with fail
              go_cut [156] from 147 to 156 (fun v wx => v = .bool true ∧ wx = wr)
              case first =>
                by_cases h1 : a < M
                · have d1 : decide ((a : Int) < (M : Int)) = true := decide_eq_true (by omega)
                  go_wp2_with fail
                  go_meet
                  case rel => exact ⟨by simp, rfl⟩
                · have d1 : decide ((a : Int) < (M : Int)) = false := decide_eq_false (by omega)
                  have d2 : decide ((b : Int) < (M : Int)) = true := decide_eq_true (by omega)
                  go_wp2_with fail
                  go_meet
                  case rel => exact ⟨by simp; omega, rfl⟩
              case rest =>
              obtain ⟨rfl, rfl⟩ := hcut
              go_upto_if 163 with fail
              go_cut [25] from 159 to 171 (fun cx wx => ∃ e : Nat, e < 2 ∧ cx = .int .i64 e ∧ wx = wc)
              case first =>
                by_cases hlc : 0 < lc
                · have d1 : decide ((0 : Int) < (lc : Int)) = true := decide_eq_true (by omega)
                  have hml := Nat.mod_lt i hlc
                  have hmq : (i : Int) % (lc : Int) = ((i % lc : Nat) : Int) := by simp
                  obtain ⟨b9, off9, rfl, hcell⟩ := (ints_below HCC.out HE.out.on.old) (i % lc) hml
                  generalize yc.getD (i % lc) 0 = x at hcell
                  generalize i % lc = m9 at *
                  go_wp2_with fail
                  refine (pick_any x 2 _ (by decide) (by decide)).mono ?_
                  rintro e w3 ⟨rfl, rfl⟩
                  have hp9 := Nat.mod_lt (x % 18446744073709551616).toNat (show 0 < 2 by decide)
                  generalize (x % 18446744073709551616).toNat % 2 = p at *
                  go_wp2_with fail
                  go_meet
                  case rel => exact ⟨p, hp9, rfl, rfl⟩
                · have d1 : decide ((0 : Int) < (lc : Int)) = false := decide_eq_false (by omega)
                  go_wp2_with fail
                  go_meet
                  case rel => exact ⟨i % 2, Nat.mod_lt _ (by decide), by simp, rfl⟩
              case rest =>
              obtain ⟨e, he, rfl, rfl⟩ := hcut
              clear a0 a1
              obtain ⟨a0, a1⟩ := blk_two HE.out.cs
              have hab := HI.out.hab
              have hba := HI.out.hba
              go_upto_region 45 with fail
              go_cut [187] from 172 to 187 (fun v wx => v = .bool (swB e a b M) ∧ ∃ nq, wx = wc.drewN nq)
              case first =>
                rcases (show e = 0 ∨ e = 1 by omega) with rfl | rfl
                · by_cases h1 : a = M
                  · have d1 : ((a : Int) == (M : Int)) = true := by rw [h1]; simp
                    go_quiet (fail)
                    go_wp2_with fail
                    go_meet
                    case rel => exact ⟨by simp [swB, h1], _, rfl⟩
                  · have d1 : ((a : Int) == (M : Int)) = false := beq_eq_false_iff_ne.2 (by omega)
                    by_cases h2 : b + 50 < a
                    · have d2 : decide ((50 : Int) < (a : Int) - (b : Int)) = true := decide_eq_true (by omega)
                      go_quiet (fail)
                      go_wp2_with fail
                      go_meet
                      case rel => exact ⟨by simp [swB, h1, h2], _, rfl⟩
                    · have d2 : decide ((50 : Int) < (a : Int) - (b : Int)) = false := decide_eq_false (by omega)
                      go_quiet (fail)
                      go_wp2_with fail
                      go_meet
                      case rel => exact ⟨by simp [swB, h1, h2], _, rfl⟩
                · by_cases h1 : b = M
                  · have d1 : ((b : Int) == (M : Int)) = true := by rw [h1]; simp
                    go_quiet (fail)
                    go_wp2_with fail
                    go_meet
                    case rel => exact ⟨by simp [swB, h1], _, rfl⟩
                  · have d1 : ((b : Int) == (M : Int)) = false := beq_eq_false_iff_ne.2 (by omega)
                    by_cases h2 : a + 50 < b
                    · have d2 : decide ((50 : Int) < (b : Int) - (a : Int)) = true := decide_eq_true (by omega)
                      go_quiet (fail)
                      go_wp2_with fail
                      go_meet
                      case rel => exact ⟨by simp [swB, h1, h2], _, rfl⟩
                    · have d2 : decide ((50 : Int) < (b : Int) - (a : Int)) = false := decide_eq_false (by omega)
                      go_quiet (fail)
                      go_wp2_with fail
                      go_meet
                      case rel => exact ⟨by simp [swB, h1, h2], _, rfl⟩
              case rest =>
              obtain ⟨rfl, nq, rfl⟩ := hcut
              have HE2 := hide (HE.out.below (below_drewN (Below.refl _ _) nq))
              clear a0 a1 HE
              go_upto_if 187 with fail
              obtain ⟨W4, hW4⟩ : ∃ W4, W4 = wc.drewN nq := ⟨_, rfl⟩
              rw [← hW4] at HE2 ⊢
              clear hW4
              go_cut [25] from 187 to 189 (fun cx wx => wx = W4 ∧ ((cx = .int .i64 0 ∧ a < M ∧ a ≤ b + 50) ∨ (cx = .int .i64 1 ∧ b < M ∧ b ≤ a + 50)))
              case first =>
                have HGO := hide hgo
                have HAB := hide (And.intro hla hlb)
                clear hgo hab hba
                cases hsw : swB e a b M
                case true =>
                  rcases (show e = 0 ∨ e = 1 by omega) with rfl | rfl
                  · have HSW := hide hsw
                    clear hsw
                    go_wp2_with fail
                    go_meet
                    case rel => exact ⟨rfl, .inr ⟨rfl, by have h := HSW.out; have := HGO.out; have := HAB.out; simp [swB] at h; omega, by have h := HSW.out; have := HAB.out; simp [swB] at h; omega⟩⟩
                  · have HSW := hide hsw
                    clear hsw
                    go_wp2_with fail
                    go_meet
                    case rel => exact ⟨rfl, .inl ⟨rfl, by have h := HSW.out; have := HGO.out; have := HAB.out; simp [swB] at h; omega, by have h := HSW.out; have := HAB.out; simp [swB] at h; omega⟩⟩
                case false =>
                  rcases (show e = 0 ∨ e = 1 by omega) with rfl | rfl
                  · have HSW := hide hsw
                    clear hsw
                    go_wp2_with fail
                    go_meet
                    case rel => exact ⟨rfl, .inl ⟨rfl, by have h := HSW.out; have := HAB.out; simp [swB] at h; omega, by have h := HSW.out; have := HAB.out; simp [swB] at h; omega⟩⟩
                  · have HSW := hide hsw
                    clear hsw
                    go_wp2_with fail
                    go_meet
                    case rel => exact ⟨rfl, .inr ⟨rfl, by have h := HSW.out; have := HAB.out; simp [swB] at h; omega, by have h := HSW.out; have := HAB.out; simp [swB] at h; omega⟩⟩
              case rest =>
              obtain ⟨hwc, hch⟩ := hcut
              subst hwc
              rcases hch with ⟨rfl, hch1, hch2⟩ | ⟨rfl, hch1, hch2⟩
              · obtain ⟨a0, a1⟩ := blk_two HE2.out.cs
                have fz := HE2.out.cs.frozen 0
                have HE3 := hide (HE2.out.sets 0 (a + 1) b (.int .i64 ((a : Int) + 1)) (by simp))
                go_upto_region 49 with fail
                obtain ⟨W5, hW5⟩ : ∃ W5, W5 = wc.setCell ⟨gt, 0, none⟩ (.int .i64 ((a : Int) + 1)) := ⟨_, rfl⟩
                rw [← hW5] at HE3 ⊢
                clear hW5 a0 a1 fz HE2
                obtain ⟨c0, -⟩ := HE3.out.on.lo.cell a hch1
                have h4 := HL4.out a
                have hbit := bit_one (lv2 a) 0 (by omega)
                cases ht : (lv2 a).testBit 0
                case true =>
                  have HT := hide ht
                  rw [ht] at hbit
                  have hb1 : bits .and .i64 (((lv2 a : Nat) : Int) / 2 ^ 0) 1 = 1 := hbit
                  have hb2 := hb1
                  simp at hb2
                  generalize lv2 a = y at c0 hb1 hb2 h4
                  clear ht hbit
                  go_wp2_with fail
                  go_roundw
                  case rel => exact ⟨a + 1, b, L, i + 1, got, k0, k1, by omega, by omega, by omega, by go_num, rfl, hide (by have := HK.out; omega), hide (HI.out.lost0 hch1 hch2 HT.out), HE3⟩
                  case measure => simp [intOf]; omega
                case false =>
                  have HT := hide ht
                  rw [ht] at hbit
                  have hb1 : bits .and .i64 (((lv2 a : Nat) : Int) / 2 ^ 0) 1 = 0 := hbit
                  have hb2 := hb1
                  simp at hb2
                  generalize lv2 a = y at c0 hb1 hb2 h4
                  clear ht hbit
                  obtain ⟨b7, off7, rfl, j0, j1⟩ := (items_at HE3.out.on.al) a hch1
                  have hto := HI.out.told0 HF.out HL4.out
                  have hkb : 0 ≤ k0 ∧ k0 ≤ 1000000 ∧ 0 ≤ k1 ∧ k1 ≤ 1000000 := by have := HK.out; omega
                  have HTK := hide (take_any g2 (ordr a) (nwst L) k0 k1 (f a) W5 HE3.out.on.b2 (nwst_bd L).1 (nwst_bd L).2 hkb.1 hkb.2.1 hkb.2.2.1 hkb.2.2.2)
                  clear hkb
                  by_cases hL : L ≤ a
                  · have ht1 : takeB (ordr a) (nwst L) = true := by rw [hto]; exact decide_eq_true hL
                    have hts : takeSt (ordr a) (nwst L) k0 k1 = #[.int .i64 (ordr a), .int .i64 (k0 + 1), .int .i64 k1] := by unfold takeSt; rw [ht1]; rfl
                    rw [ht1, hts] at HTK
                    have d3 : decide ((a : Int) ≤ (L : Int) - 1) = false := decide_eq_false (by omega)
                    have HGL : Hid (got.length ≤ 700) := hide (by have := pair_len HI.out.hg HI.out.hl; have := HI.out.hL; omega)
                    have HLX := hide hL
                    clear hto ht1 hts hL
                    obtain ⟨i0, hi0, hz0, hz1, hz2⟩ := vs_info_parts int_info
                    go_wp2_with fail
                    refine HTK.out.mono ?_
                    rintro r7 w7 ⟨rfl, hb, hg⟩
                    have HE5 := hide ((HE3.out.take hb hg).alloc (.cells #[.int .i64 (a : Nat)] 3))
                    have n2 := news_blk2 (Blk.new w7 3 [Value.int .i64 (a : Nat)].toArray)
                    have N2 := hide n2
                    clear hb hg n2 c0 j0 j1 HE3 HTK
                    go_wp2_with (at_builtin; go_must (refine wpList_append_own _ rfl (.tmp 216) (.tmp 218) _ rfl (gt + 1) 3 i0 _ 1 8 Try.underlying22 hi0 hz0 hz1 hz2 rfl (by decide) u22 got.length (gi got) rfl (by exact HE5.out.gs) ⟨w7.heap.size, 0, none⟩ 1 1 [Value.int .i64 (a : Nat)] rfl rfl (by exact N2.out) (by intro u hu; simp at hu; subst hu; rfl) (by have := HGL.out; simp [maxLen]; omega) (by have := HGL.out; omega) (by exact HE5.out.hB.2.2.2.2) ?_); intro v8 w8 hown hg _; have HE6 := hide (HE5.out.app hown hg); clear hown hg)
                    go_roundw
                    case rel => exact ⟨a + 1, b, a + 1, i + 1, got ++ [a], k0 + 1, k1, by omega, by omega, by omega, by go_num, vint (by omega), hide (by have := HK.out; omega), hide (HI.out.new0 hch1 hch2 HLX.out), hide (by rw [nwst_succ]; exact HE6.out)⟩
                    case measure => simp [intOf]; omega
                  · have ht1 : takeB (ordr a) (nwst L) = false := by rw [hto]; exact decide_eq_false hL
                    have hts : takeSt (ordr a) (nwst L) k0 k1 = #[.int .i64 (nwst L), .int .i64 k0, .int .i64 (k1 + 1)] := by unfold takeSt; rw [ht1]; rfl
                    rw [ht1, hts] at HTK
                    have HLX : Hid (a < L) := hide (by omega)
                    clear hto ht1 hts hL
                    go_wp2_with fail
                    refine HTK.out.mono ?_
                    rintro r7 w7 ⟨rfl, hb, hg⟩
                    have HE4 := hide (HE3.out.take hb hg)
                    clear hb hg HE3 HTK c0 j0 j1
                    go_wp2_with fail
                    go_roundw
                    case rel => exact ⟨a + 1, b, L, i + 1, got, k0, k1 + 1, by omega, by omega, by omega, by go_num, rfl, hide (by have := HK.out; omega), hide (HI.out.old0 hch1 hch2 HLX.out), HE4⟩
                    case measure => simp [intOf]; omega
              · obtain ⟨a0, a1⟩ := blk_two HE2.out.cs
                have fz := HE2.out.cs.frozen 1
                have HE3 := hide (HE2.out.sets 1 a (b + 1) (.int .i64 ((b : Int) + 1)) (by simp))
                go_upto_region 49 with fail
                obtain ⟨W5, hW5⟩ : ∃ W5, W5 = wc.setCell ⟨gt, 1, none⟩ (.int .i64 ((b : Int) + 1)) := ⟨_, rfl⟩
                rw [← hW5] at HE3 ⊢
                clear hW5 a0 a1 fz HE2
                obtain ⟨c0, -⟩ := HE3.out.on.lo.cell b hch1
                have h4 := HL4.out b
                have hbit := bit_one (lv2 b) 1 (by omega)
                cases ht : (lv2 b).testBit 1
                case true =>
                  have HT := hide ht
                  rw [ht] at hbit
                  have hb1 : bits .and .i64 (((lv2 b : Nat) : Int) / 2 ^ 1) 1 = 1 := hbit
                  have hb2 := hb1
                  simp at hb2
                  generalize lv2 b = y at c0 hb1 hb2 h4
                  clear ht hbit
                  go_wp2_with fail
                  go_roundw
                  case rel => exact ⟨a, b + 1, L, i + 1, got, k0, k1, by omega, by omega, by omega, by go_num, rfl, hide (by have := HK.out; omega), hide (HI.out.lost1 hch1 hch2 HT.out), HE3⟩
                  case measure => simp [intOf]; omega
                case false =>
                  have HT := hide ht
                  rw [ht] at hbit
                  have hb1 : bits .and .i64 (((lv2 b : Nat) : Int) / 2 ^ 1) 1 = 0 := hbit
                  have hb2 := hb1
                  simp at hb2
                  generalize lv2 b = y at c0 hb1 hb2 h4
                  clear ht hbit
                  obtain ⟨b7, off7, rfl, j0, j1⟩ := (items_at HE3.out.on.al) b hch1
                  have hto := HI.out.told1 HF.out HL4.out
                  have hkb : 0 ≤ k0 ∧ k0 ≤ 1000000 ∧ 0 ≤ k1 ∧ k1 ≤ 1000000 := by have := HK.out; omega
                  have HTK := hide (take_any g2 (ordr b) (nwst L) k0 k1 (f b) W5 HE3.out.on.b2 (nwst_bd L).1 (nwst_bd L).2 hkb.1 hkb.2.1 hkb.2.2.1 hkb.2.2.2)
                  clear hkb
                  by_cases hL : L ≤ b
                  · have ht1 : takeB (ordr b) (nwst L) = true := by rw [hto]; exact decide_eq_true hL
                    have hts : takeSt (ordr b) (nwst L) k0 k1 = #[.int .i64 (ordr b), .int .i64 (k0 + 1), .int .i64 k1] := by unfold takeSt; rw [ht1]; rfl
                    rw [ht1, hts] at HTK
                    have d3 : decide ((b : Int) ≤ (L : Int) - 1) = false := decide_eq_false (by omega)
                    have HGL : Hid (got.length ≤ 700) := hide (by have := pair_len HI.out.hg HI.out.hl; have := HI.out.hL; omega)
                    have HLX := hide hL
                    clear hto ht1 hts hL
                    obtain ⟨i0, hi0, hz0, hz1, hz2⟩ := vs_info_parts int_info
                    go_wp2_with fail
                    refine HTK.out.mono ?_
                    rintro r7 w7 ⟨rfl, hb, hg⟩
                    have HE5 := hide ((HE3.out.take hb hg).alloc (.cells #[.int .i64 (b : Nat)] 3))
                    have n2 := news_blk2 (Blk.new w7 3 [Value.int .i64 (b : Nat)].toArray)
                    have N2 := hide n2
                    clear hb hg n2 c0 j0 j1 HE3 HTK
                    go_wp2_with (at_builtin; go_must (refine wpList_append_own _ rfl (.tmp 216) (.tmp 218) _ rfl (gt + 1) 3 i0 _ 1 8 Try.underlying22 hi0 hz0 hz1 hz2 rfl (by decide) u22 got.length (gi got) rfl (by exact HE5.out.gs) ⟨w7.heap.size, 0, none⟩ 1 1 [Value.int .i64 (b : Nat)] rfl rfl (by exact N2.out) (by intro u hu; simp at hu; subst hu; rfl) (by have := HGL.out; simp [maxLen]; omega) (by have := HGL.out; omega) (by exact HE5.out.hB.2.2.2.2) ?_); intro v8 w8 hown hg _; have HE6 := hide (HE5.out.app hown hg); clear hown hg)
                    go_roundw
                    case rel => exact ⟨a, b + 1, b + 1, i + 1, got ++ [b], k0 + 1, k1, by omega, by omega, by omega, by go_num, vint (by omega), hide (by have := HK.out; omega), hide (HI.out.new1 hch1 hch2 HLX.out), hide (by rw [nwst_succ]; exact HE6.out)⟩
                    case measure => simp [intOf]; omega
                  · have ht1 : takeB (ordr b) (nwst L) = false := by rw [hto]; exact decide_eq_false hL
                    have hts : takeSt (ordr b) (nwst L) k0 k1 = #[.int .i64 (nwst L), .int .i64 k0, .int .i64 (k1 + 1)] := by unfold takeSt; rw [ht1]; rfl
                    rw [ht1, hts] at HTK
                    have HLX : Hid (b < L) := hide (by omega)
                    clear hto ht1 hts hL
                    go_wp2_with fail
                    refine HTK.out.mono ?_
                    rintro r7 w7 ⟨rfl, hb, hg⟩
                    have HE4 := hide (HE3.out.take hb hg)
                    clear hb hg HE3 HTK c0 j0 j1
                    go_wp2_with fail
                    go_roundw
                    case rel => exact ⟨a, b + 1, L, i + 1, got, k0, k1 + 1, by omega, by omega, by omega, by go_num, rfl, hide (by have := HK.out; omega), hide (HI.out.old1 hch1 hch2 HLX.out), HE4⟩
                    case measure => simp [intOf]; omega
            · obtain rfl : M = a := by omega
              obtain rfl : M = b := by omega
              have d1 : decide ((M : Int) < (M : Int)) = false := decide_eq_false (by omega)
              obtain ⟨A22, c22, rfl, hc22, hg0⟩ := got_of HE.out.gs
              have HG0 := hide hg0
              clear hg0 hgo hi hla hlb HK
              go_wp2_with fail
              clear d1 a0 a1
              have HGL : Hid (got.length ≤ M) := hide (Nat.le_trans (pair_len HI.out.hg HI.out.hl) (by have := HI.out.hL; omega))
              obtain ⟨k0, k1, hw0⟩ : ∃ (x y : World), x = wr := ⟨wr, wr, rfl⟩
              clear hw0 k0 k1
              go_loopw [27, 28] (fun nn kk wx => ∃ (n k : Nat), k ≤ M ∧ kk = .int .i64 k ∧ nn = .int .i64 n ∧ n ≤ got.length ∧ Hid (∀ j, j < n → ∀ x, got[j]? = some x → x < k) ∧ Hid (∀ x, got[n]? = some x → k ≤ x) ∧ wx = wr) (fun _ kk _ => M - (intOf kk).toNat)
              case atStart => exact ⟨0, 0, by omega, rfl, rfl, by omega, hide (fun j hj => by omega), hide (fun x _ => by omega), rfl⟩
              case round =>
                obtain ⟨n, k, hk, rfl, rfl, hn, HP, HQ, rfl⟩ := hrel
                have hgh := got_here HI.out.hg HP.out HQ.out
                have hnb : n < 1000 := by have := HGL.out; omega
                have HIN := hide (fun (h : lv2 k = 0) (hk : k < M) => HI.out.hin k (by omega) h)
                by_cases hlt : k < M
                · have d1 : decide ((k : Int) < (M : Int)) = true := decide_eq_true (by omega)
                  obtain ⟨c0, -⟩ := HE.out.on.lo.cell k hlt
                  by_cases hnl : n < got.length
                  · have d2 : decide ((n : Int) < (got.length : Int)) = true := decide_eq_true (by omega)
                    obtain ⟨g9, rfl, cg⟩ := HG0.out n hnl
                    obtain ⟨v, hv⟩ : ∃ v, got[n]? = some v := ⟨got[n], List.getElem?_eq_getElem hnl⟩
                    have hgd : got.getD n 0 = v := by rw [List.getD_eq_getElem?_getD, hv]; rfl
                    rw [hgd] at cg
                    have HV := hide hv
                    have hge := HQ.out v hv
                    have HN1 : Hid (n + 1 ≤ got.length) := hide hnl
                    by_cases hvk : v = k
                    · subst hvk
                      have d3 : ((v : Int) == (v : Int)) = true := by simp
                      generalize lv2 v = y at c0
                      clear hv hgd hgh HIN
                      go_wp2_with fail
                      go_roundw
                      case rel => exact ⟨n + 1, v + 1, hlt, by go_num, by go_num, HN1.out, hide (got_step HP.out HV.out), hide (got_next HI.out.hg HV.out), trivial⟩
                      case measure => simp [intOf]; omega
                    · have d3 : ((v : Int) == (k : Int)) = false := beq_eq_false_iff_ne.2 (by omega)
                      have hl0 : lv2 k ≠ 0 := fun h => by have := hgh.1 (HIN.out h hlt); rw [hv] at this; exact hvk (Option.some.inj this)
                      have d4 : (((lv2 k : Nat) : Int) == 0) = false := beq_eq_false_iff_ne.2 (by omega)
                      generalize lv2 k = y at c0 d4 hl0
                      clear hv hgd hgh HIN
                      go_wp2_with fail
                      go_roundw
                      case rel => exact ⟨n, k + 1, by omega, by go_num, rfl, by omega, hide (fun j hj x hx => by have := HP.out j hj x hx; omega), hide (fun x hx => by rw [HV.out] at hx; cases hx; omega), trivial⟩
                      case measure => simp [intOf]; omega
                  · have d2 : decide ((n : Int) < (got.length : Int)) = false := decide_eq_false (by omega)
                    have hv : got[n]? = none := List.getElem?_eq_none (by omega)
                    have HV := hide hv
                    have hl0 : lv2 k ≠ 0 := fun h => by have := hgh.1 (HIN.out h hlt); rw [hv] at this; cases this
                    have d4 : (((lv2 k : Nat) : Int) == 0) = false := beq_eq_false_iff_ne.2 (by omega)
                    generalize lv2 k = y at c0 d4 hl0
                    clear hv hgh HIN
                    go_wp2_with fail
                    go_roundw
                    case rel => exact ⟨n, k + 1, by omega, by go_num, rfl, by omega, hide (fun j hj x hx => by have := HP.out j hj x hx; omega), hide (fun x hx => by rw [HV.out] at hx; cases hx), trivial⟩
                    case measure => simp [intOf]; omega
                · obtain rfl : M = k := by omega
                  have d1 : decide ((M : Int) < (M : Int)) = false := decide_eq_false (by omega)
                  have hnn : n = got.length := by
                    rcases Nat.lt_or_ge n got.length with h | h
                    · have h1 := HQ.out got[n] (List.getElem?_eq_getElem h)
                      have h2 := HI.out.hl got[n] (List.getElem_mem h)
                      have h3 := HI.out.hL
                      omega
                    · omega
                  have d5 : ((n : Int) == (got.length : Int)) = true := by rw [hnn]; simp
                  clear hnn hgh HIN
                  go_wp2_with fail
                  go_ret
                  exact ⟨rfl, HE.out.on.old⟩
end Go.Proofs.Ytgdljdhibknjnaa
