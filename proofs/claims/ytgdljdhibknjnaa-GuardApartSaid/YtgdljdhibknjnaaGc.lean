/- The walk of metronomekeep.GuardApart; condition: slots, links and windows lie in memory. -/
import Derived.Test.YtgdljdhibknjnaaGb
import Derived.Deep.Cut
import Derived.Deep.CutRange
import Derived.Deep.CutBlock
namespace Go.Proofs.Ytgdljdhibknjnaa
open Go.RowKit

theorem some_of {o p : Option (Int × Int)} {a b : Int} {s : Bool} (h : p = o) (ha : (o.getD (0, 0)).1 = a) (hb : (o.getD (0, 0)).2 = b) (hs : o.isSome = s) : s = true → p = some (a, b) := by
  rintro rfl
  subst h
  cases p with
  | none => cases hs
  | some v => subst ha hb; rfl
/-- What the law keeps in memory. -/
structure GbAt (w wr : World) (G C D S T : Array Value) : Prop where
  g : Blk wr w.heap.size 86 G
  a : Blk wr (w.heap.size + 1) 36 C
  b : Blk wr (w.heap.size + 1 + 1) 36 D
  x : Blk wr (w.heap.size + 1 + 1 + 1) 88 S
  y : Blk wr (w.heap.size + 1 + 1 + 1 + 1) 88 T
  old : Below w.heap.size w wr
theorem GbAt.below {w w1 w2 : World} {G C D S T : Array Value} (h : GbAt w w1 G C D S T) (hB : Below w1.heap.size w1 w2) : GbAt w w2 G C D S T :=
  ⟨h.g.below hB h.g.lt, h.a.below hB h.a.lt, h.b.below hB h.b.lt, h.x.below hB h.x.lt, h.y.below hB h.y.lt, h.old.trans (hB.mono h.old.size)⟩
theorem GbAt.alloc {w w1 : World} {G C D S T : Array Value} (h : GbAt w w1 G C D S T) (o : Obj) : GbAt w (w1.alloc o) G C D S T := h.below ((Below.refl _ _).alloc (Nat.le_refl _) o)
theorem GbAt.drewN {w w1 : World} {G C D S T : Array Value} (h : GbAt w w1 G C D S T) (n : Nat) : GbAt w (w1.drewN n) G C D S T := ⟨h.g.drewN n, h.a.drewN n, h.b.drewN n, h.x.drewN n, h.y.drewN n, below_drewN h.old n⟩
theorem GbAt.start (w : World) (G C D S T : Array Value) : GbAt w (((((w.alloc (.cells G 86)).alloc (.cells C 36)).alloc (.cells D 36)).alloc (.cells S 88)).alloc (.cells T 88)) G C D S T :=
  ⟨((((Blk.new w _ _).alloc _).alloc _).alloc _).alloc _, (((by simpa using Blk.new (w.alloc (.cells G 86)) 36 C : Blk _ (w.heap.size + 1) _ _).alloc _).alloc _).alloc _, ((by simpa using Blk.new ((w.alloc (.cells G 86)).alloc (.cells C 36)) 36 D : Blk _ (w.heap.size + 1 + 1) _ _).alloc _).alloc _, (by simpa using Blk.new (((w.alloc (.cells G 86)).alloc (.cells C 36)).alloc (.cells D 36)) 88 S : Blk _ (w.heap.size + 1 + 1 + 1) _ _).alloc _, by simpa using Blk.new ((((w.alloc (.cells G 86)).alloc (.cells C 36)).alloc (.cells D 36)).alloc (.cells S 88)) 88 T,
    (((((Below.refl _ _).alloc (Nat.le_refl _) _).alloc (by simp) _).alloc (by simp <;> omega) _).alloc (by simp <;> omega) _).alloc (by simp <;> omega) _⟩
section
variable (nd fa sk ji dr R : Int) (A : Option Addr) (len c : Nat) (AL : Option Addr) (ll cl : Nat) (fr : Int) (AQ : Option Addr) (lq cq : Nat) (sl : List Sl) (lk : List Lk) (wn : List Wn)
set_option maxRecDepth 100000 in
set_option maxHeartbeats 8000000 in
theorem apart_any (af as_ an ad bf bs bn bd i k xa xb ya yb fm tl : Int) (w : World) (hm : len ≤ 9223372036854775807) (s1 : sl.length = len) (l1 : lk.length = ll) (q1 : wn.length = lq) (s2 : SlotsAt w A len sl) (l2 : LinksAt w AL ll lk) (q2 : WinsAt w AQ lq wn) (h64 : fm ≤ 9223372036854775807) (h65 : tl ≤ 9223372036854775807) :
    Calls Try.prog 11 #[.agg (planC nd fa sk ji dr R (.slice A len c) (.slice AL ll cl) fr (.slice AQ lq cq)), clk af as_ an ad, clk bf bs bn bd, .int .i64 i, .int .i64 k, spanV xa xb, spanV ya yb, .int .i64 fm, .int .i64 tl] w fun e w' => e = .returned (.bool true) ∧ Below w.heap.size w w' := by
  have hP0 := GbAt.start w (planC nd fa sk ji dr R (.slice A len c) (.slice AL ll cl) fr (.slice AQ lq cq)) #[.int .i64 af, .int .i64 as_, .int .i64 an, .int .i64 ad] #[.int .i64 bf, .int .i64 bs, .int .i64 bn, .int .i64 bd] #[.int .i64 xa, .int .i64 xb] #[.int .i64 ya, .int .i64 yb]
  have HP := hide hP0
  obtain ⟨i0, i1, i2, i3, i4, i5, i6, i7, i8, i9⟩ := hP0.g.cells10; obtain ⟨j0, j1, j2, j3⟩ := hP0.a.cells4; obtain ⟨k0, k1, k2, k3⟩ := hP0.b.cells4; obtain ⟨x0, x1, -, -⟩ := hP0.x.cells2; obtain ⟨y0, y1, -, -⟩ := hP0.y.cells2
  clear hP0
  have HCK : Hid (∀ w0 : World, Below w.heap.size w w0 → Calls Try.prog 44 #[.agg (planC nd fa sk ji dr R (.slice A len c) (.slice AL ll cl) fr (.slice AQ lq cq))] w0 (PcPost w0 (chk ⟨nd, fa, sk, ji, dr, R, sl, lk, fr, wn⟩))) := hide fun w0 hB => check_any ⟨nd, fa, sk, ji, dr, R, sl, lk, fr, wn⟩ A len c AL ll cl AQ lq cq w0 s1 l1 q1 (s2.below hB) (l2.below hB) (q2.below hB)
  have HPA : Hid (∀ (id : Int) (w0 : World), Below w.heap.size w w0 → Calls Try.prog 42 #[.agg (gdC nd fa sk ji dr R (.slice A len c) (.slice AL ll cl) fr (.slice AQ lq cq) af as_ an ad id), spanV xa xb, .int .i64 fm, .int .i64 tl] w0 (PaPost w0 (psR af as_ an ad R id xa xb tl sl 50 (max fm 0)))) := hide fun id w0 hB => gpass_any nd fa sk ji dr R A len c _ fr _ af as_ an ad id xa xb fm tl sl w0 hm s1 (s2.below hB) h64 h65
  have HPB : Hid (∀ (id : Int) (w0 : World), Below w.heap.size w w0 → Calls Try.prog 42 #[.agg (gdC nd fa sk ji dr R (.slice A len c) (.slice AL ll cl) fr (.slice AQ lq cq) bf bs bn bd id), spanV ya yb, .int .i64 fm, .int .i64 tl] w0 (PaPost w0 (psR bf bs bn bd R id ya yb tl sl 50 (max fm 0)))) := hide fun id w0 hB => gpass_any nd fa sk ji dr R A len c _ fr _ bf bs bn bd id ya yb fm tl sl w0 hm s1 (s2.below hB) h64 h65
  have HLA : Hid (∀ (t : Int) (w0 : World), Calls Try.prog 19 #[clk af as_ an ad, .int .i64 t] w0 fun e w' => e = .returned (.tuple #[.int .i64 (localN af as_ an ad t), errV (localE af as_ an ad t)]) ∧ Below w0.heap.size w0 w') := hide fun t w0 => local_any _ _ _ _ t w0
  have HLB : Hid (∀ (t : Int) (w0 : World), Calls Try.prog 19 #[clk bf bs bn bd, .int .i64 t] w0 fun e w' => e = .returned (.tuple #[.int .i64 (localN bf bs bn bd t), errV (localE bf bs bn bd t)]) ∧ Below w0.heap.size w0 w') := hide fun t w0 => local_any _ _ _ _ t w0
  clear s1 l1 q1 s2 l2 q2 h64 h65
  cases hsm : decide (100 < wrap64 (wrap64 ((len : Int) + (ll : Int)) + (lq : Int)))
  case true =>
    go_enter Try.func11, Try.ntmps11
    go_wp2_with fail
    go_ret
    exact ⟨rfl, HP.out.old⟩
  case false =>
    go_enter Try.func11, Try.ntmps11
    go_wp2_with fail
    refine (guarded_any _).mono ?_
    rintro e w2 ⟨rfl, hB⟩
    have HP2 := hide (HP.out.below hB)
    clear hB HP hsm i0 i1 i2 i3 i4 i5 i6 i7 i8 i9 j0 j1 j2 j3 k0 k1 k2 k3 x0 x1 y0 y1
    obtain ⟨i0, i1, i2, i3, i4, i5, i6, i7, i8, i9⟩ := HP2.out.g.cells10; obtain ⟨j0, j1, j2, j3⟩ := HP2.out.a.cells4; obtain ⟨k0, k1, k2, k3⟩ := HP2.out.b.cells4; obtain ⟨x0, x1, -, -⟩ := HP2.out.x.cells2; obtain ⟨y0, y1, -, -⟩ := HP2.out.y.cells2
    go_wp2_with fail
    refine (HCK.out _ HP2.out.old).mono ?_
    rintro e w3 hpost
    have HPC := hide hpost; clear hpost
    have HP3 := hide (HP2.out.below HPC.out.1)
    by_cases hc0 : (chk ⟨nd, fa, sk, ji, dr, R, sl, lk, fr, wn⟩).1 = 0
    case neg =>
      rcases HPC.out.2 with ⟨h, _⟩ | ⟨_, v, rfl, hv⟩
      · exact absurd h hc0
      obtain ⟨t, u, rfl⟩ := hv.iface
      clear hv hc0 HPC HP2 i0 i1 i2 i3 i4 i5 i6 i7 i8 i9 j0 j1 j2 j3 k0 k1 k2 k3 x0 x1 y0 y1
      go_wp2_with fail
      go_ret
      exact ⟨rfl, HP3.out.old⟩
    case pos =>
      rcases HPC.out.2 with ⟨-, rfl⟩ | ⟨h, -⟩
      rotate_left
      · exact absurd hc0 h
      have HC0 := hide hc0; clear hc0
      clear HPC HP2 i0 i1 i2 i3 i4 i5 i6 i7 i8 i9 j0 j1 j2 j3 k0 k1 k2 k3 x0 x1 y0 y1
      obtain ⟨b1, b2, b3, -⟩ := chk_slots HC0.out
      dsimp only at b1 b2 b3
      have b4 : sk ≤ 137438953472 := chk_sk HC0.out
      obtain ⟨N, rfl⟩ : ∃ N : Nat, nd = N := ⟨nd.toNat, by omega⟩
      have n1 : 0 < N := by omega
      have n2 : N ≤ 9223372036854775807 := by omega
      obtain ⟨i0, i1, i2, i3, i4, i5, i6, i7, i8, i9⟩ := HP3.out.g.cells10; obtain ⟨j0, j1, j2, j3⟩ := HP3.out.a.cells4; obtain ⟨k0, k1, k2, k3⟩ := HP3.out.b.cells4; obtain ⟨x0, x1, -, -⟩ := HP3.out.x.cells2; obtain ⟨y0, y1, -, -⟩ := HP3.out.y.cells2
      obtain ⟨I, hI⟩ : ∃ I : Nat, (i % 18446744073709551616).toNat % N = I := ⟨_, rfl⟩
      obtain ⟨K, hK⟩ : ∃ K : Nat, (k % 18446744073709551616).toNat % N = K := ⟨_, rfl⟩
      have HI := hide hI; have HK := hide hK
      clear hI hK b2 b3
      go_wp2_with fail
      go_quiet ((go_at_call 20; first | ((with_reducible exact Calls.quiet_of_same (pick_same i N _ n1 n2 I HI))) | ((with_reducible exact Calls.quiet_of_same (pick_same k N _ n1 n2 K HK)))))
      by_cases hik : I = K
      · have e1 : ((I : Int) == (K : Int)) = true := by simp [hik]
        clear hik
        go_wp2_with fail
        go_ret
        exact ⟨rfl, (HP3.out.drewN _).old⟩
      · have e1 : ((I : Int) == (K : Int)) = false := by simp; omega
        have HIK := hide hik; clear hik
        have HP4 := hide (HP3.out.drewN 1)
        go_wp2_with fail
        refine (HPA.out (I : Int) _ (by exact (HP3.out.drewN _).old)).mono ?_
        rintro e w5 hpost
        have HA := hide hpost.1
        have HP5 := hide ((HP3.out.drewN _).below hpost.2)
        obtain ⟨o1, ho1⟩ : ∃ o, psR af as_ an ad R (I : Int) xa xb tl sl 50 (max fm 0) = o := ⟨_, rfl⟩
        obtain ⟨s0, hs0⟩ : ∃ z, (o1.getD (0, 0)).1 = z := ⟨_, rfl⟩
        obtain ⟨s1, hs1⟩ : ∃ z, (o1.getD (0, 0)).2 = z := ⟨_, rfl⟩
        obtain ⟨so, hso⟩ : ∃ z, o1.isSome = z := ⟨_, rfl⟩
        have HA2 := HA.out; clear HA
        rw [ho1, hs0, hs1, hso] at HA2
        subst HA2
        have HO1 := hide (some_of ho1 hs0 hs1 hso)
        have HP6 := hide (HP5.out.alloc (.cells #[.int .i64 s0, .int .i64 s1] 88))
        have HN6 := hide (Blk.new w5 88 #[.int .i64 s0, .int .i64 s1])
        clear ho1 hs0 hs1 hso o1
        clear hpost HP5 HP4 HP3 i0 i1 i2 i3 i4 i5 i6 i7 i8 i9 j0 j1 j2 j3 k0 k1 k2 k3 x0 x1 y0 y1
        obtain ⟨i0, i1, i2, i3, i4, i5, i6, i7, i8, i9⟩ := HP6.out.g.cells10; obtain ⟨j0, j1, j2, j3⟩ := HP6.out.a.cells4; obtain ⟨k0, k1, k2, k3⟩ := HP6.out.b.cells4; obtain ⟨x0, x1, -, -⟩ := HP6.out.x.cells2; obtain ⟨y0, y1, -, -⟩ := HP6.out.y.cells2
        go_wp2_with fail
        refine (HPB.out (K : Int) _ (by exact HP6.out.old)).mono ?_
        rintro e w7 hpost
        have HA := hide hpost.1
        have HP7 := hide (HP6.out.below hpost.2)
        have HN7 := hide (HN6.out.below hpost.2 HN6.out.lt)
        obtain ⟨o1, ho1⟩ : ∃ o, psR bf bs bn bd R (K : Int) ya yb tl sl 50 (max fm 0) = o := ⟨_, rfl⟩
        obtain ⟨t0, hs0⟩ : ∃ z, (o1.getD (0, 0)).1 = z := ⟨_, rfl⟩
        obtain ⟨t1, hs1⟩ : ∃ z, (o1.getD (0, 0)).2 = z := ⟨_, rfl⟩
        obtain ⟨tk, hso⟩ : ∃ z, o1.isSome = z := ⟨_, rfl⟩
        have HA2 := HA.out; clear HA
        rw [ho1, hs0, hs1, hso] at HA2
        subst HA2
        have HO2 := hide (some_of ho1 hs0 hs1 hso)
        have HP8 := hide (HP7.out.alloc (.cells #[.int .i64 t0, .int .i64 t1] 88))
        have HN8 := hide (HN7.out.alloc (.cells #[.int .i64 t0, .int .i64 t1] 88))
        have HT8 := hide (Blk.new w7 88 #[.int .i64 t0, .int .i64 t1])
        clear ho1 hs0 hs1 hso o1
        clear hpost HP7 HN7 HN6 HP6 i0 i1 i2 i3 i4 i5 i6 i7 i8 i9 j0 j1 j2 j3 k0 k1 k2 k3 x0 x1 y0 y1
        obtain ⟨i0, i1, i2, i3, i4, i5, i6, i7, i8, i9⟩ := HP8.out.g.cells10; obtain ⟨j0, j1, j2, j3⟩ := HP8.out.a.cells4; obtain ⟨k0, k1, k2, k3⟩ := HP8.out.b.cells4; obtain ⟨x0, x1, -, -⟩ := HP8.out.x.cells2; obtain ⟨y0, y1, -, -⟩ := HP8.out.y.cells2
        obtain ⟨p0, p1, -, -⟩ := HN8.out.cells2
        obtain ⟨r0, r1, -, -⟩ := HT8.out.cells2
        clear HPA HPB HCK
        cases so
        case false =>
          go_wp2_with fail
          go_ret
          exact ⟨rfl, HP8.out.old⟩
        case true =>
          cases tk
          case false =>
            go_wp2_with fail
            go_ret
            exact ⟨rfl, HP8.out.old⟩
          case true =>
            have HR1 := hide (HO1.out rfl); have HR2 := hide (HO2.out rfl); clear HO1 HO2
            cases hmt : meetB s0 s1 t0 t1
            case false =>
              have HMT := hide hmt; clear hmt
              go_wp2_with fail
              refine (meet_is s0 s1 t0 t1 false HMT.out _).mono ?_
              rintro e w9 ⟨rfl, hB⟩
              have HP9 := hide (HP8.out.below hB)
              clear hB
              go_wp2_with fail
              go_ret
              exact ⟨rfl, HP9.out.old⟩
            case true =>
              have HMT := hide hmt; clear hmt
              go_wp2_with fail
              refine (meet_is s0 s1 t0 t1 true HMT.out _).mono ?_
              rintro e w9 ⟨rfl, hB⟩
              have HP9 := hide (HP8.out.below hB)
              obtain ⟨p2, p3, -, -⟩ := ((HN8.out.below hB HN8.out.lt)).cells2
              obtain ⟨r2, r3, -, -⟩ := ((HT8.out.below hB HT8.out.lt)).cells2
              clear hB HN8 HT8 HP8 p0 p1 r0 r1 i0 i1 i2 i3 i4 i5 i6 i7 i8 i9 j0 j1 j2 j3 k0 k1 k2 k3 x0 x1 y0 y1
              obtain ⟨i0, i1, i2, i3, i4, i5, i6, i7, i8, i9⟩ := HP9.out.g.cells10; obtain ⟨j0, j1, j2, j3⟩ := HP9.out.a.cells4; obtain ⟨k0, k1, k2, k3⟩ := HP9.out.b.cells4; obtain ⟨x0, x1, -, -⟩ := HP9.out.x.cells2; obtain ⟨y0, y1, -, -⟩ := HP9.out.y.cells2
              go_upto_region 14 with fail
              go_cut [101, 102, 103] from 91 to 103 (fun a b c wx => ∃ z0 z1 : Int, Hid (max af bf = z0 ∧ max s1 t1 = z1) ∧ a = .slice (some ⟨w9.heap.size, 0, none⟩) 2 2 ∧ b = .int .i64 2 ∧ c = .int .i64 0 ∧ wx = w9.alloc (.cells #[.int .i64 z0, .int .i64 z1] 3))
              case first =>
                go_wp2_with fail
                all_goals (go_meet; case rel => exact ⟨_, _, hide ⟨by omega, by omega⟩, rfl, rfl, rfl, rfl⟩)
              case rest =>
                obtain ⟨z0, z1, HZ, rfl, rfl, rfl, rfl⟩ := hcut
                have HPA := hide (HP9.out.alloc (.cells #[.int .i64 z0, .int .i64 z1] 3))
                obtain ⟨p0, p1, -, -⟩ := (Blk.new w9 3 #[.int .i64 z0, .int .i64 z1]).cells2
                clear HP9 p2 p3 r2 r3 i0 i1 i2 i3 i4 i5 i6 i7 i8 i9 j0 j1 j2 j3 k0 k1 k2 k3 x0 x1 y0 y1
                obtain ⟨i0, i1, i2, i3, i4, i5, i6, i7, i8, i9⟩ := HPA.out.g.cells10; obtain ⟨j0, j1, j2, j3⟩ := HPA.out.a.cells4; obtain ⟨k0, k1, k2, k3⟩ := HPA.out.b.cells4; obtain ⟨x0, x1, -, -⟩ := HPA.out.x.cells2; obtain ⟨y0, y1, -, -⟩ := HPA.out.y.cells2
                obtain ⟨m, hm0⟩ : ∃ z, localN af as_ an ad z0 = z := ⟨_, rfl⟩
                obtain ⟨n, hn0⟩ : ∃ z, localN bf bs bn bd z0 = z := ⟨_, rfl⟩
                obtain ⟨ea, hea⟩ : ∃ z, localE af as_ an ad z0 = z := ⟨_, rfl⟩
                obtain ⟨eb, heb⟩ : ∃ z, localE bf bs bn bd z0 = z := ⟨_, rfl⟩
                have HLA0 := HLA.out z0; have HLB0 := HLB.out z0
                rw [hm0, hea] at HLA0; rw [hn0, heb] at HLB0
                have HA0 := hide HLA0; have HB0 := hide HLB0; have HM0 := hide hm0; have HN0 := hide hn0; have HEA := hide hea; have HEB := hide heb
                clear HLA0 HLB0 hm0 hn0 hea heb
                go_wp2_with fail
                refine wp_loop_rounds 2 ?_
                rw [rounds_succ]
                go_wp2_with fail
                refine (HA0.out _).mono ?_
                rintro e wa ⟨rfl, hB⟩
                have HPB := hide (HPA.out.below hB)
                obtain ⟨q0, q1, -, -⟩ := ((Blk.new w9 3 #[.int .i64 z0, .int .i64 z1]).below hB (Blk.new w9 3 #[.int .i64 z0, .int .i64 z1]).lt).cells2
                have HQB := hide ((Blk.new w9 3 #[.int .i64 z0, .int .i64 z1]).below hB (Blk.new w9 3 #[.int .i64 z0, .int .i64 z1]).lt)
                clear hB HPA p0 p1 q0 q1 i0 i1 i2 i3 i4 i5 i6 i7 i8 i9 j0 j1 j2 j3 k0 k1 k2 k3 x0 x1 y0 y1
                obtain ⟨i0, i1, i2, i3, i4, i5, i6, i7, i8, i9⟩ := HPB.out.g.cells10; obtain ⟨j0, j1, j2, j3⟩ := HPB.out.a.cells4; obtain ⟨k0, k1, k2, k3⟩ := HPB.out.b.cells4; obtain ⟨x0, x1, -, -⟩ := HPB.out.x.cells2; obtain ⟨y0, y1, -, -⟩ := HPB.out.y.cells2
                go_wp2_with fail
                refine (HB0.out _).mono ?_
                rintro e wb ⟨rfl, hB⟩
                have HPC := hide (HPB.out.below hB)
                have HQC := hide (HQB.out.below hB HQB.out.lt)
                clear hB HPB HQB i0 i1 i2 i3 i4 i5 i6 i7 i8 i9 j0 j1 j2 j3 k0 k1 k2 k3 x0 x1 y0 y1
                obtain ⟨i0, i1, i2, i3, i4, i5, i6, i7, i8, i9⟩ := HPC.out.g.cells10; obtain ⟨j0, j1, j2, j3⟩ := HPC.out.a.cells4; obtain ⟨k0, k1, k2, k3⟩ := HPC.out.b.cells4; obtain ⟨x0, x1, -, -⟩ := HPC.out.x.cells2; obtain ⟨y0, y1, -, -⟩ := HPC.out.y.cells2
                obtain ⟨p0, p1, -, -⟩ := HQC.out.cells2
                by_cases h1 : ea = 0
                case neg =>
                  have q1 : (ea != 0) = true := by simp [h1]
                  clear h1
                  go_wp2_with fail
                  go_ret
                  exact ⟨rfl, HPC.out.old⟩
                case pos =>
                  subst h1
                  by_cases h1 : eb = 0
                  case neg =>
                    have q1 : (eb != 0) = true := by simp [h1]
                    clear h1
                    go_wp2_with fail
                    go_ret
                    exact ⟨rfl, HPC.out.old⟩
                  case pos =>
                    subst h1
                    have bm := local_bd HEA.out; have bn_ := local_bd HEB.out
                    rw [HM0.out] at bm; rw [HN0.out] at bn_
                    obtain ⟨bm1, bm2⟩ := bm; obtain ⟨bn1, bn2⟩ := bn_
                    by_cases h1 : sk - 2 < m - n
                    · have q1 : decide (sk - 2 < m - n) = true := decide_eq_true h1
                      clear h1
                      go_wp2_with fail
                      go_ret
                      exact ⟨rfl, HPC.out.old⟩
                    · have q1 : decide (sk - 2 < m - n) = false := decide_eq_false h1
                      by_cases h2 : sk - 2 < n - m
                      · have q2 : decide (sk - 2 < n - m) = true := decide_eq_true h2
                        clear h1 h2
                        go_wp2_with fail
                        go_ret
                        exact ⟨rfl, HPC.out.old⟩
                      · have q2 : decide (sk - 2 < n - m) = false := decide_eq_false h2
                        have HD0 := hide (show localN af as_ an ad z0 - localN bf bs bn bd z0 ≤ sk - 2 ∧ localN bf bs bn bd z0 - localN af as_ an ad z0 ≤ sk - 2 by rw [HM0.out, HN0.out]; omega)
                        clear h1 h2
                        go_wp2_with fail
                        have HE0 := hide (And.intro HEA.out HEB.out)
                        clear HA0 HB0 HM0 HN0 HEA HEB bm1 bm2 bn1 bn2 q1 q2
                        obtain ⟨m', hm0⟩ : ∃ z, localN af as_ an ad z1 = z := ⟨_, rfl⟩
                        obtain ⟨n', hn0⟩ : ∃ z, localN bf bs bn bd z1 = z := ⟨_, rfl⟩
                        obtain ⟨ea, hea⟩ : ∃ z, localE af as_ an ad z1 = z := ⟨_, rfl⟩
                        obtain ⟨eb, heb⟩ : ∃ z, localE bf bs bn bd z1 = z := ⟨_, rfl⟩
                        have HLA0 := HLA.out z1; have HLB0 := HLB.out z1
                        rw [hm0, hea] at HLA0; rw [hn0, heb] at HLB0
                        have HA0 := hide HLA0; have HB0 := hide HLB0; have HM0 := hide hm0; have HN0 := hide hn0; have HEA := hide hea; have HEB := hide heb
                        clear HLA0 HLB0 hm0 hn0 hea heb
                        rw [rounds_succ]
                        go_wp2_with fail
                        refine (HA0.out _).mono ?_
                        rintro e wc ⟨rfl, hB⟩
                        have HPD := hide (HPC.out.below hB)
                        have HQD := hide (HQC.out.below hB HQC.out.lt)
                        clear hB HPC HQC p0 p1 i0 i1 i2 i3 i4 i5 i6 i7 i8 i9 j0 j1 j2 j3 k0 k1 k2 k3 x0 x1 y0 y1
                        obtain ⟨i0, i1, i2, i3, i4, i5, i6, i7, i8, i9⟩ := HPD.out.g.cells10; obtain ⟨j0, j1, j2, j3⟩ := HPD.out.a.cells4; obtain ⟨k0, k1, k2, k3⟩ := HPD.out.b.cells4; obtain ⟨x0, x1, -, -⟩ := HPD.out.x.cells2; obtain ⟨y0, y1, -, -⟩ := HPD.out.y.cells2
                        go_wp2_with fail
                        refine (HB0.out _).mono ?_
                        rintro e wd ⟨rfl, hB⟩
                        have HPE := hide (HPD.out.below hB)
                        clear hB HPD HQD i0 i1 i2 i3 i4 i5 i6 i7 i8 i9 j0 j1 j2 j3 k0 k1 k2 k3 x0 x1 y0 y1
                        obtain ⟨i0, i1, i2, i3, i4, i5, i6, i7, i8, i9⟩ := HPE.out.g.cells10; obtain ⟨j0, j1, j2, j3⟩ := HPE.out.a.cells4; obtain ⟨k0, k1, k2, k3⟩ := HPE.out.b.cells4; obtain ⟨x0, x1, -, -⟩ := HPE.out.x.cells2; obtain ⟨y0, y1, -, -⟩ := HPE.out.y.cells2
                        by_cases h1 : ea = 0
                        case neg =>
                          have q1 : (ea != 0) = true := by simp [h1]
                          clear h1
                          go_wp2_with fail
                          go_ret
                          exact ⟨rfl, HPE.out.old⟩
                        case pos =>
                          subst h1
                          by_cases h1 : eb = 0
                          case neg =>
                            have q1 : (eb != 0) = true := by simp [h1]
                            clear h1
                            go_wp2_with fail
                            go_ret
                            exact ⟨rfl, HPE.out.old⟩
                          case pos =>
                            subst h1
                            have bm := local_bd HEA.out; have bn_ := local_bd HEB.out
                            rw [HM0.out] at bm; rw [HN0.out] at bn_
                            obtain ⟨bm1, bm2⟩ := bm; obtain ⟨bn1, bn2⟩ := bn_
                            by_cases h1 : sk - 2 < m' - n'
                            · have q1 : decide (sk - 2 < m' - n') = true := decide_eq_true h1
                              clear h1
                              go_wp2_with fail
                              go_ret
                              exact ⟨rfl, HPE.out.old⟩
                            · have q1 : decide (sk - 2 < m' - n') = false := decide_eq_false h1
                              by_cases h2 : sk - 2 < n' - m'
                              · have q2 : decide (sk - 2 < n' - m') = true := decide_eq_true h2
                                clear h1 h2
                                go_wp2_with fail
                                go_ret
                                exact ⟨rfl, HPE.out.old⟩
                              · exfalso
                                have hz := HZ.out
                                refine no_two HC0.out (i := (I : Int)) (k := (K : Int)) (by have := HIK.out; omega) HR1.out HR2.out HMT.out ?_ ?_ ?_ ?_ ?_ ?_ ?_ ?_
                                · rw [hz.1]; exact HE0.out.1
                                · rw [hz.1]; exact HE0.out.2
                                · rw [hz.2]; exact HEA.out
                                · rw [hz.2]; exact HEB.out
                                · rw [hz.1]; exact HD0.out.1
                                · rw [hz.1]; exact HD0.out.2
                                · rw [hz.2, HM0.out, HN0.out]; dsimp only; omega
                                · rw [hz.2, HM0.out, HN0.out]; dsimp only; omega
end
end Go.Proofs.Ytgdljdhibknjnaa
