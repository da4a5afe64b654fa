/- The contract of plain.Same at plans alike; conditions: slots, links and windows lie in memory. -/
import Derived.Test.YtfdadkngbnhmeaaDoorPc
import Derived.Test.YtfdadkngbnhmeaaDoorSpn
import Derived.Laws.StructEq
namespace Go.Proofs.YtfdadkngbnhmeaaDoor
open Go.RowKit

theorem sa_slot_fields : (Tryd.prog.fieldsOf 66).toList = [{ name := "Node", type := 3, offset := 0, embedded := false, tag := "", pkgPath := "", byteOffset := 0 }, { name := "Span", type := 64, offset := 1, embedded := true, tag := "", pkgPath := "", byteOffset := 8 }] := by kernel_rfl
theorem sa_win_fields : (Tryd.prog.fieldsOf 70).toList = [{ name := "Part", type := 3, offset := 0, embedded := false, tag := "", pkgPath := "", byteOffset := 0 }, { name := "Span", type := 64, offset := 1, embedded := true, tag := "", pkgPath := "", byteOffset := 8 }] := by kernel_rfl
theorem sa_link_fields : (Tryd.prog.fieldsOf 68).toList = [{ name := "From", type := 3, offset := 0, embedded := false, tag := "", pkgPath := "", byteOffset := 0 }, { name := "To", type := 3, offset := 1, embedded := false, tag := "", pkgPath := "", byteOffset := 8 }, { name := "Bag", type := 3, offset := 2, embedded := false, tag := "", pkgPath := "", byteOffset := 16 }, { name := "Queue", type := 3, offset := 3, embedded := false, tag := "", pkgPath := "", byteOffset := 24 }] := by kernel_rfl
theorem sa_link (a b c d : Int) (w : World) : (binOp .neq 68 (.agg #[.int .i64 a, .int .i64 b, .int .i64 c, .int .i64 d]) (.agg #[.int .i64 a, .int .i64 b, .int .i64 c, .int .i64 d])).run Tryd.prog w = .ok (.bool false) w := by
  have ht : Tryd.prog.underlying 68 = some (.struct (Tryd.prog.fieldsOf 68)) := by kernel_rfl
  have hp : Tryd.prog.stoodInHeld 68 = false := by kernel_rfl
  rw [run_neq_struct, run_equalIn_agg w 9999 _ _ _ ht hp, sa_link_fields]
  clear ht hp
  simp [Op.eqFields, go_sem, part]
set_option maxRecDepth 4000 in
theorem sa_slot (a b c : Int) (w : World) : (binOp .neq 66 (.agg #[.int .i64 a, .int .i64 b, .int .i64 c]) (.agg #[.int .i64 a, .int .i64 b, .int .i64 c])).run Tryd.prog w = .ok (.bool false) w := by
  have ht : Tryd.prog.underlying 66 = some (.struct (Tryd.prog.fieldsOf 66)) := by kernel_rfl
  have hp : Tryd.prog.stoodInHeld 66 = false := by kernel_rfl
  rw [run_neq_struct, run_equalIn_agg w 9999 _ _ _ ht hp, sa_slot_fields]
  clear ht hp
  simp [Op.eqFields, go_sem, part]
set_option maxRecDepth 4000 in
theorem sa_win (a b c : Int) (w : World) : (binOp .neq 70 (.agg #[.int .i64 a, .int .i64 b, .int .i64 c]) (.agg #[.int .i64 a, .int .i64 b, .int .i64 c])).run Tryd.prog w = .ok (.bool false) w := by
  have ht : Tryd.prog.underlying 70 = some (.struct (Tryd.prog.fieldsOf 70)) := by kernel_rfl
  have hp : Tryd.prog.stoodInHeld 70 = false := by kernel_rfl
  rw [run_neq_struct, run_equalIn_agg w 9999 _ _ _ ht hp, sa_win_fields]
  clear ht hp
  simp [Op.eqFields, go_sem, part]
theorem sa_slot_g (x y : Operand) (a b c : Int) (w : World) : (eqGuard .neq 66 x y (.agg #[.int .i64 a, .int .i64 b, .int .i64 c]) (.agg #[.int .i64 a, .int .i64 b, .int .i64 c])).run Tryd.prog w = .ok () w := by kernel_rfl
theorem sa_win_g (x y : Operand) (a b c : Int) (w : World) : (eqGuard .neq 70 x y (.agg #[.int .i64 a, .int .i64 b, .int .i64 c]) (.agg #[.int .i64 a, .int .i64 b, .int .i64 c])).run Tryd.prog w = .ok () w := by kernel_rfl
theorem sa_link_g (x y : Operand) (a b c d : Int) (w : World) : (eqGuard .neq 68 x y (.agg #[.int .i64 a, .int .i64 b, .int .i64 c, .int .i64 d]) (.agg #[.int .i64 a, .int .i64 b, .int .i64 c, .int .i64 d])).run Tryd.prog w = .ok () w := by kernel_rfl
/-- What Same keeps in memory. -/
structure SaAt (w wr : World) (G H : Array Value) : Prop where
  a : Blk wr w.heap.size 27 G
  b : Blk wr (w.heap.size + 1) 27 H
  old : Below w.heap.size w wr
theorem SaAt.drewN {w wr : World} {G H : Array Value} (h : SaAt w wr G H) (n : Nat) : SaAt w (wr.drewN n) G H := ⟨h.a, h.b, below_drewN h.old n⟩
theorem SaAt.new (w : World) (G H : Array Value) : SaAt w ((w.alloc (.cells G 27)).alloc (.cells H 27)) G H :=
  ⟨(Blk.new w _ _).alloc _, by have := Blk.new (w.alloc (.cells G 27)) 27 H; simpa using this, ((Below.refl _ _).alloc (Nat.le_refl _) _).alloc (by simp) _⟩
section
variable (p : Pl) (A : Option Addr) (len c : Nat) (AL : Option Addr) (ll cl : Nat) (AQ : Option Addr) (lq cq : Nat) (B : Option Addr) (d : Nat) (BL : Option Addr) (dl : Nat) (BQ : Option Addr) (dq : Nat)
set_option maxRecDepth 100000 in
set_option maxHeartbeats 8000000 in
theorem same_any (w : World) (n1 : len ≤ 1000) (n2 : ll ≤ 1000) (n3 : lq ≤ 1000) (s2 : SlotsAt w A len p.sl) (l2 : LinksAt w AL ll p.lk) (q2 : WinsAt w AQ lq p.wn) (s3 : SlotsAt w B len p.sl) (l3 : LinksAt w BL ll p.lk) (q3 : WinsAt w BQ lq p.wn) :
    Calls Tryd.prog 10 #[.agg (planC p.nd p.fa p.sk p.ji p.dr p.rd (.slice A len c) (.slice AL ll cl) p.fr (.slice AQ lq cq)), .agg (planC p.nd p.fa p.sk p.ji p.dr p.rd (.slice B len d) (.slice BL ll dl) p.fr (.slice BQ lq dq))] w fun e w' => e = .returned (.bool true) ∧ Below w.heap.size w w' := by
  have HP := hide (SaAt.new w (planC p.nd p.fa p.sk p.ji p.dr p.rd (.slice A len c) (.slice AL ll cl) p.fr (.slice AQ lq cq)) (planC p.nd p.fa p.sk p.ji p.dr p.rd (.slice B len d) (.slice BL ll dl) p.fr (.slice BQ lq dq)))
  have S2 := hide s2; have L2 := hide l2; have Q2 := hide q2; have S3 := hide s3; have L3 := hide l3; have Q3 := hide q3
  obtain ⟨i0, i1, i2, i3, i4, i5, i6, i7, i8, i9⟩ := HP.out.a.cells10
  obtain ⟨j0, j1, j2, j3, j4, j5, j6, j7, j8, j9⟩ := HP.out.b.cells10
  clear s2 l2 q2 s3 l3 q3
  go_enter Tryd.func10, Tryd.ntmps10
  go_wp2_with fail
  go_loopw [85] (fun i wr => ∃ k : Nat, k ≤ len ∧ i = .int .i64 k ∧ Hid (SaAt w wr (planC p.nd p.fa p.sk p.ji p.dr p.rd (.slice A len c) (.slice AL ll cl) p.fr (.slice AQ lq cq)) (planC p.nd p.fa p.sk p.ji p.dr p.rd (.slice B len d) (.slice BL ll dl) p.fr (.slice BQ lq dq)))) (fun i _ => len - (intOf i).toNat)
  case atStart => exact ⟨0, by omega, rfl, HP⟩
  case round =>
    clear HP i0 i1 i2 i3 i4 i5 i6 i7 i8 i9 j0 j1 j2 j3 j4 j5 j6 j7 j8 j9
    obtain ⟨k, hk, rfl, HP⟩ := hrel
    obtain ⟨i0, i1, i2, i3, i4, i5, i6, i7, i8, i9⟩ := HP.out.a.cells10
    obtain ⟨j0, j1, j2, j3, j4, j5, j6, j7, j8, j9⟩ := HP.out.b.cells10
    by_cases hlt : k < len
    · obtain ⟨b1, o1, rfl, x, hx, c0, c1, c2⟩ := (S2.out.below HP.out.old) k hlt
      obtain ⟨b2, o2, rfl, y, hy, e0, e1, e2⟩ := (S3.out.below HP.out.old) k hlt
      obtain rfl : y = x := Option.some.inj (hy.symm.trans hx)
      have hkl : (k : Int) < (len : Int) := by omega
      have hn := sa_slot
      have hg := sa_slot_g
      clear hx hy
      go_wp2_with fail
      go_quiet (fail)
      go_wp2_with fail
      go_roundw
      case rel => exact ⟨k + 1, by omega, by go_num, hide (HP.out.drewN _)⟩
      case measure => simp [intOf]; omega
    · obtain rfl : len = k := by omega
      clear hlt hk
      go_wp2_with fail
      obtain ⟨wo, rfl⟩ : ∃ wo : World, wo = wr := ⟨_, rfl⟩
      go_loopw [103] (fun i wr => ∃ k : Nat, k ≤ ll ∧ i = .int .i64 k ∧ Hid (SaAt w wr (planC p.nd p.fa p.sk p.ji p.dr p.rd (.slice A len c) (.slice AL ll cl) p.fr (.slice AQ lq cq)) (planC p.nd p.fa p.sk p.ji p.dr p.rd (.slice B len d) (.slice BL ll dl) p.fr (.slice BQ lq dq)))) (fun i _ => ll - (intOf i).toNat)
      case atStart => exact ⟨0, by omega, rfl, HP⟩
      case round =>
        clear HP i0 i1 i2 i3 i4 i5 i6 i7 i8 i9 j0 j1 j2 j3 j4 j5 j6 j7 j8 j9
        obtain ⟨k, hk, rfl, HP⟩ := hrel
        obtain ⟨i0, i1, i2, i3, i4, i5, i6, i7, i8, i9⟩ := HP.out.a.cells10
        obtain ⟨j0, j1, j2, j3, j4, j5, j6, j7, j8, j9⟩ := HP.out.b.cells10
        by_cases hlt : k < ll
        · obtain ⟨b1, o1, rfl, x, hx, c0, c1, c2, c3⟩ := (L2.out.below HP.out.old) k hlt
          obtain ⟨b2, o2, rfl, y, hy, e0, e1, e2, e3⟩ := (L3.out.below HP.out.old) k hlt
          obtain rfl : y = x := Option.some.inj (hy.symm.trans hx)
          have hkl : (k : Int) < (ll : Int) := by omega
          have hn := sa_link
          have hg := sa_link_g
          clear hx hy
          go_wp2_with fail
          go_quiet (fail)
          go_wp2_with fail
          go_roundw
          case rel => exact ⟨k + 1, by omega, by go_num, hide (HP.out.drewN _)⟩
          case measure => simp [intOf]; omega
        · obtain rfl : ll = k := by omega
          clear hlt hk
          go_wp2_with fail
          obtain ⟨wo, rfl⟩ : ∃ wo : World, wo = wr := ⟨_, rfl⟩
          go_loopw [121] (fun i wr => ∃ k : Nat, k ≤ lq ∧ i = .int .i64 k ∧ Hid (SaAt w wr (planC p.nd p.fa p.sk p.ji p.dr p.rd (.slice A len c) (.slice AL ll cl) p.fr (.slice AQ lq cq)) (planC p.nd p.fa p.sk p.ji p.dr p.rd (.slice B len d) (.slice BL ll dl) p.fr (.slice BQ lq dq)))) (fun i _ => lq - (intOf i).toNat)
          case atStart => exact ⟨0, by omega, rfl, HP⟩
          case round =>
            clear HP i0 i1 i2 i3 i4 i5 i6 i7 i8 i9 j0 j1 j2 j3 j4 j5 j6 j7 j8 j9
            obtain ⟨k, hk, rfl, HP⟩ := hrel
            obtain ⟨i0, i1, i2, i3, i4, i5, i6, i7, i8, i9⟩ := HP.out.a.cells10
            obtain ⟨j0, j1, j2, j3, j4, j5, j6, j7, j8, j9⟩ := HP.out.b.cells10
            by_cases hlt : k < lq
            · obtain ⟨b1, o1, rfl, x, hx, c0, c1, c2⟩ := (Q2.out.below HP.out.old) k hlt
              obtain ⟨b2, o2, rfl, y, hy, e0, e1, e2⟩ := (Q3.out.below HP.out.old) k hlt
              obtain rfl : y = x := Option.some.inj (hy.symm.trans hx)
              have hkl : (k : Int) < (lq : Int) := by omega
              have hn := sa_win
              have hg := sa_win_g
              clear hx hy
              go_wp2_with fail
              go_quiet (fail)
              go_wp2_with fail
              go_roundw
              case rel => exact ⟨k + 1, by omega, by go_num, hide (HP.out.drewN _)⟩
              case measure => simp [intOf]; omega
            · obtain rfl : lq = k := by omega
              clear hlt hk
              go_wp2_with fail
              go_ret
              exact ⟨rfl, HP.out.old⟩
end
end Go.Proofs.YtfdadkngbnhmeaaDoor
