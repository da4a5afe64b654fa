/- The walk of metronomelaw.FrameDecodes; conditions: the bytes lie in memory; errors.errorType holds what start-up lays there. -/
import Derived.Test.YtdbegdhbabfnoaaDoorOp
import Derived.Test.YtdbegdhbabfnoaaDoorRm
import Derived.Deep.RegionHeld3
import Derived.Test.YtdbegdhbabfnoaaDoorOpen
set_option linter.unusedVariables false
set_option linter.unusedSimpArgs false
namespace Go.Proofs.YtdbegdhbabfnoaaDoor
open Go.RowKit

theorem rframe_fields : (Tryd.prog.fieldsOf 24).toList = [{ name := "Node", type := 3, offset := 0, embedded := false, tag := "", pkgPath := "", byteOffset := 0 }, { name := "Slot", type := 3, offset := 1, embedded := false, tag := "", pkgPath := "", byteOffset := 8 }, { name := "Members", type := 3, offset := 2, embedded := false, tag := "", pkgPath := "", byteOffset := 16 }, { name := "Link", type := 3, offset := 3, embedded := false, tag := "", pkgPath := "", byteOffset := 24 }, { name := "Seq", type := 3, offset := 4, embedded := false, tag := "", pkgPath := "", byteOffset := 32 }, { name := "Data", type := 9, offset := 5, embedded := false, tag := "", pkgPath := "", byteOffset := 40 }] := by kernel_rfl
theorem rframe_same (nd sl mb lk sq : Int) (d : ByteArray) (w : World) : (binOp .eql 24 (.agg #[.int .i64 nd, .int .i64 sl, .int .i64 mb, .int .i64 lk, .int .i64 sq, .string d]) (.agg #[.int .i64 nd, .int .i64 sl, .int .i64 mb, .int .i64 lk, .int .i64 sq, .string d])).run Tryd.prog w = .ok (.bool true) w := by
  have ht : Tryd.prog.underlying 24 = some (.struct (Tryd.prog.fieldsOf 24)) := by kernel_rfl
  have hp : Tryd.prog.stoodInHeld 24 = false := by kernel_rfl
  rw [run_eql_struct, run_equalIn_agg w 9999 _ _ _ ht hp, rframe_fields]
  clear ht hp
  simp [Op.eqFields, go_sem, part]
theorem rframe_guard (x y : Operand) (nd sl mb lk sq : Int) (d : ByteArray) (w : World) : (eqGuard .eql 24 x y (.agg #[.int .i64 nd, .int .i64 sl, .int .i64 mb, .int .i64 lk, .int .i64 sq, .string d]) (.agg #[.int .i64 nd, .int .i64 sl, .int .i64 mb, .int .i64 lk, .int .i64 sq, .string d])).run Tryd.prog w = .ok () w := by kernel_rfl

/-- Both decoders answer alike. -/
theorem decodes_both (A : Option Addr) (n c : Nat) (l : List Nat) (hl : ∀ x ∈ l, x < 256) (hn : l.length = n) (hc : n ≤ c) (hc2 : c ≤ 9223372036854775807) : ∃ (nd sl mb lk sq : Int) (d : ByteArray) (e : Int),
    (∀ w, BytesAt w A n l → Calls Tryd.prog 4 #[.slice A n c] w fun r w' => r = .returned (.tuple #[frV nd sl mb lk sq d, .int .i64 e]) ∧ Below w.heap.size w w') ∧
    (∀ w, BytesAt w A n l → Calls Tryd.prog 5 #[.slice A n c] w fun r w' => r = .returned (.tuple #[frV nd sl mb lk sq d, errV e]) ∧ Below w.heap.size w w') := by
  by_cases h7 : n < 7
  · exact ⟨0, 0, 0, 0, 0, ⟨#[]⟩, 3, fun w _ => (opn_short A n c w (.int .i64 0) h7).mono fun r w' ⟨h1, h2⟩ => ⟨h1, h2⟩, fun w _ => (dec_short A n c w h7).mono fun r w' ⟨h1, h2⟩ => ⟨h1, h2⟩⟩
  · subst hn
    cases hok : decOk l
    · refine ⟨0, 0, 0, 0, 0, ⟨#[]⟩, 3, fun w hB => ?_, fun w hB => ?_⟩
      · obtain ⟨b, off, rfl, _⟩ := hB 0 (by omega)
        refine (opn_any l b off c w hl (by omega) hc hc2 hB).mono fun r w' ⟨h1, h2⟩ => ⟨?_, h2⟩
        rw [h1, opn_eq l hl, hok]; rfl
      · obtain ⟨b, off, rfl, _⟩ := hB 0 (by omega)
        refine (dec_any l b off c w hl (by omega) hc hc2 hB).mono fun r w' h => ?_
        rw [hok] at h
        exact ⟨h.1, h.2⟩
    · refine ⟨(decF l).nd, (decF l).sl, (decF l).mb, (decF l).lk, (decF l).sq, (decF l).d, 0, fun w hB => ?_, fun w hB => ?_⟩
      · obtain ⟨b, off, rfl, _⟩ := hB 0 (by omega)
        refine (opn_any l b off c w hl (by omega) hc hc2 hB).mono fun r w' ⟨h1, h2⟩ => ⟨?_, h2⟩
        rw [h1, opn_eq l hl, hok]; rfl
      · obtain ⟨b, off, rfl, _⟩ := hB 0 (by omega)
        refine (dec_any l b off c w hl (by omega) hc hc2 hB).mono fun r w' h => ?_
        rw [hok] at h
        exact ⟨h.1, h.2⟩

/-- What the law keeps in memory. -/
structure OdAt (w wr : World) (A : Option Addr) (n : Nat) (l : List Nat) : Prop where
  old : Below w.heap.size w wr
  b0 : BytesAt w A n l
  e0 : ErrT w
section
variable {w w1 w2 : World} {A : Option Addr} {n : Nat} {l : List Nat}
theorem OdAt.bytes (h : OdAt w w1 A n l) : BytesAt w1 A n l := by
  intro j hj
  obtain ⟨b, off, hA, hc⟩ := h.b0 j hj
  exact ⟨b, off, hA, (h.old.cell (p := ⟨b, off + j, none⟩) (World.block_lt_of_cell? _ _ hc)).trans hc⟩
theorem OdAt.e (h : OdAt w w1 A n l) : ErrT w1 := errT_below h.e0 h.old
theorem OdAt.below (h : OdAt w w1 A n l) (hB : Below w1.heap.size w1 w2) : OdAt w w2 A n l := ⟨h.old.trans (hB.mono h.old.size), h.b0, h.e0⟩
theorem OdAt.alloc (h : OdAt w w1 A n l) (o : Obj) : OdAt w (w1.alloc o) A n l := h.below ((Below.refl _ _).alloc (Nat.le_refl _) o)
theorem OdAt.drew (h : OdAt w w1 A n l) : OdAt w w1.drew A n l := ⟨below_drewN h.old 1, h.b0, h.e0⟩
end
set_option maxRecDepth 100000 in
set_option maxHeartbeats 8000000 in
theorem fdecodes_law (A : Option Addr) (n c : Nat) (l : List Nat) (hl : ∀ x ∈ l, x < 256) (hn : l.length = n) (hc : n ≤ c) (hc2 : c ≤ 9223372036854775807) (w : World) (hB : BytesAt w A n l) (hE : ErrT w) :
    Calls Tryd.prog 3 #[.slice A n c] w fun e w' => e = .returned (.bool true) ∧ Below w.heap.size w w' := by
  by_cases h200 : 200 < n
  · have q : decide ((200 : Int) < (n : Int)) = true := decide_eq_true (by omega)
    clear h200
    go_enter Tryd.func3, Tryd.ntmps3
    go_wp2_with fail
    go_ret
    exact ⟨rfl, Below.refl _ _⟩
  · have q : decide ((200 : Int) < (n : Int)) = false := decide_eq_false (by omega)
    obtain ⟨nd, sl, mb, lk, sq, d, e0, hO, hD⟩ := decodes_both A n c l hl hn hc hc2
    have HO := hide hO; have HD := hide hD
    have HS1 : Hid (∀ w0 : World, BytesAt w0 A n l → Calls Tryd.prog 8 #[.slice A n c] w0 fun e w' => e = .returned (.int .i64 (crcS l : Nat)) ∧ w0 = w') := hide (fun w0 h => by subst hn; exact sum_any A c l w0 h hl (by omega))
    have HS2 : Hid (∀ w0 : World, BytesAt w0 A n l → Calls Tryd.prog 9 #[.slice A n c] w0 fun e w' => e = .returned (.int .i64 (crcS l : Nat)) ∧ w0 = w') := hide (fun w0 h => by subst hn; exact rsum_any A c l w0 h hl (by omega))
    generalize crcS l = z at HS1 HS2
    have HP := hide (OdAt.mk (Below.refl _ _) hB hE)
    clear h200 hO hD hl hn hB hE
    go_enter Tryd.func3, Tryd.ntmps3
    go_wp2_with fail
    refine (HO.out _ HP.out.bytes).mono ?_
    rintro e w2 ⟨rfl, hB⟩
    have HP2 := hide (HP.out.below hB)
    have HP3 := hide (HP2.out.alloc (.cells (frC nd sl mb lk sq d) 24))
    have HN3 := hide (Blk.new w2 24 (frC nd sl mb lk sq d))
    clear hB HP
    go_wp2_with fail
    refine (HD.out _ HP3.out.bytes).mono ?_
    rintro e w4 ⟨rfl, hB⟩
    have HP4 := hide (HP3.out.below hB)
    have HN4 := hide (HN3.out.below hB HN3.out.lt)
    have HP5 := hide (HP4.out.alloc (.cells (frC nd sl mb lk sq d) 28))
    have HN5 := hide (HN4.out.alloc (.cells (frC nd sl mb lk sq d) 28))
    have HM5 := hide (Blk.new w4 28 (frC nd sl mb lk sq d))
    clear hB HP2 HP3 HP4 HN3 HN4
    obtain ⟨p0, p1, p2, p3, p4, p5⟩ := blk_cells6 HN5.out
    obtain ⟨r0, r1, r2, r3, r4, r5⟩ := blk_cells6 HM5.out
    have hsame := rframe_same nd sl mb lk sq d
    have hguard := rframe_guard
    go_upto_region 5 with fail
    generalize hW : (World.alloc _ _) = W5 at *
    have gw2 : w2.heap.size < W5.heap.size := HN5.out.lt
    have gw4 : w4.heap.size < W5.heap.size := HM5.out.lt
    clear hW
    go_region_held3 (fun w' => w'.cell? ⟨w2.heap.size, 0, none⟩ = some (.int .i64 nd) ∧ w'.cell? ⟨w2.heap.size, 1, none⟩ = some (.int .i64 sl) ∧ w'.cell? ⟨w2.heap.size, 2, none⟩ = some (.int .i64 mb) ∧ w'.cell? ⟨w2.heap.size, 3, none⟩ = some (.int .i64 lk) ∧ w'.cell? ⟨w2.heap.size, 4, none⟩ = some (.int .i64 sq) ∧ w'.cell? ⟨w2.heap.size, 5, none⟩ = some (.string d) ∧ w'.cell? ⟨w4.heap.size, 0, none⟩ = some (.int .i64 nd) ∧ w'.cell? ⟨w4.heap.size, 1, none⟩ = some (.int .i64 sl) ∧ w'.cell? ⟨w4.heap.size, 2, none⟩ = some (.int .i64 mb) ∧ w'.cell? ⟨w4.heap.size, 3, none⟩ = some (.int .i64 lk) ∧ w'.cell? ⟨w4.heap.size, 4, none⟩ = some (.int .i64 sq) ∧ w'.cell? ⟨w4.heap.size, 5, none⟩ = some (.string d))
      (first | (refine ⟨?_, ?_, ?_, ?_, ?_, ?_, ?_, ?_, ?_, ?_, ?_, ?_⟩ <;> assumption) | (simp [go_sem, *]; done))
      (first
        | (go_at_call 6; refine (bare_same2 _ _ (by exact HP5.out.e)).mono ?_; rintro r w6 ⟨rfl, hb6⟩; have HP6 := hide (OdAt.below (by exact HP5.out.drew) hb6); have HN6 := hide (Blk.below (by exact HN5.out) hb6 gw2); have HM6 := hide (Blk.below (by exact HM5.out) hb6 gw4); clear hb6; obtain ⟨p0, p1, p2, p3, p4, p5⟩ := blk_cells6 HN6.out; obtain ⟨r0, r1, r2, r3, r4, r5⟩ := blk_cells6 HM6.out)
        | (go_at_call 7; refine (framed_any _ _ _ _ _ _ _).mono ?_; rintro r w7 ⟨rfl, hb7⟩; have HP7 := hide (OdAt.below (by exact HP6.out) hb7); have HN7 := hide (Blk.below (by exact HN6.out) hb7 HN6.out.lt); have HM7 := hide (Blk.below (by exact HM6.out) hb7 HM6.out.lt); clear hb7; obtain ⟨p0, p1, p2, p3, p4, p5⟩ := blk_cells6 HN7.out; obtain ⟨r0, r1, r2, r3, r4, r5⟩ := blk_cells6 HM7.out)
        | (go_at_call 8; refine (HS1.out _ (by exact HP7.out.bytes)).mono ?_; rintro r w8 ⟨rfl, rfl⟩)
        | (go_at_call 9; refine (HS2.out _ (by exact HP7.out.bytes)).mono ?_; rintro r w9 ⟨rfl, rfl⟩))
    all_goals (go_wp2_with fail; go_ret; exact ⟨rfl, HP7.out.old⟩)

section
open Go.ChangeShapes Go.WideShapes Go.ChangeAt Go.RowKit Go.Joins
variable {H : Type} {enc : TypeId × Value → H}
theorem cellsU8 : Tryd.prog.cellsOf 5 = 1 := by kernel_rfl
set_option maxRecDepth 100000 in
theorem open_bytes {W : World} {r : Reach} {B b0 : Nat} {v : Value} {d : DataW H} {p : List MemPlace} (hv : Value.okWide Tryd.prog W r b0 22 v)
    (h : DataW.Trod enc Tryd.prog W B (fun _ => true) true 22 v d p) :
    ∃ (A : Option Addr) (len cap : Nat) (l : List Nat), v = .slice A len cap ∧ len ≤ cap ∧ cap ≤ maxLen ∧ (∀ x ∈ l, x < 256) ∧ l.length = len ∧ BytesAt W A len l := by
  obtain ⟨a0, len, cap, rfl⟩ := okWide_slice Tryd.underlying22 hv
  obtain ⟨fuel, hf⟩ := h
  rcases open_ints Tryd.underlying22 Tryd.underlying5 cellsU8 hf with ⟨hcs, hx⟩ | ⟨a, len', cap', zs, hcs, _, hl, hm, hz, hx, hcell, hwz⟩
  · simp [Value.cells] at hcs
    obtain ⟨rfl, rfl, rfl⟩ := hcs
    exact ⟨none, 0, 0, [], rfl, by omega, by simp [maxLen], by simp, rfl, fun j hj => by omega⟩
  · simp [Value.cells] at hcs
    obtain ⟨rfl, rfl, rfl⟩ := hcs
    simp only [if_true] at hz
    have hb : ∀ j, j < len → 0 ≤ zs.getD j 0 ∧ zs.getD j 0 ≤ 255 := by
      intro j hj
      have e : zs.getD j 0 = zs[j] := by simp [List.getD, List.getElem?_eq_getElem (by omega : j < zs.length)]
      rw [e]
      exact bounds_u8 (hwz zs[j] (List.getElem_mem (by omega)))
    refine ⟨_, _, _, (List.range len).map (fun j => (zs.getD j 0).toNat), rfl, by omega, hm, ?_, by simp, fun j hj => ?_⟩
    · intro x hx
      obtain ⟨j, hj, rfl⟩ := List.mem_map.1 hx
      have := hb j (List.mem_range.1 hj)
      omega
    · obtain ⟨b, off, rfl, hc⟩ := ints_at hcell (by omega)
      refine ⟨b, off, rfl, ?_⟩
      rw [hc j (by omega)]
      have e : ((List.range len).map (fun j => (zs.getD j 0).toNat)).getD j 0 = (zs.getD j 0).toNat := by simp [List.getD, List.getElem?_map, List.getElem?_range hj]
      rw [e]
      have := hb j hj
      congr 2; omega
end
end Go.Proofs.YtdbegdhbabfnoaaDoor
