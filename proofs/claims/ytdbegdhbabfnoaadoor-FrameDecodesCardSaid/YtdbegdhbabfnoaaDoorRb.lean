/- The contract of the method Bytes of metronomeref.Frame; no condition. -/
import Derived.Test.YtdbegdhbabfnoaaDoorFk
import Derived.Test.YtdbegdhbabfnoaaDoorIn
import Derived.Test.YtdbegdhbabfnoaaDoorRm
import Derived.Deep.RegionLaw
set_option linter.unusedVariables false
set_option linter.unusedSimpArgs false
namespace Go.Proofs.YtdbegdhbabfnoaaDoor
open Go.RowKit

/-- What Bytes answers: nothing and ErrArg, or the bytes. -/
def RbPost (w : World) (bs : List Nat) (e : Ending) (w' : World) : Prop := ∃ v, e = .returned (.tuple #[v, .int .i64 0]) ∧ w'.ownsRow w.heap.size 5 1 v bs.length (bv bs) ∧ Below w.heap.size w w'

theorem blk_cells6 {w : World} {g : Nat} {t : TypeId} {a b c d e f : Value} (h : Blk w g t #[a, b, c, d, e, f]) :
    w.cell? ⟨g, 0, none⟩ = some a ∧ w.cell? ⟨g, 1, none⟩ = some b ∧ w.cell? ⟨g, 2, none⟩ = some c ∧ w.cell? ⟨g, 3, none⟩ = some d ∧ w.cell? ⟨g, 4, none⟩ = some e ∧ w.cell? ⟨g, 5, none⟩ = some f :=
  ⟨by simpa using h.cell 0, by simpa using h.cell 1, by simpa using h.cell 2, by simpa using h.cell 3, by simpa using h.cell 4, by simpa using h.cell 5⟩

set_option maxRecDepth 100000 in
set_option maxHeartbeats 2000000 in
theorem rb_bad (nd sl mb lk sq : Int) (d : ByteArray) (w : World) (hd : d.size ≤ 9223372036854775807) (h : fOk nd sl mb lk sq d.size = false) :
    Calls Tryd.prog 10 #[frV nd sl mb lk sq d] w fun e w' => e = .returned (.tuple #[.slice none 0 0, .int .i64 1]) ∧ Below w.heap.size w w' := by
  have hb0' := Blk.new w 24 (frC nd sl mb lk sq d)
  obtain ⟨i0, i1, i2, i3, i4, i5⟩ := blk_cells6 hb0'
  have hB0 := hide ((Below.refl w.heap.size w).alloc (Nat.le_refl _) (.cells (frC nd sl mb lk sq d) 24))
  have hlt := hb0'.lt
  clear hb0'
  by_cases h0 : d.size = 0
  · obtain rfl := size_empty h0
    rw [h0] at h
    clear h0 hd
    have H := hide h; clear h
    go_enter Tryd.func10, Tryd.ntmps10
    go_wp2_with (go_at_call 14; refine (in_any _ _ _ _).mono ?_; rintro e w' ⟨rfl, rfl⟩)
    all_goals first
      | (go_ret2; exact ⟨rfl, (Below.refl _ _).alloc (Nat.le_refl _) _⟩)
      | (exfalso; have h := of_decide_eq_false (show decide _ = false from H.out); simp [inB] at *; omega)
  · have hl : d.toList.isEmpty = false := by
      have := list_size d
      cases h : d.toList with
      | nil => rw [h] at this; simp at this; omega
      | cons a b => rfl
    have hl2 : (d.toList == []) = false := by
      cases h : d.toList with
      | nil => rw [h] at hl; simp at hl
      | cons a b => rfl
    have H := hide h; clear h
    go_enter Tryd.func10, Tryd.ntmps10
    go_wp2_with (go_at_call 14; refine (in_any _ _ _ _).mono ?_; rintro e w' ⟨rfl, rfl⟩)
    all_goals first
      | (go_ret2; exact ⟨rfl, (Below.refl _ _).alloc (Nat.le_refl _) _⟩)
      | (exfalso; have h := of_decide_eq_false (show decide _ = false from H.out); simp [inB] at *; omega)
end Go.Proofs.YtdbegdhbabfnoaaDoor
