/- The walk of metronomelaw.FrameEncodes; conditions: errors.errorType holds what start-up lays there; the text is no longer than memory. -/
import Derived.Test.YtdbegdhbabfnoaaDoorRs2
import Derived.Test.YtdbegdhbabfnoaaDoorEp
set_option linter.unusedVariables false
set_option linter.unusedSimpArgs false
namespace Go.Proofs.YtdbegdhbabfnoaaDoor
open Go.RowKit

theorem bare_same2 (e : Int) (w : World) (hg : ErrT w) : Calls Tryd.prog 6 #[errV e, .int .i64 e] w fun r w' => r = .returned (.bool true) ∧ Below w.heap.size w w' :=
  (bare_errV e e w hg).mono fun r w' ⟨h1, h2⟩ => ⟨by rw [h1]; simp, h2⟩

theorem RbPost.open {w w' : World} {l : List Nat} {e : Ending} (h : RbPost w l e w') (h0 : 0 < l.length) : ∃ g cap, e = .returned (.tuple #[.slice (some ⟨g, 0, none⟩) l.length cap, .int .i64 0]) ∧ BytesAt w' (some ⟨g, 0, none⟩) l.length l ∧ g < w'.heap.size ∧ Below w.heap.size w w' := by
  obtain ⟨v, he, ho, hB⟩ := h
  obtain ⟨g, cap, hv, _, hl, _⟩ := own_form ho h0
  subst hv
  exact ⟨g, cap, he, bytesAt_of_own ho, hl, hB⟩
theorem bytesAt_below {w W : World} {A : Option Addr} {n B : Nat} {bs : List Nat} (h : BytesAt w A n bs) (hB : Below B w W) (hA : ∀ a, A = some a → a.block < B) : BytesAt W A n bs := by
  intro j hj
  obtain ⟨b, off, hAe, hc⟩ := h j hj
  exact ⟨b, off, hAe, by rw [← hc]; exact hB.cell (p := ⟨b, off + j, none⟩) (show b < B from hA ⟨b, off, none⟩ hAe)⟩
theorem str_of_bytes {w : World} {g n c : Nat} {bs : List Nat} (h : BytesAt w (some ⟨g, 0, none⟩) n bs) (hn : bs.length = n) : (convert 22 9 (.slice (some ⟨g, 0, none⟩) n c)).run Tryd.prog w = .ok (.string (strN bs)) w := by
  unfold strN
  refine run_convert_bytes_arg (P := Tryd.prog) w 22 5 Tryd.underlying22 Tryd.underlying5 g 0 n c _ (by rw [List.length_map, hn]) (fun i hi => ?_) 9 Tryd.underlying9
  obtain ⟨b, off, e, hc⟩ := h i hi
  cases e
  rw [hc]
  congr 2
  simp only [List.getD, List.getElem?_map]
  cases bs[i]? <;> rfl

set_option maxRecDepth 100000 in
set_option maxHeartbeats 1000000 in
theorem framed_any (nd sl mb lk sq : Int) (d : ByteArray) (w : World) :
    Calls Tryd.prog 7 #[frV nd sl mb lk sq d] w fun e w' => e = .returned (frV nd sl mb lk sq d) ∧ Below w.heap.size w w' := by
  have n2 := Blk.new (w.alloc (.cells (frC nd sl mb lk sq d) 28)) 24 (frC nd sl mb lk sq d)
  simp only [World.size_alloc] at n2
  obtain ⟨k0, k1, k2, k3, k4, k5⟩ := blk_cells6 n2
  clear n2
  go_enter Tryd.func7, Tryd.ntmps7
  go_wp2
  exact bodyPost_ret (v := .agg #[.int .i64 nd, .int .i64 sl, .int .i64 mb, .int .i64 lk, .int .i64 sq, .string d]) (by simp [results, Tryd.results7, go_sem, k0, k1, k2, k3, k4, k5]) rfl ⟨rfl, ((Below.refl _ _).alloc (Nat.le_refl _) _).alloc (by simp) _⟩

end Go.Proofs.YtdbegdhbabfnoaaDoor

