/- What frame.Decode answers; small facts for its walk; no condition. -/
import Derived.Test.YtdbegdhbabfnoaaFd
import Derived.BigRegion
import Derived.Laws.BytesArg
namespace Go.Proofs.Ytdbegdhbabfnoaa
open Go.RowKit

def DecPost (w : World) (ok : Bool) (v : Value) (e : Ending) (w' : World) : Prop :=
  if ok then e = .returned (.tuple #[v, .nilIface]) ∧ Below w.heap.size w w' else DecBad w e w'

theorem e11 {m x6 : Nat} (h : m = 7 + x6) (hx : x6 < 256) : ((m : Int) != wrap64 (7 + wrap64 (x6 : Int))) = false := by
  rw [IntWalk.wrap64_in (x6 : Int) ⟨by omega, by omega⟩, IntWalk.wrap64_in (7 + (x6 : Int)) ⟨by omega, by omega⟩]
  simp; omega
theorem e12 {m x6 : Nat} (h : ¬ m = 7 + x6) (hx : x6 < 256) : ((m : Int) != wrap64 (7 + wrap64 (x6 : Int))) = true := by
  rw [IntWalk.wrap64_in (x6 : Int) ⟨by omega, by omega⟩, IntWalk.wrap64_in (7 + (x6 : Int)) ⟨by omega, by omega⟩]
  simp; omega
theorem DecPost.good {w w' : World} {v : Value} {e : Ending} (h : e = .returned (.tuple #[v, .nilIface])) (hB : Below w.heap.size w w') : DecPost w true v e w' := by
  unfold DecPost; rw [if_pos rfl]; exact ⟨h, hB⟩
theorem DecPost.bad {w w' : World} {v : Value} (hB : Below w.heap.size w w') : DecPost w false v (.returned (.tuple #[frZ, .iface 35 (.int .i64 3)])) w' := by
  unfold DecPost; rw [if_neg (by decide)]; exact ⟨rfl, hB⟩


/-- What the function hands back: the frame's cells, and the error. -/
theorem dec_results (tmps : Array Value) (w : World) (g : Nat) (a b c d e f v : Value) (h2 : tmps[2]? = some (.pointer (some ⟨g, 0, none⟩))) (h3 : tmps[3]? = some v) (hb : Blk w g 23 #[a, b, c, d, e, f]) :
    (results Try.f7 tmps).run Try.prog w = .ok (.tuple #[.agg #[a, b, c, d, e, f], v]) w := by
  obtain ⟨k0, k1, k2, k3, k4, k5, _⟩ := hb.cells6
  simp [results, Try.results7, go_sem, h2, h3, k0, k1, k2, k3, k4, k5]
end Go.Proofs.Ytdbegdhbabfnoaa
