/- What plan.Decode answers at what plan.Encode wrote, and at a beginning of it; plain facts on DePost. -/
import Derived.Test.YtgdljdhibknjnaaDf
namespace Go.Proofs.Ytgdljdhibknjnaa
open Go.RowKit

theorem de_back {w w' : World} {p : Pl} {r : Ending} (h0 : (chk p).1 = 0) (h : DePost w (vnums (plN p)) r w') : Below w.heap.size w w' ∧ ∃ A c AL cl AQ cq, r = .returned (.tuple #[.agg (planC p.nd p.fa p.sk p.ji p.dr p.rd (.slice A p.sl.length c) (.slice AL p.lk.length cl) p.fr (.slice AQ p.wn.length cq)), .nilIface]) ∧ SlotsAt w' A p.sl.length p.sl ∧ LinksAt w' AL p.lk.length p.lk ∧ WinsAt w' AQ p.wn.length p.wn := by
  obtain ⟨hB, h⟩ := h
  refine ⟨hB, ?_⟩
  rcases h with ⟨h, _⟩ | ⟨raw, hd, _, hc, _⟩ | ⟨raw, hd, _, _, h⟩
  · rcases h with h | h
    · rw [decB_plN h0] at h; cases h
    · have := plN_short h0; omega
  · rw [decB_plN h0] at hd
    cases hd
    rw [plO_plR h0] at hc
    exact absurd h0 hc
  · rw [decB_plN h0] at hd
    cases hd
    rw [plO_plR h0] at h
    exact h
theorem de_short {w w' : World} {p : Pl} {r : Ending} {k : Nat} (h0 : (chk p).1 = 0) (hk : k < (vnums (plN p)).length) (h : DePost w ((vnums (plN p)).take k) r w') : Below w.heap.size w w' ∧ r = .returned (.tuple #[.agg planZ, .iface 110 (.int .i64 3)]) := by
  have hn : decB ((vnums (plN p)).take k) = none := by
    refine decB_prefix (x := (vnums (plN p)).drop k) (fun e => ?_) ?_
    · have := congrArg List.length e
      rw [List.length_drop] at this
      simp at this
      omega
    · rw [List.take_append_drop, decB_plN h0]; simp
  obtain ⟨hB, h⟩ := h
  refine ⟨hB, ?_⟩
  rcases h with ⟨_, h⟩ | ⟨raw, hd, _⟩ | ⟨raw, hd, _⟩
  · exact h
  · rw [hn] at hd; cases hd
  · rw [hn] at hd; cases hd
end Go.Proofs.Ytgdljdhibknjnaa
