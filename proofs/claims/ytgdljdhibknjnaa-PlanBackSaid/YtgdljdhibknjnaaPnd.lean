/- The contract of metronomekeep.planned, given plan.Decode's (DecodeOk); no condition. -/
import Derived.Test.YtgdljdhibknjnaaPbl
import Derived.Test.YtgdljdhibknjnaaEo
import Derived.Test.YtgdljdhibknjnaaSa
namespace Go.Proofs.Ytgdljdhibknjnaa
open Go.RowKit

/-- plan.Decode's contract. -/
def DecodeOk : Prop := ∀ (A : Option Addr) (n c : Nat) (l : List Nat) (w : World), BsAt w A l → (∀ b off, A = some ⟨b, off, none⟩ → b < w.heap.size) → l.length = n → n ≤ c → c ≤ 9223372036854775807 → (∀ x ∈ l, x < 256) →
  Calls Try.prog 48 #[.slice A n c] w (DePost w l)
theorem bs_of_q {w : World} {base n c : Nat} {ao : Option Addr} {l : List Nat} (h : QAt w base 5 (.slice ao n c) (bvN l)) (hl : l.length = n) (hn : 0 < n) : BsAt w ao l ∧ (∀ b off, ao = some ⟨b, off, none⟩ → b < w.heap.size) := by
  obtain ⟨g, off, rfl, _, hg, hc⟩ := h.block hn
  refine ⟨fun j hj => ⟨g, off, rfl, ?_⟩, fun b o e => by cases e; exact hg⟩
  rw [hc j (by omega)]
  simp [bvN, hj]
theorem q_cap {w : World} {base n c : Nat} {ao : Option Addr} {l : List Value} (h : QAt w base 5 (.slice ao n c) l) : n ≤ c ∧ c ≤ 9223372036854775807 := by
  rcases h with ⟨rfl, ao', e⟩ | ⟨g, off, cap, cur, e, _, _, _, hl, hm, _⟩
  · cases e; omega
  · cases e; unfold maxLen at hm; exact ⟨hl, hm⟩
theorem pn_pos {L : List Nat} (h : 0 < L.length) : 0 < (vnums L).length := by
  cases L with
  | nil => simp at h
  | cons a l =>
    rw [vnums_cons, List.length_append]
    cases e : vnum a with
    | nil => exact absurd e (vnum_ne a)
    | cons b m => simp; omega
def p0 : Pl := ⟨2, 0, 2, 0, 0, 100, [⟨1, 3, 9⟩], [], 7, []⟩
theorem p0_ok : (chk p0).1 = 0 := by decide
set_option maxRecDepth 100000 in
set_option maxHeartbeats 8000000 in
theorem planned_any (hD : DecodeOk) (w : World) : Calls Try.prog 46 #[] w fun e w' => e = .returned (.bool true) ∧ Below w.heap.size w w' := by
  have HPO : Hid (0 < (vnums (plN p0)).length) := hide (pn_pos (by decide))
  have HSH : Hid ((vnums (plN p0)).length ≤ 2000) := hide (plN_short p0_ok)
  have HB0 := hide (((Below.refl w.heap.size w).alloc (Nat.le_refl _) (.cells #[.int .i64 1, .int .i64 3, .int .i64 9] 127)).alloc (by simp) (.cells (planC 2 0 2 0 0 100 (.slice (some ⟨w.heap.size, 0, none⟩) 1 1) (.slice none 0 0) 7 (.slice none 0 0)) 86))
  have hb1 : Blk ((w.alloc (.cells #[.int .i64 1, .int .i64 3, .int .i64 9] 127)).alloc (.cells (planC 2 0 2 0 0 100 (.slice (some ⟨w.heap.size, 0, none⟩) 1 1) (.slice none 0 0) 7 (.slice none 0 0)) 86)) w.heap.size 127 #[.int .i64 1, .int .i64 3, .int .i64 9] := (Blk.new w _ _).alloc _
  have hb2 : Blk ((w.alloc (.cells #[.int .i64 1, .int .i64 3, .int .i64 9] 127)).alloc (.cells (planC 2 0 2 0 0 100 (.slice (some ⟨w.heap.size, 0, none⟩) 1 1) (.slice none 0 0) 7 (.slice none 0 0)) 86)) (w.heap.size + 1) 86 (planC 2 0 2 0 0 100 (.slice (some ⟨w.heap.size, 0, none⟩) 1 1) (.slice none 0 0) 7 (.slice none 0 0)) := by simpa using Blk.new (w.alloc (.cells #[.int .i64 1, .int .i64 3, .int .i64 9] 127)) 86 _
  have HS : Hid (∀ w', Blk w' w.heap.size 127 #[.int .i64 1, .int .i64 3, .int .i64 9] → SlotsAt w' (some ⟨w.heap.size, 0, none⟩) 1 p0.sl) := hide (fun w' h j hj => by
    obtain rfl : j = 0 := by omega
    obtain ⟨c0, c1, c2⟩ := blk_cells3 h
    exact ⟨_, _, rfl, ⟨1, 3, 9⟩, rfl, c0, c1, c2⟩)
  have HEN : Hid (∀ w', Blk w' w.heap.size 127 #[.int .i64 1, .int .i64 3, .int .i64 9] → Calls Try.prog 47 #[.agg (planC 2 0 2 0 0 100 (.slice (some ⟨w.heap.size, 0, none⟩) 1 1) (.slice none 0 0) 7 (.slice none 0 0))] w' fun r w'' => ∃ v, r = .returned (.tuple #[v, .nilIface]) ∧ QAt w'' (w'.heap.size + 1) 5 v (bvN (vnums (plN p0))) ∧ (∀ k, v.ownBlock = some k → w'.heap.size < k ∧ k < w''.heap.size) ∧ Below w'.heap.size w' w'') := hide (fun w' h =>
    (encode_any p0 (some ⟨w.heap.size, 0, none⟩) 1 1 none 0 0 none 0 0 w' rfl rfl rfl (HS.out w' h) (fun j hj => by omega) (fun j hj => by omega)).mono fun r w'' h => by unfold EoPost at h; rw [if_pos p0_ok] at h; exact h)
  have HB1 := hide hb1; have HB2 := hide hb2
  obtain ⟨i0, i1, i2, i3, i4, i5, i6, i7, i8, i9⟩ := HB2.out.cells10
  have HD := hide hD
  clear hb1 hb2 hD
  go_enter Try.func46, Try.ntmps46
  go_wp2_with fail
  refine (HEN.out _ HB1.out).mono ?_
  rintro r w3 ⟨v, rfl, hq, -, hB⟩
  obtain ⟨ao, cc, rfl, -⟩ := hq.shape
  rw [bvN_len] at hq ⊢
  obtain ⟨hbs, hba⟩ := bs_of_q hq rfl HPO.out
  obtain ⟨hc1, hc2⟩ := q_cap hq
  have HDE := hide (HD.out ao (vnums (plN p0)).length cc (vnums (plN p0)) w3 hbs hba rfl hc1 hc2 (vnums_lt _))
  have HB3 := hide (HB0.out.trans (hB.mono HB0.out.size))
  have HS3 := hide (HB1.out.below hB HB1.out.lt); have HP3 := hide (HB2.out.below hB HB2.out.lt)
  clear hB hq hbs hba hc1 hc2 i0 i1 i2 i3 i4 i5 i6 i7 i8 i9
  go_wp2_with fail
  refine HDE.out.mono ?_
  intro r w5 hpost
  obtain ⟨hB, A, c, AL, cl, AQ, cq, rfl, hs, hl, hq⟩ := de_back p0_ok hpost
  have hp0 : planC p0.nd p0.fa p0.sk p0.ji p0.dr p0.rd (.slice A p0.sl.length c) (.slice AL p0.lk.length cl) p0.fr (.slice AQ p0.wn.length cq) = planC 2 0 2 0 0 100 (.slice A 1 c) (.slice AL 0 cl) 7 (.slice AQ 0 cq) := rfl
  rw [hp0]
  have HB6 := hide ((Below.refl w5.heap.size w5).alloc (Nat.le_refl _) (.cells (planC 2 0 2 0 0 100 (.slice A 1 c) (.slice AL 0 cl) 7 (.slice AQ 0 cq)) 86))
  have HB5 := hide ((HB3.out.trans (hB.mono HB3.out.size)).alloc (HB3.out.trans (hB.mono HB3.out.size)).size (.cells (planC 2 0 2 0 0 100 (.slice A 1 c) (.slice AL 0 cl) 7 (.slice AQ 0 cq)) 86))
  have HS5 := hide ((HS3.out.below hB HS3.out.lt).alloc (.cells (planC 2 0 2 0 0 100 (.slice A 1 c) (.slice AL 0 cl) 7 (.slice AQ 0 cq)) 86)); have HP5 := hide ((HP3.out.below hB HP3.out.lt).alloc (.cells (planC 2 0 2 0 0 100 (.slice A 1 c) (.slice AL 0 cl) 7 (.slice AQ 0 cq)) 86))
  have HQ := hide (hs.below HB6.out)
  obtain ⟨i0, i1, i2, i3, i4, i5, i6, i7, i8, i9⟩ := HP5.out.cells10
  clear hB hs hl hq hpost HDE HS3 HP3 HB1 HB2 hp0
  go_wp2_with fail
  refine (same_any p0 (some ⟨w.heap.size, 0, none⟩) 1 1 none 0 0 none 0 0 A c AL cl AQ cq _ (by decide) (by decide) (by decide) (by exact HS.out _ HS5.out) (fun j hj => by omega) (fun j hj => by omega) (by exact HQ.out) (fun j hj => by omega) (fun j hj => by omega)).mono ?_
  rintro r w7 ⟨rfl, hB⟩
  have HB7 := hide (HB5.out.trans (hB.mono HB5.out.size))
  clear hB i0 i1 i2 i3 i4 i5 i6 i7 i8 i9
  go_wp2_with fail
  go_ret
  exact ⟨rfl, HB7.out⟩
end Go.Proofs.Ytgdljdhibknjnaa
