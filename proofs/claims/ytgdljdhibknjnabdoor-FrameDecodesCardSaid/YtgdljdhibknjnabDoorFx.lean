/- The walk of metronomelaw.FrameEncodes; conditions: errors.errorType holds what start-up lays there; the text is no longer than memory. -/
import Derived.Test.YtgdljdhibknjnabDoorRs2
import Derived.Test.YtgdljdhibknjnabDoorEp
namespace Go.Proofs.YtgdljdhibknjnabDoor
open Go.RowKit

theorem bare_same2 (e : Int) (w : World) (hg : ErrT w) : Calls Tryd.prog 17 #[errV e, .int .i64 e] w fun r w' => r = .returned (.bool true) ∧ Below w.heap.size w w' :=
  (bare_errV e e w hg).mono fun r w' ⟨h1, h2⟩ => ⟨by rw [h1]; simp, h2⟩

theorem both_good (nd sl mb lk sq : Int) (d : ByteArray) (h : fOk nd sl mb lk sq d.size = true) : ∃ l : List Nat, (∀ w, Calls Tryd.prog 24 #[frV nd sl mb lk sq d] w (EncPost w l)) ∧ (∀ w, Calls Tryd.prog 23 #[frV nd sl mb lk sq d] w (RbPost w l)) ∧ (∀ x ∈ l, x < 256) ∧ 7 ≤ l.length ∧ l.length ≤ 49 := by
  unfold fOk at h
  have h := of_decide_eq_true h
  obtain ⟨⟨a1, a2, a3, a4, a5, a6⟩, hc⟩ := h
  obtain ⟨nd, rfl⟩ := Int.eq_ofNat_of_zero_le a1
  obtain ⟨sl, rfl⟩ := Int.eq_ofNat_of_zero_le a3
  obtain ⟨mb, rfl⟩ := Int.eq_ofNat_of_zero_le a5
  rcases hc with ⟨rfl, rfl, hz⟩ | ⟨b1, b2, b3, b4, b5⟩
  · obtain rfl := size_empty hz
    have hlt := frN_lt nd sl mb (by omega) (by omega) (by omega)
    exact ⟨_, fun w => enc_none nd sl mb w (by omega) (by omega) (by omega), fun w => rb_none nd sl mb w (by omega) (by omega) (by omega), withSum_lt _ hlt, by simp [withSum_len, frN], by simp [withSum_len, frN]⟩
  · obtain ⟨lk, rfl⟩ := Int.eq_ofNat_of_zero_le b1
    obtain ⟨sq, rfl⟩ := Int.eq_ofNat_of_zero_le b3
    have hlt := frB_lt nd sl mb lk sq d (by omega) (by omega) (by omega) (by omega) (by omega) b5
    exact ⟨_, fun w => enc_some nd sl mb lk sq d w (by omega) (by omega) (by omega) (by omega) (by omega) b5, fun w => rb_some nd sl mb lk sq d w (by omega) (by omega) (by omega) (by omega) (by omega) b5, withSum_lt _ hlt, by simp only [withSum_len, frB, List.length_append, List.length_cons, List.length_nil]; omega, by simp only [withSum_len, frB, List.length_append, List.length_cons, List.length_nil, dl_len]; omega⟩

theorem RbPost.open {w w' : World} {l : List Nat} {e : Ending} (h : RbPost w l e w') (h0 : 0 < l.length) : ∃ g cap, e = .returned (.tuple #[.slice (some ⟨g, 0, none⟩) l.length cap, .int .i64 0]) ∧ BytesAt w' (some ⟨g, 0, none⟩) l.length l ∧ g < w'.heap.size ∧ Below w.heap.size w w' := by
  obtain ⟨v, he, ho, hB⟩ := h
  obtain ⟨g, cap, hv, _, hl, _⟩ := own_form ho h0
  subst hv
  exact ⟨g, cap, he, bytesAt_of_own ho, hl, hB⟩
theorem bytesAt_below {w W : World} {A : Option Addr} {n B : Nat} {bs : List Nat} (h : BytesAt w A n bs) (hB : Below B w W) (hA : ∀ a, A = some a → a.block < B) : BytesAt W A n bs := by
  intro j hj
  obtain ⟨b, off, hAe, hc⟩ := h j hj
  exact ⟨b, off, hAe, by rw [← hc]; exact hB.cell (p := ⟨b, off + j, none⟩) (show b < B from hA ⟨b, off, none⟩ hAe)⟩
theorem str_of_bytes {w : World} {g n c : Nat} {bs : List Nat} (h : BytesAt w (some ⟨g, 0, none⟩) n bs) (hn : bs.length = n) : (convert 38 9 (.slice (some ⟨g, 0, none⟩) n c)).run Tryd.prog w = .ok (.string (strN bs)) w := by
  unfold strN
  refine run_convert_bytes_arg (P := Tryd.prog) w 38 5 Tryd.underlying38 Tryd.underlying5 g 0 n c _ (by rw [List.length_map, hn]) (fun i hi => ?_) 9 Tryd.underlying9
  obtain ⟨b, off, e, hc⟩ := h i hi
  cases e
  rw [hc]
  congr 2
  simp only [List.getD, List.getElem?_map]
  cases bs[i]? <;> rfl

set_option maxRecDepth 100000 in
set_option maxHeartbeats 1000000 in
theorem framed_any (nd sl mb lk sq : Int) (d : ByteArray) (w : World) :
    Calls Tryd.prog 22 #[frV nd sl mb lk sq d] w fun e w' => e = .returned (frV nd sl mb lk sq d) ∧ Below w.heap.size w w' := by
  have n2 := Blk.new (w.alloc (.cells (frC nd sl mb lk sq d) 37)) 40 (frC nd sl mb lk sq d)
  simp only [World.size_alloc] at n2
  obtain ⟨k0, k1, k2, k3, k4, k5⟩ := blk_cells6 n2
  clear n2
  go_enter Tryd.func22, Tryd.ntmps22
  go_wp2
  exact bodyPost_ret (v := .agg #[.int .i64 nd, .int .i64 sl, .int .i64 mb, .int .i64 lk, .int .i64 sq, .string d]) (by simp [results, Tryd.results22, go_sem, k0, k1, k2, k3, k4, k5]) rfl ⟨rfl, ((Below.refl _ _).alloc (Nat.le_refl _) _).alloc (by simp) _⟩

set_option maxRecDepth 100000 in
set_option maxHeartbeats 4000000 in
theorem encodes_any (nd sl mb lk sq : Int) (d : ByteArray) (w : World) (hd : d.size ≤ 9223372036854775807) (hE : ErrT w) :
    Calls Tryd.prog 5 #[frV nd sl mb lk sq d] w fun e w' => e = .returned (.bool true) ∧ Below w.heap.size w w' := by
  have hB0 := hide ((Below.refl w.heap.size w).alloc (Nat.le_refl _) (.cells (frC nd sl mb lk sq d) 37))
  have hb0' := Blk.new w 37 (frC nd sl mb lk sq d)
  have hb0 := hide hb0'
  obtain ⟨i0, i1, i2, i3, i4, i5⟩ := blk_cells6 hb0'
  clear hb0'
  have HE := hide (errT_alloc hE (.cells (frC nd sl mb lk sq d) 37)); clear hE
  by_cases h200 : 200 < d.size
  · have q : decide ((200 : Int) < (d.size : Int)) = true := decide_eq_true (by omega)
    go_enter Tryd.func5, Tryd.ntmps5
    go_wp2
    go_ret
    exact ⟨rfl, hB0.out⟩
  · have q : decide ((200 : Int) < (d.size : Int)) = false := decide_eq_false (by omega)
    cases hk : fOk nd sl mb lk sq d.size
    · have HK := hide hk; clear hk h200
      go_enter Tryd.func5, Tryd.ntmps5
      go_wp2_with fail
      refine (framed_any nd sl mb lk sq d _).mono ?_
      rintro e w2 ⟨rfl, hB⟩
      have hb2' := hb0.out.below hB hb0.out.lt
      have hb2 := hide hb2'
      have hB2 := hide (hB0.out.trans (hB.mono hB0.out.size))
      have HE2 := hide (errT_below HE.out hB)
      clear hB i0 i1 i2 i3 i4 i5 hb2'
      go_wp2_with fail
      refine (rb_bad nd sl mb lk sq d _ hd HK.out).mono ?_
      rintro e w3 ⟨rfl, hB⟩
      have hb3' := hb2.out.below hB hb2.out.lt
      obtain ⟨i0, i1, i2, i3, i4, i5⟩ := blk_cells6 hb3'
      have hB3 := hide (hB2.out.trans (hB.mono hB2.out.size))
      have HE3 := hide (errT_below HE2.out hB)
      clear hB hb3'
      go_wp2_with fail
      refine (enc_bad nd sl mb lk sq d _ hd HK.out).mono ?_
      rintro e w4 ⟨rfl, hB⟩
      have hB4 := hide (hB3.out.trans (hB.mono hB3.out.size))
      have HE4 := hide (errT_below HE3.out hB)
      clear hB
      go_wp2_with fail
      refine (bare_same2 1 _ HE4.out).mono ?_
      rintro e w5 ⟨rfl, hB⟩
      have hB5 := hide (hB4.out.trans (hB.mono hB4.out.size))
      clear hB
      have hs := run_convert_bytes_nil (P := Tryd.prog) w5 38 5 Tryd.underlying38 Tryd.underlying5 0 0 9 Tryd.underlying9
      go_wp2_with fail
      go_ret
      exact ⟨rfl, hB5.out⟩
    · obtain ⟨l, hEn, hRb, hl, h7, h49⟩ := both_good nd sl mb lk sq d hk
      have HEn := hide hEn; have HRb := hide hRb; have HL := hide hl; have H7 := hide h7
      clear hEn hRb hl h7 h49 hk h200
      go_enter Tryd.func5, Tryd.ntmps5
      go_wp2_with fail
      refine (framed_any nd sl mb lk sq d _).mono ?_
      rintro e w2 ⟨rfl, hB⟩
      have hb2' := hb0.out.below hB hb0.out.lt
      have hb2 := hide hb2'
      have hB2 := hide (hB0.out.trans (hB.mono hB0.out.size))
      have HE2 := hide (errT_below HE.out hB)
      clear hB i0 i1 i2 i3 i4 i5 hb2'
      go_wp2_with fail
      refine (HRb.out _).mono ?_
      intro e w3 hr
      obtain ⟨g, cap, rfl, hby, hgl, hB⟩ := hr.open (by have := H7.out; omega)
      have hb3' := hb2.out.below hB hb2.out.lt
      have hb3 := hide hb3'
      obtain ⟨i0, i1, i2, i3, i4, i5⟩ := blk_cells6 hb3'
      have hB3 := hide (hB2.out.trans (hB.mono hB2.out.size))
      have HE3 := hide (errT_below HE2.out hB)
      have HY := hide hby; have HG := hide hgl
      clear hB hb3' hr hby hgl
      go_wp2_with fail
      refine (HEn.out _).mono ?_
      intro e w4 hr
      obtain ⟨g2, cap2, rfl, hO, hB⟩ := hr.open (by have := H7.out; omega)
      have hB4 := hide (hB3.out.trans (hB.mono hB3.out.size))
      have HE4 := hide (errT_below HE3.out hB)
      have HY4 := hide (bytesAt_below HY.out hB (fun a ha => by cases ha; exact HG.out))
      have HY2 := hide hO.bytes; have HG2 := hide hO.lt
      have HG4 := hide (Nat.lt_of_lt_of_le HG.out hB.size)
      clear hB hr hO
      go_wp2_with fail
      refine (bare_same2 0 _ HE4.out).mono ?_
      rintro e w5 ⟨rfl, hB⟩
      have hB5 := hide (hB4.out.trans (hB.mono hB4.out.size))
      have hs1 := str_of_bytes (c := cap) (bytesAt_below HY4.out hB (fun a ha => by cases ha; exact HG4.out)) rfl
      have hs2 := str_of_bytes (c := cap2) (bytesAt_below HY2.out hB (fun a ha => by cases ha; exact HG2.out)) rfl
      clear hB
      go_wp2_with fail
      go_ret
      exact ⟨rfl, hB5.out⟩
end Go.Proofs.YtgdljdhibknjnabDoor
