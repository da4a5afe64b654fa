/- The contract of frame.Encode; no condition but that the text is no longer than memory. -/
import Derived.Test.YtdbegdhbabfnoaaFr
import Derived.Lib.AppendStr
namespace Go.Proofs.Ytdbegdhbabfnoaa
open Go.RowKit

/-- Bytes as cells. -/
def bv (l : List Nat) : List Value := l.map fun (x : Nat) => Value.int .u8 (x : Int)
/-- A text's bytes. -/
def dl (d : ByteArray) : List Nat := d.data.toList.map fun b => b.toNat
theorem bv_app (a b : List Nat) : bv (a ++ b) = bv a ++ bv b := List.map_append
theorem bv_dl (d : ByteArray) : bv (dl d) = Lib.strCells d := by unfold bv dl Lib.strCells; rw [List.map_map]; rfl
theorem dl_len (d : ByteArray) : (dl d).length = d.size := by unfold dl; rw [List.length_map, Array.length_toList]; rfl
theorem dl_lt (d : ByteArray) : ∀ x ∈ dl d, x < 256 := by
  intro x hx; unfold dl at hx; obtain ⟨b, _, rfl⟩ := List.mem_map.1 hx; exact b.toNat_lt
theorem bv_one (l : List Nat) : ∀ u ∈ bv l, u.oneCell' = true := by
  intro u hu; unfold bv at hu; obtain ⟨x, _, rfl⟩ := List.mem_map.1 hu; rfl

def EncPost (w : World) (bs : List Nat) (e : Ending) (w' : World) : Prop := ∃ v, e = .returned (.tuple #[v, .nilIface]) ∧ w'.ownsRow w.heap.size 5 1 v bs.length (bv bs) ∧ Below w.heap.size w w'
/-- The bytes ahead of the sum. -/
def frB (nd sl mb lk sq : Nat) (dt : List Nat) : List Nat := [nd, sl, mb / 256, mb % 256, lk + 1] ++ ([sq, dt.length] ++ dt)
def withSum (l : List Nat) : List Nat := l ++ [crcS l / 256, crcS l % 256]
theorem u8_info : (Try.prog.info? 5).map (fun i => (i.zero, i.size, i.bytes)) = some (some (.int .u8 0), 1, 1) := by kernel_rfl

set_option maxRecDepth 100000 in
set_option maxHeartbeats 2000000 in
theorem enc_bad (nd sl mb lk sq : Int) (d : ByteArray) (w : World) (hd : d.size ≤ 9223372036854775807) (h : fOk nd sl mb lk sq d.size = false) :
    Calls Try.prog 5 #[frV nd sl mb lk sq d] w fun e w' => e = .returned (.tuple #[.slice none 0 0, .iface 35 (.int .i64 1)]) ∧ Below w.heap.size w w' := by
  have H := hide h; clear h
  go_enter Try.func5, Try.ntmps5
  go_wp2_with fail
  refine (fright_any _ _ _ _ _ _ _ hd).mono ?_
  rw [H.out]
  rintro e w' ⟨rfl, rfl⟩
  go_wp2_with fail
  go_ret2
  exact ⟨rfl, by repeat (first | exact Below.refl _ _ | refine Below.alloc ?_ (by simp <;> omega) _)⟩

theorem own_of_blk {w : World} {g : Nat} {t : TypeId} {cs : List Value} (h : Blk w g t cs.toArray) {base n : Nat} (hb : base ≤ g) (hn : cs.length = n) (hm : n ≤ maxLen) : w.ownsRow base t 1 (.slice (some ⟨g, 0, none⟩) n n) n cs := by
  refine ⟨by omega, .inr ⟨g, n, cs.toArray, rfl, hb, h, Nat.le_refl _, hm, by simp [hn], ?_⟩⟩
  rw [Nat.mul_one, ← hn]; simp

theorem news_of_blk {w : World} {g : Nat} {t : TypeId} {cs : List Value} (h : Blk w g t cs.toArray) : ∀ j u, cs[j]? = some u → w.cell? ((⟨g, 0, none⟩ : Addr).add j) = some u := by
  intro j u hu
  have := h.cell j
  simp only [Addr.add, Nat.zero_add]
  split
  · rename_i h0; subst h0; rw [this]; simpa using hu
  · rw [this]; simpa using hu
theorem bytesAt_of_own {w : World} {base g cap n : Nat} {t : TypeId} {bs : List Nat} (h : w.ownsRow base t 1 (.slice (some ⟨g, 0, none⟩) n cap) n (bv bs)) : BytesAt w (some ⟨g, 0, none⟩) n bs := by
  intro j hj
  have hlen : bs.length = n := by have := h.1; unfold bv at this; rw [List.length_map] at this; omega
  have e : bs.getD j 0 = bs[j]'(by omega) := by rw [List.getD, List.getElem?_eq_getElem (by omega)]; rfl
  have hc := h.cells (g := g) rfl j (.int .u8 ((bs.getD j 0 : Nat) : Int)) (by unfold bv; rw [List.getElem?_map, List.getElem?_eq_getElem (by omega), e]; rfl)
  refine ⟨g, 0, rfl, ?_⟩
  rw [← hc]
  simp only [Addr.add, Nat.zero_add]
  split
  · rename_i h0; subst h0; rfl
  · rfl
theorem own_form {w : World} {base n : Nat} {t : TypeId} {v : Value} {xs : List Value} (h : w.ownsRow base t 1 v n xs) (hn : 0 < n) : ∃ g cap, v = .slice (some ⟨g, 0, none⟩) n cap ∧ base ≤ g ∧ g < w.heap.size ∧ cap ≤ maxLen := by
  rcases h.2 with ⟨_, h0⟩ | ⟨g, cap, cur, hv, hb, hg, _, hm, _⟩
  · omega
  · exact ⟨g, cap, hv, hb, (Array.getElem?_eq_some_iff.1 hg).1, hm⟩
theorem own_grown {w : World} {g cap n : Nat} {t : TypeId} {xs ys : List Value} {z : Value} (h : Blk w g t (xs.toArray ++ (ys.toArray ++ Builtin.zeroCells #[z] (cap - n)))) {base : Nat} (hb : base ≤ g) (hn : (xs ++ ys).length = n) (hc : n ≤ cap) (hm : cap ≤ maxLen) :
    w.ownsRow base t 1 (.slice (some ⟨g, 0, none⟩) n cap) n (xs ++ ys) := by
  refine ⟨by omega, .inr ⟨g, cap, _, rfl, hb, h, hc, hm, ?_, ?_⟩⟩
  · simp only [Array.size_append, List.size_toArray, size_zeroCells]
    rw [List.length_append] at hn
    simp
    omega
  · rw [Nat.mul_one, Array.toList_append, Array.toList_append, ← List.append_assoc, ← hn]
    exact List.take_left

set_option maxRecDepth 100000 in
set_option maxHeartbeats 2000000 in
theorem enc_some (nd sl mb lk sq : Nat) (d : ByteArray) (w : World) (h1 : nd < 16) (h2 : sl < 32) (h3 : mb < 65536) (h4 : lk < 8) (h5 : sq < 256) (h6 : d.size ≤ 40) :
    Calls Try.prog 5 #[frV nd sl mb lk sq d] w (EncPost w (withSum (frB nd sl mb lk sq (dl d)))) := by
  have hok : fOk nd sl mb lk sq d.size = true := by unfold fOk; apply decide_eq_true; omega
  have H := hide hok; clear hok
  obtain ⟨i0, hi, hz0, hz1, hz2⟩ := info_parts u8_info
  obtain ⟨x2, hx2⟩ : ∃ x : Nat, x = mb / 256 := ⟨_, rfl⟩
  obtain ⟨x3, hx3⟩ : ∃ x : Nat, x = mb % 256 := ⟨_, rfl⟩
  obtain ⟨x4, hx4⟩ : ∃ x : Nat, x = lk + 1 := ⟨_, rfl⟩
  have q2 : (mb : Int) / 256 = (x2 : Int) := by omega
  have q3 : IntKind.u8.wrap (mb : Int) = (x3 : Int) := by rw [IntKind.wrap_u8]; omega
  have q4 : (lk : Int) + 1 = (x4 : Int) := by omega
  have X : Hid (x2 = mb / 256 ∧ x3 = mb % 256 ∧ x4 = lk + 1) := ⟨hx2, hx3, hx4⟩
  have b2 : x2 < 256 := by omega
  have b4 : x4 < 256 := by omega
  clear hx2 hx3 hx4
  obtain ⟨n, hn⟩ : ∃ n : Nat, n = d.size := ⟨_, rfl⟩
  have hnn : n ≤ 40 := by omega
  go_enter Try.func5, Try.ntmps5
  go_wp2_with fail
  refine (fright_any _ _ _ _ _ _ _ (by omega)).mono ?_
  rw [H.out]
  rintro e w' ⟨rfl, rfl⟩
  have n1 := own_of_blk (base := w.heap.size) (n := 5) ((Blk.new ((w.alloc (.cells (frC nd sl mb lk sq d) 23)).alloc (.cells (frC nd sl mb lk sq d) 23)) 5 (bv [nd, sl, x2, x3, x4]).toArray).alloc (.cells (bv [sq, d.size]).toArray 5)) (by simp <;> omega) rfl (by simp [maxLen])
  have n2 := news_of_blk (Blk.new (((w.alloc (.cells (frC nd sl mb lk sq d) 23)).alloc (.cells (frC nd sl mb lk sq d) 23)).alloc (.cells (bv [nd, sl, x2, x3, x4]).toArray 5)) 5 (bv [sq, d.size]).toArray)
  simp only [World.size_alloc] at n1 n2
  have hB := hide (((((Below.refl w.heap.size w).alloc (Nat.le_refl _) (.cells (frC nd sl mb lk sq d) 23)).alloc (by simp) (.cells (frC nd sl mb lk sq d) 23)).alloc (by simp <;> omega) (.cells (bv [nd, sl, x2, x3, x4]).toArray 5)).alloc (by simp <;> omega) (.cells (bv [sq, d.size]).toArray 5))
  have N1 := hide n1; have N2 := hide n2; clear n1 n2
  have hF := hide ((((Blk.new w 23 (frC nd sl mb lk sq d)).alloc (.cells (frC nd sl mb lk sq d) 23)).alloc (.cells (bv [nd, sl, x2, x3, x4]).toArray 5)).alloc (.cells (bv [sq, d.size]).toArray 5))
  go_wp2_with (first
    | (at_builtin; (refine wpList_append_own _ rfl (.tmp 31) (.tmp 39) _ rfl w.heap.size 5 i0 _ 1 1 Try.underlying24 hi hz0 hz1 hz2 rfl (by decide) (.slice (some ⟨w.heap.size + 1 + 1, 0, none⟩) 5 5) 5 (bv [nd, sl, x2, x3, x4]) rfl (by exact N1.out) ⟨w.heap.size + 1 + 1 + 1, 0, none⟩ 2 2 (bv [sq, d.size]) rfl rfl (by exact N2.out) (bv_one _) (by simp [maxLen]) (by omega) (by simp <;> omega) ?_); intro v1 w1 hown1 hg1 _; have O1 := hide hown1; have HB1 := hide (hB.out.grown hg1 (by simp <;> omega) (by intro k hk; simp [Value.ownBlock] at hk; omega)); have hF1 := (hF.out.grown hg1 (by simp [Value.ownBlock] <;> omega)).cell 5; simp at hF1; clear hown1 hg1)
    | (at_builtin; go_must (refine Lib.wpList_append_own_string _ rfl (.tmp 41) (.tmp 43) _ _ rfl w.heap.size 5 i0 Try.underlying24 Try.underlying9 hi hz0 hz1 hz2 v1 7 (bv [nd, sl, x2, x3, x4] ++ bv [sq, d.size]) rfl (by exact O1.out) d rfl (by simp [maxLen]; omega) (by omega) HB1.out.size ?_); intro v2 w2 hown2 hg2 _; have O2 := hide hown2; have HB2 := hide (HB1.out.grown hg2 HB1.out.size (fun k hk => (O1.out.lt k hk).1)); clear hown2 hg2 hF1))
  have hO2 : w2.ownsRow w.heap.size 5 1 v2 (7 + d.size) (bv ([nd, sl, x2, x3, x4] ++ [sq, d.size] ++ dl d)) := by
    rw [bv_app, bv_app, bv_dl]; exact O2.out
  have hlen : ([nd, sl, x2, x3, x4] ++ [sq, d.size] ++ dl d).length = 7 + d.size := by simp [dl_len]; omega
  have hlt : ∀ x ∈ ([nd, sl, x2, x3, x4] ++ [sq, d.size] ++ dl d), x < 256 := by
    intro x hx
    simp only [List.mem_append, List.mem_cons, List.not_mem_nil, or_false] at hx
    obtain ⟨e2, e3, e4⟩ := X.out
    rcases hx with (hx | hx) | hx
    · omega
    · omega
    · exact dl_lt d x hx
  obtain ⟨g, cap, hv, hgb, hgl, _⟩ := own_form hO2 (by omega)
  subst hv
  have hBA := bytesAt_of_own hO2
  obtain ⟨bs, hbs⟩ : ∃ bs, bs = [nd, sl, x2, x3, x4] ++ [sq, d.size] ++ dl d := ⟨_, rfl⟩
  rw [← hbs] at hlen hlt hBA hO2
  have hcs := crcS_lt bs hlt
  have hfin : withSum (frB nd sl mb lk sq (dl d)) = bs ++ [crcS bs / 256, crcS bs % 256] := by
    obtain ⟨e2, e3, e4⟩ := X.out
    have : frB nd sl mb lk sq (dl d) = bs := by rw [hbs, frB, e2, e3, e4, dl_len]; simp
    rw [withSum, this]
  rw [← hlen] at hBA hO2 ⊢
  have HBA := hide hBA; have HO := hide hO2; have HF := hide hfin
  clear hBA hO2 hfin hbs O2 O1
  have hlen' := hide hlen
  clear hlen
  have HLT := hide hlt; clear hlt
  refine (sum_any _ _ bs _ HBA.out HLT.out (by have := hlen'.out; omega)).mono ?_
  rintro e w3 ⟨rfl, rfl⟩
  generalize hc : crcS bs = c at *
  obtain ⟨y1, hy1⟩ : ∃ y : Nat, y = c / 256 := ⟨_, rfl⟩
  obtain ⟨y2, hy2⟩ : ∃ y : Nat, y = c % 256 := ⟨_, rfl⟩
  have p1 : (c : Int) / 256 = (y1 : Int) := by omega
  have p2 : IntKind.u8.wrap (c : Int) = (y2 : Int) := by rw [IntKind.wrap_u8]; omega
  have b1 : y1 < 256 := by omega
  have Y : Hid (y1 = c / 256 ∧ y2 = c % 256) := ⟨hy1, hy2⟩
  clear hy1 hy2
  have n3 := HO.out.alloc (.cells (bv [y1, y2]).toArray 5)
  have n4 := news_of_blk (Blk.new w2 5 (bv [y1, y2]).toArray)
  have hB3 := HB2.out.alloc HB2.out.size (.cells (bv [y1, y2]).toArray 5)
  have N3 := hide n3; have N4 := hide n4; have B3 := hide hB3; clear n3 n4 hB3
  go_wp2_with (first
    | (at_builtin; go_must (refine wpList_append_own _ rfl (.tmp 47) (.tmp 53) _ rfl w.heap.size 5 i0 _ 1 1 Try.underlying24 hi hz0 hz1 hz2 rfl (by decide) (.slice (some ⟨g, 0, none⟩) bs.length cap) bs.length (bv bs) rfl (by exact N3.out) ⟨w2.heap.size, 0, none⟩ 2 2 (bv [y1, y2]) rfl rfl (by exact N4.out) (bv_one _) (by have := hlen'.out; simp [maxLen]; omega) (by have := hlen'.out; omega) B3.out.size ?_); intro v5 w5 hown5 hg5 _; have O5 := hide hown5; have HB5 := hide (B3.out.grown hg5 B3.out.size (by intro k hk; simp [Value.ownBlock] at hk; omega)); clear hown5 hg5))
  go_ret2
  refine ⟨v5, rfl, ?_, HB5.out⟩
  obtain ⟨e1, e2⟩ := Y.out
  rw [HF.out, List.length_append, bv_app, ← e1, ← e2]
  exact O5.out
end Go.Proofs.Ytdbegdhbabfnoaa
