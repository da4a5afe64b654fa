/- The sum of bytes (16 bits, 1021): plain facts, no program in sight. -/
import Derived.Test.YtideefjnlakciaaGreatDoorP01
import Derived.Laws.BitsAll
import Derived.Laws.Shifts
import Derived.Lib.AppendStr
import Derived.Laws.BytesArg
import Derived.Shelf.SlIterI.Sorted
import Derived.Shelf.SortM.Plain
import Derived.Shelf.SortM.SortNone
import Derived.Shelf.Sort.Plain
import Derived.Shelf.Slices.In.SortNone2
import Derived.Test.YtideefjnlakciaaGreatDoorProg
import Derived.WalkKit
import Derived.Sort.OwnSortedInts
import Derived.LoopIn
import Derived.LoopNIn
import Derived.TacticsInMore
import Derived.OwnWalkIn
import Derived.RangeFuncLeaves
import Derived.Deep.QuietTactic
set_option linter.unusedVariables false
set_option linter.unusedSimpArgs false
namespace Go.Proofs.YtideefjnlakciaaGreatDoor
section
def crcT (v : Nat) : Nat := if 32768 ≤ v then (2 * v % 65536) ^^^ 4129 else 2 * v
def crcI : Nat → Nat → Nat
 | 0, v => v
 | k + 1, v => crcT (crcI k v)
def crcB (v c : Nat) : Nat := crcI 8 (v ^^^ (c * 256))
def crcS (l : List Nat) : Nat := l.foldl crcB 65535
theorem crcT_lt (v : Nat) (h : v < 65536) : crcT v < 65536 := by
 unfold crcT; split
 ·exact Nat.xor_lt_two_pow (n := 16) (by omega) (by omega)
 ·omega
theorem crcI_lt (k v : Nat) (h : v < 65536) : crcI k v < 65536 := by
 induction k with
 | zero => exact h
 | succ k ih => exact crcT_lt _ ih
theorem crcX_lt (v c : Nat) (h : v < 65536) (hc : c < 256) : v ^^^ (c * 256) < 65536 := Nat.xor_lt_two_pow (n := 16) (by omega) (by omega)
theorem crcB_lt (v c : Nat) (h : v < 65536) (hc : c < 256) : crcB v c < 65536 := crcI_lt _ _ (crcX_lt v c h hc)
theorem crcF_lt (l : List Nat) (v : Nat) (h : v < 65536) (hl : ∀ c ∈ l, c < 256) : l.foldl crcB v < 65536 := by
 induction l generalizing v with
 | nil => exact h
 | cons c l ih =>
  rw [List.foldl_cons]
  exact ih (crcB v c) (crcB_lt _ _ h (hl c (List.mem_cons_self ..))) (fun d hd => hl d (List.mem_cons_of_mem _ hd))
theorem crcS_lt (l : List Nat) (hl : ∀ c ∈ l, c < 256) : crcS l < 65536 := crcF_lt l _ (by omega) hl
theorem crcS_snoc (l : List Nat) (k : Nat) (h : k < l.length) : crcS (l.take (k + 1)) = crcB (crcS (l.take k)) (l.getD k 0) := by
 unfold crcS
 rw [List.take_add_one, List.foldl_append]
 rw [List.getElem?_eq_getElem h]
 have e : l.getD k 0 = l[k] := by rw [List.getD, List.getElem?_eq_getElem h]; rfl
 rw [e]
 simp only [Option.toList_some, List.foldl_cons, List.foldl_nil]
end
section
open Go.RowKit
def BytesAt (W : World) (A : Option Addr) (n : Nat) (bs : List Nat) : Prop := ∀ j, j < n → ∃ b off, A = some ⟨b, off, none⟩ ∧ W.cell? ⟨b, off + j, none⟩ = some (.int .u8 (bs.getD j 0 : Nat))
theorem xor_byte (v x : Nat) (hv : v < 65536) (hx : x < 256) : bits .xor .u16 (v : Int) ((x : Int) * 256) = ((v ^^^ (x * 256) : Nat) : Int) := by
 rw [show ((x : Int) * 256) = ((x * 256 : Nat) : Int) by omega, u16_xor_nat v (x * 256) hv (by omega)]
theorem step_hi (z : Nat) (hz : z < 65536) (h : (((z : Int) / 32768) == 1) = true) : bits .xor .u16 (IntKind.u16.wrap ((z : Int) * 2)) 4129 = ((crcT z : Nat) : Int) := by
 have h1 : 32768 ≤ z := by simp at h; omega
 have e : IntKind.u16.wrap ((z : Int) * 2) = ((2 * z % 65536 : Nat) : Int) := by rw [IntKind.wrap_u16]; omega
 rw [e, show (4129 : Int) = ((4129 : Nat) : Int) from rfl, u16_xor_nat _ _ (by omega) (by omega), crcT, if_pos h1]
theorem step_lo (z : Nat) (hz : z < 65536) (h : (((z : Int) / 32768) == 1) = false) : IntKind.u16.wrap ((z : Int) * 2) = ((crcT z : Nat) : Int) := by
 have h1 : ¬ 32768 ≤ z := by simp at h; omega
 rw [IntKind.wrap_u16, crcT, if_neg h1]; omega
theorem v16 {a b : Int} (h : a = b) : Value.int .u16 a = .int .u16 b := by rw [h]
set_option maxRecDepth 100000 in
set_option maxHeartbeats 1000000 in
theorem sum_any (A : Option Addr) (c : Nat) (bs : List Nat) (w : World) (hc : BytesAt w A bs.length bs) (hl : ∀ x ∈ bs, x < 256) (hn : bs.length ≤ 9223372036854775807) :
 Calls Tryz.prog 202 #[.slice A bs.length c] w fun e w' => e = .returned (.int .i64 (crcS bs : Nat)) ∧ w = w' := by
 go_enter Tryz.func202, Tryz.ntmps202
 go_wp2
 go_loop [3, 9] (fun v i => ∃ k : Nat, k ≤ bs.length ∧ i = .int .i64 k ∧ v = .int .u16 (crcS (bs.take k) : Nat)) (fun _ i => bs.length - (intOf i).toNat)
 case atStart => exact ⟨0, by omega, rfl, rfl⟩
 case round =>
  obtain ⟨k, hk, rfl, rfl⟩ := hrel
  by_cases hlt : k < bs.length
  ·obtain ⟨b, off, rfl, hcell⟩ := hc k hlt
   have hv := crcS_lt (bs.take k) (fun x hx => hl x (List.mem_of_mem_take hx))
   have hs := crcS_snoc bs k hlt
   have hb : bs.getD k 0 < 256 := by
    have : bs.getD k 0 = bs[k] := by simp [List.getD, List.getElem?_eq_getElem hlt]
    rw [this]; exact hl _ (List.getElem_mem hlt)
   generalize hx : bs.getD k 0 = x at hs hb hcell
   clear hx
   have hx16 := hide (xor_byte (crcS (bs.take k)) x hv hb)
   have hv0 := crcX_lt _ _ hv hb
   have HS := hide hs; clear hs
   generalize hq : crcS (bs.take k) = q at *
   clear hq
   go_wp2
   go_loop [3, 18] (fun v i => ∃ j : Nat, j ≤ 8 ∧ i = .int .i64 j ∧ v = .int .u16 (crcI j (q ^^^ (x * 256)) : Nat)) (fun _ i => 8 - (intOf i).toNat)
   case atStart => exact ⟨0, by omega, rfl, by rw [hx16.out]; rfl⟩
   case round =>
    obtain ⟨j, hj, rfl, rfl⟩ := hrel
    have hy := crcI_lt j _ hv0
    generalize hz : crcI j (q ^^^ (x * 256)) = z at *
    have hz := hide hz
    go_wp2
    ·exact ⟨⟨j + 1, by omega, by go_num, v16 (by rw [crcI, hz.out]; exact step_hi z hy ‹_›)⟩, by simp [intOf]; omega⟩
    ·exact ⟨⟨j + 1, by omega, by go_num, v16 (by rw [crcI, hz.out]; exact step_lo z hy ‹_›)⟩, by simp [intOf]; omega⟩
    ·obtain rfl : j = 8 := by omega
     exact ⟨⟨k + 1, by omega, by go_num, by rw [HS.out, crcB, hz.out]⟩, by simp [intOf]; omega⟩
  ·obtain rfl : k = bs.length := by omega
   have hv := crcS_lt bs hl
   have ht : bs.take bs.length = bs := List.take_length
   rw [ht]
   go_wp2
   go_ret
   exact ⟨rfl, rfl⟩
end
section
open Go.RowKit
abbrev frV (nd sl mb lk sq : Int) (d : ByteArray) : Value := .agg #[.int .i64 nd, .int .i64 sl, .int .i64 mb, .int .i64 lk, .int .i64 sq, .string d]
abbrev frC (nd sl mb lk sq : Int) (d : ByteArray) : Array Value := #[.int .i64 nd, .int .i64 sl, .int .i64 mb, .int .i64 lk, .int .i64 sq, .string d]
def fOk (nd sl mb lk sq : Int) (n : Nat) : Bool := decide ((0 ≤ nd ∧ nd < 16 ∧ 0 ≤ sl ∧ sl < 32 ∧ 0 ≤ mb ∧ mb < 65536) ∧ ((lk = -1 ∧ sq = 0 ∧ n = 0) ∨ (0 ≤ lk ∧ lk < 8 ∧ 0 ≤ sq ∧ sq < 256 ∧ n ≤ 40)))
theorem size_empty {d : ByteArray} (h : d.size = 0) : d = ⟨#[]⟩ := by
 obtain ⟨a⟩ := d
 have : a = #[] := Array.eq_empty_of_size_eq_zero h
 rw [this]
theorem list_size (d : ByteArray) : d.toList.length = d.size := by rw [ByteArray.toList_eq, Array.length_toList]; rfl
set_option maxRecDepth 100000 in
set_option maxHeartbeats 1000000 in
theorem fright_any (nd sl mb lk sq : Int) (d : ByteArray) (w : World) (hd : d.size ≤ 9223372036854775807) :
 Calls Tryz.prog 201 #[frV nd sl mb lk sq d] w fun e w' => e = .returned (.bool (fOk nd sl mb lk sq d.size)) ∧ w.alloc (.cells (frC nd sl mb lk sq d) 269) = w' := by
 by_cases h0 : d.size = 0
 ·obtain rfl := size_empty h0
  rw [h0]
  clear h0 hd
  go_enter Tryz.func201, Tryz.ntmps201
  go_wp2
  all_goals
   go_ret
   exact ⟨ret_bool (by unfold fOk; symm; first | (apply decide_eq_false; omega) | (apply decide_eq_true; omega) | (apply decide_eq_decide.2; omega)), by first | rfl | (subst_vars; rfl)⟩
 ·have hl : d.toList.isEmpty = false := by
   have := list_size d
   cases h : d.toList with
   | nil => rw [h] at this; simp at this; omega
   | cons a b => rfl
  have hl2 : (d.toList == []) = false := by
   cases h : d.toList with
   | nil => rw [h] at hl; simp at hl
   | cons a b => rfl
  go_enter Tryz.func201, Tryz.ntmps201
  go_wp2
  all_goals
   go_ret
   exact ⟨ret_bool (by unfold fOk; symm; first | (apply decide_eq_false; omega) | (apply decide_eq_true; omega) | (apply decide_eq_decide.2; omega)), by first | rfl | (subst_vars; rfl)⟩
end
section
open Go.RowKit
def bv (l : List Nat) : List Value := l.map fun (x : Nat) => Value.int .u8 (x : Int)
def dl (d : ByteArray) : List Nat := d.data.toList.map fun b => b.toNat
theorem bv_app (a b : List Nat) : bv (a ++ b) = bv a ++ bv b := List.map_append
theorem bv_dl (d : ByteArray) : bv (dl d) = Lib.strCells d := by unfold bv dl Lib.strCells; rw [List.map_map]; rfl
theorem dl_len (d : ByteArray) : (dl d).length = d.size := by unfold dl; rw [List.length_map, Array.length_toList]; rfl
theorem dl_lt (d : ByteArray) : ∀ x ∈ dl d, x < 256 := by
 intro x hx; unfold dl at hx; obtain ⟨b, _, rfl⟩ := List.mem_map.1 hx; exact b.toNat_lt
theorem bv_one (l : List Nat) : ∀ u ∈ bv l, u.oneCell' = true := by
 intro u hu; unfold bv at hu; obtain ⟨x, _, rfl⟩ := List.mem_map.1 hu; rfl
def EncPost (w : World) (bs : List Nat) (e : Ending) (w' : World) : Prop := ∃ v, e = .returned (.tuple #[v, .nilIface]) ∧ w'.ownsRow w.heap.size 5 1 v bs.length (bv bs) ∧ Below w.heap.size w w'
def frB (nd sl mb lk sq : Nat) (dt : List Nat) : List Nat := [nd, sl, mb / 256, mb % 256, lk + 1] ++ ([sq, dt.length] ++ dt)
def withSum (l : List Nat) : List Nat := l ++ [crcS l / 256, crcS l % 256]
theorem u8_info : (Tryz.prog.info? 5).map (fun i => (i.zero, i.size, i.bytes)) = some (some (.int .u8 0), 1, 1) := by kernel_rfl
theorem own_of_blk {w : World} {g : Nat} {t : TypeId} {cs : List Value} (h : Blk w g t cs.toArray) {base n : Nat} (hb : base ≤ g) (hn : cs.length = n) (hm : n ≤ maxLen) : w.ownsRow base t 1 (.slice (some ⟨g, 0, none⟩) n n) n cs := by
 refine ⟨by omega, .inr ⟨g, n, cs.toArray, rfl, hb, h, Nat.le_refl _, hm, by simp [hn], ?_⟩⟩
 rw [Nat.mul_one, ← hn]; simp
theorem news_of_blk {w : World} {g : Nat} {t : TypeId} {cs : List Value} (h : Blk w g t cs.toArray) : ∀ j u, cs[j]? = some u → w.cell? ((⟨g, 0, none⟩ : Addr).add j) = some u := by
 intro j u hu
 have := h.cell j
 simp only [Addr.add, Nat.zero_add]
 split
 ·rename_i h0; subst h0; rw [this]; simpa using hu
 ·rw [this]; simpa using hu
theorem bytesAt_of_own {w : World} {base g cap n : Nat} {t : TypeId} {bs : List Nat} (h : w.ownsRow base t 1 (.slice (some ⟨g, 0, none⟩) n cap) n (bv bs)) : BytesAt w (some ⟨g, 0, none⟩) n bs := by
 intro j hj
 have hlen : bs.length = n := by have := h.1; unfold bv at this; rw [List.length_map] at this; omega
 have e : bs.getD j 0 = bs[j]'(by omega) := by rw [List.getD, List.getElem?_eq_getElem (by omega)]; rfl
 have hc := h.cells (g := g) rfl j (.int .u8 ((bs.getD j 0 : Nat) : Int)) (by unfold bv; rw [List.getElem?_map, List.getElem?_eq_getElem (by omega), e]; rfl)
 refine ⟨g, 0, rfl, ?_⟩
 rw [← hc]
 simp only [Addr.add, Nat.zero_add]
 split
 ·rename_i h0; subst h0; rfl
 ·rfl
theorem own_form {w : World} {base n : Nat} {t : TypeId} {v : Value} {xs : List Value} (h : w.ownsRow base t 1 v n xs) (hn : 0 < n) : ∃ g cap, v = .slice (some ⟨g, 0, none⟩) n cap ∧ base ≤ g ∧ g < w.heap.size ∧ cap ≤ maxLen := by
 rcases h.2 with ⟨_, h0⟩ | ⟨g, cap, cur, hv, hb, hg, _, hm, _⟩
 ·omega
 ·exact ⟨g, cap, hv, hb, (Array.getElem?_eq_some_iff.1 hg).1, hm⟩
set_option maxRecDepth 100000 in
set_option maxHeartbeats 2000000 in
theorem enc_some (nd sl mb lk sq : Nat) (d : ByteArray) (w : World) (h1 : nd < 16) (h2 : sl < 32) (h3 : mb < 65536) (h4 : lk < 8) (h5 : sq < 256) (h6 : d.size ≤ 40) :
 Calls Tryz.prog 178 #[frV nd sl mb lk sq d] w (EncPost w (withSum (frB nd sl mb lk sq (dl d)))) := by
 have hok : fOk nd sl mb lk sq d.size = true := by unfold fOk; apply decide_eq_true; omega
 have H := hide hok; clear hok
 obtain ⟨i0, hi, hz0, hz1, hz2⟩ := info_parts u8_info
 obtain ⟨x2, hx2⟩ : ∃ x : Nat, x = mb / 256 := ⟨_, rfl⟩
 obtain ⟨x3, hx3⟩ : ∃ x : Nat, x = mb % 256 := ⟨_, rfl⟩
 obtain ⟨x4, hx4⟩ : ∃ x : Nat, x = lk + 1 := ⟨_, rfl⟩
 have q2 : (mb : Int) / 256 = (x2 : Int) := by omega
 have q3 : IntKind.u8.wrap (mb : Int) = (x3 : Int) := by rw [IntKind.wrap_u8]; omega
 have q4 : (lk : Int) + 1 = (x4 : Int) := by omega
 have X : Hid (x2 = mb / 256 ∧ x3 = mb % 256 ∧ x4 = lk + 1) := ⟨hx2, hx3, hx4⟩
 have b2 : x2 < 256 := by omega
 have b4 : x4 < 256 := by omega
 clear hx2 hx3 hx4
 obtain ⟨n, hn⟩ : ∃ n : Nat, n = d.size := ⟨_, rfl⟩
 have hnn : n ≤ 40 := by omega
 go_enter Tryz.func178, Tryz.ntmps178
 go_wp2_with fail
 refine (fright_any _ _ _ _ _ _ _ (by omega)).mono ?_
 rw [H.out]
 rintro e w' ⟨rfl, rfl⟩
 have n1 := own_of_blk (base := w.heap.size) (n := 5) ((Blk.new ((w.alloc (.cells (frC nd sl mb lk sq d) 269)).alloc (.cells (frC nd sl mb lk sq d) 269)) 5 (bv [nd, sl, x2, x3, x4]).toArray).alloc (.cells (bv [sq, d.size]).toArray 5)) (by simp <;> omega) rfl (by simp [maxLen])
 have n2 := news_of_blk (Blk.new (((w.alloc (.cells (frC nd sl mb lk sq d) 269)).alloc (.cells (frC nd sl mb lk sq d) 269)).alloc (.cells (bv [nd, sl, x2, x3, x4]).toArray 5)) 5 (bv [sq, d.size]).toArray)
 simp only [World.size_alloc] at n1 n2
 have hB := hide (((((Below.refl w.heap.size w).alloc (Nat.le_refl _) (.cells (frC nd sl mb lk sq d) 269)).alloc (by simp) (.cells (frC nd sl mb lk sq d) 269)).alloc (by simp <;> omega) (.cells (bv [nd, sl, x2, x3, x4]).toArray 5)).alloc (by simp <;> omega) (.cells (bv [sq, d.size]).toArray 5))
 have N1 := hide n1; have N2 := hide n2; clear n1 n2
 have hF := hide ((((Blk.new w 269 (frC nd sl mb lk sq d)).alloc (.cells (frC nd sl mb lk sq d) 269)).alloc (.cells (bv [nd, sl, x2, x3, x4]).toArray 5)).alloc (.cells (bv [sq, d.size]).toArray 5))
 go_wp2_with (first
  | (at_builtin; (refine wpList_append_own _ rfl (.tmp 31) (.tmp 39) _ rfl w.heap.size 5 i0 _ 1 1 Tryz.underlying40 hi hz0 hz1 hz2 rfl (by decide) (.slice (some ⟨w.heap.size + 1 + 1, 0, none⟩) 5 5) 5 (bv [nd, sl, x2, x3, x4]) rfl (by exact N1.out) ⟨w.heap.size + 1 + 1 + 1, 0, none⟩ 2 2 (bv [sq, d.size]) rfl rfl (by exact N2.out) (bv_one _) (by simp [maxLen]) (by omega) (by simp <;> omega) ?_); intro v1 w1 hown1 hg1 _; have O1 := hide hown1; have HB1 := hide (hB.out.grown hg1 (by simp <;> omega) (by intro k hk; simp [Value.ownBlock] at hk; omega)); have hF1 := (hF.out.grown hg1 (by simp [Value.ownBlock] <;> omega)).cell 5; simp at hF1; clear hown1 hg1)
  | (at_builtin; go_must (refine Lib.wpList_append_own_string _ rfl (.tmp 41) (.tmp 43) _ _ rfl w.heap.size 5 i0 Tryz.underlying40 Tryz.underlying9 hi hz0 hz1 hz2 v1 7 (bv [nd, sl, x2, x3, x4] ++ bv [sq, d.size]) rfl (by exact O1.out) d rfl (by simp [maxLen]; omega) (by omega) HB1.out.size ?_); intro v2 w2 hown2 hg2 _; have O2 := hide hown2; have HB2 := hide (HB1.out.grown hg2 HB1.out.size (fun k hk => (O1.out.lt k hk).1)); clear hown2 hg2 hF1))
 have hO2 : w2.ownsRow w.heap.size 5 1 v2 (7 + d.size) (bv ([nd, sl, x2, x3, x4] ++ [sq, d.size] ++ dl d)) := by
  rw [bv_app, bv_app, bv_dl]; exact O2.out
 have hlen : ([nd, sl, x2, x3, x4] ++ [sq, d.size] ++ dl d).length = 7 + d.size := by simp [dl_len]; omega
 have hlt : ∀ x ∈ ([nd, sl, x2, x3, x4] ++ [sq, d.size] ++ dl d), x < 256 := by
  intro x hx
  simp only [List.mem_append, List.mem_cons, List.not_mem_nil, or_false] at hx
  obtain ⟨e2, e3, e4⟩ := X.out
  rcases hx with (hx | hx) | hx
  ·omega
  ·omega
  ·exact dl_lt d x hx
 obtain ⟨g, cap, hv, hgb, hgl, _⟩ := own_form hO2 (by omega)
 subst hv
 have hBA := bytesAt_of_own hO2
 obtain ⟨bs, hbs⟩ : ∃ bs, bs = [nd, sl, x2, x3, x4] ++ [sq, d.size] ++ dl d := ⟨_, rfl⟩
 rw [← hbs] at hlen hlt hBA hO2
 have hcs := crcS_lt bs hlt
 have hfin : withSum (frB nd sl mb lk sq (dl d)) = bs ++ [crcS bs / 256, crcS bs % 256] := by
  obtain ⟨e2, e3, e4⟩ := X.out
  have : frB nd sl mb lk sq (dl d) = bs := by rw [hbs, frB, e2, e3, e4, dl_len]; simp
  rw [withSum, this]
 rw [← hlen] at hBA hO2 ⊢
 have HBA := hide hBA; have HO := hide hO2; have HF := hide hfin
 clear hBA hO2 hfin hbs O2 O1
 have hlen' := hide hlen
 clear hlen
 have HLT := hide hlt; clear hlt
 refine (sum_any _ _ bs _ HBA.out HLT.out (by have := hlen'.out; omega)).mono ?_
 rintro e w3 ⟨rfl, rfl⟩
 generalize hc : crcS bs = c at *
 obtain ⟨y1, hy1⟩ : ∃ y : Nat, y = c / 256 := ⟨_, rfl⟩
 obtain ⟨y2, hy2⟩ : ∃ y : Nat, y = c % 256 := ⟨_, rfl⟩
 have p1 : (c : Int) / 256 = (y1 : Int) := by omega
 have p2 : IntKind.u8.wrap (c : Int) = (y2 : Int) := by rw [IntKind.wrap_u8]; omega
 have b1 : y1 < 256 := by omega
 have Y : Hid (y1 = c / 256 ∧ y2 = c % 256) := ⟨hy1, hy2⟩
 clear hy1 hy2
 have n3 := HO.out.alloc (.cells (bv [y1, y2]).toArray 5)
 have n4 := news_of_blk (Blk.new w2 5 (bv [y1, y2]).toArray)
 have hB3 := HB2.out.alloc HB2.out.size (.cells (bv [y1, y2]).toArray 5)
 have N3 := hide n3; have N4 := hide n4; have B3 := hide hB3; clear n3 n4 hB3
 go_wp2_with (first
  | (at_builtin; go_must (refine wpList_append_own _ rfl (.tmp 47) (.tmp 53) _ rfl w.heap.size 5 i0 _ 1 1 Tryz.underlying40 hi hz0 hz1 hz2 rfl (by decide) (.slice (some ⟨g, 0, none⟩) bs.length cap) bs.length (bv bs) rfl (by exact N3.out) ⟨w2.heap.size, 0, none⟩ 2 2 (bv [y1, y2]) rfl rfl (by exact N4.out) (bv_one _) (by have := hlen'.out; simp [maxLen]; omega) (by have := hlen'.out; omega) B3.out.size ?_); intro v5 w5 hown5 hg5 _; have O5 := hide hown5; have HB5 := hide (B3.out.grown hg5 B3.out.size (by intro k hk; simp [Value.ownBlock] at hk; omega)); clear hown5 hg5))
 go_ret2
 refine ⟨v5, rfl, ?_, HB5.out⟩
 obtain ⟨e1, e2⟩ := Y.out
 rw [HF.out, List.length_append, bv_app, ← e1, ← e2]
 exact O5.out
end
section
open Go.RowKit
def frN (nd sl mb : Nat) : List Nat := [nd, sl, mb / 256, mb % 256, 0]
set_option maxRecDepth 100000 in
set_option maxHeartbeats 2000000 in
theorem enc_none (nd sl mb : Nat) (w : World) (h1 : nd < 16) (h2 : sl < 32) (h3 : mb < 65536) :
 Calls Tryz.prog 178 #[frV nd sl mb (-1) 0 ⟨#[]⟩] w (EncPost w (withSum (frN nd sl mb))) := by
 have hok : fOk nd sl mb (-1) 0 (⟨#[]⟩ : ByteArray).size = true := by unfold fOk; apply decide_eq_true; have : (⟨#[]⟩ : ByteArray).size = 0 := rfl; omega
 have H := hide hok; clear hok
 obtain ⟨i0, hi, hz0, hz1, hz2⟩ := info_parts u8_info
 obtain ⟨x2, hx2⟩ : ∃ x : Nat, x = mb / 256 := ⟨_, rfl⟩
 obtain ⟨x3, hx3⟩ : ∃ x : Nat, x = mb % 256 := ⟨_, rfl⟩
 have q2 : (mb : Int) / 256 = (x2 : Int) := by omega
 have q3 : IntKind.u8.wrap (mb : Int) = (x3 : Int) := by rw [IntKind.wrap_u8]; omega
 have hfin : withSum (frN nd sl mb) = [nd, sl, x2, x3, 0] ++ [crcS [nd, sl, x2, x3, 0] / 256, crcS [nd, sl, x2, x3, 0] % 256] := by rw [withSum, frN, hx2, hx3]
 have b2 : x2 < 256 := by omega
 have hlt : ∀ x ∈ [nd, sl, x2, x3, 0], x < 256 := by
  intro x hx
  simp only [List.mem_cons, List.not_mem_nil, or_false] at hx
  omega
 clear hx2 hx3
 have n1 := own_of_blk (base := w.heap.size) (n := 5) (Blk.new ((w.alloc (.cells (frC nd sl mb (-1) 0 ⟨#[]⟩) 269)).alloc (.cells (frC nd sl mb (-1) 0 ⟨#[]⟩) 269)) 5 (bv [nd, sl, x2, x3, 0]).toArray) (by simp <;> omega) rfl (by simp [maxLen])
 simp only [World.size_alloc] at n1
 have hB := hide (((((Below.refl w.heap.size w).alloc (Nat.le_refl _) (.cells (frC nd sl mb (-1) 0 ⟨#[]⟩) 269)).alloc (by simp) (.cells (frC nd sl mb (-1) 0 ⟨#[]⟩) 269)).alloc (by simp <;> omega) (.cells (bv [nd, sl, x2, x3, 0]).toArray 5)))
 have hcs := crcS_lt _ hlt
 have hBA := hide (bytesAt_of_own n1)
 have N1 := hide n1; clear n1
 have HLT := hide hlt; clear hlt
 have HF := hide hfin; clear hfin
 go_enter Tryz.func178, Tryz.ntmps178
 go_wp2_with fail
 refine (fright_any _ _ _ _ _ _ _ (Nat.zero_le _)).mono ?_
 rw [H.out]
 rintro e w' ⟨rfl, rfl⟩
 go_wp2_with fail
 refine (sum_any _ _ [nd, sl, x2, x3, 0] _ (by exact hBA.out) HLT.out (by simp)).mono ?_
 rintro e w3 ⟨rfl, rfl⟩
 generalize hc : crcS [nd, sl, x2, x3, 0] = c at *
 obtain ⟨y1, hy1⟩ : ∃ y : Nat, y = c / 256 := ⟨_, rfl⟩
 obtain ⟨y2, hy2⟩ : ∃ y : Nat, y = c % 256 := ⟨_, rfl⟩
 have p1 : (c : Int) / 256 = (y1 : Int) := by omega
 have p2 : IntKind.u8.wrap (c : Int) = (y2 : Int) := by rw [IntKind.wrap_u8]; omega
 have b1 : y1 < 256 := by omega
 have Y : Hid (y1 = c / 256 ∧ y2 = c % 256) := ⟨hy1, hy2⟩
 clear hy1 hy2
 have n3 := N1.out.alloc (.cells (bv [y1, y2]).toArray 5)
 have n4 := news_of_blk (Blk.new (((w.alloc (.cells (frC nd sl mb (-1) 0 ⟨#[]⟩) 269)).alloc (.cells (frC nd sl mb (-1) 0 ⟨#[]⟩) 269)).alloc (.cells (bv [nd, sl, x2, x3, 0]).toArray 5)) 5 (bv [y1, y2]).toArray)
 simp only [World.size_alloc] at n3 n4
 have hB3 := hB.out.alloc hB.out.size (.cells (bv [y1, y2]).toArray 5)
 have N3 := hide n3; have N4 := hide n4; have B3 := hide hB3; clear n3 n4 hB3
 go_wp2_with (first
  | (at_builtin; go_must (refine wpList_append_own _ rfl (.tmp 47) (.tmp 53) _ rfl w.heap.size 5 i0 _ 1 1 Tryz.underlying40 hi hz0 hz1 hz2 rfl (by decide) (.slice (some ⟨w.heap.size + 1 + 1, 0, none⟩) 5 5) 5 (bv [nd, sl, x2, x3, 0]) rfl (by exact N3.out) ⟨w.heap.size + 1 + 1 + 1, 0, none⟩ 2 2 (bv [y1, y2]) rfl rfl (by exact N4.out) (bv_one _) (by simp [maxLen]) (by omega) B3.out.size ?_); intro v5 w5 hown5 hg5 _; have O5 := hide hown5; have HB5 := hide (B3.out.grown hg5 B3.out.size (by intro k hk; simp [Value.ownBlock] at hk; omega)); clear hown5 hg5))
 go_ret2
 refine ⟨v5, rfl, ?_, HB5.out⟩
 obtain ⟨e1, e2⟩ := Y.out
 rw [HF.out, List.length_append, bv_app, ← e1, ← e2]
 exact O5.out
end
end Go.Proofs.YtideefjnlakciaaGreatDoor
set_option linter.unusedVariables false
set_option linter.unusedSimpArgs false
namespace Go.Proofs.YtideefjnlakciaaGreatDoor
def strN (l : List Nat) : ByteArray := strOfNums (l.map fun (x : Nat) => (x : Int))
theorem strN_dl (d : ByteArray) : strN (dl d) = d := by
 obtain ⟨⟨l⟩⟩ := d
 unfold strN dl strOfNums
 simp only [List.map_map]
 congr 2
 have : ((fun (n : Int) => UInt8.ofNat n.toNat) ∘ (fun (x : Nat) => (x : Int)) ∘ fun (b : UInt8) => b.toNat) = id := by
  funext b; simp
 rw [this, List.map_id]
structure FrR where
 nd : Int
 sl : Int
 mb : Int
 lk : Int
 sq : Int
 d : ByteArray
def decF (l : List Nat) : FrR :=
 if l.getD 4 0 = 0 then ⟨l.getD 0 0, l.getD 1 0, (l.getD 2 0 * 256 + l.getD 3 0 : Nat), (l.getD 4 0 : Int) - 1, 0, ⟨#[]⟩⟩
 else ⟨l.getD 0 0, l.getD 1 0, (l.getD 2 0 * 256 + l.getD 3 0 : Nat), (l.getD 4 0 : Int) - 1, l.getD 5 0, strN ((l.drop 7).take (l.length - 9))⟩
def decG (l : List Nat) : Bool :=
 if l.getD 4 0 = 0 then decide (l.length = 7) && fOk (l.getD 0 0) (l.getD 1 0) (l.getD 2 0 * 256 + l.getD 3 0 : Nat) ((l.getD 4 0 : Int) - 1) 0 0
 else decide (l.length = 9 + l.getD 6 0) && fOk (l.getD 0 0) (l.getD 1 0) (l.getD 2 0 * 256 + l.getD 3 0 : Nat) ((l.getD 4 0 : Int) - 1) (l.getD 5 0) (l.length - 9)
def decOk (l : List Nat) : Bool := decide (7 ≤ l.length) && decide (crcS (l.take (l.length - 2)) = l.getD (l.length - 2) 0 * 256 + l.getD (l.length - 1) 0) && decG l
theorem withSum_len (l : List Nat) : (withSum l).length = l.length + 2 := by simp [withSum]
theorem withSum_parts (l : List Nat) (hl : ∀ x ∈ l, x < 256) : (withSum l).take l.length = l ∧ (withSum l).getD l.length 0 = crcS l / 256 ∧ (withSum l).getD (l.length + 1) 0 = crcS l % 256 := by
 unfold withSum
 exact ⟨List.take_left, by simp [List.getD], by simp [List.getD, List.getElem?_append]⟩
theorem withSum_lt (l : List Nat) (hl : ∀ x ∈ l, x < 256) : ∀ x ∈ withSum l, x < 256 := by
 have := crcS_lt l hl
 intro x hx
 unfold withSum at hx
 rw [List.mem_append] at hx
 rcases hx with hx | hx
 ·exact hl x hx
 ·simp at hx; omega
theorem frB_lt (nd sl mb lk sq : Nat) (d : ByteArray) (h1 : nd < 16) (h2 : sl < 32) (h3 : mb < 65536) (h4 : lk < 8) (h5 : sq < 256) (h6 : d.size ≤ 40) : ∀ x ∈ frB nd sl mb lk sq (dl d), x < 256 := by
 intro x hx
 unfold frB at hx
 rw [List.mem_append, List.mem_append] at hx
 rcases hx with hx | hx | hx
 ·simp at hx; omega
 ·simp [dl_len] at hx; omega
 ·exact dl_lt d x hx
theorem frN_lt (nd sl mb : Nat) (h1 : nd < 16) (h2 : sl < 32) (h3 : mb < 65536) : ∀ x ∈ frN nd sl mb, x < 256 := by
 intro x hx
 unfold frN at hx
 simp at hx; omega
theorem back_some (nd sl mb lk sq : Nat) (d : ByteArray) (h1 : nd < 16) (h2 : sl < 32) (h3 : mb < 65536) (h4 : lk < 8) (h5 : sq < 256) (h6 : d.size ≤ 40) :
 decOk (withSum (frB nd sl mb lk sq (dl d))) = true ∧ decF (withSum (frB nd sl mb lk sq (dl d))) = ⟨nd, sl, mb, lk, sq, d⟩ := by
 have hlt := frB_lt nd sl mb lk sq d h1 h2 h3 h4 h5 h6
 have hcs := crcS_lt _ hlt
 obtain ⟨p1, p2, p3⟩ := withSum_parts _ hlt
 have hlen : (frB nd sl mb lk sq (dl d)).length = 7 + d.size := by simp [frB, dl_len]; omega
 have hw : withSum (frB nd sl mb lk sq (dl d)) = nd :: sl :: (mb / 256) :: (mb % 256) :: (lk + 1) :: sq :: d.size :: (dl d ++ [crcS (frB nd sl mb lk sq (dl d)) / 256, crcS (frB nd sl mb lk sq (dl d)) % 256]) := by
  simp [withSum, frB, dl_len]
 have hl2 := withSum_len (frB nd sl mb lk sq (dl d))
 rw [hlen] at hl2 p1 p2 p3
 have hdl := dl_len d
 have hmb : mb / 256 * 256 + mb % 256 = mb := by omega
 refine ⟨?_, ?_⟩
 ·unfold decOk
  rw [hl2, show 7 + d.size + 2 - 2 = 7 + d.size by omega, show 7 + d.size + 2 - 1 = 7 + d.size + 1 by omega, p1, p2, p3]
  have e1 : decide (7 ≤ 7 + d.size + 2) = true := decide_eq_true (by omega)
  have e2 : decide (crcS (frB nd sl mb lk sq (dl d)) = crcS (frB nd sl mb lk sq (dl d)) / 256 * 256 + crcS (frB nd sl mb lk sq (dl d)) % 256) = true := decide_eq_true (by omega)
  rw [e1, e2]
  unfold decG
  rw [hl2, hw]
  simp only [List.getD_cons_zero, List.getD_cons_succ]
  rw [if_neg (by omega), hmb]
  have e3 : decide (7 + d.size + 2 = 9 + d.size) = true := decide_eq_true (by omega)
  rw [e3]
  simp only [Bool.true_and]
  unfold fOk
  apply decide_eq_true
  omega
 ·unfold decF
  rw [hl2, hw]
  simp only [List.getD_cons_zero, List.getD_cons_succ, List.drop_succ_cons, List.drop_zero]
  rw [if_neg (by omega), hmb, show 7 + d.size + 2 - 9 = (dl d).length by omega, List.take_left, strN_dl, show ((lk + 1 : Nat) : Int) - 1 = lk by omega]
theorem back_none (nd sl mb : Nat) (h1 : nd < 16) (h2 : sl < 32) (h3 : mb < 65536) :
 decOk (withSum (frN nd sl mb)) = true ∧ decF (withSum (frN nd sl mb)) = ⟨nd, sl, mb, -1, 0, ⟨#[]⟩⟩ := by
 have hlt := frN_lt nd sl mb h1 h2 h3
 have hcs := crcS_lt _ hlt
 have hw : withSum (frN nd sl mb) = [nd, sl, mb / 256, mb % 256, 0, crcS (frN nd sl mb) / 256, crcS (frN nd sl mb) % 256] := by simp [withSum, frN]
 have hmb : mb / 256 * 256 + mb % 256 = mb := by omega
 refine ⟨?_, ?_⟩
 ·unfold decOk decG
  rw [hw]
  have e2 : decide (crcS ([nd, sl, mb / 256, mb % 256, 0, crcS (frN nd sl mb) / 256, crcS (frN nd sl mb) % 256].take 5) = crcS (frN nd sl mb) / 256 * 256 + crcS (frN nd sl mb) % 256) = true := by
   apply decide_eq_true
   show crcS (frN nd sl mb) = _
   omega
  simp only [List.length_cons, List.length_nil, List.getD_cons_zero, List.getD_cons_succ]
  rw [show (0 + 1 + 1 + 1 + 1 + 1 + 1 + 1 - 2) = 5 from rfl, e2, if_pos trivial, hmb]
  unfold fOk
  simp
  omega
 ·unfold decF
  rw [hw]
  simp only [List.getD_cons_zero, List.getD_cons_succ]
  rw [if_pos trivial, hmb]
  rfl
end Go.Proofs.YtideefjnlakciaaGreatDoor
set_option linter.unusedVariables false
set_option linter.unusedSimpArgs false
namespace Go.Proofs.YtideefjnlakciaaGreatDoor
theorem crcI_small (k y : Nat) (hk : k ≤ 8) (h : y < 256) : crcI k y = y * 2 ^ k := by
 induction k with
 | zero => simp [crcI]
 | succ k ih =>
  have h1 := ih (by omega)
  have hp : 2 ^ k ≤ 128 := Nat.pow_le_pow_right (n := 2) (j := 7) (by omega) (by omega)
  have hlt : y * 2 ^ k < 32768 := Nat.lt_of_le_of_lt (Nat.mul_le_mul (Nat.le_of_lt_succ h) hp) (by omega)
  rw [crcI, h1, crcT, if_neg (by omega), Nat.pow_succ, ← Nat.mul_assoc y, Nat.mul_comm]
theorem crcI_nil (k : Nat) : crcI k 0 = 0 := by
 induction k with
 | zero => rfl
 | succ k ih => rw [crcI, ih]; rfl
theorem split_byte (s : Nat) : s ^^^ (s / 256 * 256) = s % 256 := by
 have h : s / 256 * 256 + s % 256 = s := by omega
 have e := Nat.shiftLeft_add_eq_or_of_lt (show s % 256 < 2 ^ 8 by omega) (s / 256)
 rw [Nat.shiftLeft_eq, show (2 : Nat) ^ 8 = 256 from rfl, h] at e
 have h2 : (s / 256 * 256) ^^^ (s % 256) = s := by
  apply Nat.eq_of_testBit_eq
  intro j
  rw [Nat.testBit_xor]
  have e3 : s.testBit j = ((s / 256 * 256).testBit j || (s % 256).testBit j) := by
   conv => lhs; rw [e]
   rw [Nat.testBit_or]
  rw [e3, show (256 : Nat) = 2 ^ 8 from rfl, Nat.testBit_mul_two_pow, Nat.testBit_mod_two_pow]
  by_cases h8 : 8 ≤ j
  ·have : ¬ j < 8 := by omega
   simp [h8, this]
  ·have : j < 8 := by omega
   simp [h8, this]
 conv => lhs; arg 1; rw [← h2]
 rw [Nat.xor_comm, ← Nat.xor_assoc, Nat.xor_self, Nat.zero_xor]
theorem crc_all (l : List Nat) (x y : Nat) (hx : x < 256) (hy : y < 256) (h : crcS l = x * 256 + y) : crcS (l ++ [x, y]) = 0 := by
 unfold crcS at h ⊢
 rw [List.foldl_append, h, List.foldl_cons, List.foldl_cons, List.foldl_nil]
 have e := split_byte (x * 256 + y)
 rw [show (x * 256 + y) / 256 = x by omega, show (x * 256 + y) % 256 = y by omega] at e
 unfold crcB
 rw [e, crcI_small 8 y (by omega) hy, show (2 : Nat) ^ 8 = 256 from rfl, Nat.xor_self, crcI_nil]
end Go.Proofs.YtideefjnlakciaaGreatDoor
set_option linter.unusedVariables false
set_option linter.unusedSimpArgs false
namespace Go.Proofs.YtideefjnlakciaaGreatDoor
open Go.RowKit
structure OwnB (w : World) (base g cap : Nat) (l : List Nat) : Prop where
 blk : ∃ cur, Blk w g 5 cur ∧ cur.size = cap ∧ cur.toList.take l.length = bv l
 cap_le : cap ≤ 9223372036854775807
 len_le : l.length ≤ cap
 lo : base ≤ g
theorem OwnB.bytes {w : World} {base g cap : Nat} {l : List Nat} (h : OwnB w base g cap l) : BytesAt w (some ⟨g, 0, none⟩) l.length l := by
 obtain ⟨cur, hb, hs, ht⟩ := h.blk
 intro j hj
 refine ⟨g, 0, rfl, ?_⟩
 rw [hb.cell]
 have h1 : cur.toList[j]? = (cur.toList.take l.length)[j]? := by rw [List.getElem?_take_of_lt hj]
 have h2 : cur[j + 0]? = cur.toList[j]? := by simp
 rw [show 0 + j = j + 0 by omega, h2, h1, ht]
 unfold bv
 rw [List.getElem?_map, List.getD, List.getElem?_eq_getElem hj]
 rfl
theorem OwnB.lt {w : World} {base g cap : Nat} {l : List Nat} (h : OwnB w base g cap l) : g < w.heap.size := by
 obtain ⟨cur, hb, _⟩ := h.blk
 exact hb.lt
theorem EncPost.open {w w' : World} {l : List Nat} {e : Ending} (h : EncPost w l e w') (h0 : 0 < l.length) : ∃ g cap, e = .returned (.tuple #[.slice (some ⟨g, 0, none⟩) l.length cap, .nilIface]) ∧ OwnB w' w.heap.size g cap l ∧ Below w.heap.size w w' := by
 obtain ⟨v, he, ho, hB⟩ := h
 have hlen := ho.1
 rcases ho.2 with ⟨_, hz⟩ | ⟨g, cap, cur, hv, hb, hg, hn, hm, hs, ht⟩
 ·omega
 ·subst hv
  exact ⟨g, cap, he, ⟨⟨cur, hg, by omega, by simpa using ht⟩, by unfold maxLen at hm; omega, hn, hb⟩, hB⟩
theorem enc_good (nd sl mb lk sq : Int) (d : ByteArray) (h : fOk nd sl mb lk sq d.size = true) : ∃ l : List Nat, (∀ w, Calls Tryz.prog 178 #[frV nd sl mb lk sq d] w (EncPost w l)) ∧ (∀ x ∈ l, x < 256) ∧ 7 ≤ l.length ∧ l.length ≤ 49 ∧ decOk l = true ∧ decF l = ⟨nd, sl, mb, lk, sq, d⟩ ∧ crcS l = 0 := by
 unfold fOk at h
 have h := of_decide_eq_true h
 obtain ⟨⟨a1, a2, a3, a4, a5, a6⟩, hc⟩ := h
 obtain ⟨nd, rfl⟩ := Int.eq_ofNat_of_zero_le a1
 obtain ⟨sl, rfl⟩ := Int.eq_ofNat_of_zero_le a3
 obtain ⟨mb, rfl⟩ := Int.eq_ofNat_of_zero_le a5
 rcases hc with ⟨rfl, rfl, hz⟩ | ⟨b1, b2, b3, b4, b5⟩
 ·obtain rfl := size_empty hz
  have hlt := frN_lt nd sl mb (by omega) (by omega) (by omega)
  have hcs := crcS_lt _ hlt
  obtain ⟨k1, k2⟩ := back_none nd sl mb (by omega) (by omega) (by omega)
  refine ⟨_, fun w => enc_none nd sl mb w (by omega) (by omega) (by omega), withSum_lt _ hlt, by simp [withSum_len, frN], by simp [withSum_len, frN], k1, k2, ?_⟩
  exact crc_all _ _ _ (by omega) (by omega) (by omega)
 ·obtain ⟨lk, rfl⟩ := Int.eq_ofNat_of_zero_le b1
  obtain ⟨sq, rfl⟩ := Int.eq_ofNat_of_zero_le b3
  have hlt := frB_lt nd sl mb lk sq d (by omega) (by omega) (by omega) (by omega) (by omega) b5
  have hcs := crcS_lt _ hlt
  obtain ⟨k1, k2⟩ := back_some nd sl mb lk sq d (by omega) (by omega) (by omega) (by omega) (by omega) b5
  refine ⟨_, fun w => enc_some nd sl mb lk sq d w (by omega) (by omega) (by omega) (by omega) (by omega) b5, withSum_lt _ hlt, by simp only [withSum_len, frB, List.length_append, List.length_cons, List.length_nil]; omega, by simp only [withSum_len, frB, List.length_append, List.length_cons, List.length_nil, dl_len]; omega, k1, k2, ?_⟩
  exact crc_all _ _ _ (by omega) (by omega) (by omega)
end Go.Proofs.YtideefjnlakciaaGreatDoor
namespace Go.Proofs
open Go.Shelf
def Tryz.srtdL_ren : Go.Shelf.Ren := ⟨fun | 6 => 136 | 8 => 171 | 9 => 122 | 11 => 198 | 13 => 163 | 12 => 162 | 23 => 196 | 24 => 158 | 14 => 187 | 15 => 188 | 16 => 189 | 17 => 190 | 18 => 191 | 19 => 192 | 20 => 193 | 21 => 194 | 22 => 195 | 25 => 209 | 26 => 210 | 27 => 211 | 28 => 212 | 29 => 213 | 30 => 214 | 31 => 216 | n => n, fun | 26 => 3 | 28 => 215 | 24 => 33 | 0 => 0 | 3 => 3 | 37 => 188 | 48 => 250 | 50 => 185 | 4 => 4 | 40 => 296 | 39 => 295 | 45 => 62 | 5 => 5 | 9 => 9 | 51 => 316 | 55 => 320 | 57 => 323 | 58 => 324 | 33 => 138 | n => n, fun | n => n⟩
theorem Tryz.srtdL : Go.Proofs.SlLaysZI.n6 Tryz.prog Tryz.srtdL_ren := {
 mixed := by kernel_rfl
 f6 := ⟨Tryz.f136.name, by decide, Tryz.func136.trans (congrArg some (by kernel_rfl))⟩
 f8 := ⟨Tryz.f171.name, by decide, Tryz.func171.trans (congrArg some (by kernel_rfl))⟩
 f11 := ⟨Tryz.f198.name, by decide, Tryz.func198.trans (congrArg some (by kernel_rfl))⟩
 t0 := Tryz.underlying0
 a0 := Tryz.isAgg0
 z0 := Tryz.sizeOf0
 v0 := Tryz.zeroValue0
 t24 := Tryz.underlying33
 a24 := Tryz.isAgg33
 z24 := Tryz.sizeOf33
 v24 := Tryz.zeroValue33
 t26 := Tryz.underlying3
 a26 := Tryz.isAgg3
 z26 := Tryz.sizeOf3
 v26 := Tryz.zeroValue3
 t28 := Tryz.underlying215
 a28 := Tryz.isAgg215
 z28 := Tryz.sizeOf215
 v28 := Tryz.zeroValue215
 i26 := by kernel_rfl }
def Tryz.sortL_ren : Go.Shelf.Ren := ⟨fun | 5 => 122 | 8 => 163 | 7 => 162 | 19 => 196 | 20 => 158 | 10 => 187 | 11 => 188 | 12 => 189 | 13 => 190 | 14 => 191 | 15 => 192 | 16 => 193 | 17 => 194 | 18 => 195 | 30 => 209 | 31 => 210 | 32 => 211 | 33 => 212 | 34 => 213 | 35 => 214 | 40 => 216 | n => n, fun | 23 => 33 | 25 => 3 | 3 => 3 | 32 => 188 | 22 => 33 | 0 => 0 | 44 => 250 | 46 => 185 | 4 => 4 | 36 => 296 | 35 => 295 | 41 => 62 | 5 => 5 | 9 => 9 | 53 => 316 | 57 => 320 | 63 => 323 | 64 => 324 | n => n, fun | n => n⟩
theorem Tryz.sortL : Go.Proofs.SlLaysM.n5 Tryz.prog Tryz.sortL_ren := {
 mixed := by kernel_rfl
 f5 := ⟨Tryz.f122.name, by decide, Tryz.func122.trans (congrArg some (by kernel_rfl))⟩
 f7 := ⟨Tryz.f162.name, by decide, Tryz.func162.trans (congrArg some (by kernel_rfl))⟩
 f8 := Tryz.func163.trans (congrArg some (by kernel_rfl))
 f10 := ⟨Tryz.f187.name, by decide, Tryz.func187.trans (congrArg some (by kernel_rfl))⟩
 f11 := ⟨Tryz.f188.name, by decide, Tryz.func188.trans (congrArg some (by kernel_rfl))⟩
 f12 := ⟨Tryz.f189.name, by decide, Tryz.func189.trans (congrArg some (by kernel_rfl))⟩
 f13 := ⟨Tryz.f190.name, by decide, Tryz.func190.trans (congrArg some (by kernel_rfl))⟩
 f14 := ⟨Tryz.f191.name, by decide, Tryz.func191.trans (congrArg some (by kernel_rfl))⟩
 f15 := ⟨Tryz.f192.name, by decide, Tryz.func192.trans (congrArg some (by kernel_rfl))⟩
 f16 := ⟨Tryz.f193.name, by decide, Tryz.func193.trans (congrArg some (by kernel_rfl))⟩
 f17 := ⟨Tryz.f194.name, by decide, Tryz.func194.trans (congrArg some (by kernel_rfl))⟩
 f18 := ⟨Tryz.f195.name, by decide, Tryz.func195.trans (congrArg some (by kernel_rfl))⟩
 f19 := Tryz.func196.trans (congrArg some (by kernel_rfl))
 f20 := Tryz.func158.trans (congrArg some (by kernel_rfl))
 f30 := ⟨Tryz.f209.name, by decide, Tryz.func209.trans (congrArg some (by kernel_rfl))⟩
 f31 := Tryz.func210.trans (congrArg some (by kernel_rfl))
 f32 := Tryz.func211.trans (congrArg some (by kernel_rfl))
 f33 := ⟨Tryz.f212.name, by decide, Tryz.func212.trans (congrArg some (by kernel_rfl))⟩
 f34 := ⟨Tryz.f213.name, by decide, Tryz.func213.trans (congrArg some (by kernel_rfl))⟩
 f35 := ⟨Tryz.f214.name, by decide, Tryz.func214.trans (congrArg some (by kernel_rfl))⟩
 f40 := ⟨Tryz.f216.name, by decide, Tryz.func216.trans (congrArg some (by kernel_rfl))⟩
 t0 := Tryz.underlying0
 a0 := Tryz.isAgg0
 z0 := Tryz.sizeOf0
 v0 := Tryz.zeroValue0
 t3 := Tryz.underlying3
 a3 := Tryz.isAgg3
 z3 := Tryz.sizeOf3
 v3 := Tryz.zeroValue3
 t4 := Tryz.underlying4
 a4 := Tryz.isAgg4
 z4 := Tryz.sizeOf4
 v4 := Tryz.zeroValue4
 t5 := Tryz.underlying5
 a5 := Tryz.isAgg5
 z5 := Tryz.sizeOf5
 v5 := Tryz.zeroValue5
 t9 := Tryz.underlying9
 a9 := Tryz.isAgg9
 z9 := Tryz.sizeOf9
 v9 := Tryz.zeroValue9
 t22 := Tryz.underlying33
 a22 := Tryz.isAgg33
 z22 := Tryz.sizeOf33
 v22 := Tryz.zeroValue33
 t23 := Tryz.underlying33
 a23 := Tryz.isAgg33
 z23 := Tryz.sizeOf33
 v23 := Tryz.zeroValue33
 t25 := Tryz.underlying3
 a25 := Tryz.isAgg3
 z25 := Tryz.sizeOf3
 v25 := Tryz.zeroValue3
 t32 := Tryz.underlying188
 a32 := Tryz.isAgg188
 z32 := Tryz.sizeOf188
 v32 := Tryz.zeroValue188
 t35 := Tryz.underlying295
 a35 := Tryz.isAgg295
 z35 := Tryz.sizeOf295
 v35 := Tryz.zeroValue295
 t36 := Tryz.underlying296
 a36 := Tryz.isAgg296
 z36 := Tryz.sizeOf296
 v36 := Tryz.zeroValue296
 t41 := Tryz.underlying62
 a41 := Tryz.isAgg62
 z41 := Tryz.sizeOf62
 v41 := Tryz.zeroValue62
 t44 := Tryz.underlying250
 a44 := Tryz.isAgg250
 z44 := Tryz.sizeOf250
 v44 := Tryz.zeroValue250
 t46 := Tryz.underlying185
 a46 := Tryz.isAgg185
 z46 := Tryz.sizeOf185
 v46 := Tryz.zeroValue185
 t53 := Tryz.underlying316
 a53 := Tryz.isAgg316
 z53 := Tryz.sizeOf316
 v53 := Tryz.zeroValue316
 t57 := Tryz.underlying320
 a57 := Tryz.isAgg320
 z57 := Tryz.sizeOf320
 v57 := Tryz.zeroValue320
 t63 := Tryz.underlying323
 a63 := Tryz.isAgg323
 z63 := Tryz.sizeOf323
 v63 := Tryz.zeroValue323
 t64 := Tryz.underlying324
 a64 := Tryz.isAgg324
 z64 := Tryz.sizeOf324
 v64 := Tryz.zeroValue324 }
end Go.Proofs
namespace Go.Proofs.YtideefjnlakciaaGreatDoor
section
open Go Go.RowKit Go.Maps Go.Sort Go.Shelf
variable {P : Program} {ρ : Ren}
def SeqGivesB {α : Type} (F : Fence) (n : Nat) (P : Program) (g : Nat) (lb : Array Value) (enc : α → Value) (S : List α → Prop) (N : Nat) (w : World) : Prop :=
 ∀ (l : Nat) (J : List α → World → Prop) (W : World), Below w.heap.size w W → AbidesFrom W.heap.size J → (∀ s W1, J s W1 → Below w.heap.size w W1) →
  (∀ pre x W1, J pre W1 → pre.length < N → YieldAt F (n - 1) P l #[enc x] W1 fun e W' => e = .returned (.bool true) ∧ J (pre ++ [x]) W' ∧ KeepsWalks W1 W') →
  J [] W →
  CallsIn F n P g (#[.func (.yield l) #[] #[]] ++ lb) W fun e W' => (∃ v, e = .returned v) ∧ ∃ xs, S xs ∧ J xs W'
theorem SeqGivesB.bounded {α : Type} {F : Fence} {n : Nat} {P : Program} {g : Nat} {lb : Array Value} {enc : α → Value} {S : List α → Prop} {N : Nat} {w : World}
 (h : SeqGivesB F n P g lb enc S N w) : SeqGivesB F n P g lb enc (fun xs => S xs ∧ xs.length ≤ N) N w := fun l J W hW hJ hB hY h0 => by
 refine (h l (fun xs W' => J xs W' ∧ xs.length ≤ N) W hW (fun s A B row hs hg hr => ⟨hJ s A B row hs.1 hg hr, hs.2⟩) (fun s W1 hs => hB s W1 hs.1)
  (fun pre x W1 hj hl => (hY pre x W1 hj.1 hl).mono (fun e w' hr => ⟨hr.1, ⟨hr.2.1, by simp; omega⟩, hr.2.2⟩)) ⟨h0, Nat.zero_le _⟩).mono ?_
 rintro e W' ⟨hv, xs, hS, hJ', hlen⟩
 exact ⟨hv, xs, ⟨hS, hlen⟩, hJ'⟩
set_option maxRecDepth 100000 in
set_option maxHeartbeats 2000000 in
theorem appendSeq_b (L : SlLaysZI.n11 P ρ) (F : Fence) (n : Nat) (h11 : F.fn (ρ.f 11)) (hro : F.round = none) (hn : 2 ≤ n) (g : Nat) (lb : Array Value) (hFg : F.fn g) (eg : ∀ args w, (callFunc g args).run P w = .ok (.enter g args) w)
 (S : List Int → Prop) (N : Nat) (hN : N ≤ maxLen) (hNb : N * 8 ≤ 140737488355328) (w : World) (hseq : SeqGivesB F (n - 1) P g lb encZ S N w) :
 CallsIn F n P (ρ.f 11) #[.slice none 0 0, .func (.func g) #[] lb] w fun e w' => ∃ (v : Value) (ss : List Int), e = .returned v ∧ S ss ∧ w'.ownsRow w.heap.size (ρ.t 26) 1 v ss.length (ss.map encZ) ∧ (v = .slice none 0 0 ↔ ss = []) ∧ Below w.heap.size w w' := by
 have h1 : 1 ≤ n := by omega
 have mixed := L.mixed; have t0 := L.t0; have a0 := L.a0; have z0 := L.z0; have v0 := L.v0; have t24 := L.t24; have a24 := L.a24; have z24 := L.z24; have v24 := L.v24; have t26 := L.t26; have a26 := L.a26; have z26 := L.z26; have v26 := L.v26; have t28 := L.t28; have a28 := L.a28; have z28 := L.z28; have v28 := L.v28
 have hne : ρ.t 24 ≠ ρ.t 26 := fun e => by have h := L.t24; rw [e, L.t26] at h; cases h
 have u0 := run_underlying L.t0; have u24 := run_underlying L.t24; have u26 := run_underlying L.t26; have u28 := run_underlying L.t28
 obtain ⟨_, _, FG⟩ := L.f11
 refine callsIn_of_wp_marks FG rfl h11 ?_ hro
 simp only [SlBodyZ.n11_ntmps ρ, List.size_toArray, List.length_cons, List.length_nil, Nat.reduceAdd, Nat.reduceSub, Array.replicate_succ, Array.replicate_zero, List.push_toArray, List.append_toArray, List.nil_append, List.cons_append]
 gi_wp2
 refine wpIn_rangeFunc ?_
 intro fn hfn
 rw [hro]
 obtain ⟨W0, hW0⟩ : ∃ W0, w.alloc (.cells #[.slice none 0 0] (ρ.t 24)) = W0 := ⟨_, rfl⟩
 have hs0 : W0.heap.size = w.heap.size + 1 := by rw [← hW0]; simp
 have hv0 : W0.heap[w.heap.size]? = some (.cells #[.slice none 0 0] (ρ.t 24) (0, 0)) := by rw [← hW0]; exact World.alloc_heap_new w _
 have hb0 : Below w.heap.size w W0 := by rw [← hW0]; exact (Below.refl _ w).alloc (Nat.le_refl _) _
 rw [hW0]
 obtain ⟨W1, hW1⟩ : ∃ W1, (W0.alloc (.deferred (some []))).alloc (.loop (AnyZI.apRec ρ fn (.func (.func g) #[] lb) w.heap.size W0.heap.size .ready none)) = W1 := ⟨_, rfl⟩
 have hold : ∀ k, k < W0.heap.size → W1.heap[k]? = W0.heap[k]? := fun k hk => by
  rw [← hW1]; exact (Below.heap_alloc _ _ k (by simp; omega)).trans (Below.heap_alloc _ _ k hk)
 have hb1 : Below w.heap.size w W1 := by rw [← hW1]; exact (hb0.alloc hb0.size _).alloc (by have := hb0.size; simp; omega) _
 have hs1 : W1.heap.size = W0.heap.size + 2 := by rw [← hW1]; simp
 have hM : AnyZI.ApAt ρ w fn (.func (.func g) #[] lb) w.heap.size (W0.heap.size + 1) W0.heap.size [] W1 :=
  ⟨⟨_, (hold w.heap.size (by omega)).trans hv0, ⟨rfl, .inl ⟨rfl, rfl⟩⟩, by simp⟩,
   by rw [← hW1]; have := World.alloc_heap_new (W0.alloc (.deferred (some []))) (.loop (AnyZI.apRec ρ fn (.func (.func g) #[] lb) w.heap.size W0.heap.size .ready none)); rwa [World.size_alloc] at this,
   by rw [← hW1]; exact (Below.heap_alloc _ _ _ (by simp)).trans (World.alloc_heap_new W0 _), hb1⟩
 refine ⟨W0.heap.size + 1, [{ target := .collected W0.heap.size, args := #[] }], W1, { target := .fn (.func g) lb, args := #[.func (.yield (W0.heap.size + 1)) #[] #[]] }, W1, g,
  #[.func (.yield (W0.heap.size + 1)) #[] #[]] ++ lb, W1, ?_, ?_, ?_, ?_, fun _ => h1, ?_⟩
 ·rw [← hW1]; exact run_enterLoop_outer _ _ _ _ _
 ·simp [resolve, go_sem]
 ·intro f' hf'; simp [Target.leads] at hf'; subst hf'; exact hFg
 ·simp [invoke, go_sem, eg]
 ·refine (hseq (W0.heap.size + 1) (AnyZI.ApAt ρ w fn (.func (.func g) #[] lb) w.heap.size (W0.heap.size + 1) W0.heap.size) W1 hb1 (AnyZI.ap_abides ρ _ _ _ _ _ _ _ hb1.size) (fun s W h => h.below)
   (fun pre x W hJ hl => AnyZI.apYield { L with } F (n - 1 - 1) w fn hfn _ w.heap.size (W0.heap.size + 1) W0.heap.size (by omega) (by omega) (by omega) (Nat.le_refl _) (by omega) N hN hNb pre x W hJ hl) hM).mono ?_
  rintro e W2 ⟨⟨v0, rfl⟩, ss, hS, h2⟩
  obtain ⟨v, hv, hrow, hnil⟩ := h2.box
  have hend := run_endLoop (P := P) h2.L (by simp [AnyZI.apRec])
  obtain ⟨W3, hW3⟩ : ∃ W3, W2.putObj (W0.heap.size + 1) (.loop { AnyZI.apRec ρ fn (.func (.func g) #[] lb) w.heap.size W0.heap.size .ready none with state := .exhausted }) = W3 := ⟨_, rfl⟩
  rw [hW3] at hend
  have hg3 : W2.grownBy W3 (some (W0.heap.size + 1)) := by rw [← hW3]; exact grownBy_putObj_a _ _ _
  have hv3 : W3.heap[w.heap.size]? = some (.cells #[v] (ρ.t 24) (0, 0)) := by rw [← hW3]; exact (World.putObj_heap_other (by omega)).trans hv
  have hK3 : W3.heap[W0.heap.size]? = some (.deferred (some [])) := by rw [← hW3]; exact (World.putObj_heap_other (by omega)).trans h2.K
  have hrow3 := hrow.kept hg3 (ownsRow_ne_a hrow h2.L (fun cur e => by first | cases e | exact hne (Obj.cells.inj e).2.1))
  have hb3 : Below w.heap.size w W3 := h2.below.grown hg3 h2.below.size (fun k e => by cases e; omega)
  obtain ⟨hc3, hf3⟩ := cell_of_box_a hv3
  clear hW3
  refine ⟨none, W3, hend, ?_⟩
  gi_wp2
  rw [← hs0]
  refine ⟨by simp, .inl ⟨_, _, rfl, run_takeDeferred hK3, ?_⟩⟩
  exact ⟨_, results_tmp rfl _ _ _, v, ss, rfl, hS, hrow3.kept (grownBy_putObj_a _ _ _) (ownsRow_ne_a hrow3 hK3 (fun cur e => by first | cases e | exact hne (Obj.cells.inj e).2.1)), hnil, hb3.grown (grownBy_putObj_a _ _ _) hb3.size (fun k e => by cases e; omega)⟩
set_option maxHeartbeats 1000000 in
theorem collect_b (L : SlLaysZI.n8 P ρ) (F : Fence) (n : Nat) (h8 : F.fn (ρ.f 8)) (h11 : F.fn (ρ.f 11)) (hro : F.round = none) (hn : 3 ≤ n) (g : Nat) (lb : Array Value) (hFg : F.fn g) (eg : ∀ args w, (callFunc g args).run P w = .ok (.enter g args) w)
 (S : List Int → Prop) (N : Nat) (hN : N ≤ maxLen) (hNb : N * 8 ≤ 140737488355328) (w : World) (hseq : SeqGivesB F (n - 1 - 1) P g lb encZ S N w) :
 CallsIn F n P (ρ.f 8) #[.func (.func g) #[] lb] w fun e w' => ∃ (v : Value) (ss : List Int), e = .returned v ∧ S ss ∧ w'.ownsRow w.heap.size (ρ.t 26) 1 v ss.length (ss.map encZ) ∧ (v = .slice none 0 0 ↔ ss = []) ∧ Below w.heap.size w w' := by
 have h1 : 1 ≤ n := by omega
 have e11 : ∀ args w, (callFunc (ρ.f 11) args).run P w = .ok (.enter (ρ.f 11) args) w := L.f11.enters rfl
 have mixed := L.mixed; have t0 := L.t0; have a0 := L.a0; have z0 := L.z0; have v0 := L.v0; have t24 := L.t24; have a24 := L.a24; have z24 := L.z24; have v24 := L.v24; have t26 := L.t26; have a26 := L.a26; have z26 := L.z26; have v26 := L.v26; have t28 := L.t28; have a28 := L.a28; have z28 := L.z28; have v28 := L.v28
 have u0 := run_underlying L.t0; have u24 := run_underlying L.t24; have u26 := run_underlying L.t26; have u28 := run_underlying L.t28
 obtain ⟨_, _, FG⟩ := L.f8
 refine callsIn_of_wp FG rfl h8 ?_ hro
 simp only [SlBodyZ.n8_ntmps ρ, List.size_toArray, List.length_cons, List.length_nil, Nat.reduceAdd, Nat.reduceSub, Array.replicate_succ, Array.replicate_zero, List.push_toArray, List.append_toArray, List.nil_append, List.cons_append]
 gi_wp2_with (gi_at_fn (ρ.f 11); refine (appendSeq_b { L with } F (n - 1) h11 hro (by omega) g lb hFg eg S N hN hNb _ hseq).mono ?_; rintro e w' ⟨v, ss, rfl, hS, hrow, hnil, hb⟩)
 go_ret
 exact ⟨v, ss, rfl, hS, hrow, hnil, hb⟩
set_option maxRecDepth 100000 in
set_option maxHeartbeats 2000000 in
theorem sorted_b (L : SlLaysZI.n6 P ρ) (F : Fence) (n : Nat) (h6 : F.fn (ρ.f 6)) (h8 : F.fn (ρ.f 8)) (h9 : F.fn (ρ.f 9)) (h11 : F.fn (ρ.f 11)) (hro : F.round = none) (hn : 4 ≤ n) (hsort : AnyZI.SortsIn P ρ F (n - 1)) (e9 : ∀ args w, (callFunc (ρ.f 9) args).run P w = .ok (.enter (ρ.f 9) args) w) (g : Nat) (lb : Array Value) (hFg : F.fn g) (eg : ∀ args w, (callFunc g args).run P w = .ok (.enter g args) w)
 (S : List Int → Prop) (N : Nat) (hN : N ≤ maxLen) (hNb : N * 8 ≤ 140737488355328) (w : World) (hseq : SeqGivesB F (n - 1 - 1 - 1) P g lb encZ S N w) :
 CallsIn F n P (ρ.f 6) #[.func (.func g) #[] lb] w fun e w' => ∃ (v : Value) (ss : List Int), e = .returned v ∧ S ss ∧
  w'.ownsRow w.heap.size (ρ.t 26) 1 v ss.length ((ss.mergeSort (fun x y => decide (x ≤ y))).map encZ) ∧ (v = .slice none 0 0 ↔ ss = []) ∧ Below w.heap.size w w' := by
 have h1 : 1 ≤ n := by omega
 have e8 : ∀ args w, (callFunc (ρ.f 8) args).run P w = .ok (.enter (ρ.f 8) args) w := L.f8.enters rfl
 have mixed := L.mixed; have t0 := L.t0; have a0 := L.a0; have z0 := L.z0; have v0 := L.v0; have t24 := L.t24; have a24 := L.a24; have z24 := L.z24; have v24 := L.v24; have t26 := L.t26; have a26 := L.a26; have z26 := L.z26; have v26 := L.v26; have t28 := L.t28; have a28 := L.a28; have z28 := L.z28; have v28 := L.v28
 have u0 := run_underlying L.t0; have u24 := run_underlying L.t24; have u26 := run_underlying L.t26; have u28 := run_underlying L.t28
 obtain ⟨_, _, FG⟩ := L.f6
 refine callsIn_of_wp FG rfl h6 ?_ hro
 simp only [SlBodyZ.n6_ntmps ρ, List.size_toArray, List.length_cons, List.length_nil, Nat.reduceAdd, Nat.reduceSub, Array.replicate_succ, Array.replicate_zero, List.push_toArray, List.append_toArray, List.nil_append, List.cons_append]
 gi_wp2_with (gi_at_fn (ρ.f 8); refine (collect_b { L with } F (n - 1) h8 h11 hro (by omega) g lb hFg eg _ N hN hNb _ hseq.bounded).mono ?_; rintro e W ⟨v, ss, rfl, ⟨hS, hlen⟩, hrow, hnil, hb⟩)
 rcases hrow.2 with ⟨rfl, hz⟩ | ⟨gb, cap, cur, rfl, hbase, hgb, r1, r2, r3, r4⟩
 ·
  have hss : ss = [] := List.eq_nil_of_length_eq_zero hz
  subst hss
  gi_wp2_with (gi_at_fn (ρ.f 9); refine (hsort.2 none 0 W).mono ?_; rintro e w' ⟨rfl, rfl⟩)
  go_ret
  exact ⟨.slice none 0 0, [], rfl, hS, by simpa using hrow, by simp, hb⟩
 ·have hH : Holds encZ W gb 0 ss.toArray := holds_of_block_i hgb (by simpa using r4)
  have hgl : gb < W.heap.size := (Array.getElem?_eq_some_iff.1 hgb).1
  have hsz : ss.length < 4611686018427387904 := by omega
  have cS := hsort.1 gb 0 cap ss W hH hgl hsz
  gi_wp2_with (gi_at_fn (ρ.f 9); refine cS.mono ?_; rintro e w' ⟨rfl, nn, os, rfl⟩)
  go_ret
  exact ⟨_, ss, rfl, hS, ownsRow_sorted_i (by simp) hbase hgb r1 r2 r3, hnil, hb.grown (grownBy_sorted_i _) hb.size (fun j hj => by cases hj; exact hbase)⟩
end
section
def srt (l : List Int) : List Int := l.mergeSort (fun a b => decide (a ≤ b))
theorem srt_perm (l : List Int) : (srt l).Perm l := List.mergeSort_perm _ _
theorem srt_sorted (l : List Int) : (srt l).Pairwise (· ≤ ·) := by
 have := List.pairwise_mergeSort (le := fun a b : Int => decide (a ≤ b)) (fun a b c h1 h2 => by simp at *; omega) (fun a b => by simp; omega) l
 exact this.imp (fun h => by simpa using h)
theorem srt_len (l : List Int) : (srt l).length = l.length := (srt_perm l).length_eq
theorem srt_eq {s l : List Int} (h : s.Perm l) (hs : s.Pairwise (· ≤ ·)) : s = srt l :=
 List.Perm.eq_of_pairwise (le := (· ≤ ·)) (fun _ _ _ _ h1 h2 => Int.le_antisymm h1 h2) hs (srt_sorted l) (h.trans (srt_perm l).symm)
def outT (z : Int) : Bool := decide (z < -1099511627776) || decide (1099511627776 < z)
def midE (l : List Int) (f : Int) : Int := if f < 0 ∨ (l.length : Int) < 2 * f + 1 then 1 else if l.any outT = true then 2 else 0
def midN (l : List Int) (f : Nat) : Int := ((srt l).getD f 0 + (srt l).getD (l.length - 1 - f) 0) / 2
def midV (l : List Int) (f : Int) : Int := if midE l f = 0 then midN l f.toNat else 0
section
variable {n f : Nat} {good : Nat → Bool} {r : Nat → Int}
end
end
section
open Go Go.RowKit Go.Maps Go.Sort Go.Shelf
def IsL (w : World) (A : Option Addr) (zs : List Int) : Prop := ∀ j, j < zs.length → ∃ b off, A = some ⟨b, off, none⟩ ∧ w.cell? ⟨b, off + j, none⟩ = some (.int .i64 (zs.getD j 0))
theorem IsL.below {B : Nat} {w w' : World} {A : Option Addr} {zs : List Int} (h : IsL w A zs) (hw : w.heap.size ≤ B) (hB : Below B w w') : IsL w' A zs := fun j hj => by
 obtain ⟨b, off, e, hc⟩ := h j hj
 exact ⟨b, off, e, (hB.cell (p := ⟨b, off + j, none⟩) (Nat.lt_of_lt_of_le (World.block_lt_of_cell? _ _ hc) hw)).trans hc⟩
set_option maxRecDepth 100000 in
theorem values_at (A : Option Addr) (n c : Nat) (w : World) :
 Calls Tryz.prog 137 #[.slice A n c] w fun e w' => e = .returned (.func (.func 172) #[] #[.pointer (some ⟨w.heap.size, 0, none⟩)]) ∧ w' = w.alloc (.cells #[.slice A n c] 33) := by
 go_enter Tryz.func137, Tryz.ntmps137
 go_wp2_with fail
 go_ret
 exact ⟨rfl, rfl⟩
attribute [local go_sem] Oper.semAt_some
set_option maxRecDepth 100000 in
set_option maxHeartbeats 2000000 in
theorem vals_gives (F : Fence) (n : Nat) (h : F.fn 172) (hro : F.round = none) (hn : 1 ≤ n) (Bs : Nat) (A : Option Addr) (cap : Nat) (zs : List Int) (w : World) (hmax : zs.length ≤ 9223372036854775807) (hBs : Bs < w.heap.size)
 (hc : w.cell? ⟨Bs, 0, none⟩ = some (.slice A zs.length cap)) (hI : IsL w A zs) :
 SeqGivesB F n Tryz.prog 172 #[.pointer (some ⟨Bs, 0, none⟩)] encZ (fun ys => ys = zs) zs.length w := fun l J W hW _ hBJ hY h0 => by
 have hcW : W.cell? ⟨Bs, 0, none⟩ = some (.slice A zs.length cap) := (hW.cell (p := ⟨Bs, 0, none⟩) hBs).trans hc
 show CallsIn F n Tryz.prog 172 #[.func (.yield l) #[] #[], .pointer (some ⟨Bs, 0, none⟩)] W _
 refine callsIn_of_wp Tryz.func172 rfl h ?_ hro
 simp only [Tryz.ntmps172, List.size_toArray, List.length_cons, List.length_nil, Nat.reduceAdd, Nat.reduceSub, Array.replicate_succ, Array.replicate_zero, List.push_toArray, List.append_toArray, List.nil_append, List.cons_append]
 gi_wp2
 gi_loopw [7] (fun i wr => ∃ k : Nat, k ≤ zs.length ∧ i = .int .i64 k ∧ J (zs.take k) wr) (fun i _ => zs.length - (intOf i).toNat)
 case atStart => exact ⟨0, Nat.zero_le _, rfl, by simpa using h0⟩
 case round =>
  obtain ⟨k, hk, rfl, hJs⟩ := hrel
  by_cases hlt : k < zs.length
  ·obtain ⟨b, off, rfl, hcell⟩ := hI k hlt
   have hcx := ((hBJ _ _ hJs).cell (p := ⟨b, off + k, none⟩) (World.block_lt_of_cell? _ _ hcell)).trans hcell
   have hlt2 : (k : Int) < (zs.length : Int) := by omega
   have e : zs.take (k + 1) = zs.take k ++ [zs.getD k 0] := by rw [List.take_add_one]; simp [List.getD, List.getElem?_eq_getElem hlt]
   have HL := hide hlt; clear hlt
   obtain ⟨x, hx⟩ : ∃ x, zs.getD k 0 = x := ⟨_, rfl⟩
   rw [hx] at e hcx
   have HE := hide e
   obtain ⟨fn, tmps, assign, body, hy, hR⟩ := hY _ x wr hJs (by have := HL.out; simp; omega)
   clear hI hc hBJ e hx hcell
   gi_wp2
   refine hR.mono ?_
   rintro e W3 ⟨rfl, hJ3, hk3⟩
   gi_wp2
   go_roundw
   case rel => exact ⟨k + 1, by have := HL.out; omega, by simp, by rw [HE.out]; exact hJ3⟩
   case measure => simp [intOf]; omega
  ·obtain rfl : k = zs.length := by omega
   gi_wp2
   go_end0
   exact ⟨⟨_, rfl⟩, _, rfl, by simpa using hJs⟩
theorem sort_in (m : Nat) : AnyZI.SortsIn Tryz.prog Tryz.srtdL_ren Fence.wide m :=
 ⟨fun blk off cap ss W hH hblk hsz => callsIn_wide.2 (AnyM.slices_Sort_int Tryz.sortL blk off cap ss W hH hblk hsz), fun p cap W => callsIn_wide.2 (AnyM.slices_Sort_int_none Tryz.sortL p cap W)⟩
theorem sorted_at (A : Option Addr) (cap : Nat) (zs : List Int) (w : World) (hmax : zs.length ≤ 100000) (hI : IsL w A zs) :
 Calls Tryz.prog 136 #[.func (.func 172) #[] #[.pointer (some ⟨w.heap.size, 0, none⟩)]] (w.alloc (.cells #[.slice A zs.length cap] 33)) fun e w' => ∃ v, e = .returned v ∧
  w'.ownsRow (w.heap.size + 1) 3 1 v zs.length ((srt zs).map (Value.int .i64)) ∧ Below w.heap.size w w' := by
 refine (callsIn_wide (n := 5)).1 ?_
 have hb : Below w.heap.size w (w.alloc (.cells #[.slice A zs.length cap] 33)) := (Below.refl _ w).alloc (Nat.le_refl _) _
 have hseq := vals_gives Fence.wide 2 trivial rfl (by omega) w.heap.size A cap zs (w.alloc (.cells #[.slice A zs.length cap] 33)) (by omega) (by simp) (Blk.new w 33 #[.slice A zs.length cap]).cells1.1 (hI.below (Nat.le_refl _) hb)
 have cS := sorted_b Tryz.srtdL Fence.wide 5 trivial trivial trivial trivial rfl (by omega) (sort_in _) (enters_of Tryz.func122 (by kernel_rfl) rfl) 172 #[.pointer (some ⟨w.heap.size, 0, none⟩)] trivial (enters_of Tryz.func172 (by kernel_rfl) rfl) _ _ (by unfold maxLen; omega) (by omega) _ hseq
 refine cS.mono ?_
 rintro e w' ⟨v, ss, rfl, rfl, hrow, -, hB⟩
 refine ⟨v, rfl, ?_, hb.trans (hB.mono (by simp))⟩
 have : (w.alloc (.cells #[.slice A ss.length cap] 33)).heap.size = w.heap.size + 1 := by simp
 rw [this] at hrow
 exact hrow
theorem block_of_own {w : World} {base n : Nat} {e : TypeId} {v : Value} {xs : List Value} (h : w.ownsRow base e 1 v n xs) (hn : 0 < n) : ∃ g c cur, v = .slice (some ⟨g, 0, none⟩) n c ∧ base ≤ g ∧ w.heap[g]? = some (.cells cur e (0, 0)) ∧ n ≤ c ∧ c ≤ maxLen ∧ cur.size = c * 1 ∧ cur.toList.take (n * 1) = xs := by
 rcases h.2 with ⟨_, h0⟩ | ⟨g, c, cur, rfl, hb, hg, h1, h2, h3, h4⟩
 ·omega
 ·exact ⟨g, c, cur, rfl, hb, hg, h1, h2, h3, h4⟩
end
section
open Go Go.RowKit
theorem out_any (n : Int) (w : World) : Calls Tryz.prog 135 #[.int .i64 n] w fun e w' => e = .returned (.bool (outT n)) ∧ w' = w := by
 go_enter Tryz.func135, Tryz.ntmps135
 go_wp2_with fail
 all_goals (go_ret; exact ⟨ret_bool (by simp only [outT] <;> simp [*] <;> omega), rfl⟩)
theorem any_take {zs : List Int} {k : Nat} (h : k < zs.length) : (zs.take (k + 1)).any outT = ((zs.take k).any outT || outT (zs.getD k 0)) := by
 have e : zs.take (k + 1) = zs.take k ++ [zs.getD k 0] := by rw [List.take_add_one]; simp [List.getD, List.getElem?_eq_getElem h]
 rw [e, List.any_append]; simp
theorem any_of {zs : List Int} {k : Nat} (h : k < zs.length) (ho : outT (zs.getD k 0) = true) : zs.any outT = true := by
 rw [List.any_eq_true]
 exact ⟨zs[k], List.getElem_mem h, by simpa [List.getD, List.getElem?_eq_getElem h] using ho⟩
set_option maxRecDepth 100000 in
set_option maxHeartbeats 1000000 in
theorem index_out (A : Option Addr) (c : Nat) (zs : List Int) (w : World) (hI : IsL w A zs) (hmax : zs.length ≤ 100000) :
 Calls Tryz.prog 170 #[.slice A zs.length c, .func (.func 135) #[] #[]] w fun e w' => ∃ r : Int, e = .returned (.int .i64 r) ∧ decide (0 ≤ r) = zs.any outT ∧ w' = w := by
 have HI := hide hI; have HM := hide hmax; clear hI hmax
 obtain ⟨n, hn⟩ : ∃ n, zs.length = n := ⟨_, rfl⟩
 rw [hn] at HM ⊢
 have HN := hide hn; clear hn
 go_enter Tryz.func170, Tryz.ntmps170
 go_wp2_with fail
 go_loopw [8] (fun i wr => ∃ k : Nat, k ≤ n ∧ i = .int .i64 k ∧ Hid ((zs.take k).any outT = false) ∧ Hid (wr = w)) (fun i _ => n - (intOf i).toNat)
 case atStart => exact ⟨0, by omega, rfl, hide (by simp), hide rfl⟩
 case round =>
  obtain ⟨k, hk, rfl, HA, HW⟩ := hrel
  have hb1 : n ≤ 100000 := HM.out
  by_cases hlt : k < n
  ·obtain ⟨b, off, rfl, hc⟩ := HI.out k (by rw [HN.out]; exact hlt)
   obtain ⟨x, hx⟩ : ∃ x, zs.getD k 0 = x := ⟨_, rfl⟩
   rw [hx, ← HW.out] at hc
   have HX := hide hx; clear hx
   have hk2 : k < zs.length := by rw [HN.out]; exact hlt
   cases ho : outT x
   case true =>
    have HO := hide ho; clear ho
    go_wp2_with (go_at_call 135; refine (out_any x _).mono ?_; rintro e w3 ⟨rfl, rfl⟩; rw [HO.out])
    go_ret
    exact ⟨_, rfl, by rw [any_of hk2 (by rw [HX.out]; exact HO.out)]; simp, HW.out⟩
   case false =>
    have HO := hide ho; clear ho
    go_wp2_with (go_at_call 135; refine (out_any x _).mono ?_; rintro e w3 ⟨rfl, rfl⟩; rw [HO.out])
    exact ⟨⟨k + 1, by omega, by go_num, hide (by rw [any_take hk2, HA.out, HX.out, HO.out]; rfl), HW⟩, by simp [intOf]; omega⟩
  ·obtain rfl : k = n := by omega
   go_wp2_with fail
   go_ret
   exact ⟨_, rfl, by rw [← List.take_length (l := zs), HN.out, HA.out]; rfl, HW.out⟩
theorem contains_out (A : Option Addr) (c : Nat) (zs : List Int) (w : World) (hI : IsL w A zs) (hmax : zs.length ≤ 100000) :
 Calls Tryz.prog 134 #[.slice A zs.length c, .func (.func 135) #[] #[]] w fun e w' => e = .returned (.bool (zs.any outT)) ∧ w' = w := by
 go_enter Tryz.func134, Tryz.ntmps134
 go_wp2_with (go_at_call 170; refine (index_out A c zs _ hI hmax).mono ?_; rintro e w3 ⟨r, rfl, hr, rfl⟩; have HR := hide hr; clear hr)
 go_ret
 exact ⟨ret_bool (by rw [← HR.out]), rfl⟩
theorem own_get {w : World} {base n g c : Nat} {e : TypeId} {zs : List Int} (h : w.ownsRow base e 1 (.slice (some ⟨g, 0, none⟩) n c) n (zs.map (Value.int .i64))) {j : Nat} (hj : j < n) : w.cell? ⟨g, j, none⟩ = some (.int .i64 (zs.getD j 0)) := by
 rcases h.2 with ⟨_, h0⟩ | ⟨g1, c1, cur, hv, hb, hg, h1, h2, h3, h4⟩
 ·omega
 ·cases hv
  have hl : (zs.map (Value.int .i64)).length = n * 1 := h.1
  rw [cell_of_row w g j cur e (0, 0) hg, ← Array.getElem?_toList]
  have h5 : (cur.toList.take (n * 1))[j]? = cur.toList[j]? := List.getElem?_take_of_lt (by omega)
  rw [← h5, h4]
  have : j < zs.length := by simpa using (by rw [hl]; omega : j < (zs.map (Value.int .i64)).length)
  simp [List.getD, List.getElem?_eq_getElem this]
theorem in_bd {zs : List Int} (ha : zs.any outT = false) {j : Nat} (hj : j < zs.length) : -1099511627776 ≤ (srt zs).getD j 0 ∧ (srt zs).getD j 0 ≤ 1099511627776 := by
 have hj2 : j < (srt zs).length := by rw [srt_len]; exact hj
 have e : (srt zs).getD j 0 = (srt zs)[j] := by simp [List.getD, List.getElem?_eq_getElem hj2]
 have hm : (srt zs)[j] ∈ zs := (srt_perm zs).mem_iff.1 (List.getElem_mem hj2)
 rw [e]
 have := List.any_eq_false.1 ha _ hm
 simp [outT] at this
 exact this
theorem ret_two2 {a b c d : Value} (h : a = c) (k : b = d) : Ending.returned (.tuple #[a, b]) = .returned (.tuple #[c, d]) := by rw [h, k]
theorem midE_arg {zs : List Int} {f : Int} (h : f < 0 ∨ (zs.length : Int) < 2 * f + 1) : midE zs f = 1 ∧ midV zs f = 0 := by
 have : midE zs f = 1 := by unfold midE; rw [if_pos h]
 exact ⟨this, by unfold midV; rw [this]; rfl⟩
theorem midE_ok {zs : List Int} {m : Nat} (h : 2 * m + 1 ≤ zs.length) : (zs.any outT = true → midE zs m = 2 ∧ midV zs m = 0) ∧ (zs.any outT = false → midE zs m = 0 ∧ midV zs m = midN zs m) := by
 have h1 : ¬ ((m : Int) < 0 ∨ (zs.length : Int) < 2 * (m : Int) + 1) := by omega
 constructor
 ·intro ha
  have : midE zs m = 2 := by unfold midE; rw [if_neg h1, if_pos ha]
  exact ⟨this, by unfold midV; rw [this]; rfl⟩
 ·intro ha
  have : midE zs m = 0 := by unfold midE; rw [if_neg h1, if_neg (by rw [ha]; simp)]
  exact ⟨this, by unfold midV; rw [if_pos this]; simp⟩
theorem errV_1 : Value.iface 61 (.int .i64 1) = errV 1 := by simp [errV]
theorem errV_2 : Value.iface 61 (.int .i64 2) = errV 2 := by simp [errV]
set_option maxRecDepth 100000 in
set_option maxHeartbeats 1000000 in
theorem mid_any (A : Option Addr) (c : Nat) (zs : List Int) (f : Int) (w : World) (hI : IsL w A zs) (hmax : zs.length ≤ 100000) (hf : f ≤ 9223372036854775807) :
 Calls Tryz.prog 100 #[.slice A zs.length c, .int .i64 f] w fun e w' => e = .returned (.tuple #[.int .i64 (midV zs f), errV (midE zs f)]) ∧ Below w.heap.size w w' := by
 by_cases h0 : f < 0
 ·obtain ⟨e1, e2⟩ := midE_arg (zs := zs) (.inl h0)
  rw [e1, e2]
  clear hI e1 e2
  go_enter Tryz.func100, Tryz.ntmps100
  go_wp2_with fail
  go_ret2
  exact ⟨ret_two2 rfl errV_1, Below.refl _ _⟩
 obtain ⟨m, rfl⟩ := Int.eq_ofNat_of_zero_le (by omega : 0 ≤ f)
 obtain ⟨n, hn⟩ : ∃ n, zs.length = n := ⟨_, rfl⟩
 by_cases h1 : n < m
 ·obtain ⟨e1, e2⟩ := midE_arg (zs := zs) (f := (m : Int)) (.inr (by omega))
  rw [e1, e2, hn]
  clear hI e1 e2 hn
  have d1 : decide ((n : Int) < (m : Int)) = true := decide_eq_true (by omega)
  go_enter Tryz.func100, Tryz.ntmps100
  go_wp2_with fail
  go_ret2
  exact ⟨ret_two2 rfl errV_1, Below.refl _ _⟩
 have d1 : decide ((n : Int) < (m : Int)) = false := decide_eq_false (by omega)
 have d0 : decide ((m : Int) < 0) = false := decide_eq_false (by omega)
 have w1 : wrap64 (2 * (m : Int)) = 2 * (m : Int) := by unfold wrap64; omega
 have w2 : wrap64 (2 * (m : Int) + 1) = 2 * (m : Int) + 1 := by unfold wrap64; omega
 by_cases h2 : n < 2 * m + 1
 ·obtain ⟨e1, e2⟩ := midE_arg (zs := zs) (f := (m : Int)) (.inr (by omega))
  rw [e1, e2, hn]
  clear hI e1 e2 hn
  have d2 : decide ((n : Int) < 2 * (m : Int) + 1) = true := decide_eq_true (by omega)
  go_enter Tryz.func100, Tryz.ntmps100
  go_wp2_with fail
  go_ret2
  exact ⟨ret_two2 rfl errV_1, Below.refl _ _⟩
 have d2 : decide ((n : Int) < 2 * (m : Int) + 1) = false := decide_eq_false (by omega)
 have HOK := hide (midE_ok (zs := zs) (m := m) (by omega))
 have HCO := hide (contains_out A c zs w hI (by omega))
 have HSO := hide (sorted_at A c zs w (by omega) hI)
 rw [hn] at HCO HSO ⊢
 have HM : Hid (2 * m + 1 ≤ n ∧ n ≤ 100000) := hide ⟨by omega, by omega⟩
 have HN := hide hn
 clear h0 h2 hn hI hmax hf
 cases ha : zs.any outT
 case true =>
  obtain ⟨e1, e2⟩ := HOK.out.1 ha
  rw [e1, e2]
  rw [ha] at HCO
  clear e1 e2 ha
  go_enter Tryz.func100, Tryz.ntmps100
  go_wp2_with (go_at_call 134; refine HCO.out.mono ?_; rintro e w3 ⟨rfl, rfl⟩)
  go_ret2
  exact ⟨ret_two2 rfl errV_2, Below.refl _ _⟩
 case false =>
  obtain ⟨e1, e2⟩ := HOK.out.2 ha
  rw [e1, e2]
  rw [ha] at HCO
  clear e1 e2
  have HE := hide (show midN zs m = ((srt zs).getD m 0 + (srt zs).getD (n - 1 - m) 0) / 2 from by unfold midN; rw [HN.out])
  have b1 := in_bd ha (j := m) (by have := HM.out; have := HN.out; omega)
  have b2 := in_bd ha (j := n - 1 - m) (by have := HM.out; have := HN.out; omega)
  have HL : Hid ((srt zs).length = n) := hide (by rw [srt_len, HN.out])
  clear ha
  generalize srt zs = ss at HSO HE HL b1 b2
  obtain ⟨x, hx⟩ : ∃ x, ss.getD m 0 = x := ⟨_, rfl⟩
  obtain ⟨y, hy⟩ : ∃ y, ss.getD (n - 1 - m) 0 = y := ⟨_, rfl⟩
  rw [hx, hy] at HE
  rw [hx] at b1
  rw [hy] at b2
  have HX := hide hx; have HY := hide hy; clear hx hy
  have w3' : wrap64 (x + y) = x + y := by unfold wrap64; omega
  rw [HE.out]
  clear b1 b2
  go_enter Tryz.func100, Tryz.ntmps100
  go_wp2_with (first
   | (go_at_call 134; refine HCO.out.mono ?_; rintro e w3 ⟨rfl, rfl⟩)
   | (go_at_call 137; refine (values_at A n c _).mono ?_; rintro e w3 ⟨rfl, rfl⟩)
   | (go_at_call 136; refine HSO.out.mono ?_; rintro e w4 ⟨v, rfl, hrow, hB⟩; obtain ⟨g, cp, cur, rfl, -, hg, q1, q2, q3, q4⟩ := block_of_own hrow (by have := HM.out; omega); have HB := hide hB; have HR := hide hrow; have HG := hide hg; clear hB hrow hg q1 q2 q3 q4))
  have hr1 := own_get HR.out (j := m) (by have := HM.out; omega)
  have hr2 := own_get HR.out (j := n - 1 - m) (by have := HM.out; omega)
  rw [HX.out] at hr1
  rw [HY.out] at hr2
  have e1 : wrap64 (wrap64 ((n : Int) - 1) - (m : Int)) = ((n - 1 - m : Nat) : Int) := by have := HM.out; unfold wrap64; omega
  have z1 : n - 1 - m < n := by have := HM.out; omega
  have z2 : m < n := by have := HM.out; omega
  go_quiet (fail)
  go_wp2_with fail
  go_ret2
  exact ⟨ret_two2 rfl (by simp [errV]), below_drewN HB.out _⟩
end
section
def vnum (n : Nat) : List Nat := if n < 128 then [n] else (n % 128 + 128) :: vnum (n / 128)
termination_by n
decreasing_by omega
theorem vnum_small {n : Nat} (h : n < 128) : vnum n = [n] := by rw [vnum, if_pos h]
theorem vnum_big {n : Nat} (h : ¬ n < 128) : vnum n = (n % 128 + 128) :: vnum (n / 128) := by rw [vnum, if_neg h]
def vnums (l : List Nat) : List Nat := l.flatMap vnum
theorem vnums_nil : vnums [] = [] := rfl
theorem vnums_cons (n : Nat) (l : List Nat) : vnums (n :: l) = vnum n ++ vnums l := rfl
theorem vnums_app (l m : List Nat) : vnums (l ++ m) = vnums l ++ vnums m := by simp [vnums]
structure Rst where
 l : List Nat
 bad : Bool
section
variable (num : Rst → Nat × Rst)
end
theorem bool_f {b : Bool} (h : b = true → False) : b = false := by cases b <;> simp_all
section
variable {num : Rst → Nat × Rst}
end
section
variable {R : List Nat → List Nat → Prop} {f g : Rst → Nat × Rst}
end
end
end Go.Proofs.YtideefjnlakciaaGreatDoor
