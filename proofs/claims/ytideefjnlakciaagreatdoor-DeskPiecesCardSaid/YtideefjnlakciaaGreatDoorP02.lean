/- A law that returns true and leaves all memory that was there as it was meets its row: for every row of this seat whose specification hands the arguments back; no condition. -/
import Derived.Test.YtideefjnlakciaaGreatDoorP01
import Derived.ProofKit
import Derived.OpenShut
import Derived.Carry
import Derived.Lib.SmallJoins
import Derived.Deep.RegionHeld3
import Derived.Deep.Slices
set_option linter.unusedVariables false
set_option linter.unusedSimpArgs false
namespace Go.Proofs.YtideefjnlakciaaGreatDoor
section
open Go.ChangeShapes Go.WideShapes Go.ChangeAt Go.RowKit
theorem own : ownKnob Tryz.prog.godebug = none := by kernel_rfl
theorem laidOut : laidOutB Tryz.prog = true := by kernel_rfl
section
variable {H : Type} {enc : TypeId × Value → H}
theorem trodAll_stays {W W' : World} {sp' : Nat → Bool} (hb : Below W.heap.size W W') : ∀ {ts : List TypeId} {vs : List Value} {ds : List (DataW H)} {ps : List MemPlace},
 (∀ t ∈ ts, Tryz.prog.readableRec t = true ∧ t < Tryz.prog.types.size) → DataW.TrodAll enc Tryz.prog W 0 (fun _ => true) true ts vs ds ps → (∀ x ∈ ps, x.block < W.heap.size) → (∀ x ∈ ps, sp' x.block = true) →
 DataW.TrodAll enc Tryz.prog W' 0 sp' true ts vs ds ps
 | [], _, _, _, _, h, _, _ => by
  obtain ⟨rfl, rfl, rfl⟩ := trodAll_nil h
  exact rfl
 | t :: ts, _, _, _, hr, h, hlt, hs => by
  obtain ⟨v, vs1, d, ds1, a, b, rfl, rfl, rfl, h1, h2⟩ := trodAll_cons h
  refine ⟨a, b, WideElems.Trod_stays laidOut (hr t (by simp)).1 (hr t (by simp)).2 h1 (fun x hx => hb.same (hlt x (by simp [hx]))) (fun x hx => hs x (by simp [hx])), ?_, rfl⟩
  exact trodAll_stays hb (fun t' ht' => hr t' (by simp [ht'])) h2 (fun x hx => hlt x (by simp [hx])) (fun x hx => hs x (by simp [hx]))
theorem trodAll_len {W : World} {b : Nat} {sp : Nat → Bool} {hd : Bool} : ∀ {ts : List TypeId} {vs : List Value} {ds : List (DataW H)} {ps : List MemPlace},
 DataW.TrodAll enc Tryz.prog W b sp hd ts vs ds ps → ds.length = ts.length
 | [], _, _, _, h => by
  obtain ⟨rfl, rfl, rfl⟩ := trodAll_nil h
  rfl
 | t :: ts, _, _, _, h => by
  obtain ⟨v, vs1, d, ds1, a, b, rfl, rfl, rfl, h1, h2⟩ := trodAll_cons h
  simp [trodAll_len h2]
theorem law_post {f : Func} {s : ChangeSpec} {W W' : World} {args : Array Value} {ds gs : List (DataW H)} {before : List MemPlace}
 (hv : s.vars = []) (hsp : ∀ ds : List (DataW H), ds.length = f.params.size → s.fn H ds = { results := [.lit (.bool true)], args := ds })
 (hr : ∀ t ∈ f.params.toList, Tryz.prog.readableRec t = true ∧ t < Tryz.prog.types.size) (hrt : f.resultTypes = #[4])
 (hW : DataW.Whole enc Tryz.prog f.params.toList s.vars false W args.toList ds gs before) (hb : Below W.heap.size W W') :
 s.post enc Tryz.prog f false true false false W args (.bool true) W' := by
 have hlt : ∀ p ∈ before, p.block < W.heap.size := fun p hp => hW.lt p hp
 have hold : ∀ p ∈ before, (fun b => decide (b < W.heap.size)) p.block = true := fun p hp => by simpa using hlt p hp
 have hW2 := hW
 obtain ⟨p, q, hA, hV, hps, hz, hn⟩ := hW
 rw [hv] at hV
 obtain ⟨rfl, rfl⟩ := trodVars_none hV
 simp only [List.append_nil] at hps
 subst hps
 have hlen := trodAll_len hA
 have hfn := hsp ds (by simpa using hlen)
 have hA' := fun (sp : Nat → Bool) (hs : ∀ x ∈ before, sp x.block = true) => trodAll_stays (enc := enc) hb hr hA hlt hs
 have hres : ∀ (b : Nat) (sp : Nat → Bool) (hd : Bool), DataW.TrodAll enc Tryz.prog W' b sp hd f.resultTypes.toList ((Value.bool true).resultList f.resultTypes.size) (s.fn H (ds ++ [])).results [] := by
  intro b sp hd
  rw [List.append_nil, hfn, hrt]
  exact trodAll_cons_mk (shut_bool Tryz.underlying4 _) trodAll_mk0
 refine ⟨ds, [], before, [], before, [], by simpa using hW2, hres _ _ _, ?_, ?_, ?_, fun h => by cases h⟩
 ·rw [List.append_nil, hfn]; exact hA' _ hold
 ·rw [hv, List.append_nil, hfn]; rfl
 ·exact World.keptBut_mono (fun p hp => ⟨hp, Or.inr (Or.inl hp)⟩) (hb.frame (· ∈ before))
end
end
section
open Go.ChangeShapes Go.WideShapes Go.ChangeAt Go.RowKit Go.Joins
variable {H : Type} {enc : TypeId × Value → H}
def IntsAt (W : World) (A : Option Addr) (n : Nat) (zs : List Int) : Prop := ∀ j, j < n → ∃ b off, A = some ⟨b, off, none⟩ ∧ W.cell? ⟨b, off + j, none⟩ = some (.int .i64 (zs.getD j 0))
end
section
open Go.RowKit
abbrev spanV (a b : Int) : Value := .agg #[.int .i64 a, .int .i64 b]
end
section
open Go.RowKit
def outB (lo hi z : Int) : Bool := decide (z < lo) || decide (hi < z)
set_option maxRecDepth 100000 in
set_option maxHeartbeats 1000000 in
theorem wlit_any (g h : Nat) (lo hi z : Int) (b : Bool) (hb : Hid (outB lo hi z = b)) (w : World) (hx : w.cell? ⟨g, 0, none⟩ = some (.int .i64 lo)) (hy : w.cell? ⟨h, 0, none⟩ = some (.int .i64 hi)) :
 Calls Tryz.prog 197 #[.int .i64 z, .pointer (some ⟨g, 0, none⟩), .pointer (some ⟨h, 0, none⟩)] w fun e w' => e = .returned (.bool b) ∧ Below w.heap.size w w' := by
 by_cases h1 : z < lo
 ·have q1 : decide (z < lo) = true := decide_eq_true h1
  have HB : Hid (b = true) := hide (by rw [← hb.out]; unfold outB; rw [q1]; rfl)
  clear hb h1
  go_enter Tryz.func197, Tryz.ntmps197
  go_wp2_with fail
  go_ret
  exact ⟨ret_bool HB.out.symm, Below.refl _ _⟩
 ·have q1 : decide (z < lo) = false := decide_eq_false h1
  have HB : Hid (b = decide (hi < z)) := hide (by rw [← hb.out]; unfold outB; rw [q1]; rfl)
  clear hb h1
  go_enter Tryz.func197, Tryz.ntmps197
  go_wp2_with fail
  go_ret
  exact ⟨ret_bool HB.out.symm, Below.refl _ _⟩
def oidx (lo hi : Int) (zs : List Int) : Nat := match zs with
 | [] => 0
 | z :: l => if outB lo hi z = true then 0 else oidx lo hi l + 1
theorem oidx_step (lo hi : Int) (zs : List Int) (k : Nat) (hk : k < zs.length) (h : k ≤ oidx lo hi zs) : if outB lo hi (zs.getD k 0) = true then oidx lo hi zs = k else k + 1 ≤ oidx lo hi zs := by
 induction zs generalizing k with
 | nil => simp at hk
 | cons z l ih =>
  unfold oidx at h ⊢
  cases k with
  | zero =>
   simp only [List.getD_cons_zero]
   by_cases hz : outB lo hi z = true
   ·rw [if_pos hz, if_pos hz]
   ·rw [if_neg hz, if_neg hz]; omega
  | succ k =>
   by_cases hz : outB lo hi z = true
   ·rw [if_pos hz] at h; omega
   ·rw [if_neg hz] at h ⊢
    have := ih k (by simpa using hk) (by omega)
    simp only [List.getD_cons_succ]
    split
    ·rename_i h2; rw [if_pos h2] at this; omega
    ·rename_i h2; rw [if_neg h2] at this; omega
theorem oidx_all (lo hi : Int) (zs : List Int) : decide (oidx lo hi zs < zs.length) = zs.any (outB lo hi) := by
 induction zs with
 | nil => rfl
 | cons z l ih =>
  unfold oidx
  cases hz : outB lo hi z
  ·simp only [hz, List.any_cons, Bool.false_or, ← ih, List.length_cons]
   apply decide_eq_decide.2
   simp
  ·simp [hz]
set_option maxRecDepth 100000 in
set_option maxHeartbeats 1000000 in
theorem windex_any (g h : Nat) (lo hi : Int) (A : Option Addr) (n c : Nat) (zs : List Int) (w : World) (hn : n ≤ 100) (hzs : zs.length = n) (hx : w.cell? ⟨g, 0, none⟩ = some (.int .i64 lo)) (hy : w.cell? ⟨h, 0, none⟩ = some (.int .i64 hi)) (hI : IntsAt w A n zs) (r : Int) (hr : Hid ((if oidx lo hi zs < n then (oidx lo hi zs : Int) else -1) = r)) :
 Calls Tryz.prog 170 #[.slice A n c, .func (.func 197) #[] #[.pointer (some ⟨g, 0, none⟩), .pointer (some ⟨h, 0, none⟩)]] w fun e w' => e = .returned (.int .i64 r) ∧ Below w.heap.size w w' := by
 have HI := hide hI; clear hI
 have hgl := World.block_lt_of_cell? _ _ hx
 have hhl := World.block_lt_of_cell? _ _ hy
 go_enter Tryz.func170, Tryz.ntmps170
 go_wp2_with fail
 go_loopw [8] (fun i wr => ∃ k : Nat, k ≤ n ∧ i = .int .i64 k ∧ k ≤ oidx lo hi zs ∧ Below w.heap.size w wr) (fun i _ => n - (intOf i).toNat)
 case atStart => exact ⟨0, by omega, rfl, by omega, Below.refl _ _⟩
 case round =>
  obtain ⟨k, hk, rfl, hki, hB⟩ := hrel
  by_cases hlt2 : k < n
  ·obtain ⟨b, off, rfl, c0⟩ := HI.out k hlt2
   have hb := World.block_lt_of_cell? _ _ c0
   have k0 := (hB.cell (p := ⟨b, off + k, none⟩) hb).trans c0
   have hix := oidx_step lo hi zs k (by omega) hki
   have HX2 := hide ((hB.cell (p := ⟨g, 0, none⟩) hgl).trans hx)
   have HY2 := hide ((hB.cell (p := ⟨h, 0, none⟩) hhl).trans hy)
   have HBB := hide hB; have hsz := hB.size
   clear hB c0
   generalize zs.getD k 0 = y at hix k0
   cases hyx : outB lo hi y
   ·have HO := hide hyx
    have hid : k + 1 ≤ oidx lo hi zs := by rw [if_neg (by rw [hyx]; decide)] at hix; exact hix
    have HID := hide hid; clear hid hix hyx
    go_wp2_with (go_at_call 197; refine (wlit_any g h lo hi y false HO _ (by exact HX2.out) (by exact HY2.out)).mono ?_; rintro e w3 ⟨rfl, hB3⟩; have HB3 := hide hB3; clear hB3)
    exact ⟨⟨k + 1, by omega, by go_num, HID.out, HBB.out.trans (HB3.out.mono hsz)⟩, by simp [intOf]; omega⟩
   ·have HO := hide hyx
    have hid : oidx lo hi zs = k := by rw [if_pos hyx] at hix; exact hix
    have HID := hide hid; clear hid hix hyx
    go_wp2_with (go_at_call 197; refine (wlit_any g h lo hi y true HO _ (by exact HX2.out) (by exact HY2.out)).mono ?_; rintro e w3 ⟨rfl, hB3⟩; have HB3 := hide hB3; clear hB3)
    go_ret
    exact ⟨ret_int (by rw [← hr.out, HID.out, if_pos hlt2]), HBB.out.trans (HB3.out.mono hsz)⟩
  ·obtain rfl : k = n := by omega
   have HBB := hide hB; clear hB
   go_wp2_with fail
   go_ret
   exact ⟨ret_int (by rw [← hr.out, if_neg (by omega)]), HBB.out⟩
set_option maxRecDepth 100000 in
set_option maxHeartbeats 1000000 in
theorem wcontains_any (g h : Nat) (lo hi : Int) (A : Option Addr) (n c : Nat) (zs : List Int) (w : World) (hn : n ≤ 100) (hzs : zs.length = n) (hx : w.cell? ⟨g, 0, none⟩ = some (.int .i64 lo)) (hy : w.cell? ⟨h, 0, none⟩ = some (.int .i64 hi)) (hI : IntsAt w A n zs) (b : Bool) (hb : Hid (zs.any (outB lo hi) = b)) :
 Calls Tryz.prog 134 #[.slice A n c, .func (.func 197) #[] #[.pointer (some ⟨g, 0, none⟩), .pointer (some ⟨h, 0, none⟩)]] w fun e w' => e = .returned (.bool b) ∧ Below w.heap.size w w' := by
 obtain ⟨r, hr⟩ : ∃ r : Int, (if oidx lo hi zs < n then (oidx lo hi zs : Int) else -1) = r := ⟨_, rfl⟩
 have q : decide (0 ≤ r) = b := by
  rw [← hb.out, ← oidx_all, hzs, ← hr]
  apply decide_eq_decide.2
  split <;> omega
 have HI := hide hI; have HR := hide hr; have HX := hide hx; have HY := hide hy
 clear hI hr hx hy
 go_enter Tryz.func134, Tryz.ntmps134
 go_wp2_with fail
 refine (windex_any g h lo hi A n c zs _ hn hzs HX.out HY.out HI.out r HR).mono ?_
 rintro e w2 ⟨rfl, hB⟩
 have HB := hide hB; clear hB
 go_wp2_with fail
 go_ret
 exact ⟨rfl, HB.out⟩
set_option maxRecDepth 100000 in
set_option maxHeartbeats 1000000 in
theorem withinS_any (lo hi : Int) (A : Option Addr) (n c : Nat) (zs : List Int) (w : World) (hn : n ≤ 100) (hzs : zs.length = n) (hI : IntsAt w A n zs) (b : Bool) (hb : Hid ((!zs.any (outB lo hi)) = b)) :
 Calls Tryz.prog 168 #[.int .i64 lo, .int .i64 hi, .slice A n c] w fun e w' => e = .returned (.bool b) ∧ Below w.heap.size w w' := by
 have hB : Below w.heap.size w ((w.alloc (.cells #[.int .i64 lo] 3)).alloc (.cells #[.int .i64 hi] 3)) := ((Below.refl _ _).alloc (Nat.le_refl _) _).alloc (by simp) _
 have hg := (Blk.new w 3 #[.int .i64 lo]).alloc (.cells #[.int .i64 hi] 3)
 have hh := Blk.new (w.alloc (.cells #[.int .i64 lo] 3)) 3 #[.int .i64 hi]
 simp only [World.size_alloc] at hh
 have hI2 : IntsAt ((w.alloc (.cells #[.int .i64 lo] 3)).alloc (.cells #[.int .i64 hi] 3)) A n zs := by
  intro j hj
  obtain ⟨b, off, hA, c0⟩ := hI j hj
  exact ⟨b, off, hA, (hB.cell (p := ⟨b, off + j, none⟩) (World.block_lt_of_cell? _ _ c0)).trans c0⟩
 have HI := hide hI2; have HB := hide hB; have HG := hide hg.cells1.1; have HH := hide hh.cells1.1
 clear hI hI2 hB hg hh
 have q : (!zs.any (outB lo hi)) = b := hb.out
 obtain ⟨x, hx⟩ : ∃ x, zs.any (outB lo hi) = x := ⟨_, rfl⟩
 rw [hx] at q
 have HX := hide hx; clear hx hb
 go_enter Tryz.func168, Tryz.ntmps168
 go_wp2_with fail
 refine (wcontains_any w.heap.size (w.heap.size + 1) lo hi A n c zs _ hn hzs HG.out HH.out HI.out x HX).mono ?_
 rintro e w2 ⟨rfl, hB⟩
 have HB2 := hide (HB.out.trans (hB.mono HB.out.size)); clear hB
 go_wp2_with fail
 go_ret
 exact ⟨rfl, HB2.out⟩
set_option maxRecDepth 100000 in
set_option maxHeartbeats 1000000 in
theorem span_any (f t lo hi : Int) (w : World) (e : Int) (he : Hid (spE f t lo hi = e)) :
 Calls Tryz.prog 169 #[spanV f t, .int .i64 lo, .int .i64 hi] w fun r w' => r = .returned (.int .i64 e) ∧ Below w.heap.size w w' := by
 have hB := hide ((Below.refl w.heap.size w).alloc (Nat.le_refl _) (.cells #[.int .i64 f, .int .i64 t] 84))
 have q := he.out
 unfold spE at q
 by_cases h1 : t ≤ f
 ·have d1 : decide (t ≤ f) = true := decide_eq_true h1
  rw [if_pos h1] at q
  have Q := hide q; clear q he h1
  go_enter Tryz.func169, Tryz.ntmps169
  go_wp2_with fail
  go_ret
  exact ⟨ret_int Q.out, hB.out⟩
 ·have d1 : decide (t ≤ f) = false := decide_eq_false h1
  rw [if_neg h1] at q
  by_cases h2 : f < lo
  ·have d2 : decide (f < lo) = true := decide_eq_true h2
   rw [if_pos h2] at q
   have Q := hide q; clear q he h1 h2
   go_enter Tryz.func169, Tryz.ntmps169
   go_wp2_with fail
   go_ret
   exact ⟨ret_int Q.out, hB.out⟩
  ·have d2 : decide (f < lo) = false := decide_eq_false h2
   rw [if_neg h2] at q
   by_cases h3 : hi < t
   ·have d3 : decide (hi < t) = true := decide_eq_true h3
    rw [if_pos h3] at q
    have Q := hide q; clear q he h1 h2 h3
    go_enter Tryz.func169, Tryz.ntmps169
    go_wp2_with fail
    go_ret
    exact ⟨ret_int Q.out, hB.out⟩
   ·have d3 : decide (hi < t) = false := decide_eq_false h3
    rw [if_neg h3] at q
    have Q := hide q; clear q he h1 h2 h3
    go_enter Tryz.func169, Tryz.ntmps169
    go_wp2_with fail
    go_ret
    exact ⟨ret_int Q.out, hB.out⟩
end
section
open Go.RowKit
def AtV (w : World) (v : Value) (e pl : Int) : Prop := (pl = -1 ∧ v = .iface 61 (.int .i64 e)) ∨ ∃ g, v = .iface 258 (.pointer (some ⟨g, 0, none⟩)) ∧ Blk w g 259 #[.int .i64 e, .int .i64 pl]
theorem AtV.bare (w : World) (e : Int) : AtV w (.iface 61 (.int .i64 e)) e (-1) := .inl ⟨rfl, rfl⟩
theorem AtV.at_ {w : World} {g : Nat} {e pl : Int} (h : Blk w g 259 #[.int .i64 e, .int .i64 pl]) : AtV w (.iface 258 (.pointer (some ⟨g, 0, none⟩))) e pl := .inr ⟨g, rfl, h⟩
theorem AtV.iface {w : World} {v : Value} {e pl : Int} (h : AtV w v e pl) : ∃ t u, v = .iface t u := by
 rcases h with ⟨_, rfl⟩ | ⟨g, rfl, _⟩
 ·exact ⟨_, _, rfl⟩
 ·exact ⟨_, _, rfl⟩
theorem Blk.cells10 {w : World} {g : Nat} {t : TypeId} {a0 a1 a2 a3 a4 a5 a6 a7 a8 a9 : Value} (h : Blk w g t #[a0, a1, a2, a3, a4, a5, a6, a7, a8, a9]) :
 w.cell? ⟨g, 0, none⟩ = some a0 ∧ w.cell? ⟨g, 1, none⟩ = some a1 ∧ w.cell? ⟨g, 2, none⟩ = some a2 ∧ w.cell? ⟨g, 3, none⟩ = some a3 ∧ w.cell? ⟨g, 4, none⟩ = some a4 ∧ w.cell? ⟨g, 5, none⟩ = some a5 ∧ w.cell? ⟨g, 6, none⟩ = some a6 ∧ w.cell? ⟨g, 7, none⟩ = some a7 ∧
 w.cell? ⟨g, 8, none⟩ = some a8 ∧ w.cell? ⟨g, 9, none⟩ = some a9 :=
 ⟨by simpa using h.cell 0, by simpa using h.cell 1, by simpa using h.cell 2, by simpa using h.cell 3, by simpa using h.cell 4, by simpa using h.cell 5, by simpa using h.cell 6, by simpa using h.cell 7, by simpa using h.cell 8, by simpa using h.cell 9⟩
end
section
open Go.RowKit
def WinsAt (W : World) (A : Option Addr) (n : Nat) (ws : List Wn) : Prop := ∀ j, j < n → ∃ b off, A = some ⟨b, off, none⟩ ∧ ∃ w, ws[j]? = some w ∧ W.cell? ⟨b, off + j * 3, none⟩ = some (.int .i64 w.p) ∧ W.cell? ⟨b, off + j * 3 + 1, none⟩ = some (.int .i64 w.f) ∧ W.cell? ⟨b, off + j * 3 + 2, none⟩ = some (.int .i64 w.t)
theorem WinsAt.below {w W : World} {A : Option Addr} {n : Nat} {ws : List Wn} (h : WinsAt w A n ws) (hB : Below w.heap.size w W) : WinsAt W A n ws := by
 intro j hj
 obtain ⟨b, off, hA, y, hy, c0, c1, c2⟩ := h j hj
 have hb := World.block_lt_of_cell? _ _ c0
 exact ⟨b, off, hA, y, hy, (hB.cell (p := ⟨b, off + j * 3, none⟩) hb).trans c0, (hB.cell (p := ⟨b, off + j * 3 + 1, none⟩) hb).trans c1, (hB.cell (p := ⟨b, off + j * 3 + 2, none⟩) hb).trans c2⟩
end
section
open Go.ChangeShapes Go.WideShapes Go.ChangeAt Go.RowKit Go.Deep
def SlotsAt (W : World) (A : Option Addr) (n : Nat) (ws : List Sl) : Prop := ∀ j, j < n → ∃ b off, A = some ⟨b, off, none⟩ ∧ ∃ w, ws[j]? = some w ∧ W.cell? ⟨b, off + j * 3, none⟩ = some (.int .i64 w.n) ∧ W.cell? ⟨b, off + j * 3 + 1, none⟩ = some (.int .i64 w.f) ∧ W.cell? ⟨b, off + j * 3 + 2, none⟩ = some (.int .i64 w.t)
def LinksAt (W : World) (A : Option Addr) (n : Nat) (ws : List Lk) : Prop := ∀ j, j < n → ∃ b off, A = some ⟨b, off, none⟩ ∧ ∃ w, ws[j]? = some w ∧ W.cell? ⟨b, off + j * 4, none⟩ = some (.int .i64 w.f) ∧ W.cell? ⟨b, off + j * 4 + 1, none⟩ = some (.int .i64 w.t) ∧ W.cell? ⟨b, off + j * 4 + 2, none⟩ = some (.int .i64 w.b) ∧ W.cell? ⟨b, off + j * 4 + 3, none⟩ = some (.int .i64 w.q)
theorem SlotsAt.below {w W : World} {A : Option Addr} {n : Nat} {ws : List Sl} (h : SlotsAt w A n ws) (hB : Below w.heap.size w W) : SlotsAt W A n ws := by
 intro j hj
 obtain ⟨b, off, hA, y, hy, c0, c1, c2⟩ := h j hj
 have hb := World.block_lt_of_cell? _ _ c0
 exact ⟨b, off, hA, y, hy, (hB.cell (p := ⟨b, off + j * 3, none⟩) hb).trans c0, (hB.cell (p := ⟨b, off + j * 3 + 1, none⟩) hb).trans c1, (hB.cell (p := ⟨b, off + j * 3 + 2, none⟩) hb).trans c2⟩
theorem LinksAt.below {w W : World} {A : Option Addr} {n : Nat} {ws : List Lk} (h : LinksAt w A n ws) (hB : Below w.heap.size w W) : LinksAt W A n ws := by
 intro j hj
 obtain ⟨b, off, hA, y, hy, c0, c1, c2, c3⟩ := h j hj
 have hb := World.block_lt_of_cell? _ _ c0
 exact ⟨b, off, hA, y, hy, (hB.cell (p := ⟨b, off + j * 4, none⟩) hb).trans c0, (hB.cell (p := ⟨b, off + j * 4 + 1, none⟩) hb).trans c1, (hB.cell (p := ⟨b, off + j * 4 + 2, none⟩) hb).trans c2, (hB.cell (p := ⟨b, off + j * 4 + 3, none⟩) hb).trans c3⟩
theorem list2 {α : Type} {l : List α} (h : l.length = 2) : ∃ a b, l = [a, b] := by match l, h with | [a, b], _ => exact ⟨a, b, rfl⟩
section
variable {H : Type} {enc : TypeId × Value → H} {W : World} {b0 : Nat} {sp : Nat → Bool} {hd : Bool}
end
end
section
open Go.RowKit
abbrev planC (nd fa sk ji dr R : Int) (S L : Value) (fr : Int) (Q : Value) : Array Value := #[.int .i64 nd, .int .i64 fa, .int .i64 sk, .int .i64 ji, .int .i64 dr, .int .i64 R, S, L, .int .i64 fr, Q]
end
section
open Go.RowKit
theorem ints1 {w : World} {g : Nat} {a : Int} (h : Blk w g 3 #[.int .i64 a]) : IntsAt w (some ⟨g, 0, none⟩) 1 [a] := by
 intro j hj
 obtain rfl : j = 0 := by omega
 exact ⟨g, 0, rfl, h.cells1.1⟩
theorem ints2 {w : World} {g : Nat} {a b : Int} (h : Blk w g 3 #[.int .i64 a, .int .i64 b]) : IntsAt w (some ⟨g, 0, none⟩) 2 [a, b] := by
 intro j hj
 refine ⟨g, 0, rfl, ?_⟩
 match j, hj with
 | 0, _ => exact h.cell 0
 | 1, _ => exact h.cell 1
theorem ints3 {w : World} {g : Nat} {a b c : Int} (h : Blk w g 3 #[.int .i64 a, .int .i64 b, .int .i64 c]) : IntsAt w (some ⟨g, 0, none⟩) 3 [a, b, c] := by
 intro j hj
 refine ⟨g, 0, rfl, ?_⟩
 match j, hj with
 | 0, _ => exact h.cell 0
 | 1, _ => exact h.cell 1
 | 2, _ => exact h.cell 2
theorem win1_any (lo hi z : Int) (g : Nat) (w : World) (hg : w.heap.size = g) (x : Bool) (hx : Hid (outB lo hi z = x)) :
 Calls Tryz.prog 168 #[.int .i64 lo, .int .i64 hi, .slice (some ⟨g, 0, none⟩) 1 1] (w.alloc (.cells #[.int .i64 z] 3)) fun e w' => e = .returned (.bool (!x)) ∧ Below w.heap.size w w' :=
 (withinS_any lo hi _ 1 1 [z] _ (by omega) rfl (ints1 (hg ▸ Blk.new w _ _)) (!x) (hide (by simp [hx.out]))).mono fun e w' ⟨h1, h2⟩ => ⟨h1, ((Below.refl _ _).alloc (Nat.le_refl _) _).trans (h2.mono (by simp))⟩
theorem win2_any (lo hi y z : Int) (g : Nat) (w : World) (hg : w.heap.size = g) (x : Bool) (hx : Hid ((outB lo hi y || outB lo hi z) = x)) :
 Calls Tryz.prog 168 #[.int .i64 lo, .int .i64 hi, .slice (some ⟨g, 0, none⟩) 2 2] (w.alloc (.cells #[.int .i64 y, .int .i64 z] 3)) fun e w' => e = .returned (.bool (!x)) ∧ Below w.heap.size w w' :=
 (withinS_any lo hi _ 2 2 [y, z] _ (by omega) rfl (ints2 (hg ▸ Blk.new w _ _)) (!x) (hide (by simp [← hx.out]))).mono fun e w' ⟨h1, h2⟩ => ⟨h1, ((Below.refl _ _).alloc (Nat.le_refl _) _).trans (h2.mono (by simp))⟩
theorem win3_any (lo hi u y z : Int) (g : Nat) (w : World) (hg : w.heap.size = g) (x : Bool) (hx : Hid ((outB lo hi u || outB lo hi y || outB lo hi z) = x)) :
 Calls Tryz.prog 168 #[.int .i64 lo, .int .i64 hi, .slice (some ⟨g, 0, none⟩) 3 3] (w.alloc (.cells #[.int .i64 u, .int .i64 y, .int .i64 z] 3)) fun e w' => e = .returned (.bool (!x)) ∧ Below w.heap.size w w' :=
 (withinS_any lo hi _ 3 3 [u, y, z] _ (by omega) rfl (ints3 (hg ▸ Blk.new w _ _)) (!x) (hide (by simp [← hx.out, Bool.or_assoc]))).mono fun e w' ⟨h1, h2⟩ => ⟨h1, ((Below.refl _ _).alloc (Nat.le_refl _) _).trans (h2.mono (by simp))⟩
theorem out_true {lo hi z : Int} (h : outB lo hi z = true) : z < lo ∨ hi < z := by unfold outB at h; simpa using h
theorem out_false {lo hi z : Int} (h : outB lo hi z = false) : lo ≤ z ∧ z ≤ hi := by unfold outB at h; simpa using h
def slF (p : Pl) (n : Nat) : Prop := ∀ j, j < n → (slEs p.sk p.rd p.nd 0 p.sl)[j]? = some 0
def lkF (p : Pl) (n : Nat) : Prop := ∀ j, j < n → (p.lk.map (lkE p.nd))[j]? = some 0
def wnF (p : Pl) (n : Nat) : Prop := ∀ j, j < n → (wnEs p.fr 0 p.wn)[j]? = some 0
theorem chk_head {p : Pl} {e : Int} (h : headE p = e) (h0 : e ≠ 0) : chk p = (e, -1) := by unfold chk; rw [h, if_pos h0]
theorem chk_slot {p : Pl} {k : Nat} {s : Sl} {e : Int} (hh : headE p = 0) (hF : slF p k) (hk : p.sl[k]? = some s) (he : slE p.sk p.rd p.nd (slLo p.sk 0 p.sl k) s = e) (h0 : e ≠ 0) : chk p = (e, (k : Int)) := by
 have := firstE_at _ k e hF (by rw [slEs_at _ _ _ _ _ _ _ hk, he]) h0
 unfold chk; rw [if_neg (fun g => g hh), this, if_pos h0]
theorem slF_none {p : Pl} (h : slF p p.sl.length) : (firstE (slEs p.sk p.rd p.nd 0 p.sl) 0).1 = 0 := by rw [firstE_none _ 0 (by rw [slEs_len]; exact h)]
theorem lkF_none {p : Pl} (h : lkF p p.lk.length) : (firstE (p.lk.map (lkE p.nd)) 0).1 = 0 := by rw [firstE_none _ 0 (by rw [List.length_map]; exact h)]
theorem wnF_none {p : Pl} (h : wnF p p.wn.length) : (firstE (wnEs p.fr 0 p.wn) 0).1 = 0 := by rw [firstE_none _ 0 (by rw [wnEs_len]; exact h)]
theorem chk_link {p : Pl} {k : Nat} {s : Lk} {e : Int} (hh : headE p = 0) (hS : slF p p.sl.length) (hF : lkF p k) (hk : p.lk[k]? = some s) (he : lkE p.nd s = e) (h0 : e ≠ 0) : chk p = (e, 1000 + (k : Int)) := by
 have := firstE_at _ k e hF (by rw [List.getElem?_map, hk]; simp [he]) h0
 unfold chk; rw [if_neg (fun g => g hh), if_neg (fun g => g (slF_none hS)), this, if_pos h0]
theorem chk_win {p : Pl} {k : Nat} {s : Wn} {e : Int} (hh : headE p = 0) (hS : slF p p.sl.length) (hL : lkF p p.lk.length) (hF : wnF p k) (hk : p.wn[k]? = some s) (he : wnE p.fr (wnLo 0 p.wn k) s = e) (h0 : e ≠ 0) : chk p = (e, 2000 + (k : Int)) := by
 have := firstE_at _ k e hF (by rw [wnEs_at _ _ _ _ _ hk, he]) h0
 unfold chk; rw [if_neg (fun g => g hh), if_neg (fun g => g (slF_none hS)), if_neg (fun g => g (lkF_none hL)), this, if_pos h0]
theorem chk_fine {p : Pl} (hh : headE p = 0) (hS : slF p p.sl.length) (hL : lkF p p.lk.length) (hW : wnF p p.wn.length) : chk p = (0, -1) := by
 unfold chk; rw [if_neg (fun g => g hh), if_neg (fun g => g (slF_none hS)), if_neg (fun g => g (lkF_none hL)), if_neg (fun g => g (wnF_none hW))]
theorem slF_succ {p : Pl} {k : Nat} {s : Sl} (hF : slF p k) (hk : p.sl[k]? = some s) (he : slE p.sk p.rd p.nd (slLo p.sk 0 p.sl k) s = 0) : slF p (k + 1) := by
 intro j hj
 rcases Nat.lt_or_ge j k with h | h
 ·exact hF j h
 ·obtain rfl : j = k := by omega
  rw [slEs_at _ _ _ _ _ _ _ hk, he]
theorem lkF_succ {p : Pl} {k : Nat} {s : Lk} (hF : lkF p k) (hk : p.lk[k]? = some s) (he : lkE p.nd s = 0) : lkF p (k + 1) := by
 intro j hj
 rcases Nat.lt_or_ge j k with h | h
 ·exact hF j h
 ·obtain rfl : j = k := by omega
  rw [List.getElem?_map, hk]; simp [he]
theorem wnF_succ {p : Pl} {k : Nat} {s : Wn} (hF : wnF p k) (hk : p.wn[k]? = some s) (he : wnE p.fr (wnLo 0 p.wn k) s = 0) : wnF p (k + 1) := by
 intro j hj
 rcases Nat.lt_or_ge j k with h | h
 ·exact hF j h
 ·obtain rfl : j = k := by omega
  rw [wnEs_at _ _ _ _ _ hk, he]
def PcPost (w : World) (c : Int × Int) (r : Ending) (w' : World) : Prop := Below w.heap.size w w' ∧ ((c.1 = 0 ∧ r = .returned .nilIface) ∨ (c.1 ≠ 0 ∧ ∃ v, r = .returned v ∧ AtV w' v c.1 c.2))
theorem PcPost.bare {w w' : World} {c : Int × Int} {e : Int} (hc : c = (e, -1)) (h0 : e ≠ 0) (hB : Below w.heap.size w w') : PcPost w c (.returned (.iface 61 (.int .i64 e))) w' := by rw [hc]; exact ⟨hB, .inr ⟨h0, _, rfl, AtV.bare _ _⟩⟩
theorem PcPost.at_ {w w' : World} {c : Int × Int} {e pl : Int} {g : Nat} (hc : c = (e, pl)) (h0 : e ≠ 0) (hB : Below w.heap.size w w') (hb : Blk w' g 259 #[.int .i64 e, .int .i64 pl]) : PcPost w c (.returned (.iface 258 (.pointer (some ⟨g, 0, none⟩)))) w' := by rw [hc]; exact ⟨hB, .inr ⟨h0, _, rfl, AtV.at_ hb⟩⟩
theorem PcPost.fine {w w' : World} {c : Int × Int} (hc : c = (0, -1)) (hB : Below w.heap.size w w') : PcPost w c (.returned .nilIface) w' := by rw [hc]; exact ⟨hB, .inl ⟨rfl, rfl⟩⟩
structure PcAt (w wr : World) (G : Array Value) : Prop where
 g : Blk wr w.heap.size 29 G
 old : Below w.heap.size w wr
theorem PcAt.below {w w1 w2 : World} {G : Array Value} (h : PcAt w w1 G) (hB : Below w1.heap.size w1 w2) : PcAt w w2 G := ⟨h.g.below hB h.g.lt, h.old.trans (hB.mono h.old.size)⟩
theorem PcAt.alloc {w w1 : World} {G : Array Value} (h : PcAt w w1 G) (o : Obj) : PcAt w (w1.alloc o) G := h.below ((Below.refl _ _).alloc (Nat.le_refl _) o)
section
variable (p : Pl) (A : Option Addr) (len c : Nat) (AL : Option Addr) (ll cl : Nat) (AQ : Option Addr) (lq cq : Nat)
set_option maxRecDepth 100000 in
set_option maxHeartbeats 8000000 in
theorem check_head (w : World) (h0 : headE p ≠ 0) (s1 : p.sl.length = len) (l1 : p.lk.length = ll) (q1 : p.wn.length = lq) :
 Calls Tryz.prog 129 #[.agg (planC p.nd p.fa p.sk p.ji p.dr p.rd (.slice A len c) (.slice AL ll cl) p.fr (.slice AQ lq cq))] w (PcPost w (chk p)) := by
 have hP0 : PcAt w (w.alloc (.cells (planC p.nd p.fa p.sk p.ji p.dr p.rd (.slice A len c) (.slice AL ll cl) p.fr (.slice AQ lq cq)) 29)) (planC p.nd p.fa p.sk p.ji p.dr p.rd (.slice A len c) (.slice AL ll cl) p.fr (.slice AQ lq cq)) := ⟨Blk.new w _ _, (Below.refl _ _).alloc (Nat.le_refl _) _⟩
 have HP := hide hP0
 obtain ⟨i0, i1, i2, i3, i4, i5, i6, i7, i8, i9⟩ := hP0.g.cells10
 clear hP0
 obtain ⟨E, hE⟩ : ∃ E, E = headE p := ⟨_, rfl⟩
 have HH := hide (chk_head hE.symm (by rw [hE]; exact h0))
 rw [← hE] at h0
 unfold headE at hE
 have HE := hide hE; clear hE
 have H0 := hide h0; clear h0
 generalize chk p = C at *
 cases o1 : outB 1 16 p.nd
 case true =>
  have O1 := hide o1
  have HN := hide (show E = 1 by rw [HE.out, if_pos (by have := out_true o1; omega)])
  clear o1
  go_enter Tryz.func129, Tryz.ntmps129
  go_wp2_with fail
  refine (win1_any 1 16 p.nd (w.heap.size + 1) _ (by simp) true O1).mono ?_
  rintro e w2 ⟨rfl, hB⟩
  have HP2 := hide (HP.out.below hB)
  clear hB HP i0 i1 i2 i3 i4 i5 i6 i7 i8 i9
  obtain ⟨i0, i1, i2, i3, i4, i5, i6, i7, i8, i9⟩ := HP2.out.g.cells10
  go_wp2_with fail
  go_ret
  exact PcPost.bare (by rw [HH.out, HN.out]) (by decide) HP2.out.old
 case false =>
  have O1 := hide o1
  have r1 := out_false o1; clear o1
  cases o2 : outB 0 16 p.fa
  case true =>
   have O2 := hide o2
   have HN := hide (show E = 1 by rw [HE.out, if_pos (by have := out_true o2; omega)])
   clear o2
   go_enter Tryz.func129, Tryz.ntmps129
   go_wp2_with fail
   refine (win1_any 1 16 p.nd (w.heap.size + 1) _ (by simp) false O1).mono ?_
   rintro e w2 ⟨rfl, hB⟩
   have HP2 := hide (HP.out.below hB)
   clear hB HP i0 i1 i2 i3 i4 i5 i6 i7 i8 i9
   obtain ⟨i0, i1, i2, i3, i4, i5, i6, i7, i8, i9⟩ := HP2.out.g.cells10
   go_wp2_with fail
   refine (win1_any 0 16 p.fa (w2.heap.size) _ rfl true O2).mono ?_
   rintro e w3 ⟨rfl, hB⟩
   have HP3 := hide (HP2.out.below hB)
   clear hB HP2 i0 i1 i2 i3 i4 i5 i6 i7 i8 i9
   obtain ⟨i0, i1, i2, i3, i4, i5, i6, i7, i8, i9⟩ := HP3.out.g.cells10
   go_wp2_with fail
   go_ret
   exact PcPost.bare (by rw [HH.out, HN.out]) (by decide) HP3.out.old
  case false =>
   have O2 := hide o2
   have r2 := out_false o2; clear o2
   by_cases h3 : p.nd < 3 * p.fa + 1
   ·have HN := hide (show E = 1 by rw [HE.out, if_pos (by omega)])
    have d3 : decide (p.nd < 3 * p.fa + 1) = true := decide_eq_true h3
    clear h3
    go_enter Tryz.func129, Tryz.ntmps129
    go_wp2_with fail
    refine (win1_any 1 16 p.nd (w.heap.size + 1) _ (by simp) false O1).mono ?_
    rintro e w2 ⟨rfl, hB⟩
    have HP2 := hide (HP.out.below hB)
    clear hB HP i0 i1 i2 i3 i4 i5 i6 i7 i8 i9
    obtain ⟨i0, i1, i2, i3, i4, i5, i6, i7, i8, i9⟩ := HP2.out.g.cells10
    go_wp2_with fail
    refine (win1_any 0 16 p.fa (w2.heap.size) _ rfl false O2).mono ?_
    rintro e w3 ⟨rfl, hB⟩
    have HP3 := hide (HP2.out.below hB)
    clear hB HP2 i0 i1 i2 i3 i4 i5 i6 i7 i8 i9
    obtain ⟨i0, i1, i2, i3, i4, i5, i6, i7, i8, i9⟩ := HP3.out.g.cells10
    go_wp2_with fail
    go_ret
    exact PcPost.bare (by rw [HH.out, HN.out]) (by decide) HP3.out.old
   ·have d3 : decide (p.nd < 3 * p.fa + 1) = false := decide_eq_false h3
    have HE2 := hide (show E = _ from HE.out.trans (if_neg (by omega)))
    cases o3 : (outB 0 137438953472 p.sk || outB 0 137438953472 p.ji || outB 0 137438953472 p.dr)
    case true =>
     have O3 := hide o3
     have HN := hide (show E = 2 by rw [HE2.out, if_pos (by simp only [Bool.or_eq_true] at o3; rcases o3 with (o | o) | o <;> (have := out_true o; omega))])
     clear o3 h3
     go_enter Tryz.func129, Tryz.ntmps129
     go_wp2_with fail
     refine (win1_any 1 16 p.nd (w.heap.size + 1) _ (by simp) false O1).mono ?_
     rintro e w2 ⟨rfl, hB⟩
     have HP2 := hide (HP.out.below hB)
     clear hB HP i0 i1 i2 i3 i4 i5 i6 i7 i8 i9
     obtain ⟨i0, i1, i2, i3, i4, i5, i6, i7, i8, i9⟩ := HP2.out.g.cells10
     go_wp2_with fail
     refine (win1_any 0 16 p.fa (w2.heap.size) _ rfl false O2).mono ?_
     rintro e w3 ⟨rfl, hB⟩
     have HP3 := hide (HP2.out.below hB)
     clear hB HP2 i0 i1 i2 i3 i4 i5 i6 i7 i8 i9
     obtain ⟨i0, i1, i2, i3, i4, i5, i6, i7, i8, i9⟩ := HP3.out.g.cells10
     go_wp2_with fail
     refine (win3_any 0 137438953472 p.sk p.ji p.dr (w3.heap.size) _ rfl true O3).mono ?_
     rintro e w4 ⟨rfl, hB⟩
     have HP4 := hide (HP3.out.below hB)
     clear hB HP3 i0 i1 i2 i3 i4 i5 i6 i7 i8 i9
     obtain ⟨i0, i1, i2, i3, i4, i5, i6, i7, i8, i9⟩ := HP4.out.g.cells10
     go_wp2_with fail
     go_ret
     exact PcPost.bare (by rw [HH.out, HN.out]) (by decide) HP4.out.old
    case false =>
     have O3 := hide o3
     simp only [Bool.or_eq_false_iff] at o3
     obtain ⟨⟨o3a, o3b⟩, o3c⟩ := o3
     have r3 := out_false o3a; have r4 := out_false o3b; have r5 := out_false o3c
     clear o3a o3b o3c
     cases o4 : (outB 1 137438953472 p.rd || outB 1 137438953472 p.fr)
     case true =>
      have O4 := hide o4
      have HN := hide (show E = 2 by rw [HE2.out, if_pos (by simp only [Bool.or_eq_true] at o4; rcases o4 with o | o <;> (have := out_true o; omega))])
      clear o4 h3
      go_enter Tryz.func129, Tryz.ntmps129
      go_wp2_with fail
      refine (win1_any 1 16 p.nd (w.heap.size + 1) _ (by simp) false O1).mono ?_
      rintro e w2 ⟨rfl, hB⟩
      have HP2 := hide (HP.out.below hB)
      clear hB HP i0 i1 i2 i3 i4 i5 i6 i7 i8 i9
      obtain ⟨i0, i1, i2, i3, i4, i5, i6, i7, i8, i9⟩ := HP2.out.g.cells10
      go_wp2_with fail
      refine (win1_any 0 16 p.fa (w2.heap.size) _ rfl false O2).mono ?_
      rintro e w3 ⟨rfl, hB⟩
      have HP3 := hide (HP2.out.below hB)
      clear hB HP2 i0 i1 i2 i3 i4 i5 i6 i7 i8 i9
      obtain ⟨i0, i1, i2, i3, i4, i5, i6, i7, i8, i9⟩ := HP3.out.g.cells10
      go_wp2_with fail
      refine (win3_any 0 137438953472 p.sk p.ji p.dr (w3.heap.size) _ rfl false O3).mono ?_
      rintro e w4 ⟨rfl, hB⟩
      have HP4 := hide (HP3.out.below hB)
      clear hB HP3 i0 i1 i2 i3 i4 i5 i6 i7 i8 i9
      obtain ⟨i0, i1, i2, i3, i4, i5, i6, i7, i8, i9⟩ := HP4.out.g.cells10
      go_wp2_with fail
      refine (win2_any 1 137438953472 p.rd p.fr (w4.heap.size) _ rfl true O4).mono ?_
      rintro e w5 ⟨rfl, hB⟩
      have HP5 := hide (HP4.out.below hB)
      clear hB HP4 i0 i1 i2 i3 i4 i5 i6 i7 i8 i9
      obtain ⟨i0, i1, i2, i3, i4, i5, i6, i7, i8, i9⟩ := HP5.out.g.cells10
      go_wp2_with fail
      go_ret
      exact PcPost.bare (by rw [HH.out, HN.out]) (by decide) HP5.out.old
     case false =>
      have O4 := hide o4
      simp only [Bool.or_eq_false_iff] at o4
      obtain ⟨o4a, o4b⟩ := o4
      have r6 := out_false o4a; have r7 := out_false o4b
      clear o4a o4b
      have HE3 := hide (show E = _ from HE2.out.trans (if_neg (by omega)))
      by_cases h5 : 32 < len ∨ 8 < ll ∨ 32 < lq
      ·have HN := hide (show E = 4 by rw [HE3.out, if_pos (by omega)])
       clear h3
       by_cases h6 : 32 < len
       ·have d6 : decide ((32 : Int) < (len : Int)) = true := decide_eq_true (by omega)
        go_enter Tryz.func129, Tryz.ntmps129
        go_wp2_with fail
        refine (win1_any 1 16 p.nd (w.heap.size + 1) _ (by simp) false O1).mono ?_
        rintro e w2 ⟨rfl, hB⟩
        have HP2 := hide (HP.out.below hB)
        clear hB HP i0 i1 i2 i3 i4 i5 i6 i7 i8 i9
        obtain ⟨i0, i1, i2, i3, i4, i5, i6, i7, i8, i9⟩ := HP2.out.g.cells10
        go_wp2_with fail
        refine (win1_any 0 16 p.fa (w2.heap.size) _ rfl false O2).mono ?_
        rintro e w3 ⟨rfl, hB⟩
        have HP3 := hide (HP2.out.below hB)
        clear hB HP2 i0 i1 i2 i3 i4 i5 i6 i7 i8 i9
        obtain ⟨i0, i1, i2, i3, i4, i5, i6, i7, i8, i9⟩ := HP3.out.g.cells10
        go_wp2_with fail
        refine (win3_any 0 137438953472 p.sk p.ji p.dr (w3.heap.size) _ rfl false O3).mono ?_
        rintro e w4 ⟨rfl, hB⟩
        have HP4 := hide (HP3.out.below hB)
        clear hB HP3 i0 i1 i2 i3 i4 i5 i6 i7 i8 i9
        obtain ⟨i0, i1, i2, i3, i4, i5, i6, i7, i8, i9⟩ := HP4.out.g.cells10
        go_wp2_with fail
        refine (win2_any 1 137438953472 p.rd p.fr (w4.heap.size) _ rfl false O4).mono ?_
        rintro e w5 ⟨rfl, hB⟩
        have HP5 := hide (HP4.out.below hB)
        clear hB HP4 i0 i1 i2 i3 i4 i5 i6 i7 i8 i9
        obtain ⟨i0, i1, i2, i3, i4, i5, i6, i7, i8, i9⟩ := HP5.out.g.cells10
        go_wp2_with fail
        go_ret
        exact PcPost.bare (by rw [HH.out, HN.out]) (by decide) HP5.out.old
       ·have d6 : decide ((32 : Int) < (len : Int)) = false := decide_eq_false (by omega)
        by_cases h7 : 8 < ll
        ·have d7 : decide ((8 : Int) < (ll : Int)) = true := decide_eq_true (by omega)
         go_enter Tryz.func129, Tryz.ntmps129
         go_wp2_with fail
         refine (win1_any 1 16 p.nd (w.heap.size + 1) _ (by simp) false O1).mono ?_
         rintro e w2 ⟨rfl, hB⟩
         have HP2 := hide (HP.out.below hB)
         clear hB HP i0 i1 i2 i3 i4 i5 i6 i7 i8 i9
         obtain ⟨i0, i1, i2, i3, i4, i5, i6, i7, i8, i9⟩ := HP2.out.g.cells10
         go_wp2_with fail
         refine (win1_any 0 16 p.fa (w2.heap.size) _ rfl false O2).mono ?_
         rintro e w3 ⟨rfl, hB⟩
         have HP3 := hide (HP2.out.below hB)
         clear hB HP2 i0 i1 i2 i3 i4 i5 i6 i7 i8 i9
         obtain ⟨i0, i1, i2, i3, i4, i5, i6, i7, i8, i9⟩ := HP3.out.g.cells10
         go_wp2_with fail
         refine (win3_any 0 137438953472 p.sk p.ji p.dr (w3.heap.size) _ rfl false O3).mono ?_
         rintro e w4 ⟨rfl, hB⟩
         have HP4 := hide (HP3.out.below hB)
         clear hB HP3 i0 i1 i2 i3 i4 i5 i6 i7 i8 i9
         obtain ⟨i0, i1, i2, i3, i4, i5, i6, i7, i8, i9⟩ := HP4.out.g.cells10
         go_wp2_with fail
         refine (win2_any 1 137438953472 p.rd p.fr (w4.heap.size) _ rfl false O4).mono ?_
         rintro e w5 ⟨rfl, hB⟩
         have HP5 := hide (HP4.out.below hB)
         clear hB HP4 i0 i1 i2 i3 i4 i5 i6 i7 i8 i9
         obtain ⟨i0, i1, i2, i3, i4, i5, i6, i7, i8, i9⟩ := HP5.out.g.cells10
         go_wp2_with fail
         go_ret
         exact PcPost.bare (by rw [HH.out, HN.out]) (by decide) HP5.out.old
        ·have d7 : decide ((8 : Int) < (ll : Int)) = false := decide_eq_false (by omega)
         have d8 : decide ((32 : Int) < (lq : Int)) = true := decide_eq_true (by omega)
         go_enter Tryz.func129, Tryz.ntmps129
         go_wp2_with fail
         refine (win1_any 1 16 p.nd (w.heap.size + 1) _ (by simp) false O1).mono ?_
         rintro e w2 ⟨rfl, hB⟩
         have HP2 := hide (HP.out.below hB)
         clear hB HP i0 i1 i2 i3 i4 i5 i6 i7 i8 i9
         obtain ⟨i0, i1, i2, i3, i4, i5, i6, i7, i8, i9⟩ := HP2.out.g.cells10
         go_wp2_with fail
         refine (win1_any 0 16 p.fa (w2.heap.size) _ rfl false O2).mono ?_
         rintro e w3 ⟨rfl, hB⟩
         have HP3 := hide (HP2.out.below hB)
         clear hB HP2 i0 i1 i2 i3 i4 i5 i6 i7 i8 i9
         obtain ⟨i0, i1, i2, i3, i4, i5, i6, i7, i8, i9⟩ := HP3.out.g.cells10
         go_wp2_with fail
         refine (win3_any 0 137438953472 p.sk p.ji p.dr (w3.heap.size) _ rfl false O3).mono ?_
         rintro e w4 ⟨rfl, hB⟩
         have HP4 := hide (HP3.out.below hB)
         clear hB HP3 i0 i1 i2 i3 i4 i5 i6 i7 i8 i9
         obtain ⟨i0, i1, i2, i3, i4, i5, i6, i7, i8, i9⟩ := HP4.out.g.cells10
         go_wp2_with fail
         refine (win2_any 1 137438953472 p.rd p.fr (w4.heap.size) _ rfl false O4).mono ?_
         rintro e w5 ⟨rfl, hB⟩
         have HP5 := hide (HP4.out.below hB)
         clear hB HP4 i0 i1 i2 i3 i4 i5 i6 i7 i8 i9
         obtain ⟨i0, i1, i2, i3, i4, i5, i6, i7, i8, i9⟩ := HP5.out.g.cells10
         go_wp2_with fail
         go_ret
         exact PcPost.bare (by rw [HH.out, HN.out]) (by decide) HP5.out.old
      ·have HE4 := hide (show E = _ from HE3.out.trans (if_neg (by omega)))
       have d6 : decide ((32 : Int) < (len : Int)) = false := decide_eq_false (by omega)
       have d7 : decide ((8 : Int) < (ll : Int)) = false := decide_eq_false (by omega)
       have d8 : decide ((32 : Int) < (lq : Int)) = false := decide_eq_false (by omega)
       have hq : p.sk.tdiv 2 = p.sk / 2 := Int.tdiv_eq_ediv_of_nonneg (by omega)
       by_cases h9 : p.sk < p.sk / 2 + 2 * p.ji + 1 + 2 * p.dr
       ·have d9 : decide (p.sk < p.sk / 2 + 2 * p.ji + 1 + 2 * p.dr) = true := decide_eq_true h9
        have HN := hide (show E = 13 by rw [HE4.out, if_pos (by omega)])
        clear h3 h5 h9
        go_enter Tryz.func129, Tryz.ntmps129
        go_wp2_with fail
        refine (win1_any 1 16 p.nd (w.heap.size + 1) _ (by simp) false O1).mono ?_
        rintro e w2 ⟨rfl, hB⟩
        have HP2 := hide (HP.out.below hB)
        clear hB HP i0 i1 i2 i3 i4 i5 i6 i7 i8 i9
        obtain ⟨i0, i1, i2, i3, i4, i5, i6, i7, i8, i9⟩ := HP2.out.g.cells10
        go_wp2_with fail
        refine (win1_any 0 16 p.fa (w2.heap.size) _ rfl false O2).mono ?_
        rintro e w3 ⟨rfl, hB⟩
        have HP3 := hide (HP2.out.below hB)
        clear hB HP2 i0 i1 i2 i3 i4 i5 i6 i7 i8 i9
        obtain ⟨i0, i1, i2, i3, i4, i5, i6, i7, i8, i9⟩ := HP3.out.g.cells10
        go_wp2_with fail
        refine (win3_any 0 137438953472 p.sk p.ji p.dr (w3.heap.size) _ rfl false O3).mono ?_
        rintro e w4 ⟨rfl, hB⟩
        have HP4 := hide (HP3.out.below hB)
        clear hB HP3 i0 i1 i2 i3 i4 i5 i6 i7 i8 i9
        obtain ⟨i0, i1, i2, i3, i4, i5, i6, i7, i8, i9⟩ := HP4.out.g.cells10
        go_wp2_with fail
        refine (win2_any 1 137438953472 p.rd p.fr (w4.heap.size) _ rfl false O4).mono ?_
        rintro e w5 ⟨rfl, hB⟩
        have HP5 := hide (HP4.out.below hB)
        clear hB HP4 i0 i1 i2 i3 i4 i5 i6 i7 i8 i9
        obtain ⟨i0, i1, i2, i3, i4, i5, i6, i7, i8, i9⟩ := HP5.out.g.cells10
        go_wp2_with fail
        go_ret
        exact PcPost.bare (by rw [HH.out, HN.out]) (by decide) HP5.out.old
       ·exact absurd (by rw [HE4.out, if_neg (by omega)] : E = 0) H0.out
end
end
end Go.Proofs.YtideefjnlakciaaGreatDoor
