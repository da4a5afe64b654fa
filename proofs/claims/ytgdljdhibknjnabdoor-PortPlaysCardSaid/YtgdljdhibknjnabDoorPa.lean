/- part.Table: the literal of At, IndexFunc over windows, Share, At; conditions: the windows lie in memory. -/
import Derived.Test.YtgdljdhibknjnabDoorPt
namespace Go.Proofs.YtgdljdhibknjnabDoor
open Go.RowKit

abbrev wnV (w : Wn) : Value := .agg #[.int .i64 w.p, .int .i64 w.f, .int .i64 w.t]
/-- The first n windows of a slice lie in memory. -/
def WinsAt (W : World) (A : Option Addr) (n : Nat) (ws : List Wn) : Prop := ∀ j, j < n → ∃ b off, A = some ⟨b, off, none⟩ ∧ ∃ w, ws[j]? = some w ∧ W.cell? ⟨b, off + j * 3, none⟩ = some (.int .i64 w.p) ∧ W.cell? ⟨b, off + j * 3 + 1, none⟩ = some (.int .i64 w.f) ∧ W.cell? ⟨b, off + j * 3 + 2, none⟩ = some (.int .i64 w.t)

set_option maxRecDepth 100000 in
set_option maxHeartbeats 1000000 in
theorem lit_any (g : Nat) (x p f t : Int) (w : World) (hx : w.cell? ⟨g, 0, none⟩ = some (.int .i64 x)) :
    Calls Tryd.prog 80 #[.agg #[.int .i64 p, .int .i64 f, .int .i64 t], .pointer (some ⟨g, 0, none⟩)] w fun e w' => e = .returned (.bool (decide (x < t))) ∧ Below w.heap.size w w' := by
  have hlt := World.block_lt_of_cell? _ _ hx
  go_enter Tryd.func80, Tryd.ntmps80
  go_wp2
  go_ret
  exact ⟨rfl, (Below.refl _ _).alloc (Nat.le_refl _) _⟩

theorem shA_app (r : Int) (a b : List Wn) : shA r (a ++ b) = shA r a + shA r b := by
  induction a with
  | nil => simp [shA]
  | cons w l ih => simp only [List.cons_append, shA, ih]; omega
theorem shA_snoc (r : Int) (ws : List Wn) (k : Nat) (w : Wn) (h : ws[k]? = some w) : shA r (ws.take (k + 1)) = shA r (ws.take k) + (if w.p = r then w.t - w.f else 0) := by
  rw [List.take_add_one, shA_app, h]
  simp [shA]
theorem wOk_at {fr e : Int} {ws : List Wn} (h : wOk fr e ws = true) (he : 0 ≤ e) (k : Nat) (w : Wn) (hk : ws[k]? = some w) : e ≤ w.f ∧ w.f < w.t ∧ w.t ≤ fr ∧ 0 ≤ w.p ∧ w.p < 6 := by
  induction ws generalizing e k with
  | nil => simp at hk
  | cons v l ih =>
    obtain ⟨g1, g2, g3, g4, g5, g6⟩ := wOk_cons h
    cases k with
    | zero => simp at hk; subst hk; exact ⟨g2, g1, g3, g4, g5⟩
    | succ k =>
      have := ih g6 (by omega) k (by simpa using hk)
      omega
theorem shA_bd {fr : Int} {ws : List Wn} (h : wOk fr 0 ws = true) (hf : fr ≤ 1099511627776) (r : Int) (k : Nat) (hk : k ≤ ws.length) : 0 ≤ shA r (ws.take k) ∧ shA r (ws.take k) ≤ k * 1099511627776 := by
  induction k with
  | zero => simp [shA]
  | succ k ih =>
    obtain ⟨i1, i2⟩ := ih (by omega)
    obtain ⟨w, hw⟩ : ∃ w, ws[k]? = some w := ⟨ws[k], List.getElem?_eq_getElem (by omega)⟩
    obtain ⟨w1, w2, w3, _, _⟩ := wOk_at h (Int.le_refl _) k w hw
    rw [shA_snoc r ws k w hw]
    split <;> omega

set_option maxRecDepth 100000 in
set_option maxHeartbeats 1000000 in
theorem share_any (g : Nat) (fr r : Int) (A : Option Addr) (n c : Nat) (ws : List Wn) (w : World) (hn : n ≤ 100) (hws : ws.length = n) (hok : wOk fr 0 ws = true) (hf : fr ≤ 1099511627776)
    (h0 : w.cell? ⟨g, 0, none⟩ = some (.int .i64 fr)) (h1 : w.cell? ⟨g, 1, none⟩ = some (.slice A n c)) (hW : WinsAt w A n ws) :
    Calls Tryd.prog 65 #[.pointer (some ⟨g, 0, none⟩), .int .i64 r] w fun e w' => e = .returned (.int .i64 (shA r ws)) ∧ Below w.heap.size w w' := by
  have hlt := World.block_lt_of_cell? _ _ h0
  have HW := hide hW; have HOK := hide hok; clear hW hok
  go_enter Tryd.func65, Tryd.ntmps65
  go_wp2_with fail
  go_loopw [5, 13] (fun v i wr => ∃ k : Nat, k ≤ n ∧ i = .int .i64 k ∧ v = .int .i64 (shA r (ws.take k)) ∧ Below w.heap.size w wr) (fun _ i _ => n - (intOf i).toNat)
  case atStart => exact ⟨0, by omega, rfl, by simp [shA], Below.refl _ _⟩
  case round =>
    obtain ⟨k, hk, rfl, rfl, hB⟩ := hrel
    by_cases hlt2 : k < n
    · obtain ⟨b, off, rfl, x, hx, c0, c1, c2⟩ := HW.out k hlt2
      have hb := World.block_lt_of_cell? _ _ c0
      have k0 := (hB.cell (p := ⟨b, off + k * 3, none⟩) hb).trans c0
      have k1 := (hB.cell (p := ⟨b, off + k * 3 + 1, none⟩) hb).trans c1
      have k2 := (hB.cell (p := ⟨b, off + k * 3 + 2, none⟩) hb).trans c2
      have hbd := shA_bd HOK.out hf r k (by omega)
      have hsn := hide (shA_snoc r ws k x hx)
      obtain ⟨w1, w2, w3, _, _⟩ := wOk_at HOK.out (Int.le_refl _) k x hx
      have HBB := hide hB
      have hsz := hB.size
      generalize shA r (ws.take k) = S at *
      clear hB c0 c1 c2
      by_cases hpr : x.p = r
      · have q : (x.p == r) = true := by simp [hpr]
        have HP := hide hpr; clear hpr
        go_wp2_with fail
        exact ⟨⟨k + 1, by omega, by go_num, by rw [hsn.out, if_pos HP.out], HBB.out.alloc hsz _⟩, by simp [intOf]; omega⟩
      · have q : (x.p == r) = false := by simp [hpr]
        have HP := hide hpr; clear hpr
        go_wp2_with fail
        exact ⟨⟨k + 1, by omega, by go_num, by rw [hsn.out, if_neg HP.out, Int.add_zero], HBB.out.alloc hsz _⟩, by simp [intOf]; omega⟩
    · obtain rfl : k = n := by omega
      have ht : ws.take k = ws := by rw [← hws]; exact List.take_length
      rw [ht]
      have HBB := hide hB; clear hB
      go_wp2_with fail
      go_ret
      exact ⟨rfl, HBB.out⟩

/-- The first window that ends behind x. -/
def idx (ws : List Wn) (x : Int) : Nat := match ws with
  | [] => 0
  | w :: l => if x < w.t then 0 else idx l x + 1

theorem idx_step (ws : List Wn) (x : Int) (k : Nat) (y : Wn) (hy : ws[k]? = some y) (hk : k ≤ idx ws x) : if x < y.t then idx ws x = k else k + 1 ≤ idx ws x := by
  induction ws generalizing k with
  | nil => simp at hy
  | cons w l ih =>
    unfold idx at hk ⊢
    cases k with
    | zero =>
      simp at hy; subst hy
      split
      · simp
      · simp
    | succ k =>
      have hy' : l[k]? = some y := by simpa using hy
      by_cases hw : x < w.t
      · rw [if_pos hw] at hk; omega
      · rw [if_neg hw] at hk ⊢
        have := ih k hy' (by omega)
        split
        · rename_i h; rw [if_pos h] at this; omega
        · rename_i h; rw [if_neg h] at this; omega

set_option maxRecDepth 100000 in
set_option maxHeartbeats 1000000 in
theorem index_any (g : Nat) (x : Int) (A : Option Addr) (n c : Nat) (ws : List Wn) (w : World) (hn : n ≤ 100) (hws : ws.length = n) (hx : w.cell? ⟨g, 0, none⟩ = some (.int .i64 x)) (hW : WinsAt w A n ws) (r : Int) (hr : Hid ((if idx ws x < n then (idx ws x : Int) else -1) = r)) :
    Calls Tryd.prog 79 #[.slice A n c, .func (.func 80) #[] #[.pointer (some ⟨g, 0, none⟩)]] w fun e w' => e = .returned (.int .i64 r) ∧ Below w.heap.size w w' := by
  have HW := hide hW; clear hW
  have hgl := World.block_lt_of_cell? _ _ hx
  go_enter Tryd.func79, Tryd.ntmps79
  go_wp2_with fail
  go_loopw [8] (fun i wr => ∃ k : Nat, k ≤ n ∧ i = .int .i64 k ∧ k ≤ idx ws x ∧ Below w.heap.size w wr) (fun i _ => n - (intOf i).toNat)
  case atStart => exact ⟨0, by omega, rfl, by omega, Below.refl _ _⟩
  case round =>
    obtain ⟨k, hk, rfl, hki, hB⟩ := hrel
    by_cases hlt2 : k < n
    · obtain ⟨b, off, rfl, y, hy, c0, c1, c2⟩ := HW.out k hlt2
      have hb := World.block_lt_of_cell? _ _ c0
      have k0 := (hB.cell (p := ⟨b, off + k * 3, none⟩) hb).trans c0
      have k1 := (hB.cell (p := ⟨b, off + k * 3 + 1, none⟩) hb).trans c1
      have k2 := (hB.cell (p := ⟨b, off + k * 3 + 2, none⟩) hb).trans c2
      have hx2 := (hB.cell (p := ⟨g, 0, none⟩) hgl).trans hx
      have hix := idx_step ws x k y hy hki
      have HBB := hide hB; have hsz := hB.size
      have HX2 := hide hx2
      clear hB c0 c1 c2 hx2
      by_cases hyx : x < y.t
      · have hq : decide (x < y.t) = true := decide_eq_true hyx
        have hid : idx ws x = k := by rw [if_pos hyx] at hix; exact hix
        have HID := hide hid; clear hid hix hyx
        go_wp2_with (go_at_call 80; refine (lit_any g x y.p y.f y.t _ (by exact HX2.out)).mono ?_; rintro e w3 ⟨rfl, hB3⟩; have HB3 := hide hB3; clear hB3)
        go_ret
        exact ⟨ret_int (by rw [← hr.out, HID.out, if_pos hlt2]), HBB.out.trans (HB3.out.mono hsz)⟩
      · have hq : decide (x < y.t) = false := decide_eq_false hyx
        have hid : k + 1 ≤ idx ws x := by rw [if_neg hyx] at hix; exact hix
        have HID := hide hid; clear hid hix hyx
        go_wp2_with (go_at_call 80; refine (lit_any g x y.p y.f y.t _ (by exact HX2.out)).mono ?_; rintro e w3 ⟨rfl, hB3⟩; have HB3 := hide hB3; clear hB3)
        exact ⟨⟨k + 1, by omega, by go_num, HID.out, HBB.out.trans (HB3.out.mono hsz)⟩, by simp [intOf]; omega⟩
    · obtain rfl : k = n := by omega
      have HBB := hide hB; clear hB
      go_wp2_with fail
      go_ret
      exact ⟨ret_int (by rw [← hr.out, if_neg (by omega)]), HBB.out⟩

theorem at_idx (fr : Int) (ws : List Wn) (x : Int) (w0 : Wn) (h0 : ws[0]? = some w0) :
    (∀ w, ws[idx ws x]? = some w → if x < w.f then atP ws x = -1 ∧ atL fr ws x = w.f - x else atP ws x = w.p ∧ atL fr ws x = w.t - x) ∧ (ws.length ≤ idx ws x → atP ws x = -1 ∧ atL fr ws x = fr - x + w0.f) := by
  have gen : ∀ (f0 : Int) (l : List Wn), (∀ w, l[idx l x]? = some w → if x < w.f then prt l x = -1 ∧ lft fr f0 l x = w.f - x else prt l x = w.p ∧ lft fr f0 l x = w.t - x) ∧ (l.length ≤ idx l x → prt l x = -1 ∧ lft fr f0 l x = fr - x + f0) := by
    intro f0 l
    induction l with
    | nil => exact ⟨fun w h => by simp at h, fun _ => ⟨rfl, rfl⟩⟩
    | cons v l ih =>
      unfold idx prt lft
      by_cases hv : x < v.t
      · simp only [if_pos hv]
        refine ⟨fun w h => ?_, fun h => by simp at h⟩
        simp at h; subst h
        split
        · exact ⟨rfl, rfl⟩
        · exact ⟨rfl, rfl⟩
      · simp only [if_neg hv]
        exact ⟨fun w h => ih.1 w (by simpa using h), fun h => ih.2 (by simpa using h)⟩
  cases ws with
  | nil => simp at h0
  | cons v l =>
    simp at h0; subst h0
    exact gen v.f (v :: l)

theorem WinsAt.below {w W : World} {A : Option Addr} {n : Nat} {ws : List Wn} (h : WinsAt w A n ws) (hB : Below w.heap.size w W) : WinsAt W A n ws := by
  intro j hj
  obtain ⟨b, off, hA, y, hy, c0, c1, c2⟩ := h j hj
  have hb := World.block_lt_of_cell? _ _ c0
  exact ⟨b, off, hA, y, hy, (hB.cell (p := ⟨b, off + j * 3, none⟩) hb).trans c0, (hB.cell (p := ⟨b, off + j * 3 + 1, none⟩) hb).trans c1, (hB.cell (p := ⟨b, off + j * 3 + 2, none⟩) hb).trans c2⟩
set_option maxRecDepth 100000 in
set_option maxHeartbeats 4000000 in
theorem at_any (g : Nat) (fr now : Int) (A : Option Addr) (n c : Nat) (ws : List Wn) (w : World) (hn : n ≤ 100) (hws : ws.length = n) (hok : wOk fr 0 ws = true) (f1 : 1 ≤ fr) (hf : fr ≤ 1099511627776) (t0 : 0 ≤ now) (t1 : now ≤ 1099511627776)
    (h0 : w.cell? ⟨g, 0, none⟩ = some (.int .i64 fr)) (h1 : w.cell? ⟨g, 1, none⟩ = some (.slice A n c)) (hW : WinsAt w A n ws) (x : Int) (hx : Hid (x = now % fr)) (p q : Int) (hp : Hid (p = atP ws x)) (hq : Hid (q = atL fr ws x)) :
    Calls Tryd.prog 64 #[.pointer (some ⟨g, 0, none⟩), .int .i64 now] w fun e w' => e = .returned (.tuple #[.int .i64 p, .int .i64 q, .nilIface]) ∧ Below w.heap.size w w' := by
  have hlt := World.block_lt_of_cell? _ _ h0
  have HW := hide hW; have HOK := hide hok; clear hW hok
  have e1 : now % fr = x := hx.out.symm
  have e2 : now.tmod fr = x := by rw [Int.tmod_eq_emod_of_nonneg t0]; exact e1
  have d1 : decide (now < 0) = false := decide_eq_false (by omega)
  have d2 : decide ((1099511627776 : Int) < now) = false := decide_eq_false (by omega)
  have x0 : 0 ≤ x := by rw [hx.out]; exact Int.emod_nonneg _ (by omega)
  have x1 : x < fr := by rw [hx.out]; exact Int.emod_lt_of_pos _ (by omega)
  have d3 : (fr == 0) = false := by simp; omega
  clear t0 t1
  go_enter Tryd.func64, Tryd.ntmps64
  go_wp2_with fail
  have hBx : Below w.heap.size w (w.alloc (.cells #[.int .i64 x] 3)) := (Below.refl _ _).alloc (Nat.le_refl _) _
  have hxb := (Blk.new w 3 #[.int .i64 x])
  obtain ⟨r, hr⟩ : ∃ r : Int, (if idx ws x < n then (idx ws x : Int) else -1) = r := ⟨_, rfl⟩
  have HR := hide hr
  refine (index_any w.heap.size x A n c ws _ hn hws hxb.cells1.1 (HW.out.below hBx) r HR.out).mono ?_
  rintro e w3 ⟨rfl, hB⟩
  have hx3 := (hxb.below hB hxb.lt).cells1.1
  have hB3 := hBx.trans (hB.mono hBx.size)
  have g0 := (hB3.cell (p := ⟨g, 0, none⟩) hlt).trans h0
  have g1 := (hB3.cell (p := ⟨g, 1, none⟩) hlt).trans h1
  have HW3 := hide (HW.out.below hB3); have HB3 := hide hB3
  clear hB hxb hBx hB3 h0 h1 HR HW
  by_cases hn0 : n = 0
  · have qn : ((n : Int) == 0) = true := by simp; omega
    have hw : ws = [] := List.eq_nil_of_length_eq_zero (by omega)
    have HP : Hid (p = -1 ∧ q = -1) := hide (by rw [hp.out, hq.out, hw]; exact ⟨rfl, rfl⟩)
    clear hn0 hr
    go_wp2_with fail
    go_ret3
    exact ⟨by rw [HP.out.1, HP.out.2]; rfl, HB3.out⟩
  · have qn : ((n : Int) == 0) = false := by simp; omega
    have qz : decide ((0 : Int) < (n : Int)) = true := decide_eq_true (by omega)
    obtain ⟨b, off, rfl, y0, hy0, k0, k1, k2⟩ := HW3.out 0 (by omega)
    obtain ⟨a1, a2⟩ := at_idx fr ws x y0 hy0
    obtain ⟨v1, v2, v3, _, _⟩ := wOk_at HOK.out (Int.le_refl _) 0 y0 hy0
    by_cases hi : idx ws x < n
    · rw [if_pos hi] at hr
      obtain ⟨b', off', e, y, hy, j0, j1, j2⟩ := HW3.out _ hi
      cases e
      obtain ⟨z1, z2, z3, _, _⟩ := wOk_at HOK.out (Int.le_refl _) _ y hy
      have ha := a1 y hy
      generalize idx ws x = k at *
      subst hr
      have qk : decide ((k : Int) < 0) = false := by simp
      have qk2 : decide ((k : Int) < (n : Int)) = true := decide_eq_true (by omega)
      clear k0 k1 k2 a1 a2 hn0 hy hy0
      by_cases hxy : x < y.f
      · have qx : decide (x < y.f) = true := decide_eq_true hxy
        rw [if_pos hxy] at ha
        have HP : Hid (p = -1 ∧ q = y.f - x) := hide ⟨hp.out.trans ha.1, hq.out.trans ha.2⟩
        clear hxy ha
        go_wp2_with fail
        go_quiet (fail)
        go_wp2_with fail
        go_quiet (fail)
        go_wp2_with fail
        go_ret3
        exact ⟨by rw [HP.out.1, HP.out.2]; rfl, by first | exact below_drewN HB3.out _ | exact below_drewN (below_drewN HB3.out _) _⟩
      · have qx : decide (x < y.f) = false := decide_eq_false hxy
        rw [if_neg hxy] at ha
        have HP : Hid (p = y.p ∧ q = y.t - x) := hide ⟨hp.out.trans ha.1, hq.out.trans ha.2⟩
        clear hxy ha
        go_wp2_with fail
        go_quiet (fail)
        go_wp2_with fail
        go_quiet (fail)
        go_wp2_with fail
        go_ret3
        exact ⟨by rw [HP.out.1, HP.out.2]; rfl, by first | exact below_drewN HB3.out _ | exact below_drewN (below_drewN HB3.out _) _⟩
    · rw [if_neg hi] at hr
      subst hr
      have ha := a2 (by omega)
      have HP : Hid (p = -1 ∧ q = fr - x + y0.f) := hide ⟨hp.out.trans ha.1, hq.out.trans ha.2⟩
      have hpos : 0 < n := by omega
      clear ha a1 a2 hi hn0 hy0
      go_wp2_with fail
      go_quiet (fail)
      go_wp2_with fail
      go_ret3
      exact ⟨by rw [HP.out.1, HP.out.2]; rfl, by first | exact below_drewN HB3.out _ | exact below_drewN (below_drewN HB3.out _) _⟩
end Go.Proofs.YtgdljdhibknjnabDoor
