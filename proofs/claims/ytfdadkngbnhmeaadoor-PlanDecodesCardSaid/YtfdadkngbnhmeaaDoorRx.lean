/- The contracts of plan.rows; conditions: the reader lies in a block of its own, its bytes in memory. -/
import Derived.Test.YtfdadkngbnhmeaaDoorRw
namespace Go.Proofs.YtfdadkngbnhmeaaDoor
open Go.RowKit

theorem own_keep {w w' : World} {base size n : Nat} {e : TypeId} {v : Value} {xs : List Value} (h : w.ownsRow base e size v n xs) (hk : ∀ g, base ≤ g → g < w.heap.size → w'.heap[g]? = w.heap[g]?) : w'.ownsRow base e size v n xs := by
  obtain ⟨hl, h | ⟨g, cap, cur, hv, hg, hh, r⟩⟩ := h
  · exact ⟨hl, .inl h⟩
  · exact ⟨hl, .inr ⟨g, cap, cur, hv, hg, by rw [hk g hg (Array.getElem?_eq_some_iff.1 hh).1]; exact hh, r⟩⟩
theorem own_base {w : World} {base size n : Nat} {e : TypeId} {v : Value} {xs : List Value} (h : w.ownsRow base e size v n xs) : ∀ k, v.ownBlock = some k → base ≤ k := by
  intro k e
  obtain ⟨_, ⟨rfl, _⟩ | ⟨g, cap, cur, rfl, hg, _⟩⟩ := h
  · simp [Value.ownBlock] at e
  · simp [Value.ownBlock] at e; omega
theorem grown_new {w w1 w2 : World} {gr : Nat} {row : Option Nat} (h : w.grownBy w1 (some gr)) (k : w1.grownBy w2 row) (hr : ∀ j, row = some j → w.heap.size ≤ j) : w.grownBy w2 (some gr) :=
  ⟨k.os.trans h.os, k.tape.trans h.tape, k.output.trans h.output, Nat.le_trans h.size k.size, fun i hi hne => (k.block i (Nat.lt_of_lt_of_le hi h.size) (fun e => by have := hr i e.symm; omega)).trans (h.block i hi hne)⟩
/-- Rows of numbers as cells. -/
def rc (xs : List (List Nat)) : List Value := xs.flatMap fun x => x.map fun (n : Nat) => Value.int .i64 (n : Int)
theorem rc_snoc (xs : List (List Nat)) (x : List Nat) : rc (xs ++ [x]) = rc xs ++ x.map fun (n : Nat) => Value.int .i64 (n : Int) := by simp [rc]
theorem numB_le (s : Rst) : (numB s).1 ≤ 1099511627776 := by
  unfold numB
  cases h : rd 0 0 s.l with
  | none => simp
  | some p =>
    obtain ⟨_, _, _, hv⟩ := rd_shorter (v := p.1) (r := p.2) h
    exact hv
theorem news_blk {w : World} {g : Nat} {t : TypeId} {cs : List Value} (h : Blk w g t cs.toArray) : ∀ j u, cs[j]? = some u → w.cell? ((⟨g, 0, none⟩ : Addr).add j) = some u := by
  intro j u hu
  have : (⟨g, 0, none⟩ : Addr).add j = ⟨g, j, none⟩ := by unfold Addr.add; split <;> simp_all
  rw [this, h.cell j]
  simpa using hu
/-- What rows keeps. -/
structure RxInv (w wr : World) (B gr : Nat) (t : TypeId) (j most N : Nat) (s2 : Rst) (v : Value) (m : Nat) (xs : List (List Nat)) (s' : Rst) : Prop where
  own : wr.ownsRow w.heap.size t j v xs.length (rc xs)
  rd : RsAt wr B gr s'
  grow : w.grownBy wr (some gr)
  eq : rows_ numB j N s2 = (xs ++ (rows_ numB j m s').1, (rows_ numB j m s').2)
  len : xs.length + m = N
  few : N ≤ most ∨ s'.bad = true
  wid : ∀ x ∈ xs, x.length = j
  no : N ≤ most ∨ xs = []
theorem some_len (num : Rst → Nat × Rst) (j : Nat) (s : Rst) : (some_ num j s).1.length = j := by
  induction j generalizing s with
  | zero => rfl
  | succ j ih => simp [some_, ih]
theorem RxInv.step {w wr w2 : World} {B gr : Nat} {t : TypeId} {j most N : Nat} {s2 : Rst} {v v2 : Value} {m : Nat} {xs : List (List Nat)} {s' : Rst} (h : RxInv w wr B gr t j most N s2 v (m + 1) xs s') (hb : s'.bad = false)
    (ho : w2.ownsRow w.heap.size t j v2 (xs.length + 1) (rc xs ++ (some_ numB j s').1.map fun (n : Nat) => Value.int .i64 (n : Int))) (hr : RsAt w2 B gr (some_ numB j s').2) (hg : w.grownBy w2 (some gr)) :
    RxInv w w2 B gr t j most N s2 v2 m (xs ++ [(some_ numB j s').1]) (some_ numB j s').2 where
  own := by rw [rc_snoc, List.length_append]; exact ho
  rd := hr
  grow := hg
  eq := by rw [h.eq, rows_, if_neg (by rw [hb]; decide)]; simp
  len := by have := h.len; rw [List.length_append]; simp; omega
  few := by
    rcases h.few with h1 | h1
    · exact .inl h1
    · rw [hb] at h1; cases h1
  wid := by
    intro x hx
    rcases List.mem_append.1 hx with h1 | h1
    · exact h.wid x h1
    · simp at h1; subst h1; exact some_len _ _ _
  no := by
    rcases h.few with h1 | h1
    · exact .inl h1
    · rw [hb] at h1; cases h1
theorem RxInv.done {w wr : World} {B gr : Nat} {t : TypeId} {j most N : Nat} {s2 : Rst} {v : Value} {m : Nat} {xs : List (List Nat)} {s' : Rst} (h : RxInv w wr B gr t j most N s2 v m xs s') (hb : m = 0 ∨ s'.bad = true) : rows_ numB j N s2 = (xs, s') := by
  rw [h.eq]
  have e : rows_ numB j m s' = ([], s') := by
    cases m with
    | zero => rfl
    | succ m =>
      rcases hb with hb | hb
      · cases hb
      · rw [rows_, if_pos hb]
  rw [e]; simp
/-- What rows leaves. -/
def RxPost (w : World) (B gr : Nat) (t : TypeId) (j most : Nat) (s : Rst) (r : Ending) (w' : World) : Prop :=
  ∃ v, r = .returned v ∧ w'.ownsRow w.heap.size t j v (many_ numB j most s).1.length (rc (many_ numB j most s).1) ∧ RsAt w' B gr (many_ numB j most s).2 ∧ w.grownBy w' (some gr) ∧ (many_ numB j most s).1.length ≤ most ∧ ∀ x ∈ (many_ numB j most s).1, x.length = j
theorem RxInv.post {w wr : World} {B gr : Nat} {t : TypeId} {j most : Nat} {s : Rst} {v : Value} {m : Nat} {xs : List (List Nat)} {s' : Rst} (h : RxInv w wr B gr t j most (numB s).1 ⟨(numB s).2.l, (numB s).2.bad || decide (most < (numB s).1)⟩ v m xs s') (hb : m = 0 ∨ s'.bad = true) : RxPost w B gr t j most s (.returned v) wr := by
  have e : many_ numB j most s = (xs, s') := h.done hb
  unfold RxPost
  rw [e]
  refine ⟨v, rfl, h.own, h.rd, h.grow, ?_, h.wid⟩
  have := h.len
  rcases h.no with h1 | h1
  · show xs.length ≤ most; omega
  · show xs.length ≤ most; rw [h1]; simp

theorem info_Slot : (Tryd.prog.info? 66).map (fun i => (i.zero, i.size, i.bytes)) = some (some (.agg #[.int .i64 0, .int .i64 0, .int .i64 0]), 3, 24) := by kernel_rfl
set_option maxRecDepth 100000 in
set_option maxHeartbeats 4000000 in
theorem rows1_any (B gp gr most : Nat) (s : Rst) (w : World) (hp : w.cell? ⟨gp, 0, none⟩ = some (.pointer (some ⟨gr, 0, none⟩))) (hne : gp ≠ gr) (hR : RsAt w B gr s) (hB : B ≤ w.heap.size) (hm : most ≤ 1000) :
    Calls Tryd.prog 27 #[.pointer (some ⟨gr, 0, none⟩), .int .i64 most, .func (.func 28) #[] #[.pointer (some ⟨gp, 0, none⟩)]] w (RxPost w B gr 66 3 most s) := by
  have HP := hide hp; have HR := hide hR
  have hgrB : gr < B := by obtain ⟨A, c, _, _, d, _⟩ := hR; exact d.2
  obtain ⟨i0, hi, hz0, hz1, hz2⟩ := en_info_parts info_Slot
  obtain ⟨N, hN⟩ : ∃ N, (numB s).1 = N := ⟨_, rfl⟩
  have hNb : N ≤ 1099511627776 := by rw [← hN]; exact numB_le s
  have HN := hide hN
  clear hp hR hN
  go_enter Tryd.func27, Tryd.ntmps27
  go_wp2_with fail
  refine (num_any B gr s _ HR.out).mono ?_
  rintro r w2 ⟨rfl, hR2, hG2⟩
  rw [HN.out]
  have HG2 := hide hG2
  have HP2 := hide (grown_cell HP.out hG2 hne)
  obtain ⟨A2, cp2, hb2, hrest⟩ := hR2
  obtain ⟨b0, b1, f0, f1⟩ := hb2.cells2
  obtain ⟨bd, hbd⟩ : ∃ bd, (numB s).2.bad = bd := ⟨_, rfl⟩
  rw [hbd] at b1
  have HB2 := hide hb2; have HRE := hide hrest; have HBD := hide hbd
  clear hG2 hb2 hrest hbd
  go_upto_region 2 with fail
  go_cut [22] from 11 to 22 (fun _ wx => wx = w2.setCell ⟨gr, 1, none⟩ (.bool (bd || decide (most < N))))
  case first =>
    cases bd
    case true =>
      go_wp2_with fail
      go_meet
      case rel => simp
    case false =>
      by_cases hmN : most < N
      · have q1 : decide ((most : Int) < (N : Int)) = true := decide_eq_true (by omega)
        go_wp2_with fail
        go_meet
        case rel => simp [hmN]
      · have q1 : decide ((most : Int) < (N : Int)) = false := decide_eq_false (by omega)
        go_wp2_with fail
        go_meet
        case rel => simp [hmN]
  case rest =>
    have hw := hcut
    clear hcut
    subst hw
    have HS : Hid (RxInv w (w2.setCell ⟨gr, 1, none⟩ (.bool (bd || decide (most < N)))) B gr 66 3 most N ⟨(numB s).2.l, (numB s).2.bad || decide (most < N)⟩ (.slice none 0 0) N [] ⟨(numB s).2.l, (numB s).2.bad || decide (most < N)⟩) := hide ⟨World.ownsRow_nil _ _ _ _, ⟨A2, cp2, by rw [HBD.out]; exact HB2.out.set_ 1 _, HRE.out.1.keep fun b off ha _ => Below.heap_setCell w2 _ _ b (HRE.out.2.1.1 b off ha).1, HRE.out.2⟩, only_setCell HG2.out (.inl rfl) _, by simp, by simp, by by_cases h : most < N <;> simp [h] <;> omega, by simp, .inr rfl⟩
    obtain ⟨s2, hs2⟩ : ∃ s2 : Rst, s2 = ⟨(numB s).2.l, (numB s).2.bad || decide (most < N)⟩ := ⟨_, rfl⟩
    rw [← hs2] at HS
    have HS2 := hide hs2
    clear HB2 HRE HBD HG2 b0 b1 f0 f1 hs2
    have HP3 := hide (show (w2.setCell ⟨gr, 1, none⟩ (.bool (bd || decide (most < N)))).cell? ⟨gp, 0, none⟩ = some (.pointer (some ⟨gr, 0, none⟩)) from far_cell HP2.out hne _)
    obtain ⟨w3, hw3⟩ : ∃ w3, w3 = w2.setCell ⟨gr, 1, none⟩ (.bool (bd || decide (most < N))) := ⟨_, rfl⟩
    rw [← hw3] at HS HP3 ⊢
    clear hw3 HP2
    go_wp2_with fail
    go_loopw [7, 8] (fun n v wr => ∃ (m : Nat) (xs : List (List Nat)) (s' : Rst), n = .int .i64 m ∧ m ≤ N ∧ Hid (RxInv w wr B gr 66 3 most N s2 v m xs s')) (fun n _ _ => (intOf n).toNat)
    case atStart => exact ⟨N, [], s2, rfl, Nat.le_refl _, HS⟩
    case round =>
      clear HS HP3
      obtain ⟨m, xs, s', rfl, hmN, HI⟩ := hrel
      have HP4 := hide (grown_cell HP.out HI.out.grow hne)
      obtain ⟨A3, cp3, hb3, -⟩ := HI.out.rd
      obtain ⟨-, b1, -, -⟩ := hb3.cells2
      obtain ⟨bd', hbd⟩ : ∃ bd, s'.bad = bd := ⟨_, rfl⟩
      rw [hbd] at b1
      have HBD := hide hbd
      clear hb3 hbd
      cases m with
      | zero =>
        have HF : Hid (RxPost w B gr 66 3 most s (.returned u8) wr) := hide (RxInv.post (by have := HI.out; rw [HS2.out, ← HN.out] at this; exact this) (.inl rfl))
        clear HI
        go_wp2_with fail
        go_ret
        exact HF.out
      | succ m =>
        have q1 : decide ((0 : Int) < ((m + 1 : Nat) : Int)) = true := decide_eq_true (by omega)
        have q2 : decide ((0 : Int) < (m : Int) + 1) = true := decide_eq_true (by omega)
        cases bd'
        case true =>
          have HF : Hid (RxPost w B gr 66 3 most s (.returned u8) wr) := hide (RxInv.post (by have := HI.out; rw [HS2.out, ← HN.out] at this; exact this) (.inr HBD.out))
          clear HI
          go_wp2_with fail
          go_ret
          exact HF.out
        case false =>
          go_wp2_with fail
          refine (clos1_any B gp gr s' _ HP4.out hne HI.out.rd (Nat.le_trans hB HI.out.grow.size)).mono ?_
          rintro r w6 ⟨rfl, hR6, hG6⟩
          have HO6 := hide (own_keep HI.out.own (w' := w6) fun g hg hlt => hG6.block g hlt (by simp; omega))
          have HR6 := hide hR6
          have HG6 := hide (only_trans HI.out.grow hG6)
          have HLX := hide (show xs.length ≤ 1000 by have := HI.out.len; rcases HI.out.few with h | h; omega; (rw [HBD.out] at h; cases h))
          clear hR6 hG6 b1 q1 q2
          go_wp2_with (at_builtin; go_must (refine wpList_append_own _ rfl (.tmp 34) (.tmp 37) _ rfl w.heap.size 66 i0 _ 3 24 Tryd.underlying23 hi hz0 hz1 hz2 rfl (by decide) u8 xs.length (rc xs) rfl (by exact HO6.out.alloc _) ⟨w6.heap.size, 0, none⟩ 1 1 [.int .i64 ((numB s').1 : Nat), .int .i64 ((numB (numB s').2).1 : Nat), .int .i64 ((numB (numB (numB s').2).2).1 : Nat)] rfl rfl (by exact news_blk (Blk.new w6 _ _)) (by simp [Value.oneCell']) (by have := HLX.out; simp [maxLen]; omega) (by have := HLX.out; omega) (by have := HG6.out.size; simp; omega) ?_); intro v7 w7 hown7 hg7 _; have HI7 := hide (RxInv.step HI.out HBD.out hown7 (RsAt.far (RsAt.below HR6.out ((Below.refl _ _).alloc (Nat.le_refl _) _)) (fun b hb hlt => hg7.block b hlt (fun e => by have := own_base HO6.out b e.symm; omega))) (grown_new (only_alloc HG6.out _) hg7 (fun j e => own_base HO6.out j e))); clear hown7 hg7)
          go_roundw
          case rel => exact ⟨m, _, _, by go_num, by omega, HI7⟩
          case measure => simp [intOf]

theorem info_Link : (Tryd.prog.info? 68).map (fun i => (i.zero, i.size, i.bytes)) = some (some (.agg #[.int .i64 0, .int .i64 0, .int .i64 0, .int .i64 0]), 4, 32) := by kernel_rfl
set_option maxRecDepth 100000 in
set_option maxHeartbeats 4000000 in
theorem rows2_any (B gp gr most : Nat) (s : Rst) (w : World) (hp : w.cell? ⟨gp, 0, none⟩ = some (.pointer (some ⟨gr, 0, none⟩))) (hne : gp ≠ gr) (hR : RsAt w B gr s) (hB : B ≤ w.heap.size) (hm : most ≤ 1000) :
    Calls Tryd.prog 29 #[.pointer (some ⟨gr, 0, none⟩), .int .i64 most, .func (.func 30) #[] #[.pointer (some ⟨gp, 0, none⟩)]] w (RxPost w B gr 68 4 most s) := by
  have HP := hide hp; have HR := hide hR
  have hgrB : gr < B := by obtain ⟨A, c, _, _, d, _⟩ := hR; exact d.2
  obtain ⟨i0, hi, hz0, hz1, hz2⟩ := en_info_parts info_Link
  obtain ⟨N, hN⟩ : ∃ N, (numB s).1 = N := ⟨_, rfl⟩
  have hNb : N ≤ 1099511627776 := by rw [← hN]; exact numB_le s
  have HN := hide hN
  clear hp hR hN
  go_enter Tryd.func29, Tryd.ntmps29
  go_wp2_with fail
  refine (num_any B gr s _ HR.out).mono ?_
  rintro r w2 ⟨rfl, hR2, hG2⟩
  rw [HN.out]
  have HG2 := hide hG2
  have HP2 := hide (grown_cell HP.out hG2 hne)
  obtain ⟨A2, cp2, hb2, hrest⟩ := hR2
  obtain ⟨b0, b1, f0, f1⟩ := hb2.cells2
  obtain ⟨bd, hbd⟩ : ∃ bd, (numB s).2.bad = bd := ⟨_, rfl⟩
  rw [hbd] at b1
  have HB2 := hide hb2; have HRE := hide hrest; have HBD := hide hbd
  clear hG2 hb2 hrest hbd
  go_upto_region 2 with fail
  go_cut [22] from 11 to 22 (fun _ wx => wx = w2.setCell ⟨gr, 1, none⟩ (.bool (bd || decide (most < N))))
  case first =>
    cases bd
    case true =>
      go_wp2_with fail
      go_meet
      case rel => simp
    case false =>
      by_cases hmN : most < N
      · have q1 : decide ((most : Int) < (N : Int)) = true := decide_eq_true (by omega)
        go_wp2_with fail
        go_meet
        case rel => simp [hmN]
      · have q1 : decide ((most : Int) < (N : Int)) = false := decide_eq_false (by omega)
        go_wp2_with fail
        go_meet
        case rel => simp [hmN]
  case rest =>
    have hw := hcut
    clear hcut
    subst hw
    have HS : Hid (RxInv w (w2.setCell ⟨gr, 1, none⟩ (.bool (bd || decide (most < N)))) B gr 68 4 most N ⟨(numB s).2.l, (numB s).2.bad || decide (most < N)⟩ (.slice none 0 0) N [] ⟨(numB s).2.l, (numB s).2.bad || decide (most < N)⟩) := hide ⟨World.ownsRow_nil _ _ _ _, ⟨A2, cp2, by rw [HBD.out]; exact HB2.out.set_ 1 _, HRE.out.1.keep fun b off ha _ => Below.heap_setCell w2 _ _ b (HRE.out.2.1.1 b off ha).1, HRE.out.2⟩, only_setCell HG2.out (.inl rfl) _, by simp, by simp, by by_cases h : most < N <;> simp [h] <;> omega, by simp, .inr rfl⟩
    obtain ⟨s2, hs2⟩ : ∃ s2 : Rst, s2 = ⟨(numB s).2.l, (numB s).2.bad || decide (most < N)⟩ := ⟨_, rfl⟩
    rw [← hs2] at HS
    have HS2 := hide hs2
    clear HB2 HRE HBD HG2 b0 b1 f0 f1 hs2
    have HP3 := hide (show (w2.setCell ⟨gr, 1, none⟩ (.bool (bd || decide (most < N)))).cell? ⟨gp, 0, none⟩ = some (.pointer (some ⟨gr, 0, none⟩)) from far_cell HP2.out hne _)
    obtain ⟨w3, hw3⟩ : ∃ w3, w3 = w2.setCell ⟨gr, 1, none⟩ (.bool (bd || decide (most < N))) := ⟨_, rfl⟩
    rw [← hw3] at HS HP3 ⊢
    clear hw3 HP2
    go_wp2_with fail
    go_loopw [7, 8] (fun n v wr => ∃ (m : Nat) (xs : List (List Nat)) (s' : Rst), n = .int .i64 m ∧ m ≤ N ∧ Hid (RxInv w wr B gr 68 4 most N s2 v m xs s')) (fun n _ _ => (intOf n).toNat)
    case atStart => exact ⟨N, [], s2, rfl, Nat.le_refl _, HS⟩
    case round =>
      clear HS HP3
      obtain ⟨m, xs, s', rfl, hmN, HI⟩ := hrel
      have HP4 := hide (grown_cell HP.out HI.out.grow hne)
      obtain ⟨A3, cp3, hb3, -⟩ := HI.out.rd
      obtain ⟨-, b1, -, -⟩ := hb3.cells2
      obtain ⟨bd', hbd⟩ : ∃ bd, s'.bad = bd := ⟨_, rfl⟩
      rw [hbd] at b1
      have HBD := hide hbd
      clear hb3 hbd
      cases m with
      | zero =>
        have HF : Hid (RxPost w B gr 68 4 most s (.returned u8) wr) := hide (RxInv.post (by have := HI.out; rw [HS2.out, ← HN.out] at this; exact this) (.inl rfl))
        clear HI
        go_wp2_with fail
        go_ret
        exact HF.out
      | succ m =>
        have q1 : decide ((0 : Int) < ((m + 1 : Nat) : Int)) = true := decide_eq_true (by omega)
        have q2 : decide ((0 : Int) < (m : Int) + 1) = true := decide_eq_true (by omega)
        cases bd'
        case true =>
          have HF : Hid (RxPost w B gr 68 4 most s (.returned u8) wr) := hide (RxInv.post (by have := HI.out; rw [HS2.out, ← HN.out] at this; exact this) (.inr HBD.out))
          clear HI
          go_wp2_with fail
          go_ret
          exact HF.out
        case false =>
          go_wp2_with fail
          refine (clos2_any B gp gr s' _ HP4.out hne HI.out.rd (Nat.le_trans hB HI.out.grow.size)).mono ?_
          rintro r w6 ⟨rfl, hR6, hG6⟩
          have HO6 := hide (own_keep HI.out.own (w' := w6) fun g hg hlt => hG6.block g hlt (by simp; omega))
          have HR6 := hide hR6
          have HG6 := hide (only_trans HI.out.grow hG6)
          have HLX := hide (show xs.length ≤ 1000 by have := HI.out.len; rcases HI.out.few with h | h; omega; (rw [HBD.out] at h; cases h))
          clear hR6 hG6 b1 q1 q2
          go_wp2_with (at_builtin; go_must (refine wpList_append_own _ rfl (.tmp 34) (.tmp 37) _ rfl w.heap.size 68 i0 _ 4 32 Tryd.underlying24 hi hz0 hz1 hz2 rfl (by decide) u8 xs.length (rc xs) rfl (by exact HO6.out.alloc _) ⟨w6.heap.size, 0, none⟩ 1 1 [.int .i64 ((numB s').1 : Nat), .int .i64 ((numB (numB s').2).1 : Nat), .int .i64 ((numB (numB (numB s').2).2).1 : Nat), .int .i64 ((numB (numB (numB (numB s').2).2).2).1 : Nat)] rfl rfl (by exact news_blk (Blk.new w6 _ _)) (by simp [Value.oneCell']) (by have := HLX.out; simp [maxLen]; omega) (by have := HLX.out; omega) (by have := HG6.out.size; simp; omega) ?_); intro v7 w7 hown7 hg7 _; have HI7 := hide (RxInv.step HI.out HBD.out hown7 (RsAt.far (RsAt.below HR6.out ((Below.refl _ _).alloc (Nat.le_refl _) _)) (fun b hb hlt => hg7.block b hlt (fun e => by have := own_base HO6.out b e.symm; omega))) (grown_new (only_alloc HG6.out _) hg7 (fun j e => own_base HO6.out j e))); clear hown7 hg7)
          go_roundw
          case rel => exact ⟨m, _, _, by go_num, by omega, HI7⟩
          case measure => simp [intOf]

theorem info_Window : (Tryd.prog.info? 70).map (fun i => (i.zero, i.size, i.bytes)) = some (some (.agg #[.int .i64 0, .int .i64 0, .int .i64 0]), 3, 24) := by kernel_rfl
set_option maxRecDepth 100000 in
set_option maxHeartbeats 4000000 in
theorem rows3_any (B gp gr most : Nat) (s : Rst) (w : World) (hp : w.cell? ⟨gp, 0, none⟩ = some (.pointer (some ⟨gr, 0, none⟩))) (hne : gp ≠ gr) (hR : RsAt w B gr s) (hB : B ≤ w.heap.size) (hm : most ≤ 1000) :
    Calls Tryd.prog 31 #[.pointer (some ⟨gr, 0, none⟩), .int .i64 most, .func (.func 32) #[] #[.pointer (some ⟨gp, 0, none⟩)]] w (RxPost w B gr 70 3 most s) := by
  have HP := hide hp; have HR := hide hR
  have hgrB : gr < B := by obtain ⟨A, c, _, _, d, _⟩ := hR; exact d.2
  obtain ⟨i0, hi, hz0, hz1, hz2⟩ := en_info_parts info_Window
  obtain ⟨N, hN⟩ : ∃ N, (numB s).1 = N := ⟨_, rfl⟩
  have hNb : N ≤ 1099511627776 := by rw [← hN]; exact numB_le s
  have HN := hide hN
  clear hp hR hN
  go_enter Tryd.func31, Tryd.ntmps31
  go_wp2_with fail
  refine (num_any B gr s _ HR.out).mono ?_
  rintro r w2 ⟨rfl, hR2, hG2⟩
  rw [HN.out]
  have HG2 := hide hG2
  have HP2 := hide (grown_cell HP.out hG2 hne)
  obtain ⟨A2, cp2, hb2, hrest⟩ := hR2
  obtain ⟨b0, b1, f0, f1⟩ := hb2.cells2
  obtain ⟨bd, hbd⟩ : ∃ bd, (numB s).2.bad = bd := ⟨_, rfl⟩
  rw [hbd] at b1
  have HB2 := hide hb2; have HRE := hide hrest; have HBD := hide hbd
  clear hG2 hb2 hrest hbd
  go_upto_region 2 with fail
  go_cut [22] from 11 to 22 (fun _ wx => wx = w2.setCell ⟨gr, 1, none⟩ (.bool (bd || decide (most < N))))
  case first =>
    cases bd
    case true =>
      go_wp2_with fail
      go_meet
      case rel => simp
    case false =>
      by_cases hmN : most < N
      · have q1 : decide ((most : Int) < (N : Int)) = true := decide_eq_true (by omega)
        go_wp2_with fail
        go_meet
        case rel => simp [hmN]
      · have q1 : decide ((most : Int) < (N : Int)) = false := decide_eq_false (by omega)
        go_wp2_with fail
        go_meet
        case rel => simp [hmN]
  case rest =>
    have hw := hcut
    clear hcut
    subst hw
    have HS : Hid (RxInv w (w2.setCell ⟨gr, 1, none⟩ (.bool (bd || decide (most < N)))) B gr 70 3 most N ⟨(numB s).2.l, (numB s).2.bad || decide (most < N)⟩ (.slice none 0 0) N [] ⟨(numB s).2.l, (numB s).2.bad || decide (most < N)⟩) := hide ⟨World.ownsRow_nil _ _ _ _, ⟨A2, cp2, by rw [HBD.out]; exact HB2.out.set_ 1 _, HRE.out.1.keep fun b off ha _ => Below.heap_setCell w2 _ _ b (HRE.out.2.1.1 b off ha).1, HRE.out.2⟩, only_setCell HG2.out (.inl rfl) _, by simp, by simp, by by_cases h : most < N <;> simp [h] <;> omega, by simp, .inr rfl⟩
    obtain ⟨s2, hs2⟩ : ∃ s2 : Rst, s2 = ⟨(numB s).2.l, (numB s).2.bad || decide (most < N)⟩ := ⟨_, rfl⟩
    rw [← hs2] at HS
    have HS2 := hide hs2
    clear HB2 HRE HBD HG2 b0 b1 f0 f1 hs2
    have HP3 := hide (show (w2.setCell ⟨gr, 1, none⟩ (.bool (bd || decide (most < N)))).cell? ⟨gp, 0, none⟩ = some (.pointer (some ⟨gr, 0, none⟩)) from far_cell HP2.out hne _)
    obtain ⟨w3, hw3⟩ : ∃ w3, w3 = w2.setCell ⟨gr, 1, none⟩ (.bool (bd || decide (most < N))) := ⟨_, rfl⟩
    rw [← hw3] at HS HP3 ⊢
    clear hw3 HP2
    go_wp2_with fail
    go_loopw [7, 8] (fun n v wr => ∃ (m : Nat) (xs : List (List Nat)) (s' : Rst), n = .int .i64 m ∧ m ≤ N ∧ Hid (RxInv w wr B gr 70 3 most N s2 v m xs s')) (fun n _ _ => (intOf n).toNat)
    case atStart => exact ⟨N, [], s2, rfl, Nat.le_refl _, HS⟩
    case round =>
      clear HS HP3
      obtain ⟨m, xs, s', rfl, hmN, HI⟩ := hrel
      have HP4 := hide (grown_cell HP.out HI.out.grow hne)
      obtain ⟨A3, cp3, hb3, -⟩ := HI.out.rd
      obtain ⟨-, b1, -, -⟩ := hb3.cells2
      obtain ⟨bd', hbd⟩ : ∃ bd, s'.bad = bd := ⟨_, rfl⟩
      rw [hbd] at b1
      have HBD := hide hbd
      clear hb3 hbd
      cases m with
      | zero =>
        have HF : Hid (RxPost w B gr 70 3 most s (.returned u8) wr) := hide (RxInv.post (by have := HI.out; rw [HS2.out, ← HN.out] at this; exact this) (.inl rfl))
        clear HI
        go_wp2_with fail
        go_ret
        exact HF.out
      | succ m =>
        have q1 : decide ((0 : Int) < ((m + 1 : Nat) : Int)) = true := decide_eq_true (by omega)
        have q2 : decide ((0 : Int) < (m : Int) + 1) = true := decide_eq_true (by omega)
        cases bd'
        case true =>
          have HF : Hid (RxPost w B gr 70 3 most s (.returned u8) wr) := hide (RxInv.post (by have := HI.out; rw [HS2.out, ← HN.out] at this; exact this) (.inr HBD.out))
          clear HI
          go_wp2_with fail
          go_ret
          exact HF.out
        case false =>
          go_wp2_with fail
          refine (clos3_any B gp gr s' _ HP4.out hne HI.out.rd (Nat.le_trans hB HI.out.grow.size)).mono ?_
          rintro r w6 ⟨rfl, hR6, hG6⟩
          have HO6 := hide (own_keep HI.out.own (w' := w6) fun g hg hlt => hG6.block g hlt (by simp; omega))
          have HR6 := hide hR6
          have HG6 := hide (only_trans HI.out.grow hG6)
          have HLX := hide (show xs.length ≤ 1000 by have := HI.out.len; rcases HI.out.few with h | h; omega; (rw [HBD.out] at h; cases h))
          clear hR6 hG6 b1 q1 q2
          go_wp2_with (at_builtin; go_must (refine wpList_append_own _ rfl (.tmp 34) (.tmp 37) _ rfl w.heap.size 70 i0 _ 3 24 Tryd.underlying25 hi hz0 hz1 hz2 rfl (by decide) u8 xs.length (rc xs) rfl (by exact HO6.out.alloc _) ⟨w6.heap.size, 0, none⟩ 1 1 [.int .i64 ((numB s').1 : Nat), .int .i64 ((numB (numB s').2).1 : Nat), .int .i64 ((numB (numB (numB s').2).2).1 : Nat)] rfl rfl (by exact news_blk (Blk.new w6 _ _)) (by simp [Value.oneCell']) (by have := HLX.out; simp [maxLen]; omega) (by have := HLX.out; omega) (by have := HG6.out.size; simp; omega) ?_); intro v7 w7 hown7 hg7 _; have HI7 := hide (RxInv.step HI.out HBD.out hown7 (RsAt.far (RsAt.below HR6.out ((Below.refl _ _).alloc (Nat.le_refl _) _)) (fun b hb hlt => hg7.block b hlt (fun e => by have := own_base HO6.out b e.symm; omega))) (grown_new (only_alloc HG6.out _) hg7 (fun j e => own_base HO6.out j e))); clear hown7 hg7)
          go_roundw
          case rel => exact ⟨m, _, _, by go_num, by omega, HI7⟩
          case measure => simp [intOf]
end Go.Proofs.YtfdadkngbnhmeaaDoor
