/- The contract of the reader's method num; conditions: the reader lies in a block of its own, its bytes in memory. -/
import Derived.Test.YtfdadkngbnhmeaaDoorEna
import Derived.Test.YtfdadkngbnhmeaaDoorBt
import Derived.Test.YtfdadkngbnhmeaaDoorPr
namespace Go.Proofs.YtfdadkngbnhmeaaDoor
open Go.RowKit

/-- Bytes in memory. -/
def BsAt (w : World) (A : Option Addr) (l : List Nat) : Prop := ∀ j, j < l.length → ∃ b off, A = some ⟨b, off, none⟩ ∧ w.cell? ⟨b, off + j, none⟩ = some (.int .u8 (l.getD j 0 : Nat))
theorem BsAt.keep {w w' : World} {A : Option Addr} {l : List Nat} (h : BsAt w A l) (hk : ∀ b off, A = some ⟨b, off, none⟩ → b < w.heap.size → w'.heap[b]? = w.heap[b]?) : BsAt w' A l := by
  intro j hj
  obtain ⟨b, off, rfl, c0⟩ := h j hj
  refine ⟨b, off, rfl, ?_⟩
  rw [← c0]
  have := hk b off rfl (World.block_lt_of_cell? _ _ c0)
  unfold World.cell?; simp only [this]
theorem BsAt.below {w w' : World} {A : Option Addr} {l : List Nat} (h : BsAt w A l) (hB : Below w.heap.size w w') : BsAt w' A l := h.keep fun b _ _ hb => hB.block b hb
/-- A reader, it and its bytes below block B. -/
def RsAt (w : World) (B gr : Nat) (s : Rst) : Prop := ∃ A c, Blk w gr 75 #[.slice A s.l.length c, .bool s.bad] ∧ BsAt w A s.l ∧ ((∀ b off, A = some ⟨b, off, none⟩ → b ≠ gr ∧ b < B) ∧ gr < B) ∧ s.l.length ≤ c ∧ c ≤ 9223372036854775807 ∧ ∀ x ∈ s.l, x < 256
theorem RsAt.below {w w' : World} {B gr : Nat} {s : Rst} (h : RsAt w B gr s) (hB : Below w.heap.size w w') : RsAt w' B gr s := by
  obtain ⟨A, c, a, b, d⟩ := h
  exact ⟨A, c, a.below hB a.lt, b.below hB, d⟩
theorem RsAt.lt {w : World} {B gr : Nat} {s : Rst} (h : RsAt w B gr s) : gr < w.heap.size := by
  obtain ⟨A, c, a, _⟩ := h
  exact a.lt
theorem RsAt.far {w w' : World} {B gr : Nat} {s : Rst} (h : RsAt w B gr s) (hk : ∀ b, b < B → b < w.heap.size → w'.heap[b]? = w.heap[b]?) : RsAt w' B gr s := by
  obtain ⟨A, c, a, b, d, e⟩ := h
  exact ⟨A, c, (hk gr d.2 a.lt).trans a, b.keep fun b2 off ha hb => hk b2 (d.1 b2 off ha).2 hb, d, e⟩
theorem RsAt.set_ {w : World} {B gr : Nat} {s : Rst} (h : RsAt w B gr s) {p : Addr} (hp : B ≤ p.block) (u : Value) : RsAt (w.setCell p u) B gr s :=
  h.far fun b hb _ => Below.heap_setCell w p u b (by omega)
theorem RsAt.mono {w : World} {B B2 gr : Nat} {s : Rst} (h : RsAt w B gr s) (hB : B ≤ B2) : RsAt w B2 gr s := by
  obtain ⟨A, c, a, b, d, e⟩ := h
  exact ⟨A, c, a, b, ⟨fun b off ha => ⟨(d.1 b off ha).1, by have := (d.1 b off ha).2; omega⟩, by have := d.2; omega⟩, e⟩
theorem u8_and : ∀ x : Fin 256, bits .and .u8 (x.val : Int) 127 = ((x.val % 128 : Nat) : Int) := by decide +kernel
/-- What num leaves. -/
def NumPost (w : World) (B gr : Nat) (s : Rst) (r : Ending) (w' : World) : Prop := r = .returned (.int .i64 ((numB s).1 : Nat)) ∧ RsAt w' B gr (numB s).2 ∧ w.grownBy w' (some gr)
section
variable {w : World} {B gr : Nat} {A : Option Addr} {l : List Nat} {n c : Nat} {bad : Bool}
theorem num_bad (hb : Blk w gr 75 #[.slice A n c, .bool bad]) (hB : BsAt w A l) (hA : (∀ b off, A = some ⟨b, off, none⟩ → b ≠ gr ∧ b < B) ∧ gr < B) (hn : l.length = n) (hc : n ≤ c) (hm : c ≤ 9223372036854775807) (hl : ∀ x ∈ l, x < 256) (h : rd 0 0 l = none) :
    NumPost w B gr ⟨l, bad⟩ (.returned (.int .i64 0)) (w.setCell ⟨gr, 1, none⟩ (.bool true)) := by
  have e : numB ⟨l, bad⟩ = (0, ⟨l, true⟩) := by unfold numB; simp only [h]
  unfold NumPost
  rw [e]
  subst hn
  exact ⟨rfl, ⟨A, c, hb.set_ 1 _, hB.keep fun b off ha _ => Below.heap_setCell w _ _ b (hA.1 b off ha).1, hA, hc, hm, hl⟩, only_setCell (only_refl _ _) (.inl rfl) _⟩
theorem drop_add (_A : Option Addr) (l : List Nat) (k : Nat) (w : World) (b off : Nat) (hB : BsAt w (some ⟨b, off, none⟩) l) : BsAt w (some ⟨b, off + k, none⟩) (l.drop k) := by
  intro j hj
  rw [List.length_drop] at hj
  obtain ⟨b', off', e, c0⟩ := hB (k + j) (by omega)
  cases e
  refine ⟨b, off + k, rfl, ?_⟩
  rw [Nat.add_assoc, c0]
  simp [List.getD, List.getElem?_drop]
theorem num_good {b off k v : Nat} {A' : Option Addr} (hb : Blk w gr 75 #[.slice (some ⟨b, off, none⟩) n c, .bool bad]) (hB : BsAt w (some ⟨b, off, none⟩) l) (hA : (∀ b' off', (some ⟨b, off, none⟩ : Option Addr) = some ⟨b', off', none⟩ → b' ≠ gr ∧ b' < B) ∧ gr < B) (hn : l.length = n) (hc : n ≤ c) (hm : c ≤ 9223372036854775807) (hl : ∀ x ∈ l, x < 256) (hk : k < n)
    (h : rd 0 0 l = some (v, l.drop (k + 1))) (hA' : A' = some ⟨b, off, none⟩ ∧ c = k + 1 ∨ A' = some ⟨b, off + (k + 1), none⟩) :
    NumPost w B gr ⟨l, bad⟩ (.returned (.int .i64 (v : Nat))) (w.setCell ⟨gr, 0, none⟩ (.slice A' (n - (k + 1)) (c - (k + 1)))) := by
  have e : numB ⟨l, bad⟩ = (v, ⟨l.drop (k + 1), bad⟩) := by unfold numB; simp only [h]
  unfold NumPost
  rw [e]
  subst hn
  have hlen : (l.drop (k + 1)).length = l.length - (k + 1) := List.length_drop
  dsimp only
  refine ⟨rfl, ⟨A', c - (k + 1), by dsimp only; rw [hlen]; exact hb.set_ 0 _, ?_, ?_, by dsimp only; rw [hlen]; omega, by omega, fun x hx => hl x (List.mem_of_mem_drop hx)⟩, only_setCell (only_refl _ _) (.inl rfl) _⟩
  · have hb2 : BsAt w A' (l.drop (k + 1)) := by
      rcases hA' with ⟨_, hc1⟩ | rfl
      · intro j hj; omega
      · exact drop_add none l (k + 1) w b off hB
    refine hb2.keep fun b2 off2 ha _ => Below.heap_setCell w _ _ b2 ?_
    rcases hA' with ⟨rfl, _⟩ | rfl
    · exact (hA.1 b2 off2 ha).1
    · cases ha; exact (hA.1 b off rfl).1
  · refine ⟨fun b2 off2 ha => ?_, hA.2⟩
    rcases hA' with ⟨rfl, _⟩ | rfl
    · exact hA.1 b2 off2 ha
    · cases ha; exact hA.1 b off rfl
end
theorem rd_stop {k x y : Nat} {r : List Nat} (h : 5 < k ∨ 1099511627776 < x + y % 128 * 128 ^ k ∨ (y = 0 ∧ 0 < k)) : rd k x (y :: r) = none := by
  have pw : (2 : Nat) ^ 40 = 1099511627776 := by decide
  rw [rd, pw, if_pos h]
theorem rd_end {k x y : Nat} {r : List Nat} (h : ¬ (5 < k ∨ 1099511627776 < x + y % 128 * 128 ^ k ∨ (y = 0 ∧ 0 < k))) (hy : y < 128) : rd k x (y :: r) = some (x + y % 128 * 128 ^ k, r) := by
  have pw : (2 : Nat) ^ 40 = 1099511627776 := by decide
  rw [rd, pw, if_neg h, if_pos hy]
theorem rd_on {k x y : Nat} {r : List Nat} (h : ¬ (5 < k ∨ 1099511627776 < x + y % 128 * 128 ^ k ∨ (y = 0 ∧ 0 < k))) (hy : ¬ y < 128) : rd k x (y :: r) = rd (k + 1) (x + y % 128 * 128 ^ k) r := by
  have pw : (2 : Nat) ^ 40 = 1099511627776 := by decide
  rw [rd, pw, if_neg h, if_neg hy]
theorem or_shift (x y k : Nat) (hk : k ≤ 6) (hx : x < 128 ^ k) : bits .or .i64 (x : Int) (wrap64 ((y : Int) % 128 * 2 ^ (7 * k))) = ((x + y % 128 * 128 ^ k : Nat) : Int) := by
  have e7 : (128 : Nat) ^ k = 2 ^ (7 * k) := by rw [Nat.pow_mul]
  have hb : (2 : Nat) ^ (7 * k) ≤ 2 ^ 42 := Nat.pow_le_pow_right (by decide) (by omega)
  have h42 : (2 : Nat) ^ 42 = 4398046511104 := by decide
  have hy : y % 128 * 2 ^ (7 * k) ≤ 127 * 4398046511104 := Nat.mul_le_mul (by omega) (by omega)
  have ec : (y : Int) % 128 * 2 ^ (7 * k) = ((y % 128 * 2 ^ (7 * k) : Nat) : Int) := by push_cast; rfl
  rw [ec, IntWalk.wrap64_in _ ⟨by omega, by omega⟩, i64_or_nat _ _ (by rw [e7] at hx; omega) (by omega), e7]
  congr 1
  have hx2 : x < 2 ^ (7 * k) := by rw [← e7]; exact hx
  rw [Nat.or_comm, Nat.mul_comm, ← Nat.two_pow_add_eq_or_of_lt hx2, Nat.add_comm]
theorem pow_step {x y k x2 : Nat} (h : x < 128 ^ k) (e : x + y % 128 * 128 ^ k = x2) : x2 < 128 ^ (k + 1) := by
  have h1 : y % 128 * 128 ^ k ≤ 127 * 128 ^ k := Nat.mul_le_mul_right _ (by omega)
  rw [Nat.pow_succ]; omega
set_option maxRecDepth 100000 in
set_option maxHeartbeats 4000000 in
theorem num_any (B gr : Nat) (s : Rst) (w : World) (h : RsAt w B gr s) :
    Calls Tryd.prog 26 #[.pointer (some ⟨gr, 0, none⟩)] w (NumPost w B gr s) := by
  obtain ⟨l, bad⟩ := s
  obtain ⟨A, c, hb, hB, hA, hc, hm, hl⟩ := h
  dsimp only at hb hB hc hl
  obtain ⟨n, hn⟩ : ∃ n, l.length = n := ⟨_, rfl⟩
  rw [hn] at hb hc
  obtain ⟨c0, c1, f0, f1⟩ := hb.cells2
  have HBAD : Hid (rd 0 0 l = none → NumPost w B gr ⟨l, bad⟩ (.returned (.int .i64 0)) (w.setCell ⟨gr, 1, none⟩ (.bool true))) := hide (num_bad hb hB hA hn hc hm hl)
  have HB := hide hb; have HBS := hide hB; have HA := hide hA; have HL := hide hl; have HN := hide hn
  clear hb hB hA hl hn
  go_enter Tryd.func26, Tryd.ntmps26
  go_wp2_with fail
  go_loop [3, 11] (fun m i => ∃ k x : Nat, k ≤ n ∧ k ≤ 6 ∧ i = .int .i64 k ∧ m = .int .i64 x ∧ x ≤ 1099511627776 ∧ Hid (x < 128 ^ k ∧ rd 0 0 l = rd k x (l.drop k))) (fun _ i => n - (intOf i).toNat)
  case atStart => exact ⟨0, 0, by omega, by omega, rfl, rfl, by omega, hide ⟨by simp, by simp⟩⟩
  case round =>
    obtain ⟨k, x, hk, hk6, rfl, rfl, hx, HI⟩ := hrel
    by_cases hlt : k < n
    · obtain ⟨b, off, rfl, d0⟩ := HBS.out k (by rw [HN.out]; exact hlt)
      obtain ⟨y, hy⟩ : ∃ y, l.getD k 0 = y := ⟨_, rfl⟩
      rw [hy] at d0
      have hkl : k < l.length := by rw [HN.out]; exact hlt
      have hy256 : y < 256 := HL.out y (by rw [← hy]; simp [hkl])
      have HD : Hid (l.drop k = y :: l.drop (k + 1)) := hide (by rw [List.drop_eq_getElem_cons hkl]; congr 1; rw [← hy]; simp [hkl])
      have e1 : bits .and .u8 (y : Int) 127 = ((y % 128 : Nat) : Int) := u8_and ⟨y, hy256⟩
      obtain ⟨x2, hx2⟩ : ∃ x2, x + y % 128 * 128 ^ k = x2 := ⟨_, rfl⟩
      have e2 : bits .or .i64 (x : Int) (wrap64 ((y : Int) % 128 * 2 ^ (7 * k))) = (x2 : Int) := by rw [or_shift x y k hk6 HI.out.1, hx2]
      have HX2 := hide hx2
      clear hy hkl hx2
      by_cases h1 : 5 < k
      · have q1 : decide ((5 : Int) < (k : Int)) = true := decide_eq_true (by omega)
        have HF := hide (HBAD.out (by rw [HI.out.2, HD.out]; exact rd_stop (.inl h1)))
        clear h1
        go_wp2_with fail
        go_ret
        exact HF.out
      · have q1 : decide ((5 : Int) < (k : Int)) = false := decide_eq_false (by omega)
        by_cases h2 : 1099511627776 < x2
        · have q2 : decide ((1099511627776 : Int) < (x2 : Int)) = true := decide_eq_true (by omega)
          have HF := hide (HBAD.out (by rw [HI.out.2, HD.out]; exact rd_stop (.inr (.inl (by rw [HX2.out]; exact h2)))))
          clear h1 h2
          go_wp2_with fail
          go_ret
          exact HF.out
        · have q2 : decide ((1099511627776 : Int) < (x2 : Int)) = false := decide_eq_false (by omega)
          by_cases h3 : y = 0 ∧ 0 < k
          · have HF := hide (HBAD.out (by rw [HI.out.2, HD.out]; exact rd_stop (.inr (.inr h3))))
            have q3 : ((y : Int) == 0) = true := by rw [h3.1]; rfl
            have q4 : 0 < k := h3.2
            have q6 : decide (0 < k) = true := decide_eq_true q4
            clear h1 h2 h3
            go_wp2_with fail
            go_ret
            exact HF.out
          · have HNS : Hid (¬ (5 < k ∨ 1099511627776 < x + y % 128 * 128 ^ k ∨ (y = 0 ∧ 0 < k))) := hide (by rw [HX2.out]; omega)
            by_cases h4 : y < 128
            · have q5 : decide ((y : Int) < 128) = true := decide_eq_true (by omega)
              have hrd : rd 0 0 l = some (x2, l.drop (k + 1)) := by rw [HI.out.2, HD.out, rd_end HNS.out h4, HX2.out]
              by_cases hcap : c = k + 1
              · have h := num_good HB.out HBS.out HA.out HN.out hc hm HL.out hlt hrd (.inl ⟨rfl, hcap⟩)
                rw [show n - (k + 1) = 0 by omega, show c - (k + 1) = 0 by omega] at h
                have HF := hide h
                clear h
                subst hcap
                clear hrd
                have h30 : y = 0 → ¬ 0 < k := fun e h => h3 ⟨e, h⟩
                go_wp2_with fail
                all_goals (go_ret; exact HF.out)
              · have HF := hide (num_good HB.out HBS.out HA.out HN.out hc hm HL.out hlt hrd (.inr rfl))
                clear hrd
                go_wp2_with fail
                all_goals (go_ret; exact HF.out)
            · have q5 : decide ((y : Int) < 128) = false := decide_eq_false (by omega)
              have hrd := rd_on (r := l.drop (k + 1)) HNS.out h4
              have HRD := hide hrd
              have hk5 : k ≤ 5 := by omega
              have hy0 : ((y : Int) == 0) = false := by rw [beq_eq_false_iff_ne]; omega
              have HPOW := hide (pow_step HI.out.1 HX2.out)
              clear hrd h1 h2 h3 h4
              go_wp2_with fail
              go_round
              case rel => exact ⟨k + 1, x2, by omega, by omega, by go_num, rfl, by have := of_decide_eq_false q2; omega, hide ⟨HPOW.out, by rw [HI.out.2, HD.out, HRD.out, HX2.out]⟩⟩
              case measure => simp [intOf]; omega
    · obtain rfl : n = k := by omega
      have HF := hide (HBAD.out (by rw [HI.out.2, List.drop_of_length_le (by rw [HN.out]; omega)]; rfl))
      go_wp2_with fail
      go_ret
      exact HF.out
end Go.Proofs.YtfdadkngbnhmeaaDoor
