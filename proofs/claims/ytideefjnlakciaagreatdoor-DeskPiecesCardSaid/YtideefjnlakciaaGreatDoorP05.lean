/- agree.Midpoint; conditions: the numbers lie in memory. -/
import Derived.Test.YtideefjnlakciaaGreatDoorP04
import Derived.Test.YtideefjnlakciaaGreatDoorP01
import Derived.Test.YtideefjnlakciaaGreatDoorP02
import Derived.Test.YtideefjnlakciaaGreatDoorP03
import Derived.Deep.QuietTactic
import Derived.WalkKit
import Derived.Deep.Cut
import Derived.Deep.CutRange
import Derived.Deep.CutBlock
import Derived.BigQuiet
set_option linter.unusedVariables false
set_option linter.unusedSimpArgs false
namespace Go.Proofs.YtideefjnlakciaaGreatDoor
section
open Go Go.RowKit
theorem out_any (n : Int) (w : World) : Calls Tryz.prog 135 #[.int .i64 n] w fun e w' => e = .returned (.bool (outT n)) ∧ w' = w := by
 go_enter Tryz.func135, Tryz.ntmps135
 go_wp2_with fail
 all_goals (go_ret; exact ⟨ret_bool (by simp only [outT] <;> simp [*] <;> omega), rfl⟩)
theorem any_take {zs : List Int} {k : Nat} (h : k < zs.length) : (zs.take (k + 1)).any outT = ((zs.take k).any outT || outT (zs.getD k 0)) := by
 have e : zs.take (k + 1) = zs.take k ++ [zs.getD k 0] := by rw [List.take_add_one]; simp [List.getD, List.getElem?_eq_getElem h]
 rw [e, List.any_append]; simp
theorem any_of {zs : List Int} {k : Nat} (h : k < zs.length) (ho : outT (zs.getD k 0) = true) : zs.any outT = true := by
 rw [List.any_eq_true]
 exact ⟨zs[k], List.getElem_mem h, by simpa [List.getD, List.getElem?_eq_getElem h] using ho⟩
set_option maxRecDepth 100000 in
set_option maxHeartbeats 1000000 in
theorem index_out (A : Option Addr) (c : Nat) (zs : List Int) (w : World) (hI : IsL w A zs) (hmax : zs.length ≤ 100000) :
 Calls Tryz.prog 170 #[.slice A zs.length c, .func (.func 135) #[] #[]] w fun e w' => ∃ r : Int, e = .returned (.int .i64 r) ∧ decide (0 ≤ r) = zs.any outT ∧ w' = w := by
 have HI := hide hI; have HM := hide hmax; clear hI hmax
 obtain ⟨n, hn⟩ : ∃ n, zs.length = n := ⟨_, rfl⟩
 rw [hn] at HM ⊢
 have HN := hide hn; clear hn
 go_enter Tryz.func170, Tryz.ntmps170
 go_wp2_with fail
 go_loopw [8] (fun i wr => ∃ k : Nat, k ≤ n ∧ i = .int .i64 k ∧ Hid ((zs.take k).any outT = false) ∧ Hid (wr = w)) (fun i _ => n - (intOf i).toNat)
 case atStart => exact ⟨0, by omega, rfl, hide (by simp), hide rfl⟩
 case round =>
  obtain ⟨k, hk, rfl, HA, HW⟩ := hrel
  have hb1 : n ≤ 100000 := HM.out
  by_cases hlt : k < n
  ·obtain ⟨b, off, rfl, hc⟩ := HI.out k (by rw [HN.out]; exact hlt)
   obtain ⟨x, hx⟩ : ∃ x, zs.getD k 0 = x := ⟨_, rfl⟩
   rw [hx, ← HW.out] at hc
   have HX := hide hx; clear hx
   have hk2 : k < zs.length := by rw [HN.out]; exact hlt
   cases ho : outT x
   case true =>
    have HO := hide ho; clear ho
    go_wp2_with (go_at_call 135; refine (out_any x _).mono ?_; rintro e w3 ⟨rfl, rfl⟩; rw [HO.out])
    go_ret
    exact ⟨_, rfl, by rw [any_of hk2 (by rw [HX.out]; exact HO.out)]; simp, HW.out⟩
   case false =>
    have HO := hide ho; clear ho
    go_wp2_with (go_at_call 135; refine (out_any x _).mono ?_; rintro e w3 ⟨rfl, rfl⟩; rw [HO.out])
    exact ⟨⟨k + 1, by omega, by go_num, hide (by rw [any_take hk2, HA.out, HX.out, HO.out]; rfl), HW⟩, by simp [intOf]; omega⟩
  ·obtain rfl : k = n := by omega
   go_wp2_with fail
   go_ret
   exact ⟨_, rfl, by rw [← List.take_length (l := zs), HN.out, HA.out]; rfl, HW.out⟩
theorem contains_out (A : Option Addr) (c : Nat) (zs : List Int) (w : World) (hI : IsL w A zs) (hmax : zs.length ≤ 100000) :
 Calls Tryz.prog 134 #[.slice A zs.length c, .func (.func 135) #[] #[]] w fun e w' => e = .returned (.bool (zs.any outT)) ∧ w' = w := by
 go_enter Tryz.func134, Tryz.ntmps134
 go_wp2_with (go_at_call 170; refine (index_out A c zs _ hI hmax).mono ?_; rintro e w3 ⟨r, rfl, hr, rfl⟩; have HR := hide hr; clear hr)
 go_ret
 exact ⟨ret_bool (by rw [← HR.out]), rfl⟩
theorem own_get {w : World} {base n g c : Nat} {e : TypeId} {zs : List Int} (h : w.ownsRow base e 1 (.slice (some ⟨g, 0, none⟩) n c) n (zs.map (Value.int .i64))) {j : Nat} (hj : j < n) : w.cell? ⟨g, j, none⟩ = some (.int .i64 (zs.getD j 0)) := by
 rcases h.2 with ⟨_, h0⟩ | ⟨g1, c1, cur, hv, hb, hg, h1, h2, h3, h4⟩
 ·omega
 ·cases hv
  have hl : (zs.map (Value.int .i64)).length = n * 1 := h.1
  rw [cell_of_row w g j cur e (0, 0) hg, ← Array.getElem?_toList]
  have h5 : (cur.toList.take (n * 1))[j]? = cur.toList[j]? := List.getElem?_take_of_lt (by omega)
  rw [← h5, h4]
  have : j < zs.length := by simpa using (by rw [hl]; omega : j < (zs.map (Value.int .i64)).length)
  simp [List.getD, List.getElem?_eq_getElem this]
theorem in_bd {zs : List Int} (ha : zs.any outT = false) {j : Nat} (hj : j < zs.length) : -1099511627776 ≤ (srt zs).getD j 0 ∧ (srt zs).getD j 0 ≤ 1099511627776 := by
 have hj2 : j < (srt zs).length := by rw [srt_len]; exact hj
 have e : (srt zs).getD j 0 = (srt zs)[j] := by simp [List.getD, List.getElem?_eq_getElem hj2]
 have hm : (srt zs)[j] ∈ zs := (srt_perm zs).mem_iff.1 (List.getElem_mem hj2)
 rw [e]
 have := List.any_eq_false.1 ha _ hm
 simp [outT] at this
 exact this
theorem ret_two2 {a b c d : Value} (h : a = c) (k : b = d) : Ending.returned (.tuple #[a, b]) = .returned (.tuple #[c, d]) := by rw [h, k]
theorem midE_arg {zs : List Int} {f : Int} (h : f < 0 ∨ (zs.length : Int) < 2 * f + 1) : midE zs f = 1 ∧ midV zs f = 0 := by
 have : midE zs f = 1 := by unfold midE; rw [if_pos h]
 exact ⟨this, by unfold midV; rw [this]; rfl⟩
theorem midE_ok {zs : List Int} {m : Nat} (h : 2 * m + 1 ≤ zs.length) : (zs.any outT = true → midE zs m = 2 ∧ midV zs m = 0) ∧ (zs.any outT = false → midE zs m = 0 ∧ midV zs m = midN zs m) := by
 have h1 : ¬ ((m : Int) < 0 ∨ (zs.length : Int) < 2 * (m : Int) + 1) := by omega
 constructor
 ·intro ha
  have : midE zs m = 2 := by unfold midE; rw [if_neg h1, if_pos ha]
  exact ⟨this, by unfold midV; rw [this]; rfl⟩
 ·intro ha
  have : midE zs m = 0 := by unfold midE; rw [if_neg h1, if_neg (by rw [ha]; simp)]
  exact ⟨this, by unfold midV; rw [if_pos this]; simp⟩
theorem errV_1 : Value.iface 61 (.int .i64 1) = errV 1 := by simp [errV]
theorem errV_2 : Value.iface 61 (.int .i64 2) = errV 2 := by simp [errV]
set_option maxRecDepth 100000 in
set_option maxHeartbeats 1000000 in
theorem mid_any (A : Option Addr) (c : Nat) (zs : List Int) (f : Int) (w : World) (hI : IsL w A zs) (hmax : zs.length ≤ 100000) (hf : f ≤ 9223372036854775807) :
 Calls Tryz.prog 100 #[.slice A zs.length c, .int .i64 f] w fun e w' => e = .returned (.tuple #[.int .i64 (midV zs f), errV (midE zs f)]) ∧ Below w.heap.size w w' := by
 by_cases h0 : f < 0
 ·obtain ⟨e1, e2⟩ := midE_arg (zs := zs) (.inl h0)
  rw [e1, e2]
  clear hI e1 e2
  go_enter Tryz.func100, Tryz.ntmps100
  go_wp2_with fail
  go_ret2
  exact ⟨ret_two2 rfl errV_1, Below.refl _ _⟩
 obtain ⟨m, rfl⟩ := Int.eq_ofNat_of_zero_le (by omega : 0 ≤ f)
 obtain ⟨n, hn⟩ : ∃ n, zs.length = n := ⟨_, rfl⟩
 by_cases h1 : n < m
 ·obtain ⟨e1, e2⟩ := midE_arg (zs := zs) (f := (m : Int)) (.inr (by omega))
  rw [e1, e2, hn]
  clear hI e1 e2 hn
  have d1 : decide ((n : Int) < (m : Int)) = true := decide_eq_true (by omega)
  go_enter Tryz.func100, Tryz.ntmps100
  go_wp2_with fail
  go_ret2
  exact ⟨ret_two2 rfl errV_1, Below.refl _ _⟩
 have d1 : decide ((n : Int) < (m : Int)) = false := decide_eq_false (by omega)
 have d0 : decide ((m : Int) < 0) = false := decide_eq_false (by omega)
 have w1 : wrap64 (2 * (m : Int)) = 2 * (m : Int) := by unfold wrap64; omega
 have w2 : wrap64 (2 * (m : Int) + 1) = 2 * (m : Int) + 1 := by unfold wrap64; omega
 by_cases h2 : n < 2 * m + 1
 ·obtain ⟨e1, e2⟩ := midE_arg (zs := zs) (f := (m : Int)) (.inr (by omega))
  rw [e1, e2, hn]
  clear hI e1 e2 hn
  have d2 : decide ((n : Int) < 2 * (m : Int) + 1) = true := decide_eq_true (by omega)
  go_enter Tryz.func100, Tryz.ntmps100
  go_wp2_with fail
  go_ret2
  exact ⟨ret_two2 rfl errV_1, Below.refl _ _⟩
 have d2 : decide ((n : Int) < 2 * (m : Int) + 1) = false := decide_eq_false (by omega)
 have HOK := hide (midE_ok (zs := zs) (m := m) (by omega))
 have HCO := hide (contains_out A c zs w hI (by omega))
 have HSO := hide (sorted_at A c zs w (by omega) hI)
 rw [hn] at HCO HSO ⊢
 have HM : Hid (2 * m + 1 ≤ n ∧ n ≤ 100000) := hide ⟨by omega, by omega⟩
 have HN := hide hn
 clear h0 h2 hn hI hmax hf
 cases ha : zs.any outT
 case true =>
  obtain ⟨e1, e2⟩ := HOK.out.1 ha
  rw [e1, e2]
  rw [ha] at HCO
  clear e1 e2 ha
  go_enter Tryz.func100, Tryz.ntmps100
  go_wp2_with (go_at_call 134; refine HCO.out.mono ?_; rintro e w3 ⟨rfl, rfl⟩)
  go_ret2
  exact ⟨ret_two2 rfl errV_2, Below.refl _ _⟩
 case false =>
  obtain ⟨e1, e2⟩ := HOK.out.2 ha
  rw [e1, e2]
  rw [ha] at HCO
  clear e1 e2
  have HE := hide (show midN zs m = ((srt zs).getD m 0 + (srt zs).getD (n - 1 - m) 0) / 2 from by unfold midN; rw [HN.out])
  have b1 := in_bd ha (j := m) (by have := HM.out; have := HN.out; omega)
  have b2 := in_bd ha (j := n - 1 - m) (by have := HM.out; have := HN.out; omega)
  have HL : Hid ((srt zs).length = n) := hide (by rw [srt_len, HN.out])
  clear ha
  generalize srt zs = ss at HSO HE HL b1 b2
  obtain ⟨x, hx⟩ : ∃ x, ss.getD m 0 = x := ⟨_, rfl⟩
  obtain ⟨y, hy⟩ : ∃ y, ss.getD (n - 1 - m) 0 = y := ⟨_, rfl⟩
  rw [hx, hy] at HE
  rw [hx] at b1
  rw [hy] at b2
  have HX := hide hx; have HY := hide hy; clear hx hy
  have w3' : wrap64 (x + y) = x + y := by unfold wrap64; omega
  rw [HE.out]
  clear b1 b2
  go_enter Tryz.func100, Tryz.ntmps100
  go_wp2_with (first
   | (go_at_call 134; refine HCO.out.mono ?_; rintro e w3 ⟨rfl, rfl⟩)
   | (go_at_call 137; refine (values_at A n c _).mono ?_; rintro e w3 ⟨rfl, rfl⟩)
   | (go_at_call 136; refine HSO.out.mono ?_; rintro e w4 ⟨v, rfl, hrow, hB⟩; obtain ⟨g, cp, cur, rfl, -, hg, q1, q2, q3, q4⟩ := block_of_own hrow (by have := HM.out; omega); have HB := hide hB; have HR := hide hrow; have HG := hide hg; clear hB hrow hg q1 q2 q3 q4))
  have hr1 := own_get HR.out (j := m) (by have := HM.out; omega)
  have hr2 := own_get HR.out (j := n - 1 - m) (by have := HM.out; omega)
  rw [HX.out] at hr1
  rw [HY.out] at hr2
  have e1 : wrap64 (wrap64 ((n : Int) - 1) - (m : Int)) = ((n - 1 - m : Nat) : Int) := by have := HM.out; unfold wrap64; omega
  have z1 : n - 1 - m < n := by have := HM.out; omega
  have z2 : m < n := by have := HM.out; omega
  go_quiet (fail)
  go_wp2_with fail
  go_ret2
  exact ⟨ret_two2 rfl (by simp [errV]), below_drewN HB.out _⟩
end
section
/-- The bytes of a number: seven bits a byte, the least ones first. -/
def vnum (n : Nat) : List Nat := if n < 128 then [n] else (n % 128 + 128) :: vnum (n / 128)
termination_by n
decreasing_by omega
theorem vnum_small {n : Nat} (h : n < 128) : vnum n = [n] := by rw [vnum, if_pos h]
theorem vnum_big {n : Nat} (h : ¬ n < 128) : vnum n = (n % 128 + 128) :: vnum (n / 128) := by rw [vnum, if_neg h]
/-- The bytes of numbers. -/
def vnums (l : List Nat) : List Nat := l.flatMap vnum
theorem vnums_nil : vnums [] = [] := rfl
theorem vnums_cons (n : Nat) (l : List Nat) : vnums (n :: l) = vnum n ++ vnums l := rfl
theorem vnums_app (l m : List Nat) : vnums (l ++ m) = vnums l ++ vnums m := by simp [vnums]
/-- A state of who reads numbers: what is left, and whether they were not so. -/
structure Rst where
 l : List Nat
 bad : Bool
section
variable (num : Rst → Nat × Rst)
end
theorem bool_f {b : Bool} (h : b = true → False) : b = false := by cases b <;> simp_all
section
variable {num : Rst → Nat × Rst}
end
section
variable {R : List Nat → List Nat → Prop} {f g : Rst → Nat × Rst}
end
end
section
open Go.RowKit
/-- Bytes as cells. -/
def bvN (l : List Nat) : List Value := l.map fun (n : Nat) => Value.int .u8 (n : Int)
theorem bvN_len (l : List Nat) : (bvN l).length = l.length := by simp [bvN]
theorem bvN_snoc (l : List Nat) (n : Nat) : bvN (l ++ [n]) = bvN l ++ [.int .u8 (n : Int)] := by simp [bvN]
/-- What was written besides what was there: the value's own block, and new ones. -/
def OwnTo (w w' : World) (v v' : Value) : Prop := w.grownBy w' v.ownBlock ∧ ∀ k, v'.ownBlock = some k → k < w'.heap.size ∧ (v.ownBlock = some k ∨ w.heap.size ≤ k)
theorem OwnTo.refl (w : World) (v : Value) (h : ∀ k, v.ownBlock = some k → k < w.heap.size) : OwnTo w w v v := ⟨World.grownBy.refl w _, fun k e => ⟨h k e, .inl e⟩⟩
theorem OwnTo.trans {w w1 w2 : World} {v v1 v2 : Value} (h : OwnTo w w1 v v1) (k : OwnTo w1 w2 v1 v2) : OwnTo w w2 v v2 := by
 refine ⟨⟨k.1.os.trans h.1.os, k.1.tape.trans h.1.tape, k.1.output.trans h.1.output, Nat.le_trans h.1.size k.1.size, fun i hi hne => ?_⟩, fun j e => ?_⟩
 ·rw [k.1.block i (Nat.lt_of_lt_of_le hi h.1.size) ?_]
  ·exact h.1.block i hi hne
  ·intro e
   rcases (h.2 i e.symm).2 with e2 | e2
   ·exact hne e2.symm
   ·omega
 ·obtain ⟨a, b⟩ := k.2 j e
  refine ⟨a, ?_⟩
  rcases b with b | b
  ·exact (h.2 j b).2
  ·exact .inr (Nat.le_trans h.1.size b)
theorem OwnTo.alloc {w w' : World} {v v' : Value} (h : OwnTo w w' v v') (o : Obj) : OwnTo w (w'.alloc o) v v' := ⟨only_alloc h.1 o, fun k e => ⟨by rw [World.size_alloc]; have := (h.2 k e).1; omega, (h.2 k e).2⟩⟩
/-- Numbers in memory. -/
def NumsAt (w : World) (A : Option Addr) (n : Nat) (zs : List Nat) : Prop := ∀ j, j < n → ∃ b off, A = some ⟨b, off, none⟩ ∧ w.cell? ⟨b, off + j, none⟩ = some (.int .i64 (zs.getD j 0 : Nat))
theorem u8_or : ∀ x : Fin 256, bits .or .u8 (x.val : Int) 128 = ((x.val % 128 + 128 : Nat) : Int) := by decide +kernel
set_option maxRecDepth 100000 in
theorem u8_wrap (m : Nat) : IntKind.u8.wrap (m : Int) = ((m % 256 : Nat) : Int) := by rw [IntKind.wrap_u8]; push_cast; rfl
theorem vbyte (m : Nat) : bits .or .u8 (IntKind.u8.wrap (m : Int)) 128 = ((m % 128 + 128 : Nat) : Int) := by
 rw [u8_wrap]
 have h := u8_or ⟨m % 256, Nat.mod_lt _ (by decide)⟩
 simp only at h
 rw [h]
 congr 2
 omega
theorem en_u8_info : (Tryz.prog.info? 5).map (fun i => (i.zero, i.size, i.bytes)) = some (some (.int .u8 0), 1, 1) := by kernel_rfl
set_option maxRecDepth 100000 in
theorem en_info_parts {t : TypeId} {z : Value} {a b : Nat} (h : (Tryz.prog.info? t).map (fun i => (i.zero, i.size, i.bytes)) = some (some z, a, b)) : ∃ i, Tryz.prog.info? t = some i ∧ i.zero = some z ∧ i.size = a ∧ i.bytes = b := by
 cases e : Tryz.prog.info? t with
 | none => rw [e] at h; cases h
 | some i => rw [e] at h; simp at h; exact ⟨i, rfl, h.1, h.2.1, h.2.2⟩
theorem vnums_len10 (l : List Nat) (h : ∀ z ∈ l, (vnum z).length ≤ 10) : (vnums l).length ≤ 10 * l.length := by
 induction l with
 | nil => simp [vnums_nil]
 | cons n l ih =>
  have h1 := h n (by simp)
  have h2 := ih (fun m hm => h m (by simp [hm]))
  rw [vnums_cons, List.length_append, List.length_cons]; omega
theorem vnums_take (zs : List Nat) (k : Nat) (hk : k < zs.length) : vnums (zs.take (k + 1)) = vnums (zs.take k) ++ vnum (zs.getD k 0) := by
 rw [List.take_succ_eq_append_getElem hk, vnums_app]
 congr 1
 rw [vnums_cons, vnums_nil, List.append_nil]
 simp [hk]
theorem own_of {w w' : World} {v : Value} {g o n c : Nat} (ho : v.ownBlock = some g ∨ w.heap.size ≤ g) (hlt : g < w'.heap.size) : ∀ k, (Value.slice (some ⟨g, o, none⟩) n c).ownBlock = some k → k < w'.heap.size ∧ (v.ownBlock = some k ∨ w.heap.size ≤ k) := by
 intro k e
 simp [Value.ownBlock] at e
 subst e
 exact ⟨hlt, ho⟩
end
section
open Go Go.RowKit
theorem ar_info : (Tryz.prog.info? 3).map (fun i => (i.zero, i.size, i.bytes)) = some (some (.int .i64 0), 1, 8) := by kernel_rfl
end
section
open Go Go.RowKit
/-- What is wrong with a clock, or its row. -/
def setE (n : Nat) (f c : Int) (r : List Int) : Int := if r.length ≠ n then 1 else if outT c = true then 2 else midE r f
/-- Rows of numbers lie in memory. -/
def RowsAt (w : World) (B : Option Addr) (rs : List (List Int)) : Prop := ∀ j, j < rs.length → ∃ b off A c, B = some ⟨b, off, none⟩ ∧ w.cell? ⟨b, off + j, none⟩ = some (.slice A (rs.getD j []).length c) ∧ IsL w A (rs.getD j [])
theorem RowsAt.below {B : Nat} {w w' : World} {A : Option Addr} {rs : List (List Int)} (h : RowsAt w A rs) (hw : w.heap.size ≤ B) (hB : Below B w w') : RowsAt w' A rs := fun j hj => by
 obtain ⟨b, off, A, c, e, hc, hI⟩ := h j hj
 exact ⟨b, off, A, c, e, (hB.cell (p := ⟨b, off + j, none⟩) (Nat.lt_of_lt_of_le (World.block_lt_of_cell? _ _ hc) hw)).trans hc, hI.below hw hB⟩
/-- What all clocks show behind the first k. -/
def setL (zs : List Int) (rs : List (List Int)) (f : Int) (k : Nat) : List Int := (List.range k).map fun j => zs.getD j 0 + midV (rs.getD j []) f
theorem setL_succ (zs : List Int) (rs : List (List Int)) (f : Int) (k : Nat) : setL zs rs f (k + 1) = setL zs rs f k ++ [zs.getD k 0 + midV (rs.getD k []) f] := by simp [setL, List.range_succ]
theorem setL_len (zs : List Int) (rs : List (List Int)) (f : Int) (k : Nat) : (setL zs rs f k).length = k := by simp [setL]
theorem outT_bd {z : Int} (h : outT z = false) : -1099511627776 ≤ z ∧ z ≤ 1099511627776 := by simpa [outT] using h
theorem midN_bd {zs : List Int} {m : Nat} (h : 2 * m + 1 ≤ zs.length) (ha : zs.any outT = false) : -1099511627776 ≤ midN zs m ∧ midN zs m ≤ 1099511627776 := by
 have h1 := in_bd ha (j := m) (by omega)
 have h2 := in_bd ha (j := zs.length - 1 - m) (by omega)
 unfold midN
 omega
theorem midV_bd (zs : List Int) (f : Int) : -1099511627776 ≤ midV zs f ∧ midV zs f ≤ 1099511627776 := by
 unfold midV
 split
 ·rename_i h
  unfold midE at h
  split at h
  ·cases h
  ·rename_i h1
   split at h
   ·cases h
   ·rename_i h2
    exact midN_bd (by omega) (by simpa using h2)
 ·omega
theorem setE_zero {n : Nat} {f c : Int} {r : List Int} (h : setE n f c r = 0) : r.length = n ∧ outT c = false ∧ midE r f = 0 := by
 unfold setE at h
 split at h
 ·cases h
 ·rename_i h1
  split at h
  ·cases h
  ·rename_i h2
   exact ⟨by omega, by simpa using h2, h⟩
set_option maxRecDepth 100000 in
set_option maxHeartbeats 1000000 in
theorem one_any (s : Int) (A : Option Addr) (c : Nat) (r : List Int) (n : Nat) (f : Int) (w : World) (hI : IsL w A r) (hmax : r.length ≤ 100) (hf : f ≤ 9223372036854775807) :
 Calls Tryz.prog 199 #[.int .i64 s, .slice A r.length c, .int .i64 (n : Nat), .int .i64 f] w fun e w' => (∃ v, e = .returned (.tuple #[.int .i64 v, errV (setE n f s r)]) ∧ (setE n f s r = 0 → v = midV r f)) ∧ Below w.heap.size w w' := by
 have HM := hide (mid_any A c r f w hI (by omega) hf)
 clear hI hf hmax
 obtain ⟨l, hl⟩ : ∃ l, r.length = l := ⟨_, rfl⟩
 have HL := hide hl
 rw [hl] at HM ⊢
 clear hl
 by_cases h1 : l = n
 case neg =>
  have he : setE n f s r = 1 := by unfold setE; rw [if_pos (by rw [HL.out]; exact h1)]
  rw [he]
  have d1 : ((l : Int) != (n : Int)) = true := bne_iff_ne.2 (by omega)
  have d2 : ¬ (l : Int) = (n : Int) := by omega
  clear he HM
  go_enter Tryz.func199, Tryz.ntmps199
  go_wp2_with fail
  go_ret2
  exact ⟨⟨_, ret_two2 rfl errV_1, fun h => by cases h⟩, Below.refl _ _⟩
 case pos =>
  subst h1
  cases ho : outT s
  case true =>
   have he : setE l f s r = 2 := by unfold setE; rw [if_neg (by rw [HL.out]; simp), if_pos ho]
   rw [he]
   clear he HM
   by_cases hs : s < -1099511627776
   ·have d1 : decide (s < -1099511627776) = true := decide_eq_true hs
    go_enter Tryz.func199, Tryz.ntmps199
    go_wp2_with fail
    go_ret2
    exact ⟨⟨_, ret_two2 rfl errV_2, fun h => by cases h⟩, Below.refl _ _⟩
   ·have d1 : decide (s < -1099511627776) = false := decide_eq_false hs
    have d2 : decide (1099511627776 < s) = true := by unfold outT at ho; rw [d1] at ho; simpa using ho
    go_enter Tryz.func199, Tryz.ntmps199
    go_wp2_with fail
    go_ret2
    exact ⟨⟨_, ret_two2 rfl errV_2⟩, Below.refl _ _⟩
  case false =>
   have he : setE l f s r = midE r f := by unfold setE; rw [if_neg (by rw [HL.out]; simp), if_neg (by rw [ho]; simp)]
   rw [he]
   obtain ⟨b1, b2⟩ := outT_bd ho
   have d1 : decide (s < -1099511627776) = false := decide_eq_false (by omega)
   have d2 : decide (1099511627776 < s) = false := decide_eq_false (by omega)
   clear he ho b1 b2
   go_enter Tryz.func199, Tryz.ntmps199
   go_wp2_with (go_at_call 100; refine HM.out.mono ?_; rintro e w3 ⟨rfl, hB⟩; have HB := hide hB; clear hB)
   go_ret2
   exact ⟨⟨_, rfl, fun _ => rfl⟩, HB.out⟩
theorem all_succ {p : Nat → Prop} {k : Nat} (h : ∀ j, j < k → p j) (hk : p k) : ∀ j, j < k + 1 → p j := fun j hj => if e : j = k then e ▸ hk else h j (by omega)
theorem own_keepR {w w' : World} {base size n : Nat} {e : TypeId} {v : Value} {xs : List Value} (h : w.ownsRow base e size v n xs) (hB : Below w.heap.size w w') : w'.ownsRow base e size v n xs := by
 refine ⟨h.1, ?_⟩
 rcases h.2 with h1 | ⟨g, cap, cur, hv, hb, hg, rest⟩
 ·exact .inl h1
 ·exact .inr ⟨g, cap, cur, hv, hb, (hB.block g (Array.getElem?_eq_some_iff.1 hg).1).trans hg, rest⟩
theorem news1 {w : World} {g : Nat} {t : TypeId} {x : Value} (h : Blk w g t #[x]) : ∀ j u, [x][j]? = some u → w.cell? ((⟨g, 0, none⟩ : Addr).add j) = some u := by
 intro j u hu
 cases j with
 | zero => simp at hu; subst hu; exact h.cells1.1
 | succ j => simp at hu
end
section
open Go Go.RowKit
/-- A member. -/
structure Mm where
 m : Nat
 gd : Int
 bd : Int
 fz : Bool
/-- A receiver. -/
structure Tk where
 nw : Int
 c0 : Int
 c1 : Int
/-- A sender. -/
structure Sd where
 nx : Int
 la : Int
 nw : Int
 q : List ByteArray
/-- A port. -/
structure Pr where
 lost : Int
 q : List ByteArray
/-- All of a cluster but its plan and who is faulty. -/
structure Cl where
 ck : List Int
 rd : Int
 mm : Nat → Mm
 sd : Nat → Sd
 tk : Nat → Nat → Tk
 pr : Nat → Nat → Pr
/-- What does not come; what is read. -/
structure Ls where
 s : Int
 c : Int
 t : Int
structure Rg where
 n : Int
 o : Int
 i : Int
structure Rn where
 ls : List Ls
 rg : List Rg
 dr : List Int
 md : List Int
def bitB (x : Int) (k : Nat) : Bool := bits .and .i64 (x / 2 ^ k) 1 == 1
def updF {α : Type} (f : Nat → α) (k : Nat) (x : α) : Nat → α := fun j => if j = k then x else f j
def upd2 {α : Type} (f : Nat → Nat → α) (k i : Nat) (x : α) : Nat → Nat → α := fun a b => if a = k ∧ b = i then x else f a b
def Mm.hear (s : Mm) (fr : Nat) (what : Int) : Mm := if s.fz then s else if what = 1 then ⟨s.m ||| 2 ^ fr, s.gd + 1, s.bd, s.fz⟩ else if what = 2 then ⟨clr s.m (2 ^ fr), s.gd, s.bd + 1, s.fz⟩ else ⟨clr s.m (2 ^ fr), s.gd, s.bd, s.fz⟩
def Mm.send (s : Mm) : Mm := if s.fz then s else if s.gd ≤ s.bd then ⟨s.m, s.gd, s.bd, true⟩ else ⟨s.m, 1, 0, s.fz⟩
theorem Mm.hearC (s : Mm) (id n fr : Nat) (what : Int) : hearsC id n s.m s.gd s.bd s.fz fr what = nodeC id n (s.hear fr what).m (s.hear fr what).gd (s.hear fr what).bd (s.hear fr what).fz := by
 unfold hearsC Mm.hear
 split
 ·rfl
 ·split
  ·rfl
  ·split <;> rfl
theorem Mm.sendC (s : Mm) (id n : Nat) : sendsC id n s.m s.gd s.bd s.fz = nodeC id n s.send.m s.send.gd s.send.bd s.send.fz := by
 unfold sendsC Mm.send
 split
 ·rfl
 ·split <;> rfl
def Tk.take (s : Tk) (x : Int) : Tk := bif takeB x s.nw then ⟨x, s.c0 + 1, s.c1⟩ else ⟨s.nw, s.c0, s.c1 + 1⟩
theorem Tk.takeC (s : Tk) (x : Int) : takeSt x s.nw s.c0 s.c1 = #[.int .i64 (s.take x).nw, .int .i64 (s.take x).c0, .int .i64 (s.take x).c1] := by
 unfold takeSt Tk.take
 cases takeB x s.nw <;> rfl
/-- What a port holds behind a text that comes (its length is one that may be). -/
def Pr.put (s : Pr) (d : ByteArray) : Pr := ⟨if putE d.size s.q.length 16 = 12 then s.lost + 1 else s.lost, putQ s.q d (putE d.size s.q.length 16)⟩
/-- What comes: of a slot, on a channel, to whom. -/
def lostB (l : List Ls) (slot ch tn : Nat) : Bool := l.any fun x => decide (x.s = slot) && decide (x.c = ch) && bitB x.t tn
def liesB (fa : Nat) (i : Nat) : Bool := fa.testBit i
def modeV (fa : Nat) (md : List Int) (i : Nat) : Int := if liesB fa i = true ∧ i < md.length then md.getD i 0 else 0
/-- A frame comes at a node: its message. -/
def chanF (p : Pl) (tn : Nat) (f : FrR) (c : Cl) : Cl :=
 if f.lk < 0 then c
 else match p.lk[f.lk.toNat]? with
  | none => c
  | some l => if bitB l.t tn then
   { c with tk := upd2 c.tk f.lk.toNat tn ((c.tk f.lk.toNat tn).take f.sq), pr := if takeB f.sq (c.tk f.lk.toNat tn).nw then upd2 c.pr f.lk.toNat tn ((c.pr f.lk.toNat tn).put f.d) else c.pr }
   else c
/-- What a node hears of a frame, on both channels. -/
def cameB (fr : Option FrR) (ls : List Ls) (slot ch tn : Nat) : Bool := fr.isSome && !lostB ls slot ch tn
def chanO (p : Pl) (tn : Nat) (fr : Option FrR) (b : Bool) (c : Cl) : Cl := match fr with | none => c | some f => if b then chanF p tn f c else c
def whatV (m from_ : Nat) (fr : Option FrR) (b : Bool) : Int := match fr with | none => 0 | some f => if b then judgeV m from_ f.mb.toNat else 0
def hearsF (p : Pl) (from_ tn slot : Nat) (fr : Option FrR) (ls : List Ls) (c : Cl) : Cl :=
 let c2 := chanO p tn fr (cameB fr ls slot 1 tn) (chanO p tn fr (cameB fr ls slot 0 tn) c)
 { c2 with mm := updF c.mm tn ((c.mm tn).hear from_ (whatV (c.mm tn).m from_ fr (cameB fr ls slot 0 tn || cameB fr ls slot 1 tn))) }
/-- All but the sender hear. -/
def hearAll (p : Pl) (node slot : Nat) (fr : Option FrR) (ls : List Ls) (c : Cl) : Nat → Cl
 | 0 => c
 | k + 1 => if k = node then hearAll p node slot fr ls c k else hearsF p node k slot fr ls (hearAll p node slot fr ls c k)
/-- The first message that may go. -/
def loadsF (now : Int) (node : Int) : List Lk → Nat → Cl → Cl × (Int × Int × ByteArray)
 | [], _, c => (c, (-1, 0, ⟨#[]⟩))
 | l :: ls, k, c =>
  if l.f = node then
   if sdE now (c.sd k).la (c.sd k).nw l.b (c.sd k).q.length = 0 then
    ({ c with sd := updF c.sd k ⟨if (c.sd k).nx + 1 = 256 then 1 else (c.sd k).nx + 1, now, now, (c.sd k).q.tail⟩ }, ((k : Int), (c.sd k).nx, (c.sd k).q.headD ⟨#[]⟩))
   else loadsF now node ls (k + 1) { c with sd := updF c.sd k { c.sd k with nw := sdN (sdE now (c.sd k).la (c.sd k).nw l.b (c.sd k).q.length) now (c.sd k).nw } }
  else loadsF now node ls (k + 1) c
/-- What is told as members. -/
def tellM (nd node : Nat) (m : Nat) (md : Int) : Nat := if md = 2 then m ^^^ (2 ^ node ||| 2 ^ ((node + 1) % nd)) else m
def slotF (p : Pl) (fa : Nat) (r : Rn) (i : Nat) (c : Cl) : Cl :=
 match p.sl[i]? with
 | none => c
 | some s =>
  let node := s.n.toNat
  let mb := c.mm node
  let md := modeV fa r.md node
  let ok := sendsOk mb.gd mb.bd mb.fz && decide (md ≠ 1)
  let c1 := { c with mm := updF c.mm node mb.send }
  let told := tellM p.nd.toNat node (sendsV mb.m mb.gd mb.bd mb.fz).toNat md
  if ok then
   let x := loadsF (c.rd * p.rd + s.f) s.n p.lk 0 c1
   hearAll p node i (some ⟨s.n, i, told, x.2.1, x.2.2.1, x.2.2.2⟩) r.ls x.1 p.nd.toNat
  else hearAll p node i none r.ls c1 p.nd.toNat
/-- The first k slots. -/
def slotsF (p : Pl) (fa : Nat) (r : Rn) (c : Cl) : Nat → Cl
 | 0 => c
 | k + 1 => slotF p fa r k (slotsF p fa r c k)
/-- What is read. -/
def clampV (x most : Int) : Int := max (-most) (min most x)
def rowsN (c : List Int) (n : Nat) : List (List Int) := (List.range n).map fun i => (List.range n).map fun k => c.getD k 0 - c.getD i 0
def setRow (rs : List (List Int)) (i k : Nat) (x : Int) : List (List Int) := rs.set i ((rs.getD i []).set k x)
def readF (p : Pl) (fa : Nat) (c : List Int) (rs : List (List Int)) (x : Rg) : List (List Int) :=
 if x.n < 0 ∨ p.nd ≤ x.n ∨ x.o < 0 ∨ p.nd ≤ x.o ∨ x.n = x.o then rs
 else setRow rs x.n.toNat x.o.toNat (if liesB fa x.o.toNat then clampV x.i 549755813888 else c.getD x.o.toNat 0 - c.getD x.n.toNat 0 + clampV x.i p.ji)
def readAll (p : Pl) (fa : Nat) (c : List Int) (l : List Rg) : List (List Int) := l.foldl (readF p fa c) (rowsN c p.nd.toNat)
def driftF (p : Pl) (zs : List Int) (dr : List Int) : List Int := (List.range zs.length).map fun i => zs.getD i 0 + (if i < dr.length then clampV (dr.getD i 0) p.dr else 0)
def wildB (l : List Int) : Bool := l.any fun n => decide (n < -274877906944) || decide (274877906944 < n)
def setsF (p : Pl) (fa : Nat) (c : List Int) (r : Rn) : List Int := driftF p (setL c (readAll p fa c r.rg) p.fa c.length) r.dr
/-- A round. -/
def playE (p : Pl) (fa : Nat) (r : Rn) (c : Cl) : Int := if wildB (setsF p fa c.ck r) then 6 else 0
def playF (p : Pl) (fa : Nat) (r : Rn) (c : Cl) : Cl :=
 if wildB (setsF p fa c.ck r) then c else { slotsF p fa r c p.sl.length with ck := setsF p fa c.ck r, rd := c.rd + 1 }
/-- At first. -/
def startF (p : Pl) (ck : List Int) : Cl := ⟨ck, 0, fun _ => ⟨2 ^ p.nd.toNat - 1, 1, 0, false⟩, fun _ => ⟨0, -1, 0, []⟩, fun _ _ => ⟨-1, 0, 0⟩, fun _ _ => ⟨0, []⟩⟩
end
section
open Go Go.RowKit
/-- Losses lie in memory. -/
def LossAt (w : World) (A : Option Addr) (l : List Ls) : Prop := ∀ (j : Nat) (x : Ls), l[j]? = some x → ∃ b off, A = some ⟨b, off, none⟩ ∧ w.cell? ⟨b, off + j * 3, none⟩ = some (.int .i64 x.s) ∧ w.cell? ⟨b, off + j * 3 + 1, none⟩ = some (.int .i64 x.c) ∧ w.cell? ⟨b, off + j * 3 + 2, none⟩ = some (.int .i64 x.t)
theorem LossAt.below {B : Nat} {w w' : World} {A : Option Addr} {l : List Ls} (h : LossAt w A l) (hw : w.heap.size ≤ B) (hB : Below B w w') : LossAt w' A l := fun j x hj => by
 obtain ⟨b, off, e, h0, h1, h2⟩ := h j x hj
 have hlt : b < B := Nat.lt_of_lt_of_le (World.block_lt_of_cell? _ _ h0) hw
 exact ⟨b, off, e, (hB.cell (p := ⟨b, _, none⟩) hlt).trans h0, (hB.cell (p := ⟨b, _, none⟩) hlt).trans h1, (hB.cell (p := ⟨b, _, none⟩) hlt).trans h2⟩
def lossB (x : Ls) (slot ch tn : Nat) : Bool := decide (x.s = slot) && decide (x.c = ch) && bitB x.t tn
theorem lostB_any (l : List Ls) (slot ch tn : Nat) : lostB l slot ch tn = l.any fun x => lossB x slot ch tn := rfl
theorem lost_yes {l : List Ls} {slot ch tn k : Nat} {x : Ls} (hk : l[k]? = some x) (hb : lossB x slot ch tn = true) : lostB l slot ch tn = true := by
 rw [lostB_any, List.any_eq_true]
 exact ⟨x, List.mem_of_getElem? hk, hb⟩
theorem lost_no {l : List Ls} {slot ch tn : Nat} (h : ∀ j x, j < l.length → l[j]? = some x → lossB x slot ch tn = false) : lostB l slot ch tn = false := by
 rw [lostB_any, List.any_eq_false]
 intro x hx
 obtain ⟨j, hj, e⟩ := List.mem_iff_getElem.1 hx
 rw [h j x hj (by rw [List.getElem?_eq_getElem hj, e])]
 decide
theorem lost_step {l : List Ls} {slot ch tn k : Nat} {x : Ls} (h : ∀ j x, j < k → l[j]? = some x → lossB x slot ch tn = false) (hk : l[k]? = some x) (hb : lossB x slot ch tn = false) : ∀ j x, j < k + 1 → l[j]? = some x → lossB x slot ch tn = false := by
 intro j y hj hy
 by_cases e : j < k
 ·exact h j y e hy
 ·obtain rfl : j = k := by omega
  rw [hk] at hy
  cases hy
  exact hb
set_option maxRecDepth 100000 in
set_option maxHeartbeats 1000000 in
theorem lost_any (A : Option Addr) (c : Nat) (l : List Ls) (slot ch tn : Nat) (w : World) (hA : LossAt w A l) (hmax : l.length ≤ 9223372036854775807) (hs : slot ≤ 100) (hc : ch ≤ 2) (ht : tn ≤ 20) :
 Calls Tryz.prog 203 #[.slice A l.length c, .int .i64 slot, .int .i64 ch, .int .i64 tn] w fun e w' => e = .returned (.bool (lostB l slot ch tn)) ∧ Below w.heap.size w w' := by
 have HA := hide hA; clear hA
 obtain ⟨n, hn⟩ : ∃ n, l.length = n := ⟨_, rfl⟩
 have HN := hide hn
 rw [hn] at hmax ⊢
 clear hn
 go_enter Tryz.func203, Tryz.ntmps203
 go_wp2_with fail
 go_loopw [13] (fun i wr => ∃ k : Nat, k ≤ n ∧ i = .int .i64 k ∧ Hid (∀ j x, j < k → l[j]? = some x → lossB x slot ch tn = false) ∧ Hid (Below w.heap.size w wr)) (fun i _ => n - (intOf i).toNat)
 case atStart => exact ⟨0, by omega, rfl, hide (fun j x hj => absurd hj (by omega)), hide (Below.refl _ _)⟩
 case round =>
  obtain ⟨k, hk, rfl, HF, HW⟩ := hrel
  by_cases hlt : k < n
  ·obtain ⟨x, hx⟩ : ∃ x, l[k]? = some x := ⟨_, List.getElem?_eq_getElem (by rw [HN.out]; exact hlt)⟩
   obtain ⟨b, off, rfl, h0, h1, h2⟩ := (HA.out.below (Nat.le_refl _) HW.out) k x hx
   have HX := hide hx; clear hx
   obtain ⟨xs, xc, xt⟩ := x
   dsimp only at h0 h1 h2
   go_wp2_with fail
   all_goals first
    | (go_roundw
       case rel => exact ⟨k + 1, by omega, by go_num, hide (lost_step HF.out HX.out (by simp [lossB, bitB, *])), hide (HW.out.alloc HW.out.size _)⟩
       case measure => simp [intOf]; omega)
    | (go_ret
       exact ⟨by rw [lost_yes HX.out (by simp [lossB, bitB, *])]; rfl, HW.out.alloc HW.out.size _⟩)
  ·obtain rfl : k = n := by omega
   go_wp2_with fail
   go_ret
   exact ⟨by rw [lost_no (fun j x hj hx => HF.out j x (by rw [HN.out] at hj; exact hj) hx)]; rfl, HW.out⟩
/-- A cluster's cells. -/
abbrev clC (nd fa sk ji dr R : Int) (S L : Value) (fr : Int) (Q : Value) (fy : Int) (ck mm sd tk pr : Value) (rd : Int) : Array Value :=
 #[.int .i64 nd, .int .i64 fa, .int .i64 sk, .int .i64 ji, .int .i64 dr, .int .i64 R, S, L, .int .i64 fr, Q, .int .i64 fy, ck, mm, sd, tk, pr, .int .i64 rd]
section
variable (g : Nat) (nd fa sk ji dr R : Int) (S L : Value) (fr : Int) (Q : Value) (mm sd tk pr : Value) (rd : Int)
set_option maxRecDepth 100000 in
theorem lies_any (fy i : Nat) (ck : Value) (w : World) (hb : Blk w g 210 (clC nd fa sk ji dr R S L fr Q fy ck mm sd tk pr rd)) (hf : fy < 65536) (hi : i ≤ 20) :
 Calls Tryz.prog 142 #[.pointer (some ⟨g, 0, none⟩), .int .i64 i] w fun e w' => e = .returned (.bool (liesB fy i)) ∧ w' = w := by
 have k10 := hb.cell 10
 simp at k10
 clear hb
 have e1 : (bits .and .i64 ((fy : Int) / 2 ^ i) 1 == 1) = liesB fy i := by
  rw [bit_one fy i hf]
  unfold liesB
  cases fy.testBit i <;> rfl
 have H := hide e1
 clear e1
 go_enter Tryz.func142, Tryz.ntmps142
 go_wp2_with fail
 go_ret
 exact ⟨by rw [← H.out]; rfl, rfl⟩
theorem wild_yes {zs : List Int} {k : Nat} (hk : k < zs.length) (h : zs.getD k 0 < -274877906944 ∨ 274877906944 < zs.getD k 0) : wildB zs = true := by
 unfold wildB
 rw [List.any_eq_true]
 refine ⟨zs.getD k 0, by rw [List.getD_eq_getElem?_getD, List.getElem?_eq_getElem hk]; exact List.getElem_mem hk, ?_⟩
 simpa using h
theorem wild_no {zs : List Int} (h : ∀ k, k < zs.length → -274877906944 ≤ zs.getD k 0 ∧ zs.getD k 0 ≤ 274877906944) : wildB zs = false := by
 unfold wildB
 rw [List.any_eq_false]
 intro x hx
 obtain ⟨j, hj, e⟩ := List.mem_iff_getElem.1 hx
 have := h j hj
 rw [List.getD_eq_getElem?_getD, List.getElem?_eq_getElem hj, e] at this
 simp at this ⊢
 omega
set_option maxRecDepth 100000 in
theorem wild_any (fy : Int) (A : Option Addr) (c : Nat) (zs : List Int) (w : World) (hb : Blk w g 210 (clC nd fa sk ji dr R S L fr Q fy (.slice A zs.length c) mm sd tk pr rd)) (hI : IsL w A zs) (hmax : zs.length ≤ 1000) :
 Calls Tryz.prog 144 #[.pointer (some ⟨g, 0, none⟩)] w fun e w' => e = .returned (.bool (wildB zs)) ∧ w' = w := by
 have k11 := hb.cell 11
 simp at k11
 have HI := hide hI
 clear hb hI
 obtain ⟨n, hn⟩ : ∃ n, zs.length = n := ⟨_, rfl⟩
 have HN := hide hn
 rw [hn] at hmax k11
 clear hn
 go_enter Tryz.func144, Tryz.ntmps144
 go_wp2_with fail
 go_loopw [10] (fun i wr => ∃ k : Nat, k ≤ n ∧ i = .int .i64 k ∧ Hid (∀ j, j < k → -274877906944 ≤ zs.getD j 0 ∧ zs.getD j 0 ≤ 274877906944) ∧ wr = w) (fun i _ => n - (intOf i).toNat)
 case atStart => exact ⟨0, by omega, rfl, hide (fun j hj => absurd hj (by omega)), rfl⟩
 case round =>
  obtain ⟨k, hk, rfl, HF, rfl⟩ := hrel
  by_cases hlt : k < n
  ·obtain ⟨b, off, rfl, h0⟩ := HI.out k (by rw [HN.out]; exact hlt)
   obtain ⟨x, hx⟩ : ∃ x, zs.getD k 0 = x := ⟨_, rfl⟩
   rw [hx] at h0
   have HX := hide hx; clear hx
   by_cases a : x < -274877906944
   ·have d1 : decide (x < -274877906944) = true := decide_eq_true a
    go_wp2_with fail
    go_ret
    exact ⟨by rw [wild_yes (by rw [HN.out]; exact hlt) (by rw [HX.out]; exact .inl a)]; rfl, rfl⟩
   ·have d1 : decide (x < -274877906944) = false := decide_eq_false a
    by_cases b2 : 274877906944 < x
    ·have d2 : decide (274877906944 < x) = true := decide_eq_true b2
     go_wp2_with fail
     go_ret
     exact ⟨by rw [wild_yes (by rw [HN.out]; exact hlt) (by rw [HX.out]; exact .inr b2)]; rfl, rfl⟩
    ·have d2 : decide (274877906944 < x) = false := decide_eq_false b2
     go_wp2_with fail
     go_roundw
     case rel => exact ⟨k + 1, by omega, by go_num, hide (fun j hj => by
      by_cases e : j < k
      ·exact HF.out j e
      ·obtain rfl : j = k := by omega
       rw [HX.out]; omega), trivial⟩
     case measure => simp [intOf]; omega
  ·obtain rfl : k = n := by omega
   go_wp2_with fail
   go_ret
   exact ⟨by rw [wild_no (fun j hj => HF.out j (by rw [HN.out] at hj; exact hj))]; rfl, rfl⟩
end
end
section
open Go.RowKit
end
section
open Go Go.RowKit
/-- The least, or the greatest, of numbers. -/
def IsTop (l : List Int) (m : Int) : Prop := (∃ j, j < l.length ∧ l.getD j 0 = m) ∧ ∀ j, j < l.length → l.getD j 0 ≤ m
def IsLow (l : List Int) (m : Int) : Prop := (∃ j, j < l.length ∧ l.getD j 0 = m) ∧ ∀ j, j < l.length → m ≤ l.getD j 0
theorem top_one {zs : List Int} {x : Int} (h : zs.getD 0 0 = x) : (∃ j, j < 1 ∧ zs.getD j 0 = x) ∧ ∀ j, j < 1 → zs.getD j 0 ≤ x :=
 ⟨⟨0, by omega, h⟩, fun j hj => by have e : j = 0 := by omega
                                   rw [e, h]
                                   exact Int.le_refl _⟩
theorem low_one {zs : List Int} {x : Int} (h : zs.getD 0 0 = x) : (∃ j, j < 1 ∧ zs.getD j 0 = x) ∧ ∀ j, j < 1 → x ≤ zs.getD j 0 :=
 ⟨⟨0, by omega, h⟩, fun j hj => by have e : j = 0 := by omega
                                   rw [e, h]
                                   exact Int.le_refl _⟩
set_option maxRecDepth 100000 in
set_option maxHeartbeats 1000000 in
theorem max_any (A : Option Addr) (c : Nat) (zs : List Int) (w : World) (hI : IsL w A zs) (h0 : 0 < zs.length) (hmax : zs.length ≤ 1000) :
 Calls Tryz.prog 180 #[.slice A zs.length c] w fun e w' => ∃ m, e = .returned (.int .i64 m) ∧ IsTop zs m ∧ w' = w := by
 obtain ⟨b, off, rfl, hc0⟩ := hI 0 h0
 have HI := hide hI; clear hI
 obtain ⟨n, hn⟩ : ∃ n, zs.length = n := ⟨_, rfl⟩
 have HN := hide hn
 rw [hn] at hmax h0 ⊢
 clear hn
 have d1 : decide ((n : Int) < 1) = false := decide_eq_false (by omega)
 obtain ⟨x0, hx0⟩ : ∃ x, zs.getD 0 0 = x := ⟨_, rfl⟩
 rw [hx0, Nat.add_zero] at hc0
 have HX0 := hide hx0; clear hx0
 go_enter Tryz.func180, Tryz.ntmps180
 go_wp2_with fail
 go_loopw [3, 4] (fun m i wr => ∃ (k : Nat) (y : Int), 1 ≤ k ∧ k ≤ n ∧ i = .int .i64 k ∧ m = .int .i64 y ∧ Hid ((∃ j, j < k ∧ zs.getD j 0 = y) ∧ ∀ j, j < k → zs.getD j 0 ≤ y) ∧ Hid (wr = w)) (fun _ i _ => n - (intOf i).toNat)
 case atStart => exact ⟨1, x0, by omega, by omega, rfl, rfl, hide (top_one HX0.out), hide rfl⟩
 case round =>
  obtain ⟨k, y, hk1, hk, rfl, rfl, HM, HW⟩ := hrel
  by_cases hlt : k < n
  ·obtain ⟨b', off', e, hc⟩ := HI.out k (by rw [HN.out]; exact hlt)
   cases e
   obtain ⟨x, hx⟩ : ∃ x, zs.getD k 0 = x := ⟨_, rfl⟩
   rw [hx, ← HW.out] at hc
   have HX := hide hx; clear hx
   go_wp2_with fail
   go_roundw
   case rel => exact ⟨k + 1, max y x, by omega, by omega, by go_num, rfl, hide (by
    obtain ⟨⟨j, hj, e⟩, h2⟩ := HM.out
    refine ⟨?_, fun i hi => ?_⟩
    ·rcases Int.le_total x y with h | h
     ·exact ⟨j, by omega, by rw [e]; omega⟩
     ·exact ⟨k, by omega, by rw [HX.out]; omega⟩
    ·rcases Nat.lt_or_ge i k with h | h
     ·have := h2 i h; omega
     ·obtain rfl : i = k := by omega
      rw [HX.out]; omega), HW⟩
   case measure => simp [intOf]; omega
  ·obtain rfl : k = n := by omega
   go_wp2_with fail
   go_ret
   exact ⟨y, rfl, ⟨by rw [HN.out]; exact HM.out.1, by rw [HN.out]; exact HM.out.2⟩, HW.out⟩
set_option maxRecDepth 100000 in
set_option maxHeartbeats 1000000 in
theorem min_any (A : Option Addr) (c : Nat) (zs : List Int) (w : World) (hI : IsL w A zs) (h0 : 0 < zs.length) (hmax : zs.length ≤ 1000) :
 Calls Tryz.prog 181 #[.slice A zs.length c] w fun e w' => ∃ m, e = .returned (.int .i64 m) ∧ IsLow zs m ∧ w' = w := by
 obtain ⟨b, off, rfl, hc0⟩ := hI 0 h0
 have HI := hide hI; clear hI
 obtain ⟨n, hn⟩ : ∃ n, zs.length = n := ⟨_, rfl⟩
 have HN := hide hn
 rw [hn] at hmax h0 ⊢
 clear hn
 have d1 : decide ((n : Int) < 1) = false := decide_eq_false (by omega)
 obtain ⟨x0, hx0⟩ : ∃ x, zs.getD 0 0 = x := ⟨_, rfl⟩
 rw [hx0, Nat.add_zero] at hc0
 have HX0 := hide hx0; clear hx0
 go_enter Tryz.func181, Tryz.ntmps181
 go_wp2_with fail
 go_loopw [3, 4] (fun m i wr => ∃ (k : Nat) (y : Int), 1 ≤ k ∧ k ≤ n ∧ i = .int .i64 k ∧ m = .int .i64 y ∧ Hid ((∃ j, j < k ∧ zs.getD j 0 = y) ∧ ∀ j, j < k → y ≤ zs.getD j 0) ∧ Hid (wr = w)) (fun _ i _ => n - (intOf i).toNat)
 case atStart => exact ⟨1, x0, by omega, by omega, rfl, rfl, hide (low_one HX0.out), hide rfl⟩
 case round =>
  obtain ⟨k, y, hk1, hk, rfl, rfl, HM, HW⟩ := hrel
  by_cases hlt : k < n
  ·obtain ⟨b', off', e, hc⟩ := HI.out k (by rw [HN.out]; exact hlt)
   cases e
   obtain ⟨x, hx⟩ : ∃ x, zs.getD k 0 = x := ⟨_, rfl⟩
   rw [hx, ← HW.out] at hc
   have HX := hide hx; clear hx
   go_wp2_with fail
   go_roundw
   case rel => exact ⟨k + 1, min y x, by omega, by omega, by go_num, rfl, hide (by
    obtain ⟨⟨j, hj, e⟩, h2⟩ := HM.out
    refine ⟨?_, fun i hi => ?_⟩
    ·rcases Int.le_total y x with h | h
     ·exact ⟨j, by omega, by rw [e]; omega⟩
     ·exact ⟨k, by omega, by rw [HX.out]; omega⟩
    ·rcases Nat.lt_or_ge i k with h | h
     ·have := h2 i h; omega
     ·obtain rfl : i = k := by omega
      rw [HX.out]; omega), HW⟩
   case measure => simp [intOf]; omega
  ·obtain rfl : k = n := by omega
   go_wp2_with fail
   go_ret
   exact ⟨y, rfl, ⟨by rw [HN.out]; exact HM.out.1, by rw [HN.out]; exact HM.out.2⟩, HW.out⟩
theorem spread_any (A : Option Addr) (c : Nat) (zs : List Int) (w : World) (hI : IsL w A zs) (h0 : 0 < zs.length) (hmax : zs.length ≤ 1000) (hb : ∀ j, j < zs.length → -1000000000000000 ≤ zs.getD j 0 ∧ zs.getD j 0 ≤ 1000000000000000) :
 Calls Tryz.prog 143 #[.slice A zs.length c] w fun e w' => ∃ a b, e = .returned (.int .i64 (a - b)) ∧ IsTop zs a ∧ IsLow zs b ∧ w' = w := by
 have HA := hide (max_any A c zs w hI h0 hmax); have HB := hide (min_any A c zs w hI h0 hmax)
 have HD := hide hb
 clear hI hb
 obtain ⟨n, hn⟩ : ∃ n, zs.length = n := ⟨_, rfl⟩
 rw [hn] at h0 HA HB HD ⊢
 have HN := hide hn
 clear hn
 have d1 : ((n : Int) == 0) = false := beq_eq_false_iff_ne.2 (by omega)
 have d2 : ¬ n = 0 := by omega
 go_enter Tryz.func143, Tryz.ntmps143
 go_wp2_with fail
 refine HA.out.mono ?_
 rintro e w1 ⟨a, rfl, ha, rfl⟩
 have HTA := hide ha; clear ha
 go_wp2_with fail
 refine HB.out.mono ?_
 rintro e w2 ⟨b, rfl, hb2, rfl⟩
 have HTB := hide hb2; clear hb2
 have hr : wrap64 (a - b) = a - b := by
  obtain ⟨⟨j, hj, e1⟩, _⟩ := HTA.out
  obtain ⟨⟨i, hi, e2⟩, _⟩ := HTB.out
  have := HD.out j (by rw [← HN.out]; exact hj)
  have := HD.out i (by rw [← HN.out]; exact hi)
  unfold wrap64; omega
 have hr2 : IntKind.i64.wrap (a - b) = a - b := by rw [IntKind.wrap_i64]; unfold wrap64 at hr; exact hr
 go_wp2_with fail
 go_ret
 exact ⟨a, b, rfl, HTA.out, HTB.out, rfl⟩
end
section
open Go Go.RowKit
attribute [local irreducible] liesB
section
variable (g : Nat) (nd fa sk ji dr R : Int) (S L : Value) (fr : Int) (Q : Value) (mm sd tk pr : Value) (rd : Int)
set_option maxRecDepth 100000 in
set_option maxHeartbeats 1000000 in
theorem mode_any (fy i : Nat) (ck : Value) (x y z : Value) (A : Option Addr) (c : Nat) (md : List Int) (w : World) (hb : Blk w g 210 (clC nd fa sk ji dr R S L fr Q fy ck mm sd tk pr rd)) (hf : fy < 65536) (hi : i ≤ 20) (hI : IsL w A md) (hmax : md.length ≤ 9223372036854775807) :
 Calls Tryz.prog 176 #[.pointer (some ⟨g, 0, none⟩), .int .i64 i, .agg #[x, y, z, .slice A md.length c]] w fun e w' => e = .returned (.int .i64 (modeV fy md i)) ∧ Below w.heap.size w w' := by
 have HL := hide (lies_any g nd fa sk ji dr R S L fr Q mm sd tk pr rd fy i ck (w.alloc (.cells #[x, y, z, .slice A md.length c] 35)) (hb.alloc _) hf hi)
 have HI := hide (hI.below (Nat.le_refl _) ((Below.refl w.heap.size w).alloc (Nat.le_refl _) (.cells #[x, y, z, .slice A md.length c] 35)))
 have HB := hide ((Below.refl w.heap.size w).alloc (Nat.le_refl _) (.cells #[x, y, z, .slice A md.length c] 35))
 clear hb hI
 obtain ⟨n, hn⟩ : ∃ n, md.length = n := ⟨_, rfl⟩
 have HN := hide hn
 obtain ⟨v, hv⟩ : ∃ v, modeV fy md i = v := ⟨_, rfl⟩
 have HV := hide hv
 obtain ⟨b, hbb⟩ : ∃ b, liesB fy i = b := ⟨_, rfl⟩
 rw [hbb] at HL
 rw [hn] at hmax HL HB HI ⊢
 rw [hv]
 unfold modeV at hv
 rw [hbb, hn] at hv
 clear hn hbb HV
 by_cases h1 : b = true
 ·subst h1
  by_cases h2 : i < n
  ·obtain ⟨b2, off, rfl, hc⟩ := HI.out i (by rw [HN.out]; exact h2)
   rw [if_pos ⟨rfl, h2⟩] at hv
   rw [hv] at hc
   have d1 : decide ((i : Int) < (n : Int)) = true := decide_eq_true (by omega)
   clear hv
   go_enter Tryz.func176, Tryz.ntmps176
   go_wp2_with (fail)
   refine HL.out.mono ?_
   rintro e w2 ⟨rfl, rfl⟩
   go_wp2_with (fail)
   go_ret
   exact ⟨rfl, HB.out⟩
  ·rw [if_neg (by omega)] at hv
   subst hv
   have d1 : decide ((i : Int) < (n : Int)) = false := decide_eq_false (by omega)
   go_enter Tryz.func176, Tryz.ntmps176
   go_wp2_with (fail)
   refine HL.out.mono ?_
   rintro e w2 ⟨rfl, rfl⟩
   go_wp2_with (fail)
   go_ret
   exact ⟨rfl, HB.out⟩
 ·have h1 : b = false := by simpa using h1
  subst h1
  rw [if_neg (by simp)] at hv
  subst hv
  go_enter Tryz.func176, Tryz.ntmps176
  go_wp2_with (fail)
  refine HL.out.mono ?_
  rintro e w2 ⟨rfl, rfl⟩
  go_wp2_with (fail)
  go_ret
  exact ⟨rfl, HB.out⟩
end
theorem isl_ownC {w : World} {base n : Nat} {v : Value} {zs : List Int} (h : w.ownsRow base 3 1 v n (zs.map (Value.int .i64))) (hz : zs.length = n) : ∃ A c, v = .slice A n c ∧ IsL w A zs := by
 rcases h.2 with ⟨rfl, h0⟩ | ⟨g, c, cur, rfl, _, _, _, _, _, _⟩
 ·subst h0
  exact ⟨none, 0, rfl, fun j hj => by omega⟩
 ·exact ⟨_, c, rfl, fun j hj => ⟨g, 0, rfl, by rw [Nat.zero_add]; exact own_get h (by omega)⟩⟩
/-- Clocks of the first k nodes that are not faulty. -/
def honL (fy : Nat) (zs : List Int) : Nat → List Int
 | 0 => []
 | k + 1 => if liesB fy k = true then honL fy zs k else honL fy zs k ++ [zs.getD k 0]
theorem honL_len (fy : Nat) (zs : List Int) (k : Nat) : (honL fy zs k).length ≤ k := by
 induction k with
 | zero => simp [honL]
 | succ k ih =>
  unfold honL
  split
  ·omega
  ·rw [List.length_append, List.length_singleton]; omega
theorem honL_no {fy : Nat} {zs : List Int} {k : Nat} (h : liesB fy k = false) : honL fy zs (k + 1) = honL fy zs k ++ [zs.getD k 0] := by conv => lhs; unfold honL; rw [if_neg (by rw [h]; decide)]
theorem honL_yes {fy : Nat} {zs : List Int} {k : Nat} (h : liesB fy k = true) : honL fy zs (k + 1) = honL fy zs k := by conv => lhs; unfold honL; rw [if_pos h]
theorem honL_mem {fy : Nat} {zs : List Int} {P : Int → Prop} {k : Nat} (hz : ∀ j, j < k → P (zs.getD j 0)) : ∀ x ∈ honL fy zs k, P x := by
 induction k with
 | zero => simp [honL]
 | succ k ih =>
  unfold honL
  split
  ·exact ih (fun j hj => hz j (by omega))
  ·intro x hx
   rcases List.mem_append.1 hx with h | h
   ·exact ih (fun j hj => hz j (by omega)) x h
   ·simp at h; subst h; exact hz k (by omega)
theorem getD_memC {l : List Int} {j : Nat} (h : j < l.length) : l.getD j 0 ∈ l := by
 rw [List.getD_eq_getElem?_getD, List.getElem?_eq_getElem h]
 exact List.getElem_mem h
section
variable (g : Nat) (nd fa sk ji dr R : Int) (S L : Value) (fr : Int) (Q : Value) (mm sd tk pr : Value) (rd : Int)
set_option maxRecDepth 100000 in
set_option maxHeartbeats 1000000 in
theorem spreadC_any (fy : Nat) (A : Option Addr) (c : Nat) (zs : List Int) (w : World) (hb : Blk w g 210 (clC nd fa sk ji dr R S L fr Q fy (.slice A zs.length c) mm sd tk pr rd)) (hf : fy < 65536) (hI : IsL w A zs) (hmax : zs.length ≤ 16) (h0 : 0 < (honL fy zs zs.length).length) (hz : ∀ j, j < zs.length → -1000000000000000 ≤ zs.getD j 0 ∧ zs.getD j 0 ≤ 1000000000000000) :
 Calls Tryz.prog 106 #[.pointer (some ⟨g, 0, none⟩)] w fun e w' => (∃ a b, e = .returned (.int .i64 (a - b)) ∧ IsTop (honL fy zs zs.length) a ∧ IsLow (honL fy zs zs.length) b) ∧ Below w.heap.size w w' := by
 have k11 := hb.cell 11
 simp at k11
 have HI := hide hI; have HBK := hide hb; have HZ := hide hz; have H0 := hide h0
 clear hb hI hz h0
 obtain ⟨n, hn⟩ : ∃ n, zs.length = n := ⟨_, rfl⟩
 have HN := hide hn
 rw [hn] at hmax k11 HBK H0 ⊢
 clear hn
 obtain ⟨i0, hi, hz0, hz1, hz2⟩ := en_info_parts ar_info
 go_enter Tryz.func106, Tryz.ntmps106
 go_wp2_with fail
 go_loopw [3, 11] (fun v3 i wr => ∃ k : Nat, k ≤ n ∧ i = .int .i64 k ∧ Hid (wr.ownsRow w.heap.size 3 1 v3 (honL fy zs k).length ((honL fy zs k).map (Value.int .i64))) ∧ Hid (Below w.heap.size w wr)) (fun _ i _ => n - (intOf i).toNat)
 case atStart => exact ⟨0, by omega, rfl, hide (World.ownsRow_nil _ _ _ _), hide (Below.refl _ _)⟩
 case round =>
  obtain ⟨k, hk, rfl, HO, HW⟩ := hrel
  by_cases hlt : k < n
  ·obtain ⟨b, off, rfl, h0⟩ := (HI.out.below (Nat.le_refl _) HW.out) k (by rw [HN.out]; exact hlt)
   obtain ⟨x, hx⟩ : ∃ x, zs.getD k 0 = x := ⟨_, rfl⟩
   rw [hx] at h0
   have HX := hide hx; clear hx
   have HL := hide (lies_any g nd fa sk ji dr R S L fr Q mm sd tk pr rd fy k (.slice (some ⟨b, off, none⟩) n c) wr (HBK.out.below HW.out HBK.out.lt) hf (by omega))
   obtain ⟨y, hy⟩ : ∃ y, liesB fy k = y := ⟨_, rfl⟩
   rw [hy] at HL
   have HY := hide hy; clear hy
   go_wp2_with fail
   refine HL.out.mono ?_
   rintro e w2 ⟨rfl, rfl⟩
   cases y
   ·obtain ⟨m, hm⟩ : ∃ m, (honL fy zs k).length = m := ⟨_, rfl⟩
    have hml := honL_len fy zs k
    have HE : Hid (honL fy zs (k + 1) = honL fy zs k ++ [x]) := hide (by rw [honL_no HY.out, HX.out])
    rw [hm] at HO hml
    have HM := hide hm; clear hm
    have HO2 := hide (own_keepR HO.out ((Below.refl w2.heap.size w2).alloc (Nat.le_refl _) (.cells #[.int .i64 x] 3)))
    go_wp2_with (at_builtin; go_must (refine wpList_append_own _ rfl (.tmp 20) (.tmp 22) _ rfl w.heap.size 3 i0 _ 1 8 Tryz.underlying33 hi hz0 hz1 hz2 rfl (by decide) u3 m ((honL fy zs k).map (Value.int .i64)) rfl (by exact HO2.out) ⟨w2.heap.size, 0, none⟩ 1 1 [.int .i64 x] rfl rfl (by exact news1 (Blk.new w2 3 #[.int .i64 x])) (by intro u hu; simp at hu; subst hu; rfl) (by simp [maxLen]; omega) (by omega) (by have := HW.out.size; simp; omega) ?_); intro v8 w8 hown hg _; have HO8 := hide hown; have HG8 := hide hg; clear hown hg)
    go_roundw
    case rel => exact ⟨k + 1, by omega, by go_num, hide (by rw [HE.out]; simpa [HM.out] using HO8.out), hide ((HW.out.alloc HW.out.size _).grown HG8.out (by have := HW.out.size; simp; omega) (fun j e => (HO2.out.lt j e).1))⟩
    case measure => simp [intOf]; omega
   ·have HE : Hid (honL fy zs (k + 1) = honL fy zs k) := hide (honL_yes HY.out)
    go_wp2_with fail
    go_roundw
    case rel => exact ⟨k + 1, by omega, by go_num, hide (by rw [HE.out]; exact HO.out), HW⟩
    case measure => simp [intOf]; omega
  ·obtain rfl : k = n := by omega
   obtain ⟨A2, c2, rfl, hI2⟩ := isl_ownC HO.out rfl
   have hle := honL_len fy zs k
   have HS := hide (spread_any A2 c2 (honL fy zs k) wr hI2 H0.out (by omega) (fun j hj => honL_mem (P := fun x => -1000000000000000 ≤ x ∧ x ≤ 1000000000000000) (fun j hj => HZ.out j (by rw [HN.out]; exact hj)) _ (getD_memC hj)))
   generalize (honL fy zs k).length = q at HS HO H0
   go_wp2_with fail
   refine HS.out.mono ?_
   rintro e w2 ⟨a, b, rfl, h1, h2, rfl⟩
   have H1 := hide h1; have H2 := hide h2; clear h1 h2
   go_wp2_with fail
   go_ret
   exact ⟨⟨a, b, rfl, H1.out, H2.out⟩, HW.out⟩
end
end
end Go.Proofs.YtideefjnlakciaaGreatDoor
