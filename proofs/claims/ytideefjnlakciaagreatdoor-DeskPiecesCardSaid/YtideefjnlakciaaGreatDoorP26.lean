/- How long an answer is, in plain Lean; no condition. -/
import Derived.Test.YtideefjnlakciaaGreatDoorP25
import Derived.Test.YtideefjnlakciaaGreatDoorP24
import Derived.Test.YtideefjnlakciaaGreatDoorP23
import Derived.Test.YtideefjnlakciaaGreatDoorP22
import Derived.Test.YtideefjnlakciaaGreatDoorP02
import Derived.Test.YtideefjnlakciaaGreatDoorP18
import Derived.RangeFuncLeaves
import Derived.TacticsInMore
import Derived.RangeFuncCalls
import Derived.WalkKit
import Derived.Test.YtideefjnlakciaaGreatDoorCards
import Derived.Test.YtideefjnlakciaaGreatDoorTie
import Derived.SevenTiedAt
import Derived.ChangeVars
import Derived.JoinedOf
import Derived.RowKit
import Derived.RowKitTokens
import Derived.LaidLaws
import Derived.LaidHandle
import Derived.Stop.Joined
import Derived.LaidMore
import Derived.Lay
import Derived.Lib.LaidTab
set_option linter.unusedVariables false
set_option linter.unusedSimpArgs false
namespace Go.Proofs.YtideefjnlakciaaGreatDoor
section
open Go Go.RowKit
/-- An answer is short. -/
def AnS (x : Ans) : Prop := ∀ o, x.o = .ok o → o.size ≤ 2000
section
variable {d : Dk} {w : List ByteArray} {k : Nat}
theorem anS_ok {o : ByteArray} {d' : Dk} (h : o.size ≤ 2000) : AnS ⟨.ok o, d'⟩ := fun e h' => by cases h'; exact h
theorem anS_er {e : Int} {d' : Dk} : AnS ⟨.error e, d'⟩ := fun e' h' => by cases h'
theorem anS_if {c : Prop} [Decidable c] {a b : Ans} (ha : c → AnS a) (hb : AnS b) : AnS (if c then a else b) := by
 split
 ·rename_i h; exact ha h
 ·exact hb
theorem anS_or {e : Int} {o : ByteArray} {d' : Dk} (h : e = 0 → o.size ≤ 2000) : AnS (orE e o d') := by
 unfold orE
 intro e' h'
 dsimp only at h'
 split at h'
 ·rename_i h0
  cases h'
  exact h h0
 ·cases h'
theorem anS_with {n : Int} {f : List Int → Ans} (h : ∀ l, AnS (f l)) : AnS (withN d w n f) := by
 unfold withN
 split
 ·exact anS_er
 ·exact h _
theorem anS_no {x : Ans} (h : AnS x) : AnS (noC d x) := by
 unfold noC
 split
 ·exact h
 ·exact anS_er
theorem anS_has {x : Nat → Cl → Ans} (h : ∀ y, d.c = some y → AnS (x y.1 y.2)) : AnS (hasC d x) := by
 unfold hasC
 split
 ·exact anS_er
 ·rename_i y e; exact h y e
theorem ito_s {n : Int} (h0 : -9223372036854775808 ≤ n) (h1 : n ≤ 9223372036854775807) : (itoB n).size ≤ 2000 := by
 have := itoB_size n h0 h1
 omega
theorem flat_le {α : Type} (f : α → List Nat) (m : Nat) (hf : ∀ x, (f x).length = m) : ∀ l : List α, ((l.map f).flatten).length = m * l.length
 | [] => by simp
 | x :: l => by
  have := flat_le f m hf l
  rw [List.map_cons, List.flatten_cons, List.length_append, this, hf, List.length_cons, Nat.mul_add, Nat.add_comm]
  omega
theorem plN_len2 (p : Pl) : (plN p).length = 10 + 3 * p.sl.length + 4 * p.lk.length + ((p.wn.map wnN).flatten).length := by
 have h1 := flat_le slN 3 (fun _ => rfl) p.sl
 have h2 := flat_le lkN 4 (fun _ => rfl) p.lk
 unfold plN
 simp only [List.length_append, List.length_cons, List.length_nil, h1, h2]
 omega
theorem spF_bd {p : Pl} {fy : Nat} {c : Cl} (hck : ∀ j, -274877906944 ≤ c.ck.getD j 0 ∧ c.ck.getD j 0 ≤ 274877906944) : -549755813888 ≤ spF p fy c ∧ spF p fy c ≤ 549755813888 := by
 have hm : ∀ x ∈ honL fy c.ck p.nd.toNat, -274877906944 ≤ x ∧ x ≤ 274877906944 := fun x hx => by
  obtain ⟨q, -, -, rfl⟩ := honL_mem2 hx
  exact hck q
 unfold spF
 split
 ·rename_i he
  obtain ⟨a, b, e, ⟨⟨j, hj, ha⟩, -⟩, ⟨⟨i, hi, hb⟩, -⟩⟩ := he.choose_spec
  have h1 := hm a (by rw [← ha, List.getD_eq_getElem?_getD, List.getElem?_eq_getElem hj]; exact List.getElem_mem _)
  have h2 := hm b (by rw [← hb, List.getD_eq_getElem?_getD, List.getElem?_eq_getElem hi]; exact List.getElem_mem _)
  omega
 ·omega
theorem cmd_short (ho : DkOk k d) (hk : k ≤ 6000) {s : ByteArray} {f : Dk → List ByteArray → Ans} (hf : cmdF s = some f) : AnS (f d w) := by
 obtain ⟨x, hx, -, rfl⟩ := lookS_mem hf
 unfold cmdL at hx
 simp only [List.mem_cons, List.not_mem_nil, or_false] at hx
 rcases hx with rfl | rfl | rfl | rfl | rfl | rfl | rfl | rfl | rfl | rfl | rfl | rfl | rfl | rfl | rfl | rfl | rfl | rfl | rfl | rfl
 ·refine anS_with fun _ => anS_or fun h0 => ?_
  have h1 := vnums_len (plN d.p) (plN_le h0)
  rw [plN_len2, ho.wn] at h1
  simp at h1
  have := ho.sl
  have := ho.lk
  exact ito_s (by omega) (by omega)
 ·exact anS_with fun _ => anS_ok (by decide)
 ·refine anS_with fun _ => anS_has fun y hy => anS_ok ?_
  obtain ⟨h1, h2, -⟩ := ho.clu y hy
  have hp := PlOk.of h1
  have h3 := tell_len (l := y.2.ck) (fun x hx => by
   obtain ⟨j, hj, e⟩ := List.mem_iff_getElem.1 hx
   have := h2.ck j
   rw [List.getD_eq_getElem?_getD, List.getElem?_eq_getElem hj, Option.getD_some, e] at this
   omega)
  have h4 := h2.len
  have h5 := hp.n16
  have h6 := hp.n1
  show (Lib.join (y.2.ck.map Lib.itoa) [32]).toArray.size ≤ 2000
  rw [List.size_toArray]
  omega
 ·exact anS_with fun _ => anS_has fun _ _ => anS_ok (by decide)
 ·exact anS_with fun _ => anS_ok (by decide)
 ·refine anS_with fun _ => anS_no (anS_if (fun _ => anS_er) (anS_ok ?_))
  have := ho.lk
  exact ito_s (by omega) (by omega)
 ·refine anS_with fun l => anS_or fun _ => ?_
  have := localN_bd (l.getD 0 0) (l.getD 1 0) (l.getD 2 0) (l.getD 3 0) (l.getD 4 0)
  exact ito_s (by omega) (by omega)
 ·exact anS_with fun _ => anS_has fun _ _ => anS_ok (by decide)
 ·refine anS_with fun n => anS_has fun y hy => anS_if (fun _ => anS_er) (anS_ok ?_)
  obtain ⟨h1, h2, -⟩ := ho.clu y hy
  have h3 := (h2.mm (n.getD 0 0).toNat).1
  have h4 := itoB_size ((y.2.mm (n.getD 0 0).toNat).m : Nat) (by omega) (by omega)
  split
  ·rw [ByteArray.size_append]
   show _ + 7 ≤ _
   omega
  ·omega
 ·refine anS_with fun l => anS_or fun _ => ?_
  have := midV_bd l.tail (l.getD 0 0)
  exact ito_s (by omega) (by omega)
 ·exact anS_with fun _ => anS_has fun _ _ => anS_ok (by decide)
 ·exact anS_with fun _ => anS_no (anS_ok (by decide))
 ·refine anS_if (fun _ => anS_er) (anS_with fun _ => anS_has fun _ _ => anS_if (fun _ => anS_er) ?_)
  split
  ·exact anS_er
  ·exact anS_or fun _ => by decide
 ·exact anS_with fun _ => anS_has fun _ _ => anS_ok (by decide)
 ·refine anS_with fun l => anS_or fun _ => ?_
  have := realN_bd (l.getD 0 0) (l.getD 1 0) (l.getD 2 0) (l.getD 3 0) (l.getD 4 0)
  exact ito_s (by omega) (by omega)
 ·refine anS_with fun _ => anS_has fun y hy => anS_if (fun _ => anS_er) ?_
  split
  ·exact anS_er
  ·refine anS_if (fun _ => anS_er) ?_
   split
   ·exact anS_er
   ·rename_i q hq
    obtain ⟨_, _, _, _, _, hb⟩ := ho.clu y hy
    have := hb _ _ _ (by rw [hq]; exact List.mem_cons_self)
    refine anS_ok ?_
    unfold isB
    rw [ByteArray.size_append]
    show 3 + _ ≤ _
    omega
 ·refine anS_with fun _ => anS_has fun y hy => anS_if (fun _ => anS_ok ?_) anS_er
  obtain ⟨h1, h2, h3, -⟩ := ho.clu y hy
  have h4 := play_rd d.p y.1 d.r y.2
  have h5 := (playF_ok (PlOk.of h1) h2 y.1 d.r).rd
  exact ito_s (by omega) (by omega)
 ·refine anS_with fun _ => anS_no (anS_if (fun _ => anS_er) (anS_ok ?_))
  have := ho.sl
  exact ito_s (by omega) (by omega)
 ·refine anS_with fun _ => anS_has fun y hy => anS_ok ?_
  obtain ⟨_, h2, -⟩ := ho.clu y hy
  have := spF_bd (p := d.p) (fy := y.1) h2.ck
  exact ito_s (by omega) (by omega)
 ·exact anS_with fun _ => anS_no (anS_if (fun _ => anS_ok (by decide)) anS_er)
/-- A line's answer is short. -/
theorem line_short (ho : DkOk k d) (hk : k ≤ 6000) (s : ByteArray) : (lineF d s).1.size ≤ 2000 := by
 unfold lineF
 split
 ·show (⟨#[111, 107]⟩ : ByteArray).size ≤ 2000
  decide
 ·rename_i x ws hw
  split
  ·show (errB 3).size ≤ 2000
   have := itoB_size 3 (by omega) (by omega)
   unfold errB
   rw [ByteArray.size_append]
   show 6 + _ ≤ _
   omega
  ·rename_i f hf
   have h1 := cmd_short (w := ws) ho hk hf
   have h2 := cmd_err (d := d) (w := ws) hf
   cases he : (f d ws).o with
   | ok o => exact h1 o he
   | error e =>
    obtain ⟨e0, e1⟩ := h2 e he
    have := itoB_size e (by omega) (by omega)
    show (errB e).size ≤ 2000
    unfold errB
    rw [ByteArray.size_append]
    show 6 + _ ≤ _
    omega
end
end
section
open Go Go.RowKit Go.Shelf
attribute [local go_sem] Oper.semAt_some
theorem runG_len : ∀ (l : List ByteArray) (d : Dk) (k : Nat), DkOk k d → k + sumL l ≤ 6000 → (runG lineF d l).length ≤ 2001 * l.length
 | [], d, k, h, hk => by simp [runG]
 | s :: l, d, k, h, hk => by
  have h1 := endG_ok [s] d k h
  have e : sumL (s :: l) = sumL [s] + sumL l := sumL_app [s] l
  have h2 := runG_len l (lineF d s).2 (k + sumL [s]) h1 (by omega)
  have h3 := line_short h (by omega) s
  have h4 : (lineF d s).1.data.toList.length = (lineF d s).1.size := by simp
  rw [runG, List.length_append, List.length_cons, List.length_cons, h4]
  omega
attribute [local irreducible] lineF
theorem linesF_eq (s : ByteArray) : linesF s.data.toList = linesB ⟨(Lib.trimSuffix s.data.toList [10]).toArray⟩ := rfl
theorem trim_leL (l p : List UInt8) : (Lib.trimSuffix l p).length ≤ l.length := by
 unfold Lib.trimSuffix
 split
 ·rw [List.length_take]; omega
 ·exact Nat.le_refl _
theorem ses_start {w0 w1 : World} (hB : Below w0.heap.size w0 w1) (x y z : Array Value) (hi : Nat) : SesK w0 w1.heap.size (w1.heap.size + 1) hi dk0 []
 (((((w1.alloc (.cells (deskC dk0 ly0) 37)).alloc (.cells #[.pointer none, .slice none 0 0] 42)).alloc (.cells x 9)).alloc (.cells y 9)).alloc (.cells z 3)) := by
 have hs := hB.size
 have b1 : Below w0.heap.size w0 (((((w1.alloc (.cells (deskC dk0 ly0) 37)).alloc (.cells #[.pointer none, .slice none 0 0] 42)).alloc (.cells x 9)).alloc (.cells y 9)).alloc (.cells z 3)) :=
  ((((hB.alloc hs _).alloc (by simp; omega) _).alloc (by simp; omega) _).alloc (by simp; omega) _).alloc (by simp; omega) _
 have k0 := ((((Blk.new w1 37 (deskC dk0 ly0)).alloc (.cells #[.pointer none, .slice none 0 0] 42)).alloc (.cells x 9)).alloc (.cells y 9)).alloc (.cells z 3)
 have k1 := (((Blk.new (w1.alloc (.cells (deskC dk0 ly0) 37)) 42 #[.pointer none, .slice none 0 0]).alloc (.cells x 9)).alloc (.cells y 9)).alloc (.cells z 3)
 have k2 := ((Blk.new ((w1.alloc (.cells (deskC dk0 ly0) 37)).alloc (.cells #[.pointer none, .slice none 0 0] 42)) 9 x).alloc (.cells y 9)).alloc (.cells z 3)
 have k3 := (Blk.new (((w1.alloc (.cells (deskC dk0 ly0) 37)).alloc (.cells #[.pointer none, .slice none 0 0] 42)).alloc (.cells x 9)) 9 y).alloc (.cells z 3)
 have k4 := Blk.new ((((w1.alloc (.cells (deskC dk0 ly0) 37)).alloc (.cells #[.pointer none, .slice none 0 0] 42)).alloc (.cells x 9)).alloc (.cells y 9)) 3 z
 simp only [World.size_alloc] at k1 k2 k3 k4
 refine ⟨ly0, dk0_at b1 hs k0, ?_, .inl ⟨by omega, .slice none 0 0, k1, ⟨rfl, .inl ⟨rfl, rfl⟩⟩, by simp [Value.ownBlock]⟩, by simp, ⟨_, k2⟩, ⟨_, k3⟩, ⟨_, k4⟩⟩
 rintro i h1 h2 (rfl | ⟨j, hj, e⟩ | ⟨q, hq⟩)
 ·omega
 ·cases e
 ·simp [Ob.foot] at hq
/-- An answer is written. -/
theorem SesK.put_line {w0 W : World} {g b hi : Nat} {d : Dk} {acc : List UInt8} (h : SesK w0 g b hi d acc W) (hgb : g < b) (hbh : b + 3 < hi) (q : ByteArray) (hq : acc.length + q.size ≤ 100000000) :
 Calls Tryz.prog 10 #[.pointer (some ⟨b, 0, none⟩), .string q] W fun e w' => e = .returned (.tuple #[.int .i64 q.size, .nilIface]) ∧ SesK w0 g b hi d (acc ++ q.data.toList) w' ∧ Lib.OthersKept 5 (some b) W w' ∧ W.heap.size ≤ w'.heap.size := by
 have hB := h
 obtain ⟨L, h1, _, h3, _⟩ := hB
 have hl : (Lib.byteCells acc).length = acc.length := by simp [Lib.byteCells]
 refine (Any.Builder_WriteString_k Tryz.lays166 Tryz.Builder_Extra_156 w0.heap.size b (Lib.byteCells acc) q W h3 (by omega) h1.low.size).mono ?_
 rintro e w' ⟨he, hat, hBl, ho⟩
 exact ⟨he, h.write hgb hbh q hat hBl ho, ho, hBl.size⟩
theorem SesK.end_ {w0 W : World} {g b hi : Nat} {d : Dk} {acc : List UInt8} (h : SesK w0 g b hi d acc W) :
 Calls Tryz.prog 12 #[.pointer (some ⟨b, 0, none⟩)] W fun e w' => e = .returned (.string ⟨acc.toArray⟩) ∧ Below w0.heap.size w0 w' ∧ Lib.OthersKept 5 (some b) W w' := by
 obtain ⟨L, h1, _, h3, _⟩ := h
 refine (Tryz.Builder_String_any_k w0.heap.size b acc W h3 h1.low.size).mono ?_
 rintro e w' ⟨he, _, hBl, ho⟩
 exact ⟨he, h1.low.trans (hBl.mono (Nat.le_refl _)), ho⟩
set_option maxRecDepth 100000 in
set_option maxHeartbeats 4000000 in
theorem session_any (s : ByteArray) (hs : s.size ≤ 5000) (w : World) (hstd : StdOk w) :
 Calls Tryz.prog 5 #[.string s] w fun e w' => e = .returned (.string ⟨(sessF s.data.toList).toArray⟩) ∧ Below w.heap.size w w' := by
 have HF := hide (fresh_any w)
 have HS := hide hstd
 have d1 : decide ((s.size : Int) > 20000) = false := decide_eq_false (by omega)
 have d2 : ¬ ((20000 : Int) < s.size) := by omega
 obtain ⟨t, ht⟩ : ∃ t : ByteArray, (⟨(Lib.trimSuffix s.data.toList [10]).toArray⟩ : ByteArray) = t := ⟨_, rfl⟩
 have htl : t.size ≤ 5000 := by
  have := trim_leL s.data.toList [10]
  rw [← ht]
  show (Lib.trimSuffix s.data.toList [10]).toArray.size ≤ 5000
  rw [List.size_toArray]
  have : s.data.toList.length = s.size := by simp
  omega
 have HLE : Hid (sessF s.data.toList = runG lineF dk0 (linesB t)) := hide (by
  unfold sessF
  rw [if_neg (by rw [show s.data.toList.length = s.size by simp]; omega), linesF_eq, ht]
  rfl)
 have HT := hide (fun W => Tryz.strings_TrimSuffix s ⟨#[10]⟩ W (by omega))
 simp only [ht] at HT
 have HSP := hide (fun W => split_any t ⟨#[10]⟩ W)
 have HTL := hide htl
 clear hstd ht htl
 refine (callsIn_wide (n := 6)).1 ?_
 refine callsIn_of_wp_marks Tryz.func5 rfl trivial ?_ rfl
 simp only [Tryz.ntmps5, List.size_toArray, List.length_cons, List.length_nil, Nat.reduceAdd, Nat.reduceSub, Array.replicate_succ, Array.replicate_zero, List.push_toArray, List.append_toArray, List.nil_append, List.cons_append]
 gi_wp2_with (refine ⟨trivial, ?_⟩; gi_at_call 7; refine (callsIn_wide.2 HF.out).mono ?_; rintro r w1 ⟨rfl, hB1⟩; have HB1 := hide hB1; clear hB1)
 gi_wp2_with (refine ⟨trivial, ?_⟩; gi_at_call 9; refine (callsIn_wide.2 (HT.out _)).mono ?_; rintro r w2 ⟨rfl, rfl⟩)
 gi_wp2_with (refine ⟨trivial, ?_⟩; gi_at_call 8; refine (callsIn_wide.2 (HSP.out _)).mono ?_; rintro r w2 ⟨rfl, rfl⟩)
 generalize hW3 : (((((w1.alloc (.cells #[.int .i64 0, .int .i64 0, .int .i64 0, .int .i64 0, .int .i64 0, .int .i64 0, .slice none 0 0, .slice none 0 0, .int .i64 1, .slice none 0 0, .pointer none, .slice none 0 0, .slice none 0 0, .slice none 0 0, .slice none 0 0] 37)).alloc (.cells #[.pointer none, .slice none 0 0] 42)).alloc (.cells #[.string t] 9)).alloc (.cells #[.string ⟨#[10]⟩] 9)).alloc (.cells #[.int .i64 0] 3)) = W3
 have hst : SesK w w1.heap.size (w1.heap.size + 1) (w1.heap.size + 7) dk0 [] W3 := by rw [← hW3]; exact ses_start HB1.out _ _ _ _
 have hsz : W3.heap.size = w1.heap.size + 5 := by rw [← hW3]; simp
 have k2 : Blk W3 (w1.heap.size + 1 + 1) 9 #[.string t] := by
  rw [← hW3]
  have h := ((Blk.new ((w1.alloc (.cells (deskC dk0 ly0) 37)).alloc (.cells #[.pointer none, .slice none 0 0] 42)) 9 #[.string t]).alloc (.cells #[.string ⟨#[10]⟩] 9)).alloc (.cells #[.int .i64 0] 3)
  simp only [World.size_alloc] at h
  exact h
 have k3 : Blk W3 (w1.heap.size + 1 + 1 + 1) 9 #[.string ⟨#[10]⟩] := by
  rw [← hW3]
  have h := (Blk.new (((w1.alloc (.cells (deskC dk0 ly0) 37)).alloc (.cells #[.pointer none, .slice none 0 0] 42)).alloc (.cells #[.string t] 9)) 9 #[.string ⟨#[10]⟩]).alloc (.cells #[.int .i64 0] 3)
  simp only [World.size_alloc] at h
  exact h
 have k4 : Blk W3 (w1.heap.size + 1 + 1 + 2) 3 #[.int .i64 0] := by
  rw [← hW3]
  have h := Blk.new ((((w1.alloc (.cells (deskC dk0 ly0) 37)).alloc (.cells #[.pointer none, .slice none 0 0] 42)).alloc (.cells #[.string t] 9)).alloc (.cells #[.string ⟨#[10]⟩] 9)) 3 #[.int .i64 0]
  simp only [World.size_alloc] at h
  exact h
 have hbox := split_box 5 (by omega) (w1.heap.size + 1 + 1) t (by have := HTL.out; omega) W3 k2 k3 k4
 clear hW3 k2 k3 k4 HF HT HSP d1 d2
 have HB1' := HB1.out.size
 generalize w1.heap.size = g at *
 refine wpIn_rangeBox rfl (by omega) (gf := 41) (lb := #[.pointer (some ⟨g + 1 + 1 + 1, 0, none⟩), .pointer (some ⟨g + 1 + 1, 0, none⟩), .pointer (some ⟨g + 1 + 1 + 2, 0, none⟩)]) rfl trivial (enters_of Tryz.func41 (by kernel_rfl) rfl) (encs := fun x : ByteArray => #[.string x]) (fun _ => rfl) (sb := g + 1 + 1) (by omega) (K := fun i => i = g + 1 + 1 ∨ i = g + 1 + 1 + 1 ∨ i = g + 1 + 1 + 2) (by omega) (xs := linesB t) hbox
  (fun pre W => SesK w g (g + 1) (g + 7) (endG lineF dk0 pre) (runG lineF dk0 pre) W) (fun s W o h => h.alloc (by omega) (by omega) o) (fun s W o h ho => h.put (by omega) (by omega) (by omega) ho o) (fun s W v h => h.box (by omega) (by omega) v) hst
  (fun x => { tmps := #[.string s, undef, .string ⟨#[]⟩, .pointer (some ⟨g, 0, none⟩), .pointer (some ⟨g + 1, 0, none⟩), .string x, .string s, .int .i64 s.size, .bool false,
   .agg #[.int .i64 0, .int .i64 0, .int .i64 0, .int .i64 0, .int .i64 0, .int .i64 0, .slice none 0 0, .slice none 0 0, .int .i64 1, .slice none 0 0, .pointer none, .slice none 0 0, .slice none 0 0, .slice none 0 0, .slice none 0 0],
   .string s, .string t, .func (.func 41) #[] #[.pointer (some ⟨g + 1 + 1 + 1, 0, none⟩), .pointer (some ⟨g + 1 + 1, 0, none⟩), .pointer (some ⟨g + 1 + 1 + 2, 0, none⟩)], .string x, undef, undef, undef, undef, undef], defers := [] }) ?assign ?body ?done
 case assign =>
  intro l x W K hK
  gi_wp2
  exact hK
 case body =>
  rintro l pre x W hI ⟨r, hr⟩ hno
  have hsum : sumL pre + (x.size + 1) ≤ 5001 := by
   have h1 := linesB_sum t
   rw [hr, sumL_app, show x :: r = [x] ++ r from rfl, sumL_app] at h1
   have h2 : sumL [x] = x.size + 1 := by simp [sumL]
   have := HTL.out
   omega
  have hok := endG_ok pre dk0 0 dk0_ok
  have hlen := runG_len pre dk0 0 dk0_ok (by omega)
  have hpl : pre.length ≤ sumL pre := by
   clear hI hr hsum hok hlen
   induction pre with
   | nil => simp
   | cons y l ih =>
    have e : sumL (y :: l) = y.size + 1 + sumL l := by simp [sumL]
    rw [List.length_cons]
    omega
  have hshort := line_short hok (by omega) x
  have hWs : g + 7 ≤ W.heap.size := by
   obtain ⟨o, ho, _⟩ := hno (W3.heap.size + 1) (.inr rfl)
   have := (Array.getElem?_eq_some_iff.1 ho).1
   omega
  have HLN := hide (hI.line HS.out (by omega) (by omega) hWs hok (by omega) x (by omega))
  generalize hd : endG lineF dk0 pre = d at *
  generalize hacc : runG lineF dk0 pre = acc at *
  have HEN : Hid (endG lineF dk0 (pre ++ [x]) = (lineF d x).2 ∧ runG lineF dk0 (pre ++ [x]) = acc ++ ((lineF d x).1.data.toList ++ [10])) := hide ⟨by rw [endG_snoc, hd], by rw [runG_snoc, hd, hacc]⟩
  generalize (lineF d x).1 = o at *
  generalize (lineF d x).2 = d2 at *
  have hq : ¬ 9223372036854775807 < o.size + 1 := by omega
  have hqs : (o ++ ⟨#[10]⟩ : ByteArray).size = o.size + 1 := by rw [ByteArray.size_append]; rfl
  have HWR := hide (fun W' (h : SesK w g (g + 1) (g + 7) d2 acc W') => h.put_line (by omega) (by omega) (o ++ ⟨#[10]⟩) (by omega))
  have HNO := hide hno
  have HI := hide hI
  have HEN2 : Hid ((o ++ ⟨#[10]⟩ : ByteArray).data.toList = o.data.toList ++ [10]) := hide (by simp)
  clear hno hI hr hok hlen hpl hshort hd hacc hsum hqs
  gi_wp2
  refine ⟨trivial, ?_⟩
  refine (CallsIn.inRound l (callsIn_wide.2 HLN.out)).mono ?_
  rintro e W4 ⟨rfl, hK4, hb4, hs4⟩
  have HK4 := hide hK4
  have HB4 := hide hb4
  clear hK4 hb4
  gi_wp2
  refine ⟨trivial, ?_⟩
  refine (CallsIn.inRound l (callsIn_wide.2 (HWR.out _ HK4.out))).mono ?_
  rintro e W5 ⟨rfl, hK5, hO5, hs5⟩
  have HK5 := hide hK5
  have HO5 := hide hO5
  clear hK5 hO5
  gi_wp2
  have hkk : ∀ i o', W4.heap[i]? = some o' → g + 1 < i → i < g + 7 → (∀ c fz, o' ≠ .cells c 5 fz) → W5.heap[i]? = W.heap[i]? := fun i o' ho h1 h2 hn => by
   rw [HO5.out i o' ho (fun e => by cases e; omega) hn, ← ho]
   exact HB4.out i (by omega) h2
  refine ⟨?_, ?_⟩
  ·obtain ⟨_, _, _, _, _, ⟨c1, k1⟩, ⟨c2, k2⟩, ⟨c3, k3⟩⟩ := HK4.out
   rintro i ((rfl | rfl | rfl) | hi)
   ·exact hkk _ _ k1 (by omega) (by omega) (fun c fz e => by cases e)
   ·exact hkk _ _ k2 (by omega) (by omega) (fun c fz e => by cases e)
   ·exact hkk _ _ k3 (by omega) (by omega) (fun c fz e => by cases e)
   ·obtain ⟨o', ho, hc⟩ := HNO.out i (by omega)
    exact hkk i o' ((HB4.out i (by omega) (by omega)).trans ho) (by omega) (by omega) (fun c fz e => by rw [e] at hc; cases hc)
  ·rw [HEN.out.1, HEN.out.2, ← HEN2.out]
   exact HK5.out
 case done =>
  intro D W hD hI hK
  have HEND := hide hI.end_
  gi_wp2_with (refine ⟨trivial, ?_⟩; gi_at_call 12; refine (callsIn_wide.2 HEND.out).mono ?_; rintro e W5 ⟨rfl, hB5, hO5⟩)
  have hD5 : W5.heap[D]? = some (.deferred (some [])) := hO5 D _ hK (fun e => by cases e; omega) (fun c fz e => by cases e)
  refine ⟨by simp, .inl ⟨_, _, rfl, run_takeDeferred hD5, ?_⟩⟩
  refine ⟨_, results_tmp rfl _ _ _, ?_, hB5.grown (grownBy_putObj' _ _ _) hB5.size (fun k e => by cases e; omega)⟩
  rw [HLE.out]
  simp
end
section
open Go Go.RowKit
theorem mid12 : midV [3, 5] 0 = 4 := by
 unfold midV
 rw [if_pos (by kernel_rfl)]
 unfold midN
 rw [show srt [3, 5] = [3, 5] from (srt_eq (List.Perm.refl _) (by simp)).symm]
 rfl
theorem words1 : wordsF ⟨#[109, 105, 100, 112, 111, 105, 110, 116, 32, 48, 32, 51, 32, 53]⟩ = [⟨#[109, 105, 100, 112, 111, 105, 110, 116]⟩, ⟨#[48]⟩, ⟨#[51]⟩, ⟨#[53]⟩] := by kernel_rfl
theorem cmd1 : cmdF ⟨#[109, 105, 100, 112, 111, 105, 110, 116]⟩ = some aMid := by kernel_rfl
theorem nums12 : numbersF [⟨#[48]⟩, ⟨#[51]⟩, ⟨#[53]⟩] (-1) = some [0, 3, 5] := by kernel_rfl
theorem line1 : lineF dk0 ⟨#[109, 105, 100, 112, 111, 105, 110, 116, 32, 48, 32, 51, 32, 53]⟩ = (⟨#[52]⟩, dk0) := by
 unfold lineF
 rw [words1]
 dsimp only
 rw [cmd1]
 dsimp only
 unfold aMid withN
 rw [nums12]
 show (ansB (orE (midE [3, 5] 0) (itoB (midV [3, 5] 0)) dk0).o, (orE (midE [3, 5] 0) (itoB (midV [3, 5] 0)) dk0).d) = _
 rw [mid12, show midE [3, 5] 0 = 0 by kernel_rfl, show itoB 4 = ⟨#[52]⟩ by kernel_rfl]
 rfl
theorem line2 : lineF dk0 ⟨#[120]⟩ = (⟨#[101, 114, 114, 111, 114, 32, 51]⟩, dk0) := by kernel_rfl
theorem lines12 : linesF [109, 105, 100, 112, 111, 105, 110, 116, 32, 48, 32, 51, 32, 53, 10, 120, 10] = [⟨#[109, 105, 100, 112, 111, 105, 110, 116, 32, 48, 32, 51, 32, 53]⟩, ⟨#[120]⟩] := by kernel_rfl
theorem sess12 : sessF [109, 105, 100, 112, 111, 105, 110, 116, 32, 48, 32, 51, 32, 53, 10, 120, 10] = [52, 10, 101, 114, 114, 111, 114, 32, 51, 10] := by
 unfold sessF
 rw [if_neg (by decide), lines12]
 unfold runF
 rw [runG, line1, runG, line2]
 rfl
/-- What comes of the first text is the beginning of what comes of both. -/
theorem sess_pre (a b : List UInt8) (h : (a ++ 10 :: b).length ≤ 20000) : ∃ r, sessF (a ++ 10 :: b) = sessF (a ++ [10]) ++ r := by
 obtain ⟨r, hr⟩ := lines_pre lineF dk0 a b
 have h2 : (a ++ [10]).length ≤ 20000 := by simp at h ⊢; omega
 unfold sessF
 rw [if_neg (by omega), if_neg (by omega)]
 exact ⟨r, hr⟩
end
section
open Go Go.RowKit
attribute [local irreducible] sessF
set_option maxRecDepth 100000 in
set_option maxHeartbeats 4000000 in
theorem pieces_any (a b : ByteArray) (w : World) (hstd : StdOk w) (hsa : a.size ≤ 140737488355328) (hsb : b.size ≤ 140737488355328) :
 Calls Tryz.prog 3 #[.string a, .string b] w fun e w' => e = .returned (.bool true) ∧ Below w.heap.size w w' := by
 have HS := hide hstd
 have hw : wrap64 ((a.size : Int) + b.size) = (a.size : Int) + b.size := by unfold wrap64; omega
 by_cases hbig : 2500 < a.size + b.size
 ·have d1 : decide ((2500 : Int) < (a.size : Int) + b.size) = true := decide_eq_true (by omega)
  have d2 : (2500 : Int) < (a.size : Int) + b.size := by omega
  clear hstd hsa hsb hbig
  go_enter Tryz.func3, Tryz.ntmps3
  go_wp2_with fail
  go_ret
  exact ⟨rfl, .refl _ _⟩
 have d1 : decide ((2500 : Int) < (a.size : Int) + b.size) = false := decide_eq_false (by omega)
 have d2 : ¬ ((2500 : Int) < (a.size : Int) + b.size) := by omega
 have HC1 := hide (session_any ⟨#[109, 105, 100, 112, 111, 105, 110, 116, 32, 48, 32, 51, 32, 53, 10, 120, 10]⟩ (by decide) w hstd)
 simp only [sess12] at HC1
 have HC2 := hide (fun W (h : Below w.heap.size w W) => session_any (a ++ ⟨#[10]⟩) (by rw [ByteArray.size_append]; show _ + 1 ≤ _; omega) W (HS.out.below HS.out.big h))
 have HC3 := hide (fun W (h : Below w.heap.size w W) => session_any (a ++ ⟨#[10]⟩ ++ b) (by rw [ByteArray.size_append, ByteArray.size_append]; show _ + 1 + _ ≤ _; omega) W (HS.out.below HS.out.big h))
 obtain ⟨r, hr⟩ := sess_pre a.data.toList b.data.toList (by simp; omega)
 have e1 : (a ++ ⟨#[10]⟩ : ByteArray).data.toList = a.data.toList ++ [10] := by simp
 have e2 : (a ++ ⟨#[10]⟩ ++ b : ByteArray).data.toList = a.data.toList ++ 10 :: b.data.toList := by simp
 rw [e1] at HC2
 rw [e2, hr] at HC3
 have q1 : ¬ 9223372036854775807 < a.size + 1 := by omega
 have q2 : ¬ 9223372036854775807 < a.size + 1 + b.size := by omega
 generalize sessF (a.data.toList ++ [10]) = x at *
 clear hstd hsa hsb hbig hr e1 e2
 go_enter Tryz.func3, Tryz.ntmps3
 go_wp2_with fail
 refine HC1.out.mono ?_
 rintro e w1 ⟨rfl, hB1⟩
 have HB1 := hide hB1
 clear hB1
 go_wp2_with fail
 refine (HC2.out _ HB1.out).mono ?_
 rintro e w2 ⟨rfl, hB2⟩
 have HB2 := hide (HB1.out.trans (hB2.mono HB1.out.size))
 clear hB2
 go_wp2_with fail
 refine (HC3.out _ HB2.out).mono ?_
 rintro e w3 ⟨rfl, hB3⟩
 have HB3 := hide (HB2.out.trans (hB3.mono HB2.out.size))
 clear hB3
 go_wp2_with fail
 have hx : (((⟨(x ++ r).toArray⟩ : ByteArray).extract 0 x.length).toList == x) = true := by
  rw [beq_iff_eq, ByteArray.toList_eq]
  simp
 rw [hx]
 go_ret
 exact ⟨rfl, HB3.out⟩
end
section
open Go.ChangeShapes Go.WideShapes Go.RowKit
theorem d_et : Tryz.prog.globalNamed "errors.errorType" = some 4 := by kernel_rfl
theorem d_rt : (Tryz.prog.cutTypes.find? (·.1 == "internal/reflectlite.rtype")).map (·.2) = some 277 := by kernel_rfl
theorem d_size : Tryz.prog.types.size = 352 := by kernel_rfl
theorem d_oneRow : ((List.range 352).filter fun t => Tryz.prog.rowNamed t [101, 114, 114, 111, 114]) = [48] := by kernel_rfl
theorem d_hdl : typeHandle Tryz.prog 48 = hdl 48 := by kernel_rfl
theorem errT_of_handle {l : List (String × DataW Unit)} {W : World} (h : handlesMet Tryz.prog l W) (hm : ("errors.errorType", Rows.laid_errors_errorType) ∈ l) : ErrT W := by
 obtain ⟨name, u, ty, e1, e2, e3, e4, e5⟩ := h _ hm
 have en : name = [101, 114, 114, 111, 114] := (Option.some.inj e1).symm
 subst en
 obtain rfl := Option.some.inj (d_rt.symm.trans e2)
 have hm : ty ∈ (List.range 352).filter fun t => Tryz.prog.rowNamed t [101, 114, 114, 111, 114] := List.mem_filter.2 ⟨List.mem_range.2 (by rw [← d_size]; exact e3), e4⟩
 rw [d_oneRow] at hm
 obtain rfl := List.mem_singleton.1 hm
 rw [d_hdl] at e5
 simpa using World.var?_cell d_et e5 0
end
section
open Go.ChangeShapes Go.WideShapes Go.RowKit
theorem iface_cell {H : Type} {enc : TypeId × Value → H} {P : Program} {w : World} {base : Nat} {sp : Nat → Bool} {fuel : Nat} {t : TypeId} {ms : Array (String × TypeId)} {cs : List Value} {nm : String} {d : DataW H} {p : List MemPlace}
 (ht : P.underlying t = some (.interface ms)) (h : DataW.trod enc P w base sp false fuel t cs = some (.iface nm d, p)) : ∃ u v, cs = [.iface u v] := by
 cases fuel with
 | zero => simp [DataW.trod] at h
 | succ n =>
  match cs, h with
  | [], h => simp [DataW.trod, ht] at h
  | [v], h => cases v <;> simp [DataW.trod, ht] at h <;> exact ⟨_, _, rfl⟩
  | _ :: _ :: _, h => simp [DataW.trod, ht] at h
theorem dg_syn : Tryz.prog.globalNamed "strconv.ErrSyntax" = some 5 := by kernel_rfl
theorem dg_ran : Tryz.prog.globalNamed "strconv.ErrRange" = some 6 := by kernel_rfl
theorem dg_six : Tryz.prog.globalNamed "math/bits.deBruijn64tab" = some 9 := by kernel_rfl
theorem dt_pow : (Tryz.prog.globals[7]?).map (·.type) = some 249 := by kernel_rfl
theorem du_pow : Tryz.prog.underlying 249 = some (.array 20 185) := by kernel_rfl
theorem du_u64 : Tryz.prog.underlying 185 = some (.int .u64) := by kernel_rfl
theorem dc_pow : Tryz.prog.cellsOf 249 = 20 := by kernel_rfl
theorem dc_u64 : Tryz.prog.cellsOf 185 = 1 := by kernel_rfl
theorem dg_pow : Tryz.prog.globalNamed "internal/strconv.uint64pow10" = some 7 := by kernel_rfl
theorem d_tab : (Rows.laid_internal_strconv_uint64pow10 : DataW Unit) = Lib.tabData .u64 Lib.pow10Tab := by kernel_rfl
theorem dt_syn : (Tryz.prog.globals[5]?).map (·.type) = some 48 := by kernel_rfl
theorem dt_ran : (Tryz.prog.globals[6]?).map (·.type) = some 48 := by kernel_rfl
/-- The list without the handle and without what a desk does not read. -/
theorem std_of_parts {W : World} (hE : ErrT W) {c1 c2 c3 c4 : Array Value} (h1 : W.var? Tryz.prog "math/bits.deBruijn64tab" = some c1) (h2 : W.var? Tryz.prog "internal/strconv.uint64pow10" = some c2) (h3 : W.var? Tryz.prog "strconv.ErrRange" = some c3) (h4 : W.var? Tryz.prog "strconv.ErrSyntax" = some c4)
 (e2 : c2 = (Lib.pow10Tab.map fun z => Value.int .u64 z).toArray) (e3 : ∃ u v, c3.toList = [.iface u v]) (e4 : ∃ u v, c4.toList = [.iface u v]) : StdOk W := by
 refine ⟨hE, by unfold Lib.TabIs; rw [← e2]; exact h2, ?_, ?_, ?_⟩
 ·obtain ⟨u, v, e⟩ := e4
  have := World.var?_cell dg_syn h4 0
  rw [Array.eq_one_of_toList e] at this
  exact ⟨_, by simpa using this, .inr ⟨u, v, rfl⟩⟩
 ·obtain ⟨u, v, e⟩ := e3
  have := World.var?_cell dg_ran h3 0
  rw [Array.eq_one_of_toList e] at this
  exact ⟨_, by simpa using this, .inr ⟨u, v, rfl⟩⟩
 ·simp only [World.var?, dg_six, Option.bind_some] at h1
  split at h1
  ·rename_i cs ty fz h
   have := (Array.getElem?_eq_some_iff.1 h).1
   omega
  ·cases h1
set_option maxRecDepth 100000 in
theorem std_of_laid {W : World} (h : laidMetH Tryz.prog Rows.deskPiecesRow.laid W) : StdOk W := by
 have h' : laidMet Tryz.prog [("math/bits.deBruijn32tab", Rows.laid_math_bits_deBruijn32tab), ("math/bits.deBruijn64tab", Rows.laid_math_bits_deBruijn64tab), ("internal/strconv.uint64pow10", Rows.laid_internal_strconv_uint64pow10), ("unicode/utf8.acceptRanges", Rows.laid_unicode_utf8_acceptRanges), ("strconv.ErrRange", Rows.laid_strconv_ErrRange), ("strconv.ErrSyntax", Rows.laid_strconv_ErrSyntax), ("unicode/utf8.first", Rows.laid_unicode_utf8_first)] W ∧
  handlesMet Tryz.prog [("errors.errorType", Rows.laid_errors_errorType)] W := h
 clear h
 obtain ⟨⟨ps, ⟨_, _, _, _, _, _, _, _, _, _, ⟨_, _, c1, _, _, _, _, _, v1, _, ⟨_, t2, c2, _, _, _, g2, ht2, v2, d2, ⟨_, _, _, _, _, _, _, _, _, _, ⟨_, t3, c3, _, _, _, g3, ht3, v3, d3, ⟨_, t4, c4, _, _, _, g4, ht4, v4, d4, _, _⟩, _⟩, _⟩, _⟩, _⟩, _⟩, _⟩, hh⟩ := h'
 obtain rfl := Option.some.inj (dg_pow.symm.trans g2)
 obtain rfl := Option.some.inj (dt_pow.symm.trans ht2)
 obtain rfl := Option.some.inj (dg_ran.symm.trans g3)
 obtain rfl := Option.some.inj (dt_ran.symm.trans ht3)
 obtain rfl := Option.some.inj (dg_syn.symm.trans g4)
 obtain rfl := Option.some.inj (dt_syn.symm.trans ht4)
 rw [d_tab] at d2
 have e2 := Lib.cells_of_tab du_pow du_u64 dc_u64 dc_pow d2
 exact std_of_parts (errT_of_handle hh (List.mem_singleton.2 rfl)) v1 v2 v3 v4 (by rw [← e2]) (iface_cell Tryz.underlying48 d3) (iface_cell Tryz.underlying48 d4)
end
section
open Go.ChangeShapes Go.WideShapes Go.RowKit
noncomputable def laidWorldD (os : Os) : World :=
 let w := World.laidAll Tryz.prog os [("math/bits.deBruijn32tab", Rows.laid_math_bits_deBruijn32tab), ("math/bits.deBruijn64tab", Rows.laid_math_bits_deBruijn64tab), ("internal/strconv.uint64pow10", Rows.laid_internal_strconv_uint64pow10), ("unicode/utf8.acceptRanges", Rows.laid_unicode_utf8_acceptRanges), ("strconv.ErrRange", Rows.laid_strconv_ErrRange), ("strconv.ErrSyntax", Rows.laid_strconv_ErrSyntax), ("unicode/utf8.first", Rows.laid_unicode_utf8_first)]
 { w with heap := w.heap.modify 4 fun
  | .cells _ t frozen => .cells #[.iface 277 (.agg #[hdl 48])] t frozen
  | o => o }
set_option maxRecDepth 100000 in
theorem laidWorldD_met (os : Os) (args : Array Value) : laidMetH Tryz.prog Rows.deskPiecesRow.laid ((laidWorldD os).forCall (fun _ _ => 0) ⟨#[], args, []⟩).memory :=
 laidMetH_of_parts (laidMet_of_run' 8 (by kernel_rfl) (by kernel_rfl)) (by kernel_rfl)
set_option maxRecDepth 100000 in
theorem laidWorldD_shaped (os : Os) (args : Array Value) : ((laidWorldD os).forCall (fun _ _ => 0) ⟨#[], args, []⟩).Shaped Tryz.prog :=
 World.shaped_of_ZipB (by kernel_rfl) (by kernel_rfl)
end
end Go.Proofs.YtideefjnlakciaaGreatDoor
