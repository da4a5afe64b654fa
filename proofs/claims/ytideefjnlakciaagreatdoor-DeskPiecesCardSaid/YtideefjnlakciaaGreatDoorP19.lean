/- What a command's error may be, in plain Lean; no condition. -/
import Derived.Test.YtideefjnlakciaaGreatDoorP16
import Derived.Test.YtideefjnlakciaaGreatDoorP18
import Derived.Test.YtideefjnlakciaaGreatDoorP01
import Derived.Test.YtideefjnlakciaaGreatDoorP15
import Derived.Test.YtideefjnlakciaaGreatDoorP17
import Derived.Test.YtideefjnlakciaaGreatDoorP02
import Derived.Test.YtideefjnlakciaaGreatDoorP13
import Derived.Defers
import Derived.Recover
import Derived.Lib.OthersKept
import Derived.RangeFuncKeeps
import Derived.RangeFuncLeaves
import Derived.Shelf.Abstract
import Derived.OwnWalkIn
import Derived.TacticsInMore
import Derived.LoopNIn
import Derived.LoopIn
import Derived.Shelf.Strings.BuilderK
import Derived.RangeFuncCalls
import Derived.WalkKit
import Derived.Test.YtideefjnlakciaaGreatDoorCards
import Derived.Test.YtideefjnlakciaaGreatDoorTie
import Derived.SevenTiedAt
import Derived.ChangeVars
import Derived.JoinedOf
import Derived.RowKit
import Derived.RowKitTokens
import Derived.LaidLaws
import Derived.LaidHandle
import Derived.Stop.Joined
set_option linter.unusedVariables false
set_option linter.unusedSimpArgs false
namespace Go.Proofs.YtideefjnlakciaaGreatDoor
section
open Go Go.RowKit
def ErB (e : Int) : Prop := 0 ≤ e ∧ e ≤ 100
theorem erB_if {c : Prop} [Decidable c] {a b : Int} (ha : ErB a) (hb : ErB b) : ErB (if c then a else b) := by split <;> assumption
theorem er0 : ErB 0 := by unfold ErB; omega
theorem er1 : ErB 1 := by unfold ErB; omega
theorem er2 : ErB 2 := by unfold ErB; omega
theorem er4 : ErB 4 := by unfold ErB; omega
theorem er6 : ErB 6 := by unfold ErB; omega
theorem er7 : ErB 7 := by unfold ErB; omega
theorem er10 : ErB 10 := by unfold ErB; omega
theorem er12 : ErB 12 := by unfold ErB; omega
theorem er13 : ErB 13 := by unfold ErB; omega
theorem firstE_bd : ∀ {l : List Int} {k : Nat}, (∀ x ∈ l, ErB x) → ErB (firstE l k).1
 | [], _, _ => er0
 | x :: l, k, h => by
  unfold firstE
  split
  ·exact firstE_bd (fun y hy => h y (by simp [hy]))
  ·exact h x (by simp)
theorem spE_bd (f t lo hi : Int) : ErB (spE f t lo hi) := erB_if er1 (erB_if er10 (erB_if er2 er0))
theorem slEs_bd (sk rd nd : Int) : ∀ (l : List Sl) (lo : Int), ∀ x ∈ slEs sk rd nd lo l, ErB x
 | [], _, x, h => by simp [slEs] at h
 | s :: l, lo, x, h => by
  unfold slEs at h
  rcases List.mem_cons.1 h with rfl | h
  ·exact erB_if (spE_bd _ _ _ _) (erB_if er7 er0)
  ·exact slEs_bd sk rd nd l _ x h
theorem wnEs_bd (fr : Int) : ∀ (l : List Wn) (lo : Int), ∀ x ∈ wnEs fr lo l, ErB x
 | [], _, x, h => by simp [wnEs] at h
 | s :: l, lo, x, h => by
  unfold wnEs at h
  rcases List.mem_cons.1 h with rfl | h
  ·exact erB_if (spE_bd _ _ _ _) (erB_if er7 er0)
  ·exact wnEs_bd fr l _ x h
theorem chk_bd (p : Pl) : ErB (chk p).1 := by
 have hh : ErB (headE p) := erB_if er1 (erB_if er2 (erB_if er4 (erB_if er13 er0)))
 have h1 := firstE_bd (k := 0) (slEs_bd p.sk p.rd p.nd p.sl 0)
 have h2 : ErB (firstE (p.lk.map (lkE p.nd)) 0).1 := firstE_bd (fun x hx => by
  obtain ⟨l, _, rfl⟩ := List.mem_map.1 hx
  exact erB_if er7 (erB_if er1 (erB_if er2 er0)))
 have h3 := firstE_bd (k := 0) (wnEs_bd p.fr p.wn 0)
 unfold chk
 split
 ·exact hh
 ·split
  ·exact h1
  ·split
   ·exact h2
   ·split
    ·exact h3
    ·exact er0
theorem newE_bd (p : Pl) (f0 : Int) (zs : List Int) : ErB (newE p f0 zs) := by
 by_cases h : chk p = (0, -1)
 ·rcases newE_is (f0 := f0) (zs := zs) h with ⟨_, e⟩ | ⟨_, _, e⟩ | ⟨_, _, _, e⟩ | ⟨_, _, _, e⟩ <;> rw [e]
  ·exact er1
  ·exact er7
  ·exact er2
  ·exact er0
 ·rw [(newE_chk h).1]
  exact chk_bd p
theorem midE_bd (l : List Int) (f : Int) : ErB (midE l f) := erB_if er1 (erB_if er2 er0)
theorem localE_bd (f s n d t : Int) : ErB (localE f s n d t) := erB_if er1 (erB_if er2 (erB_if er2 er0))
theorem realE_bd (f s n d t : Int) : ErB (realE f s n d t) := erB_if er1 (erB_if er2 (erB_if er0 (erB_if er2 er0)))
theorem playE_bd (p : Pl) (fy : Nat) (r : Rn) (c : Cl) : ErB (playE p fy r c) := erB_if er6 er0
theorem putE_bd (n q : Nat) (u : Int) : ErB (putE n q u) := erB_if er4 (erB_if er12 er0)
def AnB (x : Ans) : Prop := ∀ e, x.o = .error e → ErB e
section
variable {d : Dk} {w : List ByteArray}
theorem anB_ok {o : ByteArray} {d' : Dk} : AnB ⟨.ok o, d'⟩ := fun e h => by cases h
theorem anB_er {e : Int} {d' : Dk} (h : ErB e) : AnB ⟨.error e, d'⟩ := fun e' h' => by cases h'; exact h
theorem anB_if {c : Prop} [Decidable c] {a b : Ans} (ha : AnB a) (hb : AnB b) : AnB (if c then a else b) := by split <;> assumption
theorem anB_or {e : Int} {o : ByteArray} {d' : Dk} (h : ErB e) : AnB (orE e o d') := by
 unfold orE
 intro e' h'
 dsimp only at h'
 split at h'
 ·cases h'
 ·cases h'; exact h
theorem er3 : ErB 3 := by unfold ErB; omega
theorem er8 : ErB 8 := by unfold ErB; omega
theorem anB_with {n : Int} {f : List Int → Ans} (h : ∀ l, AnB (f l)) : AnB (withN d w n f) := by
 unfold withN
 split
 ·exact anB_er er3
 ·exact h _
theorem anB_no {x : Ans} (h : AnB x) : AnB (noC d x) := by
 unfold noC
 split
 ·exact h
 ·exact anB_er er6
theorem anB_has {x : Nat → Cl → Ans} (h : ∀ fy c, AnB (x fy c)) : AnB (hasC d x) := by
 unfold hasC
 split
 ·exact anB_er er6
 ·exact h _ _
theorem cmd_err {s : ByteArray} {f : Dk → List ByteArray → Ans} (hf : cmdF s = some f) : AnB (f d w) := by
 obtain ⟨x, hx, -, rfl⟩ := lookS_mem hf
 unfold cmdL at hx
 simp only [List.mem_cons, List.not_mem_nil, or_false] at hx
 rcases hx with rfl | rfl | rfl | rfl | rfl | rfl | rfl | rfl | rfl | rfl | rfl | rfl | rfl | rfl | rfl | rfl | rfl | rfl | rfl | rfl
 ·exact anB_with fun _ => anB_or (chk_bd _)
 ·exact anB_with fun _ => anB_ok
 ·exact anB_with fun _ => anB_has fun _ _ => anB_ok
 ·exact anB_with fun _ => anB_has fun _ _ => anB_ok
 ·exact anB_with fun _ => anB_ok
 ·exact anB_with fun _ => anB_no (anB_if (anB_er er4) anB_ok)
 ·exact anB_with fun _ => anB_or (localE_bd _ _ _ _ _)
 ·exact anB_with fun _ => anB_has fun _ _ => anB_ok
 ·exact anB_with fun _ => anB_has fun _ _ => anB_if (anB_er er2) anB_ok
 ·exact anB_with fun _ => anB_or (midE_bd _ _)
 ·exact anB_with fun _ => anB_has fun _ _ => anB_ok
 ·exact anB_with fun _ => anB_no anB_ok
 ·refine anB_if (anB_er er3) (anB_with fun _ => anB_has fun _ _ => anB_if (anB_er er2) ?_)
  split
  ·exact anB_er er2
  ·exact anB_or (putE_bd _ _ _)
 ·exact anB_with fun _ => anB_has fun _ _ => anB_ok
 ·exact anB_with fun _ => anB_or (realE_bd _ _ _ _ _)
 ·refine anB_with fun _ => anB_has fun _ _ => anB_if (anB_er er2) ?_
  split
  ·exact anB_er er2
  ·refine anB_if (anB_er er2) ?_
   split
   ·exact anB_er er8
   ·exact anB_ok
 ·exact anB_with fun _ => anB_has fun _ _ => anB_if anB_ok (anB_er (playE_bd _ _ _ _))
 ·exact anB_with fun _ => anB_no (anB_if (anB_er er4) anB_ok)
 ·exact anB_with fun _ => anB_has fun _ _ => anB_ok
 ·exact anB_with fun _ => anB_no (anB_if anB_ok (anB_er (newE_bd _ _ _)))
end
end
section
open Go Go.RowKit
section
variable {w0 w : World} {g k : Nat} {d : Dk} {L : Ly}
theorem DkTo.far {w3 w4 : World} {po : Nat} {d' : Dk} (hD : DkL w0 w3 g d L) (hw : w0.heap.size ≤ w.heap.size) (hB : Below w.heap.size w w3) (hpo : w.heap.size ≤ po) (hpo3 : po < w3.heap.size) (hn : ¬ DFoot g L po) (ht : DkTo w0 w3 g L w4 d') (v : Value) : DkTo w0 w g L (w4.setCell ⟨po, 0, none⟩ v) d' ∧ w4.heap[po]? = w3.heap[po]? := by
 obtain ⟨L', h1, h2⟩ := ht
 have hn' : ¬ DFoot g L' po := fun hf => (h2.fam po hf).elim hn (fun e => by omega)
 have hk0 : KeptD w w4 g L L' := (KeptD.of_below hB).trans h2
 have hs : ∀ i, i ≠ po → (w4.setCell ⟨po, 0, none⟩ v).heap[i]? = w4.heap[i]? := fun i hi => Below.heap_setCell w4 _ v i hi
 have hk : KeptD w (w4.setCell ⟨po, 0, none⟩ v) g L L' := ⟨hk0.os, hk0.tape, hk0.output, by simpa [World.setCell] using hk0.size, fun i hi hf => (hs i (by omega)).trans (hk0.block i hi hf), hk0.fam⟩
 have hsz : (w4.setCell ⟨po, 0, none⟩ v).heap.size = w4.heap.size := by simp [World.setCell]
 have hlow : Below w0.heap.size w0 (w4.setCell ⟨po, 0, none⟩ v) := ⟨h1.low.os, h1.low.tape, h1.low.output, by rw [hsz]; exact h1.low.size, fun i hi => (hs i (fun e => by omega)).trans (h1.low.block i hi)⟩
 exact ⟨⟨L', h1.same (by rw [hsz]; exact Nat.le_refl _) hlow (fun i _ hf => hs i (fun e => hn' (by rw [← e]; exact hf))), hk⟩, h2.block po hpo3 hn⟩
set_option maxRecDepth 100000 in
set_option maxHeartbeats 4000000 in
theorem line_any (hstd : StdOk w0) (hD : DkL w0 w g d L) (ho : DkOk k d) (hk : k ≤ 6000) (s : ByteArray) (hs : s.size ≤ 40000) :
 Calls Tryz.prog 11 #[.pointer (some ⟨g, 0, none⟩), .string s] w fun e w' => e = .returned (.string (lineF d s).1) ∧ DkTo w0 w g L w' (lineF d s).2 := by
 obtain ⟨w1, hw1⟩ : ∃ w1, w.alloc (.cells #[.string ⟨#[]⟩] 9) = w1 := ⟨_, rfl⟩
 have hB1 : Below w.heap.size w w1 := by rw [← hw1]; exact (Below.refl _ _).alloc (Nat.le_refl _) _
 have hK1 : Blk w1 w.heap.size 9 #[.string ⟨#[]⟩] := by rw [← hw1]; exact Blk.new w _ _
 have HW1 := hide hw1; have HB1 := hide hB1; have HK1 := hide hK1; have HD := hide hD; have HO := hide ho; have HS := hide hstd; have HK := hide hk
 have HWD := hide (words_any s w1 (by omega))
 have HWL := hide (words_len s)
 have HWZ := hide (words_size s)
 have HWF : Hid (wordsF s = wordsD s) := hide rfl
 generalize wordsD s = ws at HWD HWL HWZ HWF
 have hmf : ∀ (fn : Fn) (first cap : Array Value) (w : World), (Instr.makeFunc fn first cap).run Tryz.prog w = .ok (.func fn first cap) w := fun _ _ _ _ => rfl
 clear hw1 hB1 hK1 hD ho hstd hk
 go_enter_defers Tryz.func11, Tryz.ntmps11
 go_wp2_with fail
 rw [HW1.out]
 refine HWD.out.mono ?_
 rintro r w2 ⟨AW, rfl, hAW, hown, hB2⟩
 have HB2 := hide (HB1.out.trans (hB2.mono HB1.out.size))
 have HK2 := hide (HK1.out.below hB2 HK1.out.lt)
 have HOW := hide hown
 have k0 := HK2.out.cells1
 clear hB2 hown HWD
 cases ws with
 | nil =>
  have HX : Hid (lineF d s = (⟨#[111, 107]⟩, d)) := hide (by unfold lineF; rw [HWF.out])
  have hk3 := HK2.out.set_ 0 (.string ⟨#[111, 107]⟩)
  have k1 := hk3.cell 0
  simp at k1
  have HEND : Hid (DkTo w0 w g L (w2.setCell ⟨w.heap.size, 0, none⟩ (.string ⟨#[111, 107]⟩)) d) := hide (HD.out.to (HB2.out.setCell (Nat.le_refl _) _))
  clear hk3
  go_wp2_with fail
  refine leaves_cons (f := 20) (args := #[.pointer (some ⟨w.heap.size, 0, none⟩)]) (by simp) (by simp [go_sem]) ?_
  refine (catch_idle ⟨w.heap.size, 0, none⟩ _).mono ?_
  rintro e u' w'' ⟨rfl, rfl, rfl⟩
  refine ⟨.string ⟨#[111, 107]⟩, by simp [results, Tryz.results11, go_sem, k1], ?_⟩
  rw [HX.out]
  exact ⟨rfl, HEND.out⟩
 | cons x ws =>
  have HWF2 := HWF
  have hc0 : w2.cell? ⟨AW, 0, none⟩ = some (.string x) := by
   have := own_cellJ HOW.out (i := 0) (by simp)
   exact this
  have HDO := hide (does_any g x w2)
  obtain ⟨n, hn⟩ : ∃ n, ws.length = n := ⟨_, rfl⟩
  have hlen : (x :: ws).length = n + 1 := by simp [hn]
  rw [hlen] at HOW ⊢
  have b1 : (1 : Int) ≤ ((n + 1 : Nat) : Int) := by omega
  have b3 : (1 : Int) ≤ (n : Int) + 1 := by omega
  have b5 : 1 ≤ n + 1 := by omega
  have d1 : (((n + 1 : Nat) : Int) == 0) = false := beq_eq_false_iff_ne.2 (by omega)
  have d2 : ((n : Int) + 1 == 0) = false := beq_eq_false_iff_ne.2 (by omega)
  have d3 : ¬ ((n : Int) + 1 = 0) := by omega
  have hlw := HD.out.low.size
  have bn : ∀ W : World, (binOp .eql 75 .nilFunc .nilFunc).run Tryz.prog W = .ok (.bool true) W := fun W => by kernel_rfl
  have bf : ∀ (W : World) (fn : Nat) (v : Value), (binOp .eql 75 (.func (.func fn) #[v] #[]) .nilFunc).run Tryz.prog W = .ok (.bool false) W := fun W fn v => by kernel_rfl
  go_wp2_with fail
  refine HDO.out.mono ?_
  rintro r w3 ⟨rfl, hB3⟩
  have HB3 := hide (HB2.out.trans (hB3.mono HB2.out.size))
  have HK3 := hide (HK2.out.below hB3 HK2.out.lt)
  have HD3 := hide (HD.out.below HB3.out)
  have HS3 := hide (HS.out.below HS.out.big HD3.out.low)
  have hO3 := own_keepB HOW.out hB3
  have hAWlt : AW < w3.heap.size := (hO3.lt AW rfl).2
  have hpo3 := HK3.out.lt
  have hnpo : ¬ DFoot g L w.heap.size := fun hf => by have := (HD.out.lo hf).2; omega
  have HNPO := hide hnpo
  have hAWn : ¬ DFoot g L AW := fun hf => by have := (HD.out.lo hf).2; have := HB1.out.size; omega
  have HCELL : Hid (∀ j y, ws[j]? = some y → w3.cell? ⟨AW, j + 1, none⟩ = some (.string y)) := hide (fun j y hy => by
   have hj := (List.getElem?_eq_some_iff.1 hy).1
   rw [own_cellJ hO3 (i := j + 1) (by omega), List.map_cons, List.getElem?_cons_succ, List.getElem?_map, hy]
   rfl)
  have k3 := HK3.out.cells1
  clear hB3 hO3 hc0 k0 HDO hnpo
  rcases does_of g x with ⟨h1, h2⟩ | ⟨f, h1, fn, h2, eg, hc⟩
  ·have HX : Hid (lineF d s = (errB 3, d)) := hide (by unfold lineF; rw [HWF.out]; dsimp only; rw [h1])
   have HMU := hide (must_errno 3 w3 HS3.out.err)
   rw [h2]
   clear h1 h2
   go_wp2_with fail
   refine HMU.out.mono ?_
   rintro r w4 ⟨rfl, hB4⟩
   have HB4 := hide (HB3.out.trans (hB4.mono HB3.out.size))
   have HK4 := hide (HK3.out.below hB4 HK3.out.lt)
   have HS4 := hide (HS3.out.next hB4)
   clear hB4
   go_wp2_with fail
   refine leaves_cons (f := 20) (args := #[.pointer (some ⟨w.heap.size, 0, none⟩)]) (by simp) (by simp [go_sem]) ?_
   refine (catch_wrong w.heap.size ⟨#[]⟩ 3 [] w4 HS4.out HK4.out (by omega) (by omega)).mono ?_
   rintro e u' w'' ⟨rfl, rfl, w5, hB5, rfl⟩
   have hk5 := (HK4.out.below hB5 HK4.out.lt).set_ 0 (.string (errB 3))
   have k1 := hk5.cell 0
   simp at k1
   refine ⟨.string (errB 3), by simp [results, Tryz.results11, go_sem, k1], ?_⟩
   rw [HX.out]
   exact ⟨rfl, HD.out.to ((HB4.out.trans (hB5.mono HB4.out.size)).setCell (Nat.le_refl _) _)⟩
  ·have HX : Hid (lineF d s = (ansB (f d ws).o, (f d ws).d)) := hide (by unfold lineF; rw [HWF.out]; dsimp only; rw [h1])
   have HER := hide (cmd_err (d := d) (w := ws) h1)
   rw [h2]
   have HCM : Hid (∀ AA, (∀ j y, ws[j]? = some y → ∃ b off, AA = some ⟨b, off, none⟩ ∧ w3.cell? ⟨b, off + j, none⟩ = some (.string y)) → (∀ z, AA = some z → z.block = AW) → Calls Tryz.prog fn #[.pointer (some ⟨g, 0, none⟩), .slice AA n n] w3 (DoP w0 w3 g L (f d ws))) := hide (fun AA hAA hAB => by
    have hl := HWL.out
    rw [hlen] at hl
    have := hc w0 w3 d L k AA ws n ⟨HS.out, HD3.out, HO.out, HK.out, by omega, fun j => by
     rw [List.getD_eq_getElem?_getD]
     cases hj : ws[j]? with
     | none => exact Nat.zero_le _
     | some y =>
      have := HWZ.out y (List.mem_cons_of_mem _ (List.mem_of_getElem? hj))
      show y.size ≤ 100000
      omega, fun j hj => by
     obtain ⟨b, off, e, hcell⟩ := hAA j ws[j] (List.getElem?_eq_getElem hj)
     exact ⟨b, off, e, by rw [hcell, List.getD_eq_getElem?_getD, List.getElem?_eq_getElem hj]; rfl⟩, fun z hz => by rw [hAB z hz]; exact hAWn⟩ (by omega)
    rw [hn] at this
    exact this)
   clear h1 h2 hc
   have HFAR : Hid (∀ (w4 : World) (d' : Dk) (v : Value), DkTo w0 w3 g L w4 d' → DkTo w0 w g L (w4.setCell ⟨w.heap.size, 0, none⟩ v) d' ∧ Blk w4 w.heap.size 9 #[.string ⟨#[]⟩] ∧ StdOk w4) := hide (fun w4 d' v ht => by
    obtain ⟨h1, h2⟩ := DkTo.far HD3.out hlw HB3.out (Nat.le_refl _) hpo3 HNPO.out ht v
    obtain ⟨L', h3, _⟩ := ht
    exact ⟨h1, h2.trans HK3.out, HS.out.below HS.out.big h3.low⟩)
   have HC2 : Hid (Calls Tryz.prog fn #[.pointer (some ⟨g, 0, none⟩), .slice (if n = 0 then some ⟨AW, 0, none⟩ else some ⟨AW, 1, none⟩) n n] w3 (DoP w0 w3 g L (f d ws))) := hide (HCM.out _ (fun j y hy => by
    have hj := (List.getElem?_eq_some_iff.1 hy).1
    rw [if_neg (by omega)]
    exact ⟨AW, 1, rfl, by rw [Nat.add_comm 1 j]; exact HCELL.out j y hy⟩) (fun z hz => by split at hz <;> cases hz <;> rfl))
   clear HCM HCELL
   obtain ⟨oo, hoo⟩ : ∃ oo, (f d ws).o = oo := ⟨_, rfl⟩
   rw [hoo] at HX
   have HOO := hide hoo
   clear hoo
   by_cases hn0 : n = 0
   all_goals
    simp only [hn0, if_true, if_false] at HC2
    go_wp2_with fail
    refine HC2.out.mono ?_
    intro r w4 hp
    obtain ⟨ha, ht⟩ := hp
    rw [HOO.out] at ha
    cases oo with
    | ok o =>
     obtain rfl : r = .returned (.string o) := ha
     obtain ⟨h1, h2, -⟩ := HFAR.out w4 (f d ws).d (.string o) ht
     have HEND := hide h1
     have k4 := h2.cells1
     have hk5 := h2.set_ 0 (.string o)
     have k1 := hk5.cell 0
     simp at k1
     clear ht h1 h2 hk5
     go_wp2_with fail
     refine leaves_cons (f := 20) (args := #[.pointer (some ⟨w.heap.size, 0, none⟩)]) (by simp) (by simp [go_sem]) ?_
     refine (catch_idle ⟨w.heap.size, 0, none⟩ _).mono ?_
     rintro e u' w'' ⟨rfl, rfl, rfl⟩
     refine ⟨.string o, by simp [results, Tryz.results11, go_sem, k1], ?_⟩
     rw [HX.out]
     exact ⟨rfl, HEND.out⟩
    | error en =>
     obtain rfl : r = .panicked (wrongP en) := ha
     have heb := HER.out en HOO.out
     obtain ⟨e0, e1⟩ := heb
     obtain ⟨-, h2, h3⟩ := HFAR.out w4 (f d ws).d (.string ⟨#[]⟩) ht
     have HK4 := hide h2; have HS4 := hide h3; have HT := hide ht
     clear ht h2 h3
     go_wp2_with fail
     refine leaves_cons (f := 20) (args := #[.pointer (some ⟨w.heap.size, 0, none⟩)]) (by simp) (by simp [go_sem]) ?_
     refine (catch_wrong w.heap.size ⟨#[]⟩ en [] w4 HS4.out HK4.out (by omega) (by omega)).mono ?_
     rintro e u' w'' ⟨rfl, rfl, w5, hB5, rfl⟩
     have hk5 := (HK4.out.below hB5 HK4.out.lt).set_ 0 (.string (errB en))
     have k1 := hk5.cell 0
     simp at k1
     refine ⟨.string (errB en), by simp [results, Tryz.results11, go_sem, k1], ?_⟩
     rw [HX.out]
     exact ⟨rfl, (HFAR.out w5 (f d ws).d (.string (errB en)) (HT.out.below hB5)).1⟩
end
end
section
open Go Go.RowKit
section
variable {w0 w w' : World} {base g b : Nat} {d : Dk} {L : Ly}
def NoE (e : TypeId) : Ob → Prop
 | .arr t _ _ => t ≠ e
 | .blk _ t _ => t ≠ e
 | _ => True
theorem obj_typed {o : Ob} (h : o.At w base) (ho : NoE 5 o) {i : Nat} (hi : i ∈ o.foot) : ∃ c t, w.heap[i]? = some (.cells c t (0, 0)) ∧ t ≠ 5 := by
 have que : ∀ {t : TypeId} {v : Value} {l : List Value}, QAt w base t v l → t ≠ 5 → v.ownBlock = some i → ∃ c t, w.heap[i]? = some (.cells c t (0, 0)) ∧ t ≠ 5 := by
  intro t v l hq ht e
  rcases hq with ⟨_, ao, rfl, h3⟩ | ⟨g, off, cap, cur, rfl, hg, hh, r⟩
  ·cases ao with
   | none => cases e
   | some x =>
    cases e
    obtain ⟨_, cur, hh⟩ := h3 x rfl
    exact ⟨cur, t, hh, ht⟩
  ·cases e
   exact ⟨cur, t, hh, ht⟩
 cases o with
 | none => simp [Ob.foot] at hi
 | mem => simp only [Ob.foot, List.mem_singleton] at hi; subst hi; exact ⟨_, _, h, by decide⟩
 | tak => simp only [Ob.foot, List.mem_singleton] at hi; subst hi; exact ⟨_, _, h, by decide⟩
 | snd =>
  simp only [Ob.foot, List.mem_cons, Option.mem_toList] at hi
  rcases hi with rfl | hi
  ·exact ⟨_, _, h.1, by decide⟩
  ·exact que h.2.1 (by decide) hi
 | prt =>
  simp only [Ob.foot, List.mem_cons, Option.mem_toList] at hi
  rcases hi with rfl | hi
  ·exact ⟨_, _, h.1, by decide⟩
  ·exact que h.2.1 (by decide) hi
 | arr => exact que h ho (by simpa [Ob.foot] using hi)
 | blk => simp only [Ob.foot, List.mem_singleton] at hi; subst hi; exact ⟨_, _, h, ho⟩
theorem shape_no (a : Ad) (n : Cn) (p : Pl) (P : Sv3) (fy : Nat) (c : Cl) (x : Ix) : NoE 5 (shape a n p P fy c x) := by
 cases x
 case mem i => dsimp only [shape]; split <;> trivial
 case snd k =>
  dsimp only [shape]
  split
  ·split <;> trivial
  ·trivial
 case tak k i => dsimp only [shape]; split <;> trivial
 case prt k i => dsimp only [shape]; split <;> trivial
 case loc j => trivial
 all_goals
  dsimp only [shape, NoE]
  decide
theorem DkL.typed (h : DkL w0 w g d L) {i : Nat} (hf : DFoot g L i) : ∃ c t, w.heap[i]? = some (.cells c t (0, 0)) ∧ t ≠ 5 := by
 rcases hf with rfl | ⟨j, hj, e⟩ | ⟨x, hx⟩
 ·exact ⟨_, _, h.blk, by decide⟩
 ·obtain ⟨_, ⟨hv, _⟩ | ⟨b, cap, cur, hv, hb, hh, _⟩⟩ := h.own j hj
  ·rw [hv] at e; cases e
  ·rw [hv] at e
   cases e
   refine ⟨cur, _, hh, ?_⟩
   obtain rfl | rfl | rfl | rfl | rfl | rfl : j = 0 ∨ j = 1 ∨ j = 2 ∨ j = 3 ∨ j = 4 ∨ j = 5 := by omega
   all_goals decide
 ·obtain ⟨b0, h1, h2, hO⟩ := h.fam
  refine obj_typed (hO.at_ x) ?_ hx
  have hcl := h.clu
  unfold CluAt at hcl
  cases hd : d.c with
  | none => rw [hd] at hcl; rw [hcl.2]; trivial
  | some y =>
   rw [hd] at hcl
   obtain ⟨a, _, h4⟩ := hcl
   rw [h4]
   exact shape_no a _ _ _ _ _ x
theorem DkL.others (h : DkL w0 w g d L) (hk : Lib.OthersKept 5 (some b) w w') (hl : Below w0.heap.size w0 w') (hs : w.heap.size ≤ w'.heap.size) (hb : ¬ DFoot g L b) : DkL w0 w' g d L :=
 h.same hs hl (fun i _ hf => by
  obtain ⟨c, t, h1, h2⟩ := h.typed hf
  exact (hk i _ h1 (fun e => hb (by cases e; exact hf)) (fun c' fz e => h2 (by cases e; rfl))).trans h1.symm)
end
end
section
open Go Go.RowKit
section
variable {α : Type} {F : Fence} {n : Nat} {P : Program}
def BoxSeq (F : Fence) (n : Nat) (P : Program) (gf : Nat) (lb : Array Value) (encs : α → Array Value) (sb : Nat) (K : Nat → Prop) (xs : List α) (w : World) : Prop :=
 ∀ (l : Nat) (J : List α → World → Prop) (W : World), Below w.heap.size w W → (∀ s W v, J s W → J s (W.setCell ⟨sb, 0, none⟩ v)) →
  (∀ s x W1, J s W1 → (∃ r, xs = s ++ x :: r) → YieldAt F (n - 1) P l (encs x) W1 fun e W' => e = .returned (.bool true) ∧ J (s ++ [x]) W' ∧ ∀ i, K i → W'.heap[i]? = W1.heap[i]?) →
  J [] W → CallsIn F n P gf (#[.func (.yield l) #[] #[]] ++ lb) W fun e W' => (∃ v, e = .returned v) ∧ J xs W'
theorem wpIn_rangeBox {g : Operand} {ps : Array Tmp} {assign body : Code} {Q : Exit → Act → World → Prop} {a : Act} {w : World}
 (hro : F.round = none) (h1 : 1 ≤ n) {gf : Nat} {lb : Array Value} (hg : a.eval g = .func (.func gf) #[] lb) (hF : F.fn gf) (eg : ∀ args w, (callFunc gf args).run P w = .ok (.enter gf args) w)
 {encs : α → Array Value} (hps : ∀ x, (encs x).size = ps.size) {sb : Nat} (hsb : sb < w.heap.size) {K : Nat → Prop} (hKs : ∀ i, K i → i < w.heap.size) {xs : List α} (hseq : BoxSeq F (n - 1) P gf lb encs sb K xs w)
 (I : List α → World → Prop) (hIa : ∀ s W o, I s W → I s (W.alloc o)) (hIp : ∀ s W o, I s W → (∃ o' : Obj, W.heap[w.heap.size + 1]? = some o' ∧ o'.isCells = false) → I s (W.putObj (w.heap.size + 1) o)) (hIb : ∀ s W v, I s W → I s (W.setCell ⟨sb, 0, none⟩ v)) (h0 : I [] w) (a₁ : α → Act)
 (hassign : ∀ (l : Nat) (x : α) (W : World) (K : Act → World → Prop), K (a₁ x) W →
  assign.wpIn (F.inRound l) (n - 1 - 1) P (Exit.then K (fun _ _ _ => False)) { tmps := (ps.zip (encs x)).foldl (fun t (p, v) => t.setIfInBounds p v) a.tmps, defers := [] } W)
 (hbody : ∀ (l : Nat) (s : List α) (x : α) (W : World), I s W → (∃ r, xs = s ++ x :: r) → (∀ i, i = w.heap.size ∨ i = w.heap.size + 1 → ∃ o : Obj, W.heap[i]? = some o ∧ o.isCells = false) → body.wpIn (F.inRound l) (n - 1 - 1) P (fun e _ W' => e = .normal ∧ (∀ i, K i ∨ i = w.heap.size ∨ i = w.heap.size + 1 → W'.heap[i]? = W.heap[i]?) ∧ I (s ++ [x]) W') (a₁ x) W)
 (hdone : ∀ (D : Nat) (W : World), w.heap.size ≤ D → I xs W → W.heap[D]? = some (.deferred (some [])) → Q .normal { a with defers := { target := .collected D, args := #[] } :: a.defers } W) :
 (Code.rangeFunc g ps assign body).wpIn F n P Q a w := by
 refine wpIn_rangeFunc fun fn hfn => ?_
 rw [hro]
 let M : LoopState → Option Code → Loop := fun st pe => { state := st, pending := pe, fn, tmps := a.tmps, params := ps, assign, body, defers := w.heap.size }
 let W1 := (w.alloc (.deferred (some []))).alloc (.loop (M .ready none))
 have e1 : W1.heap[w.heap.size + 1]? = some (.loop (M .ready none)) := by
  have := World.alloc_heap_new (w.alloc (.deferred (some []))) (.loop (M .ready none))
  rwa [World.size_alloc] at this
 have e2 : W1.heap[w.heap.size]? = some (.deferred (some [])) := (Below.heap_alloc _ _ _ (by simp)).trans (World.alloc_heap_new w _)
 have hB : Below w.heap.size w W1 := ((Below.refl _ w).alloc (Nat.le_refl _) _).alloc (by simp) _
 refine ⟨w.heap.size + 1, [{ target := .collected w.heap.size, args := #[] }], W1, { target := .fn (.func gf) lb, args := #[.func (.yield (w.heap.size + 1)) #[] #[]] }, W1, gf,
  #[.func (.yield (w.heap.size + 1)) #[] #[]] ++ lb, W1, run_enterLoop_outer _ _ _ _ _, by simp only [resolve, hg]; simp [go_sem], fun f' hf' => by simp [Target.leads] at hf'; subst hf'; exact hF, by simp [invoke, go_sem, eg], fun _ => h1, ?_⟩
 have hset : ∀ (W : World) (v : Value) (i : Nat), i ≠ sb → (W.setCell ⟨sb, 0, none⟩ v).heap[i]? = W.heap[i]? := fun W v i hi => Below.heap_setCell W _ v i hi
 refine (hseq (w.heap.size + 1) (fun s W => I s W ∧ W.heap[w.heap.size + 1]? = some (.loop (M .ready none)) ∧ W.heap[w.heap.size]? = some (.deferred (some []))) W1 hB
  (fun s W v h => ⟨hIb s W v h.1, (hset W v _ (by omega)).trans h.2.1, (hset W v _ (by omega)).trans h.2.2⟩) ?_ ⟨hIa _ _ _ (hIa _ _ _ h0), e1, e2⟩).mono ?_
 ·rintro s x W ⟨hi, hl, hk⟩ hlen
  have hlt : w.heap.size + 1 < W.heap.size := (Array.getElem?_eq_some_iff.1 hl).1
  refine ⟨fn, _, assign, body, run_yield hl (hps x), roundIn_of_wpIn hfn (hassign _ x W _ ⟨_, run_beginRound hl rfl, ?_⟩)⟩
  have b1 : (W.putObj (w.heap.size + 1) (.loop (M .busy none))).heap[w.heap.size + 1]? = some (.loop (M .busy none)) := World.putObj_heap_same hlt
  have b2 : (W.putObj (w.heap.size + 1) (.loop (M .busy none))).heap[w.heap.size]? = some (.deferred (some [])) := (World.putObj_heap_other (by omega)).trans hk
  refine wpIn_mono (hbody _ s x _ (hIp _ _ _ hi ⟨_, hl, rfl⟩) hlen (fun i hi => by
   rcases hi with rfl | rfl
   ·exact ⟨_, b2, rfl⟩
   ·exact ⟨_, b1, rfl⟩)) ?_
  rintro e a3 W3 ⟨rfl, hs3, hi3⟩
  have b3 := (hs3 _ (.inr (.inr rfl))).trans b1
  have b4 := (hs3 _ (.inr (.inl rfl))).trans b2
  exact ⟨_, _, run_endRound none b3, rfl, ⟨hIp _ _ _ hi3 ⟨_, b3, rfl⟩, World.putObj_heap_same (Array.getElem?_eq_some_iff.1 b3).1, (World.putObj_heap_other (by omega)).trans b4⟩,
   fun i hi => ((World.putObj_heap_other (by have := hKs i hi; omega)).trans (hs3 i (.inl hi))).trans (World.putObj_heap_other (by have := hKs i hi; omega))⟩
 ·rintro e W2 ⟨⟨v, rfl⟩, hi, hl, hk⟩
  exact ⟨none, _, run_endLoop hl (by simp [M]), hdone _ _ (Nat.le_refl _) (hIp _ _ _ hi ⟨_, hl, rfl⟩) ((World.putObj_heap_other (by omega)).trans hk)⟩
end
end
section
open Go Go.RowKit Go.Shelf
attribute [local go_sem] Oper.semAt_some
def leftB (b : Nat) (w : World) : Nat := match w.cell? ⟨b, 0, none⟩ with
 | some (.string s) => s.size
 | _ => 0
theorem ext_list (r : ByteArray) (a b : Nat) (hb : b ≤ r.size) : (r.extract a b).data.toList = (r.data.toList.drop a).take (b - a) := by
 rw [ByteArray.data_extract, Array.toList_extract, List.extract_eq_take_drop]
theorem ext_pre (r : ByteArray) (m : Nat) (hm : m ≤ r.size) : (⟨(r.data.toList.take m).toArray⟩ : ByteArray) = r.extract 0 m := by
 apply ByteArray.ext
 apply Array.ext'
 rw [ext_list r 0 m hm]
 simp
theorem ext_suf (r : ByteArray) (m : Nat) : r.data.toList.drop m = (r.extract m r.size).data.toList := by
 rw [ext_list r m r.size (Nat.le_refl _)]
 rw [List.take_of_length_le]
 simp
def linesB (s : ByteArray) : List ByteArray := (nlF s.data.toList).map fun l => ⟨l.toArray⟩
set_option maxRecDepth 100000 in
set_option maxHeartbeats 4000000 in
theorem split_box (n : Nat) (hn : 1 ≤ n) (b : Nat) (s : ByteArray) (hs : s.size ≤ 1000000) (w : World) (h0 : Blk w b 9 #[.string s]) (h1 : Blk w (b + 1) 9 #[.string ⟨#[10]⟩]) (h2 : Blk w (b + 2) 3 #[.int .i64 0]) :
 BoxSeq Fence.wide n Tryz.prog 41 #[.pointer (some ⟨b + 1, 0, none⟩), .pointer (some ⟨b, 0, none⟩), .pointer (some ⟨b + 2, 0, none⟩)] (fun x : ByteArray => #[.string x]) b (fun i => i = b ∨ i = b + 1 ∨ i = b + 2) (linesB s) w := by
 intro l J W hB hJ hY hJ0
 have g0 := h0.below hB h0.lt
 have g1 := h1.below hB h1.lt
 have g2 := h2.below hB h2.lt
 clear h0 h1 h2 hB
 have c1 := g1.cells1
 refine callsIn_of_wp Tryz.func41 rfl trivial ?_ rfl
 simp only [Tryz.ntmps41, List.size_toArray, List.length_cons, List.length_nil, Nat.reduceAdd, Nat.reduceSub, Array.replicate_succ, Array.replicate_zero, List.push_toArray, List.append_toArray, List.nil_append, List.cons_append]
 gi_wp2
 gi_loopw [7] (fun v7 wr => ∃ (pre : List ByteArray) (r : ByteArray), Hid (linesB s = pre ++ linesB r) ∧ r.size ≤ s.size ∧ Blk wr b 9 #[.string r] ∧ Blk wr (b + 1) 9 #[.string ⟨#[10]⟩] ∧ Blk wr (b + 2) 3 #[.int .i64 0] ∧ Hid (J pre wr)) (fun _ wr => leftB b wr)
 case atStart => exact ⟨[], s, hide rfl, Nat.le_refl _, g0, g1, g2, hide hJ0⟩
 case round =>
  obtain ⟨pre, r, HX, hrs, r0, r1, r2, HJr⟩ := hrel
  clear c1 g0 g1 g2 hJ0
  have c0 := r0.cells1
  have c1 := r1.cells1
  have c2 := r2.cells1
  obtain ⟨x, hx⟩ : ∃ x, Lib.indexByte r.data.toList 10 = x := ⟨_, rfl⟩
  have HI := hide (Tryz.strings_Index_one r 10 wr)
  rw [hx] at HI
  by_cases hn1 : x = -1
  ·subst hn1
   have hlb : linesB r = [r] := by
    unfold linesB
    rw [nl_index_no hx]
    simp
   have HLB := hide hlb
   obtain ⟨fn, tmps, assign, body, hy, hR⟩ := hY pre r wr HJr.out ⟨[], by rw [HX.out, hlb]⟩
   have HR := hide hR
   clear hlb hx hY hR r0 r1 r2
   gi_wp2_with (refine ⟨trivial, (callsIn_wide.2 HI.out).mono ?_⟩; rintro e w2 ⟨rfl, rfl⟩)
   refine HR.out.mono ?_
   rintro e W3 ⟨rfl, hJ3, -⟩
   gi_wp2
   go_end0
   exact ⟨⟨_, rfl⟩, by rw [HX.out, HLB.out]; exact hJ3⟩
  ·obtain ⟨m, rfl⟩ : ∃ m : Nat, x = m := Int.eq_ofNat_of_zero_le (by have := Lib.indexByte_ge r.data.toList 10; rw [hx] at this; omega)
   obtain ⟨hm, hnl⟩ := nl_index hx
   have hm2 : m < r.size := by simpa using hm
   have hlb : linesB r = r.extract 0 m :: linesB (r.extract (m + 1) r.size) := by
    unfold linesB
    rw [hnl, List.map_cons, ext_pre r m (by omega), ext_suf]
   have HLB := hide hlb
   obtain ⟨fn, tmps, assign, body, hy, hR⟩ := hY pre (r.extract 0 m) wr HJr.out ⟨_, by rw [HX.out, hlb]⟩
   have HR := hide hR
   have d1 : decide ((m : Int) < 0) = false := decide_eq_false (by omega)
   have e1 : wrap64 (m : Int) = m := by unfold wrap64; omega
   have e2 : wrap64 ((m : Int) + 1) = m + 1 := by unfold wrap64; omega
   clear hlb hx hnl hm hR hn1
   gi_wp2_with (refine ⟨trivial, (callsIn_wide.2 HI.out).mono ?_⟩; rintro e w2 ⟨rfl, rfl⟩)
   refine HR.out.mono ?_
   rintro e W3 ⟨rfl, hJ3, hk3⟩
   have r0' : Blk W3 b 9 #[.string r] := (hk3 b (.inl rfl)).trans r0
   have r1' : Blk W3 (b + 1) 9 #[.string ⟨#[10]⟩] := (hk3 (b + 1) (.inr (.inl rfl))).trans r1
   have r2' : Blk W3 (b + 2) 3 #[.int .i64 0] := (hk3 (b + 2) (.inr (.inr rfl))).trans r2
   have HJ3 := hide hJ3
   have HC0 := hide c0.1
   clear c0 c1 c2 r0 r1 r2 HJr HI HR hy hJ3 hk3
   have c0 := r0'.cells1
   have c1 := r1'.cells1
   have c2 := r2'.cells1
   gi_wp2
   go_roundw
   case rel => exact ⟨pre ++ [r.extract 0 m], r.extract (m + 1) r.size, hide (by rw [HX.out, HLB.out]; simp), by rw [ByteArray.size_extract]; omega, by simpa using r0'.set_ 0 _, r1'.far (by simp) _, r2'.far (by simp) _, hide (hJ _ _ _ HJ3.out)⟩
   case measure =>
    have h1 : (W3.setCell ⟨b, 0, none⟩ (.string (r.extract (m + 1) r.size))).cell? ⟨b, 0, none⟩ = some (.string (r.extract (m + 1) r.size)) := by
     have := (r0'.set_ 0 (.string (r.extract (m + 1) r.size))).cell 0
     simpa using this
    unfold leftB
    rw [h1, HC0.out]
    dsimp only
    rw [ByteArray.size_extract]
    omega
theorem splitSeq_any (s p : ByteArray) (w : World) : Calls Tryz.prog 17 #[.string s, .string p, .int .i64 0] w fun e w' =>
 e = .returned (.func (.func 41) #[] #[.pointer (some ⟨w.heap.size + 1, 0, none⟩), .pointer (some ⟨w.heap.size, 0, none⟩), .pointer (some ⟨w.heap.size + 2, 0, none⟩)]) ∧
 w' = ((w.alloc (.cells #[.string s] 9)).alloc (.cells #[.string p] 9)).alloc (.cells #[.int .i64 0] 3) := by
 go_enter Tryz.func17, Tryz.ntmps17
 go_wp2_with fail
 go_ret
 exact ⟨rfl, rfl⟩
theorem split_any (s p : ByteArray) (w : World) : Calls Tryz.prog 8 #[.string s, .string p] w fun e w' =>
 e = .returned (.func (.func 41) #[] #[.pointer (some ⟨w.heap.size + 1, 0, none⟩), .pointer (some ⟨w.heap.size, 0, none⟩), .pointer (some ⟨w.heap.size + 2, 0, none⟩)]) ∧
 w' = ((w.alloc (.cells #[.string s] 9)).alloc (.cells #[.string p] 9)).alloc (.cells #[.int .i64 0] 3) := by
 have HS := hide (splitSeq_any s p w)
 go_enter Tryz.func8, Tryz.ntmps8
 go_wp2_with fail
 refine HS.out.mono ?_
 rintro e w2 ⟨rfl, rfl⟩
 go_wp2_with fail
 go_ret
 exact ⟨rfl, rfl⟩
end
section
open Go Go.RowKit
def sumL (l : List ByteArray) : Nat := (l.map fun s => s.size + 1).sum
theorem sumL_app (l m : List ByteArray) : sumL (l ++ m) = sumL l + sumL m := by simp [sumL]
theorem nlF_sum : ∀ l : List UInt8, ((nlF l).map fun s => s.length + 1).sum = l.length + 1
 | [] => rfl
 | x :: l => by
  have ih := nlF_sum l
  obtain ⟨y, r, h⟩ := nlF_cons l
  unfold nlF
  rw [h] at ih ⊢
  split
  ·simp at ih ⊢
   omega
  ·simp at ih ⊢
   omega
theorem linesB_sum (s : ByteArray) : sumL (linesB s) = s.size + 1 := by
 unfold sumL linesB
 rw [List.map_map]
 have := nlF_sum s.data.toList
 rw [show (s.size : Nat) = s.data.toList.length by simp]
 rw [← this]
 rfl
theorem runG_snoc {D : Type} (f : D → ByteArray → ByteArray × D) (d : D) (l : List ByteArray) (s : ByteArray) : runG f d (l ++ [s]) = runG f d l ++ ((f (endG f d l) s).1.data.toList ++ [10]) := by
 rw [runG_app]
 simp [runG]
theorem endG_snoc {D : Type} (f : D → ByteArray → ByteArray × D) : ∀ (l : List ByteArray) (d : D) (s : ByteArray), endG f d (l ++ [s]) = (f (endG f d l) s).2
 | [], d, s => rfl
 | x :: l, d, s => by
  rw [List.cons_append, endG, endG_snoc f l]
  rfl
theorem endG_ok : ∀ (l : List ByteArray) (d : Dk) (k : Nat), DkOk k d → DkOk (k + sumL l) (endG lineF d l)
 | [], d, k, h => h.mono (by omega)
 | s :: l, d, k, h => by
  have h1 : DkOk (k + (s.size + 1)) (lineF d s).2 := by
   unfold lineF
   split
   ·exact h.mono (by omega)
   ·rename_i x ws hw
    split
    ·exact h.mono (by omega)
    ·rename_i f hf
     have hl := words_len s
     have hl2 : (wordsF s).length ≤ s.size + 1 := hl
     rw [hw, List.length_cons] at hl2
     exact (cmd_ok h hf).mono (by omega)
  have := endG_ok l _ _ h1
  rw [endG]
  exact this.mono (by simp [sumL]; omega)
theorem isb_keep {W W' : World} {B b : Nat} {bs : List Value} (h : Lib.IsBuilderF 42 5 B b bs W) (hb : W'.heap[b]? = W.heap[b]?) (hr : ∀ (i : Nat) (c : Array Value) (fz : Nat × Nat), W.heap[i]? = some (Obj.cells c 5 fz) → W'.heap[i]? = W.heap[i]?) : Lib.IsBuilderF 42 5 B b bs W' := by
 have one : ∀ p, Lib.BuilderAtF 42 5 B b p bs W → Lib.BuilderAtF 42 5 B b p bs W' := by
  rintro p ⟨h1, v, h2, ⟨h3, h4⟩, h5⟩
  refine ⟨h1, v, hb.trans h2, ⟨h3, ?_⟩, h5⟩
  rcases h4 with h4 | ⟨g, cap, cur, fz, e1, e2, e3, e4⟩
  ·exact .inl h4
  ·exact .inr ⟨g, cap, cur, fz, e1, e2, (hr g cur fz e3).trans e3, e4⟩
 exact h.imp (one _) (one _)
section
variable {w0 W W2 W3 : World} {g b hi k : Nat} {d d' : Dk} {acc : List UInt8}
def SesK (w0 : World) (g b hi : Nat) (d : Dk) (acc : List UInt8) (W : World) : Prop := ∃ L, DkL w0 W g d L ∧ (∀ i, g < i → i < hi → ¬ DFoot g L i) ∧
 Lib.IsBuilderF 42 5 w0.heap.size b (Lib.byteCells acc) W ∧ b < W.heap.size ∧ (∃ cs, Blk W (b + 1) 9 cs) ∧ (∃ cs, Blk W (b + 2) 9 cs) ∧ (∃ cs, Blk W (b + 3) 3 cs)
theorem SesK.keep (h : SesK w0 g b hi d acc W) (hl : Below w0.heap.size w0 W2) (hs : W.heap.size ≤ W2.heap.size) (hgb : g < b) (hbh : b < hi)
 (hk : ∀ (i : Nat) (c : Array Value) (t : TypeId) (fz : Nat × Nat), W.heap[i]? = some (Obj.cells c t fz) → W2.heap[i]? = some (Obj.cells c t fz)) : SesK w0 g b hi d acc W2 := by
 obtain ⟨L, h1, h2, h3, h4, ⟨c1, k1⟩, ⟨c2, k2⟩, ⟨c3, k3⟩⟩ := h
 refine ⟨L, h1.same hs hl (fun i _ hf => ?_), h2, isb_keep h3 ?_ (fun i c fz hc => (hk i c _ fz hc).trans hc.symm), by omega, ⟨c1, hk _ _ _ _ k1⟩, ⟨c2, hk _ _ _ _ k2⟩, ⟨c3, hk _ _ _ _ k3⟩⟩
 ·obtain ⟨c, t, e, _⟩ := h1.typed hf
  exact (hk i _ _ _ e).trans e.symm
 ·rcases h3 with ⟨_, v, hb, _⟩ | ⟨_, v, hb, _⟩
  ·exact (hk _ _ _ _ hb).trans hb.symm
  ·exact (hk _ _ _ _ hb).trans hb.symm
theorem SesK.alloc (h : SesK w0 g b hi d acc W) (hgb : g < b) (hbh : b < hi) (o : Obj) : SesK w0 g b hi d acc (W.alloc o) := by
 have hl : Below w0.heap.size w0 W := by obtain ⟨L, h1, _⟩ := h; exact h1.low
 exact h.keep (hl.alloc hl.size _) (by simp) hgb hbh (fun i c t fz e => (Below.heap_alloc W o i (Array.getElem?_eq_some_iff.1 e).1).trans e)
theorem SesK.put (h : SesK w0 g b hi d acc W) (hgb : g < b) (hbh : b < hi) {q : Nat} (hq : g < q) (hqo : ∃ o' : Obj, W.heap[q]? = some o' ∧ o'.isCells = false) (o : Obj) : SesK w0 g b hi d acc (W.putObj q o) := by
 obtain ⟨o', ho, hc⟩ := hqo
 have hlow : Below w0.heap.size w0 W ∧ w0.heap.size ≤ g := by obtain ⟨L, h1, _⟩ := h; exact ⟨h1.low, h1.gb⟩
 have hs : ∀ i, i ≠ q → (W.putObj q o).heap[i]? = W.heap[i]? := fun i hi => World.putObj_heap_other hi
 have hg := grownBy_putObj' W q o
 refine h.keep ⟨hg.os.trans hlow.1.os, hg.tape.trans hlow.1.tape, hg.output.trans hlow.1.output, Nat.le_trans hlow.1.size hg.size, fun i hi => (hs i (by omega)).trans (hlow.1.block i hi)⟩ hg.size hgb hbh (fun i c t fz e => ?_)
 refine (hs i (fun e2 => ?_)).trans e
 subst e2
 rw [ho] at e
 cases e
 cases hc
theorem SesK.box (h : SesK w0 g b hi d acc W) (hgb : g < b) (hbh : b + 3 < hi) (v : Value) : SesK w0 g b hi d acc (W.setCell ⟨b + 1, 0, none⟩ v) := by
 obtain ⟨L, h1, h2, h3, h4, ⟨c1, k1⟩, ⟨c2, k2⟩, ⟨c3, k3⟩⟩ := h
 have hs : ∀ i, i ≠ b + 1 → (W.setCell ⟨b + 1, 0, none⟩ v).heap[i]? = W.heap[i]? := fun i hi => Below.heap_setCell W _ v i hi
 have hsz : (W.setCell ⟨b + 1, 0, none⟩ v).heap.size = W.heap.size := by simp [World.setCell]
 have hgw := h1.gb
 refine ⟨L, h1.same (by rw [hsz]; exact Nat.le_refl _) ⟨h1.low.os, h1.low.tape, h1.low.output, by rw [hsz]; exact h1.low.size, fun i hi => (hs i (by omega)).trans (h1.low.block i hi)⟩ (fun i _ hf => hs i (fun e => h2 (b + 1) (by omega) (by omega) (by rw [← e]; exact hf))), h2, isb_keep h3 (hs b (by omega)) (fun i c fz hc => hs i (fun e => ?_)), by rw [hsz]; exact h4, ⟨_, k1.set_ 0 v⟩, ⟨c2, k2.far (by simp) _⟩, ⟨c3, k3.far (by simp) _⟩⟩
 subst e
 have := k1.symm.trans hc
 injection this with this
 injection this with _ e
 exact absurd e (by decide)
theorem SesK.line (h : SesK w0 g b hi d acc W) (hstd : StdOk w0) (hgb : g < b) (hbh : b + 3 < hi) (hhi : hi ≤ W.heap.size) {k : Nat} (ho : DkOk k d) (hk : k ≤ 6000) (s : ByteArray) (hs : s.size ≤ 40000) :
 Calls Tryz.prog 11 #[.pointer (some ⟨g, 0, none⟩), .string s] W fun e w' => e = .returned (.string (lineF d s).1) ∧ SesK w0 g b hi (lineF d s).2 acc w' ∧ (∀ i, g < i → i < hi → w'.heap[i]? = W.heap[i]?) ∧ W.heap.size ≤ w'.heap.size := by
 obtain ⟨L, h1, h2, h3, h4, ⟨c1, k1⟩, ⟨c2, k2⟩, ⟨c3, k3⟩⟩ := h
 refine (line_any hstd h1 ho hk s hs).mono ?_
 rintro e w' ⟨he, L', g1, g2⟩
 have hp : ∀ i, g < i → i < hi → w'.heap[i]? = W.heap[i]? := fun i h5 h6 => g2.block i (by omega) (h2 i h5 h6)
 refine ⟨he, ⟨L', g1, fun i h5 h6 hf => ?_, isb_keep h3 (hp b hgb (by omega)) (fun i c fz hc => ?_), Nat.lt_of_lt_of_le h4 g2.size, ⟨c1, (hp _ (by omega) (by omega)).trans k1⟩, ⟨c2, (hp _ (by omega) (by omega)).trans k2⟩, ⟨c3, (hp _ (by omega) (by omega)).trans k3⟩⟩, hp, g2.size⟩
 ·rcases g2.fam i hf with h7 | h7
  ·exact h2 i h5 h6 h7
  ·omega
 ·refine g2.block i (Array.getElem?_eq_some_iff.1 hc).1 (fun hf => ?_)
  obtain ⟨c', t, e1, e2⟩ := h1.typed hf
  rw [hc] at e1
  injection e1 with e1
  injection e1 with _ e1 _
  exact e2 e1.symm
theorem SesK.write (h : SesK w0 g b hi d acc W2) (hgb : g < b) (hbh : b + 3 < hi) (s : ByteArray) (hat : Lib.BuilderAtF 42 5 w0.heap.size b (.pointer (some ⟨b, 0, none⟩)) (Lib.byteCells acc ++ Lib.strCells s) W3) (hB : Below w0.heap.size W2 W3) (ho : Lib.OthersKept 5 (some b) W2 W3) :
 SesK w0 g b hi d (acc ++ s.data.toList) W3 := by
 obtain ⟨L, h1, h2, h3, h4, ⟨c1, k1⟩, ⟨c2, k2⟩, ⟨c3, k3⟩⟩ := h
 have hbk : ∀ i t cs, Blk W2 i t cs → i ≠ b → t ≠ 5 → Blk W3 i t cs := fun i t cs hb hi ht => ho i _ hb (fun e => hi (by cases e; rfl)) (fun c fz e => ht (by cases e; rfl))
 refine ⟨L, h1.others ho (h1.low.trans hB) hB.size (h2 b hgb (by omega)), h2, .inr ?_, Nat.lt_of_lt_of_le h4 hB.size, ⟨c1, hbk _ _ _ k1 (by omega) (by decide)⟩, ⟨c2, hbk _ _ _ k2 (by omega) (by decide)⟩, ⟨c3, hbk _ _ _ k3 (by omega) (by decide)⟩⟩
 have e : Lib.byteCells (acc ++ s.data.toList) = Lib.byteCells acc ++ Lib.strCells s := by
  unfold Lib.byteCells Lib.strCells
  rw [List.map_append]
 rw [e]
 exact hat
end
end
section
open Go Go.RowKit
def AnS (x : Ans) : Prop := ∀ o, x.o = .ok o → o.size ≤ 2000
section
variable {d : Dk} {w : List ByteArray} {k : Nat}
theorem anS_ok {o : ByteArray} {d' : Dk} (h : o.size ≤ 2000) : AnS ⟨.ok o, d'⟩ := fun e h' => by cases h'; exact h
theorem anS_er {e : Int} {d' : Dk} : AnS ⟨.error e, d'⟩ := fun e' h' => by cases h'
theorem anS_if {c : Prop} [Decidable c] {a b : Ans} (ha : c → AnS a) (hb : AnS b) : AnS (if c then a else b) := by
 split
 ·rename_i h; exact ha h
 ·exact hb
theorem anS_or {e : Int} {o : ByteArray} {d' : Dk} (h : e = 0 → o.size ≤ 2000) : AnS (orE e o d') := by
 unfold orE
 intro e' h'
 dsimp only at h'
 split at h'
 ·rename_i h0
  cases h'
  exact h h0
 ·cases h'
theorem anS_with {n : Int} {f : List Int → Ans} (h : ∀ l, AnS (f l)) : AnS (withN d w n f) := by
 unfold withN
 split
 ·exact anS_er
 ·exact h _
theorem anS_no {x : Ans} (h : AnS x) : AnS (noC d x) := by
 unfold noC
 split
 ·exact h
 ·exact anS_er
theorem anS_has {x : Nat → Cl → Ans} (h : ∀ y, d.c = some y → AnS (x y.1 y.2)) : AnS (hasC d x) := by
 unfold hasC
 split
 ·exact anS_er
 ·rename_i y e; exact h y e
theorem ito_s {n : Int} (h0 : -9223372036854775808 ≤ n) (h1 : n ≤ 9223372036854775807) : (itoB n).size ≤ 2000 := by
 have := itoB_size n h0 h1
 omega
theorem flat_le {α : Type} (f : α → List Nat) (m : Nat) (hf : ∀ x, (f x).length = m) : ∀ l : List α, ((l.map f).flatten).length = m * l.length
 | [] => by simp
 | x :: l => by
  have := flat_le f m hf l
  rw [List.map_cons, List.flatten_cons, List.length_append, this, hf, List.length_cons, Nat.mul_add, Nat.add_comm]
  omega
theorem plN_len2 (p : Pl) : (plN p).length = 10 + 3 * p.sl.length + 4 * p.lk.length + ((p.wn.map wnN).flatten).length := by
 have h1 := flat_le slN 3 (fun _ => rfl) p.sl
 have h2 := flat_le lkN 4 (fun _ => rfl) p.lk
 unfold plN
 simp only [List.length_append, List.length_cons, List.length_nil, h1, h2]
 omega
theorem spF_bd {p : Pl} {fy : Nat} {c : Cl} (hck : ∀ j, -274877906944 ≤ c.ck.getD j 0 ∧ c.ck.getD j 0 ≤ 274877906944) : -549755813888 ≤ spF p fy c ∧ spF p fy c ≤ 549755813888 := by
 have hm : ∀ x ∈ honL fy c.ck p.nd.toNat, -274877906944 ≤ x ∧ x ≤ 274877906944 := fun x hx => by
  obtain ⟨q, -, -, rfl⟩ := honL_mem2 hx
  exact hck q
 unfold spF
 split
 ·rename_i he
  obtain ⟨a, b, e, ⟨⟨j, hj, ha⟩, -⟩, ⟨⟨i, hi, hb⟩, -⟩⟩ := he.choose_spec
  have h1 := hm a (by rw [← ha, List.getD_eq_getElem?_getD, List.getElem?_eq_getElem hj]; exact List.getElem_mem _)
  have h2 := hm b (by rw [← hb, List.getD_eq_getElem?_getD, List.getElem?_eq_getElem hi]; exact List.getElem_mem _)
  omega
 ·omega
theorem cmd_short (ho : DkOk k d) (hk : k ≤ 6000) {s : ByteArray} {f : Dk → List ByteArray → Ans} (hf : cmdF s = some f) : AnS (f d w) := by
 obtain ⟨x, hx, -, rfl⟩ := lookS_mem hf
 unfold cmdL at hx
 simp only [List.mem_cons, List.not_mem_nil, or_false] at hx
 rcases hx with rfl | rfl | rfl | rfl | rfl | rfl | rfl | rfl | rfl | rfl | rfl | rfl | rfl | rfl | rfl | rfl | rfl | rfl | rfl | rfl
 ·refine anS_with fun _ => anS_or fun h0 => ?_
  have h1 := vnums_len (plN d.p) (plN_le h0)
  rw [plN_len2, ho.wn] at h1
  simp at h1
  have := ho.sl
  have := ho.lk
  exact ito_s (by omega) (by omega)
 ·exact anS_with fun _ => anS_ok (by decide)
 ·refine anS_with fun _ => anS_has fun y hy => anS_ok ?_
  obtain ⟨h1, h2, -⟩ := ho.clu y hy
  have hp := PlOk.of h1
  have h3 := tell_len (l := y.2.ck) (fun x hx => by
   obtain ⟨j, hj, e⟩ := List.mem_iff_getElem.1 hx
   have := h2.ck j
   rw [List.getD_eq_getElem?_getD, List.getElem?_eq_getElem hj, Option.getD_some, e] at this
   omega)
  have h4 := h2.len
  have h5 := hp.n16
  have h6 := hp.n1
  show (Lib.join (y.2.ck.map Lib.itoa) [32]).toArray.size ≤ 2000
  rw [List.size_toArray]
  omega
 ·exact anS_with fun _ => anS_has fun _ _ => anS_ok (by decide)
 ·exact anS_with fun _ => anS_ok (by decide)
 ·refine anS_with fun _ => anS_no (anS_if (fun _ => anS_er) (anS_ok ?_))
  have := ho.lk
  exact ito_s (by omega) (by omega)
 ·refine anS_with fun l => anS_or fun _ => ?_
  have := localN_bd (l.getD 0 0) (l.getD 1 0) (l.getD 2 0) (l.getD 3 0) (l.getD 4 0)
  exact ito_s (by omega) (by omega)
 ·exact anS_with fun _ => anS_has fun _ _ => anS_ok (by decide)
 ·refine anS_with fun n => anS_has fun y hy => anS_if (fun _ => anS_er) (anS_ok ?_)
  obtain ⟨h1, h2, -⟩ := ho.clu y hy
  have h3 := (h2.mm (n.getD 0 0).toNat).1
  have h4 := itoB_size ((y.2.mm (n.getD 0 0).toNat).m : Nat) (by omega) (by omega)
  split
  ·rw [ByteArray.size_append]
   show _ + 7 ≤ _
   omega
  ·omega
 ·refine anS_with fun l => anS_or fun _ => ?_
  have := midV_bd l.tail (l.getD 0 0)
  exact ito_s (by omega) (by omega)
 ·exact anS_with fun _ => anS_has fun _ _ => anS_ok (by decide)
 ·exact anS_with fun _ => anS_no (anS_ok (by decide))
 ·refine anS_if (fun _ => anS_er) (anS_with fun _ => anS_has fun _ _ => anS_if (fun _ => anS_er) ?_)
  split
  ·exact anS_er
  ·exact anS_or fun _ => by decide
 ·exact anS_with fun _ => anS_has fun _ _ => anS_ok (by decide)
 ·refine anS_with fun l => anS_or fun _ => ?_
  have := realN_bd (l.getD 0 0) (l.getD 1 0) (l.getD 2 0) (l.getD 3 0) (l.getD 4 0)
  exact ito_s (by omega) (by omega)
 ·refine anS_with fun _ => anS_has fun y hy => anS_if (fun _ => anS_er) ?_
  split
  ·exact anS_er
  ·refine anS_if (fun _ => anS_er) ?_
   split
   ·exact anS_er
   ·rename_i q hq
    obtain ⟨_, _, _, _, _, hb⟩ := ho.clu y hy
    have := hb _ _ _ (by rw [hq]; exact List.mem_cons_self)
    refine anS_ok ?_
    unfold isB
    rw [ByteArray.size_append]
    show 3 + _ ≤ _
    omega
 ·refine anS_with fun _ => anS_has fun y hy => anS_if (fun _ => anS_ok ?_) anS_er
  obtain ⟨h1, h2, h3, -⟩ := ho.clu y hy
  have h4 := play_rd d.p y.1 d.r y.2
  have h5 := (playF_ok (PlOk.of h1) h2 y.1 d.r).rd
  exact ito_s (by omega) (by omega)
 ·refine anS_with fun _ => anS_no (anS_if (fun _ => anS_er) (anS_ok ?_))
  have := ho.sl
  exact ito_s (by omega) (by omega)
 ·refine anS_with fun _ => anS_has fun y hy => anS_ok ?_
  obtain ⟨_, h2, -⟩ := ho.clu y hy
  have := spF_bd (p := d.p) (fy := y.1) h2.ck
  exact ito_s (by omega) (by omega)
 ·exact anS_with fun _ => anS_no (anS_if (fun _ => anS_ok (by decide)) anS_er)
theorem line_short (ho : DkOk k d) (hk : k ≤ 6000) (s : ByteArray) : (lineF d s).1.size ≤ 2000 := by
 unfold lineF
 split
 ·show (⟨#[111, 107]⟩ : ByteArray).size ≤ 2000
  decide
 ·rename_i x ws hw
  split
  ·show (errB 3).size ≤ 2000
   have := itoB_size 3 (by omega) (by omega)
   unfold errB
   rw [ByteArray.size_append]
   show 6 + _ ≤ _
   omega
  ·rename_i f hf
   have h1 := cmd_short (w := ws) ho hk hf
   have h2 := cmd_err (d := d) (w := ws) hf
   cases he : (f d ws).o with
   | ok o => exact h1 o he
   | error e =>
    obtain ⟨e0, e1⟩ := h2 e he
    have := itoB_size e (by omega) (by omega)
    show (errB e).size ≤ 2000
    unfold errB
    rw [ByteArray.size_append]
    show 6 + _ ≤ _
    omega
end
end
section
open Go Go.RowKit Go.Shelf
attribute [local go_sem] Oper.semAt_some
theorem runG_len : ∀ (l : List ByteArray) (d : Dk) (k : Nat), DkOk k d → k + sumL l ≤ 6000 → (runG lineF d l).length ≤ 2001 * l.length
 | [], d, k, h, hk => by simp [runG]
 | s :: l, d, k, h, hk => by
  have h1 := endG_ok [s] d k h
  have e : sumL (s :: l) = sumL [s] + sumL l := sumL_app [s] l
  have h2 := runG_len l (lineF d s).2 (k + sumL [s]) h1 (by omega)
  have h3 := line_short h (by omega) s
  have h4 : (lineF d s).1.data.toList.length = (lineF d s).1.size := by simp
  rw [runG, List.length_append, List.length_cons, List.length_cons, h4]
  omega
attribute [local irreducible] lineF
theorem linesF_eq (s : ByteArray) : linesF s.data.toList = linesB ⟨(Lib.trimSuffix s.data.toList [10]).toArray⟩ := rfl
theorem trim_leL (l p : List UInt8) : (Lib.trimSuffix l p).length ≤ l.length := by
 unfold Lib.trimSuffix
 split
 ·rw [List.length_take]; omega
 ·exact Nat.le_refl _
theorem ses_start {w0 w1 : World} (hB : Below w0.heap.size w0 w1) (x y z : Array Value) (hi : Nat) : SesK w0 w1.heap.size (w1.heap.size + 1) hi dk0 []
 (((((w1.alloc (.cells (deskC dk0 ly0) 37)).alloc (.cells #[.pointer none, .slice none 0 0] 42)).alloc (.cells x 9)).alloc (.cells y 9)).alloc (.cells z 3)) := by
 have hs := hB.size
 have b1 : Below w0.heap.size w0 (((((w1.alloc (.cells (deskC dk0 ly0) 37)).alloc (.cells #[.pointer none, .slice none 0 0] 42)).alloc (.cells x 9)).alloc (.cells y 9)).alloc (.cells z 3)) :=
  ((((hB.alloc hs _).alloc (by simp; omega) _).alloc (by simp; omega) _).alloc (by simp; omega) _).alloc (by simp; omega) _
 have k0 := ((((Blk.new w1 37 (deskC dk0 ly0)).alloc (.cells #[.pointer none, .slice none 0 0] 42)).alloc (.cells x 9)).alloc (.cells y 9)).alloc (.cells z 3)
 have k1 := (((Blk.new (w1.alloc (.cells (deskC dk0 ly0) 37)) 42 #[.pointer none, .slice none 0 0]).alloc (.cells x 9)).alloc (.cells y 9)).alloc (.cells z 3)
 have k2 := ((Blk.new ((w1.alloc (.cells (deskC dk0 ly0) 37)).alloc (.cells #[.pointer none, .slice none 0 0] 42)) 9 x).alloc (.cells y 9)).alloc (.cells z 3)
 have k3 := (Blk.new (((w1.alloc (.cells (deskC dk0 ly0) 37)).alloc (.cells #[.pointer none, .slice none 0 0] 42)).alloc (.cells x 9)) 9 y).alloc (.cells z 3)
 have k4 := Blk.new ((((w1.alloc (.cells (deskC dk0 ly0) 37)).alloc (.cells #[.pointer none, .slice none 0 0] 42)).alloc (.cells x 9)).alloc (.cells y 9)) 3 z
 simp only [World.size_alloc] at k1 k2 k3 k4
 refine ⟨ly0, dk0_at b1 hs k0, ?_, .inl ⟨by omega, .slice none 0 0, k1, ⟨rfl, .inl ⟨rfl, rfl⟩⟩, by simp [Value.ownBlock]⟩, by simp, ⟨_, k2⟩, ⟨_, k3⟩, ⟨_, k4⟩⟩
 rintro i h1 h2 (rfl | ⟨j, hj, e⟩ | ⟨q, hq⟩)
 ·omega
 ·cases e
 ·simp [Ob.foot] at hq
theorem SesK.put_line {w0 W : World} {g b hi : Nat} {d : Dk} {acc : List UInt8} (h : SesK w0 g b hi d acc W) (hgb : g < b) (hbh : b + 3 < hi) (q : ByteArray) (hq : acc.length + q.size ≤ 100000000) :
 Calls Tryz.prog 10 #[.pointer (some ⟨b, 0, none⟩), .string q] W fun e w' => e = .returned (.tuple #[.int .i64 q.size, .nilIface]) ∧ SesK w0 g b hi d (acc ++ q.data.toList) w' ∧ Lib.OthersKept 5 (some b) W w' ∧ W.heap.size ≤ w'.heap.size := by
 have hB := h
 obtain ⟨L, h1, _, h3, _⟩ := hB
 have hl : (Lib.byteCells acc).length = acc.length := by simp [Lib.byteCells]
 refine (Any.Builder_WriteString_k Tryz.lays166 Tryz.Builder_Extra_156 w0.heap.size b (Lib.byteCells acc) q W h3 (by omega) h1.low.size).mono ?_
 rintro e w' ⟨he, hat, hBl, ho⟩
 exact ⟨he, h.write hgb hbh q hat hBl ho, ho, hBl.size⟩
theorem SesK.end_ {w0 W : World} {g b hi : Nat} {d : Dk} {acc : List UInt8} (h : SesK w0 g b hi d acc W) :
 Calls Tryz.prog 12 #[.pointer (some ⟨b, 0, none⟩)] W fun e w' => e = .returned (.string ⟨acc.toArray⟩) ∧ Below w0.heap.size w0 w' ∧ Lib.OthersKept 5 (some b) W w' := by
 obtain ⟨L, h1, _, h3, _⟩ := h
 refine (Tryz.Builder_String_any_k w0.heap.size b acc W h3 h1.low.size).mono ?_
 rintro e w' ⟨he, _, hBl, ho⟩
 exact ⟨he, h1.low.trans (hBl.mono (Nat.le_refl _)), ho⟩
set_option maxRecDepth 100000 in
set_option maxHeartbeats 4000000 in
theorem session_any (s : ByteArray) (hs : s.size ≤ 5000) (w : World) (hstd : StdOk w) :
 Calls Tryz.prog 5 #[.string s] w fun e w' => e = .returned (.string ⟨(sessF s.data.toList).toArray⟩) ∧ Below w.heap.size w w' := by
 have HF := hide (fresh_any w)
 have HS := hide hstd
 have d1 : decide ((s.size : Int) > 20000) = false := decide_eq_false (by omega)
 have d2 : ¬ ((20000 : Int) < s.size) := by omega
 obtain ⟨t, ht⟩ : ∃ t : ByteArray, (⟨(Lib.trimSuffix s.data.toList [10]).toArray⟩ : ByteArray) = t := ⟨_, rfl⟩
 have htl : t.size ≤ 5000 := by
  have := trim_leL s.data.toList [10]
  rw [← ht]
  show (Lib.trimSuffix s.data.toList [10]).toArray.size ≤ 5000
  rw [List.size_toArray]
  have : s.data.toList.length = s.size := by simp
  omega
 have HLE : Hid (sessF s.data.toList = runG lineF dk0 (linesB t)) := hide (by
  unfold sessF
  rw [if_neg (by rw [show s.data.toList.length = s.size by simp]; omega), linesF_eq, ht]
  rfl)
 have HT := hide (fun W => Tryz.strings_TrimSuffix s ⟨#[10]⟩ W (by omega))
 simp only [ht] at HT
 have HSP := hide (fun W => split_any t ⟨#[10]⟩ W)
 have HTL := hide htl
 clear hstd ht htl
 refine (callsIn_wide (n := 6)).1 ?_
 refine callsIn_of_wp_marks Tryz.func5 rfl trivial ?_ rfl
 simp only [Tryz.ntmps5, List.size_toArray, List.length_cons, List.length_nil, Nat.reduceAdd, Nat.reduceSub, Array.replicate_succ, Array.replicate_zero, List.push_toArray, List.append_toArray, List.nil_append, List.cons_append]
 gi_wp2_with (refine ⟨trivial, ?_⟩; gi_at_call 7; refine (callsIn_wide.2 HF.out).mono ?_; rintro r w1 ⟨rfl, hB1⟩; have HB1 := hide hB1; clear hB1)
 gi_wp2_with (refine ⟨trivial, ?_⟩; gi_at_call 9; refine (callsIn_wide.2 (HT.out _)).mono ?_; rintro r w2 ⟨rfl, rfl⟩)
 gi_wp2_with (refine ⟨trivial, ?_⟩; gi_at_call 8; refine (callsIn_wide.2 (HSP.out _)).mono ?_; rintro r w2 ⟨rfl, rfl⟩)
 generalize hW3 : (((((w1.alloc (.cells #[.int .i64 0, .int .i64 0, .int .i64 0, .int .i64 0, .int .i64 0, .int .i64 0, .slice none 0 0, .slice none 0 0, .int .i64 1, .slice none 0 0, .pointer none, .slice none 0 0, .slice none 0 0, .slice none 0 0, .slice none 0 0] 37)).alloc (.cells #[.pointer none, .slice none 0 0] 42)).alloc (.cells #[.string t] 9)).alloc (.cells #[.string ⟨#[10]⟩] 9)).alloc (.cells #[.int .i64 0] 3)) = W3
 have hst : SesK w w1.heap.size (w1.heap.size + 1) (w1.heap.size + 7) dk0 [] W3 := by rw [← hW3]; exact ses_start HB1.out _ _ _ _
 have hsz : W3.heap.size = w1.heap.size + 5 := by rw [← hW3]; simp
 have k2 : Blk W3 (w1.heap.size + 1 + 1) 9 #[.string t] := by
  rw [← hW3]
  have h := ((Blk.new ((w1.alloc (.cells (deskC dk0 ly0) 37)).alloc (.cells #[.pointer none, .slice none 0 0] 42)) 9 #[.string t]).alloc (.cells #[.string ⟨#[10]⟩] 9)).alloc (.cells #[.int .i64 0] 3)
  simp only [World.size_alloc] at h
  exact h
 have k3 : Blk W3 (w1.heap.size + 1 + 1 + 1) 9 #[.string ⟨#[10]⟩] := by
  rw [← hW3]
  have h := (Blk.new (((w1.alloc (.cells (deskC dk0 ly0) 37)).alloc (.cells #[.pointer none, .slice none 0 0] 42)).alloc (.cells #[.string t] 9)) 9 #[.string ⟨#[10]⟩]).alloc (.cells #[.int .i64 0] 3)
  simp only [World.size_alloc] at h
  exact h
 have k4 : Blk W3 (w1.heap.size + 1 + 1 + 2) 3 #[.int .i64 0] := by
  rw [← hW3]
  have h := Blk.new ((((w1.alloc (.cells (deskC dk0 ly0) 37)).alloc (.cells #[.pointer none, .slice none 0 0] 42)).alloc (.cells #[.string t] 9)).alloc (.cells #[.string ⟨#[10]⟩] 9)) 3 #[.int .i64 0]
  simp only [World.size_alloc] at h
  exact h
 have hbox := split_box 5 (by omega) (w1.heap.size + 1 + 1) t (by have := HTL.out; omega) W3 k2 k3 k4
 clear hW3 k2 k3 k4 HF HT HSP d1 d2
 have HB1' := HB1.out.size
 generalize w1.heap.size = g at *
 refine wpIn_rangeBox rfl (by omega) (gf := 41) (lb := #[.pointer (some ⟨g + 1 + 1 + 1, 0, none⟩), .pointer (some ⟨g + 1 + 1, 0, none⟩), .pointer (some ⟨g + 1 + 1 + 2, 0, none⟩)]) rfl trivial (enters_of Tryz.func41 (by kernel_rfl) rfl) (encs := fun x : ByteArray => #[.string x]) (fun _ => rfl) (sb := g + 1 + 1) (by omega) (K := fun i => i = g + 1 + 1 ∨ i = g + 1 + 1 + 1 ∨ i = g + 1 + 1 + 2) (by omega) (xs := linesB t) hbox
  (fun pre W => SesK w g (g + 1) (g + 7) (endG lineF dk0 pre) (runG lineF dk0 pre) W) (fun s W o h => h.alloc (by omega) (by omega) o) (fun s W o h ho => h.put (by omega) (by omega) (by omega) ho o) (fun s W v h => h.box (by omega) (by omega) v) hst
  (fun x => { tmps := #[.string s, undef, .string ⟨#[]⟩, .pointer (some ⟨g, 0, none⟩), .pointer (some ⟨g + 1, 0, none⟩), .string x, .string s, .int .i64 s.size, .bool false,
   .agg #[.int .i64 0, .int .i64 0, .int .i64 0, .int .i64 0, .int .i64 0, .int .i64 0, .slice none 0 0, .slice none 0 0, .int .i64 1, .slice none 0 0, .pointer none, .slice none 0 0, .slice none 0 0, .slice none 0 0, .slice none 0 0],
   .string s, .string t, .func (.func 41) #[] #[.pointer (some ⟨g + 1 + 1 + 1, 0, none⟩), .pointer (some ⟨g + 1 + 1, 0, none⟩), .pointer (some ⟨g + 1 + 1 + 2, 0, none⟩)], .string x, undef, undef, undef, undef, undef], defers := [] }) ?assign ?body ?done
 case assign =>
  intro l x W K hK
  gi_wp2
  exact hK
 case body =>
  rintro l pre x W hI ⟨r, hr⟩ hno
  have hsum : sumL pre + (x.size + 1) ≤ 5001 := by
   have h1 := linesB_sum t
   rw [hr, sumL_app, show x :: r = [x] ++ r from rfl, sumL_app] at h1
   have h2 : sumL [x] = x.size + 1 := by simp [sumL]
   have := HTL.out
   omega
  have hok := endG_ok pre dk0 0 dk0_ok
  have hlen := runG_len pre dk0 0 dk0_ok (by omega)
  have hpl : pre.length ≤ sumL pre := by
   clear hI hr hsum hok hlen
   induction pre with
   | nil => simp
   | cons y l ih =>
    have e : sumL (y :: l) = y.size + 1 + sumL l := by simp [sumL]
    rw [List.length_cons]
    omega
  have hshort := line_short hok (by omega) x
  have hWs : g + 7 ≤ W.heap.size := by
   obtain ⟨o, ho, _⟩ := hno (W3.heap.size + 1) (.inr rfl)
   have := (Array.getElem?_eq_some_iff.1 ho).1
   omega
  have HLN := hide (hI.line HS.out (by omega) (by omega) hWs hok (by omega) x (by omega))
  generalize hd : endG lineF dk0 pre = d at *
  generalize hacc : runG lineF dk0 pre = acc at *
  have HEN : Hid (endG lineF dk0 (pre ++ [x]) = (lineF d x).2 ∧ runG lineF dk0 (pre ++ [x]) = acc ++ ((lineF d x).1.data.toList ++ [10])) := hide ⟨by rw [endG_snoc, hd], by rw [runG_snoc, hd, hacc]⟩
  generalize (lineF d x).1 = o at *
  generalize (lineF d x).2 = d2 at *
  have hq : ¬ 9223372036854775807 < o.size + 1 := by omega
  have hqs : (o ++ ⟨#[10]⟩ : ByteArray).size = o.size + 1 := by rw [ByteArray.size_append]; rfl
  have HWR := hide (fun W' (h : SesK w g (g + 1) (g + 7) d2 acc W') => h.put_line (by omega) (by omega) (o ++ ⟨#[10]⟩) (by omega))
  have HNO := hide hno
  have HI := hide hI
  have HEN2 : Hid ((o ++ ⟨#[10]⟩ : ByteArray).data.toList = o.data.toList ++ [10]) := hide (by simp)
  clear hno hI hr hok hlen hpl hshort hd hacc hsum hqs
  gi_wp2
  refine ⟨trivial, ?_⟩
  refine (CallsIn.inRound l (callsIn_wide.2 HLN.out)).mono ?_
  rintro e W4 ⟨rfl, hK4, hb4, hs4⟩
  have HK4 := hide hK4
  have HB4 := hide hb4
  clear hK4 hb4
  gi_wp2
  refine ⟨trivial, ?_⟩
  refine (CallsIn.inRound l (callsIn_wide.2 (HWR.out _ HK4.out))).mono ?_
  rintro e W5 ⟨rfl, hK5, hO5, hs5⟩
  have HK5 := hide hK5
  have HO5 := hide hO5
  clear hK5 hO5
  gi_wp2
  have hkk : ∀ i o', W4.heap[i]? = some o' → g + 1 < i → i < g + 7 → (∀ c fz, o' ≠ .cells c 5 fz) → W5.heap[i]? = W.heap[i]? := fun i o' ho h1 h2 hn => by
   rw [HO5.out i o' ho (fun e => by cases e; omega) hn, ← ho]
   exact HB4.out i (by omega) h2
  refine ⟨?_, ?_⟩
  ·obtain ⟨_, _, _, _, _, ⟨c1, k1⟩, ⟨c2, k2⟩, ⟨c3, k3⟩⟩ := HK4.out
   rintro i ((rfl | rfl | rfl) | hi)
   ·exact hkk _ _ k1 (by omega) (by omega) (fun c fz e => by cases e)
   ·exact hkk _ _ k2 (by omega) (by omega) (fun c fz e => by cases e)
   ·exact hkk _ _ k3 (by omega) (by omega) (fun c fz e => by cases e)
   ·obtain ⟨o', ho, hc⟩ := HNO.out i (by omega)
    exact hkk i o' ((HB4.out i (by omega) (by omega)).trans ho) (by omega) (by omega) (fun c fz e => by rw [e] at hc; cases hc)
  ·rw [HEN.out.1, HEN.out.2, ← HEN2.out]
   exact HK5.out
 case done =>
  intro D W hD hI hK
  have HEND := hide hI.end_
  gi_wp2_with (refine ⟨trivial, ?_⟩; gi_at_call 12; refine (callsIn_wide.2 HEND.out).mono ?_; rintro e W5 ⟨rfl, hB5, hO5⟩)
  have hD5 : W5.heap[D]? = some (.deferred (some [])) := hO5 D _ hK (fun e => by cases e; omega) (fun c fz e => by cases e)
  refine ⟨by simp, .inl ⟨_, _, rfl, run_takeDeferred hD5, ?_⟩⟩
  refine ⟨_, results_tmp rfl _ _ _, ?_, hB5.grown (grownBy_putObj' _ _ _) hB5.size (fun k e => by cases e; omega)⟩
  rw [HLE.out]
  simp
end
section
open Go Go.RowKit
theorem mid12 : midV [3, 5] 0 = 4 := by
 unfold midV
 rw [if_pos (by kernel_rfl)]
 unfold midN
 rw [show srt [3, 5] = [3, 5] from (srt_eq (List.Perm.refl _) (by simp)).symm]
 rfl
theorem words1 : wordsF ⟨#[109, 105, 100, 112, 111, 105, 110, 116, 32, 48, 32, 51, 32, 53]⟩ = [⟨#[109, 105, 100, 112, 111, 105, 110, 116]⟩, ⟨#[48]⟩, ⟨#[51]⟩, ⟨#[53]⟩] := by kernel_rfl
theorem cmd1 : cmdF ⟨#[109, 105, 100, 112, 111, 105, 110, 116]⟩ = some aMid := by kernel_rfl
theorem nums12 : numbersF [⟨#[48]⟩, ⟨#[51]⟩, ⟨#[53]⟩] (-1) = some [0, 3, 5] := by kernel_rfl
theorem line1 : lineF dk0 ⟨#[109, 105, 100, 112, 111, 105, 110, 116, 32, 48, 32, 51, 32, 53]⟩ = (⟨#[52]⟩, dk0) := by
 unfold lineF
 rw [words1]
 dsimp only
 rw [cmd1]
 dsimp only
 unfold aMid withN
 rw [nums12]
 show (ansB (orE (midE [3, 5] 0) (itoB (midV [3, 5] 0)) dk0).o, (orE (midE [3, 5] 0) (itoB (midV [3, 5] 0)) dk0).d) = _
 rw [mid12, show midE [3, 5] 0 = 0 by kernel_rfl, show itoB 4 = ⟨#[52]⟩ by kernel_rfl]
 rfl
theorem line2 : lineF dk0 ⟨#[120]⟩ = (⟨#[101, 114, 114, 111, 114, 32, 51]⟩, dk0) := by kernel_rfl
theorem lines12 : linesF [109, 105, 100, 112, 111, 105, 110, 116, 32, 48, 32, 51, 32, 53, 10, 120, 10] = [⟨#[109, 105, 100, 112, 111, 105, 110, 116, 32, 48, 32, 51, 32, 53]⟩, ⟨#[120]⟩] := by kernel_rfl
theorem sess12 : sessF [109, 105, 100, 112, 111, 105, 110, 116, 32, 48, 32, 51, 32, 53, 10, 120, 10] = [52, 10, 101, 114, 114, 111, 114, 32, 51, 10] := by
 unfold sessF
 rw [if_neg (by decide), lines12]
 unfold runF
 rw [runG, line1, runG, line2]
 rfl
theorem sess_pre (a b : List UInt8) (h : (a ++ 10 :: b).length ≤ 20000) : ∃ r, sessF (a ++ 10 :: b) = sessF (a ++ [10]) ++ r := by
 obtain ⟨r, hr⟩ := lines_pre lineF dk0 a b
 have h2 : (a ++ [10]).length ≤ 20000 := by simp at h ⊢; omega
 unfold sessF
 rw [if_neg (by omega), if_neg (by omega)]
 exact ⟨r, hr⟩
end
section
open Go Go.RowKit
attribute [local irreducible] sessF
set_option maxRecDepth 100000 in
set_option maxHeartbeats 4000000 in
theorem pieces_any (a b : ByteArray) (w : World) (hstd : StdOk w) (hsa : a.size ≤ 140737488355328) (hsb : b.size ≤ 140737488355328) :
 Calls Tryz.prog 3 #[.string a, .string b] w fun e w' => e = .returned (.bool true) ∧ Below w.heap.size w w' := by
 have HS := hide hstd
 have hw : wrap64 ((a.size : Int) + b.size) = (a.size : Int) + b.size := by unfold wrap64; omega
 by_cases hbig : 2500 < a.size + b.size
 ·have d1 : decide ((2500 : Int) < (a.size : Int) + b.size) = true := decide_eq_true (by omega)
  have d2 : (2500 : Int) < (a.size : Int) + b.size := by omega
  clear hstd hsa hsb hbig
  go_enter Tryz.func3, Tryz.ntmps3
  go_wp2_with fail
  go_ret
  exact ⟨rfl, .refl _ _⟩
 have d1 : decide ((2500 : Int) < (a.size : Int) + b.size) = false := decide_eq_false (by omega)
 have d2 : ¬ ((2500 : Int) < (a.size : Int) + b.size) := by omega
 have HC1 := hide (session_any ⟨#[109, 105, 100, 112, 111, 105, 110, 116, 32, 48, 32, 51, 32, 53, 10, 120, 10]⟩ (by decide) w hstd)
 simp only [sess12] at HC1
 have HC2 := hide (fun W (h : Below w.heap.size w W) => session_any (a ++ ⟨#[10]⟩) (by rw [ByteArray.size_append]; show _ + 1 ≤ _; omega) W (HS.out.below HS.out.big h))
 have HC3 := hide (fun W (h : Below w.heap.size w W) => session_any (a ++ ⟨#[10]⟩ ++ b) (by rw [ByteArray.size_append, ByteArray.size_append]; show _ + 1 + _ ≤ _; omega) W (HS.out.below HS.out.big h))
 obtain ⟨r, hr⟩ := sess_pre a.data.toList b.data.toList (by simp; omega)
 have e1 : (a ++ ⟨#[10]⟩ : ByteArray).data.toList = a.data.toList ++ [10] := by simp
 have e2 : (a ++ ⟨#[10]⟩ ++ b : ByteArray).data.toList = a.data.toList ++ 10 :: b.data.toList := by simp
 rw [e1] at HC2
 rw [e2, hr] at HC3
 have q1 : ¬ 9223372036854775807 < a.size + 1 := by omega
 have q2 : ¬ 9223372036854775807 < a.size + 1 + b.size := by omega
 generalize sessF (a.data.toList ++ [10]) = x at *
 clear hstd hsa hsb hbig hr e1 e2
 go_enter Tryz.func3, Tryz.ntmps3
 go_wp2_with fail
 refine HC1.out.mono ?_
 rintro e w1 ⟨rfl, hB1⟩
 have HB1 := hide hB1
 clear hB1
 go_wp2_with fail
 refine (HC2.out _ HB1.out).mono ?_
 rintro e w2 ⟨rfl, hB2⟩
 have HB2 := hide (HB1.out.trans (hB2.mono HB1.out.size))
 clear hB2
 go_wp2_with fail
 refine (HC3.out _ HB2.out).mono ?_
 rintro e w3 ⟨rfl, hB3⟩
 have HB3 := hide (HB2.out.trans (hB3.mono HB2.out.size))
 clear hB3
 go_wp2_with fail
 have hx : (((⟨(x ++ r).toArray⟩ : ByteArray).extract 0 x.length).toList == x) = true := by
  rw [beq_iff_eq, ByteArray.toList_eq]
  simp
 rw [hx]
 go_ret
 exact ⟨rfl, HB3.out⟩
end
section
open Go.ChangeShapes Go.WideShapes Go.RowKit
theorem d_et : Tryz.prog.globalNamed "errors.errorType" = some 4 := by kernel_rfl
theorem d_rt : (Tryz.prog.cutTypes.find? (·.1 == "internal/reflectlite.rtype")).map (·.2) = some 277 := by kernel_rfl
theorem d_size : Tryz.prog.types.size = 352 := by kernel_rfl
theorem d_oneRow : ((List.range 352).filter fun t => Tryz.prog.rowNamed t [101, 114, 114, 111, 114]) = [48] := by kernel_rfl
theorem d_hdl : typeHandle Tryz.prog 48 = hdl 48 := by kernel_rfl
theorem errT_of_handle {l : List (String × DataW Unit)} {W : World} (h : handlesMet Tryz.prog l W) (hm : ("errors.errorType", Rows.laid_errors_errorType) ∈ l) : ErrT W := by
 obtain ⟨name, u, ty, e1, e2, e3, e4, e5⟩ := h _ hm
 have en : name = [101, 114, 114, 111, 114] := (Option.some.inj e1).symm
 subst en
 obtain rfl := Option.some.inj (d_rt.symm.trans e2)
 have hm : ty ∈ (List.range 352).filter fun t => Tryz.prog.rowNamed t [101, 114, 114, 111, 114] := List.mem_filter.2 ⟨List.mem_range.2 (by rw [← d_size]; exact e3), e4⟩
 rw [d_oneRow] at hm
 obtain rfl := List.mem_singleton.1 hm
 rw [d_hdl] at e5
 simpa using World.var?_cell d_et e5 0
end
end Go.Proofs.YtideefjnlakciaaGreatDoor
