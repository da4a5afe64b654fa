/- The contract of frame.Decode at any seven bytes or more; condition: the bytes lie in memory. -/
import Derived.Test.YtideefjnlakciaaGreatDoorP05
import Derived.Test.YtideefjnlakciaaGreatDoorP06
import Derived.Test.YtideefjnlakciaaGreatDoorP07
import Derived.Test.YtideefjnlakciaaGreatDoorP03
import Derived.Test.YtideefjnlakciaaGreatDoorP04
import Derived.BigQuiet
import Derived.Lib.SliceRun
import Derived.Deep.RegionHeld3
set_option linter.unusedVariables false
set_option linter.unusedSimpArgs false
set_option linter.unusedVariables false
set_option linter.unusedSimpArgs false
namespace Go.Proofs.YtideefjnlakciaaGreatDoor
open Go.RowKit
abbrev frVal (r : FrR) : Value := frV r.nd r.sl r.mb r.lk r.sq r.d
theorem bytes_cell {w : World} {b off n : Nat} {l : List Nat} (h : BytesAt w (some ⟨b, off, none⟩) n l) (j : Nat) (hj : j < n) : w.cell? ⟨b, off + j, none⟩ = some (.int .u8 (l.getD j 0 : Nat)) := by
 obtain ⟨b', off', e, hc⟩ := h j hj
 cases e
 exact hc
theorem getD_lt {l : List Nat} (hl : ∀ x ∈ l, x < 256) (j : Nat) : l.getD j 0 < 256 := by
 rw [List.getD]
 cases h : l[j]? with
 | none => simp
 | some v => exact hl v (List.mem_of_getElem? h)
theorem take_bytes {w : World} {b off n m : Nat} {l : List Nat} (h : BytesAt w (some ⟨b, off, none⟩) n l) (hm : m ≤ n) : BytesAt w (some ⟨b, off, none⟩) m (l.take m) := by
 intro j hj
 refine ⟨b, off, rfl, ?_⟩
 rw [bytes_cell h j (by omega)]
 simp [List.getD, List.getElem?_take_of_lt hj]
theorem mid_getD (l : List Nat) (k i : Nat) (hi : i < k) : (((l.drop 7).take k).map fun (x : Nat) => (x : Int)).getD i 0 = ((l.getD (7 + i) 0 : Nat) : Int) := by
 simp only [List.getD, List.getElem?_map, List.getElem?_take_of_lt hi, List.getElem?_drop]
 cases l[7 + i]? <;> rfl
theorem DecPost.of_bad {w w' : World} {v : Value} {e : Ending} (h : DecBad w e w') : DecPost w false v e w' := by
 unfold DecPost; rw [if_neg (by decide)]; exact h
theorem dec_any (l : List Nat) (b off c : Nat) (w : World) (hl : ∀ x ∈ l, x < 256) (h7 : 7 ≤ l.length) (hc : l.length ≤ c) (hc2 : c ≤ 9223372036854775807) (hB : BytesAt w (some ⟨b, off, none⟩) l.length l) :
 Calls Tryz.prog 204 #[.slice (some ⟨b, off, none⟩) l.length c] w (DecPost w (decOk l) (frVal (decF l))) := by
 obtain ⟨m, hm⟩ : ∃ m, m = l.length - 2 := ⟨_, rfl⟩
 have hlen : l.length = m + 2 := by omega
 have hcell := fun j hj => bytes_cell hB j hj
 have htl : (l.take m).length = m := by rw [List.length_take]; omega
 have htb : BytesAt w (some ⟨b, off, none⟩) (l.take m).length (l.take m) := by rw [htl]; exact take_bytes hB (by omega)
 have hlt : ∀ x ∈ l.take m, x < 256 := fun x hx => hl x (List.mem_of_mem_take hx)
 have hx := hcell m (by omega)
 have hy := hcell (m + 1) (by omega)
 by_cases hs : crcS (l.take m) = l.getD m 0 * 256 + l.getD (m + 1) 0
 ·have hok : decOk l = decG l := by
   unfold decOk
   rw [hlen, show m + 2 - 2 = m by omega, show m + 2 - 1 = m + 1 by omega, decide_eq_true (by omega : 7 ≤ m + 2), decide_eq_true hs]
   rfl
  rw [hok]
  have hxl : ((((l.drop 7).take (m - 7)).map fun (x : Nat) => (x : Int))).length = m - 7 := by
   rw [List.length_map, List.length_take, List.length_drop]; omega
  have hxc : ∀ i, i < m - 7 → w.cell? ⟨b, off + 7 + i, none⟩ = some (.int .u8 ((((l.drop 7).take (m - 7)).map fun (x : Nat) => (x : Int)).getD i 0)) := by
   intro i hi
   rw [mid_getD l _ i hi, ← hcell (7 + i) (by omega), Nat.add_assoc]
  have hfin : ∀ r, Calls Tryz.prog 204 #[.slice (some ⟨b, off, none⟩) (m + 2) c] w r → Calls Tryz.prog 204 #[.slice (some ⟨b, off, none⟩) l.length c] w r := by intro r hr; rw [hlen]; exact hr
  apply hfin
  by_cases h4 : l.getD 4 0 = 0
  ·have hL : ((l.getD 4 0 : Nat) : Int) - 1 < 0 := by omega
   refine dec_neg (l.getD 0 0) (l.getD 1 0) (l.getD 2 0) (l.getD 3 0) (l.getD 4 0) (l.getD 5 0) (l.getD 6 0) b off m c (l.take m) (l.getD m 0) (l.getD (m + 1) 0) w (by omega) (by omega) hc2 htl hlt htb hx hy (getD_lt hl _) (getD_lt hl _) hs
    (hcell 0 (by omega)) (hcell 1 (by omega)) (hcell 2 (by omega)) (hcell 3 (by omega)) (hcell 4 (by omega)) (getD_lt hl _) (getD_lt hl _) (getD_lt hl _) (getD_lt hl _) (getD_lt hl _) _ rfl
    (fun _ => hcell 5 (by omega)) (fun _ => hcell 6 (by omega)) (getD_lt hl _) (getD_lt hl _) _ hxl hxc _ ?_ hL _ ?_
   ·show (if _ then _ else _) = _
    rw [if_pos hL]
    unfold decG
    rw [if_pos h4, hlen]
    congr 1
    exact decide_eq_decide.2 (by omega)
   ·show (if _ then _ else _) = _
    rw [if_pos hL]
    unfold decF
    rw [if_pos h4]
  ·have hL : ¬ ((l.getD 4 0 : Nat) : Int) - 1 < 0 := by omega
   have hL0 : 0 ≤ ((l.getD 4 0 : Nat) : Int) - 1 := by omega
   have hG : (if ((l.getD 4 0 : Nat) : Int) - 1 < 0 then decide (m = 5) && fOk (l.getD 0 0) (l.getD 1 0) (l.getD 2 0 * 256 + l.getD 3 0 : Nat) (((l.getD 4 0 : Nat) : Int) - 1) 0 0 else decide (m = 7 + l.getD 6 0) && fOk (l.getD 0 0) (l.getD 1 0) (l.getD 2 0 * 256 + l.getD 3 0 : Nat) (((l.getD 4 0 : Nat) : Int) - 1) (l.getD 5 0 : Nat) (m - 7)) = decG l := by
    rw [if_neg hL]
    unfold decG
    rw [if_neg h4, hlen, show m + 2 - 9 = m - 7 by omega]
    congr 1
    exact decide_eq_decide.2 (by omega)
   have hV : (if ((l.getD 4 0 : Nat) : Int) - 1 < 0 then frV (l.getD 0 0) (l.getD 1 0) (l.getD 2 0 * 256 + l.getD 3 0 : Nat) (((l.getD 4 0 : Nat) : Int) - 1) 0 ⟨#[]⟩ else frV (l.getD 0 0) (l.getD 1 0) (l.getD 2 0 * 256 + l.getD 3 0 : Nat) (((l.getD 4 0 : Nat) : Int) - 1) (l.getD 5 0 : Nat) (strOfNums (((l.drop 7).take (m - 7)).map fun (x : Nat) => (x : Int)))) = frVal (decF l) := by
    rw [if_neg hL]
    unfold decF
    rw [if_neg h4, hlen, show m + 2 - 9 = m - 7 by omega]
    rfl
   by_cases h6 : m = 7 + l.getD 6 0
   ·exact dec_pos2 (l.getD 0 0) (l.getD 1 0) (l.getD 2 0) (l.getD 3 0) (l.getD 4 0) (l.getD 5 0) (l.getD 6 0) b off m c (l.take m) (l.getD m 0) (l.getD (m + 1) 0) w (by omega) (by omega) hc2 htl hlt htb hx hy (getD_lt hl _) (getD_lt hl _) hs
     (hcell 0 (by omega)) (hcell 1 (by omega)) (hcell 2 (by omega)) (hcell 3 (by omega)) (hcell 4 (by omega)) (getD_lt hl _) (getD_lt hl _) (getD_lt hl _) (getD_lt hl _) (getD_lt hl _) _ rfl
     (fun _ => hcell 5 (by omega)) (fun _ => hcell 6 (by omega)) (getD_lt hl _) (getD_lt hl _) _ hxl hxc _ hG hL0 h6 _ hV
   ·exact dec_pos1 (l.getD 0 0) (l.getD 1 0) (l.getD 2 0) (l.getD 3 0) (l.getD 4 0) (l.getD 5 0) (l.getD 6 0) b off m c (l.take m) (l.getD m 0) (l.getD (m + 1) 0) w (by omega) (by omega) hc2 htl hlt htb hx hy (getD_lt hl _) (getD_lt hl _) hs
     (hcell 0 (by omega)) (hcell 1 (by omega)) (hcell 2 (by omega)) (hcell 3 (by omega)) (hcell 4 (by omega)) (getD_lt hl _) (getD_lt hl _) (getD_lt hl _) (getD_lt hl _) (getD_lt hl _) _ rfl
     (fun _ => hcell 5 (by omega)) (fun _ => hcell 6 (by omega)) (getD_lt hl _) (getD_lt hl _) _ hxl hxc _ hG hL0 h6 _ hV
 ·have hok : decOk l = false := by
   unfold decOk
   rw [hlen, show m + 2 - 2 = m by omega, show m + 2 - 1 = m + 1 by omega, decide_eq_false hs]
   simp
  rw [hok, hlen]
  exact (dec_sum b off m c (l.take m) (l.getD m 0) (l.getD (m + 1) 0) w (by omega) (by omega) hc2 htl hlt htb hx hy (getD_lt hl _) (getD_lt hl _) hs).mono fun _ _ h => DecPost.of_bad h
end Go.Proofs.YtideefjnlakciaaGreatDoor
namespace Go.Proofs.YtideefjnlakciaaGreatDoor
section
open Go Go.RowKit
attribute [local irreducible] lostB takeB judgeV Tk.take Pr.put Mm.hear
theorem bytes_nil (w : World) : (binOp .eql 40 (.slice none 0 0) (.slice none 0 0)).run Tryz.prog w = .ok (.bool true) w := by
 rw [Go.Lib.run_eql_slice_nil w _ _ _ 0 0 0 0 Tryz.underlying40]; rfl
theorem bytes_some (w : World) (x : Addr) (m cap : Nat) : (binOp .eql 40 (.slice (some x) m cap) (.slice none 0 0)).run Tryz.prog w = .ok (.bool false) w := by
 rw [Go.Lib.run_eql_slice_nil w _ _ _ m cap 0 0 Tryz.underlying40]; rfl
attribute [local go_sem] bytes_nil bytes_some
def BtsAt (w : World) (S : Ix → Ob) (v : Value) : Option FrR → Prop
 | none => v = .slice none 0 0
 | some f => ∃ b off cap l, v = .slice (some ⟨b, off, none⟩) (List.length l) cap ∧ BytesAt w (some ⟨b, off, none⟩) (List.length l) l ∧ (∀ x ∈ l, x < 256) ∧ 7 ≤ List.length l ∧ List.length l ≤ cap ∧ cap ≤ 9223372036854775807 ∧ decOk l = true ∧ decF l = f ∧ b < w.heap.size ∧ ¬ Fmy S b
structure FrOk (p : Pl) (from_ slot : Nat) (f : FrR) : Prop where
 nd : f.nd = from_
 sl : f.sl = slot
 mb : ∃ m : Nat, f.mb = m ∧ m < 65536
 lk : f.lk < 0 ∨ ∃ (k : Nat) (l : Lk), f.lk = k ∧ p.lk[k]? = some l
 d : f.d.size ≤ 40
theorem BtsAt.kept {w w' : World} {S S' : Ix → Ob} {v : Value} {fr : Option FrR} (h : BtsAt w S v fr) (hk : KeptS w w' S S') : BtsAt w' S' v fr := by
 cases fr with
 | none => exact h
 | some f =>
  obtain ⟨b, off, cap, l, h1, h2, h3, h4, h5, h6, h7, h8, h9, h10⟩ := h
  refine ⟨b, off, cap, l, h1, fun j hj => ?_, h3, h4, h5, h6, h7, h8, Nat.lt_of_lt_of_le h9 hk.size, hk.not h9 h10⟩
  obtain ⟨b2, o2, e, hc⟩ := h2 j hj
  cases e
  exact ⟨b, off, rfl, (cell_heap (hk.block b h9 h10) _).trans hc⟩
def hearCh (p : Pl) (tn slot : Nat) (fr : Option FrR) (ls : List Ls) (c : Cl) : Nat → Cl
 | 0 => c
 | k + 1 => chanO p tn fr (cameB fr ls slot k tn) (hearCh p tn slot fr ls c k)
def cameK (fr : Option FrR) (ls : List Ls) (slot tn : Nat) : Nat → Bool
 | 0 => false
 | k + 1 => cameK fr ls slot tn k || cameB fr ls slot k tn
theorem chanF_mm (p : Pl) (tn : Nat) (f : FrR) (c : Cl) : (chanF p tn f c).mm = c.mm := by
 unfold chanF
 split
 ·rfl
 ·split
  ·rfl
  ·split <;> rfl
theorem hearCh_mm (p : Pl) (tn slot : Nat) (fr : Option FrR) (ls : List Ls) (c : Cl) : ∀ k, (hearCh p tn slot fr ls c k).mm = c.mm
 | 0 => rfl
 | k + 1 => by
  unfold hearCh chanO
  rw [← hearCh_mm p tn slot fr ls c k]
  split
  ·rfl
  ·split
   ·exact chanF_mm _ _ _ _
   ·rfl
theorem hearCh_ok {p : Pl} {N : Nat} {c : Cl} (h : ClOk p N c) (tn slot : Nat) (fr : Option FrR) (ls : List Ls) : ∀ k, ClOk p (N + 2 * k) (hearCh p tn slot fr ls c k)
 | 0 => h
 | k + 1 => by
  have ih := hearCh_ok h tn slot fr ls k
  unfold hearCh chanO
  split
  ·exact ih.mono (by omega)
  ·split
   ·exact (ih.chan tn _).mono (by omega)
   ·exact ih.mono (by omega)
theorem hear_no {fr : Option FrR} {ls : List Ls} {slot k tn : Nat} (h : cameB fr ls slot k tn = false) (p : Pl) (c : Cl) : hearCh p tn slot fr ls c (k + 1) = hearCh p tn slot fr ls c k ∧ cameK fr ls slot tn (k + 1) = cameK fr ls slot tn k := by
 constructor
 ·conv => lhs; unfold hearCh chanO
  rw [h]
  cases fr <;> rfl
 ·conv => lhs; unfold cameK
  rw [h, Bool.or_false]
theorem hear_yes {f : FrR} {ls : List Ls} {slot k tn : Nat} (h : lostB ls slot k tn = false) (p : Pl) (c : Cl) : hearCh p tn slot (some f) ls c (k + 1) = chanF p tn f (hearCh p tn slot (some f) ls c k) ∧ cameK (some f) ls slot tn (k + 1) = true := by
 have e : cameB (some f) ls slot k tn = true := by unfold cameB; rw [h]; rfl
 constructor
 ·conv => lhs; unfold hearCh chanO
  rw [e]; rfl
 ·conv => lhs; unfold cameK
  rw [e, Bool.or_true]
theorem came_lost {f : FrR} {ls : List Ls} {slot k tn : Nat} (h : lostB ls slot k tn = true) : cameB (some f) ls slot k tn = false := by unfold cameB; rw [h]; rfl
theorem what_in (m from_ : Nat) (fr : Option FrR) (b : Bool) : 0 ≤ whatV m from_ fr b ∧ whatV m from_ fr b ≤ 2 := by
 unfold whatV
 split
 ·omega
 ·split
  ·unfold judgeV; split <;> omega
  ·omega
theorem hearsF_ch (p : Pl) (from_ tn slot : Nat) (fr : Option FrR) (ls : List Ls) (c : Cl) : hearsF p from_ tn slot fr ls c = { hearCh p tn slot fr ls c 2 with mm := updF (hearCh p tn slot fr ls c 2).mm tn (((hearCh p tn slot fr ls c 2).mm tn).hear from_ (whatV (c.mm tn).m from_ fr (cameK fr ls slot tn 2))) } := by
 have e : cameK fr ls slot tn 2 = (cameB fr ls slot 0 tn || cameB fr ls slot 1 tn) := by
  show (false || cameB fr ls slot 0 tn || cameB fr ls slot 1 tn) = _
  rw [Bool.false_or]
 rw [e, hearCh_mm]
 rfl
theorem hL0 {W w0 : World} {A : Option Addr} {n B : Nat} {ws : List Lk} (h : LinksAt w0 A n ws) (hw : w0.heap.size ≤ B) (hB : Below B w0 W) : LinksAt W A n ws := fun j hj => by
 obtain ⟨b, off, e, x, h1, h2, h3, h4, h5⟩ := h j hj
 have hlt : b < B := Nat.lt_of_lt_of_le (World.block_lt_of_cell? _ _ h2) hw
 exact ⟨b, off, e, x, h1, (hB.cell (p := ⟨b, _, none⟩) hlt).trans h2, (hB.cell (p := ⟨b, _, none⟩) hlt).trans h3, (hB.cell (p := ⟨b, _, none⟩) hlt).trans h4, (hB.cell (p := ⟨b, _, none⟩) hlt).trans h5⟩
theorem grown_undrew {w w' : World} {r : Option Nat} (h : w.drew.grownBy w' r) : w.grownBy w' r := ⟨h.os, h.tape, h.output, h.size, h.block⟩
theorem chan_neg (p : Pl) (tn : Nat) {f : FrR} (c : Cl) (h : f.lk < 0) : chanF p tn f c = c := by unfold chanF; rw [if_pos h]
theorem chan_bit (p : Pl) (tn : Nat) {f : FrR} (c : Cl) {k : Nat} {l : Lk} (h : f.lk = k) (hl : p.lk[k]? = some l) (hb : bitB l.t tn = false) : chanF p tn f c = c := by
 unfold chanF
 rw [if_neg (by omega), h, Int.toNat_natCast, hl]
 simp [hb]
theorem chan_yes (p : Pl) (tn : Nat) {f : FrR} (c : Cl) {k : Nat} {l : Lk} (h : f.lk = k) (hl : p.lk[k]? = some l) (hb : bitB l.t tn = true) : chanF p tn f c = { c with tk := upd2 c.tk k tn ((c.tk k tn).take f.sq), pr := if takeB f.sq (c.tk k tn).nw then upd2 c.pr k tn ((c.pr k tn).put f.d) else c.pr } := by
 unfold chanF
 rw [if_neg (by omega), h, Int.toNat_natCast, hl]
 simp only [hb, if_true]
set_option maxRecDepth 100000 in
set_option maxHeartbeats 4000000 in
theorem hears_any {base : Nat} {a : Ad} {p : Pl} {P : Sv3} {fy : Nat} {c : Cl} {N : Nat} (w : World) {K : World → (Ix → Ob) → Prop} (hKK : Cls K) (AL : Option Addr) (cl : Nat) (hP : P.l = .slice AL p.lk.length cl) (h : ClAt w base a (fullN p) p P fy c) (hp : PlOk p) (hc : ClOk p N c) (hN : N ≤ 900000000000) (hL : ∀ W S, K W S → LinksAt W AL p.lk.length p.lk) (hB0 : K w (shape a (fullN p) p P fy c)) (hbase : base ≤ w.heap.size)
 (A : Option Addr) (cp : Nat) (ls : List Ls) (hA : ∀ W S, K W S → LossAt W A ls) (hmax : ls.length ≤ 9223372036854775807) (y1 y2 y3 : Value)
 (from_ tn slot : Nat) (hfrom : (from_ : Int) < p.nd) (htn : (tn : Int) < p.nd) (hne : tn ≠ from_) (hslot : slot ≤ 100)
 (fr : Option FrR) (bv : Value) (hbv : BtsAt w (shape a (fullN p) p P fy c) bv fr) (hfr : ∀ f, fr = some f → FrOk p from_ slot f) :
 Calls Tryz.prog 179 #[.pointer (some ⟨a.g, 0, none⟩), .int .i64 from_, .int .i64 tn, .int .i64 slot, bv, .agg #[.slice A ls.length cp, y1, y2, y3]] w fun e w' => e = .returned (.tuple #[]) ∧ ClTo w base a (fullN p) p P fy c w' (hearsF p from_ tn slot fr ls c) := by
 have HX0 := hide (Blk.new w 35 #[.slice A ls.length cp, y1, y2, y3])
 have HBW := (Below.refl w.heap.size w).alloc (Nat.le_refl _) (.cells #[.slice A ls.length cp, y1, y2, y3] 35)
 have HKW := hide (KeptS.of_below (S := shape a (fullN p) p P fy c) HBW)
 have HNX := hide (h.not_new (Nat.le_refl w.heap.size))
 obtain ⟨G, hG⟩ : ∃ G, a.g = G := ⟨_, rfl⟩
 rw [hG]
 have hsz : (w.alloc (.cells #[.slice A ls.length cp, y1, y2, y3] 35)).heap.size = w.heap.size + 1 := by simp
 have Hh := hide (h.below HBW); have HKK := hide hKK; have HB0 := hide (hKK.step hB0 HKW.out); have HA := hide hA; have HL := hide hL; have HBV := hide (hbv.kept HKW.out); have HFR := hide hfr; have HP := hide hp; have HOK := hide hc; have HPL := hide hP; have HG := hide hG
 have hn16 := hp.n16
 have hn1 := hp.n1
 obtain ⟨nd, hnd⟩ : ∃ nd, p.nd.toNat = nd := ⟨_, rfl⟩
 have htn2 : tn < nd := by omega
 have HND : Hid ((fullN p).nm = nd) := hide hnd
 clear h hB0 hKK hA hL hbv hfr hp hc hP hG
 obtain ⟨L, hLn⟩ : ∃ L, ls.length = L := ⟨_, rfl⟩
 have HLn := hide hLn
 rw [hLn] at hmax HX0 HBW HKW hsz Hh HB0 HBV ⊢
 clear hLn
 obtain ⟨w1, hw1⟩ : ∃ w1, w.alloc (.cells #[.slice A L cp, y1, y2, y3] 35) = w1 := ⟨_, rfl⟩
 rw [hw1] at HX0 HBW HKW hsz Hh HB0 HBV
 have HW1 := hide hw1
 have hbase1 : base ≤ w1.heap.size := by omega
 have HC0 := hide (ClTo.refl Hh.out (Below.refl w1.heap.size w1))
 have HNX1 := hide (Hh.out)
 have HSZ := hide hsz
 clear hw1 hsz HBW HNX1
 go_enter Tryz.func179, Tryz.ntmps179
 go_wp2_with fail
 go_loopw [12, 16] (fun what i wr => ∃ k : Nat, k ≤ 2 ∧ i = .int .i64 k ∧ what = .int .i64 (whatV (c.mm tn).m from_ fr (cameK fr ls slot tn k)) ∧ Hid (Blk wr w.heap.size 35 #[.slice A L cp, y1, y2, y3]) ∧ Hid (ClTo w1 base a (fullN p) p P fy c wr (hearCh p tn slot fr ls c k))) (fun _ i _ => 2 - (intOf i).toNat)
 case atStart => exact ⟨0, by omega, rfl, by unfold cameK whatV; cases fr <;> rfl, by rw [HW1.out]; exact HX0, by rw [HW1.out]; exact HC0⟩
 case round =>
  obtain ⟨k, hk, rfl, rfl, HX, HC⟩ := hrel
  obtain ⟨a', hg, hA', hK⟩ := HC.out
  have hb1 : base ≤ wr.heap.size := Nat.le_trans hbase1 hK.size
  have HNXr := hide (hK.not (by rw [HSZ.out]; exact Nat.lt_succ_self _) HNX.out)
  by_cases hlt : k < 2
  ·have kx := HX.out.cell 0
   simp at kx
   have HBr := hide (HKK.out.step HB0.out hK)
   have HBVr := hide (HBV.out.kept hK)
   cases fr with
   | none =>
    obtain rfl : bv = .slice none 0 0 := HBVr.out
    clear hA' hK
    go_wp2_with fail
    go_roundw
    case rel => exact ⟨k + 1, by omega, by go_num, by rfl, HX, HC⟩
    case measure => simp [intOf]; omega
   | some f =>
    obtain ⟨gb, ob, cap, l, rfl, hby, hl256, h7, hlc, hc63, hok, hdF, hgb, hnf⟩ := HBVr.out
    have HFO := hide (HFR.out f rfl)
    obtain ⟨b, hbb⟩ : ∃ b, lostB ls slot k tn = b := ⟨_, rfl⟩
    have HLO := hide (lost_any A cp ls slot k tn wr ((HA.out _ _ HBr.out)) (by rw [HLn.out]; exact hmax) hslot (by omega) (by omega))
    rw [HLn.out, hbb] at HLO
    have HBB := hide hbb
    have HBY := hide hby; have H256 := hide hl256; have H7 := hide h7; have HLC := hide hlc; have H63 := hide hc63; have HDK := hide hok; have HDF := hide hdF; have HNF := hide hnf; have HGB := hide hgb
    have HA' := hide hA'; have HK := hide hK
    clear hbb hby hl256 h7 hlc hc63 hok hdF hnf hgb hA' hK
    obtain ⟨m, hm⟩ : ∃ m, l.length = m := ⟨_, rfl⟩
    have HM := hide hm
    rw [hm]
    rw [hm] at HBY H7 HLC
    clear hm
    go_wp2_with fail
    refine HLO.out.mono ?_
    rintro e w2 ⟨rfl, hb2⟩
    have HB2 := hide hb2; clear hb2
    cases b
    ·have HDE := hide (dec_any l gb ob cap w2 H256.out (by rw [HM.out]; exact H7.out) (by rw [HM.out]; exact HLC.out) H63.out (by rw [HM.out]; exact HBY.out.below HB2.out))
     rw [HM.out] at HDE
     go_wp2_with fail
     refine HDE.out.mono ?_
     intro e w3 hd
     unfold DecPost at hd
     rw [HDK.out, if_pos rfl, HDF.out] at hd
     obtain ⟨rfl, hb3⟩ := hd
     have HB3 := hide (HB2.out.trans (hb3.mono HB2.out.size)); clear hb3
     obtain ⟨fnd, fsl, fmb, flk, fsq, fd⟩ := f
     obtain ⟨e1, e2, ⟨mb, e3, hmb⟩, hflk, hfd⟩ := HFO.out
     dsimp only at e1 e2 e3 hflk hfd
     subst e1 e2 e3
     have hb6 := Blk.new w3 269 #[.int .i64 from_, .int .i64 slot, .int .i64 mb, .int .i64 flk, .int .i64 fsq, .string fd]
     obtain ⟨i0, i1, i2, i3, i4, i5, v0, v1, v2, v3, v4, v5⟩ := hb6.cells6
     have HF6 := hide hb6; clear hb6
     have HLKS := hide hflk
     clear hflk
     have HB4 := hide (HB3.out.alloc HB3.out.size (.cells #[.int .i64 from_, .int .i64 slot, .int .i64 mb, .int .i64 flk, .int .i64 fsq, .string fd] 269))
     have HA4 := hide (HA'.out.below HB4.out)
     obtain ⟨bm, om, cm, k12, km⟩ := HA4.out.memC (hg.trans HG.out) HND.out htn2
     obtain ⟨gm, hgm⟩ : ∃ gm, a'.gm tn = gm := ⟨_, rfl⟩
     rw [hgm] at km
     have hmm := hearCh_mm p tn slot (some ⟨from_, slot, mb, flk, fsq, fd⟩) ls c k
     have HJ : Hid (∀ w0, Blk w0 gm 261 (nodeC tn p.nd.toNat ((hearCh p tn slot (some ⟨from_, slot, mb, flk, fsq, fd⟩) ls c k).mm tn).m ((hearCh p tn slot (some ⟨from_, slot, mb, flk, fsq, fd⟩) ls c k).mm tn).gd ((hearCh p tn slot (some ⟨from_, slot, mb, flk, fsq, fd⟩) ls c k).mm tn).bd ((hearCh p tn slot (some ⟨from_, slot, mb, flk, fsq, fd⟩) ls c k).mm tn).fz) → Calls Tryz.prog 205 #[.pointer (some ⟨gm, 0, none⟩), .int .i64 from_, .int .i64 mb] w0 fun e w' => e = .returned (.int .i64 (judgeV (c.mm tn).m from_ mb)) ∧ ∃ q, w' = w0.drewN q) := hide (fun w0 hb => by rw [hmm] at hb; exact judges_in gm tn p.nd.toNat _ _ _ _ from_ mb w0 hb (by omega) (by omega) (HOK.out.mm tn).1 hmb)
     have HM4 := hide (HA4.out.memB (i := tn) (by rw [HND.out]; exact htn2))
     rw [hgm] at HM4
     clear hmm hgm
     go_wp2_with fail
     go_region_held3 (fun w' => w'.cell? ⟨G, 12, none⟩ = some (.slice (some ⟨bm, om, none⟩) nd cm) ∧ w'.cell? ⟨bm, om + tn, none⟩ = some (.pointer (some ⟨gm, 0, none⟩)) ∧ w'.cell? ⟨w3.heap.size, 2, none⟩ = some (.int .i64 mb)) (exact ⟨k12, km, i2⟩)
      (first | (go_at_call 205; go_must (refine (HJ.out _ (by first | exact HM4.out | exact HM4.out.drew)).mono ?_); rintro e w5 ⟨rfl, q, rfl⟩))
     go_wp2_with fail
     have HA5 := hide (HA4.out.drewN (1 + q)); have HF5 := hide (HF6.out.drewN (1 + q)); have HB5 := hide (below_drewN HB4.out (1 + q))
     have HNW := hide (HA'.out.not_new HB3.out.size)
     clear i0 i1 i2 i3 i4 i5 v0 v1 v2 v3 v4 v5 k12 km HA4 HF6 HB4 HM4 HJ
     generalize (World.drewN _ _) = W5 at HA5 HF5 HB5 ⊢
     have HB5b := hide (HKK.out.bel HBr.out HB5.out)
     have HK5 := hide (HK.out.below HB5.out)
     have HX5 := hide (HX.out.below HB5.out HX.out.lt)
     have hy := hear_yes (f := ⟨from_, slot, mb, flk, fsq, fd⟩) HBB.out p c
     have HY1 := hide hy.1; have HY2 := hide hy.2; clear hy
     obtain ⟨i0, i1, i2, i3, i4, i5, _⟩ := HF5.out.cells6
     rcases HLKS.out with hneg | ⟨kk, lnk, hkk, hlk⟩
     ·have d1 : decide ((0 : Int) ≤ flk) = false := decide_eq_false (by omega)
      have HE := hide (chan_neg p tn (f := ⟨from_, slot, mb, flk, fsq, fd⟩) (hearCh p tn slot (some ⟨from_, slot, mb, flk, fsq, fd⟩) ls c k) hneg)
      clear hneg
      go_quiet (fail)
      go_wp2_with fail
      go_roundw
      case rel => exact ⟨k + 1, by omega, by go_num, by rw [HY2.out]; rfl, hide (HX5.out.drewN _), hide (by rw [HY1.out, HE.out]; exact ⟨a', hg, HA5.out.drewN _, HK5.out.drewN _⟩)⟩
      case measure => simp [intOf]; omega
     ·subst hkk
      have hkl : kk < p.lk.length := (List.getElem?_eq_some_iff.1 hlk).1
      obtain ⟨nl, hnl⟩ : ∃ nl, p.lk.length = nl := ⟨_, rfl⟩
      have HLk := hide hlk
      have HCB := hide (hearCh_ok HOK.out tn slot (some ⟨from_, slot, mb, (kk : Int), fsq, fd⟩) ls k)
      have d1 : decide ((0 : Int) ≤ (kk : Int)) = true := decide_eq_true (by omega)
      have k7 := (HA5.out.cluC (hg.trans HG.out)).2.2.2.2.2.2.2.1
      obtain ⟨bl, ol, hAL, lnk2, hl2, _, kt, _⟩ := (HL.out _ _ HB5b.out) kk hkl
      obtain rfl : lnk2 = lnk := by rw [hlk] at hl2; cases hl2; rfl
      rw [HPL.out, hAL, hnl] at k7
      rw [hnl] at hkl
      have hna : (fullN p).na = nl := hnl
      have hnk : (fullN p).nk kk = nd := by show (if kk < p.lk.length then p.nd.toNat else 0) = nd; rw [if_pos (by omega)]; exact HND.out
      have HNA := hide hna; have HNK := hide hnk; have HK7 := hide k7; have HKT := hide kt; have HALe := hide hAL; have HNL := hide hnl
      clear hna hnk hnl hlk hl2 hAL
      obtain ⟨bb, hbit⟩ : ∃ bb, bitB lnk2.t tn = bb := ⟨_, rfl⟩
      have HBIT := hide hbit
      unfold bitB at hbit
      cases bb
      ·have HE := hide (chan_bit p tn (f := ⟨from_, slot, mb, (kk : Int), fsq, fd⟩) (hearCh p tn slot (some ⟨from_, slot, mb, (kk : Int), fsq, fd⟩) ls c k) rfl HLk.out HBIT.out)
       go_quiet (fail)
       go_wp2_with fail
       go_roundw
       case rel => exact ⟨k + 1, by omega, by go_num, by rw [HY2.out]; rfl, hide (HX5.out.drewN _), hide (by rw [HY1.out, HE.out]; exact ⟨a', hg, HA5.out.drewN _, HK5.out.drewN _⟩)⟩
       case measure => simp [intOf]; omega
      ·have HE := hide (chan_yes p tn (f := ⟨from_, slot, mb, (kk : Int), fsq, fd⟩) (hearCh p tn slot (some ⟨from_, slot, mb, (kk : Int), fsq, fd⟩) ls c k) rfl HLk.out HBIT.out)
       have HB5w := hide (Nat.le_trans hb1 HB5.out.size)
       obtain ⟨bt, ot, ct, bt2, ot2, ct2, et1, et2⟩ := HA5.out.takV HNA.out HNK.out (by omega) (by omega)
       have HGG := hide (hg.trans HG.out)
       obtain ⟨k14, kt1, kt2⟩ := HA5.out.takW HGG.out HNA.out HNK.out hkl htn2 et1 et2
       have HET1 := hide et1; have HET2 := hide et2; clear et1 et2
       obtain ⟨gt, hgt⟩ : ∃ gt, a'.gt kk tn = gt := ⟨_, rfl⟩
       rw [hgt] at kt2
       have HTB := hide (HA5.out.takB (k := kk) (i := tn) (by rw [HNK.out]; exact htn2))
       rw [hgt] at HTB
       have HGT := hide hgt; clear hgt
       have HHT := hide htn2
       have HKL := hide hkl
       have bnd := HCB.out.tk kk tn
       obtain ⟨cc, hcc⟩ : ∃ cc, (hearCh p tn slot (some ⟨from_, slot, mb, (kk : Int), fsq, fd⟩) ls c k) = cc := ⟨_, rfl⟩
       have HCC := hide hcc
       rw [hcc] at HTB bnd HA5 HK5 HE HCB
       rw [hcc] at HNW HNXr
       obtain ⟨tb, htb⟩ : ∃ tb, takeB fsq (cc.tk kk tn).nw = tb := ⟨_, rfl⟩
       have HT : Hid (∀ v0, Blk v0 gt 275 #[.int .i64 (cc.tk kk tn).nw, .int .i64 (cc.tk kk tn).c0, .int .i64 (cc.tk kk tn).c1] → Calls Tryz.prog 206 #[.pointer (some ⟨gt, 0, none⟩), .agg #[.int .i64 fsq, .string fd]] v0 fun e w' => e = .returned (.bool tb) ∧ Blk w' gt 275 (takeSt fsq (cc.tk kk tn).nw (cc.tk kk tn).c0 (cc.tk kk tn).c1) ∧ v0.grownBy w' (some gt)) := hide (fun v0 hb => by rw [← htb]; exact take_any gt fsq _ _ _ fd v0 hb bnd.1 bnd.2.1 bnd.2.2.1 (by omega) bnd.2.2.2.2.1 (by omega))
       have HTBB := hide htb
       have HST : Hid (∀ W, Blk W gt 275 (takeSt fsq (cc.tk kk tn).nw (cc.tk kk tn).c0 (cc.tk kk tn).c1) → W5.grownBy W (some gt) → (ClAt W base a' (fullN p) p P fy { cc with tk := upd2 cc.tk kk tn ((cc.tk kk tn).take fsq) } ∧ KeptS W5 W (shape a' (fullN p) p P fy cc) (shape a' (fullN p) p P fy { cc with tk := upd2 cc.tk kk tn ((cc.tk kk tn).take fsq) }) ∧ K W (shape a' (fullN p) p P fy { cc with tk := upd2 cc.tk kk tn ((cc.tk kk tn).take fsq) })) ∧ W.cell? ⟨G, 7, none⟩ = some (.slice (some ⟨bl, ol, none⟩) nl cl) ∧ W.cell? ⟨bl, ol + kk * 4 + 1, none⟩ = some (.int .i64 lnk2.t) ∧ W.cell? ⟨G, 14, none⟩ = some (.slice (some ⟨bt, ot, none⟩) nl ct) ∧ W.cell? ⟨bt, ot + kk, none⟩ = some (.slice (some ⟨bt2, ot2, none⟩) nd ct2) ∧ W.cell? ⟨bt2, ot2 + tn, none⟩ = some (.pointer (some ⟨gt, 0, none⟩)) ∧ W.cell? ⟨w3.heap.size, 3, none⟩ = some (.int .i64 (kk : Int)) ∧ W.cell? ⟨w3.heap.size, 4, none⟩ = some (.int .i64 fsq) ∧ W.cell? ⟨w3.heap.size, 5, none⟩ = some (.string fd)) := hide (fun W hb hgr => by
        have T := HA5.out.took (k := kk) (i := tn) (by rw [HNK.out]; exact HHT.out) fsq (by rw [HGT.out]; exact hb) (by rw [HGT.out]; exact hgr) HB5w.out
        have B := HKK.out.step (by have := HB5b.out; rw [HCC.out] at this; exact this) T.2
        have c7 := (T.1.cluC HGG.out).2.2.2.2.2.2.2.1
        rw [HPL.out, HALe.out, HNL.out] at c7
        obtain ⟨b', o', e', x', h1', _, h3', _⟩ := (HL.out _ _ B) kk (by rw [HNL.out]; exact HKL.out)
        rw [HALe.out] at e'; cases e'
        rw [HLk.out] at h1'; cases h1'
        obtain ⟨t1, t2, t3⟩ := T.1.takW HGG.out HNA.out HNK.out HKL.out HHT.out HET1.out HET2.out
        rw [HGT.out] at t3
        obtain ⟨_, _, _, j3, j4, j5, _⟩ := (T.2.blk HF5.out HNW.out).cells6
        exact ⟨⟨T.1, T.2, B⟩, c7, h3', t1, t2, t3, j3, j4, j5⟩)
       clear bnd htb
       have k7 := HK7.out; have kt := HKT.out
       go_region_held3 (fun w' => w'.cell? ⟨G, 7, none⟩ = some (.slice (some ⟨bl, ol, none⟩) nl cl) ∧ w'.cell? ⟨bl, ol + kk * 4 + 1, none⟩ = some (.int .i64 lnk2.t) ∧ w'.cell? ⟨G, 14, none⟩ = some (.slice (some ⟨bt, ot, none⟩) nl ct) ∧ w'.cell? ⟨bt, ot + kk, none⟩ = some (.slice (some ⟨bt2, ot2, none⟩) nd ct2) ∧ w'.cell? ⟨bt2, ot2 + tn, none⟩ = some (.pointer (some ⟨gt, 0, none⟩)) ∧ w'.cell? ⟨w3.heap.size, 3, none⟩ = some (.int .i64 (kk : Int)) ∧ w'.cell? ⟨w3.heap.size, 4, none⟩ = some (.int .i64 fsq) ∧ w'.cell? ⟨w3.heap.size, 5, none⟩ = some (.string fd)) (first | exact ⟨k7, kt, k14, kt1, kt2, i3, i4, i5⟩ | exact S7.out)
        (first | (go_at_call 206; go_must (refine (HT.out _ (by first | exact HTB.out | exact HTB.out.drew)).mono ?_); rintro e w7 ⟨rfl, hb7, hg7⟩; have H7 := hide (HST.out w7 hb7 (grown_undrew hg7)); have S7 := hide H7.out.2; clear hb7 hg7))
       clear k7 kt k14 kt1 kt2 i0 i1 i2 i3 i4 i5
       cases tb
       ·go_wp2_with fail
        go_roundw
        case rel => exact ⟨k + 1, by omega, by go_num, by rw [HY2.out]; rfl, hide (H7.out.1.2.1.blk HX5.out HNXr.out), hide (by rw [HY1.out, HCC.out, HE.out, HTBB.out]; exact ⟨a', hg, H7.out.1.1, HK5.out.trans H7.out.1.2.1⟩)⟩
        case measure => simp [intOf]; omega
       ·clear S7
        have HA7 := hide H7.out.1.1; have HK7' := hide H7.out.1.2.1; have HB7 := hide H7.out.1.2.2
        have HF7 := hide (HK7'.out.blk HF5.out HNW.out)
        have HNW7 := hide (HK7'.out.not HF5.out.lt HNW.out)
        have HB7w := hide (Nat.le_trans HB5w.out HK7'.out.size)
        have HX7 := hide (HK7'.out.blk HX5.out HNXr.out)
        have HNX7 := hide (HK7'.out.not HX5.out.lt HNXr.out)
        clear H7
        obtain ⟨bq, oq, cq, bq2, oq2, cq2, et1, et2⟩ := HA7.out.prtV HNA.out HNK.out (by omega) (by omega)
        obtain ⟨k15, kp1, kp2⟩ := HA7.out.prtW HGG.out HNA.out HNK.out hkl htn2 et1 et2
        have HEP1 := hide et1; have HEP2 := hide et2; clear et1 et2
        obtain ⟨gp, hgp⟩ : ∃ gp, a'.gp kk tn = gp := ⟨_, rfl⟩
        rw [hgp] at kp2
        have HPB := hide (HA7.out.prtB (k := kk) (i := tn) (by rw [HNK.out]; exact htn2))
        rw [hgp] at HPB
        have HGP := hide hgp; clear hgp
        obtain ⟨vp, hvp⟩ : ∃ vp, a'.vp kk tn = vp := ⟨_, rfl⟩
        rw [hvp] at HPB
        have HVP := hide hvp; clear hvp
        obtain ⟨_, _, _, j3, j4, j5, _⟩ := HF7.out.cells6
        have bnd := HCB.out.pr kk tn
        obtain ⟨er, her⟩ : ∃ er, putE fd.size (cc.pr kk tn).q.length 16 = er := ⟨_, rfl⟩
        have HER := hide her; clear her
        have HSn : Hid (∀ v0, v0.heap = w7.heap → v0.os = w7.os → v0.tape = w7.tape → v0.output = w7.output → Calls Tryz.prog 207 #[.pointer (some ⟨gp, 0, none⟩), .string fd] v0 fun r w' => r = .returned (errV er) ∧ QuPost w7 base gp 16 vp ((cc.pr kk tn).put fd).lost ((cc.pr kk tn).put fd).q w') := hide (fun v0 hh ho ht hu => by
         have P1 : Blk v0 gp 266 (quC 16 vp (cc.pr kk tn).lost) := by have := HPB.out.1; unfold Blk at this ⊢; rw [hh]; exact this
         have P2 : QAt v0 base 9 vp (sv (cc.pr kk tn).q) := HPB.out.2.1.keep (fun g _ _ _ => by rw [hh])
         refine (qsend_any gp base 16 vp (cc.pr kk tn).lost (cc.pr kk tn).q v0 fd er HER P1 P2 (fun k e => by rw [hh]; exact HPB.out.2.2.2 k e) HPB.out.2.2.1 (by rw [hh]; exact HB7w.out) (by simp [maxLen]; omega) (by omega) bnd.1 (by omega)).mono ?_
         rintro r w' ⟨e1, v', q1, q2, q3, q4⟩
         refine ⟨e1, v', ?_, ?_, ⟨q3.os.trans ho, q3.tape.trans ht, q3.output.trans hu, by rw [← hh]; exact q3.size, fun i hi h1 h2 => by rw [← hh] at hi ⊢; exact q3.block i hi h1 h2⟩, fun k e => by rw [← hh]; exact q4 k e⟩
         ·unfold Pr.put; rw [HER.out]; exact q1
         ·unfold Pr.put; rw [HER.out]; exact q2)
        have HSU : Hid (∀ W, QuPost w7 base gp 16 vp ((cc.pr kk tn).put fd).lost ((cc.pr kk tn).put fd).q W → ((∃ v, ClAt W base { a' with vp := upd2 a'.vp kk tn v } (fullN p) p P fy { cc with tk := upd2 cc.tk kk tn ((cc.tk kk tn).take fsq), pr := upd2 cc.pr kk tn ((cc.pr kk tn).put fd) } ∧ KeptS w7 W (shape a' (fullN p) p P fy { cc with tk := upd2 cc.tk kk tn ((cc.tk kk tn).take fsq) }) (shape { a' with vp := upd2 a'.vp kk tn v } (fullN p) p P fy { cc with tk := upd2 cc.tk kk tn ((cc.tk kk tn).take fsq), pr := upd2 cc.pr kk tn ((cc.pr kk tn).put fd) }))) ∧ W.cell? ⟨G, 15, none⟩ = some (.slice (some ⟨bq, oq, none⟩) nl cq) ∧ W.cell? ⟨bq, oq + kk, none⟩ = some (.slice (some ⟨bq2, oq2, none⟩) nd cq2) ∧ W.cell? ⟨bq2, oq2 + tn, none⟩ = some (.pointer (some ⟨gp, 0, none⟩)) ∧ W.cell? ⟨w3.heap.size, 3, none⟩ = some (.int .i64 (kk : Int)) ∧ W.cell? ⟨w3.heap.size, 5, none⟩ = some (.string fd)) := hide (fun W hq => by
         obtain ⟨v, T1, T2⟩ := HA7.out.put (k := kk) (i := tn) (by rw [HNK.out]; exact HHT.out) ((cc.pr kk tn).put fd) (by rw [HGP.out, HVP.out]; exact hq) HB7w.out
         obtain ⟨t1, t2, t3⟩ := T1.prtW (b := bq) (off := oq) (cp := cq) (b2 := bq2) (off2 := oq2) (cp2 := cq2) HGG.out HNA.out HNK.out HKL.out HHT.out HEP1.out HEP2.out
         have t3' : W.cell? ⟨bq2, oq2 + tn, none⟩ = some (.pointer (some ⟨gp, 0, none⟩)) := by rw [← HGP.out]; exact t3
         obtain ⟨_, _, _, j3, j4, j5, _⟩ := (T2.blk HF7.out HNW7.out).cells6
         exact ⟨⟨v, T1, T2⟩, t1, t2, t3', j3, j5⟩)
        clear bnd
        go_wp2_with fail
        go_region_held3 (fun w' => w'.cell? ⟨G, 15, none⟩ = some (.slice (some ⟨bq, oq, none⟩) nl cq) ∧ w'.cell? ⟨bq, oq + kk, none⟩ = some (.slice (some ⟨bq2, oq2, none⟩) nd cq2) ∧ w'.cell? ⟨bq2, oq2 + tn, none⟩ = some (.pointer (some ⟨gp, 0, none⟩)) ∧ w'.cell? ⟨w3.heap.size, 3, none⟩ = some (.int .i64 (kk : Int)) ∧ w'.cell? ⟨w3.heap.size, 5, none⟩ = some (.string fd)) (first | exact ⟨k15, kp1, kp2, j3, j5⟩ | exact S8.out)
         (first | (go_at_call 207; go_must (refine (HSn.out _ (by rfl) (by rfl) (by rfl) (by rfl)).mono ?_); rintro e w8 ⟨rfl, hq8⟩; have H8 := hide (HSU.out w8 hq8); have S8 := hide H8.out.2; clear hq8))
        obtain ⟨v8, T1, T2⟩ := H8.out.1
        have HT1 := hide T1; have HT2 := hide T2
        clear T1 T2 H8 S8 k15 kp1 kp2 j3 j4 j5
        go_wp2_with fail
        go_roundw
        case rel => exact ⟨k + 1, by omega, by go_num, by rw [HY2.out]; rfl, hide (HT2.out.blk HX7.out HNX7.out), hide (by rw [HY1.out, HCC.out, HE.out, HTBB.out]; exact ⟨{ a' with vp := upd2 a'.vp kk tn v8 }, hg, HT1.out, (HK5.out.trans HK7'.out).trans HT2.out⟩)⟩
        case measure => simp [intOf]; omega
    ·go_wp2_with fail
     go_roundw
     case rel => exact ⟨k + 1, by omega, by go_num, by rw [(hear_no (came_lost HBB.out) p c).2], hide (HX.out.below HB2.out HX.out.lt), hide (by rw [(hear_no (came_lost HBB.out) p c).1]; exact HC.out.below HB2.out)⟩
     case measure => simp [intOf]; omega
  ·obtain rfl : k = 2 := by omega
   have HA := hide hA'
   obtain ⟨bm, om, cm, k12, km⟩ := HA.out.memC (hg.trans HG.out) HND.out htn2
   obtain ⟨gm, hgm⟩ : ∃ gm, a'.gm tn = gm := ⟨_, rfl⟩
   rw [hgm] at km
   have hcb := (hearCh_ok HOK.out tn slot fr ls 2).mm tn
   have HM := hide (HA.out.memB (i := tn) (by rw [HND.out]; exact htn2))
   rw [hgm] at HM
   have HGM := hide hgm
   have hwi := what_in (c.mm tn).m from_ fr (cameK fr ls slot tn 2)
   have HCN := hide (hears_in gm tn p.nd.toNat _ _ _ _ from_ (whatV (c.mm tn).m from_ fr (cameK fr ls slot tn 2)) wr HM.out (by omega) (by omega) hne hcb.1 hwi.1 hwi.2 hcb.2.1 (by omega) hcb.2.2.2.1 (by omega))
   rw [Mm.hearC] at HCN
   have HK := hide hK
   have HF := hide (hearsF_ch p from_ tn slot fr ls c)
   generalize whatV (c.mm tn).m from_ fr (cameK fr ls slot tn 2) = what at HCN HF
   clear hA' hK hcb hwi hgm
   go_wp2_with fail
   refine HCN.out.mono ?_
   rintro e w2 ⟨rfl, hb2, hg2⟩
   have T := HA.out.memTo (i := tn) (by rw [HND.out]; exact htn2) (((hearCh p tn slot fr ls c 2).mm tn).hear from_ what) (by rw [HGM.out]; exact hb2) (by rw [HGM.out]; exact hg2) hb1
   have HT := hide T
   clear T hb2 hg2
   go_wp2_with fail
   go_end0
   exact ⟨rfl, by rw [HF.out]; exact ClTo.trans HKW.out rfl ⟨a', hg, HT.out.1, HK.out.trans HT.out.2⟩⟩
end
end Go.Proofs.YtideefjnlakciaaGreatDoor
