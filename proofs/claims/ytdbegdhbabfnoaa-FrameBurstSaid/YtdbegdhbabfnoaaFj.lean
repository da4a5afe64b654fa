/- The contract of frame.Decode at any seven bytes or more; condition: the bytes lie in memory. -/
import Derived.Test.YtdbegdhbabfnoaaFg
import Derived.Test.YtdbegdhbabfnoaaFh
import Derived.Test.YtdbegdhbabfnoaaFi
import Derived.Test.YtdbegdhbabfnoaaDp
set_option linter.unusedVariables false
set_option linter.unusedSimpArgs false
namespace Go.Proofs.Ytdbegdhbabfnoaa
open Go.RowKit

abbrev frVal (r : FrR) : Value := frV r.nd r.sl r.mb r.lk r.sq r.d

theorem bytes_cell {w : World} {b off n : Nat} {l : List Nat} (h : BytesAt w (some ⟨b, off, none⟩) n l) (j : Nat) (hj : j < n) : w.cell? ⟨b, off + j, none⟩ = some (.int .u8 (l.getD j 0 : Nat)) := by
  obtain ⟨b', off', e, hc⟩ := h j hj
  cases e
  exact hc
theorem getD_lt {l : List Nat} (hl : ∀ x ∈ l, x < 256) (j : Nat) : l.getD j 0 < 256 := by
  rw [List.getD]
  cases h : l[j]? with
  | none => simp
  | some v => exact hl v (List.mem_of_getElem? h)
theorem take_bytes {w : World} {b off n m : Nat} {l : List Nat} (h : BytesAt w (some ⟨b, off, none⟩) n l) (hm : m ≤ n) : BytesAt w (some ⟨b, off, none⟩) m (l.take m) := by
  intro j hj
  refine ⟨b, off, rfl, ?_⟩
  rw [bytes_cell h j (by omega)]
  simp [List.getD, List.getElem?_take_of_lt hj]
theorem mid_getD (l : List Nat) (k i : Nat) (hi : i < k) : (((l.drop 7).take k).map fun (x : Nat) => (x : Int)).getD i 0 = ((l.getD (7 + i) 0 : Nat) : Int) := by
  simp only [List.getD, List.getElem?_map, List.getElem?_take_of_lt hi, List.getElem?_drop]
  cases l[7 + i]? <;> rfl

theorem DecPost.of_bad {w w' : World} {v : Value} {e : Ending} (h : DecBad w e w') : DecPost w false v e w' := by
  unfold DecPost; rw [if_neg (by decide)]; exact h

theorem dec_any (l : List Nat) (b off c : Nat) (w : World) (hl : ∀ x ∈ l, x < 256) (h7 : 7 ≤ l.length) (hc : l.length ≤ c) (hc2 : c ≤ 9223372036854775807) (hB : BytesAt w (some ⟨b, off, none⟩) l.length l) :
    Calls Try.prog 7 #[.slice (some ⟨b, off, none⟩) l.length c] w (DecPost w (decOk l) (frVal (decF l))) := by
  obtain ⟨m, hm⟩ : ∃ m, m = l.length - 2 := ⟨_, rfl⟩
  have hlen : l.length = m + 2 := by omega
  have hcell := fun j hj => bytes_cell hB j hj
  have htl : (l.take m).length = m := by rw [List.length_take]; omega
  have htb : BytesAt w (some ⟨b, off, none⟩) (l.take m).length (l.take m) := by rw [htl]; exact take_bytes hB (by omega)
  have hlt : ∀ x ∈ l.take m, x < 256 := fun x hx => hl x (List.mem_of_mem_take hx)
  have hx := hcell m (by omega)
  have hy := hcell (m + 1) (by omega)
  by_cases hs : crcS (l.take m) = l.getD m 0 * 256 + l.getD (m + 1) 0
  · have hok : decOk l = decG l := by
      unfold decOk
      rw [hlen, show m + 2 - 2 = m by omega, show m + 2 - 1 = m + 1 by omega, decide_eq_true (by omega : 7 ≤ m + 2), decide_eq_true hs]
      rfl
    rw [hok]
    have hxl : ((((l.drop 7).take (m - 7)).map fun (x : Nat) => (x : Int))).length = m - 7 := by
      rw [List.length_map, List.length_take, List.length_drop]; omega
    have hxc : ∀ i, i < m - 7 → w.cell? ⟨b, off + 7 + i, none⟩ = some (.int .u8 ((((l.drop 7).take (m - 7)).map fun (x : Nat) => (x : Int)).getD i 0)) := by
      intro i hi
      rw [mid_getD l _ i hi, ← hcell (7 + i) (by omega), Nat.add_assoc]
    have hfin : ∀ r, Calls Try.prog 7 #[.slice (some ⟨b, off, none⟩) (m + 2) c] w r → Calls Try.prog 7 #[.slice (some ⟨b, off, none⟩) l.length c] w r := by intro r hr; rw [hlen]; exact hr
    apply hfin
    by_cases h4 : l.getD 4 0 = 0
    · have hL : ((l.getD 4 0 : Nat) : Int) - 1 < 0 := by omega
      refine dec_neg (l.getD 0 0) (l.getD 1 0) (l.getD 2 0) (l.getD 3 0) (l.getD 4 0) (l.getD 5 0) (l.getD 6 0) b off m c (l.take m) (l.getD m 0) (l.getD (m + 1) 0) w (by omega) (by omega) hc2 htl hlt htb hx hy (getD_lt hl _) (getD_lt hl _) hs
        (hcell 0 (by omega)) (hcell 1 (by omega)) (hcell 2 (by omega)) (hcell 3 (by omega)) (hcell 4 (by omega)) (getD_lt hl _) (getD_lt hl _) (getD_lt hl _) (getD_lt hl _) (getD_lt hl _) _ rfl
        (fun _ => hcell 5 (by omega)) (fun _ => hcell 6 (by omega)) (getD_lt hl _) (getD_lt hl _) _ hxl hxc _ ?_ hL _ ?_
      · show (if _ then _ else _) = _
        rw [if_pos hL]
        unfold decG
        rw [if_pos h4, hlen]
        congr 1
        exact decide_eq_decide.2 (by omega)
      · show (if _ then _ else _) = _
        rw [if_pos hL]
        unfold decF
        rw [if_pos h4]
    · have hL : ¬ ((l.getD 4 0 : Nat) : Int) - 1 < 0 := by omega
      have hL0 : 0 ≤ ((l.getD 4 0 : Nat) : Int) - 1 := by omega
      have hG : (if ((l.getD 4 0 : Nat) : Int) - 1 < 0 then decide (m = 5) && fOk (l.getD 0 0) (l.getD 1 0) (l.getD 2 0 * 256 + l.getD 3 0 : Nat) (((l.getD 4 0 : Nat) : Int) - 1) 0 0 else decide (m = 7 + l.getD 6 0) && fOk (l.getD 0 0) (l.getD 1 0) (l.getD 2 0 * 256 + l.getD 3 0 : Nat) (((l.getD 4 0 : Nat) : Int) - 1) (l.getD 5 0 : Nat) (m - 7)) = decG l := by
        rw [if_neg hL]
        unfold decG
        rw [if_neg h4, hlen, show m + 2 - 9 = m - 7 by omega]
        congr 1
        exact decide_eq_decide.2 (by omega)
      have hV : (if ((l.getD 4 0 : Nat) : Int) - 1 < 0 then frV (l.getD 0 0) (l.getD 1 0) (l.getD 2 0 * 256 + l.getD 3 0 : Nat) (((l.getD 4 0 : Nat) : Int) - 1) 0 ⟨#[]⟩ else frV (l.getD 0 0) (l.getD 1 0) (l.getD 2 0 * 256 + l.getD 3 0 : Nat) (((l.getD 4 0 : Nat) : Int) - 1) (l.getD 5 0 : Nat) (strOfNums (((l.drop 7).take (m - 7)).map fun (x : Nat) => (x : Int)))) = frVal (decF l) := by
        rw [if_neg hL]
        unfold decF
        rw [if_neg h4, hlen, show m + 2 - 9 = m - 7 by omega]
        rfl
      by_cases h6 : m = 7 + l.getD 6 0
      · exact dec_pos2 (l.getD 0 0) (l.getD 1 0) (l.getD 2 0) (l.getD 3 0) (l.getD 4 0) (l.getD 5 0) (l.getD 6 0) b off m c (l.take m) (l.getD m 0) (l.getD (m + 1) 0) w (by omega) (by omega) hc2 htl hlt htb hx hy (getD_lt hl _) (getD_lt hl _) hs
          (hcell 0 (by omega)) (hcell 1 (by omega)) (hcell 2 (by omega)) (hcell 3 (by omega)) (hcell 4 (by omega)) (getD_lt hl _) (getD_lt hl _) (getD_lt hl _) (getD_lt hl _) (getD_lt hl _) _ rfl
          (fun _ => hcell 5 (by omega)) (fun _ => hcell 6 (by omega)) (getD_lt hl _) (getD_lt hl _) _ hxl hxc _ hG hL0 h6 _ hV
      · exact dec_pos1 (l.getD 0 0) (l.getD 1 0) (l.getD 2 0) (l.getD 3 0) (l.getD 4 0) (l.getD 5 0) (l.getD 6 0) b off m c (l.take m) (l.getD m 0) (l.getD (m + 1) 0) w (by omega) (by omega) hc2 htl hlt htb hx hy (getD_lt hl _) (getD_lt hl _) hs
          (hcell 0 (by omega)) (hcell 1 (by omega)) (hcell 2 (by omega)) (hcell 3 (by omega)) (hcell 4 (by omega)) (getD_lt hl _) (getD_lt hl _) (getD_lt hl _) (getD_lt hl _) (getD_lt hl _) _ rfl
          (fun _ => hcell 5 (by omega)) (fun _ => hcell 6 (by omega)) (getD_lt hl _) (getD_lt hl _) _ hxl hxc _ hG hL0 h6 _ hV
  · have hok : decOk l = false := by
      unfold decOk
      rw [hlen, show m + 2 - 2 = m by omega, show m + 2 - 1 = m + 1 by omega, decide_eq_false hs]
      simp
    rw [hok, hlen]
    exact (dec_sum b off m c (l.take m) (l.getD m 0) (l.getD (m + 1) 0) w (by omega) (by omega) hc2 htl hlt htb hx hy (getD_lt hl _) (getD_lt hl _) hs).mono fun _ _ h => DecPost.of_bad h
end Go.Proofs.Ytdbegdhbabfnoaa
