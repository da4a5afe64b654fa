/- What the document's Bytes writes of a frame, or that it does not; and when Open's bytes are just these; no condition. -/
import Derived.Test.YtdbegdhbabfnoaaDoorFj
import Derived.Test.YtdbegdhbabfnoaaDoorFx
set_option linter.unusedVariables false
set_option linter.unusedSimpArgs false
namespace Go.Proofs.YtdbegdhbabfnoaaDoor
open Go.RowKit

def BxPost (w : World) (o : Option (List Nat)) (e : Ending) (w' : World) : Prop :=
  match o with
  | none => e = .returned (.tuple #[.slice none 0 0, .int .i64 1]) ∧ Below w.heap.size w w'
  | some ws => RbPost w ws e w'
def bx (nd sl mb lk sq : Int) (d : ByteArray) : Option (List Nat) :=
  if fOk nd sl mb lk sq d.size = true then some (if lk = -1 then withSum (frN nd.toNat sl.toNat mb.toNat) else withSum (frB nd.toNat sl.toNat mb.toNat lk.toNat sq.toNat (dl d))) else none
theorem bytes_any (nd sl mb lk sq : Int) (d : ByteArray) (hd : d.size ≤ 9223372036854775807) : (∀ w, Calls Tryd.prog 10 #[frV nd sl mb lk sq d] w (BxPost w (bx nd sl mb lk sq d))) ∧ ∀ ws, bx nd sl mb lk sq d = some ws → (∀ x ∈ ws, x < 256) ∧ 7 ≤ ws.length := by
  cases h : fOk nd sl mb lk sq d.size
  · have e : bx nd sl mb lk sq d = none := by unfold bx; rw [h]; rfl
    rw [e]
    exact ⟨fun w => rb_bad nd sl mb lk sq d w hd h, fun ws h => by cases h⟩
  · have h0 := h
    unfold fOk at h
    have h := of_decide_eq_true h
    obtain ⟨⟨a1, a2, a3, a4, a5, a6⟩, hc⟩ := h
    obtain ⟨nd, rfl⟩ := Int.eq_ofNat_of_zero_le a1
    obtain ⟨sl, rfl⟩ := Int.eq_ofNat_of_zero_le a3
    obtain ⟨mb, rfl⟩ := Int.eq_ofNat_of_zero_le a5
    rcases hc with ⟨rfl, rfl, hz⟩ | ⟨b1, b2, b3, b4, b5⟩
    · obtain rfl := size_empty hz
      have hlt := frN_lt nd sl mb (by omega) (by omega) (by omega)
      have e : bx nd sl mb (-1) 0 ⟨#[]⟩ = some (withSum (frN nd sl mb)) := by unfold bx; rw [if_pos h0, if_pos rfl]; rfl
      rw [e]
      refine ⟨fun w => rb_none nd sl mb w (by omega) (by omega) (by omega), fun ws h => ?_⟩
      cases h
      exact ⟨withSum_lt _ hlt, by simp [withSum_len, frN]⟩
    · obtain ⟨lk, rfl⟩ := Int.eq_ofNat_of_zero_le b1
      obtain ⟨sq, rfl⟩ := Int.eq_ofNat_of_zero_le b3
      have hlt := frB_lt nd sl mb lk sq d (by omega) (by omega) (by omega) (by omega) (by omega) b5
      have e : bx nd sl mb lk sq d = some (withSum (frB nd sl mb lk sq (dl d))) := by unfold bx; rw [if_pos h0, if_neg (by omega)]; rfl
      rw [e]
      refine ⟨fun w => rb_some nd sl mb lk sq d w (by omega) (by omega) (by omega) (by omega) (by omega) b5, fun ws h => ?_⟩
      cases h
      exact ⟨withSum_lt _ hlt, by simp only [withSum_len, frB, List.length_append, List.length_cons, List.length_nil]; omega⟩
theorem dl_strN (l : List Nat) (hl : ∀ x ∈ l, x < 256) : dl (strN l) = l := by
  unfold strN dl strOfNums
  simp only [List.map_map]
  induction l with
  | nil => rfl
  | cons x l ih =>
    have hx := hl x (by simp)
    have := ih (fun y hy => hl y (by simp [hy]))
    simp only [List.map_cons, Function.comp] at this ⊢
    rw [this]
    congr 1
    simp
    omega
theorem strN_inj {a b : List Nat} (ha : ∀ x ∈ a, x < 256) (hb : ∀ x ∈ b, x < 256) (h : strN a = strN b) : a = b := by
  rw [← dl_strN a ha, ← dl_strN b hb, h]
/-- Bytes without a message. -/
theorem opn_case0 (l : List Nat) (h7 : 7 ≤ l.length) (h : l.getD 4 0 = 0) : opnOk l = decide (bx (l.getD 0 0) (l.getD 1 0) (l.getD 2 0 * 256 + l.getD 3 0 : Nat) ((l.getD 4 0 : Int) - 1) 0 ⟨#[]⟩ = some l) ∧ frVal (decF l) = frV (l.getD 0 0) (l.getD 1 0) (l.getD 2 0 * 256 + l.getD 3 0 : Nat) ((l.getD 4 0 : Int) - 1) 0 ⟨#[]⟩ := by
  constructor
  · unfold opnOk bx
    rw [decide_eq_true h7, Bool.true_and, if_pos h, h, show (⟨#[]⟩ : ByteArray).size = 0 from rfl]
    cases hf : fOk (l.getD 0 0) (l.getD 1 0) (l.getD 2 0 * 256 + l.getD 3 0 : Nat) (((0 : Nat) : Int) - 1) 0 0
    · rw [if_neg (by decide)]; rfl
    · rw [if_pos rfl, if_pos (by decide)]
      simp only [Int.toNat_natCast, Bool.true_and, Option.some.injEq]
  · unfold decF; rw [if_pos h]
theorem opn_case1 (l : List Nat) (hl : ∀ x ∈ l, x < 256) (h9 : 9 ≤ l.length) (h : l.getD 4 0 ≠ 0) : opnOk l = decide (bx (l.getD 0 0) (l.getD 1 0) (l.getD 2 0 * 256 + l.getD 3 0 : Nat) ((l.getD 4 0 : Int) - 1) (l.getD 5 0) (strN ((l.drop 7).take (l.length - 9))) = some l) ∧ frVal (decF l) = frV (l.getD 0 0) (l.getD 1 0) (l.getD 2 0 * 256 + l.getD 3 0 : Nat) ((l.getD 4 0 : Int) - 1) (l.getD 5 0) (strN ((l.drop 7).take (l.length - 9))) := by
  constructor
  · have hs : (strN ((l.drop 7).take (l.length - 9))).size = l.length - 9 := by rw [strN_size, List.length_take, List.length_drop]; omega
    have hd : dl (strN ((l.drop 7).take (l.length - 9))) = (l.drop 7).take (l.length - 9) := dl_strN _ (fun x hx => hl x (List.mem_of_mem_drop (List.mem_of_mem_take hx)))
    unfold opnOk bx
    rw [decide_eq_true (by omega : 7 ≤ l.length), Bool.true_and, if_neg h, decide_eq_true h9, Bool.true_and, hs, hd]
    cases hf : fOk (l.getD 0 0) (l.getD 1 0) (l.getD 2 0 * 256 + l.getD 3 0 : Nat) ((l.getD 4 0 : Int) - 1) (l.getD 5 0) (l.length - 9)
    · rw [if_neg (by decide)]; rfl
    · rw [if_pos rfl, if_neg (by omega)]
      have e : ((l.getD 4 0 : Int) - 1).toNat = l.getD 4 0 - 1 := by omega
      simp only [Int.toNat_natCast, e, Bool.true_and, Option.some.injEq]
  · unfold decF; rw [if_neg h]
theorem opn_case2 (l : List Nat) (h9 : ¬ 9 ≤ l.length) (h : l.getD 4 0 ≠ 0) : opnOk l = false := by
  unfold opnOk
  rw [if_neg h, decide_eq_false h9]; simp
end Go.Proofs.YtdbegdhbabfnoaaDoor
