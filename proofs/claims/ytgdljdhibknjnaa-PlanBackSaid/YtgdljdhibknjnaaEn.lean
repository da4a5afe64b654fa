/- The contract of plan.put; conditions: the bytes lie in a row of the call's own, the numbers in memory. -/
import Derived.Test.YtgdljdhibknjnaaQu
import Derived.Test.YtgdljdhibknjnaaPq
import Derived.Test.YtgdljdhibknjnaaOpen
import Derived.Deep.Cut
import Derived.Deep.CutRange
import Derived.Deep.CutBlock
namespace Go.Proofs.Ytgdljdhibknjnaa
open Go.RowKit

/-- Bytes as cells. -/
def bvN (l : List Nat) : List Value := l.map fun (n : Nat) => Value.int .u8 (n : Int)
theorem bvN_len (l : List Nat) : (bvN l).length = l.length := by simp [bvN]
theorem bvN_snoc (l : List Nat) (n : Nat) : bvN (l ++ [n]) = bvN l ++ [.int .u8 (n : Int)] := by simp [bvN]
/-- What was written besides what was there: the value's own block, and new ones. -/
def OwnTo (w w' : World) (v v' : Value) : Prop := w.grownBy w' v.ownBlock ∧ ∀ k, v'.ownBlock = some k → k < w'.heap.size ∧ (v.ownBlock = some k ∨ w.heap.size ≤ k)
theorem OwnTo.refl (w : World) (v : Value) (h : ∀ k, v.ownBlock = some k → k < w.heap.size) : OwnTo w w v v := ⟨World.grownBy.refl w _, fun k e => ⟨h k e, .inl e⟩⟩
theorem OwnTo.trans {w w1 w2 : World} {v v1 v2 : Value} (h : OwnTo w w1 v v1) (k : OwnTo w1 w2 v1 v2) : OwnTo w w2 v v2 := by
  refine ⟨⟨k.1.os.trans h.1.os, k.1.tape.trans h.1.tape, k.1.output.trans h.1.output, Nat.le_trans h.1.size k.1.size, fun i hi hne => ?_⟩, fun j e => ?_⟩
  · rw [k.1.block i (Nat.lt_of_lt_of_le hi h.1.size) ?_]
    · exact h.1.block i hi hne
    · intro e
      rcases (h.2 i e.symm).2 with e2 | e2
      · exact hne e2.symm
      · omega
  · obtain ⟨a, b⟩ := k.2 j e
    refine ⟨a, ?_⟩
    rcases b with b | b
    · exact (h.2 j b).2
    · exact .inr (Nat.le_trans h.1.size b)
theorem OwnTo.alloc {w w' : World} {v v' : Value} (h : OwnTo w w' v v') (o : Obj) : OwnTo w (w'.alloc o) v v' := ⟨only_alloc h.1 o, fun k e => ⟨by rw [World.size_alloc]; have := (h.2 k e).1; omega, (h.2 k e).2⟩⟩
theorem OwnTo.below {w w' : World} {v v' : Value} (h : OwnTo w w' v v') (hv : v.ownBlock = none) : Below w.heap.size w w' := ⟨h.1.os, h.1.tape, h.1.output, h.1.size, fun i hi => h.1.block i hi (by rw [hv]; simp)⟩
/-- Numbers in memory. -/
def NumsAt (w : World) (A : Option Addr) (n : Nat) (zs : List Nat) : Prop := ∀ j, j < n → ∃ b off, A = some ⟨b, off, none⟩ ∧ w.cell? ⟨b, off + j, none⟩ = some (.int .i64 (zs.getD j 0 : Nat))
theorem u8_or : ∀ x : Fin 256, bits .or .u8 (x.val : Int) 128 = ((x.val % 128 + 128 : Nat) : Int) := by decide +kernel
set_option maxRecDepth 100000 in
theorem u8_wrap (m : Nat) : IntKind.u8.wrap (m : Int) = ((m % 256 : Nat) : Int) := by rw [IntKind.wrap_u8]; push_cast; rfl
theorem vbyte (m : Nat) : bits .or .u8 (IntKind.u8.wrap (m : Int)) 128 = ((m % 128 + 128 : Nat) : Int) := by
  rw [u8_wrap]
  have h := u8_or ⟨m % 256, Nat.mod_lt _ (by decide)⟩
  simp only at h
  rw [h]
  congr 2
  omega
theorem en_u8_info : (Try.prog.info? 5).map (fun i => (i.zero, i.size, i.bytes)) = some (some (.int .u8 0), 1, 1) := by kernel_rfl
set_option maxRecDepth 100000 in
theorem en_info_parts {t : TypeId} {z : Value} {a b : Nat} (h : (Try.prog.info? t).map (fun i => (i.zero, i.size, i.bytes)) = some (some z, a, b)) : ∃ i, Try.prog.info? t = some i ∧ i.zero = some z ∧ i.size = a ∧ i.bytes = b := by
  cases e : Try.prog.info? t with
  | none => rw [e] at h; cases h
  | some i => rw [e] at h; simp at h; exact ⟨i, rfl, h.1, h.2.1, h.2.2⟩
theorem vnums_len10 (l : List Nat) (h : ∀ z ∈ l, (vnum z).length ≤ 10) : (vnums l).length ≤ 10 * l.length := by
  induction l with
  | nil => simp [vnums_nil]
  | cons n l ih =>
    have h1 := h n (by simp)
    have h2 := ih (fun m hm => h m (by simp [hm]))
    rw [vnums_cons, List.length_append, List.length_cons]; omega
theorem vnums_take (zs : List Nat) (k : Nat) (hk : k < zs.length) : vnums (zs.take (k + 1)) = vnums (zs.take k) ++ vnum (zs.getD k 0) := by
  rw [List.take_succ_eq_append_getElem hk, vnums_app]
  congr 1
  rw [vnums_cons, vnums_nil, List.append_nil]
  simp [hk]
theorem own_of {w w' : World} {v : Value} {g o n c : Nat} (ho : v.ownBlock = some g ∨ w.heap.size ≤ g) (hlt : g < w'.heap.size) : ∀ k, (Value.slice (some ⟨g, o, none⟩) n c).ownBlock = some k → k < w'.heap.size ∧ (v.ownBlock = some k ∨ w.heap.size ≤ k) := by
  intro k e
  simp [Value.ownBlock] at e
  subst e
  exact ⟨hlt, ho⟩
/-- What put leaves. -/
def PutPost (w : World) (base : Nat) (v : Value) (l : List Nat) (r : Ending) (w' : World) : Prop := ∃ v', r = .returned v' ∧ QAt w' base 5 v' (bvN l) ∧ OwnTo w w' v v'
section
variable (base : Nat) (v : Value) (l : List Nat) (A : Option Addr) (n c : Nat) (zs : List Nat)
set_option maxRecDepth 100000 in
set_option maxHeartbeats 4000000 in
theorem put_any (w : World) (hQ : QAt w base 5 v (bvN l)) (hv : ∀ k, v.ownBlock = some k → k < w.heap.size) (hbase : base ≤ w.heap.size) (hN : NumsAt w A n zs) (hz : zs.length = n) (hA : ∀ b off, A = some ⟨b, off, none⟩ → v.ownBlock ≠ some b) (hb : ∀ z ∈ zs, z < 9223372036854775808) (hlen : l.length + 10 * n ≤ 100000) (hl2 : ∀ z ∈ zs, (vnum z).length ≤ 10) :
    Calls Try.prog 63 #[v, .slice A n c] w (PutPost w base v (l ++ vnums zs)) := by
  have hn : n ≤ 100000 := by omega
  have HQ := hide hQ; have HV := hide hv; have HBA := hide hbase; have HN := hide hN; have HZ := hide hz; have HA := hide hA; have HB := hide hb; have HL := hide hlen; have HL2 := hide hl2
  obtain ⟨i0, hi, hz0, hz1, hz2⟩ := en_info_parts en_u8_info
  clear hQ hv hbase hN hz hA hb hlen hl2
  go_enter Try.func63, Try.ntmps63
  go_wp2_with fail
  go_loopw [0, 6, 9] (fun b _ i wr => ∃ k : Nat, k ≤ n ∧ i = .int .i64 k ∧ Hid (QAt wr base 5 b (bvN (l ++ vnums (zs.take k))) ∧ OwnTo w wr v b)) (fun _ _ i _ => n - (intOf i).toNat)
  case atStart => exact ⟨0, by omega, rfl, hide ⟨by simpa [vnums_nil] using HQ.out, OwnTo.refl w v HV.out⟩⟩
  case round =>
    obtain ⟨k, hk, rfl, HI⟩ := hrel
    by_cases hlt : k < n
    · obtain ⟨bl, off, rfl, c0⟩ := HN.out k hlt
      have hbl := World.block_lt_of_cell? _ _ c0
      obtain ⟨z, hz⟩ : ∃ z, zs.getD k 0 = z := ⟨_, rfl⟩
      have k0 : wr.cell? ⟨bl, off + k, none⟩ = some (.int .i64 (z : Nat)) := by
        rw [← hz, ← c0]
        have := HI.out.2.1.block bl hbl (fun e => HA.out bl off rfl e.symm)
        unfold World.cell?; simp only [this]
      have hmem : z ∈ zs := by rw [← hz]; simp [show k < zs.length by rw [HZ.out]; exact hlt]
      have hz63 : z < 9223372036854775808 := HB.out z hmem
      have hz10 : (vnum z).length ≤ 10 := HL2.out z hmem
      have HZK := hide hz
      obtain ⟨pk, hpk⟩ : ∃ pk, l ++ vnums (zs.take k) = pk := ⟨_, rfl⟩
      have hpl : pk.length ≤ l.length + 10 * k := by
        rw [← hpk, List.length_append]
        have := vnums_len10 (zs.take k) (fun x hx => HL2.out x (List.mem_of_mem_take hx))
        rw [List.length_take] at this; omega
      have HPL := hide hpl
      rw [hpk] at HI
      have HPK := hide hpk
      clear c0 hz hmem hpk hpl
      go_wp2_with fail
      obtain ⟨wo, rfl⟩ : ∃ wo : World, wo = wr := ⟨_, rfl⟩
      go_loopw [0, 6] (fun b m wr => ∃ (x : Nat) (pre : List Nat), m = .int .i64 x ∧ x < 9223372036854775808 ∧ Hid (QAt wr base 5 b (bvN pre) ∧ OwnTo w wr v b ∧ pre ++ vnum x = pk ++ vnum z)) (fun _ m _ => (intOf m).toNat)
      case atStart => exact ⟨z, pk, rfl, hz63, hide ⟨HI.out.1, HI.out.2, rfl⟩⟩
      case round =>
        obtain ⟨x, pre, rfl, hx, HJ⟩ := hrel
        obtain ⟨ao, cc, hvv, -⟩ := HJ.out.1.shape
        rw [bvN_len] at hvv
        subst hvv
        have HPRE := hide (show pre.length ≤ 100010 by have h := congrArg List.length HJ.out.2.2; simp only [List.length_append] at h; have := HPL.out; have := HL.out; omega)
        by_cases h128 : x < 128
        · have e2 : (x : Int) % 256 = (x : Int) := by omega
          go_wp2_with (at_builtin; go_must (refine wpList_append_q _ rfl (.tmp 23) (.tmp 26) _ rfl base 5 i0 _ 1 Try.underlying56 hi hz0 hz1 hz2 rfl (.slice ao pre.length cc) (bvN pre) rfl (by exact HJ.out.1.alloc _) wr.heap.size 0 1 (.int .u8 (x : Int)) rfl (by exact (Blk.new wr 5 #[.int .u8 (x : Int)]).cells1.1) rfl (by have := HPRE.out; simp [maxLen, bvN_len]; omega) (by have := HPRE.out; simp [bvN_len]; omega) (by have := HBA.out; have := HJ.out.2.1.1.size; simp; omega) ?_); intro g1 o1 cap1 w3 hQ3 hgr ho hb1 hlt1; have HQ3 := hide hQ3; have HO3 : Hid (OwnTo w w3 v (.slice (some ⟨g1, o1, none⟩) ((bvN pre).length + 1) cap1)) := hide ((HJ.out.2.1.alloc _).trans ⟨hgr, own_of ho hlt1⟩); clear hQ3 hgr ho hb1 hlt1)
          go_roundw
          case rel => exact ⟨k + 1, by omega, by go_num, hide ⟨by rw [vnums_take zs k (by rw [HZ.out]; exact hlt), HZK.out, ← List.append_assoc, HPK.out, ← HJ.out.2.2, vnum_small h128, bvN_snoc]; exact HQ3.out, HO3.out⟩⟩
          case measure => simp [intOf]; omega
        · obtain ⟨y, hy⟩ : ∃ y, x % 128 + 128 = y := ⟨_, rfl⟩
          have e1 := vbyte x
          rw [IntKind.wrap_u8] at e1
          rw [hy] at e1
          have HY := hide hy; clear hy
          obtain ⟨x2, hx2⟩ : ∃ x2, x / 128 = x2 := ⟨_, rfl⟩
          have e3 : (x : Int) / 2 ^ 7 = (x2 : Int) := by rw [← hx2]; push_cast; rfl
          have e4 : (x : Int) / 128 = (x2 : Int) := by rw [← hx2]; push_cast; rfl
          have HX2 := hide hx2; clear hx2
          go_wp2_with (at_builtin; go_must (refine wpList_append_q _ rfl (.tmp 17) (.tmp 21) _ rfl base 5 i0 _ 1 Try.underlying56 hi hz0 hz1 hz2 rfl (.slice ao pre.length cc) (bvN pre) rfl (by exact HJ.out.1.alloc _) wr.heap.size 0 1 (.int .u8 (y : Int)) rfl (by exact (Blk.new wr 5 #[.int .u8 (y : Int)]).cells1.1) rfl (by have := HPRE.out; simp [maxLen, bvN_len]; omega) (by have := HPRE.out; simp [bvN_len]; omega) (by have := HBA.out; have := HJ.out.2.1.1.size; simp; omega) ?_); intro g1 o1 cap1 w3 hQ3 hgr ho hb1 hlt1; have HQ3 := hide hQ3; have HO3 : Hid (OwnTo w w3 v (.slice (some ⟨g1, o1, none⟩) ((bvN pre).length + 1) cap1)) := hide ((HJ.out.2.1.alloc _).trans ⟨hgr, own_of ho hlt1⟩); clear hQ3 hgr ho hb1 hlt1)
          go_roundw
          case rel => exact ⟨x2, pre ++ [y], rfl, by have := HX2.out; omega, hide ⟨by rw [bvN_snoc]; exact HQ3.out, HO3.out, by rw [← HJ.out.2.2, vnum_big h128, HX2.out, HY.out, List.append_assoc]; rfl⟩⟩
          case measure => have := HX2.out; simp [intOf]; omega
    · obtain rfl : n = k := by omega
      have HR : Hid (QAt wr base 5 u0 (bvN (l ++ vnums zs)) ∧ OwnTo w wr v u0) := by
        have := HI.out
        rw [List.take_of_length_le (by rw [HZ.out]; omega)] at this
        exact hide this
      clear HI
      go_wp2_with fail
      go_ret
      exact ⟨_, rfl, HR.out⟩
end
end Go.Proofs.Ytgdljdhibknjnaa
