/- errors.As at an At around an Errno into an Errno's variable; condition: errors.errorType holds what start-up lays there. -/
import Derived.Test.YtideefjnlakciaaGreatDoorP12
import Derived.Test.YtideefjnlakciaaGreatDoorP04
import Derived.Deep.QuietTactic
import Derived.BigQuiet
set_option linter.unusedVariables false
set_option linter.unusedSimpArgs false
namespace Go.Proofs.YtideefjnlakciaaGreatDoor
section
open Go.RowKit Go.Extern.Stop Go.Stop Go.Extern
set_option maxHeartbeats 4000000 in
theorem as_at (e pl : Int) (g : Nat) (t : Addr) (old : Value) (w : World) (hp : Blk w g 259 #[.int .i64 e, .int .i64 pl]) (hg : ErrT w) (ht0 : w.cell? t = some old) (hf0 : w.frozen? t = false) :
 Calls Tryz.prog 108 #[.iface 258 (.pointer (some ⟨g, 0, none⟩)), .iface 181 (.pointer (some t))] w fun ev w' => ev = .returned (.bool true) ∧ w' = ((((w.alloc (.cells #[.pointer (some t)] 181)).alloc (.cells #[hdl 181, .pointer (some ⟨w.heap.size, 0, none⟩), .int .u64 150] 236)).alloc (.cells #[hdl 181, .pointer (some ⟨w.heap.size, 0, none⟩), .int .u64 150] 236)).alloc (.cells #[.int .i64 e] 61)).setCell t (.int .i64 e) := by
 have h6 := @run_callFunc_extern Tryz.prog 149 _ (fun args => ReflectliteValue.unpack (args.getD 0 (.tuple #[]))) Tryz.func149 (by kernel_rfl) (by kernel_rfl) (by kernel_rfl) (by kernel_rfl)
 have h7 := @run_callFunc_extern Tryz.prog 150 _ (ReflectliteValue.methodAny (ReflectliteValue.valueError "reflectlite.Value.Type" 0) (fun t _ _ _ => ReflectliteType.toType t)) Tryz.func150 (by kernel_rfl) (by kernel_rfl) (by kernel_rfl) (by kernel_rfl)
 have h8 := @run_callFunc_extern Tryz.prog 151 _ (ReflectliteValue.method (ReflectliteValue.valueError "reflectlite.Value.IsNil" 0) ReflectliteValue.isNil) Tryz.func151 (by kernel_rfl) (by kernel_rfl) (by kernel_rfl) (by kernel_rfl)
 have h27 := @run_callFunc_extern Tryz.prog 231 _ (ReflectliteType.abiMethod fun t => do pure (.int .u8 (← Rtype.kind t))) Tryz.func231 (by kernel_rfl) (by kernel_rfl) (by kernel_rfl) (by kernel_rfl)
 have h37 := @run_callFunc_extern Tryz.prog 250 _ (ReflectliteType.method ReflectliteType.elem) Tryz.func250 (by kernel_rfl) (by kernel_rfl) (by kernel_rfl) (by kernel_rfl)
 have h38 := @run_callFunc_extern Tryz.prog 251 _ (ReflectliteType.relation "Implements" ReflectliteType.implements_) Tryz.func251 (by kernel_rfl) (by kernel_rfl) (by kernel_rfl) (by kernel_rfl)
 have h10 := @run_callFunc_extern Tryz.prog 182 _ ReflectliteType.typeOf Tryz.func182 (by kernel_rfl) (by kernel_rfl) (by kernel_rfl) (by kernel_rfl)
 have h35 := @run_callFunc_extern Tryz.prog 248 _ (ReflectliteType.relation "AssignableTo" ReflectliteType.assignableTo) Tryz.func248 (by kernel_rfl) (by kernel_rfl) (by kernel_rfl) (by kernel_rfl)
 have h11 := @run_callFunc_extern Tryz.prog 183 _ (ReflectliteValue.method (ReflectliteValue.valueError "reflectlite.Value.Elem" 0) ReflectliteValue.elem) Tryz.func183 (by kernel_rfl) (by kernel_rfl) (by kernel_rfl) (by kernel_rfl)
 have h12 := @run_callFunc_extern Tryz.prog 184 _ ReflectliteValue.set Tryz.func184 (by kernel_rfl) (by kernel_rfl) (by kernel_rfl) (by kernel_rfl)
 have tO := er_typeOfE
 have mA := er_methodAssignableTo
 have a25 := er_assignableE
 have v25 := er_valueOfE
 have f6 := er_valueOfP
 have f7 := er_typeP
 have mK := er_methodKind
 have mE := er_methodElem
 have mI := er_methodImplements
 have k27 := er_kindP
 have k25 := er_kindE
 have e27 := er_elemP
 have i25 := er_implementsE
 have n8 := er_isNilP ⟨w.heap.size, 0, none⟩ t ((w.alloc (.cells #[.pointer (some t)] 181)).alloc (.cells #[hdl 181, .pointer (some ⟨w.heap.size, 0, none⟩), .int .u64 150] 236)) (by simp)
 have hlt : 4 < w.heap.size := World.block_lt_of_cell? w ⟨4, 0, none⟩ hg
 have hg2 : ((w.alloc (.cells #[.pointer (some t)] 181)).alloc (.cells #[hdl 181, .pointer (some ⟨w.heap.size, 0, none⟩), .int .u64 150] 236)).cell? ⟨4, 0, none⟩ = some (.iface 277 (.agg #[hdl 48])) := by
  rw [World.cell?_alloc_lt _ _ ⟨4, 0, none⟩ (by simp <;> omega), World.cell?_alloc_lt _ _ ⟨4, 0, none⟩ hlt]; exact hg
 have htl : t.block < w.heap.size := World.block_lt_of_cell? w t ht0
 have el := er_elemVP ⟨w.heap.size, 0, none⟩ t (((w.alloc (.cells #[.pointer (some t)] 181)).alloc (.cells #[hdl 181, .pointer (some ⟨w.heap.size, 0, none⟩), .int .u64 150] 236)).alloc (.cells #[hdl 181, .pointer (some ⟨w.heap.size, 0, none⟩), .int .u64 150] 236)) (by rw [World.cell?_alloc_lt _ _ ⟨w.heap.size, 0, none⟩ (by simp; omega)]; simp)
 have st := er_setE t ⟨w.heap.size + 1 + 1 + 1, 0, none⟩ e old ((((w.alloc (.cells #[.pointer (some t)] 181)).alloc (.cells #[hdl 181, .pointer (some ⟨w.heap.size, 0, none⟩), .int .u64 150] 236)).alloc (.cells #[hdl 181, .pointer (some ⟨w.heap.size, 0, none⟩), .int .u64 150] 236)).alloc (.cells #[.int .i64 e] 61))
  (by rw [World.cell?_alloc_at _ _ _ _ (by simp)]; rfl)
  (by rw [World.cell?_alloc_lt _ _ t (by simp; omega), World.cell?_alloc_lt _ _ t (by simp; omega), World.cell?_alloc_lt _ _ t (by simp; omega), World.cell?_alloc_lt _ _ t htl]; exact ht0)
  (by rw [World.frozen?_alloc_old _ _ t (by simp; omega), World.frozen?_alloc_old _ _ t (by simp; omega), World.frozen?_alloc_old _ _ t (by simp; omega), World.frozen?_alloc_old _ _ t (Nat.ne_of_lt htl)]; exact hf0)
 have tA := er_typeOfA
 have aA := er_assignableA
 have nA := er_noAs
 have hU := er_hasUnwrap
 have mU := er_methodUnwrap
 have hpl := hp.lt
 have c0 := (((hp.alloc (.cells #[.pointer (some t)] 181)).alloc (.cells #[hdl 181, .pointer (some ⟨w.heap.size, 0, none⟩), .int .u64 150] 236)).alloc (.cells #[hdl 181, .pointer (some ⟨w.heap.size, 0, none⟩), .int .u64 150] 236)).cells2.1
 clear hp
 go_enter Tryz.func108, Tryz.ntmps108
 go_wp2
 refine wp_loop_rounds 2 ?_
 rw [rounds_succ]
 go_wp2
 rw [rounds_succ]
 go_wp2
 go_ret
 exact ⟨rfl, rfl⟩
end
section
open Go.RowKit
theorem errT_alloc {w : World} (h : ErrT w) (o : Obj) : ErrT (w.alloc o) := by
 have hlt := World.block_lt_of_cell? w ⟨4, 0, none⟩ h
 show World.cell? (w.alloc o) _ = _
 rw [World.cell?_alloc_lt _ _ ⟨4, 0, none⟩ hlt]; exact h
theorem errT_below {w w' : World} (h : ErrT w) (hb : Below w.heap.size w w') : ErrT w' :=
 (hb.cell (World.block_lt_of_cell? w ⟨4, 0, none⟩ h)).trans h
set_option maxHeartbeats 1000000 in
theorem tell_errno (e : Int) (w : World) (hg : ErrT w) : Calls Tryz.prog 67 #[.iface 61 (.int .i64 e)] w fun r w' => r = .returned (.int .i64 e) ∧ Below w.heap.size w w' := by
 have hg1 := errT_alloc hg (.cells #[.int .i64 0] 61)
 have hG := hide hg1; clear hg1 hg
 have hN := Blk.new w 61 #[.int .i64 0]
 obtain ⟨c0, f0⟩ := hN.cells1
 have C0 := hide c0; have F0 := hide f0; clear hN c0 f0
 go_enter Tryz.func67, Tryz.ntmps67
 go_wp2_with fail
 refine (as_errno e ⟨w.heap.size, 0, none⟩ (.int .i64 0) _ (by exact hG.out) (by exact C0.out) (by exact F0.out)).mono ?_
 rintro r w' ⟨rfl, rfl⟩
 go_wp2_with fail
 go_ret
 refine ⟨rfl, ?_⟩
 exact (((((Below.refl _ _).alloc (Nat.le_refl _) _).alloc (by simp) _).alloc (by simp <;> omega) _).alloc (by simp <;> omega) _).alloc (by simp <;> omega) _
set_option maxHeartbeats 1000000 in
theorem tell_at (e pl : Int) (g : Nat) (w : World) (hg : ErrT w) (hp : Blk w g 259 #[.int .i64 e, .int .i64 pl]) : Calls Tryz.prog 67 #[.iface 258 (.pointer (some ⟨g, 0, none⟩))] w fun r w' => r = .returned (.int .i64 e) ∧ Below w.heap.size w w' := by
 have hg1 := errT_alloc hg (.cells #[.int .i64 0] 61)
 have hG := hide hg1; clear hg1 hg
 have HP := hide (hp.alloc (.cells #[.int .i64 0] 61)); clear hp
 have hN := Blk.new w 61 #[.int .i64 0]
 obtain ⟨c0, f0⟩ := hN.cells1
 have C0 := hide c0; have F0 := hide f0; clear hN c0 f0
 go_enter Tryz.func67, Tryz.ntmps67
 go_wp2_with fail
 refine (as_at e pl g ⟨w.heap.size, 0, none⟩ (.int .i64 0) _ (by exact HP.out) (by exact hG.out) (by exact C0.out) (by exact F0.out)).mono ?_
 rintro r w' ⟨rfl, rfl⟩
 go_wp2_with fail
 go_ret
 refine ⟨rfl, ?_⟩
 exact (((((Below.refl _ _).alloc (Nat.le_refl _) _).alloc (by simp) _).alloc (by simp <;> omega) _).alloc (by simp <;> omega) _).alloc (by simp <;> omega) _
end
section
open Go Go.RowKit
def RoundPost (w : World) (zs : List Int) (rs : List (List Int)) (f : Int) (r : Ending) (w' : World) : Prop := Below w.heap.size w w' ∧
 ((rs.length ≠ zs.length ∧ r = .returned (.tuple #[.slice none 0 0, errV 1])) ∨
 (rs.length = zs.length ∧ ∃ i, i < zs.length ∧ (∀ j, j < i → setE zs.length f (zs.getD j 0) (rs.getD j []) = 0) ∧ setE zs.length f (zs.getD i 0) (rs.getD i []) ≠ 0 ∧ ∃ v, r = .returned (.tuple #[.slice none 0 0, v]) ∧ AtV w' v (setE zs.length f (zs.getD i 0) (rs.getD i [])) i) ∨
 (rs.length = zs.length ∧ (∀ j, j < zs.length → setE zs.length f (zs.getD j 0) (rs.getD j []) = 0) ∧ ∃ v, r = .returned (.tuple #[v, .nilIface]) ∧ w'.ownsRow w.heap.size 3 1 v zs.length ((setL zs rs f zs.length).map (Value.int .i64))))
theorem tell_errV {e : Int} (h : e ≠ 0) (w : World) (hg : ErrT w) : Calls Tryz.prog 67 #[errV e] w fun r w' => r = .returned (.int .i64 e) ∧ Below w.heap.size w w' := by
 unfold errV
 rw [if_neg h]
 exact tell_errno e w hg
set_option maxRecDepth 100000 in
set_option maxHeartbeats 2000000 in
theorem round_any (A : Option Addr) (c : Nat) (B : Option Addr) (d : Nat) (zs : List Int) (rs : List (List Int)) (f : Int) (w : World) (hA : IsL w A zs) (hB : RowsAt w B rs) (h1 : zs.length ≤ 20) (_h2 : rs.length ≤ 25) (h3 : ∀ r ∈ rs, r.length ≤ 30) (hf : f ≤ 9223372036854775807) (hE : ErrT w) :
 Calls Tryz.prog 174 #[.slice A zs.length c, .slice B rs.length d, .int .i64 f] w (RoundPost w zs rs f) := by
 have HA := hide hA; have HR := hide hB; have HE := hide hE; have H3 := hide h3; have HF := hide hf
 clear hA hB hE h3 hf
 obtain ⟨n, hn⟩ : ∃ n, zs.length = n := ⟨_, rfl⟩
 obtain ⟨q, hq⟩ : ∃ q, rs.length = q := ⟨_, rfl⟩
 have HN := hide hn; have HQ := hide hq
 rw [hn, hq]
 have hn20 : n ≤ 20 := by omega
 clear hn hq h1
 by_cases hnq : q = n
 case neg =>
  have d1 : ((q : Int) != (n : Int)) = true := bne_iff_ne.2 (by omega)
  have d2 : ¬ (q : Int) = (n : Int) := by omega
  go_enter Tryz.func174, Tryz.ntmps174
  go_wp2_with fail
  go_ret2
  exact ⟨Below.refl _ _, .inl ⟨by rw [HN.out, HQ.out]; exact hnq, ret_two2 rfl errV_1⟩⟩
 case pos =>
  subst hnq
  go_enter Tryz.func174, Tryz.ntmps174
  go_wp2_with fail
  go_loopw [8, 21] (fun v8 i wr => ∃ k : Nat, k ≤ q ∧ i = .int .i64 k ∧ Hid (∀ j, j < k → setE q f (zs.getD j 0) (rs.getD j []) = 0) ∧ Hid (wr.ownsRow w.heap.size 3 1 v8 k ((setL zs rs f k).map (Value.int .i64))) ∧ Hid (Below w.heap.size w wr)) (fun _ i _ => q - (intOf i).toNat)
  case atStart => exact ⟨0, by omega, rfl, hide (fun j hj => by omega), hide (World.ownsRow_nil _ _ _ _), hide (Below.refl _ _)⟩
  case round =>
   obtain ⟨k, hk, rfl, HZ, HO, HW⟩ := hrel
   by_cases hlt : k < q
   ·obtain ⟨b, off, Ar, cr, rfl, hc, hIr⟩ := (HR.out.below (Nat.le_refl _) HW.out) k (by rw [HQ.out]; exact hlt)
    obtain ⟨b2, off2, rfl, hc2⟩ := (HA.out.below (Nat.le_refl _) HW.out) k (by rw [HN.out]; exact hlt)
    obtain ⟨x, hx⟩ : ∃ x, zs.getD k 0 = x := ⟨_, rfl⟩
    obtain ⟨r, hr⟩ : ∃ r, rs.getD k [] = r := ⟨_, rfl⟩
    rw [hr] at hc hIr
    rw [hx] at hc2
    have hrl : r.length ≤ 30 := H3.out r (by rw [← hr]; simp [List.getD, show k < rs.length by rw [HQ.out]; exact hlt])
    have HX := hide hx; have HRR := hide hr
    have HON := hide (one_any x Ar cr r q f wr hIr (by omega) HF.out)
    have HSE : Hid (setE q f (zs.getD k 0) (rs.getD k []) = setE q f x r) := hide (by rw [hx, hr])
    have HMV : Hid (zs.getD k 0 + midV (rs.getD k []) f = x + midV r f) := hide (by rw [hx, hr])
    have hxb : setE q f x r = 0 → outT x = false := fun h => (setE_zero h).2.1
    have HXB := hide hxb
    have HBD := hide (midV_bd r f)
    obtain ⟨lr, hlr⟩ : ∃ lr, r.length = lr := ⟨_, rfl⟩
    rw [hlr] at hc HON
    clear hx hr hIr hrl hxb hlr
    generalize setE q f x r = se at HON HSE HXB
    generalize midV r f = mv at HON HMV HBD
    by_cases he : se = 0
    ·subst he
     go_wp2_with fail
     refine HON.out.mono ?_
     rintro e w2 ⟨⟨v, rfl, hv⟩, hB2⟩
     obtain rfl := hv trivial
     obtain ⟨o1, o2⟩ := outT_bd (HXB.out trivial)
     obtain ⟨o3, o4⟩ := HBD.out
     have HB2 := hide hB2
     have hc3 := (hB2.cell (p := ⟨b2, off2 + k, none⟩) (World.block_lt_of_cell? _ _ hc2)).trans hc2
     have HO2 := hide ((own_keepR HO.out hB2).alloc (.cells #[.int .i64 (x + v)] 3))
     have HW2 := hide (HW.out.trans (hB2.mono HW.out.size))
     obtain ⟨i0, hi, hz0, hz1, hz2⟩ := en_info_parts ar_info
     have e1 : wrap64 (x + v) = x + v := by unfold wrap64; omega
     clear hB2 hv
     go_wp2_with (at_builtin; go_must (refine wpList_append_own _ rfl (.tmp 46) (.tmp 53) _ rfl w.heap.size 3 i0 _ 1 8 Tryz.underlying33 hi hz0 hz1 hz2 rfl (by decide) u8 k ((setL zs rs f k).map (Value.int .i64)) rfl (by exact HO2.out) ⟨w2.heap.size, 0, none⟩ 1 1 [.int .i64 (x + v)] rfl rfl (by exact news1 (Blk.new w2 3 #[.int .i64 (x + v)])) (by intro u hu; simp at hu; subst hu; rfl) (by simp [maxLen]; omega) (by omega) (by have := HW2.out.size; simp; omega) ?_); intro v8 w8 hown hg _; have HO8 := hide hown; have HG8 := hide hg; clear hown hg)
     go_roundw
     case rel => exact ⟨k + 1, by omega, by go_num, hide (all_succ HZ.out HSE.out), hide (by rw [setL_succ, HMV.out]; simpa using HO8.out), hide ((HW2.out.alloc HW2.out.size _).grown HG8.out (by have := HW2.out.size; simp; omega) (fun j e => (HO2.out.lt j e).1))⟩
     case measure => simp [intOf]; omega
    ·have d1 : (se != 0) = true := bne_iff_ne.2 he
     have d2 : (se == 0) = false := beq_eq_false_iff_ne.2 he
     have HSN := hide he
     clear he
     go_wp2_with fail
     refine HON.out.mono ?_
     rintro e w2 ⟨⟨v, rfl, -⟩, hB2⟩
     have HW2 := hide (HW.out.trans (hB2.mono HW.out.size))
     clear hB2
     go_wp2_with fail
     refine (tell_errV HSN.out _ (errT_below HE.out HW2.out)).mono ?_
     rintro e w3 ⟨rfl, hB3⟩
     have HW3 := hide (HW2.out.trans (hB3.mono HW2.out.size))
     clear hB3
     go_wp2_with fail
     go_ret2
     refine ⟨HW3.out.alloc HW3.out.size _, .inr (.inl ⟨by rw [HN.out, HQ.out], k, by rw [HN.out]; exact hlt, by rw [HN.out]; exact HZ.out, by rw [HN.out, HSE.out]; exact HSN.out, _, rfl, ?_⟩)⟩
     rw [HN.out, HSE.out]
     exact AtV.at_ (Blk.new w3 _ _)
   ·obtain rfl : k = q := by omega
    go_wp2_with fail
    go_ret2
    exact ⟨HW.out, .inr (.inr ⟨by rw [HN.out, HQ.out], by rw [HN.out]; exact HZ.out, _, rfl, by rw [HN.out]; exact HO.out⟩)⟩
end
end Go.Proofs.YtideefjnlakciaaGreatDoor
