/- The contracts of package port: a sampling port, a queuing one; conditions: each lies in a block of its own, its texts in another one. -/
import Derived.Test.YtgdljdhibknjnabDoorVs
namespace Go.Proofs.YtgdljdhibknjnabDoor
open Go.RowKit

def saC (keep : Int) (d : ByteArray) (at_ : Int) : Array Value := #[.int .i64 keep, .string d, .int .i64 at_]
def quC (most : Int) (v : Value) (lost : Int) : Array Value := #[.int .i64 most, v, .int .i64 lost]
theorem Blk.c3 {w : World} {g : Nat} {t : TypeId} {a b c : Value} (h : Blk w g t #[a, b, c]) : w.cell? ⟨g, 0, none⟩ = some a ∧ w.cell? ⟨g, 1, none⟩ = some b ∧ w.cell? ⟨g, 2, none⟩ = some c :=
  ⟨by simpa using h.cell 0, by simpa using h.cell 1, by simpa using h.cell 2⟩
/-- What Write answers. -/
def wrE (n : Nat) (now at_ : Int) : Int := if 40 < n then 4 else if now < 0 ∨ 1099511627776 < now then 2 else if now < at_ then 10 else 0
/-- What Read answers. -/
def rdE (now at_ : Int) : Int := if at_ < 0 then 8 else if now < at_ then 10 else 0
def rdD (e : Int) (d : ByteArray) : ByteArray := if e = 0 then d else ⟨#[]⟩
def rdF (e now at_ keep : Int) : Bool := decide (e = 0) && decide (now < at_ + keep)
section
variable (g base : Nat)
set_option maxRecDepth 100000 in
theorem newSamp_bad (keep : Int) (w : World) (h : keep < 1 ∨ 1099511627776 < keep) :
    Calls Tryd.prog 52 #[.int .i64 keep] w fun e w' => e = .returned (.tuple #[.pointer none, errV 2]) ∧ w' = w := by
  have hc : Hid (decide (keep < 1) = true ∨ (decide (keep < 1) = false ∧ decide (1099511627776 < keep) = true)) := hide (by simp only [decide_eq_true_eq, decide_eq_false_iff_not]; omega)
  clear h
  rcases hc.out with h1 | ⟨h1, h2⟩
  all_goals
    clear hc
    go_enter Tryd.func52, Tryd.ntmps52
    go_wp2_with fail
    go_ret2
    exact ⟨rfl, rfl⟩
set_option maxRecDepth 100000 in
theorem newSamp_ok (keep : Int) (w : World) (h1 : 1 ≤ keep) (h2 : keep ≤ 1099511627776) :
    Calls Tryd.prog 52 #[.int .i64 keep] w fun e w' => e = .returned (.tuple #[.pointer (some ⟨w.heap.size, 0, none⟩), errV 0]) ∧ w.alloc (.cells (saC keep ⟨#[]⟩ (-1)) 159) = w' := by
  have d1 : decide (keep < 1) = false := decide_eq_false (by omega)
  have d2 : decide (1099511627776 < keep) = false := decide_eq_false (by omega)
  clear h1 h2
  go_enter Tryd.func52, Tryd.ntmps52
  go_wp2_with fail
  go_ret2
  exact ⟨rfl, rfl⟩
set_option maxRecDepth 100000 in
theorem newQue_bad (most : Int) (w : World) (h : most < 1 ∨ 16 < most) :
    Calls Tryd.prog 53 #[.int .i64 most] w fun e w' => e = .returned (.tuple #[.pointer none, errV 2]) ∧ w' = w := by
  have hc : Hid (decide (most < 1) = true ∨ (decide (most < 1) = false ∧ decide (16 < most) = true)) := hide (by simp only [decide_eq_true_eq, decide_eq_false_iff_not]; omega)
  clear h
  rcases hc.out with h1 | ⟨h1, h2⟩
  all_goals
    clear hc
    go_enter Tryd.func53, Tryd.ntmps53
    go_wp2_with fail
    go_ret2
    exact ⟨rfl, rfl⟩
set_option maxRecDepth 100000 in
theorem newQue_ok (most : Int) (w : World) (h1 : 1 ≤ most) (h2 : most ≤ 16) :
    Calls Tryd.prog 53 #[.int .i64 most] w fun e w' => e = .returned (.tuple #[.pointer (some ⟨w.heap.size, 0, none⟩), errV 0]) ∧ w.alloc (.cells (quC most (.slice none 0 0) 0) 161) = w' := by
  have d1 : decide (most < 1) = false := decide_eq_false (by omega)
  have d2 : decide (16 < most) = false := decide_eq_false (by omega)
  clear h1 h2
  go_enter Tryd.func53, Tryd.ntmps53
  go_wp2_with fail
  go_ret2
  exact ⟨rfl, rfl⟩
set_option maxRecDepth 100000 in
theorem swrite_any (keep : Int) (d0 d : ByteArray) (at_ now e : Int) (w : World) (he : Hid (wrE d.size now at_ = e)) (hb : Blk w g 159 (saC keep d0 at_)) (hd : d.size ≤ maxLen) :
    Calls Tryd.prog 54 #[.pointer (some ⟨g, 0, none⟩), .string d, .int .i64 now] w fun r w' => r = .returned (errV e) ∧ Blk w' g 159 (if e = 0 then saC keep d now else saC keep d0 at_) ∧ w.grownBy w' (some g) := by
  have q := he.out
  unfold wrE at q
  unfold maxLen at hd
  obtain ⟨c0, c1, c2⟩ := hb.c3
  have f1 := hb.frozen 1
  have f2 := hb.frozen 2
  have HB := hide hb
  clear hb he
  by_cases h1 : 40 < d.size
  · have d1 : decide ((40 : Int) < (d.size : Int)) = true := decide_eq_true (by omega)
    rw [if_pos h1] at q
    subst q
    rw [if_neg (by decide)]
    clear h1
    go_enter Tryd.func54, Tryd.ntmps54
    go_wp2_with fail
    go_ret
    exact ⟨rfl, HB.out, only_refl _ _⟩
  · have d1 : decide ((40 : Int) < (d.size : Int)) = false := decide_eq_false (by omega)
    rw [if_neg h1] at q
    by_cases h2 : now < 0 ∨ 1099511627776 < now
    · rw [if_pos h2] at q
      subst q
      rw [if_neg (by decide)]
      have hc : Hid (decide (now < 0) = true ∨ (decide (now < 0) = false ∧ decide (1099511627776 < now) = true)) := hide (by simp only [decide_eq_true_eq, decide_eq_false_iff_not]; omega)
      clear h1 h2
      rcases hc.out with h1 | ⟨h1, h2⟩
      all_goals
        clear hc
        go_enter Tryd.func54, Tryd.ntmps54
        go_wp2_with fail
        go_ret
        exact ⟨rfl, HB.out, only_refl _ _⟩
    · rw [if_neg h2] at q
      have d2 : decide (now < 0) = false := decide_eq_false (by omega)
      have d3 : decide (1099511627776 < now) = false := decide_eq_false (by omega)
      by_cases h3 : now < at_
      · have d4 : decide (now < at_) = true := decide_eq_true h3
        rw [if_pos h3] at q
        subst q
        rw [if_neg (by decide)]
        clear h1 h2 h3
        go_enter Tryd.func54, Tryd.ntmps54
        go_wp2_with fail
        go_ret
        exact ⟨rfl, HB.out, only_refl _ _⟩
      · have d4 : decide (now < at_) = false := decide_eq_false h3
        rw [if_neg h3] at q
        subst q
        rw [if_pos rfl]
        clear h1 h2 h3
        go_enter Tryd.func54, Tryd.ntmps54
        go_wp2_with fail
        go_ret
        refine ⟨rfl, (HB.out.set_ 1 _).set_ 2 _, ?_⟩
        repeat (first | exact only_refl _ _ | refine only_drew ?_ | refine only_drewN ?_ _ | refine only_alloc ?_ _ | refine only_setCell ?_ (by simp) _)
set_option maxRecDepth 100000 in
theorem sread_any (keep : Int) (d : ByteArray) (at_ now e : Int) (w : World) (he : Hid (rdE now at_ = e)) (hb : Blk w g 159 (saC keep d at_)) (hn : now ≤ 9223372036854775807) :
    Calls Tryd.prog 55 #[.pointer (some ⟨g, 0, none⟩), .int .i64 now] w fun r w' => r = .returned (.tuple #[.string (rdD e d), .bool (rdF e now at_ keep), errV e]) ∧ ∃ n, w' = w.drewN n := by
  have q := he.out
  unfold rdE at q
  obtain ⟨c0, c1, c2⟩ := hb.c3
  clear hb he
  by_cases h1 : at_ < 0
  · have d1 : decide (at_ < 0) = true := decide_eq_true h1
    rw [if_pos h1] at q
    subst q
    have e1 : rdD 8 d = ⟨#[]⟩ := rfl
    have e2 : rdF 8 now at_ keep = false := rfl
    rw [e1, e2]
    clear h1 e1 e2
    go_enter Tryd.func55, Tryd.ntmps55
    go_wp2_with fail
    refine bodyPost_ret (by simp [results, Tryd.results55, go_sem] <;> rfl) rfl ⟨rfl, 0, rfl⟩
  · have d1 : decide (at_ < 0) = false := decide_eq_false h1
    rw [if_neg h1] at q
    by_cases h3 : now < at_
    · have d4 : decide (now < at_) = true := decide_eq_true h3
      rw [if_pos h3] at q
      subst q
      have e1 : rdD 10 d = ⟨#[]⟩ := rfl
      have e2 : rdF 10 now at_ keep = false := rfl
      rw [e1, e2]
      clear h1 h3 e1 e2
      go_enter Tryd.func55, Tryd.ntmps55
      go_wp2_with fail
      refine bodyPost_ret (by simp [results, Tryd.results55, go_sem] <;> rfl) rfl ⟨rfl, 0, rfl⟩
    · have d4 : decide (now < at_) = false := decide_eq_false h3
      rw [if_neg h3] at q
      subst q
      have e1 : rdD 0 d = d := rfl
      have e2 : rdF 0 now at_ keep = decide (now - at_ < keep) := by unfold rdF; simp; omega
      rw [e1, e2]
      have hw : wrap64 (now - at_) = now - at_ := IntWalk.wrap64_in _ ⟨by omega, by omega⟩
      have HW := hide (show 0 ≤ at_ ∧ at_ ≤ now by omega)
      clear e1 e2
      go_enter Tryd.func55, Tryd.ntmps55
      go_wp2_with fail
      go_quiet (fail)
      go_wp2_with fail
      refine bodyPost_ret (by simp [results, Tryd.results55, go_sem] <;> rfl) rfl ⟨rfl, _, rfl⟩
variable (most : Int) (v : Value) (lost : Int) (q : List ByteArray)
/-- What a queuing port's methods leave. -/
def QuPost (w : World) (base g : Nat) (most : Int) (v : Value) (lost : Int) (q : List ByteArray) (w' : World) : Prop :=
  ∃ v', Blk w' g 161 (quC most v' lost) ∧ QAt w' base 9 v' (sv q) ∧ Kept2 w w' g v.ownBlock ∧ Own w w' v v'
theorem QuPost.same {w w' : World} {base g : Nat} {most : Int} {v : Value} {lost : Int} {q : List ByteArray} (hb : Blk w g 161 (quC most v lost)) (hQ : QAt w base 9 v (sv q)) (hv : ∀ k, v.ownBlock = some k → k < w.heap.size) (hB : Below w.heap.size w w') : QuPost w base g most v lost q w' :=
  ⟨v, hb.below hB hb.lt, hQ.below hB (Nat.le_refl _), Kept2.of_below hB _ _, fun k e => ⟨Nat.lt_of_lt_of_le (hv k e) hB.size, .inl e⟩⟩
set_option maxRecDepth 100000 in
set_option maxHeartbeats 2000000 in
theorem qsend_any (w : World) (d : ByteArray) (e : Int) (he : Hid (putE d.size q.length most = e)) (hb : Blk w g 161 (quC most v lost)) (hQ : QAt w base 9 v (sv q)) (hv : ∀ k, v.ownBlock = some k → k < w.heap.size) (hg : v.ownBlock ≠ some g) (hbase : base ≤ w.heap.size) (hd : d.size ≤ maxLen) (hq : q.length ≤ 1000) (hl0 : 0 ≤ lost) (hl1 : lost ≤ 1000) :
    Calls Tryd.prog 56 #[.pointer (some ⟨g, 0, none⟩), .string d] w fun r w' => r = .returned (errV e) ∧ QuPost w base g most v (if e = 12 then lost + 1 else lost) (putQ q d e) w' := by
  have q1 := he.out
  unfold putE at q1
  unfold maxLen at hd
  by_cases h1 : 40 < d.size
  · have d1 : decide ((40 : Int) < (d.size : Int)) = true := decide_eq_true (by omega)
    rw [if_pos h1] at q1
    subst q1
    have HP := hide (QuPost.same hb hQ hv (Below.refl _ _))
    clear h1 he hb hQ hv hd hq
    rw [if_neg (by decide)]
    go_enter Tryd.func56, Tryd.ntmps56
    go_wp2_with fail
    go_ret
    exact ⟨rfl, by rw [putQ_no _ _ (by decide)]; exact HP.out⟩
  · have d1 : decide ((40 : Int) < (d.size : Int)) = false := decide_eq_false (by omega)
    rw [if_neg h1] at q1
    obtain ⟨ao, c, hvv, hlc⟩ := hQ.shape
    obtain ⟨c0, c1, c2⟩ := hb.c3
    rw [sv_len] at hvv hlc
    have f2 := hb.frozen 2
    by_cases h2 : most ≤ (q.length : Int)
    · have d2 : decide (most ≤ (q.length : Int)) = true := decide_eq_true h2
      rw [if_pos h2] at q1
      subst q1
      rw [if_pos rfl, putQ_no _ _ (by decide)]
      have HB := hide hb; have HQ := hide hQ; have HV := hide hv; have HG := hide hg
      subst hvv
      clear h1 h2 he hb hQ hv hd hq hlc hg
      go_enter Tryd.func56, Tryd.ntmps56
      go_wp2_with fail
      go_quiet (fail)
      go_wp2_with fail
      go_ret
      refine ⟨rfl, _, (HB.out.drewN _).set_ 2 _, QAt.far (p := ⟨g, 2, none⟩) (HQ.out.drewN _) HG.out _, ((Kept2.refl _ _ _).drewN _).set_ 2 _, fun k e => ⟨by simpa [World.setCell] using HV.out k e, .inl e⟩⟩
    · have d2 : decide (most ≤ (q.length : Int)) = false := decide_eq_false h2
      rw [if_neg h2] at q1
      subst q1
      subst hvv
      rw [if_neg (by decide)]
      have HB := hide hb; have HQ := hide hQ; have HV := hide hv; have HG := hide hg; have HBA := hide hbase; have HL := hide hq
      obtain ⟨i0, hi, hz0, hz1, hz2⟩ := vs_info_parts str_info
      clear h1 h2 he hb hQ hv hd hlc hbase hq hg f2
      go_enter Tryd.func56, Tryd.ntmps56
      go_wp2_with fail
      go_quiet (fail)
      go_wp2_with (at_builtin; go_must (refine wpList_append_q _ rfl (.tmp 31) (.tmp 33) _ rfl base 9 i0 _ 16 Tryd.underlying53 hi hz0 hz1 hz2 rfl (.slice ao q.length c) (sv q) rfl (by exact (HQ.out.drewN _).alloc _) w.heap.size 0 1 (.string d) rfl (by exact (Blk.new (w.drewN _) 9 #[.string d]).cells1.1) rfl (by have := HL.out; simp [maxLen, sv_len]; omega) (by have := HL.out; simp [sv_len]; omega) (by have := HBA.out; simp; omega) ?_); intro g1 o1 cap1 w3 hQ3 hgr ho hb1 hlt1; have HQ3 := hide hQ3; have HB3 := hide (((HB.out.drewN _).alloc _).grown hgr (fun e => HG.out e.symm)); have HK3 := hide ((((Kept2.refl w g (Value.slice ao q.length c).ownBlock).drewN _).alloc _).grown_vb hgr); have HO := hide ho; have HL1 := hide hlt1; have hf := HB3.out.frozen 1; obtain ⟨_, e4, _⟩ := HB3.out.c3; clear hQ3 hgr ho hb1 hlt1)
      go_ret
      have hne : (Value.slice (some ⟨g1, o1, none⟩) ((sv q).length + 1) cap1).ownBlock ≠ some g := by
        intro e
        simp [Value.ownBlock] at e
        subst e
        rcases HO.out with h | h
        · exact HG.out h
        · have := HB.out.lt; simp at h; omega
      refine ⟨rfl, _, HB3.out.set_ 1 _, ?_, HK3.out.set_ 1 _, ?_⟩
      · rw [putQ_zero, sv_snoc]
        exact QAt.far (p := ⟨g, 1, none⟩) HQ3.out hne _
      · intro k e
        simp [Value.ownBlock] at e
        subst e
        refine ⟨by simpa [World.setCell] using HL1.out, ?_⟩
        rcases HO.out with h | h
        · exact .inl h
        · right; simp at h; omega
set_option maxRecDepth 100000 in
set_option maxHeartbeats 1000000 in
theorem qrecv_none (w : World) (hb : Blk w g 161 (quC most v lost)) (hQ : QAt w base 9 v (sv [])) :
    Calls Tryd.prog 57 #[.pointer (some ⟨g, 0, none⟩)] w fun r w' => r = .returned (.tuple #[.string ⟨#[]⟩, errV 8]) ∧ w' = w := by
  obtain ⟨ao, c, hvv, hlc⟩ := hQ.shape
  obtain ⟨c0, c1, c2⟩ := hb.c3
  rw [sv_len] at hvv hlc
  subst hvv
  clear hb hQ hlc
  go_enter Tryd.func57, Tryd.ntmps57
  go_wp2_with fail
  go_ret2
  exact ⟨rfl, rfl⟩
set_option maxRecDepth 100000 in
set_option maxHeartbeats 1000000 in
theorem qrecv_some (w : World) (d : ByteArray) (hb : Blk w g 161 (quC most v lost)) (hQ : QAt w base 9 v (sv (d :: q))) (hv : ∀ k, v.ownBlock = some k → k < w.heap.size) (hg : v.ownBlock ≠ some g) (hq : q.length ≤ 1000) :
    Calls Tryd.prog 57 #[.pointer (some ⟨g, 0, none⟩)] w fun r w' => r = .returned (.tuple #[.string d, errV 0]) ∧ QuPost w base g most v lost q w' := by
  obtain ⟨ao, c, hvv, hlc⟩ := hQ.shape
  obtain ⟨c0, c1, c2⟩ := hb.c3
  simp only [sv_len, List.length_cons] at hvv hlc
  subst hvv
  obtain ⟨gq, off, rfl, hbq, hlq, hcq⟩ := hQ.block (by omega)
  have hcell := sd_first hQ
  have hgq : gq ≠ g := fun e => hg (by rw [e]; rfl)
  have d4 : ((q.length : Int) + 1 == 0) = false := by rw [beq_eq_false_iff_ne]; omega
  have f1 := hb.frozen 1
  have HB := hide hb; have HQ := hide hQ; have HV := hide hv; have HG := hide hg; have HLQ := hide hlq; have HGQ := hide hgq
  clear hb hQ hv hg hbq hcq hlq hgq
  go_enter Tryd.func57, Tryd.ntmps57
  go_upto_region 5 with fail
  obtain ⟨ao2, hao⟩ : ∃ ao2 : Option Addr, ao2 = if c = 1 then some ⟨gq, off, none⟩ else some ⟨gq, off + 1, none⟩ := ⟨_, rfl⟩
  rw [← hao]
  have HO5 : Hid ((Value.slice ao2 q.length (c - 1)).ownBlock = some gq) := hide (by rw [hao]; split <;> rfl)
  have HQ5 : Hid (QAt w base 9 (.slice ao2 q.length (c - 1)) (sv q)) := hide (by rw [hao]; exact HQ.out.tail)
  have HE1 : Hid ((Value.slice ao2 q.length (c - 1)).ownBlock ≠ some g) := hide (by rw [HO5.out]; intro e; exact HGQ.out (Option.some.inj e))
  clear hao hlc HQ
  go_wp2_with fail
  go_ret2
  exact ⟨rfl, .slice ao2 q.length (c - 1), HB.out.set_ 1 _, QAt.far (p := ⟨g, 1, none⟩) HQ5.out HE1.out _, (Kept2.refl _ _ _).set_ 1 _, sd_own HO5.out (by simpa [World.setCell] using HLQ.out)⟩
set_option maxRecDepth 100000 in
theorem qmany_any (ao : Option Addr) (c n : Nat) (w : World) (_hn : n ≤ 1000) (hb : Blk w g 161 (quC most (.slice ao n c) lost)) :
    Calls Tryd.prog 58 #[.pointer (some ⟨g, 0, none⟩)] w fun e w' => e = .returned (.int .i64 n) ∧ w' = w := by
  obtain ⟨c0, c1, c2⟩ := hb.c3
  clear hb
  go_enter Tryd.func58, Tryd.ntmps58
  go_wp2_with fail
  go_ret
  exact ⟨rfl, rfl⟩
set_option maxRecDepth 100000 in
theorem qlost_any (w : World) (hb : Blk w g 161 (quC most v lost)) :
    Calls Tryd.prog 59 #[.pointer (some ⟨g, 0, none⟩)] w fun e w' => e = .returned (.int .i64 lost) ∧ w' = w := by
  obtain ⟨c0, c1, c2⟩ := hb.c3
  clear hb
  go_enter Tryd.func59, Tryd.ntmps59
  go_wp2_with fail
  go_ret
  exact ⟨rfl, rfl⟩
end
end Go.Proofs.YtgdljdhibknjnabDoor
