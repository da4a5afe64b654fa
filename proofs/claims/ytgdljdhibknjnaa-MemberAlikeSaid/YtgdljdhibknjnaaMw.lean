/- The walk of metronomekeep.MemberAlike; condition: the numbers lie in memory. -/
import Derived.Test.YtgdljdhibknjnaaMs
import Derived.Test.YtgdljdhibknjnaaOpen
import Derived.Deep.RegionHeld3
import Derived.Deep.Cut
import Derived.Deep.CutRange
namespace Go.Proofs.Ytgdljdhibknjnaa
open Go.RowKit

theorem ptr_info : (Try.prog.info? 46).map (fun i => (i.zero, i.size, i.bytes)) = some (some (.pointer none), 1, 8) := by kernel_rfl
def ptrs (gk : Nat → Nat) (k : Nat) : List Value := (List.range k).map fun j => .pointer (some ⟨gk j, 0, none⟩)
theorem ptrs_len (gk : Nat → Nat) (k : Nat) : (ptrs gk k).length = k := by simp [ptrs]
theorem ptrs_next (gk : Nat → Nat) (k g : Nat) : ptrs (fun j => if j = k then g else gk j) (k + 1) = ptrs gk k ++ [.pointer (some ⟨g, 0, none⟩)] := by
  unfold ptrs
  rw [List.range_succ, List.map_append]
  congr 1
  · apply List.map_congr_left
    intro j hj
    have : j < k := List.mem_range.1 hj
    show Value.pointer (some ⟨if j = k then g else gk j, 0, none⟩) = _
    rw [if_neg (by omega)]
  · simp
theorem own_ne {w : World} {base k g : Nat} {t t' : TypeId} {v : Value} {xs : List Value} {cs : Array Value} (h : w.ownsRow base t 1 v k xs) (hb : Blk w g t' cs) (ht : t ≠ t') : some g ≠ v.ownBlock := by
  rcases h.2 with ⟨rfl, _⟩ | ⟨g', cap, cur, rfl, _, hg, _⟩
  · simp [Value.ownBlock]
  · intro e
    simp [Value.ownBlock] at e
    subst e
    unfold Blk at hb
    rw [hg] at hb
    cases hb
    exact ht rfl

/-- The first loop: so many nodes are made. -/
structure Made (w W : World) (n F E k : Nat) (v : Value) (gk : Nat → Nat) : Prop where
  own : w.ownsRow (E + 1) 46 1 v k (ptrs gk k)
  nodes : ∀ j, j < k → Blk w (gk j) 112 (nodeC j n (2 ^ n - 1) 1 0 false) ∧ E < gk j
  inj : ∀ i j, i < k → j < k → gk i = gk j → i = j
  fl : BoolsAt w F n (fun _ => false)
  ev : BoolsAt w E n (fun _ => false)
  old : Below W.heap.size W w
  lo : W.heap.size ≤ F ∧ F < E

theorem msg_one (mm who nx : Nat) (hm : mm < 512) (hw : who < 9) (hx : nx < 9) : bits .xor .i64 (mm : Int) (bits .or .i64 (wrap64 (2 ^ who)) (wrap64 (2 ^ nx))) = ((mm ^^^ (2 ^ who ||| 2 ^ nx) : Nat) : Int) := by
  have h1 : 2 ^ who ≤ 2 ^ 8 := Nat.pow_le_pow_right (by omega) (by omega)
  have h2 : 2 ^ nx ≤ 2 ^ 8 := Nat.pow_le_pow_right (by omega) (by omega)
  have h3 : 2 ^ who ||| 2 ^ nx < 2 ^ 9 := Nat.or_lt_two_pow (by omega) (by omega)
  rw [pow_small who (by omega), pow_small nx (by omega), i64_or_nat _ _ (by omega) (by omega), i64_xor_nat _ _ (by omega) (by omega)]

theorem mquiet {P : Program} {f : FuncId} {args : Array Value} {w : World} {n : Nat} {v : Value}
    (h : Calls P f args (w.drewN n) fun e w' => e = .returned v ∧ w.drewN n = w') : Calls P f args (w.drewN n) fun e w'' => e = .returned v ∧ ∃ m, w'' = w.drewN m :=
  h.mono fun _ _ ⟨he, hm⟩ => ⟨he, n, hm.symm⟩
section
variable {W w0 : World} {n lb F E m who wt j : Nat} {gk : Nat → Nat} {s : MSt}
theorem MInv.small (hI : MInv n m s) (n9 : n ≤ 9) (hj : j < n) : s.M j < 65536 := by
  have h1 := hI.lt j hj
  have h2 : 2 ^ n ≤ 2 ^ 9 := Nat.pow_le_pow_right (by omega) (by omega)
  omega
theorem hears_part (hI : MInv n m s) (hm : m ≤ 150) (n9 : n ≤ 9) (hw : who < n) (hj : j < n) (hne : j ≠ who) (kd : Nat) (hkd : s.kind n who wt j = kd) (hM : MAt w0 W n lb F E gk (s.part n who wt j)) :
    Calls Try.prog 24 #[.pointer (some ⟨gk j, 0, none⟩), .int .i64 who, .int .i64 kd] w0 fun e w' => e = .returned (.tuple #[]) ∧ MAt w' W n lb F E gk (s.part n who wt (j + 1)) ∧ w0.grownBy w' (some (gk j)) := by
  obtain ⟨p1, p2⟩ := part_at s n who wt j hne
  have hnj := hM.nodes j hj
  rw [p1] at hnj
  have hk2 : kd ≤ 2 := by rw [← hkd]; unfold MSt.kind; split <;> (try split) <;> omega
  have hg := hI.gle j hj
  have hb := hI.ble j hj
  refine (hears_in (gk j) j n (s.M j) (s.g j) (s.b j) (s.fz j) who kd w0 hnj (by omega) hw hne (hI.small n9 hj) (by omega) (by omega) (by omega) (by omega) (by omega) (by omega)).mono ?_
  rintro e w' ⟨he, hb', hg'⟩
  refine ⟨he, ?_, hg'⟩
  rw [← hkd, hears_step s n who wt j hne, p2] at hb'
  exact hM.node j hj hb' hg' (fun i _ hi => part_other s n who wt j i hi) (fun _ _ => ⟨rfl, rfl⟩)
theorem judges_part (hI : MInv n m s) (n9 : n ≤ 9) (hw : who < n) (hj : j < n) (hne : j ≠ who) (mm : Nat) (hmm : s.msg n who wt = mm) (hm9 : mm < 65536) (hok : s.ok who = true) (hwt : wt ≠ 0) (hM : MAt w0 W n lb F E gk (s.part n who wt j)) :
    Calls Try.prog 25 #[.pointer (some ⟨gk j, 0, none⟩), .int .i64 who, .int .i64 mm] w0 fun e w' => e = .returned (.int .i64 (s.kind n who wt j : Nat)) ∧ ∃ nq, w' = w0.drewN nq := by
  obtain ⟨p1, p2⟩ := part_at s n who wt j hne
  have hnj := hM.nodes j hj
  rw [p1] at hnj
  refine (judges_in (gk j) j n (s.M j) (s.g j) (s.b j) (s.fz j) who mm w0 hnj (by omega) hw (hI.small n9 hj) hm9).mono ?_
  rintro e w' ⟨he, hq⟩
  refine ⟨?_, hq⟩
  rw [he]
  congr 2
  unfold judgeV MSt.kind
  rw [hok, hmm]
  have : (wt == 0) = false := by simpa using hwt
  rw [this]
  cases judgeB (s.M j) who mm <;> rfl
end

set_option maxRecDepth 100000 in
set_option maxHeartbeats 4000000 in
theorem alike_any (a : Int) (A : Option Addr) (len cap : Nat) (zs : List Int) (W : World) (hc : IntsAt W A len zs) (hn : len ≤ 9223372036854775807) :
    Calls Try.prog 5 #[.int .i64 a, .slice A len cap] W fun e w' => e = .returned (.bool true) ∧ Below W.heap.size W w' := by
  by_cases h150 : 150 < len
  · have hd : decide ((150 : Int) < len) = true := decide_eq_true (by omega)
    go_enter Try.func5, Try.ntmps5
    go_wp2
    go_ret
    exact ⟨rfl, Below.refl _ _⟩
  · have hd : decide ((150 : Int) < len) = false := decide_eq_false (by omega)
    go_enter Try.func5, Try.ntmps5
    go_wp2_with fail
    refine (pick_any a 8 W (by decide) (by decide)).mono ?_
    rintro e w1 ⟨rfl, rfl⟩
    have hp := Nat.mod_lt (a % 18446744073709551616).toNat (show 0 < 8 by decide)
    generalize (a % 18446744073709551616).toNat % 8 = p at *
    obtain ⟨n, hn0⟩ : ∃ n : Nat, n = 2 + p := ⟨_, rfl⟩
    have n2 : 2 ≤ n := by omega
    have n9 : n ≤ 9 := by omega
    have q : 2 + (p : Int) = n := by omega
    have HC := hide hc; clear hc hn0
    obtain ⟨cs, hmk, hcs⟩ := make_bools n n9
    have HCS := hide hcs; clear hcs
    go_wp2_with fail
    refine (heard_any _).mono ?_
    rintro e w1 ⟨rfl, hB⟩
    have HB := hide hB; clear hB
    go_wp2_with fail
    have hs0 := HB.out.size
    go_loopw [5, 9] (fun v i wr => ∃ (k : Nat) (gk : Nat → Nat), k ≤ n ∧ i = .int .i64 k ∧ Made wr W n w1.heap.size (w1.heap.size + 1) k v gk) (fun _ i _ => n - (intOf i).toNat)
    case atStart =>
      refine ⟨0, fun _ => 0, by omega, rfl, ⟨⟨by simp [ptrs], .inl ⟨rfl, rfl⟩⟩, fun j hj => by omega, fun i j hi => by omega, ?_, ?_, ?_, by omega, by omega⟩⟩
      · exact ⟨cs, (Blk.new w1 _ _).alloc _, HCS.out⟩
      · have := Blk.new (w1.alloc (.cells cs 4)) 4 cs
        simp only [World.size_alloc] at this
        exact ⟨cs, this, HCS.out⟩
      · exact ((HB.out.alloc HB.out.size _).alloc (by simp; omega) _)
    case round =>
      obtain ⟨k, gk, hk, rfl, hM⟩ := hrel
      obtain ⟨hOwn, hNd, hInj, hFl, hEv, hO, hlo⟩ := hM
      by_cases hlt : k < n
      · obtain ⟨i0, hi, hz0, hz1, hz2⟩ := info_parts ptr_info
        have n1 := (hOwn.alloc (.cells (nodeC k n (2 ^ n - 1) 1 0 false) 112)).alloc (.cells [Value.pointer (some ⟨wr.heap.size, 0, none⟩)].toArray 46)
        have n2 := news_of_blk (Blk.new (wr.alloc (.cells (nodeC k n (2 ^ n - 1) 1 0 false) 112)) 46 [Value.pointer (some ⟨wr.heap.size, 0, none⟩)].toArray)
        have n3 := (Blk.new wr 112 (nodeC k n (2 ^ n - 1) 1 0 false)).alloc (.cells [Value.pointer (some ⟨wr.heap.size, 0, none⟩)].toArray 46)
        simp only [World.size_alloc] at n2
        have hEl := hEv.lt
        have N1 := hide n1; have N2 := hide n2; have N3 := hide n3; have HNd := hide hNd; have HInj := hide hInj; have HFl := hide hFl; have HEv := hide hEv; have HO := hide hO
        clear n1 n2 n3 hNd hInj hFl hEv hO hOwn
        go_wp2_with (first
          | (go_at_call 22; refine (new_in k n _ hlt (by omega)).mono ?_; rintro e w2 ⟨rfl, rfl⟩)
          | (at_builtin; go_must (refine wpList_append_own _ rfl (.tmp 49) (.tmp 51) _ rfl (w1.heap.size + 1 + 1) 46 i0 _ 1 8 Try.underlying44 hi hz0 hz1 hz2 rfl (by decide) u5 k (ptrs gk k) rfl (by exact N1.out) ⟨wr.heap.size + 1, 0, none⟩ 1 1 [Value.pointer (some ⟨wr.heap.size, 0, none⟩)] rfl rfl (by exact N2.out) (by intro u hu; simp at hu; subst hu; rfl) (by simp [maxLen]; omega) (by omega) (by simp; omega) ?_); intro v2 w2 hown2 hg2 _; have O2 := hide hown2; have HG2 := hide hg2; clear hown2 hg2))
        go_roundw
        case rel =>
          refine ⟨k + 1, fun j => if j = k then wr.heap.size else gk j, by omega, by go_num, ⟨?_, ?_, ?_, ?_, ?_, ?_, hlo⟩⟩
          · rw [ptrs_next]; exact O2.out
          · intro j hj
            show Blk w2 (if j = k then wr.heap.size else gk j) _ _ ∧ _ < (if j = k then wr.heap.size else gk j)
            by_cases e : j = k
            · subst e
              rw [if_pos rfl]
              exact ⟨N3.out.grown HG2.out (own_ne N1.out N3.out (by decide)), hEl⟩
            · rw [if_neg e]
              obtain ⟨g1, g2⟩ := HNd.out j (by omega)
              have g3 := (g1.alloc (.cells (nodeC k n (2 ^ n - 1) 1 0 false) 112)).alloc (.cells [Value.pointer (some ⟨wr.heap.size, 0, none⟩)].toArray 46)
              exact ⟨g3.grown HG2.out (own_ne N1.out g3 (by decide)), g2⟩
          · intro i j hi hj
            show (if i = k then wr.heap.size else gk i) = (if j = k then wr.heap.size else gk j) → _
            have hl : ∀ j, j < k → gk j < wr.heap.size := fun j hj => (HNd.out j hj).1.lt
            by_cases e1 : i = k <;> by_cases e2 : j = k
            · intro _; omega
            · rw [if_pos e1, if_neg e2]; have := hl j (by omega); omega
            · rw [if_neg e1, if_pos e2]; have := hl i (by omega); omega
            · rw [if_neg e1, if_neg e2]; exact HInj.out i j (by omega) (by omega)
          · have g3 := (HFl.out.alloc (.cells (nodeC k n (2 ^ n - 1) 1 0 false) 112)).alloc (.cells [Value.pointer (some ⟨wr.heap.size, 0, none⟩)].toArray 46)
            exact g3.grown HG2.out (by obtain ⟨cs, g4, _⟩ := g3; exact own_ne N1.out g4 (by decide))
          · have g3 := (HEv.out.alloc (.cells (nodeC k n (2 ^ n - 1) 1 0 false) 112)).alloc (.cells [Value.pointer (some ⟨wr.heap.size, 0, none⟩)].toArray 46)
            exact g3.grown HG2.out (by obtain ⟨cs, g4, _⟩ := g3; exact own_ne N1.out g4 (by decide))
          · have hs1 := HO.out.size
            exact ((HO.out.alloc hs1 _).alloc (by simp; omega) _).grown HG2.out (by simp; omega) (fun g hg => by have := (N1.out.lt g hg).1; omega)
        case measure => simp [intOf]; omega
      · obtain rfl : k = n := by omega
        obtain ⟨lb, lcap, hlb, hlE, hptr⟩ : ∃ lb lcap, u5 = .slice (some ⟨lb, 0, none⟩) k lcap ∧ w1.heap.size + 1 < lb ∧ PtrsAt wr lb k gk ∧ (∀ j, j < k → gk j ≠ lb) := by
          rcases hOwn.2 with ⟨_, h0⟩ | ⟨lb, lcap, cur, hv, h1, h2, h3, h4, h5, h6⟩
          · omega
          · refine ⟨lb, lcap, hv, by omega, ⟨cur, h2, fun j hj => ?_⟩, fun j hj e => ?_⟩
            · have e1 : cur.toList[j]? = (cur.toList.take (k * 1))[j]? := by rw [List.getElem?_take_of_lt (by omega)]
              have e2 : cur[j]? = cur.toList[j]? := by simp
              rw [e2, e1, h6]
              unfold ptrs
              rw [List.getElem?_map, List.getElem?_range hj]
              rfl
            · have := own_ne hOwn (hNd j hj).1 (by decide)
              rw [hv] at this
              exact this (by rw [e]; rfl)
        subst hlb
        obtain ⟨hptr, hgl⟩ := hptr
        have hFl2 := hFl.lt
        have hM0 : MAt wr W k lb w1.heap.size (w1.heap.size + 1) gk (mst0 k) :=
          ⟨fun j hj => (hNd j hj).1, hptr, hFl, hEv, hO, hInj, fun j hj => ⟨hgl j hj, by have := (hNd j hj).2; omega, by have := (hNd j hj).2; omega, by have := (hNd j hj).2; omega⟩, by omega, by omega, by omega, by omega, by omega⟩
        have hF1 : W.heap.size ≤ w1.heap.size := hs0
        clear hptr hgl hNd hInj hFl hEv hO hOwn hlo hFl2 hmk HCS
        generalize w1.heap.size = F at *
        generalize F + 1 = E at *
        go_wp2_with fail
        go_loopw [8, 12] (fun wg i wr => ∃ (m : Nat) (s : MSt), m ≤ len ∧ i = .int .i64 m ∧ wg = .bool s.wr ∧ MInv k m s ∧ MAt wr W k lb F E gk s) (fun _ i _ => len - (intOf i).toNat)
        case atStart => exact ⟨0, mst0 k, by omega, rfl, rfl, minv0 k n2, hM0⟩
        case round =>
          clear hM0
          obtain ⟨m, s, hm, rfl, rfl, hI, hM⟩ := hrel
          by_cases hlt2 : m < len
          · obtain ⟨b, off, rfl, hcell⟩ := HC.out m hlt2
            have hbb : b < W.heap.size := World.block_lt_of_cell? W ⟨b, off + m, none⟩ hcell
            have hcw : wr.cell? ⟨b, off + m, none⟩ = some (.int .i64 (zs.getD m 0)) := by rw [hM.old.cell hbb]; exact hcell
            generalize zs.getD m 0 = z at hcw hcell
            obtain ⟨who, hwho⟩ : ∃ who : Nat, who = m % k := ⟨_, rfl⟩
            have hw : who < k := by rw [hwho]; exact Nat.mod_lt _ (by omega)
            have qw : (m : Int) % (k : Int) = who := by rw [hwho]; simp
            have qd : decide ((who : Int) < (k : Int)) = true := decide_eq_true (by omega)
            have hpc := hM.ptrs.cell who hw
            have hnb := hide (hM.nodes who hw)
            have HM := hide hM; have HI := hide hI; have Hwho := hide hwho
            clear hM hI hwho hcell
            go_upto_if 76 with (first
              | (go_at_call 23; refine (sends_in _ who k _ _ _ _ _ (by exact hnb.out)).mono ?_; rintro e w2 ⟨rfl, hb2, hg2⟩; have HB2 := hide hb2; have hcw2 := hg2.cell hcw (by simp; have := (HM.out.far who hw).2.2.2; omega); have HG2 := hide hg2; clear hb2 hg2 hcw; rw [sendsV_ok, sendsOk_ok]; generalize hmm0 : (if s.ok who = true then s.M who else 0) = mm0; generalize hok0 : s.ok who = okb; have HMM := hide hmm0; have HOK := hide hok0; clear hmm0 hok0)
              | (go_at_call 20; refine (pick_any z 8 _ (by decide) (by decide)).mono ?_; rintro e w3 ⟨rfl, rfl⟩; have hwt := Nat.mod_lt (z % 18446744073709551616).toNat (show 0 < 8 by decide); generalize (z % 18446744073709551616).toNat % 8 = wt at *))
            have hmm9 : mm0 < 512 := by
              rw [← HMM.out]
              have h1 := HI.out.lt who hw
              have h2 : 2 ^ k ≤ 2 ^ 9 := Nat.pow_le_pow_right (by omega) (by omega)
              split <;> omega
            obtain ⟨nx, hnx⟩ : ∃ nx : Nat, nx = (who + 1) % k := ⟨_, rfl⟩
            have hx : nx < k := by rw [hnx]; exact Nat.mod_lt _ (by omega)
            have qx : ((who : Int) + 1) % (k : Int) = nx := by rw [hnx]; simp
            have hmsg := hide (show s.msg k who wt = if wt = 1 then mm0 ^^^ (2 ^ who ||| 2 ^ nx) else mm0 by unfold MSt.msg; rw [HMM.out, hnx])
            have hm1 := hide (msg_one mm0 who nx hmm9 (by omega) (by omega))
            clear hnx
            go_cut [8, 14] from 53 to 176 (fun wg x wx => wg = .bool (s.wr || wt == 1) ∧ x = .int .i64 (s.msg k who wt : Nat) ∧ ∃ nq, wx = w2.drewN nq)
            case first =>
              by_cases h1 : wt = 1
              · have h1' : ((wt : Int) == 1) = true := by simp; omega
                go_wp2_with fail
                go_quiet (fail)
                go_wp2_with fail
                go_meet
                exact ⟨by simp [h1], by rw [hm1.out, hmsg.out, if_pos h1], _, rfl⟩
              · have h1' : ((wt : Int) == 1) = false := by simp; omega
                go_wp2_with fail
                go_meet
                exact ⟨by simp [h1], by rw [hmsg.out, if_neg h1], 0, rfl⟩
            case rest =>
              obtain ⟨rfl, rfl, nq, rfl⟩ := hcut
              have hM2 : MAt (w2.drewN nq) W k lb F E gk { s.send who wt with fl := s.fl, ev := s.ev } := by
                refine MAt.drewN ?_ nq
                refine HM.out.node (s' := { s.send who wt with fl := s.fl, ev := s.ev }) who hw ?_ HG2.out ?_ (fun _ _ => ⟨rfl, rfl⟩)
                · have := HB2.out
                  rw [sendsC_send s k who wt] at this
                  exact this
                · intro j hj hne
                  simp [MSt.send, hne]
              obtain ⟨wv, hwv⟩ : ∃ wv, wv = w2.drewN nq := ⟨_, rfl⟩
              rw [← hwv] at hM2 ⊢
              clear hwv
              have c1 := hM2.fl.cell who hw
              have c2 := hM2.ev.cell who hw
              have HM2 := hide hM2
              clear HM hM2 HB2 HG2 hcw2 hnb hmsg hm1 HMM
              generalize hmm1 : s.msg k who wt = mm1 at *
              have Hmm1 := hide hmm1; clear hmm1 hpc
              have d2 : decide ((wt : Int) < 2) = decide (wt < 2) := decide_eq_decide.2 (by omega)
              go_upto_if 87 with fail
              go_cut [8] from 53 to 176 (fun wg wx => wg = .bool (s.wr || wt == 1) ∧ MAt wx W k lb F E gk (s.send who wt))
              case first =>
                obtain ⟨c1, f1⟩ := c1
                obtain ⟨c2, f2⟩ := c2
                cases okb
                · go_wp2_with fail
                  go_meet
                  exact ⟨rfl, HM2.out.congr (fun _ _ => ⟨rfl, rfl, rfl, rfl⟩) (fun j hj => by simp [MSt.send, HOK.out])⟩
                · have hFE : F ≠ E := HM2.out.far2.2.2.1
                  have hEF : E ≠ F := fun e => hFE e.symm
                  have c3 : ∀ u, (wv.setCell ⟨F, who, none⟩ u).cell? ⟨E, who, none⟩ = some (.bool (s.ev who)) := fun u => (World.cell?_setCell_other wv ⟨F, who, none⟩ ⟨E, who, none⟩ u (fun e => hFE (congrArg Addr.block e))).trans c2
                  have f3 : ∀ u, (wv.setCell ⟨F, who, none⟩ u).frozen? ⟨E, who, none⟩ = false := fun u => by
                    obtain ⟨cs, hb, _⟩ := HM2.out.ev
                    exact (hb.far hEF u).frozen who
                  cases hev : s.ev who
                  all_goals
                    simp only [hev] at c2 c3
                    go_wp2_with fail
                    go_meet
                    refine ⟨rfl, (HM2.out.setF who _ hw (s.send who wt).fl ?_).setE who _ hw (s.send who wt).ev ?_⟩
                    · intro j hj
                      by_cases e : j = who
                      · subst e; simp [MSt.send, HOK.out]
                      · simp [MSt.send, e]
                    · intro j hj
                      by_cases e : j = who
                      · subst e; simp [MSt.send, HOK.out, hev]
                      · simp [MSt.send, e]
              case rest =>
                obtain ⟨rfl, hM3⟩ := hcut
                have hM4 : MAt wc W k lb F E gk (s.part k who wt 0) := hM3.congr (fun j _ => part_zero s k who wt j) (fun _ _ => ⟨rfl, rfl⟩)
                have HM4 := hide hM4
                clear hM3 hM4 HM2 c1 c2
                go_wp2_with fail
                go_loopw [17] (fun i wr3 => ∃ j : Nat, j ≤ k ∧ i = .int .i64 j ∧ MAt wr3 W k lb F E gk (s.part k who wt j)) (fun i _ => k - (intOf i).toNat)
                case atStart => exact ⟨0, by omega, rfl, HM4.out⟩
                case round =>
                  obtain ⟨j, hj, rfl, hMj⟩ := hrel
                  by_cases hjk : j < k
                  · have qj : decide ((j : Int) < (k : Int)) = true := decide_eq_true (by omega)
                    by_cases hjw : j = who
                    · subst hjw
                      have HMj := hide (hMj.congr (s' := s.part k j wt (j + 1)) (fun i _ => part_skip s k j wt i) (fun _ _ => ⟨rfl, rfl⟩))
                      clear hMj
                      go_wp2_with fail
                      go_roundw
                      case rel => exact ⟨j + 1, by omega, by go_num, HMj.out⟩
                      case measure => simp [intOf]; omega
                    · have qe : ((j : Int) == (who : Int)) = false := by simp; omega
                      have hpj := hMj.ptrs.cell j hjk
                      have HMj := hide hMj
                      clear hMj
                      by_cases hcond : okb = true ∧ wt ≠ 0
                      · obtain ⟨rfl, hwt0⟩ := hcond
                        have qz : ((wt : Int) == 0) = false := by simp; omega
                        have hm9 : mm1 < 65536 := by
                          rw [← Hmm1.out]
                          have h1 := HI.out.lt who hw
                          have h2 : 2 ^ k ≤ 2 ^ 9 := Nat.pow_le_pow_right (by omega) (by omega)
                          have h3 : 2 ^ who < 2 ^ 9 := Nat.pow_lt_pow_right (by omega) (by omega)
                          have h4 : 2 ^ ((who + 1) % k) < 2 ^ 9 := Nat.pow_lt_pow_right (by omega) (by have := Nat.mod_lt (who + 1) (show 0 < k by omega); omega)
                          unfold MSt.msg
                          have h5 : (if s.ok who = true then s.M who else 0) < 2 ^ 9 := by split <;> omega
                          split
                          · have := Nat.xor_lt_two_pow h5 (Nat.or_lt_two_pow h3 h4); omega
                          · omega
                        obtain ⟨kd, hkd⟩ : ∃ kd, s.kind k who wt j = kd := ⟨_, rfl⟩
                        have HKD := hide hkd; clear hkd
                        have HJ : Hid (∀ w0, MAt w0 W k lb F E gk (s.part k who wt j) → Calls Try.prog 25 #[.pointer (some ⟨gk j, 0, none⟩), .int .i64 who, .int .i64 mm1] w0 fun e w' => e = .returned (.int .i64 kd) ∧ MAt w' W k lb F E gk (s.part k who wt j)) := hide (fun w0 h => (judges_part HI.out n9 hw hjk hjw mm1 Hmm1.out hm9 HOK.out hwt0 h).mono fun e w' he => ⟨by rw [he.1, HKD.out], by obtain ⟨_, nq, rfl⟩ := he; exact h.drewN nq⟩)
                        have HH : Hid (∀ w0, MAt w0 W k lb F E gk (s.part k who wt j) → Calls Try.prog 24 #[.pointer (some ⟨gk j, 0, none⟩), .int .i64 who, .int .i64 kd] w0 fun e w' => e = .returned (.tuple #[]) ∧ MAt w' W k lb F E gk (s.part k who wt (j + 1)) ∧ w0.grownBy w' (some (gk j))) := hide (fun w0 h => hears_part HI.out (by omega) n9 hw hjk hjw kd HKD.out h)
                        go_wp2_with fail
                        go_region_held3 (fun w' => w'.cell? ⟨lb, j, none⟩ = some (.pointer (some ⟨gk j, 0, none⟩))) (first | assumption | (simp [go_sem]; assumption))
                          (first
                            | (go_at_call 25; go_must (refine (HJ.out _ (by first | exact HMj.out | exact HMj.out.drew)).mono ?_); rintro e w5 ⟨rfl, hM5⟩; have hpj5 := hM5.ptrs.cell j hjk; have HM5 := hide hM5; clear hM5)
                            | (go_at_call 24; go_must (refine (HH.out _ (by exact HM5.out)).mono ?_); rintro e w6 ⟨rfl, hM6, hg6⟩; have hpj6 := hM6.ptrs.cell j hjk; have HM6 := hide hM6; clear hM6 hg6))
                        go_wp2_with fail
                        go_roundw
                        case rel => exact ⟨j + 1, by omega, by go_num, HM6.out⟩
                        case measure => simp [intOf]; omega
                      · have hk0 : s.kind k who wt j = 0 := by
                          unfold MSt.kind
                          rw [HOK.out]
                          cases okb
                          · rfl
                          · have : wt = 0 := by
                              by_cases h : wt = 0
                              · exact h
                              · exact absurd ⟨rfl, h⟩ hcond
                            simp [this]
                        have HK0 := hide hk0; clear hk0
                        have HH : Hid (∀ w0, MAt w0 W k lb F E gk (s.part k who wt j) → Calls Try.prog 24 #[.pointer (some ⟨gk j, 0, none⟩), .int .i64 who, .int .i64 0] w0 fun e w' => e = .returned (.tuple #[]) ∧ MAt w' W k lb F E gk (s.part k who wt (j + 1)) ∧ w0.grownBy w' (some (gk j))) := hide (fun w0 h => hears_part HI.out (by omega) n9 hw hjk hjw 0 HK0.out h)
                        cases okb
                        · go_wp2_with (go_at_call 24; refine (HH.out _ (by exact HMj.out)).mono ?_; rintro e w6 ⟨rfl, hM6, _⟩; have HM6 := hide hM6; clear hM6)
                          go_roundw
                          case rel => exact ⟨j + 1, by omega, by go_num, HM6.out⟩
                          case measure => simp [intOf]; omega
                        · have hw0 : wt = 0 := by
                            by_cases h : wt = 0
                            · exact h
                            · exact absurd ⟨rfl, h⟩ hcond
                          have qz : ((wt : Int) == 0) = true := by simp; omega
                          clear hw0
                          go_wp2_with (go_at_call 24; refine (HH.out _ (by exact HMj.out)).mono ?_; rintro e w6 ⟨rfl, hM6, _⟩; have HM6 := hide hM6; clear hM6)
                          go_roundw
                          case rel => exact ⟨j + 1, by omega, by go_num, HM6.out⟩
                          case measure => simp [intOf]; omega
                  · obtain rfl : j = k := by omega
                    have hI2 : MInv j (m + 1) (s.step j who wt) := by have := HI.out.step n2 wt; rw [← Hwho.out] at this; exact this
                    have hM7 : MAt wr W j lb F E gk (s.step j who wt) := hMj.congr (fun i hi => part_full s j who wt i hi) (fun _ _ => ⟨rfl, rfl⟩)
                    have hwr : (s.wr || wt == 1) = (s.step j who wt).wr := rfl
                    rw [hwr]
                    generalize s.step j who wt = s2 at *
                    have HI2 := hide hI2; have HM7 := hide hM7
                    clear hI2 hM7 hMj HM4 hwr HI HOK Hmm1 Hwho
                    go_wp2_with fail
                    go_loopw [18, 19] (fun f i wr4 => ∃ h : Nat, h ≤ j ∧ i = .int .i64 h ∧ (f = .int .i64 (-1) ∨ ∃ y : Nat, y < j ∧ f = .int .i64 y ∧ s2.fz y = false ∧ s2.fl y = false) ∧ MAt wr4 W j lb F E gk s2) (fun _ i _ => j - (intOf i).toNat)
                    case atStart => exact ⟨0, by omega, rfl, .inl rfl, HM7.out⟩
                    case round =>
                      obtain ⟨h, hh, rfl, hf, hM8⟩ := hrel
                      by_cases hhj : h < j
                      · have hph := hM8.ptrs.cell h hhj
                        obtain ⟨ce, _⟩ := hM8.ev.cell h hhj
                        obtain ⟨cf, _⟩ := hM8.fl.cell h hhj
                        have qh : decide ((h : Int) < (j : Int)) = true := decide_eq_true (by omega)
                        have HM8 := hide hM8; clear hM8
                        cases hz : s2.fz h
                        · have HFz : Hid (∀ w0, MAt w0 W j lb F E gk s2 → Calls Try.prog 26 #[.pointer (some ⟨gk h, 0, none⟩)] w0 fun e w' => e = .returned (.bool false) ∧ w' = w0) := hide (fun w0 hq => by
                            have := frozen_in (gk h) h j (s2.M h) (s2.g h) (s2.b h) (s2.fz h) w0 (hq.nodes h hhj)
                            rw [hz] at this; exact this)
                          cases hfl : s2.fl h
                          · rw [hfl] at cf
                            obtain ⟨mv, hmv⟩ : ∃ mv, mv = s2.M h := ⟨_, rfl⟩
                            have HMa : Hid (∀ w0, MAt w0 W j lb F E gk s2 → Calls Try.prog 27 #[.pointer (some ⟨gk h, 0, none⟩)] w0 fun e w' => e = .returned (.int .i64 mv) ∧ w0 = w') := hide (fun w0 hq => by
                              have := members_in (gk h) h j (s2.M h) (s2.g h) (s2.b h) (s2.fz h) w0 (hq.nodes h hhj)
                              rw [← hmv] at this
                              exact this.mono fun _ _ hx => ⟨hx.1, hx.2.symm⟩)
                            rcases hf with rfl | ⟨y, hy, rfl, hy1, hy2⟩
                            · clear hmv
                              go_wp2_with (go_at_call 26; refine (HFz.out _ (by exact HM8.out)).mono ?_; rintro e w9 ⟨rfl, rfl⟩)
                              go_quiet ((go_at_call 27; exact mquiet (HMa.out _ (HM8.out.drewN _))))
                              go_wp2_with fail
                              exact ⟨⟨h + 1, by omega, by go_num, .inr ⟨h, hhj, rfl, hz, hfl⟩, HM8.out.drewN _⟩, by simp [intOf]; omega⟩
                            · have hyy : s2.M y = mv := by rw [hmv]; exact (HI2.out.same y h hy hhj hy1 hz hy2 hfl)
                              have hpy := HM8.out.ptrs.cell y hy
                              have qy : decide ((y : Int) < (j : Int)) = true := decide_eq_true (by omega)
                              have HMb : Hid (∀ w0, MAt w0 W j lb F E gk s2 → Calls Try.prog 27 #[.pointer (some ⟨gk y, 0, none⟩)] w0 fun e w' => e = .returned (.int .i64 mv) ∧ w0 = w') := hide (fun w0 hq => by
                                have := members_in (gk y) y j (s2.M y) (s2.g y) (s2.b y) (s2.fz y) w0 (hq.nodes y hy)
                                rw [hyy] at this
                                exact this.mono fun _ _ hx => ⟨hx.1, hx.2.symm⟩)
                              clear hmv hyy
                              go_wp2_with (go_at_call 26; refine (HFz.out _ (by exact HM8.out)).mono ?_; rintro e w9 ⟨rfl, rfl⟩)
                              go_quiet ((go_at_call 27; first | exact mquiet (HMa.out _ (HM8.out.drewN _)) | exact mquiet (HMb.out _ (HM8.out.drewN _))))
                              go_wp2_with fail
                              exact ⟨⟨h + 1, by omega, by go_num, .inr ⟨y, hy, rfl, hy1, hy2⟩, HM8.out.drewN _⟩, by simp [intOf]; omega⟩
                          · rw [hfl] at cf
                            go_wp2_with (go_at_call 26; refine (HFz.out _ (by exact HM8.out)).mono ?_; rintro e w9 ⟨rfl, rfl⟩)
                            go_roundw
                            case rel => exact ⟨h + 1, by omega, by go_num, hf, HM8.out⟩
                            case measure => simp [intOf]; omega
                        · have HFz : Hid (∀ w0, MAt w0 W j lb F E gk s2 → Calls Try.prog 26 #[.pointer (some ⟨gk h, 0, none⟩)] w0 fun e w' => e = .returned (.bool true) ∧ w' = w0) := hide (fun w0 hq => by
                            have := frozen_in (gk h) h j (s2.M h) (s2.g h) (s2.b h) (s2.fz h) w0 (hq.nodes h hhj)
                            rw [hz] at this; exact this)
                          cases hev : s2.ev h
                          · have hwt2 : s2.wr = true := by
                              cases hq : s2.wr
                              · have := (HI2.out.nev hq h hhj hev).2
                                rw [hz] at this; cases this
                              · rfl
                            rw [hev] at ce
                            rw [hwt2]
                            go_wp2_with (go_at_call 26; refine (HFz.out _ (by exact HM8.out)).mono ?_; rintro e w9 ⟨rfl, rfl⟩)
                            go_roundw
                            case rel => exact ⟨h + 1, by omega, by go_num, hf, HM8.out⟩
                            case measure => simp [intOf]; omega
                          · rw [hev] at ce
                            go_wp2_with (go_at_call 26; refine (HFz.out _ (by exact HM8.out)).mono ?_; rintro e w9 ⟨rfl, rfl⟩)
                            go_roundw
                            case rel => exact ⟨h + 1, by omega, by go_num, hf, HM8.out⟩
                            case measure => simp [intOf]; omega
                      · obtain rfl : h = j := by omega
                        have HM8 := hide hM8; clear hM8
                        go_wp2_with fail
                        exact ⟨⟨m + 1, s2, by omega, by go_num, rfl, HI2.out, HM8.out⟩, by simp [intOf]; omega⟩
          · obtain rfl : m = len := by omega
            go_wp2_with fail
            go_ret
            exact ⟨rfl, hM.old⟩
end Go.Proofs.Ytgdljdhibknjnaa
