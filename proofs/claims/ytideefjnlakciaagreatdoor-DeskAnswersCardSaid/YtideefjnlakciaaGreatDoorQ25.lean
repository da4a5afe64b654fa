/- The document's cluster's Play: what a node hears on one channel; conditions: the cluster, and what is lost, lie in memory. -/
import Derived.Test.YtideefjnlakciaaGreatDoorQ00
import Derived.Test.YtideefjnlakciaaGreatDoorQ24
import Derived.Test.YtideefjnlakciaaGreatDoorQ12
import Derived.Deep.RegionLaw
import Derived.BigRegion
set_option maxRecDepth 1000000
set_option maxHeartbeats 20000000
set_option linter.unusedVariables false
set_option linter.unusedSimpArgs false
namespace Go.Proofs.YtideefjnlakciaaGreatDoor
open Go.RowKit Go.Proofs.Tryz
section
attribute [local irreducible] fu ff je eZ iC jl gW gS jg
structure Ky (fr:Option mB) (ok:Bool) (T:Nat) (lk sq:Int) (d:ByteArray):Prop where
 no:ok=false→fr=none
 yes:ok=true→∃f,fr=some f∧f.mb=(T:Int)∧f.lk=lk∧f.sq=sq∧f.d=d
 d:d.size≤40
theorem F2 {Q : Exit → Act → World → Prop} (w0 w W1 : World) {base g : Nat} {p : Pl} {fy : Nat} {s : Cl} {N M : Nat} {q : Value} {b7 AL : Option Addr} {cs cl : Nat} {bs : List Nat} (oq : iJ w0 w base g p ⟨.slice b7 p.sl.length cs, .slice AL p.lk.length cl, q⟩ fy s M W1 bs) (hp : gl p) (lm : gH p N s) (RG : N ≤ 900000000000) (a8 : jH p s) (p8 : fA w0 AL p.lk.length p.lk) (h0 : w0.heap.size ≤ base)
 (A : Option Addr) (c1 K : Nat) (ls : List Ls) (eq : ls.length = K) (RF : K ≤ 9223372036854775807) (j1 : jD W1 A ls) (wo : ∀ x, A = some x → x.block ∈ bs) (am : Nat) (ms : am ∈ bs) (node tn i ch : Nat) (xd st : Value) (hC : eN W1 am 86 #[.int .i64 node, xd, st]) (hG : node < p.nd.toNat) (ci : tn < p.nd.toNat) (hi : i ≤ 100) (Ru : ch < 2)
 (fr : Option mB) (ok : Bool) (T : Nat) (lk sq : Int) (d : ByteArray) (Rv : T < 65536) (pk : Ky fr ok T lk sq d) (z : lk < 0 ∨ ∃ (k : Nat) (l : Lk), lk = (k : Int) ∧ p.lk[k]? = some l) (q3 : Int)
 {kD iM n3 m7 m5 es sG k2 hk kA s0 cu iQ t2 o2 hV p7 n9 i4 k0 hJ tT d0 r3 kf gs HF Os go A3 Q1 os pv vv m2 q9 hT l5 j4 ow le r2 pd qn hs gw k3 wz lb el mt f2 ei c0 cv ev l0 i9 v7 hc gc r8 ps hv nh d8 kb dd wx pj he ts ea lr mp vj hK sn mI ct e5 n0 hX q2 cn j5 ne c5 o4 fp vs ww hA hg sb p9 e3 sD vm hD hR n7 j8 v6 c7 hW e1 op wq rr tO ss r4 ob t1 kN te hP mv f5 v5 gi d7 f8 dt ml fn n6 ft oz lw vi tf cr sE lj i0 wt m4 j7 k1 kE d3 us en s1 n2 m9 j0 hU hB ut g0 l6 l1 hH p4 wy nn iS cS r9 p6 f1 cV g3 it iA ez q6 o3 g9 kq g5 ib ho li ot pw g4 s2 hI o9 qr oj ds c9 m6 et fl jp oL wB mU e0 n5 k7 rn pl i1 i8 n8 e8 t8 nA tA lc ii n4 c8 t5 p5 sf gz uv om p2 pn o0 j2 f6 v0 hf dg sz wl p1 hn hu hr c4 kw hY d5 l3 c6 t6 cx hq i6 kk q1 gf em io ul kx mA ty eg e6 e9 hh xc e2 is pp vc oi s4 wn oo o1 gd i2 e7 rg hw wk k4 qq d6 j6 hx q8 f3 pi ip dl kn wd t3 m8 t4 mK l4 up kp i5 f7 vp r0 km v3 sc q5 jv pa sB o5 rc gq ge v9 fc g6 er ht un hl g7 wb ta ex vq hO oA sm l2 po r6 t7 Ar xj Bs Op B1 Q2 x2 xT FG ML xl E5 NE Rg LT O1 If y3 HD K5 z6 L9 HG B3 N3 Mm ys E0 AR y8 Do BL Dk z7 x7 Cn P2 HX Lh P1 Fm O9 xm L5 O3 OC HC y4 HZ Rp PF Ob Rs zz Ix AV LF HW E7 H1 Eq HT GT K1 x6 HY B8 Nm Hw QC AA HN B9 HH HV y2 F0 Id Hb PP L1 x0 AH A5 C1 y7 yy HE IR AW O4 Fd z3 fd c3 mb hz pu of dk q7 hS hy hb vx rt se f4 k8 xb me hE hQ hL e4 ha hN j9 : Value}
 (I : ∀ ⦃v37 ca v40 v41 z9 A8 x3 D3 y6 K2 HQ C3 AM HP HB Ne QA Go z0 HO z2 Hh A4 AC xi N1 HR H7 A1 Or HS z5 y5 H3 A9 An HI xu N9 Ok z1 Pi xo NB OA N4 KV Rn BT A2 Ly O8 E6 xt GE Ad Mv xf yv y0 B2 H2 C0 Av x4 xn Hq HJ x8 HL O2 OB K8 x5 K3 GO Rd AS N2 B0 Fr LE K6 Rr pe qx cA g8 d9 r1 t0 ih cm iB k6 q0 m1 : Value⦄ (w' : World), iJ w0 w' base g p ⟨.slice b7 p.sl.length cs, .slice AL p.lk.length cl, q⟩ fy (nB p tn fr (jc fr ls i ch tn) s) M W1 bs → Q .normal ⟨#[.pointer (some ⟨g, 0, none⟩), .slice A K c1, kD, iM, n3, m7, m5, es, sG, k2, hk, kA, s0, cu, iQ, t2, o2, hV, p7, n9, i4, .int .i64 i, .pointer (some ⟨am, 0, none⟩), k0, .int .i64 T, .bool ok, hJ, .int .i64 lk, .int .i64 sq, .string d, tT, d0, r3, kf, gs, .int .i64 tn, .int .i64 (if jc fr ls i ch tn = true then gW (s.mm tn).m node T else q3), v37, ca, go, v40, v41, os, pv, vv, m2, q9, hT, l5, j4, ow, le, r2, pd, qn, hs, gw, k3, wz, lb, el, mt, f2, ei, c0, cv, ev, l0, i9, v7, hc, gc, r8, ps, hv, nh, d8, kb, dd, wx, pj, he, ts, ea, lr, mp, vj, hK, sn, mI, ct, e5, n0, hX, q2, cn, j5, ne, c5, o4, fp, vs, ww, hA, hg, sb, p9, e3, sD, vm, hD, hR, n7, j8, v6, c7, hW, e1, op, wq, rr, tO, ss, r4, ob, t1, kN, te, hP, mv, f5, v5, gi, d7, f8, dt, ml, fn, n6, ft, oz, lw, vi, tf, cr, sE, lj, i0, wt, m4, j7, k1, kE, d3, us, en, s1, n2, m9, j0, hU, hB, ut, g0, l6, l1, hH, p4, wy, nn, iS, cS, r9, p6, f1, cV, g3, it, iA, ez, q6, o3, g9, kq, g5, ib, ho, li, ot, pw, g4, s2, hI, o9, qr, oj, ds, c9, m6, et, fl, jp, oL, wB, mU, e0, n5, k7, rn, pl, i1, i8, n8, e8, t8, nA, tA, lc, ii, n4, c8, t5, p5, sf, gz, uv, om, p2, pn, o0, j2, f6, v0, hf, dg, sz, wl, p1, hn, hu, hr, c4, kw, hY, d5, l3, c6, t6, cx, hq, i6, kk, q1, gf, em, io, ul, kx, mA, ty, eg, e6, e9, hh, xc, e2, is, pp, vc, oi, s4, wn, oo, o1, gd, i2, e7, rg, hw, wk, k4, qq, d6, j6, hx, q8, f3, pi, ip, dl, kn, wd, t3, m8, t4, mK, l4, up, kp, i5, f7, vp, r0, km, v3, sc, q5, jv, pa, sB, o5, rc, gq, ge, v9, fc, g6, er, ht, un, hl, g7, wb, ta, ex, vq, hO, oA, sm, l2, po, r6, .int .i64 ch, t7, z9, A8, x3, D3, y6, K2, HQ, C3, AM, HP, HB, Ne, QA, Go, z0, HO, z2, Hh, A4, AC, xi, N1, HR, H7, A1, Or, HS, z5, y5, H3, A9, An, HI, xu, N9, Ok, z1, Pi, xo, NB, OA, N4, KV, Rn, BT, A2, Ly, O8, E6, xt, GE, Ad, Mv, xf, yv, y0, B2, H2, C0, Av, x4, xn, Hq, HJ, x8, HL, O2, OB, K8, x5, K3, GO, Rd, AS, N2, B0, Fr, LE, K6, Rr, pe, qx, cA, g8, d9, r1, t0, ih, cm, iB, k6, q0, m1, fd, c3, mb, hz, pu, of, dk, q7, hS, hy, hb, vx, rt, se, f4, k8, xb, me, hE, hQ, hL, e4, ha, hN, j9], []⟩ w') :
 Code.wp prog (OT 15) Q ⟨#[.pointer (some ⟨g, 0, none⟩), .slice A K c1, kD, iM, n3, m7, m5, es, sG, k2, hk, kA, s0, cu, iQ, t2, o2, hV, p7, n9, i4, .int .i64 i, .pointer (some ⟨am, 0, none⟩), k0, .int .i64 T, .bool ok, hJ, .int .i64 lk, .int .i64 sq, .string d, tT, d0, r3, kf, gs, .int .i64 tn, .int .i64 q3, HF, Os, go, A3, Q1, os, pv, vv, m2, q9, hT, l5, j4, ow, le, r2, pd, qn, hs, gw, k3, wz, lb, el, mt, f2, ei, c0, cv, ev, l0, i9, v7, hc, gc, r8, ps, hv, nh, d8, kb, dd, wx, pj, he, ts, ea, lr, mp, vj, hK, sn, mI, ct, e5, n0, hX, q2, cn, j5, ne, c5, o4, fp, vs, ww, hA, hg, sb, p9, e3, sD, vm, hD, hR, n7, j8, v6, c7, hW, e1, op, wq, rr, tO, ss, r4, ob, t1, kN, te, hP, mv, f5, v5, gi, d7, f8, dt, ml, fn, n6, ft, oz, lw, vi, tf, cr, sE, lj, i0, wt, m4, j7, k1, kE, d3, us, en, s1, n2, m9, j0, hU, hB, ut, g0, l6, l1, hH, p4, wy, nn, iS, cS, r9, p6, f1, cV, g3, it, iA, ez, q6, o3, g9, kq, g5, ib, ho, li, ot, pw, g4, s2, hI, o9, qr, oj, ds, c9, m6, et, fl, jp, oL, wB, mU, e0, n5, k7, rn, pl, i1, i8, n8, e8, t8, nA, tA, lc, ii, n4, c8, t5, p5, sf, gz, uv, om, p2, pn, o0, j2, f6, v0, hf, dg, sz, wl, p1, hn, hu, hr, c4, kw, hY, d5, l3, c6, t6, cx, hq, i6, kk, q1, gf, em, io, ul, kx, mA, ty, eg, e6, e9, hh, xc, e2, is, pp, vc, oi, s4, wn, oo, o1, gd, i2, e7, rg, hw, wk, k4, qq, d6, j6, hx, q8, f3, pi, ip, dl, kn, wd, t3, m8, t4, mK, l4, up, kp, i5, f7, vp, r0, km, v3, sc, q5, jv, pa, sB, o5, rc, gq, ge, v9, fc, g6, er, ht, un, hl, g7, wb, ta, ex, vq, hO, oA, sm, l2, po, r6, .int .i64 ch, t7, Ar, xj, Bs, Op, B1, Q2, x2, xT, FG, ML, xl, E5, NE, Rg, LT, O1, If, y3, HD, K5, z6, L9, HG, B3, N3, Mm, ys, E0, AR, y8, Do, BL, Dk, z7, x7, Cn, P2, HX, Lh, P1, Fm, O9, xm, L5, O3, OC, HC, y4, HZ, Rp, PF, Ob, Rs, zz, Ix, AV, LF, HW, E7, H1, Eq, HT, GT, K1, x6, HY, B8, Nm, Hw, QC, AA, HN, B9, HH, HV, y2, F0, Id, Hb, PP, L1, x0, AH, A5, C1, y7, yy, HE, IR, AW, O4, Fd, z3, fd, c3, mb, hz, pu, of, dk, q7, hS, hy, hb, vx, rt, se, f4, k8, xb, me, hE, hQ, hL, e4, ha, hN, j9], []⟩ w := by
 have Pr := hp.n16
 have Fn := hp.n1
 have Rz : tn < 16 := ah
 have cj := eJ oq; have bf := eJ hp; have cc := eJ lm; have ro := eJ a8; have m0 := eJ p8; have N8 := eJ j1; have j3 := eJ wo; have C2 := eJ hC; have bl := eJ pk; have bj := eJ I; have rx := eJ eq; have EQ := eJ ms; have H0 := eJ z
 clear oq hp lm a8 p8 j1 wo hC pk I eq ms Pr Fn z
 conv => arg 2; whnf
 go_upto_block 16 with fail
 go_cut [38] from 338 to 360 (fun v HM => v = .bool (ok && !jl ls i ch tn) ∧ Hid (Below w.heap.size w HM))
 case first =>
  go_wp2_with fail
  go_loopw [38, 338] (fun ca v wr => ∃ j : Nat, j ≤ K ∧ v = .int .i64 j ∧ ca = .bool (ok && !jl (ls.take j) i ch tn) ∧ Hid (Below w.heap.size w wr)) (fun _ v _ => K - (intOf v).toNat)
  case atStart => exact ⟨0, ah, rfl, by rw [Fu]; simp, eJ (au)⟩
  case round =>
   obtain ⟨j, RE, rfl, rfl, Y⟩ := hrel
   by_cases Rt : j < K
   ·obtain ⟨x, bm⟩ : ∃ x, ls[j]? = some x := ⟨_, aF (by rw [rx.out]; exact Rt)⟩
    obtain ⟨b, off, z4, a9, x1, xq⟩ := (sT N8.out (w' := wr) (fun y r5 => (Y.out.block y.block (cj.out.OS (j3.out y r5))).trans (cj.out.heap (j3.out y r5)))) j x bm
    have Z := eJ (Fg bm i ch tn)
    obtain ⟨lo, J⟩ := ab (jl (ls.take j) i ch tn)
    rw [J] at Z ⊢
    obtain ⟨xs, a0, b9⟩ := x
    dsimp only at a9 x1 xq Z
    have be := eJ (Y.out.alloc Y.out.size (.cells #[.int .i64 xs, .int .i64 a0, .int .i64 b9] 106))
    have RA : b < wr.heap.size := aG _ _ a9
    subst z4
    clear bm J
    obtain ⟨bv, x9⟩ := ab ((bits .and .i64 (b9 / 2 ^ tn) 1 == 1))
    have b3 : Hid (kZ b9 tn = bv) := eJ x9
    rw [b3.out] at Z
    by_cases O : xs = (i : Int)
    ·have d1 : (xs == (i : Int)) = true := dy.2 O
     by_cases X : a0 = (ch : Int)
     ·have d2 : (a0 == (ch : Int)) = true := dy.2 X
      have aa : Hid (jl (ls.take (j + 1)) i ch tn = (lo || bv)) := eJ (by rw [Z.out, aJ O, aJ X]; simp)
      clear O X
      cases bv
      ·go_wp2_with fail
       go_roundw
       case rel => exact ⟨j + 1, ah, aq, by rw [aa.out]; simp, be⟩
       case measure => simp [intOf]; omega
      ·go_wp2_with fail
       go_roundw
       case rel => exact ⟨j + 1, ah, aq, by rw [aa.out]; simp, be⟩
       case measure => simp [intOf]; omega
     ·have d2 : (a0 == (ch : Int)) = false := aV.2 X
      have aa : Hid (jl (ls.take (j + 1)) i ch tn = lo) := eJ (by rw [Z.out, aH X]; simp)
      clear O X
      go_wp2_with fail
      go_roundw
      case rel => exact ⟨j + 1, ah, aq, by rw [aa.out], be⟩
      case measure => simp [intOf]; omega
    ·have d1 : (xs == (i : Int)) = false := aV.2 O
     have aa : Hid (jl (ls.take (j + 1)) i ch tn = lo) := eJ (by rw [Z.out, aH O]; simp)
     clear O
     go_wp2_with fail
     go_roundw
     case rel => exact ⟨j + 1, ah, aq, by rw [aa.out], be⟩
     case measure => simp [intOf]; omega
   ·obtain rfl : j = K := ah
    go_wp2_with fail
    go_meet
    case rel => exact ⟨by rw [← rx.out, dj], Y⟩
 case rest =>
  obtain ⟨rfl, Y⟩ := hcut
  obtain ⟨w2, rfl⟩ := ae wc
  have bd := eJ (cj.out.below Y.out)
  obtain ⟨lo, J⟩ := ab (jl ls i ch tn)
  have k9 := eJ J
  rw [J]
  clear J
  by_cases E : (ok && !lo) = false
  ·rw [E]
   have b2 : Hid (jc fr ls i ch tn = false) := eJ (by
    unfold jc
    rw [k9.out]
    cases ac : ok
    ·rw [bl.out.no ac]; rfl
    ·rw [ac] at E; simp at E; rw [E]; simp)
   have C := bj
   rw [b2.out] at C
   simp only [Bool.false_eq_true, if_false] at C
   clear E bj
   go_wp2_with fail
   refine C.out _ ?_
   unfold nB
   cases fr <;> exact bd.out
  ·have E : (ok && !lo) = true := by cases h : (ok && !lo); exact absurd h E; rfl
   rw [E]
   have ac : ok = true := by cases ok; cases E; rfl
   have J : lo = false := by cases lo; rfl; rw [ac] at E; cases E
   subst ac
   subst J
   obtain ⟨f, rfl, m3, p3, gr, iT⟩ := bl.out.yes rfl
   have b2 : Hid (jc (some f) ls i ch tn = true) := eJ (by unfold jc; rw [k9.out]; rfl)
   have C := bj
   rw [b2.out] at C
   simp only [eF] at C
   clear E bj
   have RL := eJ m3; have bk := eJ p3; have cd := eJ gr; have v4 := eJ iT
   clear m3 p3 gr iT
   have a9 : w2.cell? ⟨am, 0, none⟩ = some (.int .i64 node) := (bd.out.eW EQ.out C2.out).cell 0
   obtain ⟨nd, bq⟩ : ∃ nd, p.nd.toNat = nd := ⟨_, rfl⟩
   have QB := eJ bq
   obtain ⟨RH, on, Ry, gm, wv, K9, -, r7, -, -, -⟩ := bd.out.xh bf.out cc.out ah ro.out ci
   have f9 : rh p.nd.toNat (s.mm tn).m node T = gW (s.mm tn).m node T := yk (ro.out tn) hG
   obtain ⟨H4, bi⟩ := ab (gW (s.mm tn).m node T)
   have Rx := eJ bi
   have K4 : Hid (∀ n, Calls prog 82 #[.pointer (some ⟨gm, 0, none⟩), .int .i64 node, .int .i64 T] (w2.drewN n) fun e w' => e = .returned (.int .i64 H4) ∧ w' = w2.drewN n) := eJ (fun n => by rw [← bi, ← f9]; exact r7 _ _ _ (below_drewN (au) n))
   rw [bq] at wv ci hG
   rw [bi] at C
   clear r7 f9 bi bq
   go_wp2_with fail
   go_quiet ((go_at_call 82; (with_reducible exact bc (K4.out _))))
   obtain ⟨w3, b8⟩ := ab (w2.drewN nq)
   have b3 : Hid (Below w2.heap.size w2 w3) := eJ (by rw [← b8]; exact below_drewN (au) nq)
   rw [b8]
   have al := eJ (bd.out.below b3.out)
   clear b8 a9 wv K9
   go_wp2_with fail
   rcases H0.out with wf | ⟨u, O5, BE, z⟩
   ·have d1 : decide ((0 : Int) ≤ lk) = false := aH ah
    have U := eJ (Bd p tn (f := f) s (by rw [bk.out]; exact wf))
    clear wf
    go_quiet (fail)
    go_wp2_with fail
    refine C.out _ ?_
    show iJ _ _ _ _ _ _ _ (iC p tn f s) _ _ _
    rw [U.out]
    exact al.out.below (below_drewN (au) _)
   ·subst BE
    have bz : u < p.lk.length := (aQ.1 z).1
    obtain ⟨nl, bb⟩ := ab p.lk.length
    have ap := eJ z; have i7 := eJ bz
    have d1 : decide ((0 : Int) ≤ (u : Int)) = true := aJ ah
    have RB : u < 9223372036854775807 := by have := bf.out.lk; omega
    obtain ⟨a6, ol, b6, a5, a2, _, kt, _⟩ := (Ek m0.out h0 al.out.KM) u bz
    obtain rfl : a5 = O5 := by rw [z] at a2; cases a2; rfl
    obtain ⟨ck, RK, Rw, RM, RI, o6⟩ := al.out.cells
    obtain ⟨-, -, -, -, -, -, a7, -⟩ := gg o6
    simp only [b6, bb] at a7
    rw [bb] at bz
    have tv := eJ b6; have HK := eJ bb
    clear z a2 b6 bb o6
    have b5 := bf.out.link u a5 ap.out
    obtain ⟨t, ad⟩ : ∃ t : Nat, a5.t = (t : Int) := aZ (by have := b5.2.2.1; omega)
    have bx : t < 65536 := by
     have h2 : (2 : Nat) ^ p.nd.toNat ≤ 2 ^ 16 := aX ah (by have := bf.out.n16; omega)
     have h3 := b5.2.2.2.1
     rw [ad] at h3
     have h4 : t < 2 ^ p.nd.toNat := by exact_mod_cast h3
     omega
    have bn : kZ a5.t tn = t.testBit tn := by
     unfold kZ
     rw [ad, l8 t tn bx]
     cases t.testBit tn <;> rfl
    have hand := rm t tn bx ah
    rw [ad] at kt
    have BD := eJ ad
    obtain ⟨In, rp⟩ := ab (t.testBit tn)
    rw [rp] at hand bn
    have sa := eJ bn
    obtain ⟨t9, bw⟩ := ab (wrap64 (2 ^ tn))
    rw [bw] at hand
    obtain ⟨hM, k5⟩ := ab (bits .and .i64 (t : Int) t9)
    rw [k5] at hand
    clear b5 ad bx bn rp
    cases In
    ·have U := eJ (AG p tn (f := f) s bk.out ap.out sa.out)
     simp only [ej] at hand
     have i3 : (hM != 0) = false := by unfold bne; rw [hand]; rfl
     go_quiet (fail)
     go_wp2_with fail
     refine C.out _ ?_
     show iJ _ _ _ _ _ _ _ (iC p tn f s) _ _ _
     rw [U.out]
     exact al.out.below (below_drewN (au) _)
    ·have U := eJ (FC (tn := tn) (f := f) (c := s) bk.out ap.out sa.out)
     simp only [eA] at hand
     have i3 : (hM != 0) = true := by unfold bne; rw [hand]; rfl
     have xv : tn < p.nd.toNat := by rw [QB.out]; exact ci
     obtain ⟨tm, gk, ce, bt, hj⟩ := al.out.QQ cc.out ah i7.out xv
     obtain ⟨tb, cb⟩ := ab (gS sq (s.tk u tn).nw)
     have b4 := eJ cb
     have co := bt w3 (au)
     have wA : (Instr.lookup 98 (.map (some tm)) (.agg #[.int .i64 (u : Int), .int .i64 (tn : Int)]) false).run prog w3.drew = .ok (.pointer (some ⟨gk, 0, none⟩)) w3.drew := bt w3.drew (below_drewN (au) 1)
     have s3 : Hid (∀ aA, Calls prog 83 #[.pointer (some ⟨gk, 0, none⟩), .int .i64 sq] (w3.drewN aA) fun e w' => e = .returned (.bool tb) ∧ Hid (iJ w0 w' base g p ⟨.slice b7 p.sl.length cs, .slice AL p.lk.length cl, q⟩ fy { s with tk := fM s.tk u tn ((s.tk u tn).take sq) } M W1 bs) ∧ (w'.cell? ⟨g, 7, none⟩ = some (.slice (some ⟨a6, ol, none⟩) nl cl) ∧ w'.cell? ⟨a6, ol + u * 4 + 1, none⟩ = some (.int .i64 (t : Int)) ∧ w'.cell? ⟨g, 14, none⟩ = some (.map (some tm)) ∧ (Instr.lookup 98 (.map (some tm)) (.agg #[.int .i64 (u : Int), .int .i64 (tn : Int)]) false).run prog w' = .ok (.pointer (some ⟨gk, 0, none⟩)) w')) := eJ (fun aA => by
      refine (hj (w3.drewN aA) sq (below_drewN (au) aA)).mono ?_
      rintro e w' ⟨rfl, h1, h7, h14, z⟩
      rw [cb]
      refine ⟨rfl, eJ h1, ?_, ?_, h14, z w' (au)⟩
      ·rw [h7]
       show some (Value.slice AL p.lk.length cl) = _
       rw [tv.out, HK.out]
      ·obtain ⟨RD, o', p0, RC, eb, _, L6, _⟩ := (Ek m0.out h0 h1.KM) u i7.out
       rw [tv.out] at p0; cases p0
       rw [ap.out] at eb; cases eb
       rw [L6, BD.out])
     clear bt hj cb
     have AK : IntKind.i64.wrap (2 ^ tn) = t9 := by rw [Ig tn ah]; exact bw
     go_region_held3 (fun w' => w'.cell? ⟨g, 7, none⟩ = some (.slice (some ⟨a6, ol, none⟩) nl cl) ∧ w'.cell? ⟨a6, ol + u * 4 + 1, none⟩ = some (.int .i64 (t : Int)) ∧ w'.cell? ⟨g, 14, none⟩ = some (.map (some tm)) ∧ (Instr.lookup 98 (.map (some tm)) (.agg #[.int .i64 (u : Int), .int .i64 (tn : Int)]) false).run prog w' = .ok (.pointer (some ⟨gk, 0, none⟩)) w') (first | exact ⟨a7, kt, ce, co⟩ | exact ⟨a7, kt, ce, wA⟩ | exact a3.out)
      (first | (go_at_call 83; go_must (refine (s3.out 1).mono ?_); rintro e w7 ⟨rfl, a4, a3⟩; replace a3 := eJ a3))
     clear a3
     clear a7 kt ce co wA s3 AK bw k5 hand i3
     cases tb
     ·go_wp2_with fail
      refine C.out _ ?_
      show iJ _ _ _ _ _ _ _ (iC p tn f s) _ _ _
      rw [U.out, cd.out, b4.out, aI aj]
      exact a4.out
     ·obtain ⟨pm, v, At, I, z, de⟩ := a4.out.Qf u tn
      have I : fK w7 base 9 v (sv (s.pr u tn).q) := I
      obtain ⟨ao, cp, rfl, mE⟩ := I.shape
      rw [jL] at I z mE
      obtain ⟨m, hm⟩ := ab ((s.pr u tn).q.length)
      rw [hm] at z mE I
      have RJ : m ≤ 16 := by rw [← hm]; have := cc.out.pr u tn; omega
      have q4 := eJ hm
      have a2 : (Instr.lookup 99 (.map (some pm)) (.agg #[.int .i64 (u : Int), .int .i64 (tn : Int)]) false).run prog w7 = .ok (.slice ao m cp) w7 := z w7 (au)
      have nr := bl.out.d
      by_cases a8 : m < 16
      ·have d4 : decide ((m : Int) < 16) = true := aJ ah
       have H8 := eJ de; have y9 := eJ I
       clear de I z
       go_wp2_with fail
       refine GZ (c := { s with tk := fM s.tk u tn ((s.tk u tn).take sq) }) w0 w7 W1 a4.out.size u tn pm m cp ao d a8 nr q4.out At y9.out H8.out (fun pe qx cA g8 d9 r1 t0 ih cm iB k6 q0 m1 w' HA => ?_)
       go_wp2_with fail
       refine C.out _ ?_
       show iJ _ _ _ _ _ _ _ (iC p tn f s) _ _ _
       rw [U.out, cd.out, b4.out, aM rfl, v4.out]
       exact HA
      ·have d4 : decide ((m : Int) < 16) = false := aH ah
       go_wp2_with fail
       refine C.out _ ?_
       show iJ _ _ _ _ _ _ _ (iC p tn f s) _ _ _
       rw [U.out, cd.out, b4.out, aM rfl]
       refine a4.out.lost _ (fun k i => ?_)
       show (fM s.pr u tn _ k i).q = (s.pr k i).q
       unfold fM
       split
       ·rename_i e
        obtain ⟨rfl, rfl⟩ := e
        rw [v4.out]
        exact LC _ _ nr (by rw [q4.out]; omega)
       ·rfl
end
end Go.Proofs.YtideefjnlakciaaGreatDoor
