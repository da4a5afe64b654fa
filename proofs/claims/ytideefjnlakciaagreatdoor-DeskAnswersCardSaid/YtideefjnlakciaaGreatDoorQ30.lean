/- The document's cluster's Play: all slots; conditions: the cluster, what is lost and the modes lie in memory. -/
import Derived.Test.YtideefjnlakciaaGreatDoorQ00
import Derived.Test.YtideefjnlakciaaGreatDoorQ29
import Derived.Test.YtideefjnlakciaaGreatDoorQ21
import Derived.Test.YtideefjnlakciaaGreatDoorQ04
import Derived.Test.YtideefjnlakciaaGreatDoorQ15
import Derived.Test.YtideefjnlakciaaGreatDoorQ19
set_option maxRecDepth 1000000
set_option maxHeartbeats 20000000
set_option linter.unusedVariables false
set_option linter.unusedSimpArgs false
namespace Go.Proofs.YtideefjnlakciaaGreatDoor
open Go.RowKit Go.Proofs.Tryz
section
attribute [local irreducible] fu fG je eZ iC jl gW gS jg jj iX ff jh gR fs pg lD
theorem CC {Q : Exit → Act → World → Prop} (w0 w W1 : World) {base g : Nat} {p : Pl} {fy : Nat} {c : Cl} {N M : Nat} {q : Value} {s AL : Option Addr} {cs cl ns : Nat} {bs : List Nat} (a5 : iJ w0 w base g p ⟨.slice s p.sl.length cs, .slice AL p.lk.length cl, q⟩ fy c M W1 bs) (hp : gl p) (k2 : gH p N c) (RY : N ≤ 890000000000) (hM : M < 1000) (HA : fy < 65536) (sm : jH p c) (m9 : fA w0 AL p.lk.length p.lk) (rx : fN w0 s p.sl.length p.sl) (h0 : w0.heap.size ≤ base) (J : p.sl.length = ns)
 (A C : Option Addr) (c1 z c4 u : Nat) (r : Rn) (em : r.ls.length = z) (hx : z ≤ 9223372036854775807) (e9 : jD W1 A r.ls) (iB : ∀ x, A = some x → x.block ∈ bs) (dk : r.md.length = u) (c0 : u ≤ 9223372036854775807) (d7 : kY W1 C r.md) (e5 : 0 < u → ∀ x, C = some x → x.block ∈ bs) (nd : Nat) (c5 : p.nd.toNat = nd) (Mm : c.rd ≤ 7000)
 {dt sz oq c6 us hA hN gr o3 pj hW t4 b6 pp n4 rr hf B3 Av wy LE RP wo v6 HD C3 v4 EQ Rs O8 Cn HI O5 v9 Rz eg Ob O3 cx gd g9 a4 g7 j9 p6 j2 i5 cc pi cj g5 q6 no c7 pw hc hO o6 l6 cu pa b4 p7 bz oi kt s0 cv i9 hD bt Z hS i1 b8 rp q4 ex q2 r7 d5 a3 de l4 oL mE X d0 c3 bq ck r8 ot hw m7 en hg ol lc r4 f1 q1 b2 hn i6 t8 kp j4 qr ad pd tf po n8 hI om k1 o2 c9 me bv nn p1 pl ac j8 qn m5 n9 d1 gz cd mp t7 d4 e8 g0 lj tT dg o4 ts kk f4 km o1 hL un hv pn b7 q3 ib cn iT q7 p5 ez l0 mv m4 g3 j7 ft gw ow mU hJ a0 nA ea ha ev rt of qx oo jp b5 n1 ip on ap j3 he ro hq ul eb ds hV oz k4 d9 lb o0 iS l3 mA kD f6 rc dl hy d3 cA k0 Go HG L9 vx RL v3 KV vp HX Ls A5 If FG xm xq xl vj HY wx vc xs LF x9 Rt Rw Hq RC x5 Ok xo ys O4 z4 wz xf Q2 v7 Rr A8 RA y8 xv K3 A3 x7 Ru HO AH Do RI RB N8 Pi RM RJ zz z3 RN Lh Hb Fn Ad xu B9 BE vi AA HV K2 wk Fd Mv O9 B8 z5 wA RE HB Op QB HT AC HW GT Fm x3 A9 Hw z7 O2 P2 RQ x8 xc N9 z2 BL RG Fr B0 xt P1 Or vq E6 N2 Ar wv y2 yv HC AK xi Lk L5 N3 AV x4 AS B2 Pr HQ L6 Bs RX ww xj H7 RH v0 PF Rv Ly xd wb HM B1 O1 uv y4 H4 yy HL F0 A1 BD xT wl Ry H1 OC PP z6 Ne RU Rd K8 wq HJ Dk LT vs NB RT H2 In HE RK HS Rx L1 QA z0 H3 y7 vv wn H0 IR GO Rg H8 E7 RF N1 HH HF Nm Hh K4 x2 HK HZ HR Eq E0 OB y0 Rp GE Os C0 y6 y9 NE E5 y3 ML K9 K5 Id RV z1 RR z9 C1 HP AW AR An wd v5 RS HN C2 RW Ix i8 fl gq aA ht r9 s2 ne kn i0 bm : Value}
 (a2 : ∀ ⦃v21 v22 v23 v24 v25 v26 v27 v28 v29 v30 v31 v32 v33 fn v35 v36 v37 ce v40 v41 wB OA e6 m0 mI v218 d8 ii ci v222 fd bd te v226 v227 v228 v229 i7 bi v232 v233 v234 kb v236 bj O kA hr hm t5 fp hE bw ct kf gf f3 l5 sf j6 pv hH e1 kw bn q8 a6 a8 f9 t0 p4 r6 sD m3 f8 ob e7 k6 n7 hG ms sa d6 ta oj gi e3 hK gs e2 iM tm hR T fc le k9 tv cb i4 f2 m8 l2 kE bx hj ss e0 j1 is lw hC p2 Y sB st r3 ge f5 sE U tO sb cm hX ch it t3 hB ps n2 mt jv go gm oA es k3 e4 nh cr hs hT el r2 op er dd hP bl up kq pm am os t6 g8 cS q0 o9 pk k5 tA n0 sc r5 ut li k8 bb i2 lr r1 se sn eq n5 s3 ao aa c8 j5 iQ q9 be bk et bf g6 m6 ca mb hU p0 m2 al k7 hl qq q5 rg cV i3 s4 l1 hu p8 gc o5 t1 hz j0 mK kx ih nr pu sG b9 io d2 n6 s1 ho sv iA a9 b3 t9 rn hb f7 hY t2 a7 tn n3 ml g4 kN m1 ty co lm pe hh p3 D3 : Value⦄ (w' : World), iJ w0 w' base g p ⟨.slice s p.sl.length cs, .slice AL p.lk.length cl, q⟩ fy (gZ p fy r c ns) M W1 bs → Q .normal ⟨#[.pointer (some ⟨g, 0, none⟩), .slice A z c1, dt, sz, .slice C u c4, oq, c6, us, hA, hN, gr, .int .i64 nd, o3, pj, hW, t4, b6, pp, n4, rr, hf, v21, v22, v23, v24, v25, v26, v27, v28, v29, v30, v31, v32, v33, fn, v35, v36, v37, ce, eg, v40, v41, cx, gd, g9, a4, g7, j9, p6, j2, i5, cc, pi, cj, g5, q6, no, c7, pw, hc, hO, o6, l6, cu, pa, b4, p7, bz, oi, kt, s0, cv, i9, hD, bt, Z, hS, i1, b8, rp, q4, ex, q2, r7, d5, a3, de, l4, oL, mE, X, d0, c3, bq, ck, r8, ot, hw, m7, en, hg, ol, lc, r4, f1, q1, b2, hn, i6, t8, kp, j4, qr, ad, pd, tf, po, n8, hI, om, k1, o2, c9, me, bv, nn, p1, pl, ac, j8, qn, m5, n9, d1, gz, cd, mp, t7, d4, e8, g0, lj, tT, dg, o4, ts, kk, f4, km, o1, hL, un, hv, pn, b7, q3, ib, cn, iT, q7, p5, ez, l0, mv, m4, g3, j7, ft, gw, ow, mU, hJ, a0, nA, ea, ha, ev, rt, of, qx, oo, jp, b5, n1, ip, on, ap, j3, he, ro, hq, ul, eb, ds, hV, oz, k4, d9, lb, o0, iS, l3, mA, kD, f6, rc, dl, hy, d3, cA, k0, .slice s ns cs, .int .i64 ns, wB, OA, e6, m0, mI, v218, d8, ii, ci, v222, fd, bd, te, v226, v227, v228, v229, i7, bi, v232, v233, v234, kb, v236, bj, O, kA, hr, hm, t5, fp, hE, bw, ct, kf, gf, f3, l5, sf, j6, pv, hH, e1, kw, bn, q8, a6, a8, f9, t0, p4, r6, sD, m3, f8, ob, e7, k6, n7, hG, ms, sa, d6, ta, oj, gi, e3, hK, gs, e2, iM, tm, hR, T, fc, le, k9, tv, cb, i4, f2, m8, l2, kE, bx, hj, ss, e0, j1, is, lw, hC, p2, Y, sB, st, r3, ge, f5, sE, U, tO, sb, cm, hX, ch, it, t3, hB, ps, n2, mt, jv, go, gm, oA, es, k3, e4, nh, cr, hs, hT, el, r2, op, er, dd, hP, bl, up, kq, pm, am, os, t6, g8, cS, q0, o9, pk, k5, tA, n0, sc, r5, ut, li, k8, bb, i2, lr, r1, se, sn, eq, n5, s3, ao, aa, c8, j5, iQ, q9, be, bk, et, bf, g6, m6, ca, mb, hU, p0, m2, al, k7, hl, qq, q5, rg, cV, i3, s4, l1, hu, p8, gc, o5, t1, hz, j0, mK, kx, ih, nr, pu, sG, b9, io, d2, n6, s1, ho, sv, iA, a9, b3, t9, rn, hb, f7, hY, t2, a7, tn, n3, ml, g4, kN, m1, ty, co, lm, pe, hh, p3, D3, i8, fl, gq, aA, ht, r9, s2, ne, kn, i0, bm], []⟩ w') :
 Code.wp prog (OT 8) Q ⟨#[.pointer (some ⟨g, 0, none⟩), .slice A z c1, dt, sz, .slice C u c4, oq, c6, us, hA, hN, gr, .int .i64 nd, o3, pj, hW, t4, b6, pp, n4, rr, hf, B3, Av, wy, LE, RP, wo, v6, HD, C3, v4, EQ, Rs, O8, Cn, HI, O5, v9, Rz, eg, Ob, O3, cx, gd, g9, a4, g7, j9, p6, j2, i5, cc, pi, cj, g5, q6, no, c7, pw, hc, hO, o6, l6, cu, pa, b4, p7, bz, oi, kt, s0, cv, i9, hD, bt, Z, hS, i1, b8, rp, q4, ex, q2, r7, d5, a3, de, l4, oL, mE, X, d0, c3, bq, ck, r8, ot, hw, m7, en, hg, ol, lc, r4, f1, q1, b2, hn, i6, t8, kp, j4, qr, ad, pd, tf, po, n8, hI, om, k1, o2, c9, me, bv, nn, p1, pl, ac, j8, qn, m5, n9, d1, gz, cd, mp, t7, d4, e8, g0, lj, tT, dg, o4, ts, kk, f4, km, o1, hL, un, hv, pn, b7, q3, ib, cn, iT, q7, p5, ez, l0, mv, m4, g3, j7, ft, gw, ow, mU, hJ, a0, nA, ea, ha, ev, rt, of, qx, oo, jp, b5, n1, ip, on, ap, j3, he, ro, hq, ul, eb, ds, hV, oz, k4, d9, lb, o0, iS, l3, mA, kD, f6, rc, dl, hy, d3, cA, k0, .slice s ns cs, .int .i64 ns, .int .i64 0, Go, HG, L9, vx, RL, v3, KV, vp, HX, Ls, A5, If, FG, xm, xq, xl, vj, HY, wx, vc, xs, LF, x9, Rt, Rw, Hq, RC, x5, Ok, xo, ys, O4, z4, wz, xf, Q2, v7, Rr, A8, RA, y8, xv, K3, A3, x7, Ru, HO, AH, Do, RI, RB, N8, Pi, RM, RJ, zz, z3, RN, Lh, Hb, Fn, Ad, xu, B9, BE, vi, AA, HV, K2, wk, Fd, Mv, O9, B8, z5, wA, RE, HB, Op, QB, HT, AC, HW, GT, Fm, x3, A9, Hw, z7, O2, P2, RQ, x8, xc, N9, z2, BL, RG, Fr, B0, xt, P1, Or, vq, E6, N2, Ar, wv, y2, yv, HC, AK, xi, Lk, L5, N3, AV, x4, AS, B2, Pr, HQ, L6, Bs, RX, ww, xj, H7, RH, v0, PF, Rv, Ly, xd, wb, HM, B1, O1, uv, y4, H4, yy, HL, F0, A1, BD, xT, wl, Ry, H1, OC, PP, z6, Ne, RU, Rd, K8, wq, HJ, Dk, LT, vs, NB, RT, H2, In, HE, RK, HS, Rx, L1, QA, z0, H3, y7, vv, wn, H0, IR, GO, Rg, H8, E7, RF, N1, HH, HF, Nm, Hh, K4, x2, HK, HZ, HR, Eq, E0, OB, y0, Rp, GE, Os, C0, y6, y9, NE, E5, y3, ML, K9, K5, Id, RV, z1, RR, z9, C1, HP, AW, AR, An, wd, v5, RS, HN, C2, RW, Ix, i8, fl, gq, aA, ht, r9, s2, ne, kn, i0, bm], []⟩ w := by
 have xn := hp.sl
 rw [J] at xn
 have x0 := eJ a5; have E := eJ hp; have ei := eJ k2; have RO := eJ sm; have Q1 := eJ m9; have r0 := eJ rx; have RD := eJ a2; have QC := eJ em; have xb := eJ e9; have y5 := eJ iB; have K1 := eJ dk; have At := eJ d7; have BT := eJ e5; have wf := eJ c5; have p9 := eJ J; have x6 := eJ hx; have vm := eJ c0
 clear a5 hp k2 sm m9 rx a2 em e9 iB dk d7 e5 c5 J hx c0
 conv => arg 2; whnf
 go_wp2_with fail
 dsimp only
 go_loopw [213] (fun v wr => ∃ k : Nat, k ≤ ns ∧ v = .int .i64 k ∧ Hid (iJ w0 wr base g p ⟨.slice s p.sl.length cs, .slice AL p.lk.length cl, q⟩ fy (gZ p fy r c k) M W1 bs)) (fun v _ => ns - (intOf v).toNat)
 case atStart => exact ⟨0, ah, rfl, x0⟩
 case round =>
  obtain ⟨k, hk, rfl, K⟩ := hrel
  by_cases hQ : k < ns
  ·obtain ⟨b, off, N4, -⟩ := r0.out k (by rw [p9.out]; exact hQ)
   subst N4
   obtain ⟨j, h⟩ := ab (gZ p fy r c k)
   have K6 : Hid (gH p (N + 81 * k) j) := eJ (by rw [← h]; exact qB ei.out E.out fy r k)
   have A2 : Hid (jH p j) := eJ (by rw [← h]; exact RO.out.IF E.out fy r k)
   have AM : Hid (0 ≤ j.rd * p.rd ∧ j.rd * p.rd ≤ 1000000000000000) := eJ (by
    have e : j.rd = c.rd := by rw [← h]; exact (lP p fy r c k).1
    have h1 := E.out.rd
    have h2 := ei.out.rd
    rw [e]
    refine ⟨eI h2 ah, ?_⟩
    have h3 : c.rd * p.rd ≤ 7000 * 137438953472 := Int.mul_le_mul Mm h1.2 ah ah
    omega)
   have A4 : Hid (jh p fy r k j = gZ p fy r c (k + 1)) := eJ (by rw [← h]; rfl)
   rw [h] at K
   clear h
   go_upto_block 9 with fail
   refine EN w0 wr W1 K.out E.out K6.out ah hM HA A2.out Q1.out r0.out h0 p9.out A C c1 z c4 u r QC.out x6.out xb.out y5.out K1.out vm.out At.out BT.out nd k wf.out hQ AM.out (fun v21 v22 v23 v24 v25 v26 v27 v28 v29 v30 v31 v32 v33 fn v35 v36 v37 ce v40 v41 e6 m0 mI v218 d8 ii ci v222 fd bd te v226 v227 v228 v229 i7 bi v232 v233 v234 kb v236 bj O kA hr hm t5 fp hE bw ct kf gf f3 l5 sf j6 pv hH e1 kw bn q8 a6 a8 f9 t0 p4 r6 sD m3 f8 ob e7 k6 n7 hG ms sa d6 ta oj gi e3 hK gs e2 iM tm hR T fc le k9 tv cb i4 f2 m8 l2 kE bx hj ss e0 j1 is lw hC p2 Y sB st r3 ge f5 sE U tO sb cm hX ch it t3 hB ps n2 mt jv go gm oA es k3 e4 nh cr hs hT el r2 op er dd hP bl up kq pm am os t6 g8 cS q0 o9 pk k5 tA n0 sc r5 ut li k8 bb i2 lr r1 se sn eq n5 s3 ao aa c8 j5 iQ q9 be bk et bf g6 m6 ca mb hU p0 m2 al k7 hl qq q5 rg cV i3 s4 l1 hu p8 gc o5 t1 hz j0 mK kx ih nr pu sG b9 io d2 n6 s1 ho sv iA a9 b3 t9 rn hb f7 hY t2 a7 tn n3 ml g4 kN m1 ty co lm pe hh p3 w' I => ?_)
   rw [A4.out] at I
   have wt := eJ I
   clear I
   go_wp2_with fail
   go_roundw
   case rel => exact ⟨k + 1, ah, aq, wt⟩
   case measure => simp [intOf]; omega
  ·obtain rfl : k = ns := ah
   go_wp2_with fail
   exact RD.out _ K.out
end
section
variable {ι:Type}[DecidableEq ι]{w:World}{base:Nat}{S:ι->GO}
theorem kH.Ot(h:kH w base S)(x:ι)(o:GO)(E:o.At w)(C: ∀k,k∈o.eX->base<=k/\k<w.heap.size/\¬wM S k):kH w base (kd S x o):=by
 refine⟨fun y=> ?_,fun y k hm=> ?_,fun y z k s j=> ?_⟩
 ·by_cases e:y=x
  ·subst e;rw[gP];exact E
  ·rw[putG_ne _ e];exact h.at_ y
 ·by_cases e:y=x
  ·subst e;rw[gP] at hm;exact⟨(C k hm).1,(C k hm).2.1⟩
  ·rw[putG_ne _ e] at hm;exact h.own y k hm
 ·by_cases e:y=x
  ·subst e;rw[gP] at s;by_cases u:z=y
   ·exact u.symm
   ·rw[putG_ne _ u] at j;exact absurd ⟨z,j⟩ (C k s).2.2
  ·rw[putG_ne _ e] at s;by_cases u:z=x
   ·subst u;rw[gP] at j;exact absurd ⟨y,s⟩ (C k j).2.2
   ·rw[putG_ne _ u] at j;exact h.sep y z k s j
theorem yS{x:ι}{o:GO}{k:Nat}(h:wM (kd S x o) k):k∈o.eX\/wM S k:=by
 obtain⟨y,j⟩:=h;by_cases e:y=x
 ·subst e;rw[gP] at j;exact .inl j
 ·rw[putG_ne _ e] at j;exact .inr ⟨y,j⟩
end
theorem vL{a:vK}{n:Cn}{p:Pl}{P:lz}{fy:Nat}{c:Cl}{base:Nat}(v:Value)(zs:List Int)(r:Int):kd (kd (kd (eM base a n p P fy c) .jb (.arr base 3 v (zs.map (Value.int .i64)))) .im (.eW a.g 101 ((kV p P fy a.ck a.nd a.lk a.tm a.pm c.rd).setIfInBounds 16 (.int .i64 r)))) .im (.eW a.g 101 (((kV p P fy a.ck a.nd a.lk a.tm a.pm c.rd).setIfInBounds 16 (.int .i64 r)).setIfInBounds 11 v))=eM base {a with ck:=v} n p P fy {c with ck:=zs,rd:=r}:=by funext y;cases y with|im=>rfl|jb=>rw[putG_ne _ ak,putG_ne _ ak,gP];rfl|_=>rw[putG_ne _ ak,putG_ne _ ak,putG_ne _ ak];rfl
theorem iJ.finish{w0 w w1 w2:World}{base g b7:Nat}{p:Pl}{P:lz}{fy M:Nat}{c:Cl}{bs bs':List Nat}(h:iJ w0 w base g p P fy c M w1 bs){gz n cp:Nat}{zs:List Int}(J:gz∈bs)(s:w.ownsRow b7 3 1 (.slice (some ⟨gz,0,none⟩) n cp) n (zs.map (Value.int .i64)))(C:base<=b7){r:Int}(Z:c.rd+1=r)(I: ∀b∈bs',b∈bs/\b≠gz/\w1.heap[b]? =w2.heap[b]?):iJ w0 ((w.setCell ⟨g,16,none⟩ (.int .i64 r)).setCell ⟨g,11,none⟩ (.slice (some ⟨gz,0,none⟩) n cp)) base g p P fy {c with ck:=zs,rd:=r} M w2 bs':=by
 obtain⟨a,rfl,h2,h3,h4,h5⟩:=h;have u:=s.lt gz rfl;have O:wM (eM base a (eO p) p P fy c) a.g:=⟨.im,by simp[eM,GO.eW]⟩;have E:base<=a.g:=(h2.gJ.own .im a.g (by simp[eM,GO.eW])).1;have f1:=h2.gJ.Ot .jb (.arr base 3 (.slice (some ⟨gz,0,none⟩) n cp) (zs.map (Value.int .i64))) (fK.s6 s C) (fun k hk=>by
  have e:k=gz:=by simpa[GO.arr,Value.ownBlock,eq_comm] using hk
  rw[e];exact⟨aK C u.1,u.2,(h5 gz J).2.1⟩)
 obtain⟨f2,X⟩:=f1.nb .im (g:=a.g) (by rw[putG_ne _ ak];rfl) 16 (.int .i64 r) h4;obtain⟨f3,Y⟩:=f2.nb .im (gP _ _) 11 (.slice (some ⟨gz,0,none⟩) n cp) (by simpa[World.setCell] using h4);rw[vL] at f3;refine⟨{a with ck:=.slice (some ⟨gz,0,none⟩) n cp},rfl,⟨f3,h2.rel.sd,h2.rel.al,h2.rel.tk,h2.rel.pr⟩, ?_,by simpa[World.setCell] using h4,fun b T=> ?_⟩
 ·exact(h3.setCell (p:=⟨a.g,16,none⟩) E _).setCell (p:=⟨a.g,11,none⟩) E _
 ·obtain⟨m1,m2,m3⟩:=I b T;obtain⟨U,z,K⟩:=h5 b m1;have j:b≠a.g:=fun e=>z (e▸O);refine⟨by simpa[World.setCell] using U,fun hm=> ?_, ?_⟩
  ·rw[<-vL (P:=P) (fy:=fy)] at hm;rcases yS hm with e|hm
   ·simp[GO.eW] at e;exact j e
   ·rcases yS hm with e|hm
    ·simp[GO.eW] at e;exact j e
    ·rcases yS hm with e|hm
     ·exact m2 (by simpa[GO.arr,Value.ownBlock,eq_comm] using e)
     ·exact z hm
  ·exact(aW _ _ _ _ j).trans ((aW _ _ _ _ j).trans (K.trans m3))
def Lt(w:World)(zs:List Int)(rs:List (List Int))(f:Int)(r:Ending)(w':World):Prop:=Below w.heap.size w w'/\((rs.length≠zs.length/\r=.returned (.tuple #[.slice none 0 0,.agg #[.int .i64 1,.int .i64 (-1)]]))\/(rs.length=zs.length/\∃i,i<zs.length/\(∀j,j<i->kW zs.length f (zs.getD j 0) (rs.getD j [])=0)/\kW zs.length f (zs.getD i 0) (rs.getD i [])≠0/\r=.returned (.tuple #[.slice none 0 0,.agg #[.int .i64 (kW zs.length f (zs.getD i 0) (rs.getD i [])),.int .i64 (i:Nat)]]))\/(rs.length=zs.length/\(∀j,j<zs.length->kW zs.length f (zs.getD j 0) (rs.getD j [])=0)/\∃v,r=.returned (.tuple #[v,.agg #[.int .i64 0,.int .i64 (-1)]])/\w'.ownsRow w.heap.size 3 1 v zs.length ((my zs rs f zs.length).map (Value.int .i64))))
theorem mf(tmps:Array Value)(w:World)(g:Nat)(v b0 b1:Value)(h1:tmps[6]? =some v)(h2:tmps[7]? =some (.pointer (some ⟨g,0,none⟩)))(h:eN w g 90 #[b0,b1]):(results f79 tmps).run prog w=.ok (.tuple #[v,.agg #[b0,b1]]) w:=by obtain⟨e,j,-,-⟩:=h.fQ;simp[results,results79,go_sem,h1,h2,e,j]
structure uO (w wr:World) (e0 e1:Value):Prop where
 b:eN wr w.heap.size 90 #[e0,e1]
 old:Below w.heap.size w wr
theorem uO.below{w w1 w2:World}{j e:Value}(h:uO w w1 j e)(hB:Below w1.heap.size w1 w2):uO w w2 j e:=⟨h.b.below hB h.b.lt,h.old.trans (hB.mono h.old.size)⟩
theorem uO.alloc{w w1:World}{j e:Value}(h:uO w w1 j e)(o:Obj):uO w (w1.alloc o) j e:=h.below ((au).alloc (ar) o)
theorem uO.GD{w w1:World}{j e:Value}(h:uO w w1 j e)(a b:Value):uO w ((w1.setCell ⟨w.heap.size,0,none⟩ a).setCell ⟨w.heap.size,1,none⟩ b) a b:=⟨by simpa using (h.b.eS 0 a).eS 1 b,(h.old.setCell (ar) _).setCell (ar) _⟩
theorem JN{w:World}{base j size n:Nat}{e:TypeId}{v:Value}{xs:List Value}(h:w.ownsRow base e size v n xs)(z:j<=base):w.ownsRow j e size v n xs:=by
 refine⟨h.1, ?_⟩;rcases h.2 with h1|⟨g,cap,cur,s,u,rest⟩
 ·exact .inl h1
 ·exact .inr ⟨g,cap,cur,s,aK z u,rest⟩
theorem IA{w:World}{g base size n:Nat}{e:TypeId}{v:Value}{xs:List Value}(h:w.ownsRow base e size v n xs)(z:g<base)(a b:Value):((w.setCell ⟨g,0,none⟩ a).setCell ⟨g,1,none⟩ b).ownsRow base e size v n xs:=by
 refine⟨h.1, ?_⟩;rcases h.2 with h1|⟨g1,cap,cur,j,s,u,rest⟩
 ·exact .inl h1
 ·exact .inr ⟨g1,cap,cur,j,s,((aW _ ⟨g,1,none⟩ b g1 (by show g1≠g;omega)).trans (aW _ ⟨g,0,none⟩ a g1 (by show g1≠g;omega))).trans u,rest⟩
theorem Lo(A:Option Addr)(c:Nat)(B:Option Addr)(d:Nat)(zs:List Int)(rs:List (List Int))(f:Int)(w:World)(a3:kY w A zs)(hB:qT w B rs)(h1:zs.length<=20)(_h2:rs.length<=25)(h3: ∀r∈rs,r.length<=30)(hF:nP w):Calls prog 79 #[.slice A zs.length c,.slice B rs.length d,.int .i64 f] w (Lt w zs rs f):=by
 have bl:=eJ a3;have bf:=eJ hB;have bm:=eJ h3;have a6:=eJ hF;have be:Hid (uO w (w.alloc (.cells #[.int .i64 0,.int .i64 0] 90)) (.int .i64 0) (.int .i64 0)):=eJ ⟨eN.new w _ _,(au).alloc (ar) _⟩;clear a3 hB h3 hF;obtain⟨n,hn⟩:=ab zs.length;obtain⟨q,hq⟩:=ab rs.length;have h:=eJ hn;have K:=eJ hq;rw[hn,hq];have b8:n<=20:=ah;clear hn hq h1;by_cases a4:q=n;case neg=>have d1:((q:Int) !=(n:Int))=true:=dP.2 ah;have d2: ¬(q:Int)=(n:Int):=ah;go_enter func79,ntmps79;go_wp2_with fail;refine(mn 1 _).mono ?_;rintro r b9 ⟨rfl,hB⟩;have a0:=eJ (be.out.below hB);clear hB;obtain⟨Y,x1,f0,f1⟩:=a0.out.b.fQ;go_wp2_with fail;have s:=eJ (a0.out.GD (.int .i64 1) (.int .i64 (-1)));exact aR (mf _ _ w.heap.size _ _ _ rfl rfl s.out.b) rfl ⟨s.out.old,.inl ⟨by rw[h.out,K.out];exact a4,rfl⟩⟩
 case pos=>
  subst a4;go_enter func79,ntmps79;go_wp2_with fail;go_loopw [8,21] (fun v8 i wr=> ∃k:Nat,k<=q/\i=.int .i64 k/\Hid (∀j,j<k->kW q f (zs.getD j 0) (rs.getD j [])=0)/\Hid (wr.ownsRow (w.heap.size+1) 3 1 v8 k ((my zs rs f k).map (Value.int .i64)))/\Hid (uO w wr (.int .i64 0) (.int .i64 0))) (fun _ i _=>q-(intOf i).toNat);case atStart=>exact⟨0,ah,rfl,eJ (fun j bx=>ah),eJ (bT _ _ _ _),be⟩
  case round=>
   obtain⟨k,hk,rfl,U,a8,z⟩:=hrel;by_cases O:k<q
   ·obtain⟨b,off,bj,bw,rfl,bd,ao⟩:=(bf.out.below (ar) z.out.old) k (by rw[K.out];exact O);obtain⟨b2,off2,rfl,am⟩:=(bl.out.below (ar) z.out.old) k (by rw[h.out];exact O);obtain⟨x,al⟩:=ab (zs.getD k 0);obtain⟨r,Z⟩:=ab (rs.getD k []);rw[Z] at bd ao;rw[al] at am;have bi:r.length<=30:=bm.out r (by rw[<-Z];simp[List.getD,show k<rs.length by rw[K.out];exact O]);have aa:=eJ (AI bj bw r f wr ao ah);have X:Hid (kW q f (zs.getD k 0) (rs.getD k [])=if r.length≠q then 1 else if jE x=true then 2 else lL r f):=eJ (by rw[al,Z];rfl);have ap:Hid (zs.getD k 0+ly (rs.getD k []) f=x+ly r f):=eJ (by rw[al,Z]);have bb:=eJ (si r f);obtain⟨ac,aA⟩:=ab r.length;rw[aA] at bd aa X;clear al Z ao bi aA;generalize lL r f=me at aa X;generalize ly r f=mv at aa ap bb;obtain⟨Y,x1,f0,f1⟩:=z.out.b.fQ;by_cases hl:ac=q;case neg=>have C:Hid (kW q f (zs.getD k 0) (rs.getD k [])=1):=eJ (by rw[X.out,aM hl]);have d1:((ac:Int) !=(q:Int))=true:=dP.2 ah;have d2: ¬(ac:Int)=(q:Int):=ah;go_wp2_with fail;have s:=eJ (z.out.GD (.int .i64 1) (.int .i64 (k:Nat)));exact aR (mf _ _ w.heap.size _ _ _ rfl rfl s.out.b) rfl ⟨s.out.old,.inr (.inl ⟨by rw[h.out,K.out],k,by rw[h.out];exact O,by rw[h.out];exact U.out,by rw[h.out,C.out];decide,by rw[h.out,C.out];rfl⟩)⟩
    case pos=>
     subst hl;cases J:jE x;case true=>have C:Hid (kW ac f (zs.getD k 0) (rs.getD k [])=2):=eJ (by rw[X.out,aI ak,aM J]);have ad:=eJ J;clear J;go_wp2_with (go_at_call 31;refine(vG x _).mono ?_;rintro e w3 ⟨rfl,rfl⟩;rw[ad.out]);have s:=eJ (z.out.GD (.int .i64 2) (.int .i64 (k:Nat)));exact aR (mf _ _ w.heap.size _ _ _ rfl rfl s.out.b) rfl ⟨s.out.old,.inr (.inl ⟨by rw[h.out,K.out],k,by rw[h.out];exact O,by rw[h.out];exact U.out,by rw[h.out,C.out];decide,by rw[h.out,C.out];rfl⟩)⟩
     case false=>
      have C:Hid (kW ac f (zs.getD k 0) (rs.getD k [])=me):=eJ (by rw[X.out,aI ak,aI (by rw[J];simp)]);obtain⟨cc,b6⟩:=yq J;have ad:=eJ J;clear J;by_cases he:me=0
      ·subst he;go_wp2_with (first|(go_at_call 31;refine(vG x _).mono ?_;rintro e w3 ⟨rfl,rfl⟩;rw[ad.out])|(go_at_call 37;fail));refine aa.out.mono ?_;rintro e w2 ⟨rfl,E⟩;obtain⟨bz,b3⟩:=bb.out;have b4:=(E.cell (p:=⟨b2,off2+k,none⟩) (aG _ _ am)).trans am;have T:=eJ ((jr a8.out E).alloc (.cells #[.int .i64 (x+mv)] 3));have I:=eJ (z.out.below E);obtain⟨i0,hi,bt,bq,bn⟩:=eR kz;have cb:wrap64 (x+mv)=x+mv:=by unfold wrap64;omega
       clear E Y x1 f0 f1;go_wp2_with (at_builtin;go_must (refine bD _ rfl (.tmp 52) (.tmp 59) _ rfl (w.heap.size+1) 3 i0 _ 1 8 underlying33 hi bt bq bn rfl aj u8 k ((my zs rs f k).map (Value.int .i64)) rfl (by exact T.out) ⟨w2.heap.size,0,none⟩ 1 1 [.int .i64 (x+mv)] rfl rfl (by exact vu (eN.new w2 3 #[.int .i64 (x+mv)])) (by intro u hu;simp at hu;subst hu;rfl) (by simp[maxLen];omega) ah (by have:=I.out.b.lt;simp;omega) ?_);intro v8 w8 a2 a7 _;have bk:=eJ a2;have a9:=eJ a7;clear a2 a7);go_roundw;case rel=>exact⟨k+1,ah,aq,eJ (all_succ U.out C.out),eJ (by rw[xL,ap.out];simpa using bk.out),eJ ⟨(I.out.alloc _).b.grown a9.out (fun e=>by have:=(T.out.lt _ e.symm).1;omega),(I.out.alloc _).old.grown a9.out (I.out.alloc _).old.size (fun j e=>by have:=(T.out.lt j e).1;omega)⟩⟩
       case measure=>simp[intOf];omega
      ·have bv:=eJ he;have d1:(me !=0)=true:=dP.2 he;have d2: ¬me=0:=he;clear he;go_wp2_with (first|(go_at_call 31;refine(vG x _).mono ?_;rintro e w3 ⟨rfl,rfl⟩;rw[ad.out])|(go_at_call 37;fail));refine aa.out.mono ?_;rintro e w2 ⟨rfl,E⟩;have I:=eJ (z.out.below E);clear E Y x1 f0 f1;obtain⟨Y,x1,f0,f1⟩:=I.out.b.fQ;go_wp2_with fail;have s:=eJ (I.out.GD (.int .i64 me) (.int .i64 (k:Nat)));exact aR (mf _ _ w.heap.size _ _ _ rfl rfl s.out.b) rfl ⟨s.out.old,.inr (.inl ⟨by rw[h.out,K.out],k,by rw[h.out];exact O,by rw[h.out];exact U.out,by rw[h.out,C.out];exact bv.out,by rw[h.out,C.out];rfl⟩)⟩
   ·obtain rfl:k=q:=ah;obtain⟨Y,x1,f0,f1⟩:=z.out.b.fQ;obtain⟨ca,b7⟩:=a6.out.below z.out.old;have a5:=aG w ⟨0,0,none⟩ a6.out.1;have n1:w.heap.size≠0:=by have:0<w.heap.size:=a5;omega
    have b5:(0:Nat)≠w.heap.size:=eC n1;clear a5;go_wp2_with fail;go_region;all_goals (go_wp2_with fail)
    have s:=eJ (z.out.GD (.int .i64 0) (.int .i64 (-1)));have T:=eJ (IA (g:=w.heap.size) a8.out (av) (.int .i64 0) (.int .i64 (-1)));all_goals exact aR (mf _ _ w.heap.size _ _ _ rfl rfl s.out.b.drew) rfl ⟨below_drewN s.out.old 1,.inr (.inr ⟨by rw[h.out,K.out],by rw[h.out];exact U.out,_,rfl,by rw[h.out];exact JN T.out (aw)⟩)⟩
end Go.Proofs.YtideefjnlakciaaGreatDoor
