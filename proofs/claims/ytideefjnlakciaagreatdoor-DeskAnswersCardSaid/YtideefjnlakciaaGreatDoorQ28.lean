/- The document's cluster's Play: a link of a node that sends; conditions: the cluster, and the links, lie in memory. -/
import Derived.Test.YtideefjnlakciaaGreatDoorQ00
import Derived.Test.YtideefjnlakciaaGreatDoorQ26
set_option maxRecDepth 1000000
set_option maxHeartbeats 20000000
set_option linter.unusedVariables false
set_option linter.unusedSimpArgs false
namespace Go.Proofs.YtideefjnlakciaaGreatDoor
open Go.RowKit Go.Proofs.Tryz
section
attribute [local irreducible] fu fG je eZ iC jl gW gS jg jj iX px DC
theorem Ew {Q : Exit → Act → World → Prop} (w0 w W1 : World) {base g : Nat} {p : Pl} {fy : Nat} {c1 j : Cl} {M : Nat} {q : Value} {ao AL : Option Addr} {cs cl nl : Nat} {bs : List Nat} (aA : iJ w0 w base g p ⟨.slice ao p.sl.length cs, .slice AL p.lk.length cl, q⟩ fy j M W1 bs) (hp : gl p) (hM : M < 1000) (be : fA w0 AL p.lk.length p.lk) (h0 : w0.heap.size ≤ base) (a5 : p.lk.length = nl)
 (s : Nat) (a2 : s ∈ bs) (node k : Nat) (E : Int) (st : Value) (bf : eN W1 s 86 #[.int .i64 node, .int .i64 E, st]) (hk : k < nl)
 (ok : Bool) (lk sq : Int) (d : ByteArray) (R pr T now : Int) (sm : j.rd = R) (kk : p.rd = pr) (lc : R * pr = T) (n2 : T + E = now) (Fn : 0 ≤ T ∧ T ≤ 4611686018427387904) (E0 : 0 ≤ now ∧ now ≤ 4611686018427387904)
 (hg : oQ p ok now node c1 j k lk sq d)
 {ty t7 pk hP cn pe pv c5 op o3 em hR p1 t9 le o2 p6 cv k7 ih d0 m8 kn oi A4 D3 z1 xs x0 lm e3 r4 e5 kb en m2 hD r7 it e4 bn eq cj ft o6 k8 j7 r5 fc kA b3 j2 r2 hc vq n1 ps oq l3 dt tA cr ct gw vi g3 nr q7 b2 j6 sE cu jp oA hn hO f5 p3 r8 d4 e2 m0 s0 iM m6 d9 nh d8 c8 l1 us i3 he i4 j5 n5 q3 hL cd hH me hA km g7 ht n0 ca ml tT k4 bz gd kq ut p0 m5 li pm vj mI un qr qn hy sc p9 cV ta pu rx lr oo f4 rp p4 ex t1 pw tn k0 s3 j0 kD iQ mE ts t8 sn kN ot oz ib rr g5 f1 hx os j3 o4 of qx i2 q2 r1 o5 i0 mU k9 e9 hB k5 m9 g9 d6 gf ms c0 p5 l5 mA is co b7 i1 hT j9 g4 i6 ge i7 mp hm kw oL ow ci l4 q6 iS k6 hh e7 lw c7 j4 hI f9 n4 s2 up vp t2 ev q5 mK hu gq hb hs ss s4 nA o1 dk hY f7 et c3 ne o9 dl q0 bv pd rt rc m7 ch c4 l0 fd n3 f2 m4 sD hS po sv p2 fp sb j8 gi hC iB ea pj ul sB g8 eg pi n7 ce fn go n6 r3 xl wb ys Av BT xt AK wv xf wz xj Do xn wf y4 y7 xb xu wq zz x8 x5 wl AR A9 yy Ad A5 A2 xv v6 z3 xo wn xT B9 C3 B1 y2 v5 x4 z6 Cn B0 Eq AH wd te d5 q4 cc bw ii eb ez ho hw t4 gc kp or cS cA hJ hf hW i5 iT hr j1 c6 n8 b6 f6 es t3 g0 rg hU p7 c9 sf vm e8 f3 gm hV d7 sa cb ob pl iA m3 ls r0 pp bl i9 hK q9 p8 el o0 dd q1 ha l2 hE pn hQ dg io cm i8 mt e0 kE t0 t5 fl mb ip n9 kx bx nn ei gr b9 tO oj g6 q8 hG r9 hv kf gz e6 hq e1 rn k3 tf hX s1 m1 tv ro r6 k1 on ds no bq bm hj uv pa hz se jv hN qq bt f8 b5 lj l6 b4 de er b8 cx tm : Value}
 (sG : ∀ ⦃v30 v31 v32 v33 B8 B2 AA At AM vs C1 xd xq x2 wA vx ww z0 x9 z2 Dk y9 v3 xm y8 An AS BD Bs z4 y6 wB z5 Ar v9 y0 C0 wy y3 z9 BL vv wx A3 AW AC v4 EQ wo A8 B3 A1 : Value⦄ (w' : World) (c2 : Cl) (t6 mv : Int) (d2 : ByteArray), iJ w0 w' base g p ⟨.slice ao p.sl.length cs, .slice AL p.lk.length cl, q⟩ fy c2 M W1 bs → oQ p ok now node c1 c2 (k + 1) t6 mv d2 → c2.rd = R → Q .normal ⟨#[.pointer (some ⟨g, 0, none⟩), ty, t7, pk, hP, cn, pe, pv, c5, op, o3, em, hR, p1, t9, le, o2, p6, cv, k7, ih, d0, .pointer (some ⟨s, 0, none⟩), m8, kn, .bool ok, oi, .int .i64 t6, .int .i64 mv, .string d2, v30, v31, v32, v33, B8, lm, e3, r4, e5, kb, en, m2, hD, r7, it, e4, bn, eq, cj, ft, o6, k8, j7, r5, fc, kA, b3, j2, r2, hc, vq, n1, ps, oq, l3, dt, tA, cr, ct, gw, vi, g3, nr, q7, b2, j6, sE, cu, jp, oA, hn, hO, f5, p3, r8, d4, e2, m0, s0, iM, m6, d9, nh, d8, c8, l1, us, i3, he, i4, j5, n5, q3, hL, cd, hH, me, hA, km, g7, ht, n0, ca, ml, tT, k4, bz, gd, kq, ut, p0, m5, li, pm, vj, mI, un, qr, qn, hy, sc, p9, cV, ta, pu, rx, lr, oo, f4, rp, p4, ex, t1, pw, tn, k0, s3, j0, kD, iQ, mE, ts, t8, sn, kN, ot, oz, ib, rr, g5, f1, hx, os, j3, o4, of, qx, i2, q2, r1, o5, i0, mU, k9, e9, hB, k5, m9, g9, d6, gf, ms, c0, p5, l5, mA, is, co, b7, i1, hT, j9, g4, i6, ge, i7, mp, hm, kw, oL, ow, ci, l4, q6, iS, k6, hh, e7, lw, c7, j4, hI, f9, n4, s2, up, vp, t2, ev, q5, mK, hu, gq, hb, hs, ss, s4, nA, o1, dk, hY, f7, et, c3, ne, o9, dl, q0, bv, pd, rt, rc, m7, ch, c4, l0, fd, n3, f2, m4, sD, hS, po, sv, p2, fp, sb, j8, gi, hC, iB, ea, pj, ul, sB, g8, eg, pi, n7, ce, fn, go, .slice AL nl cl, n6, .int .i64 k, r3, B2, AA, At, AM, vs, C1, xd, xq, x2, wA, vx, ww, z0, x9, z2, Dk, y9, v3, xm, y8, An, AS, BD, Bs, z4, y6, wB, z5, Ar, v9, y0, C0, wy, y3, z9, BL, vv, wx, A3, AW, AC, v4, EQ, wo, A8, B3, A1, te, d5, q4, cc, bw, ii, eb, ez, ho, hw, t4, gc, kp, or, cS, cA, hJ, hf, hW, i5, iT, hr, j1, c6, n8, b6, f6, es, t3, g0, rg, hU, p7, c9, sf, vm, e8, f3, gm, hV, d7, sa, cb, ob, pl, iA, m3, ls, r0, pp, bl, i9, hK, q9, p8, el, o0, dd, q1, ha, l2, hE, pn, hQ, dg, io, cm, i8, mt, e0, kE, t0, t5, fl, mb, ip, n9, kx, bx, nn, ei, gr, b9, tO, oj, g6, q8, hG, r9, hv, kf, gz, e6, hq, e1, rn, k3, tf, hX, s1, m1, tv, ro, r6, k1, on, ds, no, bq, bm, hj, uv, pa, hz, se, jv, hN, qq, bt, f8, b5, lj, l6, b4, de, er, b8, cx, tm], []⟩ w') :
 Code.wp prog (OT 11) Q ⟨#[.pointer (some ⟨g, 0, none⟩), ty, t7, pk, hP, cn, pe, pv, c5, op, o3, em, hR, p1, t9, le, o2, p6, cv, k7, ih, d0, .pointer (some ⟨s, 0, none⟩), m8, kn, .bool ok, oi, .int .i64 lk, .int .i64 sq, .string d, A4, D3, z1, xs, x0, lm, e3, r4, e5, kb, en, m2, hD, r7, it, e4, bn, eq, cj, ft, o6, k8, j7, r5, fc, kA, b3, j2, r2, hc, vq, n1, ps, oq, l3, dt, tA, cr, ct, gw, vi, g3, nr, q7, b2, j6, sE, cu, jp, oA, hn, hO, f5, p3, r8, d4, e2, m0, s0, iM, m6, d9, nh, d8, c8, l1, us, i3, he, i4, j5, n5, q3, hL, cd, hH, me, hA, km, g7, ht, n0, ca, ml, tT, k4, bz, gd, kq, ut, p0, m5, li, pm, vj, mI, un, qr, qn, hy, sc, p9, cV, ta, pu, rx, lr, oo, f4, rp, p4, ex, t1, pw, tn, k0, s3, j0, kD, iQ, mE, ts, t8, sn, kN, ot, oz, ib, rr, g5, f1, hx, os, j3, o4, of, qx, i2, q2, r1, o5, i0, mU, k9, e9, hB, k5, m9, g9, d6, gf, ms, c0, p5, l5, mA, is, co, b7, i1, hT, j9, g4, i6, ge, i7, mp, hm, kw, oL, ow, ci, l4, q6, iS, k6, hh, e7, lw, c7, j4, hI, f9, n4, s2, up, vp, t2, ev, q5, mK, hu, gq, hb, hs, ss, s4, nA, o1, dk, hY, f7, et, c3, ne, o9, dl, q0, bv, pd, rt, rc, m7, ch, c4, l0, fd, n3, f2, m4, sD, hS, po, sv, p2, fp, sb, j8, gi, hC, iB, ea, pj, ul, sB, g8, eg, pi, n7, ce, fn, go, .slice AL nl cl, n6, .int .i64 k, r3, xl, wb, ys, Av, BT, xt, AK, wv, xf, wz, xj, Do, xn, wf, y4, y7, xb, xu, wq, zz, x8, x5, wl, AR, A9, yy, Ad, A5, A2, xv, v6, z3, xo, wn, xT, B9, C3, B1, y2, v5, x4, z6, Cn, B0, Eq, AH, wd, te, d5, q4, cc, bw, ii, eb, ez, ho, hw, t4, gc, kp, or, cS, cA, hJ, hf, hW, i5, iT, hr, j1, c6, n8, b6, f6, es, t3, g0, rg, hU, p7, c9, sf, vm, e8, f3, gm, hV, d7, sa, cb, ob, pl, iA, m3, ls, r0, pp, bl, i9, hK, q9, p8, el, o0, dd, q1, ha, l2, hE, pn, hQ, dg, io, cm, i8, mt, e0, kE, t0, t5, fl, mb, ip, n9, kx, bx, nn, ei, gr, b9, tO, oj, g6, q8, hG, r9, hv, kf, gz, e6, hq, e1, rn, k3, tf, hX, s1, m1, tv, ro, r6, k1, on, ds, no, bq, bm, hj, uv, pa, hz, se, jv, hN, qq, bt, f8, b5, lj, l6, b4, de, er, b8, cx, tm], []⟩ w := by
 have x6 := hp.lk
 rw [a5] at x6
 have a7 := eJ aA; have v0 := eJ hp; have Fd := eJ be; have wt := eJ bf; have ap := eJ sG; have yv := eJ a2; have ac := eJ hg; have bk := eJ a5; have I := eJ sm; have BE := eJ kk
 have Fm : IntKind.i64.wrap (R * pr) = T := by rw [lc]; exact cJ _ ah
 have E7 : IntKind.i64.wrap (T + E) = now := by rw [n2]; exact cJ _ ah
 obtain ⟨bj, ol, x7, l, hl, xi, kt, y5, xc⟩ := (Ek be h0 aA.KM) k (by rw [a5]; exact hk)
 have U := eJ hl
 have AV : s < w.heap.size := aA.OS a2
 have C2 : w.cell? ⟨s, 0, none⟩ = some (.int .i64 node) := (aA.eW a2 bf).cell 0
 subst x7
 clear aA hp be bf sG a2 hg a5 sm kk lc n2 hl
 conv => arg 2; whnf
 have ad := eJ ((Below.refl w.heap.size w).alloc (ar) (.cells #[.int .i64 l.f, .int .i64 l.t, .int .i64 l.b, .int .i64 l.q] 88))
 cases ok
 ·go_wp2_with fail
  skip
  exact ap.out _ j lk sq d (a7.out.below ad.out) (ac.out.skip U.out (.inl rfl)) I.out
 ·by_cases K : 0 ≤ lk
  ·have d1 : decide ((0 : Int) ≤ lk) = true := aJ K
   have C := eJ (ac.out.skip U.out (.inr (.inl K)))
   clear K
   go_wp2_with fail
   skip
   exact ap.out _ j lk sq d (a7.out.below ad.out) C.out I.out
  ·have d1 : decide ((0 : Int) ≤ lk) = false := aH K
   by_cases Y : l.f = (node : Int)
   ·have d2 : (l.f != (node : Int)) = false := by simpa using Y
    have sz := eJ Y; have om := eJ K
    clear Y K
    go_wp2_with fail
    clear xi kt y5 xc C2 AV
    obtain ⟨Z, k2⟩ := ab (w.alloc (.cells #[.int .i64 l.f, .int .i64 l.t, .int .i64 l.b, .int .i64 l.q] 88))
    rw [k2] at ad ⊢
    have vc := eJ (a7.out.below ad.out)
    clear k2
    obtain ⟨b, off, cp, gs, al, a3, a0⟩ := vc.out.PB v0.out hM U.out
    have a6 : ∀ X c', iJ w0 X base g p ⟨.slice ao p.sl.length cs, .slice (some ⟨bj, ol, none⟩) p.lk.length cl, q⟩ fy c' M W1 bs → c'.rd = R → X.cell? ⟨g, 16, none⟩ = some (.int .i64 R) ∧ X.cell? ⟨g, 5, none⟩ = some (.int .i64 pr) ∧ X.cell? ⟨s, 1, none⟩ = some (.int .i64 E) := fun X c' h e => by
     obtain ⟨ck, E6, E5, Fr, FG, wk⟩ := h.cells
     obtain ⟨-, -, -, -, O, -, -, -, -, -, -, -, -, J⟩ := gg wk
     rw [BE.out] at O
     rw [e] at J
     exact ⟨J, O, (h.eW yv.out wt.out).cell 1⟩
    obtain ⟨J, O, x1⟩ := a6 Z j vc.out I.out
    rw [bk.out] at al
    obtain ⟨am, aa⟩ := ab (px now (j.sd k).la (j.sd k).nw l.b (j.sd k).q.length)
    have lb := eJ aa
    obtain ⟨z7, a4⟩ := ab ((j.sd k).q.headD ⟨#[]⟩)
    rw [a4] at a0
    have bi : am ≠ 0 → Hid (∀ u, Calls prog 81 #[.pointer (some ⟨gs, 0, none⟩), .int .i64 now] (Z.drewN u) fun e w' => e = .returned (.tuple #[.int .i64 0, .string ⟨#[]⟩, .int .i64 am]) ∧ Hid (iJ w0 w' base g p ⟨.slice ao p.sl.length cs, .slice (some ⟨bj, ol, none⟩) p.lk.length cl, q⟩ fy { j with sd := eV j.sd k (OI now l (j.sd k)) } M W1 bs) ∧ (w'.cell? ⟨g, 13, none⟩ = some (.slice (some ⟨b, off, none⟩) nl cp) ∧ w'.cell? ⟨b, off + k, none⟩ = some (.pointer (some ⟨gs, 0, none⟩)) ∧ w'.cell? ⟨g, 16, none⟩ = some (.int .i64 R) ∧ w'.cell? ⟨g, 5, none⟩ = some (.int .i64 pr) ∧ w'.cell? ⟨s, 1, none⟩ = some (.int .i64 E))) := fun a8 => eJ (fun u => by
     refine (a0 (Z.drewN u) now (below_drewN (au) u)).mono ?_
     rintro e w' ⟨⟨-, rfl, h1⟩ | ⟨h0, -⟩, h13, bb⟩
     ·rw [aa]
      rw [bk.out] at h13
      have h2 := a6 w' _ h1 I.out
      exact ⟨rfl, eJ h1, h13, bb, h2.1, h2.2.1, h2.2.2⟩
     ·exact absurd (aa.symm.trans h0) a8)
    have bd : am = 0 → Hid (∀ u, Calls prog 81 #[.pointer (some ⟨gs, 0, none⟩), .int .i64 now] (Z.drewN u) fun e w' => e = .returned (.tuple #[.int .i64 (j.sd k).nx, .string z7, .int .i64 0]) ∧ Hid (iJ w0 w' base g p ⟨.slice ao p.sl.length cs, .slice (some ⟨bj, ol, none⟩) p.lk.length cl, q⟩ fy { j with sd := eV j.sd k (Nr now (j.sd k)) } M W1 bs) ∧ (w'.cell? ⟨g, 13, none⟩ = some (.slice (some ⟨b, off, none⟩) nl cp) ∧ w'.cell? ⟨b, off + k, none⟩ = some (.pointer (some ⟨gs, 0, none⟩)) ∧ w'.cell? ⟨g, 16, none⟩ = some (.int .i64 R) ∧ w'.cell? ⟨g, 5, none⟩ = some (.int .i64 pr) ∧ w'.cell? ⟨s, 1, none⟩ = some (.int .i64 E))) := fun h0 => eJ (fun u => by
     refine (a0 (Z.drewN u) now (below_drewN (au) u)).mono ?_
     rintro e w' ⟨⟨a8, -⟩ | ⟨-, rfl, h1⟩, h13, bb⟩
     ·exact absurd (aa.trans h0) a8
     ·rw [bk.out] at h13
      have h2 := a6 w' _ h1 I.out
      exact ⟨rfl, eJ h1, h13, bb, h2.1, h2.2.1, h2.2.2⟩)
    clear a0 aa a6
    by_cases h0 : am = 0
    ·have v7 := bd h0
     have C := eJ (ac.out.some_ U.out rfl (by have := om.out; omega) sz.out (lb.out.trans h0))
     rw [a4] at C
     clear a4
     clear bi bd
     subst h0
     go_region_held3 (fun w' => w'.cell? ⟨g, 13, none⟩ = some (.slice (some ⟨b, off, none⟩) nl cp) ∧ w'.cell? ⟨b, off + k, none⟩ = some (.pointer (some ⟨gs, 0, none⟩)) ∧ w'.cell? ⟨g, 16, none⟩ = some (.int .i64 R) ∧ w'.cell? ⟨g, 5, none⟩ = some (.int .i64 pr) ∧ w'.cell? ⟨s, 1, none⟩ = some (.int .i64 E)) (first | exact ⟨al, a3, J, O, x1⟩ | exact z.out)
      (first | (go_at_call 81; go_must (refine (v7.out 1).mono ?_); rintro e w7 ⟨rfl, a9, z⟩; replace z := eJ z))
     clear z al a3 J O x1
     go_wp2_with fail
     exact ap.out _ _ _ _ _ a9.out C.out I.out
    ·have x3 := bi h0
     have C := eJ (ac.out.none_ U.out rfl (by have := om.out; omega) sz.out (fun h => h0 (lb.out.symm.trans h)))
     clear a4
     have d3 : (am == 0) = false := aV.2 h0
     clear bi bd
     go_region_held3 (fun w' => w'.cell? ⟨g, 13, none⟩ = some (.slice (some ⟨b, off, none⟩) nl cp) ∧ w'.cell? ⟨b, off + k, none⟩ = some (.pointer (some ⟨gs, 0, none⟩)) ∧ w'.cell? ⟨g, 16, none⟩ = some (.int .i64 R) ∧ w'.cell? ⟨g, 5, none⟩ = some (.int .i64 pr) ∧ w'.cell? ⟨s, 1, none⟩ = some (.int .i64 E)) (first | exact ⟨al, a3, J, O, x1⟩ | exact z.out)
      (first | (go_at_call 81; go_must (refine (x3.out 1).mono ?_); rintro e w7 ⟨rfl, a9, z⟩; replace z := eJ z))
     clear z al a3 J O x1
     go_wp2_with fail
     exact ap.out _ _ _ _ _ a9.out C.out I.out
   ·have d2 : (l.f != (node : Int)) = true := by simpa using Y
    have C := eJ (ac.out.skip U.out (.inr (.inr Y)))
    clear Y K
    go_wp2_with fail
    skip
    exact ap.out _ j lk sq d (a7.out.below ad.out) C.out I.out
end
end Go.Proofs.YtideefjnlakciaaGreatDoor
