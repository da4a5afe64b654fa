/- The document's cluster's Play: all hear a slot; conditions: the cluster, and what is lost, lie in memory. -/
import Derived.Test.YtideefjnlakciaaGreatDoorQ00
import Derived.Test.YtideefjnlakciaaGreatDoorQ28
set_option maxRecDepth 1000000
set_option maxHeartbeats 20000000
set_option linter.unusedVariables false
set_option linter.unusedSimpArgs false
namespace Go.Proofs.YtideefjnlakciaaGreatDoor
open Go.RowKit Go.Proofs.Tryz
section
attribute [local irreducible] fu fG je eZ iC jl gW gS jg jj iX ff
theorem K7 {Q : Exit → Act → World → Prop} (w0 w W1 : World) {base g : Nat} {p : Pl} {fy : Nat} {h : Cl} {N M : Nat} {q : Value} {z AL : Option Addr} {cs cl : Nat} {bs : List Nat} (co : iJ w0 w base g p ⟨.slice z p.sl.length cs, .slice AL p.lk.length cl, q⟩ fy h M W1 bs) (hp : gl p) (z1 : N + 4 ≤ 900000000000) (v6 : jH p h) (p7 : fA w0 AL p.lk.length p.lk) (h0 : w0.heap.size ≤ base)
 (A : Option Addr) (c1 j : Nat) (ls : List Ls) (e1 : ls.length = j) (kE : j ≤ 9223372036854775807) (oz : jD W1 A ls) (sD : ∀ x, A = some x → x.block ∈ bs) (s : Nat) (vx : s ∈ bs) (node nd i : Nat) (gc st : Value) (c8 : eN W1 s 86 #[.int .i64 node, gc, st]) (wb : node < p.nd.toNat) (a4 : p.nd.toNat = nd) (hi : i ≤ 100)
 (fr : Option mB) (ok : Bool) (T : Nat) (lk sq : Int) (d : ByteArray) (p0 : ∀ k, k ≤ p.nd.toNat → gH p N (ff p node i fr ls h k)) (Do : T < 65536) (vi : Ky fr ok T lk sq d) (r6 : lk < 0 ∨ ∃ (k : Nat) (l : Lk), lk = (k : Int) ∧ p.lk[k]? = some l)
 {pv iT ib aa dk fp uv j0 ss ty en r2 g8 q6 nr mI hV d7 bd j6 kq ts q8 f7 pu m8 y0 xt y2 HO hY z3 AA O m9 c9 rx it bb d5 hh se v9 pw l3 i0 sB g9 m6 ge I n5 b6 ft un gs n2 t4 o2 t5 vm hn kx e8 tn hB f9 v7 dd J rg j3 E ob dl U ol mE le k0 p9 o5 d9 mv hG hE ms tv hP bj tm kw te t8 lr dg hc f3 p2 f6 n9 a8 kn gq ii t7 cb bq sv bx bl b5 e5 K oo pd i7 eb rc n4 ih gd ez b8 qr d3 pl f2 i1 mA ta a2 kb ip cS i8 am q9 ci ml hJ e9 q0 ac eg kN cV el eq oA us li ds a0 e6 l4 t1 hU he gw e4 rr gf j9 es Z ct p5 pm vc io k2 b3 p8 dt bm me ne lb e2 wd k6 bi s3 e0 sn tT hW ho l2 i5 l0 et ei gm c5 pj ut oi ow a5 ot f4 oq e7 al a3 vq bz cu b7 kt hO iB l5 cA cd ea oL sE sb iQ pk hA rt l1 j8 t9 ao d1 v5 bn m1 os ps hz gz kf m2 j4 hj r7 hb kA j5 n0 ha of hl o4 d6 op q5 hC km hq iA k1 bf r8 vp d2 n3 k3 v3 lj cj rn tA hN r3 aA om n8 pe pi k4 jp lw oj rp q1 q3 pn k5 n6 ev n7 mp sm hQ ap r1 pp i6 gr fc sG hf po g7 hv r5 a9 m0 sa p4 r4 j7 o0 m3 m7 o9 p1 mU A5 wl y7 HV HC AS GT wy AV HG HB AM xj Fn x8 B2 yy xT y3 xq A1 zz xv HR C2 HA EQ Go HT x4 xf z4 HS yv z7 Av FG A8 GE HK xi xd wB ys wz wA wv HN C1 HP wf HW HD wt B9 HM ww xm D3 AW AK Fm BD xu A2 Bs BL At wx xl y4 BT x0 Ad HF E6 BE HQ xn E5 x3 xb wo x6 x9 y6 xs A9 Hb An C0 x7 A4 y9 Hh xc E0 xo Cn HH B8 z2 wn Fr Dk z5 F0 z6 A3 B3 wk x2 y8 HJ hS on sc k8 s0 t3 tO ex em qq pa i9 : Value}
 (hw : ∀ ⦃v35 v36 v37 bk v40 v41 Hw Hq c6 i4 cn ad X vj hR ul cr t0 up o3 g3 lc hH o6 mb sf t6 j2 de t2 hr tf ch hX hg go vs mt i2 jv mK c0 g4 no bv hy d4 vv hu kp hD be c7 hT g5 iM is q2 v0 q4 ck Y hx hK a6 qn nn cm lm q7 cx g6 o1 bt l6 er kk f1 fd i3 cc ro r0 m4 k9 b9 ht s4 f5 d8 fl r9 sz bw ca hM v4 ce m5 qx p3 s1 kD j1 e3 a7 gi hm hs fn p6 c4 hL c3 nA k7 d0 b2 nh f8 wq : Value⦄ (w' : World), iJ w0 w' base g p ⟨.slice z p.sl.length cs, .slice AL p.lk.length cl, q⟩ fy (ff p node i fr ls h nd) M W1 bs → Q .normal ⟨#[.pointer (some ⟨g, 0, none⟩), .slice A j c1, pv, iT, ib, aa, dk, fp, uv, j0, ss, ty, en, r2, g8, q6, nr, mI, hV, d7, bd, .int .i64 i, .pointer (some ⟨s, 0, none⟩), j6, .int .i64 T, .bool ok, kq, .int .i64 lk, .int .i64 sq, .string d, ts, q8, f7, pu, m8, v35, v36, v37, bk, hY, v40, v41, O, m9, c9, rx, it, bb, d5, hh, se, v9, pw, l3, i0, sB, g9, m6, ge, I, n5, b6, ft, un, gs, n2, t4, o2, t5, vm, hn, kx, e8, tn, hB, f9, v7, dd, J, rg, j3, E, ob, dl, U, ol, mE, le, k0, p9, o5, d9, mv, hG, hE, ms, tv, hP, bj, tm, kw, te, t8, lr, dg, hc, f3, p2, f6, n9, a8, kn, gq, ii, t7, cb, bq, sv, bx, bl, b5, e5, K, oo, pd, i7, eb, rc, n4, ih, gd, ez, b8, qr, d3, pl, f2, i1, mA, ta, a2, kb, ip, cS, i8, am, q9, ci, ml, hJ, e9, q0, ac, eg, kN, cV, el, eq, oA, us, li, ds, a0, e6, l4, t1, hU, he, gw, e4, rr, gf, j9, es, Z, ct, p5, pm, vc, io, k2, b3, p8, dt, bm, me, ne, lb, e2, wd, k6, bi, s3, e0, sn, tT, hW, ho, l2, i5, l0, et, ei, gm, c5, pj, ut, oi, ow, a5, ot, f4, oq, e7, al, a3, vq, bz, cu, b7, kt, hO, iB, l5, cA, cd, ea, oL, sE, sb, iQ, pk, hA, rt, l1, j8, t9, ao, d1, v5, bn, m1, os, ps, hz, gz, kf, m2, j4, hj, r7, hb, kA, j5, n0, ha, of, hl, o4, d6, op, q5, hC, km, hq, iA, k1, bf, r8, vp, d2, n3, k3, v3, lj, cj, rn, tA, hN, r3, aA, om, n8, pe, pi, k4, jp, lw, oj, rp, q1, q3, pn, k5, n6, ev, n7, mp, sm, hQ, ap, r1, pp, i6, gr, fc, sG, hf, po, g7, hv, r5, a9, m0, sa, p4, r4, j7, o0, m3, m7, o9, p1, mU, .int .i64 nd, Hw, Hq, c6, i4, cn, ad, X, vj, hR, ul, cr, t0, up, o3, g3, lc, hH, o6, mb, sf, t6, j2, de, t2, hr, tf, ch, hX, hg, go, vs, mt, i2, jv, mK, c0, g4, no, bv, hy, d4, vv, hu, kp, hD, be, c7, hT, g5, iM, is, q2, v0, q4, ck, Y, hx, hK, a6, qn, nn, cm, lm, q7, cx, g6, o1, bt, l6, er, kk, f1, fd, i3, cc, ro, r0, m4, k9, b9, ht, s4, f5, d8, fl, r9, sz, bw, ca, hM, v4, ce, m5, qx, p3, s1, kD, j1, e3, a7, gi, hm, hs, fn, p6, c4, hL, c3, nA, k7, d0, b2, nh, f8, wq, hS, on, sc, k8, s0, t3, tO, ex, em, qq, pa, i9], []⟩ w') :
 Code.wp prog (OT 12) Q ⟨#[.pointer (some ⟨g, 0, none⟩), .slice A j c1, pv, iT, ib, aa, dk, fp, uv, j0, ss, ty, en, r2, g8, q6, nr, mI, hV, d7, bd, .int .i64 i, .pointer (some ⟨s, 0, none⟩), j6, .int .i64 T, .bool ok, kq, .int .i64 lk, .int .i64 sq, .string d, ts, q8, f7, pu, m8, y0, xt, y2, HO, hY, z3, AA, O, m9, c9, rx, it, bb, d5, hh, se, v9, pw, l3, i0, sB, g9, m6, ge, I, n5, b6, ft, un, gs, n2, t4, o2, t5, vm, hn, kx, e8, tn, hB, f9, v7, dd, J, rg, j3, E, ob, dl, U, ol, mE, le, k0, p9, o5, d9, mv, hG, hE, ms, tv, hP, bj, tm, kw, te, t8, lr, dg, hc, f3, p2, f6, n9, a8, kn, gq, ii, t7, cb, bq, sv, bx, bl, b5, e5, K, oo, pd, i7, eb, rc, n4, ih, gd, ez, b8, qr, d3, pl, f2, i1, mA, ta, a2, kb, ip, cS, i8, am, q9, ci, ml, hJ, e9, q0, ac, eg, kN, cV, el, eq, oA, us, li, ds, a0, e6, l4, t1, hU, he, gw, e4, rr, gf, j9, es, Z, ct, p5, pm, vc, io, k2, b3, p8, dt, bm, me, ne, lb, e2, wd, k6, bi, s3, e0, sn, tT, hW, ho, l2, i5, l0, et, ei, gm, c5, pj, ut, oi, ow, a5, ot, f4, oq, e7, al, a3, vq, bz, cu, b7, kt, hO, iB, l5, cA, cd, ea, oL, sE, sb, iQ, pk, hA, rt, l1, j8, t9, ao, d1, v5, bn, m1, os, ps, hz, gz, kf, m2, j4, hj, r7, hb, kA, j5, n0, ha, of, hl, o4, d6, op, q5, hC, km, hq, iA, k1, bf, r8, vp, d2, n3, k3, v3, lj, cj, rn, tA, hN, r3, aA, om, n8, pe, pi, k4, jp, lw, oj, rp, q1, q3, pn, k5, n6, ev, n7, mp, sm, hQ, ap, r1, pp, i6, gr, fc, sG, hf, po, g7, hv, r5, a9, m0, sa, p4, r4, j7, o0, m3, m7, o9, p1, mU, .int .i64 nd, .int .i64 0, A5, wl, y7, HV, HC, AS, GT, wy, AV, HG, HB, AM, xj, Fn, x8, B2, yy, xT, y3, xq, A1, zz, xv, HR, C2, HA, EQ, Go, HT, x4, xf, z4, HS, yv, z7, Av, FG, A8, GE, HK, xi, xd, wB, ys, wz, wA, wv, HN, C1, HP, wf, HW, HD, wt, B9, HM, ww, xm, D3, AW, AK, Fm, BD, xu, A2, Bs, BL, At, wx, xl, y4, BT, x0, Ad, HF, E6, BE, HQ, xn, E5, x3, xb, wo, x6, x9, y6, xs, A9, Hb, An, C0, x7, A4, y9, Hh, xc, E0, xo, Cn, HH, B8, z2, wn, Fr, Dk, z5, F0, z6, A3, B3, wk, x2, y8, HJ, hS, on, sc, k8, s0, t3, tO, ex, em, qq, pa, i9], []⟩ w := by
 have HE := hp.n16
 have AH := hp.n1
 have HX : nd ≤ 16 := ah
 have B1 := eJ co; have y5 := eJ hp; have AC := eJ p0; have Eq := eJ v6; have AR := eJ p7; have E7 := eJ oz; have B0 := eJ sD; have z9 := eJ c8; have GO := eJ vi; have C3 := eJ hw; have z0 := eJ e1; have x5 := eJ vx; have HI := eJ r6
 have HL := eJ kE; have cv := eJ a4; have iS := eJ wb
 clear co hp p0 v6 p7 oz sD c8 vi hw e1 vx HE AH r6 kE a4 wb
 conv => arg 2; whnf
 go_wp2_with fail
 go_loopw [325] (fun v wr => ∃ k : Nat, k ≤ nd ∧ v = .int .i64 k ∧ Hid (iJ w0 wr base g p ⟨.slice z p.sl.length cs, .slice AL p.lk.length cl, q⟩ fy (ff p node i fr ls h k) M W1 bs)) (fun v _ => nd - (intOf v).toNat)
 case atStart => exact ⟨0, ah, rfl, eJ (by rw [oT]; exact B1.out)⟩
 case round =>
  obtain ⟨k, hk, rfl, C⟩ := hrel
  by_cases Ar : k < nd
  ·have b4 := eJ (AC.out k (by rw [cv.out]; exact hk))
   have s2 := eJ (Eq.out.all iS.out i fr ls k)
   have hI : Hid ((if k = node then ff p node i fr ls h k else je p node k i fr ls (ff p node i fr ls h k)) = ff p node i fr ls h (k + 1)) := eJ (by
    by_cases e : k = node
    ·rw [aM e, o7 e]
    ·rw [aI e, oN e])
   obtain ⟨c2, g0⟩ := ab (ff p node i fr ls h k)
   rw [g0] at C b4 hI s2
   clear g0
   go_upto_block 13 with fail
   refine Mw w0 wr W1 C.out y5.out b4.out z1 s2.out AR.out h0 A c1 j ls z0.out HL.out E7.out B0.out s x5.out node k i gc st z9.out iS.out (by rw [cv.out]; exact Ar) hi fr ok T lk sq d Do GO.out HI.out (fun v35 v36 v37 bk v40 v41 c6 i4 cn ad X vj hR ul cr t0 up o3 g3 lc hH o6 mb sf t6 j2 de t2 hr tf ch hX hg go vs mt i2 jv mK c0 g4 no bv hy d4 vv hu kp hD be c7 hT g5 iM is q2 v0 q4 ck Y hx hK a6 qn nn cm lm q7 cx g6 o1 bt l6 er kk f1 fd i3 cc ro r0 m4 k9 b9 ht s4 f5 d8 fl r9 sz bw ca hM v4 ce m5 qx p3 s1 kD j1 e3 a7 gi hm hs fn p6 c4 hL c3 nA k7 d0 b2 nh f8 w' u => ?_)
   rw [hI.out] at u
   have Fd := eJ u
   clear u
   go_wp2_with fail
   go_roundw
   case rel => exact ⟨k + 1, ah, aq, Fd⟩
   case measure => simp [intOf]; omega
  ·obtain rfl : k = nd := ah
   go_wp2_with fail
   exact C3.out _ C.out
end
section
attribute [local irreducible] fu fG je eZ iC jl gW gS jg jj iX px DC
theorem BI {Q:Exit→Act→World→Prop} (w0 w W1:World) {base g:Nat} {p:Pl} {fy:Nat} {c1:Cl} {M:Nat} {q:Value} {z AL:Option Addr} {cs cl nl:Nat} {bs:List Nat} (cu:iJ w0 w base g p ⟨.slice z p.sl.length cs,.slice AL p.lk.length cl,q⟩ fy c1 M W1 bs) (hp:gl p) (hM:M<1000) (p2:fA w0 AL p.lk.length p.lk) (h0:w0.heap.size≤base) (I:p.lk.length=nl)
 (h:Nat) (vq:h∈bs) (node:Nat) (C:Int) (st:Value) (dt:eN W1 h 86 #[.int .i64 node,.int .i64 C,st])
 (ok:Bool) (R pr e now:Int) (li:c1.rd=R) (i5:p.rd=pr) (m4:R*pr=e) (hm:e+C=now) (x0:0≤e∧e≤4611686018427387904) (z3:0≤now∧now≤4611686018427387904)
 {am po i9 iS ad d4 gr t6 j4 sb s4 e4 rr ho q2 nh mK iA en bn us j8 t1 kD AK z6 wx zz x7 f7 ds gd ut iQ hy hW Z m6 d0 rg i3 bm el hz r6 v3 pp l5 jp se hq m3 ha K n2 ce gs t2 hh nr tv oz ty uv hG k1 gi s2 hS g8 v0 d1 T q5 j5 J n4 d5 aa ob mI lm k6 p4 o1 eq mA hX hU mt s3 io bw s0 k0 sD tO lw d3 hu g5 pu g7 n3 bj kA hf i0 tA ck b5 sc b8 b2 cd f9 X oi o5 j1 ex q4 n0 iT g9 fd ci p7 eg pe g4 jv mE sz a5 kn i2 c9 j2 ap q3 cn ms ih gm p9 al ez k5 de e2 e5 os t4 lr d6 a4 gc mb tf it hv hj f8 q8 hc km e8 ac cS p0 pi t9 i1 k8 cb p3 d7 b3 mp m7 lj f4 v7 lb bv ss fl sa te iM hH l3 j0 l1 e9 e1 he dk o9 t5 n7 op bd oo g6 ol ge ao a7 vi b9 c3 ch kN ii i7 me c7 cm ev ow sf r3 i8 pa hR q9 l2 kf tT a0 d9 vx b4 m0 om pm hN hl kq m1 j6 hB r0 ht k3 j7 no hs n6 hD o0 em oj q0 hT kt hJ i4 k7 bt r1 vc eb nA wl z7 AM xd An wd y0 yv y5 y6 xt xn xv yy z9 z4 z5 y7 xu x9 wn ys xT AC xf wb Ad y9 xl wy wv AH wA y8 wz wB At wf x3 Av z2 Ar xo y2 x4 x6 y4 z1 x2 vs kp lc Y g3 v5 r7 i6 rc bb j9 sG r4 iB c4 p1 f1 m5 f6 ei gf dg kk hr ea vp ot r2 o4 q1 v4 e6 cv hA vv f5 hK hV qq ls q7 ts cx ca bq f3 be bi a6 t7 oq vj O v6 r8 a3 nn t3 a8 c6 o2 kb is ps l6 d8 kw l4 mv hQ a9 c5 go mU es hO sB pl ml vm c8 pj e0 bx a2 fp f2 gw dl l0 rn hP n8 ft k2 hn ro bz pd dd n1 s1 ne hx aA qn oL hC qr hI kx m8 U et hg tm ip of r5 le sm tn ta fc e3 p5 o3 j3:Value}
 (hL: ∀⦃v30 v31 v32 v33 up xm xs o6 cr ct p8 e7 fn t0 n5 bl n9 c0 ul cV kE m2 p6 co pk cA on hE oA q6 pn un cj b6 k4 bk rx rt r9 qx er g0 rp bf sn sv hb hY t8 gz hw pv cc gq wq:Value⦄(w':World) (c2:Cl) (u s:Int) (d2:ByteArray),iJ w0 w' base g p ⟨.slice z p.sl.length cs,.slice AL p.lk.length cl,q⟩ fy c2 M W1 bs→oQ p ok now node c1 c2 p.lk.length u s d2→c2.rd=R→Q .normal ⟨#[.pointer (some ⟨g,0,none⟩),am,po,i9,iS,ad,d4,gr,t6,j4,sb,s4,e4,rr,ho,q2,nh,mK,iA,en,bn,us,.pointer (some ⟨h,0,none⟩),j8,t1,.bool ok,kD,.int .i64 u,.int .i64 s,.string d2,v30,v31,v32,v33,up,f7,ds,gd,ut,iQ,hy,hW,Z,m6,d0,rg,i3,bm,el,hz,r6,v3,pp,l5,jp,se,hq,m3,ha,K,n2,ce,gs,t2,hh,nr,tv,oz,ty,uv,hG,k1,gi,s2,hS,g8,v0,d1,T,q5,j5,J,n4,d5,aa,ob,mI,lm,k6,p4,o1,eq,mA,hX,hU,mt,s3,io,bw,s0,k0,sD,tO,lw,d3,hu,g5,pu,g7,n3,bj,kA,hf,i0,tA,ck,b5,sc,b8,b2,cd,f9,X,oi,o5,j1,ex,q4,n0,iT,g9,fd,ci,p7,eg,pe,g4,jv,mE,sz,a5,kn,i2,c9,j2,ap,q3,cn,ms,ih,gm,p9,al,ez,k5,de,e2,e5,os,t4,lr,d6,a4,gc,mb,tf,it,hv,hj,f8,q8,hc,km,e8,ac,cS,p0,pi,t9,i1,k8,cb,p3,d7,b3,mp,m7,lj,f4,v7,lb,bv,ss,fl,sa,te,iM,hH,l3,j0,l1,e9,e1,he,dk,o9,t5,n7,op,bd,oo,g6,ol,ge,ao,a7,vi,b9,c3,ch,kN,ii,i7,me,c7,cm,ev,ow,sf,r3,i8,pa,hR,q9,l2,kf,tT,a0,d9,vx,b4,m0,om,pm,hN,hl,kq,m1,j6,hB,r0,ht,k3,j7,no,hs,n6,hD,o0,em,oj,q0,hT,kt,hJ,i4,k7,bt,r1,vc,eb,nA,.slice AL nl cl,.int .i64 nl,xm,xs,o6,cr,ct,p8,e7,fn,t0,n5,bl,n9,c0,ul,cV,kE,m2,p6,co,pk,cA,on,hE,oA,q6,pn,un,cj,b6,k4,bk,rx,rt,r9,qx,er,g0,rp,bf,sn,sv,hb,hY,t8,gz,hw,pv,cc,gq,wq,vs,kp,lc,Y,g3,v5,r7,i6,rc,bb,j9,sG,r4,iB,c4,p1,f1,m5,f6,ei,gf,dg,kk,hr,ea,vp,ot,r2,o4,q1,v4,e6,cv,hA,vv,f5,hK,hV,qq,ls,q7,ts,cx,ca,bq,f3,be,bi,a6,t7,oq,vj,O,v6,r8,a3,nn,t3,a8,c6,o2,kb,is,ps,l6,d8,kw,l4,mv,hQ,a9,c5,go,mU,es,hO,sB,pl,ml,vm,c8,pj,e0,bx,a2,fp,f2,gw,dl,l0,rn,hP,n8,ft,k2,hn,ro,bz,pd,dd,n1,s1,ne,hx,aA,qn,oL,hC,qr,hI,kx,m8,U,et,hg,tm,ip,of,r5,le,sm,tn,ta,fc,e3,p5,o3,j3],[]⟩ w'):
 Code.wp prog (OT 10) Q ⟨#[.pointer (some ⟨g,0,none⟩),am,po,i9,iS,ad,d4,gr,t6,j4,sb,s4,e4,rr,ho,q2,nh,mK,iA,en,bn,us,.pointer (some ⟨h,0,none⟩),j8,t1,.bool ok,kD,.int .i64 (-1),.int .i64 0,.string ⟨#[]⟩,AK,z6,wx,zz,x7,f7,ds,gd,ut,iQ,hy,hW,Z,m6,d0,rg,i3,bm,el,hz,r6,v3,pp,l5,jp,se,hq,m3,ha,K,n2,ce,gs,t2,hh,nr,tv,oz,ty,uv,hG,k1,gi,s2,hS,g8,v0,d1,T,q5,j5,J,n4,d5,aa,ob,mI,lm,k6,p4,o1,eq,mA,hX,hU,mt,s3,io,bw,s0,k0,sD,tO,lw,d3,hu,g5,pu,g7,n3,bj,kA,hf,i0,tA,ck,b5,sc,b8,b2,cd,f9,X,oi,o5,j1,ex,q4,n0,iT,g9,fd,ci,p7,eg,pe,g4,jv,mE,sz,a5,kn,i2,c9,j2,ap,q3,cn,ms,ih,gm,p9,al,ez,k5,de,e2,e5,os,t4,lr,d6,a4,gc,mb,tf,it,hv,hj,f8,q8,hc,km,e8,ac,cS,p0,pi,t9,i1,k8,cb,p3,d7,b3,mp,m7,lj,f4,v7,lb,bv,ss,fl,sa,te,iM,hH,l3,j0,l1,e9,e1,he,dk,o9,t5,n7,op,bd,oo,g6,ol,ge,ao,a7,vi,b9,c3,ch,kN,ii,i7,me,c7,cm,ev,ow,sf,r3,i8,pa,hR,q9,l2,kf,tT,a0,d9,vx,b4,m0,om,pm,hN,hl,kq,m1,j6,hB,r0,ht,k3,j7,no,hs,n6,hD,o0,em,oj,q0,hT,kt,hJ,i4,k7,bt,r1,vc,eb,nA,.slice AL nl cl,.int .i64 nl,.int .i64 0,wl,z7,AM,xd,An,wd,y0,yv,y5,y6,xt,xn,xv,yy,z9,z4,z5,y7,xu,x9,wn,ys,xT,AC,xf,wb,Ad,y9,xl,wy,wv,AH,wA,y8,wz,wB,At,wf,x3,Av,z2,Ar,xo,y2,x4,x6,y4,z1,x2,vs,kp,lc,Y,g3,v5,r7,i6,rc,bb,j9,sG,r4,iB,c4,p1,f1,m5,f6,ei,gf,dg,kk,hr,ea,vp,ot,r2,o4,q1,v4,e6,cv,hA,vv,f5,hK,hV,qq,ls,q7,ts,cx,ca,bq,f3,be,bi,a6,t7,oq,vj,O,v6,r8,a3,nn,t3,a8,c6,o2,kb,is,ps,l6,d8,kw,l4,mv,hQ,a9,c5,go,mU,es,hO,sB,pl,ml,vm,c8,pj,e0,bx,a2,fp,f2,gw,dl,l0,rn,hP,n8,ft,k2,hn,ro,bz,pd,dd,n1,s1,ne,hx,aA,qn,oL,hC,qr,hI,kx,m8,U,et,hg,tm,ip,of,r5,le,sm,tn,ta,fc,e3,p5,o3,j3],[]⟩ w:=by
 have xq:=hp.lk
 rw[I] at xq
 have x5:=eJ cu;have ww:=eJ hp;have xi:=eJ p2;have xb:=eJ dt;have y3:=eJ hL;have wo:=eJ vq;have pw:=eJ I;have wk:=eJ li;have AA:=eJ i5;have wt:=eJ m4;have v9:=eJ hm
 clear cu hp p2 dt hL vq I li i5 m4 hm
 conv=>arg 2;whnf
 go_wp2_with fail
 go_loopw [27,28,29,274] (fun v27 v28 v29 v wr=> ∃(k:Nat) (lk sq:Int) (d:ByteArray) (j:Cl),k≤nl∧v27=.int .i64 lk∧v28=.int .i64 sq∧v29=.string d∧v=.int .i64 k∧Hid (iJ w0 wr base g p ⟨.slice z p.sl.length cs,.slice AL p.lk.length cl,q⟩ fy j M W1 bs)∧Hid (oQ p ok now node c1 j k lk sq d)∧Hid (j.rd=R)) (fun _ _ _ v _=>nl-(intOf v).toNat)
 case atStart=>exact⟨0,-1,0,⟨#[]⟩,c1,ah,rfl,rfl,rfl,rfl,x5,eJ (oQ.start p ok now node c1),wk⟩
 case round=>
  obtain⟨k,lk,sq,d,j,hk,rfl,rfl,rfl,rfl,sE,E,k9⟩:=hrel
  by_cases xc:k<nl
  ·go_upto_block 11 with fail
   refine Ew w0 wr W1 sE.out ww.out hM xi.out h0 pw.out h wo.out node k C st xb.out xc ok lk sq d R pr e now k9.out AA.out wt.out v9.out x0 z3 E.out (fun v30 v31 v32 v33 up o6 cr ct p8 e7 fn t0 n5 bl n9 c0 ul cV kE m2 p6 co pk cA on hE oA q6 pn un cj b6 k4 bk rx rt r9 qx er g0 rp bf sn sv hb hY t8 gz hw pv cc gq w' c2 u s d2 b7 ib m9=> ?_)
   have z0:=eJ b7;have x8:=eJ ib;have xj:=eJ m9
   clear b7 ib m9
   go_wp2_with fail
   go_roundw
   case rel=>exact⟨k+1,u,s,d2,c2,ah,rfl,rfl,rfl,aq,z0,x8,xj⟩
   case measure=>simp[intOf];omega
  ·obtain rfl:k=nl:=ah
   rw[←pw.out] at E
   go_wp2_with fail
   exact y3.out _ _ _ _ _ sE.out E.out k9.out
end
section
attribute [local irreducible] fu jg lu
section
variable {w0 w w' w1:World}{base g:Nat}{p:Pl}{P:lz}{fy M:Nat}{c:Cl}{bs:List Nat}
theorem iJ.Nq(h:iJ w0 w base g p P fy c M w1 bs)(hp:gl p){N:Nat}(ap:gH p N c)(am:N<=1000000000000)(hm: ∀i,(c.mm i).m<2^p.nd.toNat){i:Nat}(hi:i<p.nd.toNat): ∃b off cp gm,w.cell? ⟨g,12,none⟩=some (.slice (some ⟨b,off,none⟩) p.nd.toNat cp)/\w.cell? ⟨b,off+i,none⟩=some (.pointer (some ⟨gm,0,none⟩))/\(∀(W:World),Below w.heap.size w W->Calls prog 80 #[.pointer (some ⟨gm,0,none⟩)] W fun e w'=>e=.returned (.tuple #[.int .i64 (gR (c.mm i).m (c.mm i).gd (c.mm i).bd (c.mm i).fz),.bool (fs (c.mm i).gd (c.mm i).bd (c.mm i).fz)])/\iJ w0 w' base g p P fy {c with mm:=eV c.mm i (c.mm i).send} M w1 bs/\w'.cell? ⟨g,12,none⟩=some (.slice (some ⟨b,off,none⟩) p.nd.toNat cp)/\w'.cell? ⟨b,off+i,none⟩=some (.pointer (some ⟨gm,0,none⟩))):=by
 obtain⟨a,rfl,h2,h3,h4,h5⟩:=h;have hn:=hp.n16;have ao:=hp.n1;obtain⟨b,off,cp,e,u⟩:=h2.Oo (i:=i) hi;obtain⟨-,-,-,-,-,-,-,-,-,j,-⟩:=gg h2.gA;rw[e] at j;have E:(eM base a (eO p) p P fy c (.xh i)).eX=[a.gm i,a.gt i]:=by have:i<(eO p).nm:=hi;simp[eM,this,GO.mem]
 have T:a.g∈(eM base a (eO p) p P fy c .im).eX:=by simp[eM,GO.eW]
 have Z:b∈(eM base a (eO p) p P fy c .nodA).eX:=by simp[eM,GO.arr,e,Value.ownBlock]
 have ad: ¬a.g∈[a.gm i,a.gt i]:=fun hm=>absurd (h2.gJ.sep (.xh i) .im a.g (by rw[E];exact hm) T) ak;have aa: ¬b∈[a.gm i,a.gt i]:=fun hm=>absurd (h2.gJ.sep (.xh i) .nodA b (by rw[E];exact hm) Z) ak;refine⟨b,off,cp,a.gm i,j,u,fun W hB=> ?_⟩;have z:=h2.below hB;have U:=h3.trans (hB.mono h4);have J:=aK h4 hB.size;have ac: ∀b∈bs,b<W.heap.size/\¬wM (eM base a (eO p) p P fy c) b/\W.heap[b]? =w1.heap[b]? :=fun b s=>⟨aN (h5 b s).1 hB.size,(h5 b s).2.1,(hB.block b (h5 b s).1).trans (h5 b s).2.2⟩;obtain⟨n1,al,O⟩:=z.Bq (i:=i) hi;have I:=(hB.cell (p:=⟨a.g,12,none⟩) (aG _ _ j)).trans j;have C:=(hB.cell (p:=⟨b,off+i,none⟩) (aG _ _ u)).trans u;refine(vr (a.gm i) (a.gt i) i p.nd.toNat (c.mm i).m (c.mm i).gd (c.mm i).bd (c.mm i).fz W n1 al O ah (hm i)).mono ?_;rintro e w' ⟨rfl,K⟩;obtain⟨s1,s2,X,Y⟩:=vy (c.mm i);have hk:=K.2.2.KN;refine⟨rfl,.vB rfl z U J ac (z.Ea hi (c.mm i).send (by rw[s1,s2,X,Y];exact K) J), ?_, ?_⟩
 ·exact(fj (hk.block a.g (aG _ _ I) ad) 12).trans I
 ·exact(fj (hk.block b (aG _ _ C) aa) (off+i)).trans C
end
end
section
attribute [local irreducible] fu gR fs
theorem Er {Q:Exit→Act→World→Prop} (w0 w W1:World) {base g:Nat} {p:Pl} {P:lz} {fy:Nat} {h:Cl} {N M:Nat} {bs:List Nat} (s:iJ w0 w base g p P fy h M W1 bs) (hp:gl p) (pp:gH p N h) (wn:N≤1000000000000) (vp:jH p h)
 (j:Nat) (J:j∈bs) (node:Nat) (wf st:Value) (C:eN W1 j 86 #[.int .i64 node,wf,st]) (vv:node<p.nd.toNat)
 {ap pn iQ hY am dl f9 t6 i6 sl te et rx hc q2 m4 ml hU d9 bw t9 jp xs xc kf a9 d6 b3 s4 q3 gs po mU fn dd f2 ul hX hn hK ac m0 de ro ip bv d7 ho sa vs ps lj iS sn he mE g0 T nh ch gc t2 g8 m7 tO os tT un hu kn f5 s3 hG gw vq dg X q6 i7 O n0 ds ad n6 me k4 kw p4 oA ea l6 hL hI l4 ta hP b4 s1 km sG t1 k8 dk hj go pw gr nA bq kb g5 ih t0 cm b9 sm ca b7 ce ft Z n9 o3 i2 el q5 m9 ib gz e3 cj p6 d4 pd gi iT mb sD a8 j4 io c4 i3 a0 q4 co l2 hM f6 p7 ao em kt c6 er ev om t4 k5 dt a7 f1 lr ts hT hk g9 fp rc g3 j3 ez al cv p1 pe t8 ii kA cd p3 d0 b8 l1 m1 k3 fc v4 k0 b2 sB e4 sf tn hW hv le i0 lc e0 eq g4 c8 o6 t5 n3 oj bl oi gq of f3 aA be us cb cx ci kk hO iA ls c0 cn ei op ss r7 iM o9 hE rg xb wA xq v5 wb xt v6 xf xi xm wt wk j6 mv i8 hr r3 hh kq i9 m6 hg n2 ht oz d8 ob q0 hH j7 hx is kx bz r4 up d3 m8 kD vm k6 cr q7 tf hN r0 a5 n7 nr o4 o5 kE i5 lb n4 q8 p8 qr pj kN nn e1 no l3 se hQ a3 rr pm i1 g7 f7 sv hl pl hb hy r2 bt mt r6 p0 r1 j1 oq mA mK o0 pv ms vi j5 k1 aa gf v0 sb it rn bk jv s0 r8 hV cA p2 e7 mI fl d5 f4 c7 j2 hf d2 vc oo r5 o2 q1 vx ex ct hq vj fd hz hJ qn k7 q9 tA cu cc bx e9 bm bn bb t7 ol ut U v3 sc a6 m5 t3 bf cV oL j0 hS pu lm d1 j8 li l5 hD bi cS f8 mp eb hB sE pk lw uv c3 pi en b5 a4 e5 e8 ge c9 k9 rp hC n5 e6 kp ha rt b6 pa c5 ne s2 m3 hm a2 p9 ow hs qx hw j9 m2 Y eg g6 tv hR n8 r9 k2 sz ty tm e2 es p5 o1 i4:Value}
 (hA: ∀(v234 wy v236 wB wo xl xd v9 wl xj v7 wv:Value) (w':World),iJ w0 w' base g p P fy {h with mm:=eV h.mm node (h.mm node).send} M W1 bs→Q .normal ⟨#[.pointer (some ⟨g,0,none⟩),ap,pn,iQ,hY,am,dl,f9,t6,i6,sl,te,et,rx,hc,q2,m4,ml,hU,d9,bw,t9,.pointer (some ⟨j,0,none⟩),jp,.int .i64 (gR (h.mm node).m (h.mm node).gd (h.mm node).bd (h.mm node).fz),.bool (fs (h.mm node).gd (h.mm node).bd (h.mm node).fz),kf,a9,d6,b3,s4,q3,gs,po,mU,fn,dd,f2,ul,hX,hn,hK,ac,m0,de,ro,ip,bv,d7,ho,sa,vs,ps,lj,iS,sn,he,mE,g0,T,nh,ch,gc,t2,g8,m7,tO,os,tT,un,hu,kn,f5,s3,hG,gw,vq,dg,X,q6,i7,O,n0,ds,ad,n6,me,k4,kw,p4,oA,ea,l6,hL,hI,l4,ta,hP,b4,s1,km,sG,t1,k8,dk,hj,go,pw,gr,nA,bq,kb,g5,ih,t0,cm,b9,sm,ca,b7,ce,ft,Z,n9,o3,i2,el,q5,m9,ib,gz,e3,cj,p6,d4,pd,gi,iT,mb,sD,a8,j4,io,c4,i3,a0,q4,co,l2,hM,f6,p7,ao,em,kt,c6,er,ev,om,t4,k5,dt,a7,f1,lr,ts,hT,hk,g9,fp,rc,g3,j3,ez,al,cv,p1,pe,t8,ii,kA,cd,p3,d0,b8,l1,m1,k3,fc,v4,k0,b2,sB,e4,sf,tn,hW,hv,le,i0,lc,e0,eq,g4,c8,o6,t5,n3,oj,bl,oi,gq,of,f3,aA,be,us,cb,cx,ci,kk,hO,iA,ls,c0,cn,ei,op,ss,r7,iM,o9,hE,rg,v234,wy,v236,wB,wo,xl,xd,v9,wl,xj,v7,wv,j6,mv,i8,hr,r3,hh,kq,i9,m6,hg,n2,ht,oz,d8,ob,q0,hH,j7,hx,is,kx,bz,r4,up,d3,m8,kD,vm,k6,cr,q7,tf,hN,r0,a5,n7,nr,o4,o5,kE,i5,lb,n4,q8,p8,qr,pj,kN,nn,e1,no,l3,se,hQ,a3,rr,pm,i1,g7,f7,sv,hl,pl,hb,hy,r2,bt,mt,r6,p0,r1,j1,oq,mA,mK,o0,pv,ms,vi,j5,k1,aa,gf,v0,sb,it,rn,bk,jv,s0,r8,hV,cA,p2,e7,mI,fl,d5,f4,c7,j2,hf,d2,vc,oo,r5,o2,q1,vx,ex,ct,hq,vj,fd,hz,hJ,qn,k7,q9,tA,cu,cc,bx,e9,bm,bn,bb,t7,ol,ut,U,v3,sc,a6,m5,t3,bf,cV,oL,j0,hS,pu,lm,d1,j8,li,l5,hD,bi,cS,f8,mp,eb,hB,sE,pk,lw,uv,c3,pi,en,b5,a4,e5,e8,ge,c9,k9,rp,hC,n5,e6,kp,ha,rt,b6,pa,c5,ne,s2,m3,hm,a2,p9,ow,hs,qx,hw,j9,m2,Y,eg,g6,tv,hR,n8,r9,k2,sz,ty,tm,e2,es,p5,o1,i4],[]⟩ w'):
 Code.wp prog (Qh 39) Q ⟨#[.pointer (some ⟨g,0,none⟩),ap,pn,iQ,hY,am,dl,f9,t6,i6,sl,te,et,rx,hc,q2,m4,ml,hU,d9,bw,t9,.pointer (some ⟨j,0,none⟩),jp,xs,xc,kf,a9,d6,b3,s4,q3,gs,po,mU,fn,dd,f2,ul,hX,hn,hK,ac,m0,de,ro,ip,bv,d7,ho,sa,vs,ps,lj,iS,sn,he,mE,g0,T,nh,ch,gc,t2,g8,m7,tO,os,tT,un,hu,kn,f5,s3,hG,gw,vq,dg,X,q6,i7,O,n0,ds,ad,n6,me,k4,kw,p4,oA,ea,l6,hL,hI,l4,ta,hP,b4,s1,km,sG,t1,k8,dk,hj,go,pw,gr,nA,bq,kb,g5,ih,t0,cm,b9,sm,ca,b7,ce,ft,Z,n9,o3,i2,el,q5,m9,ib,gz,e3,cj,p6,d4,pd,gi,iT,mb,sD,a8,j4,io,c4,i3,a0,q4,co,l2,hM,f6,p7,ao,em,kt,c6,er,ev,om,t4,k5,dt,a7,f1,lr,ts,hT,hk,g9,fp,rc,g3,j3,ez,al,cv,p1,pe,t8,ii,kA,cd,p3,d0,b8,l1,m1,k3,fc,v4,k0,b2,sB,e4,sf,tn,hW,hv,le,i0,lc,e0,eq,g4,c8,o6,t5,n3,oj,bl,oi,gq,of,f3,aA,be,us,cb,cx,ci,kk,hO,iA,ls,c0,cn,ei,op,ss,r7,iM,o9,hE,rg,xb,wA,xq,v5,wb,xt,v6,xf,xi,xm,wt,wk,j6,mv,i8,hr,r3,hh,kq,i9,m6,hg,n2,ht,oz,d8,ob,q0,hH,j7,hx,is,kx,bz,r4,up,d3,m8,kD,vm,k6,cr,q7,tf,hN,r0,a5,n7,nr,o4,o5,kE,i5,lb,n4,q8,p8,qr,pj,kN,nn,e1,no,l3,se,hQ,a3,rr,pm,i1,g7,f7,sv,hl,pl,hb,hy,r2,bt,mt,r6,p0,r1,j1,oq,mA,mK,o0,pv,ms,vi,j5,k1,aa,gf,v0,sb,it,rn,bk,jv,s0,r8,hV,cA,p2,e7,mI,fl,d5,f4,c7,j2,hf,d2,vc,oo,r5,o2,q1,vx,ex,ct,hq,vj,fd,hz,hJ,qn,k7,q9,tA,cu,cc,bx,e9,bm,bn,bb,t7,ol,ut,U,v3,sc,a6,m5,t3,bf,cV,oL,j0,hS,pu,lm,d1,j8,li,l5,hD,bi,cS,f8,mp,eb,hB,sE,pk,lw,uv,c3,pi,en,b5,a4,e5,e8,ge,c9,k9,rp,hC,n5,e6,kp,ha,rt,b6,pa,c5,ne,s2,m3,hm,a2,p9,ow,hs,qx,hw,j9,m2,Y,eg,g6,tv,hR,n8,r9,k2,sz,ty,tm,e2,es,p5,o1,i4],[]⟩ w:=by
 have xo:=hp.n16
 have wx:=hp.n1
 have xv:node<16:=ah
 have xu:=eJ s;have wq:=eJ C;have ot:=eJ hA;have wd:=eJ J
 have xn:w.cell? ⟨j,0,none⟩=some (.int .i64 node):=(s.eW J C).cell 0
 obtain⟨z,on,ck,gm,l0,ww,iB⟩:=s.Nq hp pp wn vp vv
 obtain⟨v1,K⟩: ∃v,gR (h.mm node).m (h.mm node).gd (h.mm node).bd (h.mm node).fz=v:=⟨_,rfl⟩
 obtain⟨v2,I⟩: ∃v,fs (h.mm node).gd (h.mm node).bd (h.mm node).fz=v:=⟨_,rfl⟩
 have qq : Hid (∀ u, Calls prog 80 #[.pointer (some ⟨gm, 0, none⟩)] (w.drewN u) fun e w' => e = .returned (.tuple #[.int .i64 v1, .bool v2]) ∧ Hid (iJ w0 w' base g p P fy { h with mm := eV h.mm node (h.mm node).send } M W1 bs) ∧ (w'.cell? ⟨g, 12, none⟩ = some (.slice (some ⟨z, on, none⟩) p.nd.toNat ck) ∧ w'.cell? ⟨z, on + node, none⟩ = some (.pointer (some ⟨gm, 0, none⟩)) ∧ w'.cell? ⟨j, 0, none⟩ = some (.int .i64 node))) := eJ (fun u => by
  refine(iB (w.drewN u) (below_drewN (au) u)).mono ?_
  rintro e w' ⟨rfl,h1,h2,h3⟩
  rw[K,I]
  exact ⟨rfl, eJ h1, h2, h3, (h1.eW wd.out wq.out).cell 0⟩)
 rw[K,I] at ot
 obtain⟨nd,bj⟩: ∃nd,p.nd.toNat=nd:=⟨_,rfl⟩
 rw[bj] at l0 qq vv
 clear s hp pp vp C hA J xo wx iB K I bj
 conv=>arg 2;whnf
 go_region_held3 (fun w'=>w'.cell? ⟨g,12,none⟩=some (.slice (some ⟨z,on,none⟩) nd ck)∧w'.cell? ⟨z,on+node,none⟩=some (.pointer (some ⟨gm,0,none⟩))∧w'.cell? ⟨j,0,none⟩=some (.int .i64 node)) (first|exact ⟨l0,ww,xn⟩|exact E.out)
  (first|(go_at_call 80;go_must (refine(qq.out 1).mono ?_);rintro e w7 ⟨rfl,wz,E⟩;replace E:=eJ E))
 all_goals exact ot.out _ _ _ _ _ _ _ _ _ _ _ _ _ wz.out
end
theorem JH(nd node m:Nat):lD nd node m 2=if (node+1)%nd=node then m^^^2^node else(m^^^2^node)^^^2^((node+1)%nd):=by
 unfold lD;rw[aM rfl];by_cases h:(node+1)%nd=node
 ·rw[aM h,h,Nat.or_self]
 ·rw[aI h,LO _ _ _ (fun e=>h e.symm)]
theorem Cj{nd node m:Nat}{md:Int}(h:md≠2):lD nd node m md=m:=by unfold lD;rw[aI h]
theorem iJ.anchor{w0 w w1 w2:World}{base g:Nat}{p:Pl}{P:lz}{fy M:Nat}{c:Cl}{bs bs':List Nat}(h:iJ w0 w base g p P fy c M w1 bs)(he: ∀b∈bs',b∈bs/\w1.heap[b]? =w2.heap[b]?):iJ w0 w base g p P fy c M w2 bs':=by obtain⟨a,h1,h2,h3,h4,h5⟩:=h;exact⟨a,h1,h2,h3,h4,fun b e=>⟨(h5 b (he b e).1).1,(h5 b (he b e).1).2.1,(h5 b (he b e).1).2.2.trans (he b e).2⟩⟩
theorem KA{p:Pl}{N:Nat}{ok:Bool}{now node:Int}{c1 c2:Cl}{lk sq:Int}{d:ByteArray}(h:oQ p ok now node c1 c2 p.lk.length lk sq d)(z:gH p N c1)(i T:Nat):Ky (if ok=true then some ⟨node,i,T,lk,sq,d⟩ else none) ok T lk sq d/\(lk<0\/∃(k:Nat) (l:Lk),lk=(k:Int)/\p.lk[k]? =some l)/\gH p N c2:=by
 obtain⟨s,u⟩:=pF (p:=p) now node p.lk 0 c1 z ak;rcases h with ⟨rfl,rfl,rfl,rfl,rfl⟩|⟨rfl,h2,h3,h4,h5⟩|⟨rfl,h2,h5⟩
 ·exact⟨⟨fun _=>(aI aj),(fun e=>by cases e),aj⟩,.inl ah,z⟩
 ·rw[List.drop_length] at h5;have h6:(eZ now node p.lk 0 c1).1=c2:=by rw[h5];rfl
  rw[h6] at s;subst h2 h3 h4;exact⟨⟨(fun e=>by cases e),fun _=>⟨_,aM rfl,rfl,rfl,rfl,rfl⟩,aj⟩,.inl ah,s⟩
 ·rw[h5] at s u;dsimp only at s u;rcases u with ⟨h6,-⟩|⟨j,l,h6,h7,-,-,h8⟩
  ·omega
  ·exact⟨⟨(fun e=>by cases e),fun _=>⟨_,aM rfl,rfl,rfl,rfl,rfl⟩,h8⟩,.inr ⟨j,l,h6,h7⟩,s⟩
theorem H9{p:Pl}{ok:Bool}{now node:Int}{c1 c2:Cl}{lk sq:Int}{d:ByteArray}(h:oQ p ok now node c1 c2 p.lk.length lk sq d)(nd i T n:Nat)(ls:List Ls):(if ok=true then ff p nd i (some ⟨node,i,T,(eZ now node p.lk 0 c1).2.1,(eZ now node p.lk 0 c1).2.2.1,(eZ now node p.lk 0 c1).2.2.2⟩) ls (eZ now node p.lk 0 c1).1 n else ff p nd i none ls c1 n)=ff p nd i (if ok=true then some ⟨node,i,T,lk,sq,d⟩ else none) ls c2 n:=by
 rcases h with ⟨rfl,rfl,rfl,rfl,rfl⟩|⟨rfl,h2,h3,h4,h5⟩|⟨rfl,h2,h5⟩
 ·rfl
 ·rw[List.drop_length] at h5;have h6:eZ now node p.lk 0 c1=(c2,(-1,0,⟨#[]⟩)):=by rw[h5];rfl
  rw[h6];subst h2 h3 h4;rfl
 ·rw[h5];rfl
theorem Cv{m k:Nat}(hm:m<65536)(hk:k<16):m^^^2^k<65536:=dX (n:=16) hm (by have:(2:Nat)^k<=2^15:=aX ah ah;omega)
theorem tg{w w':World}{A:Option Addr}{ls:List Int}(h:kY w A ls)(hk:0<ls.length->∀x,A=some x->w'.heap[x.block]? =w.heap[x.block]?):kY w' A ls:=fun j e=>by obtain⟨b,off,rfl,h1⟩:=h j e;exact⟨b,off,rfl,(fj (hk ah _ rfl) _).trans h1⟩
theorem PU{p:Pl}{ok:Bool}{now node:Int}{c1 c2:Cl}{lk sq:Int}{d:ByteArray}(h:oQ p ok now node c1 c2 p.lk.length lk sq d):c2.mm=c1.mm:=by
 rcases h with ⟨rfl,rfl,rfl,rfl,rfl⟩|⟨rfl,h2,h3,h4,h5⟩|⟨rfl,h2,h5⟩
 ·rfl
 ·rw[List.drop_length] at h5;have h6:eZ now node p.lk 0 c1=(c2,(-1,0,⟨#[]⟩)):=by rw[h5];rfl
  have:=pT now node p.lk 0 c1;rw[h6] at this;exact this
 ·have:=pT now node p.lk 0 c1;rw[h5] at this;exact this
section
def wP(n:Nat):Code->Option Code
 |.cond o a b=>match o with
  |.tmp m=>if m==n then some (.cond (.tmp m) a b) else match wP n a with
   |some c=>some c
   |none=>wP n b
  |_=>match wP n a with
   |some c=>some c
   |none=>wP n b
 |.block _ c=>wP n c
 |.seq a b=>match wP n a with
  |some c=>some c
  |none=>wP n b
 |.loop c=>wP n c
 |.scope c=>wP n c
 |_=>none
noncomputable def Qi(n:Nat):Code:=(f34.body.bind (wP n)).getD .skip
attribute [local irreducible] fu fG je eZ iC jl gW gS jg jj iX ff jh gR fs lD
theorem Ju {Q:Exit→Act→World→Prop} (W:World) (g C node z c4:Nat) (hf:Option Addr) (lb:Bool) (v5 st:Value) (c5:eN W C 86 #[.int .i64 node,v5,st]) (a8:Calls prog 76 #[.pointer (some ⟨g,0,none⟩),.int .i64 node] W fun e w'=>e=.returned (.bool lb)∧∃k,w'=W.drewN k)
 {ad pd ih aa c9 f4 t0 iQ r7 sE em q8 g6 p7 mI l1 hO d5 bn t3 i1 tv li j3 a6 d2 bw sB p8 ge pe ms e8 c0 fl t4 hR hh hE X mt c6 q4 hW bm d3 hj r2 vc pi k6 ii sa g7 me gm I m4 cc f5 ty gz m0 te of tf t5 ho j5 ft sz hA gf uv c7 K qq iS E m9 dd Y nr l0 kx j9 ps om d6 ls hG hC lm sD hJ bx ss j4 sm tn kN c8 hb f9 pl gd m8 bk j2 gr hT tm ce b6 r8 b7 b3 cb fc T n1 os it d9 qn m2 hS gi ex cd pv d0 o0 f8 io lw sf a5 i8 hV cu iA am p9 ch le hH f1 pw ac ea j8 cx ei en n8 tO kA de a4 fd k8 s2 hN hc g0 e9 q1 go i7 er Z cm pn o1 t2 hU kf ca pp dg b4 lc mv kw e5 vp kp bv se ez r6 s1 hQ hp k4 ip k2 es eg gq cS oz tT nh n6 bf n5 gc n3 fn al a9 t7 b8 vx vs wf v9 wb wk v0 vv v3 wl wo rx ib oA hz q2 k3 i5 ts aA dl ut b5 l5 n4 o9 hv g3 jp l6 iT hl ro ha j7 i0 mU g9 ne hn ol d4 n2 p5 hB jv hr hX kb bt rp t6 dt m1 kk us kD ci qr sG hI q9 a2 nA m7 ot ow km iM k1 nn qx p0 p3 o3 kn m5 et m6 lj r5 hK ap q6 o6 is gw f2 sb he o5 g5 hs rn bl l4 rt pm rg i4 ob mb mp oo pk l3 un i9 kq U f7 vj r3 hY q3 be i2 sn r0 hP cn po e2 ml e7 d1 fp cA i6 g8 ds ul n9 rr oq p6 vi eq cj hk up e6 ht hD p2 kE q0 ta ck b9 bq e4 bi bj a7 t1 n7 t8 J vm r4 a3 mK tA bb cr on i3 hM pj k7 dk j0 k5 lr hy bd co f3 l2 d7 hw sl o4 k9 t9 ct o2 eb bz a0 e0 e3 f6 cV k0 q5 hx no e1 j6 g4 q7 b2 oL cv m3 sv mE hg ao p1 oj hm p4 hq j1 mA O d8 gs s3 hL n0 r1 kt sc s4 s0 ev el pu op iB:Value}
 (hu: ∀(v218 v7 vq v6 v222 wn wd v4 v226 v227:Value) (w':World),Below W.heap.size W w'→Q .normal ⟨#[.pointer (some ⟨g,0,none⟩),ad,pd,ih,.slice hf z c4,aa,c9,f4,t0,iQ,r7,sE,em,q8,g6,p7,mI,l1,hO,d5,bn,t3,.pointer (some ⟨C,0,none⟩),i1,tv,li,j3,a6,d2,bw,sB,p8,ge,pe,ms,e8,c0,fl,t4,hR,hh,hE,X,mt,c6,q4,hW,bm,d3,hj,r2,vc,pi,k6,ii,sa,g7,me,gm,I,m4,cc,f5,ty,gz,m0,te,of,tf,t5,ho,j5,ft,sz,hA,gf,uv,c7,K,qq,iS,E,m9,dd,Y,nr,l0,kx,j9,ps,om,d6,ls,hG,hC,lm,sD,hJ,bx,ss,j4,sm,tn,kN,c8,hb,f9,pl,gd,m8,bk,j2,gr,hT,tm,ce,b6,r8,b7,b3,cb,fc,T,n1,os,it,d9,qn,m2,hS,gi,ex,cd,pv,d0,o0,f8,io,lw,sf,a5,i8,hV,cu,iA,am,p9,ch,le,hH,f1,pw,ac,ea,j8,cx,ei,en,n8,tO,kA,de,a4,fd,k8,s2,hN,hc,g0,e9,q1,go,i7,er,Z,cm,pn,o1,t2,hU,kf,ca,pp,dg,b4,lc,mv,kw,e5,vp,kp,bv,se,ez,r6,s1,hQ,hp,k4,ip,k2,es,eg,gq,cS,oz,tT,nh,n6,bf,n5,gc,n3,fn,al,a9,t7,b8,v218,v7,vq,v6,v222,wn,wd,v4,v226,v227,.bool (lb&&decide (node<z)),rx,ib,oA,hz,q2,k3,i5,ts,aA,dl,ut,b5,l5,n4,o9,hv,g3,jp,l6,iT,hl,ro,ha,j7,i0,mU,g9,ne,hn,ol,d4,n2,p5,hB,jv,hr,hX,kb,bt,rp,t6,dt,m1,kk,us,kD,ci,qr,sG,hI,q9,a2,nA,m7,ot,ow,km,iM,k1,nn,qx,p0,p3,o3,kn,m5,et,m6,lj,r5,hK,ap,q6,o6,is,gw,f2,sb,he,o5,g5,hs,rn,bl,l4,rt,pm,rg,i4,ob,mb,mp,oo,pk,l3,un,i9,kq,U,f7,vj,r3,hY,q3,be,i2,sn,r0,hP,cn,po,e2,ml,e7,d1,fp,cA,i6,g8,ds,ul,n9,rr,oq,p6,vi,eq,cj,hk,up,e6,ht,hD,p2,kE,q0,ta,ck,b9,bq,e4,bi,bj,a7,t1,n7,t8,J,vm,r4,a3,mK,tA,bb,cr,on,i3,hM,pj,k7,dk,j0,k5,lr,hy,bd,co,f3,l2,d7,hw,sl,o4,k9,t9,ct,o2,eb,bz,a0,e0,e3,f6,cV,k0,q5,hx,no,e1,j6,g4,q7,b2,oL,cv,m3,sv,mE,hg,ao,p1,oj,hm,p4,hq,j1,mA,O,d8,gs,s3,hL,n0,r1,kt,sc,s4,s0,ev,el,pu,op,iB],[]⟩ w'):
 Code.wp prog (Qh 37) Q ⟨#[.pointer (some ⟨g,0,none⟩),ad,pd,ih,.slice hf z c4,aa,c9,f4,t0,iQ,r7,sE,em,q8,g6,p7,mI,l1,hO,d5,bn,t3,.pointer (some ⟨C,0,none⟩),i1,tv,li,j3,a6,d2,bw,sB,p8,ge,pe,ms,e8,c0,fl,t4,hR,hh,hE,X,mt,c6,q4,hW,bm,d3,hj,r2,vc,pi,k6,ii,sa,g7,me,gm,I,m4,cc,f5,ty,gz,m0,te,of,tf,t5,ho,j5,ft,sz,hA,gf,uv,c7,K,qq,iS,E,m9,dd,Y,nr,l0,kx,j9,ps,om,d6,ls,hG,hC,lm,sD,hJ,bx,ss,j4,sm,tn,kN,c8,hb,f9,pl,gd,m8,bk,j2,gr,hT,tm,ce,b6,r8,b7,b3,cb,fc,T,n1,os,it,d9,qn,m2,hS,gi,ex,cd,pv,d0,o0,f8,io,lw,sf,a5,i8,hV,cu,iA,am,p9,ch,le,hH,f1,pw,ac,ea,j8,cx,ei,en,n8,tO,kA,de,a4,fd,k8,s2,hN,hc,g0,e9,q1,go,i7,er,Z,cm,pn,o1,t2,hU,kf,ca,pp,dg,b4,lc,mv,kw,e5,vp,kp,bv,se,ez,r6,s1,hQ,hp,k4,ip,k2,es,eg,gq,cS,oz,tT,nh,n6,bf,n5,gc,n3,fn,al,a9,t7,b8,vx,vs,wf,v9,wb,wk,v0,vv,v3,wl,wo,rx,ib,oA,hz,q2,k3,i5,ts,aA,dl,ut,b5,l5,n4,o9,hv,g3,jp,l6,iT,hl,ro,ha,j7,i0,mU,g9,ne,hn,ol,d4,n2,p5,hB,jv,hr,hX,kb,bt,rp,t6,dt,m1,kk,us,kD,ci,qr,sG,hI,q9,a2,nA,m7,ot,ow,km,iM,k1,nn,qx,p0,p3,o3,kn,m5,et,m6,lj,r5,hK,ap,q6,o6,is,gw,f2,sb,he,o5,g5,hs,rn,bl,l4,rt,pm,rg,i4,ob,mb,mp,oo,pk,l3,un,i9,kq,U,f7,vj,r3,hY,q3,be,i2,sn,r0,hP,cn,po,e2,ml,e7,d1,fp,cA,i6,g8,ds,ul,n9,rr,oq,p6,vi,eq,cj,hk,up,e6,ht,hD,p2,kE,q0,ta,ck,b9,bq,e4,bi,bj,a7,t1,n7,t8,J,vm,r4,a3,mK,tA,bb,cr,on,i3,hM,pj,k7,dk,j0,k5,lr,hy,bd,co,f3,l2,d7,hw,sl,o4,k9,t9,ct,o2,eb,bz,a0,e0,e3,f6,cV,k0,q5,hx,no,e1,j6,g4,q7,b2,oL,cv,m3,sv,mE,hg,ao,p1,oj,hm,p4,hq,j1,mA,O,d8,gs,s3,hL,n0,r1,kt,sc,s4,s0,ev,el,pu,op,iB],[]⟩ W:=by
 have oi:=eJ hu;have j:=eJ c5;have rc:=eJ a8
 clear hu c5 a8
 obtain⟨pa,x1,r9⟩:=j.out.c3
 conv=>arg 2;whnf
 cases lb
 ·go_wp2_with fail
  refine rc.out.mono ?_
  rintro e w2 ⟨rfl,u,s⟩
  dsimp only
  have h:Hid (Below W.heap.size W w2):=eJ (by rw[s];exact below_drewN (au) u)
  clear s pa x1 r9
  obtain⟨z0,wq,z2⟩:=(j.out.below h.out j.out.lt).c3
  go_wp2_with fail
  exact oi.out _ _ _ _ _ _ _ _ _ _ _ h.out
 ·go_wp2_with fail
  refine rc.out.mono ?_
  rintro e w2 ⟨rfl,u,s⟩
  dsimp only
  have h:Hid (Below W.heap.size W w2):=eJ (by rw[s];exact below_drewN (au) u)
  clear s pa x1 r9
  obtain⟨z0,wq,z2⟩:=(j.out.below h.out j.out.lt).c3
  go_wp2_with fail
  exact oi.out _ _ _ _ _ _ _ _ _ _ _ h.out
theorem Ma {Q:Exit→Act→World→Prop} (w:World) (fy z node h c4:Nat) (s:Option Addr) (l:List Int) (sl:l.length=h) (v9:h≤9223372036854775807) (cr:kY w s l) (wb:w.cell? ⟨z,0,none⟩=some (.int .i64 node)) (md:Int) (e:pg fy l node=md)
 {a4 ac pl is Z dg f9 t1 i1 r9 sG et rn hb qr m4 me hS d9 bm t4 ty l1 j6 a6 d6 bv sD qx gq pm mU fn c8 f2 t5 hV hm hI U m0 c9 q8 ih bl d7 hn r4 vi pn li it sb hc mE gw E nh cc gc tA g6 m7 tf oq tm t6 hs kb f5 sB hD gr vc dd J q2 i2 C n0 dk X n5 mb k1 kp p1 ow ea l5 hJ hG l3 sE hN bw sv j9 ss ts k5 de hh gi ps go nA bj j5 g3 hX tn ch b6 sa b7 b3 cb ft O n8 o1 iQ el q1 m9 hW gs e3 ce p3 d4 o6 gf iA l6 sm a5 jv ib cV iS al q0 cj l0 hK f6 p4 aa em kn c3 er ev om tT k2 dl a3 f1 lm s3 hR hj g7 fp q6 gz jp ez Y co pv o9 t3 hY kt ca p0 ds b4 lw m1 k0 fc vq kD bt sf e4 r8 s2 hU ht lc iB k8 e0 eq g0 c6 o4 t0 n2 oj be oi gm ob f3 ad a8 t8 b8 ct cd j8 hM ip lr cA ci ei oo v6 v0 v4 vx v5 k9 i8 tv ap d0 uv b5 mt of pk hz g8 j1 mv i3 hp rt hg kk i4 m6 hf n1 hr ot d8 n9 qn hE j2 hv ii kq bq rx t7 d3 m8 kw ut k3 ck q3 s0 hL ro a0 n6 nr o2 o3 kx i0 k7 n3 q4 p5 p8 pd kA nn e1 no l2 r7 hO ao rc pj iM g5 f7 sc hk pi ha hw rr bk ms r1 pu rp i7 op mA mK oA pp mp up j0 kE T ge vm r5 io q7 bd i5 st r2 hT cu pw e7 mI fl d5 f4 c5 i9 he d2 un on r0 o0 qq vj ex cm ho us fd hx hH p7 k4 q5 te cn b9 bn e9 bf bi a7 t2 ol t9 I vp r6 a2 m5 tO a9 cx oz i6 hQ po lj dt j3 le l4 hC bb cv f8 ml eb hA sn pe ls ul cS pa en bx aA e5 e8 gd c7 k6 q9 hB n4 e6 kf g9 rg bz o5 c0 ne sz m3 hl am p6 os hq p9 hu j4 m2 K eg g4 s4 hP n7 r3 kN se ta s1 e2 es p2 oL iT:Value}
 (hy: ∀(v228 v229 vv vs v232 v233:Value),Q .normal ⟨#[a4,ac,pl,is,.slice s h c4,Z,dg,f9,t1,i1,r9,sG,et,rn,hb,qr,m4,me,hS,d9,bm,t4,.pointer (some ⟨z,0,none⟩),.int .i64 md,ty,l1,j6,a6,d6,bv,sD,qx,gq,pm,mU,fn,c8,f2,t5,hV,hm,hI,U,m0,c9,q8,ih,bl,d7,hn,r4,vi,pn,li,it,sb,hc,mE,gw,E,nh,cc,gc,tA,g6,m7,tf,oq,tm,t6,hs,kb,f5,sB,hD,gr,vc,dd,J,q2,i2,C,n0,dk,X,n5,mb,k1,kp,p1,ow,ea,l5,hJ,hG,l3,sE,hN,bw,sv,j9,ss,ts,k5,de,hh,gi,ps,go,nA,bj,j5,g3,hX,tn,ch,b6,sa,b7,b3,cb,ft,O,n8,o1,iQ,el,q1,m9,hW,gs,e3,ce,p3,d4,o6,gf,iA,l6,sm,a5,jv,ib,cV,iS,al,q0,cj,l0,hK,f6,p4,aa,em,kn,c3,er,ev,om,tT,k2,dl,a3,f1,lm,s3,hR,hj,g7,fp,q6,gz,jp,ez,Y,co,pv,o9,t3,hY,kt,ca,p0,ds,b4,lw,m1,k0,fc,vq,kD,bt,sf,e4,r8,s2,hU,ht,lc,iB,k8,e0,eq,g0,c6,o4,t0,n2,oj,be,oi,gm,ob,f3,ad,a8,t8,b8,ct,cd,j8,hM,ip,lr,cA,ci,ei,oo,v228,v229,vv,vs,v232,v233,k9,i8,tv,ap,d0,uv,b5,mt,of,pk,hz,g8,j1,mv,i3,hp,rt,hg,kk,i4,m6,hf,n1,hr,ot,d8,n9,qn,hE,j2,hv,ii,kq,bq,rx,t7,d3,m8,kw,ut,k3,ck,q3,s0,hL,ro,a0,n6,nr,o2,o3,kx,i0,k7,n3,q4,p5,p8,pd,kA,nn,e1,no,l2,r7,hO,ao,rc,pj,iM,g5,f7,sc,hk,pi,ha,hw,rr,bk,ms,r1,pu,rp,i7,op,mA,mK,oA,pp,mp,up,j0,kE,T,ge,vm,r5,io,q7,bd,i5,st,r2,hT,cu,pw,e7,mI,fl,d5,f4,c5,i9,he,d2,un,on,r0,o0,qq,vj,ex,cm,ho,us,fd,hx,hH,p7,k4,q5,te,cn,b9,bn,e9,bf,bi,a7,t2,ol,t9,I,vp,r6,a2,m5,tO,a9,cx,oz,i6,hQ,po,lj,dt,j3,le,l4,hC,bb,cv,f8,ml,eb,hA,sn,pe,ls,ul,cS,pa,en,bx,aA,e5,e8,gd,c7,k6,q9,hB,n4,e6,kf,g9,rg,bz,o5,c0,ne,sz,m3,hl,am,p6,os,hq,p9,hu,j4,m2,K,eg,g4,s4,hP,n7,r3,kN,se,ta,s1,e2,es,p2,oL,iT],[]⟩ w):
 Code.wp prog (Qi 228) Q ⟨#[a4,ac,pl,is,.slice s h c4,Z,dg,f9,t1,i1,r9,sG,et,rn,hb,qr,m4,me,hS,d9,bm,t4,.pointer (some ⟨z,0,none⟩),.int .i64 0,ty,l1,j6,a6,d6,bv,sD,qx,gq,pm,mU,fn,c8,f2,t5,hV,hm,hI,U,m0,c9,q8,ih,bl,d7,hn,r4,vi,pn,li,it,sb,hc,mE,gw,E,nh,cc,gc,tA,g6,m7,tf,oq,tm,t6,hs,kb,f5,sB,hD,gr,vc,dd,J,q2,i2,C,n0,dk,X,n5,mb,k1,kp,p1,ow,ea,l5,hJ,hG,l3,sE,hN,bw,sv,j9,ss,ts,k5,de,hh,gi,ps,go,nA,bj,j5,g3,hX,tn,ch,b6,sa,b7,b3,cb,ft,O,n8,o1,iQ,el,q1,m9,hW,gs,e3,ce,p3,d4,o6,gf,iA,l6,sm,a5,jv,ib,cV,iS,al,q0,cj,l0,hK,f6,p4,aa,em,kn,c3,er,ev,om,tT,k2,dl,a3,f1,lm,s3,hR,hj,g7,fp,q6,gz,jp,ez,Y,co,pv,o9,t3,hY,kt,ca,p0,ds,b4,lw,m1,k0,fc,vq,kD,bt,sf,e4,r8,s2,hU,ht,lc,iB,k8,e0,eq,g0,c6,o4,t0,n2,oj,be,oi,gm,ob,f3,ad,a8,t8,b8,ct,cd,j8,hM,ip,lr,cA,ci,ei,oo,.bool (fu fy node&&decide (node<h)),v6,v0,v4,vx,v5,k9,i8,tv,ap,d0,uv,b5,mt,of,pk,hz,g8,j1,mv,i3,hp,rt,hg,kk,i4,m6,hf,n1,hr,ot,d8,n9,qn,hE,j2,hv,ii,kq,bq,rx,t7,d3,m8,kw,ut,k3,ck,q3,s0,hL,ro,a0,n6,nr,o2,o3,kx,i0,k7,n3,q4,p5,p8,pd,kA,nn,e1,no,l2,r7,hO,ao,rc,pj,iM,g5,f7,sc,hk,pi,ha,hw,rr,bk,ms,r1,pu,rp,i7,op,mA,mK,oA,pp,mp,up,j0,kE,T,ge,vm,r5,io,q7,bd,i5,st,r2,hT,cu,pw,e7,mI,fl,d5,f4,c5,i9,he,d2,un,on,r0,o0,qq,vj,ex,cm,ho,us,fd,hx,hH,p7,k4,q5,te,cn,b9,bn,e9,bf,bi,a7,t2,ol,t9,I,vp,r6,a2,m5,tO,a9,cx,oz,i6,hQ,po,lj,dt,j3,le,l4,hC,bb,cv,f8,ml,eb,hA,sn,pe,ls,ul,cS,pa,en,bx,aA,e5,e8,gd,c7,k6,q9,hB,n4,e6,kf,g9,rg,bz,o5,c0,ne,sz,m3,hl,am,p6,os,hq,p9,hu,j4,m2,K,eg,g4,s4,hP,n7,r3,kN,se,ta,s1,e2,es,p2,oL,iT],[]⟩ w:=by
 have u:=eJ hy;have v3:=eJ cr;have km:=eJ sl
 clear hy cr sl
 unfold pg at e
 obtain⟨lb,j7⟩:=ab (fu fy node)
 rw[j7] at e⊢
 rw[km.out] at e
 conv=>arg 2;whnf
 clear j7
 cases lb
 ·rw[aI ak] at e
  subst e
  rw[Bool.false_and]
  go_wp2_with fail
  exact u.out _ _ _ _ _ _
 ·by_cases j:node<h
  ·rw[aM ⟨rfl,j⟩] at e
   obtain⟨b2,wd,v7,cmd⟩:=v3.out node (by rw[km.out];exact j)
   subst v7
   rw[e] at cmd
   have d1:decide (node<h)=true:=aJ j
   rw[d1]
   clear e d1
   go_wp2_with fail
   exact u.out _ _ _ _ _ _
  ·rw[aI (by simp[j])] at e
   subst e
   have d1:decide (node<h)=false:=aH j
   rw[d1]
   clear d1
   go_wp2_with fail
   exact u.out _ _ _ _ _ _
theorem NY {Q:Exit→Act→World→Prop} (w:World) (md:Int) (b u ok:Bool) (h:b=(md==1)) (e:(u&&decide (md≠1))=ok)
 {a3 aa pi io hS Y c8 f4 t0 iT r8 sE em rc g6 p9 mU l4 hO d4 bl t3 kx i3 tv j5 a5 d1 bt sB qn ge pj mv e8 c4 fl t4 hR hg hD T mA c5 q6 hX bk d2 hh r3 vc pk lb ip sa g7 mp gm C m6 ca f5 ty gz m2 te ol tf t5 hn j8 ft sz hz gf uv c6 I qx i0 z nh c9 U n0 l3 kN kk pv op d5 l1 hE hB lw sD hJ bv st j7 sn tn k3 c7 hb f9 pn gd ne bi j4 gr hU tm cd b4 r9 b5 bz b9 fc K n3 oz iB d9 qr m4 hT gi ex cc p0 dt o3 f8 is l2 sl a4 jp hW cx iM ad qq ch lr hG f1 p1 Z ea kf cS ei en ob tO k0 dd a2 fd le s2 hN hc g0 e9 q3 go i9 er X cm pp o4 t2 hV kn b8 pu de b2 lm mE kE e5 vp kw bq sf ez r7 s1 hQ ho k8 it k6 es eg gq c0 o0 tT no n8 bd n7 gc n5 fn ac a7 t7 b6 cn cb j6 hI ih li cu ce d8 oi sb r0 ii o1 hy q4 k7 i7 ts am dk ut b3 me n6 pe hu g3 j0 i1 hk rp ha kb i2 m1 g9 nn hm oo d3 n4 p7 hA j1 hq hY km bn rr t6 ds m3 kp us k1 ci q0 sG hH rg aA n1 m9 oA oL kq iS k5 nr q1 p2 p5 o6 kt m7 et m8 ls r6 hK ao q8 pd iA gw f2 sc he pa g5 hr ro bj mb rx po rn i6 oj ml mt os pm l6 un jv kA O f7 vj r4 ib q5 bb i4 ss r1 hP co ps e2 ms e7 d0 fp cV i8 g8 dl ul of rt ow p8 vi eq cj hj up e6 hs hC p4 k2 q2 ta ck b7 bm e4 be bf a6 t1 n9 t8 E vm r5 a0 m0 tA a8 ct oq i5 hM pl lc dg j2 k9 l0 hx a9 cr f3 l5 d6 hv sm o9 lj t9 cv o5 eb bw ap e0 e3 f6 c3 k4 q7 hw nA e1 j9 g4 q9 bx o2 cA m5 sv mK hf al p3 on hl p6 hp j3 mI J d7 gs s3 hL n2 r2 kD se s4 s0 ev el pw ot iQ:Value}
 (ht:Q .normal ⟨#[a3,aa,pi,io,hS,Y,c8,f4,t0,iT,r8,sE,em,rc,g6,p9,mU,l4,hO,d4,bl,t3,kx,i3,tv,.bool ok,j5,a5,d1,bt,sB,qn,ge,pj,mv,e8,c4,fl,t4,hR,hg,hD,T,mA,c5,q6,hX,bk,d2,hh,r3,vc,pk,lb,ip,sa,g7,mp,gm,C,m6,ca,f5,ty,gz,m2,te,ol,tf,t5,hn,j8,ft,sz,hz,gf,uv,c6,I,qx,i0,z,nh,c9,U,n0,l3,kN,kk,pv,op,d5,l1,hE,hB,lw,sD,hJ,bv,st,j7,sn,tn,k3,c7,hb,f9,pn,gd,ne,bi,j4,gr,hU,tm,cd,b4,r9,b5,bz,b9,fc,K,n3,oz,iB,d9,qr,m4,hT,gi,ex,cc,p0,dt,o3,f8,is,l2,sl,a4,jp,hW,cx,iM,ad,qq,ch,lr,hG,f1,p1,Z,ea,kf,cS,ei,en,ob,tO,k0,dd,a2,fd,le,s2,hN,hc,g0,e9,q3,go,i9,er,X,cm,pp,o4,t2,hV,kn,b8,pu,de,b2,lm,mE,kE,e5,vp,kw,bq,sf,ez,r7,s1,hQ,ho,k8,it,k6,es,eg,gq,c0,o0,tT,no,n8,bd,n7,gc,n5,fn,ac,a7,t7,b6,cn,cb,j6,hI,ih,li,cu,ce,d8,oi,sb,r0,ii,o1,hy,q4,k7,i7,ts,am,dk,ut,b3,me,n6,pe,hu,g3,j0,.bool b,i1,hk,rp,ha,kb,i2,m1,g9,nn,hm,oo,d3,n4,p7,hA,j1,hq,hY,km,bn,rr,t6,ds,m3,kp,us,k1,ci,q0,sG,hH,rg,aA,n1,m9,oA,oL,kq,iS,k5,nr,q1,p2,p5,o6,kt,m7,et,m8,ls,r6,hK,ao,q8,pd,iA,gw,f2,sc,he,pa,g5,hr,ro,bj,mb,rx,po,rn,i6,oj,ml,mt,os,pm,l6,un,jv,kA,O,f7,vj,r4,ib,q5,bb,i4,ss,r1,hP,co,ps,e2,ms,e7,d0,fp,cV,i8,g8,dl,ul,of,rt,ow,p8,vi,eq,cj,hj,up,e6,hs,hC,p4,k2,q2,ta,ck,b7,bm,e4,be,bf,a6,t1,n9,t8,E,vm,r5,a0,m0,tA,a8,ct,oq,i5,hM,pl,lc,dg,j2,k9,l0,hx,a9,cr,f3,l5,d6,hv,sm,o9,lj,t9,cv,o5,eb,bw,ap,e0,e3,f6,c3,k4,q7,hw,nA,e1,j9,g4,q9,bx,o2,cA,m5,sv,mK,hf,al,p3,on,hl,p6,hp,j3,mI,J,d7,gs,s3,hL,n2,r2,kD,se,s4,s0,ev,el,pw,ot,iQ],[]⟩ w):
 Code.wp prog (Qi 247) Q ⟨#[a3,aa,pi,io,hS,Y,c8,f4,t0,iT,r8,sE,em,rc,g6,p9,mU,l4,hO,d4,bl,t3,kx,i3,tv,.bool u,j5,a5,d1,bt,sB,qn,ge,pj,mv,e8,c4,fl,t4,hR,hg,hD,T,mA,c5,q6,hX,bk,d2,hh,r3,vc,pk,lb,ip,sa,g7,mp,gm,C,m6,ca,f5,ty,gz,m2,te,ol,tf,t5,hn,j8,ft,sz,hz,gf,uv,c6,I,qx,i0,z,nh,c9,U,n0,l3,kN,kk,pv,op,d5,l1,hE,hB,lw,sD,hJ,bv,st,j7,sn,tn,k3,c7,hb,f9,pn,gd,ne,bi,j4,gr,hU,tm,cd,b4,r9,b5,bz,b9,fc,K,n3,oz,iB,d9,qr,m4,hT,gi,ex,cc,p0,dt,o3,f8,is,l2,sl,a4,jp,hW,cx,iM,ad,qq,ch,lr,hG,f1,p1,Z,ea,kf,cS,ei,en,ob,tO,k0,dd,a2,fd,le,s2,hN,hc,g0,e9,q3,go,i9,er,X,cm,pp,o4,t2,hV,kn,b8,pu,de,b2,lm,mE,kE,e5,vp,kw,bq,sf,ez,r7,s1,hQ,ho,k8,it,k6,es,eg,gq,c0,o0,tT,no,n8,bd,n7,gc,n5,fn,ac,a7,t7,b6,cn,cb,j6,hI,ih,li,cu,ce,d8,oi,sb,r0,ii,o1,hy,q4,k7,i7,ts,am,dk,ut,b3,me,n6,pe,hu,g3,j0,.bool b,i1,hk,rp,ha,kb,i2,m1,g9,nn,hm,oo,d3,n4,p7,hA,j1,hq,hY,km,bn,rr,t6,ds,m3,kp,us,k1,ci,q0,sG,hH,rg,aA,n1,m9,oA,oL,kq,iS,k5,nr,q1,p2,p5,o6,kt,m7,et,m8,ls,r6,hK,ao,q8,pd,iA,gw,f2,sc,he,pa,g5,hr,ro,bj,mb,rx,po,rn,i6,oj,ml,mt,os,pm,l6,un,jv,kA,O,f7,vj,r4,ib,q5,bb,i4,ss,r1,hP,co,ps,e2,ms,e7,d0,fp,cV,i8,g8,dl,ul,of,rt,ow,p8,vi,eq,cj,hj,up,e6,hs,hC,p4,k2,q2,ta,ck,b7,bm,e4,be,bf,a6,t1,n9,t8,E,vm,r5,a0,m0,tA,a8,ct,oq,i5,hM,pl,lc,dg,j2,k9,l0,hx,a9,cr,f3,l5,d6,hv,sm,o9,lj,t9,cv,o5,eb,bw,ap,e0,e3,f6,c3,k4,q7,hw,nA,e1,j9,g4,q9,bx,o2,cA,m5,sv,mK,hf,al,p3,on,hl,p6,hp,j3,mI,J,d7,gs,s3,hL,n2,r2,kD,se,s4,s0,ev,el,pw,ot,iQ],[]⟩ w:=by
 have om:=eJ ht
 clear ht
 conv=>arg 2;whnf
 by_cases h1:md=1
 ·subst h1
  have j:b=true:=by rw[h];rfl
  have s:ok=false:=by rw[←e];simp
  subst j s
  clear h e
  go_wp2_with fail
  exact om.out
 ·have j:b=false:=by rw[h];exact aV.2 h1
  have s:ok=u:=by rw[←e];simp[h1]
  subst j s
  clear h e
  go_wp2_with fail
  exact om.out
theorem NW {Q:Exit→Act→World→Prop} (w:World) (md:Int) (b:Bool) (u:b=(md==2)) (nd node J s T:Nat) (z:node<nd) (K:nd≤16) (lc:s<65536) (j:lD nd node s md=T) (xd:w.cell? ⟨J,0,none⟩=some (.int .i64 node))
 {bb aA o1 ih hR ao dl f9 s2 iQ rp et qx hb pv mv ls hN d9 bx ta i0 k9 v0 be d7 b3 sa pw gq o2 me fn dd f2 te hQ hk hC ad ml de p9 hW bw d8 hl q9 t2 o3 k2 ii rt hc l5 gw U m0 ci gc sE g6 mE st n6 sv tf ho j3 f5 r9 hz gr t1 dg Y p2 iS O m5 ds al m9 lr kp j6 pi n8 ea lj hD hA le sb hI b4 r7 j2 r5 sB kx dk hf gi o6 go m4 bt j0 g3 hT sz cm ca rr cb b7 ch ft aa nn oj it el p1 mK hS gs e3 ck pk d5 oq gf io lm r3 bd i7 hV c4 iA a2 p0 co k8 hE f6 pl ap em j5 c6 er ev n2 s0 kq dt a9 f1 k4 sl hM hg g7 fp p6 gz i6 ez am cv pa os s4 hU j7 ce pe d0 b8 k7 mp kn fc t6 kf b2 r2 e4 ro sf hP hp k0 ip kE e0 eq g0 c8 on s1 m6 n0 bm nA gm no f3 a0 bi tn cc cx cj j1 hH hY k5 c0 cn ei n4 rx q6 ib oo hy p7 kN i4 sD a5 d2 t0 b9 l2 nr o0 hu g8 i9 l3 iT wx ut v3 vq wb us wf uv wo ul wk wv vi vx vc vm v5 t7 q3 tm d4 mI j8 tT kt cr p3 sc hG q0 a7 ne m3 ol om j9 iM kD m7 p4 pm pp ow kb m1 e1 m2 lb rn hJ a4 qq oL is g5 f7 r0 hh oA ha hr q2 bv l1 q5 o9 q1 i3 n5 l4 mb ob o5 l0 tA i8 kk ac ge t4 rc hX p8 bl i1 r6 q7 hO cA pd e7 l6 fl d6 f4 c7 i5 he d3 ty n3 q4 oi pu t3 ex ct hm tO fd hs hB po kw p5 ss cu cd bz e9 bn bq bf s3 n1 ts X t5 rg a8 mA sG bj cV n9 i2 hL o4 k3 d1 jp k1 li hx bk cS f8 lw eb hv r4 oz k6 tv c3 ot en b5 a6 e5 e8 gd c9 kA qn hw m8 e6 j4 g9 qr b6 op c5 mU r8 mt hj a3 pn n7 hn ps hq jv ms Z eg g4 sm hK nh q8 km r1 sn se e2 es pj of iB:Value}
 (ht: ∀(v26 vs un vv vj wy up v9 wn wd t9 wq wz v4 ww t8 wl v6 vp:Value),Q .normal ⟨#[bb,aA,o1,ih,hR,ao,dl,f9,s2,iQ,rp,.int .i64 nd,et,qx,hb,pv,mv,ls,hN,d9,bx,ta,.pointer (some ⟨J,0,none⟩),i0,.int .i64 (T:Int),k9,v26,be,d7,b3,sa,pw,gq,o2,me,fn,dd,f2,te,hQ,hk,hC,ad,ml,de,p9,hW,bw,d8,hl,q9,t2,o3,k2,ii,rt,hc,l5,gw,U,m0,ci,gc,sE,g6,mE,st,n6,sv,tf,ho,j3,f5,r9,hz,gr,t1,dg,Y,p2,iS,O,m5,ds,al,m9,lr,kp,j6,pi,n8,ea,lj,hD,hA,le,sb,hI,b4,r7,j2,r5,sB,kx,dk,hf,gi,o6,go,m4,bt,j0,g3,hT,sz,cm,ca,rr,cb,b7,ch,ft,aa,nn,oj,it,el,p1,mK,hS,gs,e3,ck,pk,d5,oq,gf,io,lm,r3,bd,i7,hV,c4,iA,a2,p0,co,k8,hE,f6,pl,ap,em,j5,c6,er,ev,n2,s0,kq,dt,a9,f1,k4,sl,hM,hg,g7,fp,p6,gz,i6,ez,am,cv,pa,os,s4,hU,j7,ce,pe,d0,b8,k7,mp,kn,fc,t6,kf,b2,r2,e4,ro,sf,hP,hp,k0,ip,kE,e0,eq,g0,c8,on,s1,m6,n0,bm,nA,gm,no,f3,a0,bi,tn,cc,cx,cj,j1,hH,hY,k5,c0,cn,ei,n4,rx,q6,ib,oo,hy,p7,kN,i4,sD,a5,d2,t0,b9,l2,nr,o0,hu,g8,i9,l3,iT,.bool b,vs,un,vv,vj,wy,up,v9,wn,wd,t9,wq,wz,v4,ww,t8,wl,v6,vp,q3,tm,d4,mI,j8,tT,kt,cr,p3,sc,hG,q0,a7,ne,m3,ol,om,j9,iM,kD,m7,p4,pm,pp,ow,kb,m1,e1,m2,lb,rn,hJ,a4,qq,oL,is,g5,f7,r0,hh,oA,ha,hr,q2,bv,l1,q5,o9,q1,i3,n5,l4,mb,ob,o5,l0,tA,i8,kk,ac,ge,t4,rc,hX,p8,bl,i1,r6,q7,hO,cA,pd,e7,l6,fl,d6,f4,c7,i5,he,d3,ty,n3,q4,oi,pu,t3,ex,ct,hm,tO,fd,hs,hB,po,kw,p5,ss,cu,cd,bz,e9,bn,bq,bf,s3,n1,ts,X,t5,rg,a8,mA,sG,bj,cV,n9,i2,hL,o4,k3,d1,jp,k1,li,hx,bk,cS,f8,lw,eb,hv,r4,oz,k6,tv,c3,ot,en,b5,a6,e5,e8,gd,c9,kA,qn,hw,m8,e6,j4,g9,qr,b6,op,c5,mU,r8,mt,hj,a3,pn,n7,hn,ps,hq,jv,ms,Z,eg,g4,sm,hK,nh,q8,km,r1,sn,se,e2,es,pj,of,iB],[]⟩ w):
 Code.wp prog (Qi 249) Q ⟨#[bb,aA,o1,ih,hR,ao,dl,f9,s2,iQ,rp,.int .i64 nd,et,qx,hb,pv,mv,ls,hN,d9,bx,ta,.pointer (some ⟨J,0,none⟩),i0,.int .i64 (s:Int),k9,v0,be,d7,b3,sa,pw,gq,o2,me,fn,dd,f2,te,hQ,hk,hC,ad,ml,de,p9,hW,bw,d8,hl,q9,t2,o3,k2,ii,rt,hc,l5,gw,U,m0,ci,gc,sE,g6,mE,st,n6,sv,tf,ho,j3,f5,r9,hz,gr,t1,dg,Y,p2,iS,O,m5,ds,al,m9,lr,kp,j6,pi,n8,ea,lj,hD,hA,le,sb,hI,b4,r7,j2,r5,sB,kx,dk,hf,gi,o6,go,m4,bt,j0,g3,hT,sz,cm,ca,rr,cb,b7,ch,ft,aa,nn,oj,it,el,p1,mK,hS,gs,e3,ck,pk,d5,oq,gf,io,lm,r3,bd,i7,hV,c4,iA,a2,p0,co,k8,hE,f6,pl,ap,em,j5,c6,er,ev,n2,s0,kq,dt,a9,f1,k4,sl,hM,hg,g7,fp,p6,gz,i6,ez,am,cv,pa,os,s4,hU,j7,ce,pe,d0,b8,k7,mp,kn,fc,t6,kf,b2,r2,e4,ro,sf,hP,hp,k0,ip,kE,e0,eq,g0,c8,on,s1,m6,n0,bm,nA,gm,no,f3,a0,bi,tn,cc,cx,cj,j1,hH,hY,k5,c0,cn,ei,n4,rx,q6,ib,oo,hy,p7,kN,i4,sD,a5,d2,t0,b9,l2,nr,o0,hu,g8,i9,l3,iT,.bool b,wx,ut,v3,vq,wb,us,wf,uv,wo,ul,wk,wv,vi,vx,vc,vm,v5,t7,q3,tm,d4,mI,j8,tT,kt,cr,p3,sc,hG,q0,a7,ne,m3,ol,om,j9,iM,kD,m7,p4,pm,pp,ow,kb,m1,e1,m2,lb,rn,hJ,a4,qq,oL,is,g5,f7,r0,hh,oA,ha,hr,q2,bv,l1,q5,o9,q1,i3,n5,l4,mb,ob,o5,l0,tA,i8,kk,ac,ge,t4,rc,hX,p8,bl,i1,r6,q7,hO,cA,pd,e7,l6,fl,d6,f4,c7,i5,he,d3,ty,n3,q4,oi,pu,t3,ex,ct,hm,tO,fd,hs,hB,po,kw,p5,ss,cu,cd,bz,e9,bn,bq,bf,s3,n1,ts,X,t5,rg,a8,mA,sG,bj,cV,n9,i2,hL,o4,k3,d1,jp,k1,li,hx,bk,cS,f8,lw,eb,hv,r4,oz,k6,tv,c3,ot,en,b5,a6,e5,e8,gd,c9,kA,qn,hw,m8,e6,j4,g9,qr,b6,op,c5,mU,r8,mt,hj,a3,pn,n7,hn,ps,hq,jv,ms,Z,eg,g4,sm,hK,nh,q8,km,r1,sn,se,e2,es,pj,of,iB],[]⟩ w:=by
 have I:=eJ ht
 clear ht
 conv=>arg 2;whnf
 by_cases h2:md=2
 ·subst h2
  have E:b=true:=by rw[u];rfl
  subst E
  clear u
  rw[JH] at j
  obtain⟨nx,C⟩:=ab ((node+1)%nd)
  have v7:nx<nd:=by rw[←C];exact Nat.mod_lt _ (cO (cT _) z)
  rw[C] at j
  have wA:((node:Int)+1).tmod nd=(nx:Int):=by rw[←C];rfl
  have xb:((nd:Int)==0)=false:=aV.2 (Int.natCast_ne_zero.2 (cW (cO (cT _) z)))
  have wt:s^^^2^node<65536:=Cv lc (aN z K)
  have xc:=DD s node lc (aN z K)
  clear C
  by_cases e:nx=node
  ·rw[aM e] at j
   subst j
   subst e
   go_wp2_with fail
   exact I.out _ _ _ _ _ _ _ _ _ _ _ _ _ _ _ _ _ _ _
  ·rw[aI e] at j
   subst j
   have E:decide ((nx:Int)=(node:Int))=false:=aH (fun h=>e (ey.1 h))
   have xf:((nx:Int)==(node:Int))=false:=aV.2 (fun h=>e (ey.1 h))
   have wB:=DD (s^^^2^node) nx wt (aN v7 K)
   go_wp2_with fail
   exact I.out _ _ _ _ _ _ _ _ _ _ _ _ _ _ _ _ _ _ _
 ·have E:b=false:=by rw[u];exact aV.2 h2
  rw[Cj h2] at j
  subst E j
  clear u
  go_wp2_with fail
  exact I.out _ _ _ _ _ _ _ _ _ _ _ _ _ _ _ _ _ _ _
end
section
attribute [local irreducible] fu fG je eZ iC jl gW gS jg jj iX ff jh gR fs pg lD
theorem EN {Q:Exit→Act→World→Prop} (w0 w W1:World) {base g:Nat} {p:Pl} {fy:Nat} {h:Cl} {N M:Nat} {q:Value} {AL:Option Addr} {b off cs cl ns:Nat} {bs:List Nat} (J:iJ w0 w base g p ⟨.slice (some ⟨b,off,none⟩) p.sl.length cs,.slice AL p.lk.length cl,q⟩ fy h M W1 bs) (hp:gl p) (rx:gH p N h) (Ta:N+90≤900000000000) (hM:M<1000) (SC:fy<65536) (xT:jH p h) (r6:fA w0 AL p.lk.length p.lk) (k8:fN w0 (some ⟨b,off,none⟩) p.sl.length p.sl) (h0:w0.heap.size≤base) (am:p.sl.length=ns)
 (A O:Option Addr) (c1 Y c4 E:Nat) (r:Rn) (g9:r.ls.length=Y) (m8:Y≤9223372036854775807) (qq:jD W1 A r.ls) (bi: ∀x,A=some x→x.block∈bs) (vi:r.md.length=E) (B3:E≤9223372036854775807) (ev:kY W1 O r.md) (a3:0<E→∀x,O=some x→x.block∈bs) (nd k:Nat) (cb:p.nd.toNat=nd) (hk:k<ns) (S8:0≤h.rd*p.rd∧h.rd*p.rd≤1000000000000000)
 {rr li b3 fn hu wA mb t8 gq tv is sD pj oA kA f6 cr SO Ne K1 SL OA LE y3 BE z4 SD R8 Fn RS PP EQ A4 E0 SP kN HC HW bv o9 e9 te k6 co f5 iT t4 x2 rt oj lj un it o4 hJ bn po dg hv wv hU pl wd q0 wf xj i2 m4 hh vv j3 hH x0 fc bq s2 mp bm pu fp bw p1 oz n7 nh r9 q4 f8 ot j7 j5 oq vx kp cv vs m3 vp wn ob fl iB hA r0 hD ps ci mU hS k1 wl d5 cV t9 c7 cA de he bt p3 q8 l2 ge s1 pn k0 hI g6 ds se f3 rg hz lm ow vm ca mI k4 e1 l4 b7 s0 d9 op kf hj ss b4 gf ne e2 gm gs qr wx n8 ft b9 hf ol v7 kx iM hV hc ta hO mE g0 b2 es r3 rn xb k3 nn c9 r7 f1 cS oo pa n5 ha k2 nA cu uv g7 t7 v5 kD i4 oi l1 of g4 gi hQ e6 rc wy pw qn cc p8 p4 b6 y5 SR z9 AK Ar LF HY H7 Op AV At B2 Rz Sx Sq H8 RJ HS Sd N8 K5 SJ ys A8 SZ z7 O8 Rw RR HN GE K9 O9 IR HF Sm HA L1 KV QC Hw Rr HH RD BL Rv R6 HT Lh HJ H3 L6 z3 Sn SQ Bs Q1 L9 SY NE Av R9 SF HX Sj y0 Ru Rp RH RI Mv Ix N4 Rs Sa R1 R4 RM ML Rd Cn Rg OB Sv H0 yv Sh RP In Go E6 Sy HB RO GT HK Sl z0 O4 Sp RW Sk K4 RA Pi PF RF RU O2 SW K8 Nm x8 Fm S4 St H4 Se y8 K2 SA Sr H2 AM RY C3 Pr Eq BD E5 A2 K6 Hb A9 SU Ry So RG R7 S3 B9 AC HE SX D3 HL HV R3 N1 Sc SI AH Ad z2 Do y9 zz y4 SN Rx SS x5 S5 Su y2 QB SM y6 AS RE K3 H1 RT Ob A5 Lk N9 OC HR y7 AR E7 O1 BT HO Sz RN Or ST AW RL B8 z5 yy C1 Dk Fd A3 N3 Sf HP Rt C2 LT GO Si z6 RK A1 Q2 SB QA HD x9 R2 RC HG R5 HI Ls P1 x6 B1 F0 SH kt p2 t3 n2 up wb v0 g5 go sb q7 l5:Value}
 (jp: ∀⦃v21 v22 v23 v24 v25 v26 v27 v28 v29 v30 v31 v32 v33 xf v35 v36 v37 cx v40 v41 B0 Ss AA v218 hW cm hN v222 r4 k9 hq v226 v227 v228 v229 g3 gr v232 v233 v234 lc v236 n3 i3 q5 oL ex ip p7 en j2 SG L5 RV HQ ms hG mA j6 wq hT o6 q1 pp d3 sf xl m9 tf dl p9 no le Ly z1 NB Ok RZ FG l3 mv q9 ei em sm gw g8 wo pv cn p0 ez xc et m1 o1 sc ea ro eq p5 i1 q2 s3 rp xd d1 c0 m7 cj t0 tO t6 sB f9 hy ts cd ut vc hL j9 wB hw iQ r1 dd hn hg R0 tT ty e7 l0 el b5 bx xi kq wt er v6 ww q3 ih n6 j8 q6 on t5 wk ml fd v9 i5 vq d8 kE iS hR xn os lr l6 o0 e3 io pi c3 j1 f4 xs i8 m0 j4 ct e8 kw ib lb k5 sv xt sz eb bz jv kk ce sa pe eg n9 sE e0 ii qx x3 om gz mK hx ho lw d6 s4 tn o2 n4 dt i7 vj hC f7 hr t1 ul c5 d4 kn xv d7 o3 sn r2 us m5 me hb ch hP i0 i6 ht r5 e5 km e4 pk n0 f2 c8 pd hE b8:Value⦄(w':World),iJ w0 w' base g p ⟨.slice (some ⟨b,off,none⟩) p.sl.length cs,.slice AL p.lk.length cl,q⟩ fy (jh p fy r k h) M W1 bs→Q .normal ⟨#[.pointer (some ⟨g,0,none⟩),.slice A Y c1,rr,li,.slice O E c4,b3,fn,hu,wA,mb,t8,.int .i64 nd,gq,tv,is,sD,pj,oA,kA,f6,cr,v21,v22,v23,v24,v25,v26,v27,v28,v29,v30,v31,v32,v33,xf,v35,v36,v37,cx,kN,v40,v41,bv,o9,e9,te,k6,co,f5,iT,t4,x2,rt,oj,lj,un,it,o4,hJ,bn,po,dg,hv,wv,hU,pl,wd,q0,wf,xj,i2,m4,hh,vv,j3,hH,x0,fc,bq,s2,mp,bm,pu,fp,bw,p1,oz,n7,nh,r9,q4,f8,ot,j7,j5,oq,vx,kp,cv,vs,m3,vp,wn,ob,fl,iB,hA,r0,hD,ps,ci,mU,hS,k1,wl,d5,cV,t9,c7,cA,de,he,bt,p3,q8,l2,ge,s1,pn,k0,hI,g6,ds,se,f3,rg,hz,lm,ow,vm,ca,mI,k4,e1,l4,b7,s0,d9,op,kf,hj,ss,b4,gf,ne,e2,gm,gs,qr,wx,n8,ft,b9,hf,ol,v7,kx,iM,hV,hc,ta,hO,mE,g0,b2,es,r3,rn,xb,k3,nn,c9,r7,f1,cS,oo,pa,n5,ha,k2,nA,cu,uv,g7,t7,v5,kD,i4,oi,l1,of,g4,gi,hQ,e6,rc,wy,pw,qn,cc,p8,.slice (some ⟨b,off,none⟩) ns cs,p4,.int .i64 k,b6,B0,Ss,AA,v218,hW,cm,hN,v222,r4,k9,hq,v226,v227,v228,v229,g3,gr,v232,v233,v234,lc,v236,n3,i3,q5,oL,ex,ip,p7,en,j2,SG,L5,RV,HQ,ms,hG,mA,j6,wq,hT,o6,q1,pp,d3,sf,xl,m9,tf,dl,p9,no,le,Ly,z1,NB,Ok,RZ,FG,l3,mv,q9,ei,em,sm,gw,g8,wo,pv,cn,p0,ez,xc,et,m1,o1,sc,ea,ro,eq,p5,i1,q2,s3,rp,xd,d1,c0,m7,cj,t0,tO,t6,sB,f9,hy,ts,cd,ut,vc,hL,j9,wB,hw,iQ,r1,dd,hn,hg,R0,tT,ty,e7,l0,el,b5,bx,xi,kq,wt,er,v6,ww,q3,ih,n6,j8,q6,on,t5,wk,ml,fd,v9,i5,vq,d8,kE,iS,hR,xn,os,lr,l6,o0,e3,io,pi,c3,j1,f4,xs,i8,m0,j4,ct,e8,kw,ib,lb,k5,sv,xt,sz,eb,bz,jv,kk,ce,sa,pe,eg,n9,sE,e0,ii,qx,x3,om,gz,mK,hx,ho,lw,d6,s4,tn,o2,n4,dt,i7,vj,hC,f7,hr,t1,ul,c5,d4,kn,xv,d7,o3,sn,r2,us,m5,me,hb,ch,hP,i0,i6,ht,r5,e5,km,e4,pk,n0,f2,c8,pd,hE,b8,kt,p2,t3,n2,up,wb,v0,g5,go,sb,q7,l5],[]⟩ w'):
 Code.wp prog (OT 9) Q ⟨#[.pointer (some ⟨g,0,none⟩),.slice A Y c1,rr,li,.slice O E c4,b3,fn,hu,wA,mb,t8,.int .i64 nd,gq,tv,is,sD,pj,oA,kA,f6,cr,SO,Ne,K1,SL,OA,LE,y3,BE,z4,SD,R8,Fn,RS,PP,EQ,A4,E0,SP,kN,HC,HW,bv,o9,e9,te,k6,co,f5,iT,t4,x2,rt,oj,lj,un,it,o4,hJ,bn,po,dg,hv,wv,hU,pl,wd,q0,wf,xj,i2,m4,hh,vv,j3,hH,x0,fc,bq,s2,mp,bm,pu,fp,bw,p1,oz,n7,nh,r9,q4,f8,ot,j7,j5,oq,vx,kp,cv,vs,m3,vp,wn,ob,fl,iB,hA,r0,hD,ps,ci,mU,hS,k1,wl,d5,cV,t9,c7,cA,de,he,bt,p3,q8,l2,ge,s1,pn,k0,hI,g6,ds,se,f3,rg,hz,lm,ow,vm,ca,mI,k4,e1,l4,b7,s0,d9,op,kf,hj,ss,b4,gf,ne,e2,gm,gs,qr,wx,n8,ft,b9,hf,ol,v7,kx,iM,hV,hc,ta,hO,mE,g0,b2,es,r3,rn,xb,k3,nn,c9,r7,f1,cS,oo,pa,n5,ha,k2,nA,cu,uv,g7,t7,v5,kD,i4,oi,l1,of,g4,gi,hQ,e6,rc,wy,pw,qn,cc,p8,.slice (some ⟨b,off,none⟩) ns cs,p4,.int .i64 k,b6,y5,SR,z9,AK,Ar,LF,HY,H7,Op,AV,At,B2,Rz,Sx,Sq,H8,RJ,HS,Sd,N8,K5,SJ,ys,A8,SZ,z7,O8,Rw,RR,HN,GE,K9,O9,IR,HF,Sm,HA,L1,KV,QC,Hw,Rr,HH,RD,BL,Rv,R6,HT,Lh,HJ,H3,L6,z3,Sn,SQ,Bs,Q1,L9,SY,NE,Av,R9,SF,HX,Sj,y0,Ru,Rp,RH,RI,Mv,Ix,N4,Rs,Sa,R1,R4,RM,ML,Rd,Cn,Rg,OB,Sv,H0,yv,Sh,RP,In,Go,E6,Sy,HB,RO,GT,HK,Sl,z0,O4,Sp,RW,Sk,K4,RA,Pi,PF,RF,RU,O2,SW,K8,Nm,x8,Fm,S4,St,H4,Se,y8,K2,SA,Sr,H2,AM,RY,C3,Pr,Eq,BD,E5,A2,K6,Hb,A9,SU,Ry,So,RG,R7,S3,B9,AC,HE,SX,D3,HL,HV,R3,N1,Sc,SI,AH,Ad,z2,Do,y9,zz,y4,SN,Rx,SS,x5,S5,Su,y2,QB,SM,y6,AS,RE,K3,H1,RT,Ob,A5,Lk,N9,OC,HR,y7,AR,E7,O1,BT,HO,Sz,RN,Or,ST,AW,RL,B8,z5,yy,C1,Dk,Fd,A3,N3,Sf,HP,Rt,C2,LT,GO,Si,z6,RK,A1,Q2,SB,QA,HD,x9,R2,RC,HG,R5,HI,Ls,P1,x6,B1,F0,SH,kt,p2,t3,n2,up,wb,v0,g5,go,sb,q7,l5],[]⟩ w:=by
 have Sw:=hp.n16
 have HZ:=hp.n1
 have bj:nd≤16:=ah
 have Tj:k<100:=by have:=hp.sl;omega
 obtain⟨Tg,Ti,SE,s,hs,gc,Fr,st⟩:=(OV k8 h0 J.KM) k (by rw[am];exact hk)
 cases SE
 have iA:=hp.slot k s hs
 obtain⟨node,bk⟩: ∃node:Nat,s.n=node:=⟨s.n.toNat,ah⟩
 have ac:node<nd:=ah
 rw[bk] at gc
 have Td:=eJ J;have ap:=eJ hp;have aA:=eJ rx;have bb:=eJ xT;have k7:=eJ r6;have RB:=eJ jp;have Hq:=eJ g9;have SK:=eJ m8;have m6:=eJ vi;have K:=eJ cb;have Tc:=eJ am
 obtain⟨W,Z⟩:=ab (w.alloc (.cells #[.int .i64 (node:Int),.int .i64 s.f,.int .i64 s.t] 86))
 obtain⟨u,xu⟩:=ab w.heap.size
 have v3:Hid (Below w.heap.size w W):=eJ (by rw[←Z];exact(au).alloc (ar) _)
 have a8:eN W u 86 #[.int .i64 (node:Int),.int .i64 s.f,.int .i64 s.t]:=by rw[←Z,←xu];exact eN.new w _ _
 have U:=eJ a8
 have m2:=eJ (J.more v3.out (x:=u) ah a8.lt)
 have a0:Hid (∀b∈bs,W.heap[b]? =W1.heap[b]?):=eJ (fun b C=>(v3.out.block b (J.OS C)).trans (J.heap C))
 have If:=eJ (sT qq (w':=W) (fun x z=>a0.out x.block (bi x z)))
 have Sb:=eJ (tg ev (w':=W) (fun h0 x z=>a0.out x.block (a3 ah x z)))
 have O3:=eJ bi;have Sg:=eJ a3
 have S9:=eJ Z;have Os:=eJ bk;have x4:=eJ hs;have Hh:=eJ iA
 have tA : Hid (∀ X, Below W.heap.size W X → Calls prog 76 #[.pointer (some ⟨g, 0, none⟩), .int .i64 node] X fun e w' => e = .returned (.bool (fu fy node)) ∧ ∃ k, w' = X.drewN k) := eJ (fun X hB => by
  obtain⟨ck,S6,lk,tm,pm,C⟩:=(m2.out.below hB).cells
  exact qE C SC node ah)
 clear J hp rx xT r6 jp g9 m8 vi cb am a8 bk hs iA qq bi ev a3 k8 Sw HZ
 conv=>arg 2;whnf
 go_upto_region 36 with fail
 clear gc Fr st xu Z
 go_upto_region 37 with fail
 refine Ju W g u node E c4 O (fu fy node) (.int .i64 s.f) (.int .i64 s.t) U.out (tA.out W (au)) (fun v218 hW cm hN v222 r4 k9 hq v226 v227 w6 wz=> ?_)
 have be:=eJ (m2.out.below wz)
 clear tA wz
 have I:=(be.out.eW (cP ..) U.out).cell 0
 simp at I
 obtain⟨md,mt⟩: ∃md,pg fy r.md node=md:=⟨_,rfl⟩
 have hY:=eJ mt
 clear mt
 go_upto_if 228 with fail
 refine Ma w6 fy u node E c4 O r.md m6.out B3 (tg Sb.out (w':=w6) (fun h0 x z=>be.out.heap (cF _ (Sg.out (by rw[←m6.out];exact h0) x z)))) I md hY.out (fun v228 v229 g3 gr v232 v233=> ?_)
 clear I
 obtain ⟨aa, al⟩ : ∃ v : Nat, gR (h.mm node).m (h.mm node).gd (h.mm node).bd (h.mm node).fz = v := (by
  unfold gR
  split
  ·exact⟨(h.mm node).m,rfl⟩
  ·exact ⟨0, rfl⟩)
 have x7:aa<2^nd:=by
  have h1:=bb.out node
  rw[K.out] at h1
  unfold gR at al
  split at al
  ·omega
  ·have:=cQ nd;omega
 have nr:aa<65536:=by
  have:(2:Nat)^nd≤2^16:=aX ah bj
  omega
 obtain⟨xm,xo⟩: ∃o,fs (h.mm node).gd (h.mm node).bd (h.mm node).fz=o:=⟨_,rfl⟩
 have xq:=eJ al;have j0:=eJ xo;have t2:=eJ nr
 clear al xo x7 nr
 go_upto_region 39 with fail
 refine Er w0 w6 W be.out ap.out aA.out ah bb.out u (cP ..) node _ _ U.out (by rw[K.out];exact ac) ?_
 intro v234 lc v236 n3 i3 q5 oL ex ip p7 en j2 w7 p6
 have ao:=eJ p6
 clear p6
 rw[xq.out,j0.out]
 obtain⟨ok,i9⟩:=ab ((xm&&decide (md≠1)))
 obtain⟨T,a9⟩:=ab (lD nd node aa md)
 have d0:=eJ a9;have r8:=eJ i9
 have RQ:Hid (T<65536):=eJ (by rw[←a9];exact Ai t2.out ac bj)
 clear i9 a9
 go_upto_if 247 with fail
 refine NY w7 md _ xm ok (by first|rfl|simp|(simp only[dy];rfl)) r8.out ?_
 have I:=(ao.out.eW (cP ..) U.out).cell 0
 simp at I
 go_upto_if 249 with fail
 refine NW w7 md _ (by first|rfl|simp|(simp only[dy];rfl)) nd node u aa T ac bj t2.out d0.out I (fun v26 ms hG mA j6 wq hT o6 q1 pp d3 sf xl m9 tf dl p9 no le=> ?_)
 clear I
 obtain⟨nl,a7⟩:=ab p.lk.length
 have RX:=eJ a7
 obtain⟨Tf,S7,Th,Tb,Te,hl⟩:=ao.out.cells
 have a6:=hl.cell 7
 simp[kV] at a6
 rw[a7] at a6
 clear a7 hl
 obtain⟨ad,o5⟩:=ab (h.rd*p.rd)
 obtain⟨now,hX⟩:=ab (ad+s.f)
 have hm:=eJ o5;have bl:=eJ hX
 have hK:Hid ((0≤ad∧ad≤4611686018427387904)∧(0≤now∧now≤4611686018427387904)):=eJ (by have:=Hh.out;omega)
 clear o5 hX
 go_upto_block 10 with fail
 clear a6
 refine BI w0 w7 W ao.out ap.out hM k7.out h0 RX.out u (cP ..) node s.f (.int .i64 s.t) U.out ok h.rd p.rd ad now rfl rfl hm.out bl.out hK.out.1 hK.out.2 (fun v30 v31 v32 v33 xf l3 mv q9 ei em sm gw g8 wo pv cn p0 ez xc et m1 o1 sc ea ro eq p5 i1 q2 s3 rp xd d1 c0 m7 cj t0 tO t6 sB f9 hy ts cd ut vc hL j9 wB hw iQ r1 dd hn hg w8 c2 a4 a2 d2 c6 kb P2=> ?_)
 have SV:=eJ c6
 have a5:=eJ kb
 clear c6 kb P2
 obtain⟨sG,v4,dk⟩:=KA a5.out (aA.out.Di node (Mm.yB (aA.out.mm node))) k T
 have N2:=eJ sG;have C0:=eJ v4;have Id:=eJ dk
 have HM:Hid (jH p c2):=eJ (fun j=>by rw[PU a5.out];exact bb.out.send node j)
 clear sG v4 dk
 go_upto_block 12 with fail
 refine K7 w0 w8 W SV.out ap.out (N:=N+81) ah HM.out k7.out h0 A c1 Y r.ls Hq.out SK.out If.out (fun x z=>cF _ (O3.out x z)) u (cP ..) node nd k (.int .i64 s.f) (.int .i64 s.t) U.out (by rw[K.out];exact ac) K.out ah (if ok=true then some ⟨node,k,T,a4,a2,d2⟩ else none) ok T a4 a2 d2 (fun j S1=>(mV Id.out ah k _ r.ls j).mono (by rw[K.out] at S1;omega)) RQ.out N2.out C0.out (fun v35 v36 v37 cx v40 v41 tT ty e7 l0 el b5 bx xi kq wt er v6 ww q3 ih n6 j8 q6 on t5 wk ml fd v9 i5 vq d8 kE iS hR xn os lr l6 o0 e3 io pi c3 j1 f4 xs i8 m0 j4 ct e8 kw ib lb k5 sv xt sz eb bz jv kk ce sa pe eg n9 sE e0 ii qx x3 om gz mK hx ho lw d6 s4 tn o2 n4 dt i7 vj hC f7 hr t1 ul c5 d4 kn xv d7 o3 sn r2 us m5 me hb ch hP i0 i6 ht r5 e5 km e4 pk n0 f2 c8 pd hE b8 w9 bf=> ?_)
 have An : Hid (ff p node k (if ok = true then some ⟨node, k, T, a4, a2, d2⟩ else none) r.ls c2 nd = jh p fy r k h) := eJ (by
  rw [← H9 a5.out, z8 x4.out Os.out hY.out xq.out, j0.out, r8.out, K.out, d0.out, hm.out, bl.out])
 rw[An.out] at bf
 have O5:=eJ (bf.anchor (w2:=W1) (bs':=bs) (fun b C=>⟨cF _ C,a0.out b C⟩))
 clear bf
 go_wp2_with fail
 exact RB.out _ O5.out
end
end Go.Proofs.YtideefjnlakciaaGreatDoor
