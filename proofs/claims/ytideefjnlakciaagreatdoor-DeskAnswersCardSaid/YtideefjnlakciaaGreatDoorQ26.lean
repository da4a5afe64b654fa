/- The document's cluster's Play: what is sent is heard (Hears), and where the nodes lie stays; plain facts; conditions: none. -/
import Derived.Test.YtideefjnlakciaaGreatDoorQ00
import Derived.Test.YtideefjnlakciaaGreatDoorQ25
import Derived.Test.YtideefjnlakciaaGreatDoorQ09
import Derived.Test.YtideefjnlakciaaGreatDoorQ19
import Derived.Test.YtideefjnlakciaaGreatDoorQ20
import Derived.Defers
import Derived.Recover
import Derived.Lib.ItoaLen
import Derived.Deep.RegionHeld3
set_option maxRecDepth 1000000
set_option maxHeartbeats 20000000
set_option linter.unusedVariables false
set_option linter.unusedSimpArgs false
namespace Go.Proofs.YtideefjnlakciaaGreatDoor
open Go.RowKit Go.Proofs.Tryz
section
attribute [local irreducible] fu jg lu
section
variable {w0 w w' w1:World}{base g:Nat}{p:Pl}{P:lz}{fy M:Nat}{c:Cl}{bs:List Nat}
theorem iJ.PJ(h:iJ w0 w base g p P fy c M w1 bs)(hp:gl p){N:Nat}(ac:gH p N c)(a2:N<=1000000000000){i:Nat}(hi:i<p.nd.toNat): ∃b off cp gm,w.cell? ⟨g,12,none⟩=some (.slice (some ⟨b,off,none⟩) p.nd.toNat cp)/\w.cell? ⟨b,off+i,none⟩=some (.pointer (some ⟨gm,0,none⟩))/\(∀(W:World)(fr:Nat)(j:Int),Below w.heap.size w W->fr<p.nd.toNat->fr≠i->0<=j/\j<=2->Calls prog 84 #[.pointer (some ⟨gm,0,none⟩),.int .i64 fr,.int .i64 j] W fun e w'=>e=.returned (.tuple #[])/\iJ w0 w' base g p P fy {c with mm:=eV c.mm i ((c.mm i).mi fr j)} M w1 bs/\w'.cell? ⟨g,12,none⟩=some (.slice (some ⟨b,off,none⟩) p.nd.toNat cp)/\w'.cell? ⟨b,off+i,none⟩=some (.pointer (some ⟨gm,0,none⟩))):=by
 obtain⟨a,rfl,h2,h3,h4,h5⟩:=h;have hn:=hp.n16;have a0:=hp.n1;obtain⟨b,off,cp,e,C⟩:=h2.Oo (i:=i) hi;obtain⟨-,-,-,-,-,-,-,-,-,s,-⟩:=gg h2.gA;rw[e] at s;have K:=ac.mm i;have z:(eM base a (eO p) p P fy c (.xh i)).eX=[a.gm i,a.gt i]:=by have:i<(eO p).nm:=hi;simp[eM,this,GO.mem]
 have X:a.g∈(eM base a (eO p) p P fy c .im).eX:=by simp[eM,GO.eW]
 have Z:b∈(eM base a (eO p) p P fy c .nodA).eX:=by simp[eM,GO.arr,e,Value.ownBlock]
 have U: ¬a.g∈[a.gm i,a.gt i]:=fun hm=>absurd (h2.gJ.sep (.xh i) .im a.g (by rw[z];exact hm) X) ak;have al: ¬b∈[a.gm i,a.gt i]:=fun hm=>absurd (h2.gJ.sep (.xh i) .nodA b (by rw[z];exact hm) Z) ak;refine⟨b,off,cp,a.gm i,s,C,fun W fr j hB z Y hw=> ?_⟩;have E:=h2.below hB;have ap:=h3.trans (hB.mono h4);have I:=aK h4 hB.size;have aa: ∀b∈bs,b<W.heap.size/\¬wM (eM base a (eO p) p P fy c) b/\W.heap[b]? =w1.heap[b]? :=fun b u=>⟨aN (h5 b u).1 hB.size,(h5 b u).2.1,(hB.block b (h5 b u).1).trans (h5 b u).2.2⟩;obtain⟨n1,aA,ao⟩:=E.Bq (i:=i) hi;have J:=(hB.cell (p:=⟨a.g,12,none⟩) (aG _ _ s)).trans s;have T:=(hB.cell (p:=⟨b,off+i,none⟩) (aG _ _ C)).trans C;refine(uX (a.gm i) (a.gt i) i p.nd.toNat (c.mm i).m (c.mm i).gd (c.mm i).bd (c.mm i).fz W fr j n1 aA ao ah ah K.2.1 ah K.2.2.2.1 ah).mono ?_;rintro e w' ⟨rfl,O⟩;obtain⟨s1,s2,am,ad⟩:=Dr (c.mm i) (id:=i) (n:=p.nd.toNat) z Y hw;have hk:=O.2.2.KN;refine⟨rfl,.vB rfl E ap I aa (E.Ea hi ((c.mm i).mi fr j) (by rw[s1,s2,am,ad];exact O) I), ?_, ?_⟩
 ·exact(fj (hk.block a.g (aG _ _ J) U) 12).trans J
 ·exact(fj (hk.block b (aG _ _ T) al) (off+i)).trans T
end
theorem jH.ch{p:Pl}{c:Cl}(h:jH p c)(tn slot:Nat)(fr:Option mB)(ls:List Ls)(k:Nat):jH p (fG p tn slot fr ls c k):=fun i=>by rw[mS];exact h i
theorem EC{fr:Option mB}{T:Nat}(h: ∀f,fr=some f->f.mb=(T:Int))(m node slot tn:Nat)(ls:List Ls)(k:Nat):(if jc fr ls slot k tn=true then gW m node T else jj m node fr (iX fr ls slot tn k))=jj m node fr (iX fr ls slot tn (k+1)):=by
 show _=jj m node fr (iX fr ls slot tn k||jc fr ls slot k tn);cases fr with
  |none=>simp[jc,jj]
  |some f=>
   have e:f.mb.toNat=T:=by rw[h f rfl];simp
   cases j:jc (some f) ls slot k tn
   ·simp
   ·simp[jj,e]
theorem zR(p:Pl)(tn slot:Nat)(fr:Option mB)(ls:List Ls)(c:Cl)(k:Nat):nB p tn fr (jc fr ls slot k tn) (fG p tn slot fr ls c k)=fG p tn slot fr ls c (k+1):=rfl
end
section
attribute [local irreducible] fu fG je eZ iC jl gW gS jg jj iX
theorem Mw {Q : Exit → Act → World → Prop} (w0 w W1 : World) {base g : Nat} {p : Pl} {fy : Nat} {h : Cl} {N M : Nat} {q : Value} {E AL : Option Addr} {cs cl : Nat} {bs : List Nat} (ao : iJ w0 w base g p ⟨.slice E p.sl.length cs, .slice AL p.lk.length cl, q⟩ fy h M W1 bs) (hp : gl p) (bw : gH p N h) (LF : N + 4 ≤ 900000000000) (lc : jH p h) (uv : fA w0 AL p.lk.length p.lk) (h0 : w0.heap.size ≤ base)
 (A : Option Addr) (c1 z : Nat) (ls : List Ls) (rp : ls.length = z) (kD : z ≤ 9223372036854775807) (g9 : jD W1 A ls) (kE : ∀ x, A = some x → x.block ∈ bs) (j : Nat) (a5 : j ∈ bs) (node tn i : Nat) (b6 st : Value) (ad : eN W1 j 86 #[.int .i64 node, b6, st]) (am : node < p.nd.toNat) (ac : tn < p.nd.toNat) (hi : i ≤ 100)
 (fr : Option mB) (ok : Bool) (T : Nat) (lk sq : Int) (d : ByteArray) (zz : T < 65536) (sE : Ky fr ok T lk sq d) (j5 : lk < 0 ∨ ∃ (k : Nat) (l : Lk), lk = (k : Int) ∧ p.lk[k]? = some l)
 {op f6 wo ss p7 hQ i8 bd i5 gf k1 ob r2 vv us c4 ci l0 j7 p1 f9 i0 wA mI t1 gz Do HD z1 HO wt E5 Go kt d7 o4 rr t9 gs jv tO ol o1 r1 fc hD j6 c8 m7 j9 p9 p4 po f8 q5 kn b9 de hW k9 ds g0 sm l2 hl n2 iQ k2 g5 k6 er dt pp hY bm m5 b4 hV sv eg le pd li hO i4 f1 bv f2 cm hx g7 bk i6 xc pw hR eq eb pj iB tT v9 bx r6 lb a9 hN dl hM ne f5 bn m1 hK d2 n5 sn j0 cA q2 tv oz a6 sc k7 ih d9 sz et e0 oj be hP hU rt q1 v3 p5 oo vm t2 s2 hm cn sa se kA sD m0 m6 p6 l5 v0 k3 m9 t0 kq n6 r7 iT c9 a8 vp pv iS hI wd pe hG v4 n0 d1 wz c5 it q3 hu iA q8 ib mb vs he cV qx g3 bj kN cd r4 lw hn cc d5 j8 oq bi bf i2 sb i7 of b5 me o2 ii k8 hz j2 v5 bq hj v6 hS tA nh cj rc vc ez wk hh k0 n3 vx hb es rn hs co kw dd e1 dk wb ho j4 sf bz fl e8 j1 wf hq io t6 o3 iM gi s3 n8 ts hA kb r5 t5 bl mU kk en mA hf qn ul ei p0 lj wl gw nn bb vi hc e6 cS ca p3 kx sG m8 q7 dg ht fn ms ev o0 o6 e7 ut ta pm d8 f4 fp q6 pk mE up p8 bt k4 b3 hB ow l1 s4 lr tm wq o9 r0 cv ha ml ge kf GE HC HP AV GO B2 BT H3 x7 HH K6 xo AK BE A1 xd xs xm HY Ly C0 GT B0 HE B9 z7 xl HW x4 AM B3 B1 H0 H7 Fd Fn AS yv K9 E6 Eq y2 Ar x8 z9 xT FG HB x6 Bs Hw Fr HI z3 HR A3 KV Fm D3 y8 A5 HA E0 HJ AA HF HL F0 xn HT xf z2 z0 K8 Av A2 K4 Id HG y9 At x9 HX y0 An A9 H4 HK C3 C1 K5 K3 HM A4 z6 y4 y5 EQ Dk y6 H8 A8 HQ IR AC y7 Ix Hb BD x0 If AW ty a7 e4 oL b8 el mv l3 e3 hX e9 ct q4 : Value}
 (wn : ∀ ⦃v35 v36 v37 ot v40 v41 y3 K1 xv ys Ad Z AH lm sB n9 e5 pi rx vj jp go d6 ce kp n7 hH hT hL c7 s0 cu g6 s1 rg oA pa nr b7 mK xb ps t8 q9 o5 m4 km c6 n4 c0 i3 os gc gd hC wx ip ex un wv pl ft gq g8 j3 pu k5 wy m2 hw l6 t3 e2 cb wB cx r8 g4 qq i1 p2 hy c3 ro hv qr te q0 hr m3 b2 l4 d4 ea nA pn hg t4 f3 om i9 fd hE t7 r9 ww Hq x3 xt Cn K2 HN z5 Hh BL x5 HS yy : Value⦄ (w' : World), iJ w0 w' base g p ⟨.slice E p.sl.length cs, .slice AL p.lk.length cl, q⟩ fy (if tn = node then h else je p node tn i fr ls h) M W1 bs → Q .normal ⟨#[.pointer (some ⟨g, 0, none⟩), .slice A z c1, op, f6, wo, ss, p7, hQ, i8, bd, i5, gf, k1, ob, r2, vv, us, c4, ci, l0, j7, .int .i64 i, .pointer (some ⟨j, 0, none⟩), p1, .int .i64 T, .bool ok, f9, .int .i64 lk, .int .i64 sq, .string d, i0, wA, mI, t1, gz, v35, v36, v37, ot, wt, v40, v41, kt, d7, o4, rr, t9, gs, jv, tO, ol, o1, r1, fc, hD, j6, c8, m7, j9, p9, p4, po, f8, q5, kn, b9, de, hW, k9, ds, g0, sm, l2, hl, n2, iQ, k2, g5, k6, er, dt, pp, hY, bm, m5, b4, hV, sv, eg, le, pd, li, hO, i4, f1, bv, f2, cm, hx, g7, bk, i6, xc, pw, hR, eq, eb, pj, iB, tT, v9, bx, r6, lb, a9, hN, dl, hM, ne, f5, bn, m1, hK, d2, n5, sn, j0, cA, q2, tv, oz, a6, sc, k7, ih, d9, sz, et, e0, oj, be, hP, hU, rt, q1, v3, p5, oo, vm, t2, s2, hm, cn, sa, se, kA, sD, m0, m6, p6, l5, v0, k3, m9, t0, kq, n6, r7, iT, c9, a8, vp, pv, iS, hI, wd, pe, hG, v4, n0, d1, wz, c5, it, q3, hu, iA, q8, ib, mb, vs, he, cV, qx, g3, bj, kN, cd, r4, lw, hn, cc, d5, j8, oq, bi, bf, i2, sb, i7, of, b5, me, o2, ii, k8, hz, j2, v5, bq, hj, v6, hS, tA, nh, cj, rc, vc, ez, wk, hh, k0, n3, vx, hb, es, rn, hs, co, kw, dd, e1, dk, wb, ho, j4, sf, bz, fl, e8, j1, wf, hq, io, t6, o3, iM, gi, s3, n8, ts, hA, kb, r5, t5, bl, mU, kk, en, mA, hf, qn, ul, ei, p0, lj, wl, gw, nn, bb, vi, hc, e6, cS, ca, p3, kx, sG, m8, q7, dg, ht, fn, ms, ev, o0, o6, e7, ut, ta, pm, d8, f4, fp, q6, pk, mE, up, p8, bt, k4, b3, hB, ow, l1, s4, lr, tm, wq, o9, r0, cv, ha, ml, ge, .int .i64 tn, kf, y3, K1, xv, ys, Ad, Z, AH, lm, sB, n9, e5, pi, rx, vj, jp, go, d6, ce, kp, n7, hH, hT, hL, c7, s0, cu, g6, s1, rg, oA, pa, nr, b7, mK, xb, ps, t8, q9, o5, m4, km, c6, n4, c0, i3, os, gc, gd, hC, wx, ip, ex, un, wv, pl, ft, gq, g8, j3, pu, k5, wy, m2, hw, l6, t3, e2, cb, wB, cx, r8, g4, qq, i1, p2, hy, c3, ro, hv, qr, te, q0, hr, m3, b2, l4, d4, ea, nA, pn, hg, t4, f3, om, i9, fd, hE, t7, r9, ww, Hq, x3, xt, Cn, K2, HN, z5, Hh, BL, x5, HS, yy, ty, a7, e4, oL, b8, el, mv, l3, e3, hX, e9, ct, q4], []⟩ w') :
 Code.wp prog (OT 13) Q ⟨#[.pointer (some ⟨g, 0, none⟩), .slice A z c1, op, f6, wo, ss, p7, hQ, i8, bd, i5, gf, k1, ob, r2, vv, us, c4, ci, l0, j7, .int .i64 i, .pointer (some ⟨j, 0, none⟩), p1, .int .i64 T, .bool ok, f9, .int .i64 lk, .int .i64 sq, .string d, i0, wA, mI, t1, gz, Do, HD, z1, HO, wt, E5, Go, kt, d7, o4, rr, t9, gs, jv, tO, ol, o1, r1, fc, hD, j6, c8, m7, j9, p9, p4, po, f8, q5, kn, b9, de, hW, k9, ds, g0, sm, l2, hl, n2, iQ, k2, g5, k6, er, dt, pp, hY, bm, m5, b4, hV, sv, eg, le, pd, li, hO, i4, f1, bv, f2, cm, hx, g7, bk, i6, xc, pw, hR, eq, eb, pj, iB, tT, v9, bx, r6, lb, a9, hN, dl, hM, ne, f5, bn, m1, hK, d2, n5, sn, j0, cA, q2, tv, oz, a6, sc, k7, ih, d9, sz, et, e0, oj, be, hP, hU, rt, q1, v3, p5, oo, vm, t2, s2, hm, cn, sa, se, kA, sD, m0, m6, p6, l5, v0, k3, m9, t0, kq, n6, r7, iT, c9, a8, vp, pv, iS, hI, wd, pe, hG, v4, n0, d1, wz, c5, it, q3, hu, iA, q8, ib, mb, vs, he, cV, qx, g3, bj, kN, cd, r4, lw, hn, cc, d5, j8, oq, bi, bf, i2, sb, i7, of, b5, me, o2, ii, k8, hz, j2, v5, bq, hj, v6, hS, tA, nh, cj, rc, vc, ez, wk, hh, k0, n3, vx, hb, es, rn, hs, co, kw, dd, e1, dk, wb, ho, j4, sf, bz, fl, e8, j1, wf, hq, io, t6, o3, iM, gi, s3, n8, ts, hA, kb, r5, t5, bl, mU, kk, en, mA, hf, qn, ul, ei, p0, lj, wl, gw, nn, bb, vi, hc, e6, cS, ca, p3, kx, sG, m8, q7, dg, ht, fn, ms, ev, o0, o6, e7, ut, ta, pm, d8, f4, fp, q6, pk, mE, up, p8, bt, k4, b3, hB, ow, l1, s4, lr, tm, wq, o9, r0, cv, ha, ml, ge, .int .i64 tn, kf, GE, HC, HP, AV, GO, B2, BT, H3, x7, HH, K6, xo, AK, BE, A1, xd, xs, xm, HY, Ly, C0, GT, B0, HE, B9, z7, xl, HW, x4, AM, B3, B1, H0, H7, Fd, Fn, AS, yv, K9, E6, Eq, y2, Ar, x8, z9, xT, FG, HB, x6, Bs, Hw, Fr, HI, z3, HR, A3, KV, Fm, D3, y8, A5, HA, E0, HJ, AA, HF, HL, F0, xn, HT, xf, z2, z0, K8, Av, A2, K4, Id, HG, y9, At, x9, HX, y0, An, A9, H4, HK, C3, C1, K5, K3, HM, A4, z6, y4, y5, EQ, Dk, y6, H8, A8, HQ, IR, AC, y7, Ix, Hb, BD, x0, If, AW, ty, a7, e4, oL, b8, el, mv, l3, e3, hX, e9, ct, q4], []⟩ w := by
 have In := hp.n16
 have B8 := hp.n1
 have LE : tn < 16 := ah
 have is := eJ ao; have tf := eJ hp; have em := eJ bw; have H2 := eJ lc; have AR := eJ uv; have E7 := eJ g9; have xj := eJ kE; have a2 := eJ ad; have Y := eJ sE; have K := eJ wn; have xu := eJ rp; have a4 := eJ a5; have xq := eJ j5
 have H1 := eJ kD
 have ap : w.cell? ⟨j, 0, none⟩ = some (.int .i64 node) := (ao.eW a5 ad).cell 0
 clear ao hp bw lc uv g9 kE ad sE wn rp a5 In B8 j5 kD
 conv => arg 2; whnf
 by_cases s : tn = node
 ·have d0 : ((tn : Int) == (node : Int)) = true := by rw [s]; exact beq_self_eq_true _
  have C := K
  rw [aM s] at C
  clear K s
  go_wp2_with fail
  exact C.out _ is.out
 ·have d0 : ((tn : Int) == (node : Int)) = false := aV.2 ah
  have C := K
  rw [aI s] at C
  have z4 := eJ s
  have x2 : Hid (∀ k, (if jc fr ls i k tn = true then gW (h.mm tn).m node T else jj (h.mm tn).m node fr (iX fr ls i tn k)) = jj (h.mm tn).m node fr (iX fr ls i tn (k + 1))) := eJ (fun k => EC (fun f X => by
   cases gr : ok
   ·have := Y.out.no gr; rw [this] at X; cases X
   ·obtain ⟨f', e, h1, -⟩ := Y.out.yes gr
    rw [e] at X; cases X; exact h1) _ _ _ _ _ k)
  have aA : jj (h.mm tn).m node fr (iX fr ls i tn 0) = 0 := by unfold iX jj; cases fr <;> rfl
  clear K s
  go_wp2_with fail
  go_loopw [36, 332] (fun v36 Z wr => ∃ k : Nat, k ≤ 2 ∧ Z = .int .i64 k ∧ v36 = .int .i64 (jj (h.mm tn).m node fr (iX fr ls i tn k)) ∧ Hid (iJ w0 wr base g p ⟨.slice E p.sl.length cs, .slice AL p.lk.length cl, q⟩ fy (fG p tn i fr ls h k) M W1 bs)) (fun _ v _ => 2 - (intOf v).toNat)
  case atStart => exact ⟨0, ah, rfl, by rw [aA], eJ (by unfold fG; exact is.out)⟩
  case round =>
   obtain ⟨k, hk, rfl, rfl, I⟩ := hrel
   by_cases HZ : k < 2
   ·have r3 := eJ (mN em.out tn i fr ls k)
    have a0 : (fG p tn i fr ls h k).mm = h.mm := mS p tn i fr ls h k
    have ck := eJ (x2.out k)
    have mt := eJ (zR p tn i fr ls h k)
    obtain ⟨O, u⟩ := ab (jj (h.mm tn).m node fr (iX fr ls i tn k))
    rw [u] at ck ⊢
    have oi := eJ (H2.out.ch tn i fr ls k)
    obtain ⟨c2, f7⟩ := ab (fG p tn i fr ls h k)
    rw [f7] at I r3 mt oi a0
    have C2 := eJ a0
    clear u f7 a0 ap aA
    go_upto_block 15 with fail
    refine F2 w0 wr W1 I.out tf.out r3.out ah oi.out AR.out h0 A c1 z ls xu.out H1.out E7.out xj.out j a4.out node tn i k b6 st a2.out am ac hi HZ fr ok T lk sq d zz Y.out xq.out O (fun v37 ot v40 v41 lm sB n9 e5 pi rx vj jp go d6 ce kp n7 hH hT hL c7 s0 cu g6 s1 rg oA pa nr b7 mK xb ps t8 q9 o5 m4 km c6 n4 c0 i3 os gc gd hC wx ip ex un wv pl ft gq g8 j3 pu k5 wy m2 hw l6 t3 e2 cb wB cx r8 g4 qq i1 p2 hy c3 ro hv qr te q0 hr m3 b2 l4 d4 ea nA pn hg t4 f3 om i9 fd hE t7 r9 ww w' a3 => ?_)
    rw [mt.out] at a3
    have HV := eJ a3
    rw [C2.out, ck.out]
    clear a3
    go_wp2_with fail
    go_roundw
    case rel => exact ⟨k + 1, ah, aq, rfl, HV⟩
    case measure => simp [intOf]; omega
   ·obtain rfl : k = 2 := ah
    obtain ⟨J, on, mp, gm, cr, Lh, vq⟩ := I.out.PJ tf.out (mN em.out tn i fr ls 2) ah ac
    have ap : wr.cell? ⟨j, 0, none⟩ = some (.int .i64 node) := (I.out.eW a4.out a2.out).cell 0
    obtain ⟨O, u⟩ := ab (jj (h.mm tn).m node fr (iX fr ls i tn 2))
    have aa := D5 (h.mm tn).m node fr (iX fr ls i tn 2)
    have hJ := eJ (nN p node tn i fr ls h)
    rw [u] at aa hJ ⊢
    have v7 : Hid (∀ U, Calls prog 84 #[.pointer (some ⟨gm, 0, none⟩), .int .i64 node, .int .i64 O] (wr.drewN U) fun e w' => e = .returned (.tuple #[]) ∧ Hid (iJ w0 w' base g p ⟨.slice E p.sl.length cs, .slice AL p.lk.length cl, q⟩ fy (je p node tn i fr ls h) M W1 bs) ∧ (w'.cell? ⟨g, 12, none⟩ = some (.slice (some ⟨J, on, none⟩) p.nd.toNat mp) ∧ w'.cell? ⟨J, on + tn, none⟩ = some (.pointer (some ⟨gm, 0, none⟩)) ∧ w'.cell? ⟨j, 0, none⟩ = some (.int .i64 node))) := eJ (fun U => by
     refine (vq (wr.drewN U) node O (below_drewN (au) U) am (fun e => z4.out e.symm) aa).mono ?_
     rintro e w' ⟨rfl, h1, h2, h3⟩
     exact ⟨rfl, eJ (by rw [hJ.out]; exact h1), h2, h3, (h1.eW a4.out a2.out).cell 0⟩)
    obtain ⟨nd, d3⟩ : ∃ nd, p.nd.toNat = nd := ⟨_, rfl⟩
    rw [d3] at cr v7 ac
    clear u aa vq d3 aA d0 am
    go_wp2_with fail
    go_region_held3 (fun w' => w'.cell? ⟨g, 12, none⟩ = some (.slice (some ⟨J, on, none⟩) nd mp) ∧ w'.cell? ⟨J, on + tn, none⟩ = some (.pointer (some ⟨gm, 0, none⟩)) ∧ w'.cell? ⟨j, 0, none⟩ = some (.int .i64 node)) (first | exact ⟨cr, Lh, ap⟩ | exact al.out)
     (first | (go_at_call 84; go_must (refine (v7.out 1).mono ?_); rintro e w7 ⟨rfl, xi, al⟩; replace al := eJ al))
    go_wp2_with fail
    exact C.out _ xi.out
end
section
attribute [local irreducible] fu
section
variable {w0 w w' w1:World}{base g:Nat}{p:Pl}{P:lz}{fy M:Nat}{c:Cl}{bs:List Nat}
def OI(now:Int)(l:Lk)(s:Sd):Sd:={s with nw:=DC (px now s.la s.nw l.b s.q.length) now s.nw}
def Nr(now:Int)(s:Sd):Sd:=⟨if s.nx+1=256 then 1 else s.nx+1,now,now,s.q.tail⟩
theorem iJ.PB(h:iJ w0 w base g p P fy c M w1 bs)(hp:gl p)(hM:M<1000){k:Nat}{l:Lk}(hl:p.lk[k]? =some l): ∃b off cp gs,w.cell? ⟨g,13,none⟩=some (.slice (some ⟨b,off,none⟩) p.lk.length cp)/\w.cell? ⟨b,off+k,none⟩=some (.pointer (some ⟨gs,0,none⟩))/\(∀W now,Below w.heap.size w W->Calls prog 81 #[.pointer (some ⟨gs,0,none⟩),.int .i64 now] W fun e w'=>((px now (c.sd k).la (c.sd k).nw l.b (c.sd k).q.length≠0/\e=.returned (.tuple #[.int .i64 0,.string ⟨#[]⟩,.int .i64 (px now (c.sd k).la (c.sd k).nw l.b (c.sd k).q.length)])/\iJ w0 w' base g p P fy {c with sd:=eV c.sd k (OI now l (c.sd k))} M w1 bs)\/(px now (c.sd k).la (c.sd k).nw l.b (c.sd k).q.length=0/\e=.returned (.tuple #[.int .i64 (c.sd k).nx,.string ((c.sd k).q.headD ⟨#[]⟩),.int .i64 0])/\iJ w0 w' base g p P fy {c with sd:=eV c.sd k (Nr now (c.sd k))} M w1 bs))/\w'.cell? ⟨g,13,none⟩=some (.slice (some ⟨b,off,none⟩) p.lk.length cp)/\w'.cell? ⟨b,off+k,none⟩=some (.pointer (some ⟨gs,0,none⟩))):=by
 obtain⟨a,rfl,h2,h3,h4,h5⟩:=h;have j:k<p.lk.length:=(aQ.1 hl).1;have a9:=hp.link k l hl;obtain⟨b,off,cp,e,J⟩:=h2.EL (k:=k) (show k<(eO p).ns from j);obtain⟨-,-,-,-,-,-,-,-,-,-,E,-⟩:=gg h2.gA;rw[e] at E;have z:=h2.rel.sd k j;have O:=h2.rel.al k j;have aa:(eM base a (eO p) p P fy c (.lnk k)).eX=a.gs k::(a.vs k).ownBlock.toList:=by have:k<(eO p).ns:=j;simp[eM,this,hl,GO.snd]
 have ao:a.g∈(eM base a (eO p) p P fy c .im).eX:=by simp[eM,GO.eW]
 have a3:b∈(eM base a (eO p) p P fy c .lnkA).eX:=by simp[eM,GO.arr,e,Value.ownBlock]
 have ac: ¬a.g∈a.gs k::(a.vs k).ownBlock.toList:=fun hm=>absurd (h2.gJ.sep (.lnk k) .im a.g (by rw[aa];exact hm) ao) ak;have a4: ¬b∈a.gs k::(a.vs k).ownBlock.toList:=fun hm=>absurd (h2.gJ.sep (.lnk k) .lnkA b (by rw[aa];exact hm) a3) ak;refine⟨b,off,cp,a.gs k,E,J,fun W now hB=> ?_⟩;have s:=h2.below hB;have Y:=h3.trans (hB.mono h4);have C:=aK h4 hB.size;have T: ∀b∈bs,b<W.heap.size/\¬wM (eM base a (eO p) p P fy c) b/\W.heap[b]? =w1.heap[b]? :=fun b I=>⟨aN (h5 b I).1 hB.size,(h5 b I).2.1,(hB.block b (h5 b I).1).trans (h5 b I).2.2⟩;have U:=(hB.cell (p:=⟨a.g,13,none⟩) (aG _ _ E)).trans E;have X:=(hB.cell (p:=⟨b,off+k,none⟩) (aG _ _ J)).trans J;have Z: ∀w',ka W w' (a.gs k::(a.vs k).ownBlock.toList)->w'.cell? ⟨a.g,13,none⟩=some (.slice (some ⟨b,off,none⟩) p.lk.length cp)/\w'.cell? ⟨b,off+k,none⟩=some (.pointer (some ⟨a.gs k,0,none⟩)):=fun w' hk=>⟨(fj (hk.block a.g (aG _ _ U) ac) 13).trans U,(fj (hk.block b (aG _ _ X) a4) (off+k)).trans X⟩;obtain⟨n1,a7,a5,a6⟩:=s.OJ (show k<(eO p).ns from j) hl;have he:=z.err now l.b;refine(EO (a.gs k) base l.b l.q (a.vs k) (a.wt k) (a.ls k) (c.sd k).nw (a.al k) W now _ (eJ he) n1 a7 a6 a5 z.h0 ah ah z.hw).mono ?_;rintro r w' (⟨ad,rfl,u⟩|⟨h0,d,hd,rfl,u⟩)
 ·have hk:ka W w' (a.gs k::(a.vs k).ownBlock.toList):=by obtain⟨v',am,ap,K,aA⟩:=u;exact K.KN
  exact⟨.inl ⟨ad,rfl,.vB rfl s Y C T (s.J1 (show k<(eO p).ns from j) hl (OI now l (c.sd k)) u z.none_ (ar) O C)⟩,Z w' hk⟩
 ·have hk:ka W w' (a.gs k::(a.vs k).ownBlock.toList):=by obtain⟨v',am,ap,K,aA⟩:=u;exact K.KN
  obtain⟨d',bb,hq,a2,a8,a0,hrel⟩:=z.goes h0;rw[a2] at hd;cases hd;exact⟨.inr ⟨h0,by rw[hq,a0];rfl,.vB rfl s Y C T (s.J1 (show k<(eO p).ns from j) hl (Nr now (c.sd k)) u (by show lg _ _ _ _ (c.sd k).q.tail _ _;rw[hq];exact hrel) (ar) O C)⟩,Z w' hk⟩
end
end
section
variable {w0 w w1:World}{base g:Nat}{p:Pl}{P:lz}{fy M:Nat}{c:Cl}{bs:List Nat}
theorem iJ.QS(h:iJ w0 w base g p P fy c M w1 bs)(hp:gl p)(hM:M<1000){k:Nat}{l:Lk}(hl:p.lk[k]? =some l): ∃b off cp gs,w.cell? ⟨g,13,none⟩=some (.slice (some ⟨b,off,none⟩) p.lk.length cp)/\w.cell? ⟨b,off+k,none⟩=some (.pointer (some ⟨gs,0,none⟩))/\∀W(d:ByteArray),Below w.heap.size w W->d.size<=maxLen->Calls prog 32 #[.pointer (some ⟨gs,0,none⟩),.string d] W fun e w'=>e=.returned (.int .i64 (jg d.size (c.sd k).q.length l.q))/\iJ w0 w' base g p P fy (mT k l d c) (M+1) w1 bs/\w'.cell? ⟨g,13,none⟩=some (.slice (some ⟨b,off,none⟩) p.lk.length cp)/\w'.cell? ⟨b,off+k,none⟩=some (.pointer (some ⟨gs,0,none⟩)):=by
 obtain⟨a,rfl,h2,h3,h4,h5⟩:=h;have j:k<p.lk.length:=(aQ.1 hl).1;obtain⟨b,off,cp,e,z⟩:=h2.EL (k:=k) (show k<(eO p).ns from j);obtain⟨-,-,-,-,-,-,-,-,-,-,s,-⟩:=gg h2.gA;rw[e] at s;have I:=h2.rel.sd k j;have a0:=h2.rel.al k j;have T:(eM base a (eO p) p P fy c (.lnk k)).eX=a.gs k::(a.vs k).ownBlock.toList:=by have:k<(eO p).ns:=j;simp[eM,this,hl,GO.snd]
 have X:a.g∈(eM base a (eO p) p P fy c .im).eX:=by simp[eM,GO.eW]
 have Y:b∈(eM base a (eO p) p P fy c .lnkA).eX:=by simp[eM,GO.arr,e,Value.ownBlock]
 have U: ¬a.g∈a.gs k::(a.vs k).ownBlock.toList:=fun hm=>absurd (h2.gJ.sep (.lnk k) .im a.g (by rw[T];exact hm) X) ak;have Z: ¬b∈a.gs k::(a.vs k).ownBlock.toList:=fun hm=>absurd (h2.gJ.sep (.lnk k) .lnkA b (by rw[T];exact hm) Y) ak;refine⟨b,off,cp,a.gs k,s,z,fun W d hB hd=> ?_⟩;have E:=h2.below hB;have C:=aK h4 hB.size;have J:=(hB.cell (p:=⟨a.g,13,none⟩) (aG _ _ s)).trans s;have K:=(hB.cell (p:=⟨b,off+k,none⟩) (aG _ _ z)).trans z;obtain⟨n1,am,ac,ad⟩:=E.OJ (show k<(eO p).ns from j) hl;refine(I0 (a.gs k) base l.b l.q (a.vs k) (a.wt k) (a.ls k) (c.sd k).nw (a.al k) W d (jg d.size (c.sd k).q.length l.q) (eJ (by rw[I.len])) n1 am ad ac C hd ah I.hw).mono ?_;rintro r w' ⟨rfl,O⟩;have hk:ka W w' (a.gs k::(a.vs k).ownBlock.toList):=by obtain⟨v',ao,ap,aa,aA⟩:=O;exact aa.KN
 refine⟨rfl,.vB rfl E (h3.trans (hB.mono h4)) C (fun b u=>⟨aN (h5 b u).1 hB.size,(h5 b u).2.1,(hB.block b (h5 b u).1).trans (h5 b u).2.2⟩) (E.J1 (show k<(eO p).ns from j) hl {c.sd k with q:=lu (c.sd k).q d (jg d.size (c.sd k).q.length l.q)} O (I.put d _) (aw) ?_ C),(fj (hk.block a.g (aG _ _ J) U) 13).trans J,(fj (hk.block b (aG _ _ K) Z) (off+k)).trans K⟩;unfold lu;split
 ·simp;omega
 ·omega
end
theorem lO(n:Int)(h0:-9223372036854775808<=n)(h1:n<=9223372036854775807):(fR n).size<=21:=by have:=Lib.itoa_length_le n h0 h1;show(Lib.itoa n).toArray.size<=21;simpa using this
theorem uS(p:Addr)(w:World):CallsD prog 20 #[.pointer (some p)] .returning w fun e h w'=>e=.returned (.tuple #[])/\h=.returning/\w'=w:=by refine callsD_of_wpS func20 rfl fun j cs hu=> ?_;simp only[ntmps20,ba,aP,bh,Nat.reduceAdd,Nat.reduceSub,cN,cM,db,cU,bQ,bE];apply wpS_seq;apply wpS_region;simp[wpOpsS,go_sem,recoverD,hu,Exit.thenS];refine wpS_of_wp ?_;go_wp2_with fail;exact⟨rfl,.returning,by rw[<-hu],_,eE rfl _ _ _,rfl,rfl,rfl⟩
theorem tl(h:Nat)(s:ByteArray)(n:Int)(j:List PanicEntry)(w:World)(K:gY w)(J:eN w h 9 #[.string s])(h0:-9223372036854775808<=n)(h1:n<=9223372036854775807):CallsD prog 20 #[.pointer (some ⟨h,0,none⟩)] (.panicking ({v:=.iface 70 (.agg #[.int .i64 n]),recovered:=false}::j)) w fun e U w'=>e=.returned (.tuple #[])/\U=.panicking ({v:=.iface 70 (.agg #[.int .i64 n]),recovered:=true}::j)/\∃w2,Below w.heap.size w w2/\w'=w2.setCell ⟨h,0,none⟩ (.string (oh n)):=by
 refine callsD_of_wpS func20 rfl fun Y cs hu=> ?_;simp only[ntmps20,ba,aP,bh,Nat.reduceAdd,Nat.reduceSub,cN,cM,db,cU,bQ,bE];apply wpS_seq;apply wpS_region;simp[wpOpsS,go_sem,recoverD,hu,Exit.thenS];refine wpS_of_wp ?_;have T:=eJ (fun W hB=>jz n W (K.next hB) h0 h1);have z:=eJ J;have X: ∀(E:TypeId)(W:World),(Instr.typeAssert (.iface 70 (.agg #[.int .i64 n])) E 70 true).run prog W=.ok (.tuple #[.agg #[.int .i64 n],.bool true]) W:=fun E W=>ai;clear K J;go_wp2_with fail;have u:Hid (Below w.heap.size w (w.alloc (.cells #[.int .i64 n] 70))):=eJ ((au).alloc (ar) _);refine(T.out _ u.out).mono ?_;rintro r w2 ⟨rfl,O⟩;have I:=eJ (u.out.trans (O.mono u.out.size));have C:=z.out.below I.out z.out.lt;have c0:=C.cells1;have Z: ¬9223372036854775807<6+(fR n).size:=by have:=lO n h0 h1;omega
 clear O C;go_wp2_with fail;exact⟨rfl,.panicking ({v:=.iface 70 (.agg #[.int .i64 n]),recovered:=true}::j),rfl,_,eE rfl _ _ _,rfl,rfl,w2,I.out,rfl⟩
section
variable {m k:Nat}{w0 w w1:World}{g:Nat}{d:Dk}{L:Lh}{v:Value}{l:List Int}
theorem B6(h:jF m k w0 w w1 g d L v l)(A:Option Addr)(ws:List ByteArray)(c:Nat)(hn:eU ws 1=some l):Calls prog 15 #[.pointer (some ⟨g,0,none⟩),.string ⟨#[109,101,109,98,101,114,115]⟩,.slice A ws.length c,v] w1 (mx m w0 w g L (jG d ws)):=by
 obtain⟨C,gk,cp,rfl,rfl,a4,bx,bd⟩:=Db h.own ((fg hn).1 ah);cases hd:d.c with
  |none=>have u:=eJ (h.bad (x:=jG d ws) ((eL hn).trans (fZ hd)) aj ⟨#[]⟩ (au));exact(lU ak (h.none_ hd) _ _).mono (by rintro r w2 ⟨rfl,rfl⟩;exact u.out)
  |some y=>
   obtain⟨gc,M,bs,b2,hM,aa,bb,hG,ap,a3,a6⟩:=h.dk.DK (fy:=y.1) (c:=y.2) hd h.hB h.lt;have jk:=h.some_ bb;obtain⟨U,z,am,a5,a0,aA⟩:=h.ok.im y hd;have hp:=gl.of U;have bw:=hp.n1;have bk:=hp.n16;have bi:=h.hk;have bm:=h.hm;obtain⟨nd,T⟩: ∃nd,d.p.nd.toNat=nd:=⟨_,rfl⟩;have E:d.p.nd=(nd:Int):=ah;have bl:nd<=16:=ah;obtain⟨ck,bn,bt,tm,pm,ac⟩:=hG.cells;obtain⟨a2,-⟩:=gg ac;by_cases X:C<0\/d.p.nd<=C
   ·have j:Hid (jG d ws=⟨.error 2,d⟩):=eJ ((eL hn).trans ((fF hd).trans (aM X)));have Y:=eJ (sQ C 0 ((nd:Int)-1) false (by simp[ij];omega));have u:=eJ (fun W (hB:Below w1.heap.size w1 W)=>h.bad j.out aj ⟨#[]⟩ hB);rw[E] at a2;clear ap a3 a6 aa hG ac U z am a5 a0 aA hp h hn j E T;go_enter func15,ntmps15;go_wp2_with fail;go_quiet ((go_at_call 31;with_reducible exact bc (Y.out _)));go_wp2_with fail;go_ret2;exact u.out _ (below_drewN (au) nq)
   ·obtain⟨i,rfl⟩:=aZ (show 0<=C from ah);have bq:i<nd:=ah;have bz:i<17:=ah;have j:Hid (jG d ws=⟨.ok (if(y.2.mm i).fz then fR ((y.2.mm i).m:Nat)++⟨#[32,102,114,111,122,101,110]⟩ else fR ((y.2.mm i).m:Nat)),d⟩):=eJ ((eL hn).trans ((fF hd).trans (aI X)));have Y:=eJ (sQ (i:Int) 0 ((nd:Int)-1) true (by simp[ij];omega));obtain⟨b,off,cp,gm,s,K,-,-,-,ad,Z⟩:=hG.xh hp z ah aa (i:=i) ah;obtain⟨B,J⟩:=ab ((y.2.mm i).m);obtain⟨F,hF⟩:=ab ((y.2.mm i).fz);have bv:B<65536:=by rw[<-J];exact(z.mm i).1
    rw[J,hF] at j;rw[J] at ad;rw[hF] at Z;rw[E] at a2;rw[show d.p.nd.toNat=nd from T] at s;have a7:=eJ ad;have I:Hid (∀W,Below w1.heap.size w1 W->W.cell? ⟨gc,12,none⟩=some (.slice (some ⟨b,off,none⟩) nd cp)/\W.cell? ⟨b,off+i,none⟩=some (.pointer (some ⟨gm,0,none⟩))/\W.cell? ⟨gk,0,none⟩=some (.int .i64 (i:Nat))/\W.cell? ⟨gm,5,none⟩=some (.bool F)):=eJ (fun W hB=>⟨(hB.cell (p:=⟨gc,12,none⟩) (aG _ _ s)).trans s,(hB.cell (p:=⟨b,off+i,none⟩) (aG _ _ K)).trans K,(hB.cell (p:=⟨gk,0,none⟩) bd).trans a4,Z W hB⟩);have a9:=eJ (fun W (hB:Below w1.heap.size w1 W)=>qN (B:Nat) W (h.jK hB) ah ah);have u:=eJ (fun W (hB:Below w1.heap.size w1 W)=>mx.fe j.out (h.to hB));have b3: ¬9223372036854775807<(fR (B:Nat)).size+7:=by have:=lO (B:Nat) ah ah;omega
    clear ap a3 a6 aa hG ac U z am a5 a0 aA hp h hn j E T ad J hF X s K Z;go_enter func15,ntmps15;go_wp2_with fail;go_quiet ((go_at_call 31;with_reducible exact bc (Y.out _)));obtain⟨a8,al⟩:=ab (w1.drewN nq);have e:Hid (Below w1.heap.size w1 a8.drew):=eJ (by rw[<-al];exact below_drewN (below_drewN (au) nq) 1);rw[al];clear al;go_wp2_with fail;have be:=eJ (a9.out _ e.out);have bf:=I.out _ e.out;go_region_held3 (fun W=>W.cell? ⟨gc,12,none⟩=some (.slice (some ⟨b,off,none⟩) nd cp)/\W.cell? ⟨b,off+i,none⟩=some (.pointer (some ⟨gm,0,none⟩))/\W.cell? ⟨gk,0,none⟩=some (.int .i64 (i:Nat))/\W.cell? ⟨gm,5,none⟩=some (.bool F)) (first|exact bf|exact I.out _ (e.out.alloc e.out.size _)|exact I.out _ O.out) (first|(go_at_call 36;go_must (refine(a7.out _ e.out).mono ?_);rintro r w5 ⟨rfl,rfl⟩)|(go_at_call 16;go_must (refine be.out.mono ?_);rintro r w6 ⟨rfl,ao⟩;have O:=eJ (e.out.trans (ao.mono e.out.size));clear ao));all_goals obtain⟨s,K,a4,bj⟩:=I.out _ O.out;cases F;all_goals go_wp2_with fail;go_region;go_wp2_with fail;go_ret2;exact u.out _ (below_drewN O.out 1)
theorem Nw(h:jF m k w0 w w1 g d L v l)(A:Option Addr)(ws:List ByteArray)(c:Nat)(hw:Kb w1 A ws)(bj: ∀a,A=some a->¬L.S.F a.block)(b4:(ws.getD 1 ⟨#[]⟩).size<=100000)(be:ws.length=2)(hn:eU (ws.take 1) 1=some l):Calls prog 15 #[.pointer (some ⟨g,0,none⟩),.string ⟨#[112,117,116]⟩,.slice A ws.length c,v] w1 (mx m w0 w g L (oG d ws)):=by
 obtain⟨j,gk,cp,rfl,rfl,a9,cc,bq⟩:=Db h.own ((fg hn).1 ah);have C:oG d ws=nc d fun fy c=>if j<0 then⟨.error 2,d⟩ else match d.p.lk[j.toNat]? with|none=>⟨.error 2,d⟩|some l=>rA (jg (ws.getD 1 ⟨#[]⟩).size (c.sd j.toNat).q.length l.q) ⟨#[112,117,116]⟩ {d with c:=some (fy,mT j.toNat l (ws.getD 1 ⟨#[]⟩) c)}:=(aI ah).trans (eL hn);cases hd:d.c with
  |none=>have am:=eJ (h.bad (x:=oG d ws) (C.trans (fZ hd)) aj ⟨#[]⟩ (au));exact(lU ak (h.none_ hd) _ _).mono (by rintro r w2 ⟨rfl,rfl⟩;exact am.out)
  |some y=>
   obtain⟨gc,M,bs,ci,hM,ac,bl,hG,a4,U,a0⟩:=h.dk.DK (fy:=y.1) (c:=y.2) hd h.hB h.lt;have jk:=h.some_ bl;obtain⟨Z,a3,a2,bd,a6,a5⟩:=h.ok.im y hd;have hp:=gl.of Z;have cb:=hp.n1;have b6:=hp.n16;have b5:=h.hk;have b7:=h.hm;obtain⟨nl,K⟩:=ab d.p.lk.length;have cd:=hp.lk;have ch:nl<=8:=ah;obtain⟨t,b3⟩:=ab (ws.getD 1 ⟨#[]⟩);obtain⟨I,z,rfl,s⟩:=hw 1 ah;rw[b3] at s C b4;have ca:=be;rw[be];obtain⟨ck,b8,bt,tm,pm,al⟩:=hG.cells;obtain⟨-,-,-,-,-,-,-,-,-,-,T,-⟩:=gg al;have bf: ∃A cp,bt=.slice A nl cp:=by obtain⟨a,rfl,hA2,-⟩:=hG;obtain⟨-,-,-,-,-,-,-,-,-,-,O,-⟩:=gg hA2.gA;rw[T] at O;cases O;obtain⟨A,cp,e,-⟩:=fK.shape (hA2.gJ.at_ .lnkA);rw[aY,br] at e;exact⟨A,cp,by rw[e];show Value.slice A d.p.lk.length cp=_;rw[K]⟩
   obtain⟨ce,Y,rfl⟩:=bf;by_cases bm:j<0\/(nl:Int)<=j
   ·have u:Hid (oG d ws=⟨.error 2,d⟩):=eJ (by
     rw[C,fF hd];by_cases h0:j<0
     ·rw[aM h0]
     ·rw[aI h0,bS ah])
    have aa:=eJ (sQ j 0 ((nl:Int)-1) false (by simp[ij];omega));have am:=eJ (fun W (hB:Below w1.heap.size w1 W)=>h.bad u.out aj ⟨#[]⟩ hB);clear a4 U a0 ac hG al Z a3 a2 bd a6 a5 hp h hn u K C hw s;go_enter func15,ntmps15;go_wp2_with fail;go_quiet ((go_at_call 31;with_reducible exact bc (aa.out _)));go_wp2_with fail;go_ret2;exact am.out _ (below_drewN (au) nq)
   ·obtain⟨i,rfl⟩:=aZ (show 0<=j from ah);have b9:i<nl:=ah;obtain⟨lk,ad⟩: ∃lk,d.p.lk[i]? =some lk:=⟨_,aF ah⟩;have u:Hid (oG d ws=rA (jg t.size (y.2.sd i).q.length lk.q) ⟨#[112,117,116]⟩ {d with c:=some (y.1,mT i lk t y.2)}):=eJ (by rw[C,fF hd,aI ah,bU,ad]);have aa:=eJ (sQ (i:Int) 0 ((nl:Int)-1) true (by simp[ij];omega));have bb:=U gk ah (fun hF=>by have:=(h.dk.lo (.inr (.inr hF))).2;omega);have a7:=U I (aG _ _ s) (bj ⟨I,z,none⟩ rfl);obtain⟨b,off,cp,gs,O,ao,J⟩:=hG.QS hp ah ad;rw[T,K] at O;cases O;obtain⟨E,X⟩:=ab (jg t.size (y.2.sd i).q.length lk.q);replace J:=fun W (hB:Below w1.heap.size w1 W)=>J W t hB (by simp[maxLen];omega);rw[X] at u;simp only[X] at J;have bk:Hid (∀W,Below w1.heap.size w1 W->Calls prog 32 #[.pointer (some ⟨gs,0,none⟩),.string t] W fun e w'=>e=.returned (.int .i64 E)/\Hid (mx m w0 w g L (oG d ws) (.returned (.tuple #[.string ⟨#[112,117,116]⟩,.int .i64 E])) w')/\Hid (w'.cell? ⟨gc,13,none⟩=some (.slice (some ⟨b,off,none⟩) nl Y)/\w'.cell? ⟨b,off+i,none⟩=some (.pointer (some ⟨gs,0,none⟩))/\w'.cell? ⟨gk,0,none⟩=some (.int .i64 (i:Nat))/\w'.cell? ⟨I,z+1,none⟩=some (.string t))):=eJ (fun W hB=>by refine(J W hB).mono ?_;rintro e w' ⟨rfl,ap,bx,bw⟩;refine⟨rfl,eJ (mx.rA u.out (a0 w' _ _ _ ah ac ap)),eJ ⟨?_,bw,(fj (ap.heap bb) 0).trans a9,(fj (ap.heap a7) (z+1)).trans s⟩⟩;rw[bx,K]);have bz:Hid (∀W,Below w1.heap.size w1 W->W.cell? ⟨gc,13,none⟩=some (.slice (some ⟨b,off,none⟩) nl Y)/\W.cell? ⟨b,off+i,none⟩=some (.pointer (some ⟨gs,0,none⟩))/\W.cell? ⟨gk,0,none⟩=some (.int .i64 (i:Nat))/\W.cell? ⟨I,z+1,none⟩=some (.string t)):=eJ (fun W hB=>⟨(hB.cell (p:=⟨gc,13,none⟩) (aG _ _ T)).trans T,(hB.cell (p:=⟨b,off+i,none⟩) (aG _ _ ao)).trans ao,(hB.cell (p:=⟨gk,0,none⟩) bq).trans a9,(hB.cell (p:=⟨I,z+1,none⟩) (aG _ _ s)).trans s⟩);clear a4 U a0 ac hG al Z a3 a2 bd a6 a5 hp h hn u K C hw J X ad bm ao s bb a7;go_enter func15,ntmps15;go_wp2_with fail;go_quiet ((go_at_call 31;with_reducible exact bc (aa.out _)));obtain⟨bi,aA⟩:=ab (w1.drewN nq);have a8:Hid (Below w1.heap.size w1 bi.drew):=eJ (by rw[<-aA];exact below_drewN (below_drewN (au) nq) 1);rw[aA];clear aA;go_wp2_with fail;have b2:=bz.out _ a8.out;go_region_held3 (fun W=>W.cell? ⟨gc,13,none⟩=some (.slice (some ⟨b,off,none⟩) nl Y)/\W.cell? ⟨b,off+i,none⟩=some (.pointer (some ⟨gs,0,none⟩))/\W.cell? ⟨gk,0,none⟩=some (.int .i64 (i:Nat))/\W.cell? ⟨I,z+1,none⟩=some (.string t)) (first|exact b2|exact bv.out) (first|(go_at_call 32;go_must (refine(bk.out _ a8.out).mono ?_);rintro r w6 ⟨rfl,bn,bv⟩));all_goals go_wp2_with fail;go_ret2;exact bn.out
end
end Go.Proofs.YtideefjnlakciaaGreatDoor
