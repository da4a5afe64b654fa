/- The contracts of the commands of the document's house: clocks, spread, members; conditions: the house and the numbers lie in memory. -/
import Derived.Test.YtideefjnlakciaaGreatDoorQ00
import Derived.Test.YtideefjnlakciaaGreatDoorQ20
import Derived.Test.YtideefjnlakciaaGreatDoorQ21
import Derived.Test.YtideefjnlakciaaGreatDoorQ23
import Derived.Deep.RegionHeld3
import Derived.Deep.RegionLaw
import Derived.BigRegion
set_option maxRecDepth 1000000
set_option maxHeartbeats 20000000
set_option linter.unusedVariables false
set_option linter.unusedSimpArgs false
namespace Go.Proofs.YtideefjnlakciaaGreatDoor
open Go.RowKit Go.Proofs.Tryz
section
variable {m k:Nat}{w0 w w1:World}{g:Nat}{d:Dk}{L:Lh}{v:Value}{l:List Int}
theorem F6{p:Pl}{fy N:Nat}{c:Cl}{R:Int}(hp:gl p)(C:gH p N c)(J:(jY fy p.nd.toNat:Int)<=p.fa)(h:mq (fP fy c.ck c.ck.length) (fP fy c.ck c.ck.length).length 0 R):R=C9 p fy c/\0<=R/\R<=549755813888:=by
 rw[C.len] at h;obtain⟨q,hq,I⟩:=oU hp J;have h0:=qm c.ck hq I;have E: ∀j,j<(fP fy c.ck p.nd.toNat).length->-274877906944<=(fP fy c.ck p.nd.toNat).getD j 0/\(fP fy c.ck p.nd.toNat).getD j 0<=274877906944:=fun j z=>vw (P:=fun x=> -274877906944<=x/\x<=274877906944) (fun i _=>C.ck i) _ (ke z);have key: ∀x y,x<(fP fy c.ck p.nd.toNat).length->y<(fP fy c.ck p.nd.toNat).length->R=(fP fy c.ck p.nd.toNat).getD x 0-(fP fy c.ck p.nd.toNat).getD y 0->R=C9 p fy c/\0<=R/\R<=549755813888:=fun x y u s e=>⟨yD.eq ⟨_,_,e,⟨⟨x,u,rfl⟩,fun j z=>by have:=h.le j y z s;omega⟩,⟨⟨y,s,rfl⟩,fun j z=>by have:=h.le x j u z;omega⟩⟩,by have:=h.h0;omega,by have:=E x u;have:=E y s;omega⟩;rcases h.is with h1|⟨x,y,u,s,h1⟩
 ·exact key 0 0 h0 h0 ah
 ·exact key x y u s h1
theorem Ey(h:jF m k w0 w w1 g d L v l)(A:Option Addr)(ws:List ByteArray)(c:Nat)(hn:eU ws 0=some l):Calls prog 15 #[.pointer (some ⟨g,0,none⟩),.string ⟨#[99,108,111,99,107,115]⟩,.slice A ws.length c,v] w1 (mx m w0 w g L (lX d ws)):=by obtain⟨a2,cv,rfl,-⟩:=gK h.own;cases hd:d.c with|none=>have u:=eJ (h.bad (x:=lX d ws) ((eL hn).trans (fZ hd)) aj ⟨#[]⟩ (au));exact(lU ak (h.none_ hd) _ _).mono (by rintro r w2 ⟨rfl,rfl⟩;exact u.out)|some y=>obtain⟨gc,M,bs,ap,hM,aa,K,hG,ac,al,Z⟩:=h.dk.DK (fy:=y.1) (c:=y.2) hd h.hB h.lt;have jk:=h.some_ K;have J:Hid (lX d ws=⟨.ok (sw y.2.ck),d⟩):=eJ ((eL hn).trans (fF hd));obtain⟨E,s,ad,U,O,am⟩:=h.ok.im y hd;have hp:=gl.of E;have a4:=hp.n1;have a3:=hp.n16;have a0:=h.hk;have aA:=h.hm;obtain⟨a,rfl,z,-⟩:=hG;obtain⟨b,off,cp,e,C⟩:=z.Ke s.len ah;obtain⟨-,-,-,-,-,-,-,-,T,-⟩:=gg z.gA;rw[e] at T;have I:=eJ (Bg (some ⟨b,off,none⟩) cp y.2.ck w1 (h.jK (au)) C (by rw[s.len];omega) (by rw[s.len];omega) (fun x ao=>by obtain⟨j,rfl⟩:=xR ao;have:=s.ck j;omega));rw[s.len] at I;have u:=eJ (fun W (hB:Below w1.heap.size w1 W)=>mx.fe J.out (h.to hB));clear ac al Z aa z C E s ad U O am hp e h hn J;go_enter func15,ntmps15;go_wp2_with fail;refine I.out.mono ?_;rintro r w6 ⟨rfl,X⟩;have Y:=eJ (u.out _ X);go_wp2_with fail;go_ret2;exact Y.out
theorem FZ(h:jF m k w0 w w1 g d L v l)(A:Option Addr)(ws:List ByteArray)(c:Nat)(hn:eU ws 0=some l):Calls prog 15 #[.pointer (some ⟨g,0,none⟩),.string ⟨#[115,112,114,101,97,100]⟩,.slice A ws.length c,v] w1 (mx m w0 w g L (lW d ws)):=by obtain⟨bd,cv,rfl,-⟩:=gK h.own;cases hd:d.c with|none=>have u:=eJ (h.bad (x:=lW d ws) ((eL hn).trans (fZ hd)) aj ⟨#[]⟩ (au));exact(lU ak (h.none_ hd) _ _).mono (by rintro r w2 ⟨rfl,rfl⟩;exact u.out)|some y=>obtain⟨gc,M,bs,a8,hM,a0,ac,hG,I,a5,ap⟩:=h.dk.DK (fy:=y.1) (c:=y.2) hd h.hB h.lt;have jk:=h.some_ ac;have E:Hid (lW d ws=⟨.ok (fR (C9 d.p y.1 y.2)),d⟩):=eJ ((eL hn).trans (fF hd));obtain⟨O,s,a2,X,U,a7⟩:=h.ok.im y hd;have hp:=gl.of O;have bf:=hp.n1;have be:=hp.n16;have bb:=h.hk;have a9:=h.hm;obtain⟨a,rfl,C,-⟩:=hG;obtain⟨b,off,cp,e,K⟩:=C.Ke s.len ah;have z:=C.gA;rw[e,<-s.len] at z;obtain⟨V,J⟩:=ab (C9 d.p y.1 y.2);rw[J] at E;have a6:Hid (Calls prog 35 #[.pointer (some ⟨a.g,0,none⟩)] w1 fun e w'=>e=.returned (.int .i64 V)/\(0<=V/\V<=549755813888)/\Below w1.heap.size w1 w'):=eJ ((zx z X K (by rw[s.len];omega) (fun j _=>by have:=s.ck j;omega)).mono (fun r w' ⟨⟨R,al,I⟩,hB⟩=>by obtain⟨Z,a4,am⟩:=F6 hp s U I;rw[J] at Z;subst Z;exact⟨al,⟨a4,am⟩,hB⟩));have aA:=eJ (fun W (hB:Below w1.heap.size w1 W) (aa:0<=V/\V<=549755813888)=>qN V W (h.jK hB) ah ah);have u:=eJ (fun W (hB:Below w1.heap.size w1 W)=>mx.fe E.out (h.to hB));clear I a5 ap a0 C K O s a2 X U a7 hp e h hn E z J;go_enter func15,ntmps15;go_wp2_with fail;refine a6.out.mono ?_;rintro r w5 ⟨rfl,aa,Y⟩;have T:=eJ Y;have a3:=eJ (aA.out _ Y aa);go_wp2_with fail;refine a3.out.mono ?_;rintro r w6 ⟨rfl,ad⟩;have ao:=eJ (u.out _ (T.out.trans (ad.mono T.out.size)));go_wp2_with fail;go_ret2;exact ao.out
end
theorem zm{B:Nat}{w:World}{v:Value}{n:Nat}{e:TypeId}{xs:List Value}(h:w.ownsRow B e 1 v n xs)(hn:0<n): ∃g9 c9,v=.slice (some ⟨g9,0,none⟩) n c9/\∀b,v.ownBlock=some b->b<w.heap.size/\B<=b:=by obtain⟨g9,c9,rfl,s,j⟩:=h.form hn;refine⟨g9,c9,rfl,fun b e=> ?_⟩;have:g9=b:=bg e;subst this;exact⟨j,s⟩
theorem uu{B:Nat}{w W w':World}{v:Nat}(h:Below B w W)(j:W.grownBy w' (Value.slice (some ⟨v,0,none⟩) 0 0).ownBlock)(s:B<=v)(hs:B<=w.heap.size):Below B w w':=h.grown j (aK hs h.size) (fun k e=>by simp[Value.ownBlock] at e;omega)
theorem um{w W w':World}{v:Value}{n:Nat}{e:TypeId}{xs:List Value}(h:Below w.heap.size w W)(s:W.ownsRow w.heap.size e 1 v n xs)(j:W.grownBy w' v.ownBlock):Below w.heap.size w w':=h.grown j h.size (lF s)
def tq (n:Nat):Code→Option Code
 |.region m ops b=>if m==n then some (.region m ops b) else none
 |.block _ c=>tq n c
 |.seq a b=>match tq n a with
  |some c=>some c
  |none=>tq n b
 |.loop c=>tq n c
 |.scope c=>tq n c
 |.cond _ a b=>match tq n a with
  |some c=>some c
  |none=>tq n b
 |_=>none
noncomputable def Qh(n:Nat):Code:=(f34.body.bind (tq n)).getD .skip
theorem GZ {Q:Exit→Act→World→Prop} (w0 w W1:World) {base g:Nat} {p:Pl} {P:lz} {fy:Nat} {c:Cl} {M:Nat} {bs:List Nat} (z5:base≤w.heap.size) (k i pm m cp:Nat) (ao:Option Addr) (d:ByteArray) (hm:m<16) (hd:d.size≤40) (hlen:(c.pr k i).q.length=m)
 (j:w.cell? ⟨g,15,none⟩=some (.map (some pm))) (Y:fK w base 9 (.slice ao m cp) (sv (c.pr k i).q))
 (r2: ∀W v',Below w.heap.size w W→(∀b,v'.ownBlock=some b→b<W.heap.size∧w.heap.size≤b)→∃a0,(Instr.mapUpdate 99 (.map (some pm)) (.agg #[.int .i64 (k:Int),.int .i64 (i:Int)]) v').run prog W=.ok () a0∧a0.cell? ⟨g,15,none⟩=some (.map (some pm))∧∀x:Pr,fK W base 9 v' (sv x.q)→iJ w0 a0 base g p P fy {c with pr:=fM c.pr k i x} M W1 bs)
 {s0 bn ez kt o2 s4 i4 tT p1 lc bx d9 vc f7 j2 n2 qn c3 hc vm ib hR e9 t2 cA hl ge mt oq kp jp q0 n7 hN j3 bw os es r3 o0 pl t0 iM sm wy fc g8 ft k7 c4 hn e3 st j7 n8 kn ip em mI hh fn kN m2 o4 v6 l3 bz f1 hT pa q3 rr oi g7 oo l4 ww cc en d3 hU c0 i5 nr t6 dd p8 ca pn m5 mK r8 hs ob m6 hD eg eq wo cx gr xc b9 hr hy q4 g6 hV bq l2 n1 pd ul k3 hX ss mv hC ck kA t9 i6 n6 kq ol m3 gd vp dt l0 j9 ow q7 k6 hA hx nA hJ hk lw ii oz j5 li xd po cm i2 hg hS e0 eb lr p4 dl of ls c5 tm q1 tf rn wk ih p9 kx i9 k9 lm dk m4 r4 el e7 iT bt sb cV i1 et gm cr t4 iA p3 op qr ds b4 te me vx de i3 gs v3 pi no f8 r6 mp tn q9 s3 sG er kE us f9 ce ci d8 wb l5 hQ m0 rp sn vv d6 sE wz hL qq ut d0 e5 wd n0 cS o3 wv i7 oA xb lj k1 hv v4 f6 d4 or wt v7 qx vq d7 m7 pu k5 f2 sl fd hI tA hB o6 kk ts pw b6 hO b7 hW mE k4 gi g3 mU n5 rx k2 sB f4 r7 cj uv hK s2 hM q5 cb co jv kf iS mA d5 j8 pv e8 cv vs p6 e1 m1 ei e6 m8 ct ty ha ps p2 pp fl wx o5 go mb rt sD hG se hE r5 it iQ e2 vi l6 om un o1 pj hj t1 he wA sc ms up wf l1 xl ro k8 ch n4 kw t3 hz hb rc pk wq p5 hw ne sa k0 is xi gf rg tv f3 kb n9 ml f5 wl io sf tO bv q8 j6 p7 on nh q6 cu xj xf hP ev ho j0 cn e4 hf vj ht r0 j4 s1 ea wB q2 le i8 ta oL t8 hH v0 nn c6 kD gz km m9 o9 b8 n3 hY t7 b5 xn x2 x7 y0 xt x5 y5 xv zz z0 z6 z1 x9 sz cd lb c8 r9 hp gw j1 g5 fp d1 gc v9 wn gq pe oj p0 ex iB b3 v5 d2 g4 c7:Value}
 (xu: ∀(x0 y9 y8 yy xs z4 x6 ys y4 x8 y6 yv y3:Value) (w':World),iJ w0 w' base g p P fy {c with pr:=fM c.pr k i ((c.pr k i).put d)} M W1 bs→Q .normal ⟨#[.pointer (some ⟨g,0,none⟩),s0,bn,ez,kt,o2,s4,i4,tT,p1,lc,bx,d9,vc,f7,j2,n2,qn,c3,hc,vm,ib,hR,e9,t2,cA,hl,.int .i64 (k:Int),ge,.string d,mt,oq,kp,jp,q0,.int .i64 (i:Int),n7,hN,j3,bw,os,.slice ao m cp,es,r3,o0,pl,t0,iM,sm,wy,fc,g8,ft,k7,c4,hn,e3,st,j7,n8,kn,ip,em,mI,hh,fn,kN,m2,o4,v6,l3,bz,f1,hT,pa,q3,rr,oi,g7,oo,l4,ww,cc,en,d3,hU,c0,i5,nr,t6,dd,p8,ca,pn,m5,mK,r8,hs,ob,m6,hD,eg,eq,wo,cx,gr,xc,b9,hr,hy,q4,g6,hV,bq,l2,n1,pd,ul,k3,hX,ss,mv,hC,ck,kA,t9,i6,n6,kq,ol,m3,gd,vp,dt,l0,j9,ow,q7,k6,hA,hx,nA,hJ,hk,lw,ii,oz,j5,li,xd,po,cm,i2,hg,hS,e0,eb,lr,p4,dl,of,ls,c5,tm,q1,tf,rn,wk,ih,p9,kx,i9,k9,lm,dk,m4,r4,el,e7,iT,bt,sb,cV,i1,et,gm,cr,t4,iA,p3,op,qr,ds,b4,te,me,vx,de,i3,gs,v3,pi,no,f8,r6,mp,tn,q9,s3,sG,er,kE,us,f9,ce,ci,d8,wb,l5,hQ,m0,rp,sn,vv,d6,sE,wz,hL,qq,ut,d0,e5,wd,n0,cS,o3,wv,i7,oA,xb,lj,k1,hv,v4,f6,d4,or,wt,v7,qx,vq,d7,m7,pu,k5,f2,sl,fd,hI,tA,hB,o6,kk,ts,pw,b6,hO,b7,hW,mE,k4,gi,g3,mU,n5,rx,k2,sB,f4,r7,cj,uv,hK,s2,hM,q5,cb,co,jv,kf,iS,mA,d5,j8,pv,e8,cv,vs,p6,e1,m1,ei,e6,m8,ct,ty,ha,ps,p2,pp,fl,wx,o5,go,mb,rt,sD,hG,se,hE,r5,it,iQ,e2,vi,l6,om,un,o1,pj,hj,t1,he,wA,sc,ms,up,wf,l1,xl,ro,k8,ch,n4,kw,t3,hz,hb,rc,pk,wq,p5,hw,ne,sa,k0,is,xi,gf,rg,tv,f3,kb,n9,ml,f5,wl,io,sf,tO,bv,q8,j6,p7,on,nh,q6,cu,xj,xf,hP,ev,ho,j0,cn,e4,hf,vj,ht,r0,j4,s1,ea,wB,q2,le,i8,ta,oL,t8,hH,v0,nn,c6,kD,gz,km,m9,o9,b8,n3,hY,t7,b5,x0,y9,y8,yy,xs,z4,x6,ys,y4,x8,y6,yv,y3,sz,cd,lb,c8,r9,hp,gw,j1,g5,fp,d1,gc,v9,wn,gq,pe,oj,p0,ex,iB,b3,v5,d2,g4,c7],[]⟩ w'):
 Code.wp prog (Qh 76) Q ⟨#[.pointer (some ⟨g,0,none⟩),s0,bn,ez,kt,o2,s4,i4,tT,p1,lc,bx,d9,vc,f7,j2,n2,qn,c3,hc,vm,ib,hR,e9,t2,cA,hl,.int .i64 (k:Int),ge,.string d,mt,oq,kp,jp,q0,.int .i64 (i:Int),n7,hN,j3,bw,os,.slice ao m cp,es,r3,o0,pl,t0,iM,sm,wy,fc,g8,ft,k7,c4,hn,e3,st,j7,n8,kn,ip,em,mI,hh,fn,kN,m2,o4,v6,l3,bz,f1,hT,pa,q3,rr,oi,g7,oo,l4,ww,cc,en,d3,hU,c0,i5,nr,t6,dd,p8,ca,pn,m5,mK,r8,hs,ob,m6,hD,eg,eq,wo,cx,gr,xc,b9,hr,hy,q4,g6,hV,bq,l2,n1,pd,ul,k3,hX,ss,mv,hC,ck,kA,t9,i6,n6,kq,ol,m3,gd,vp,dt,l0,j9,ow,q7,k6,hA,hx,nA,hJ,hk,lw,ii,oz,j5,li,xd,po,cm,i2,hg,hS,e0,eb,lr,p4,dl,of,ls,c5,tm,q1,tf,rn,wk,ih,p9,kx,i9,k9,lm,dk,m4,r4,el,e7,iT,bt,sb,cV,i1,et,gm,cr,t4,iA,p3,op,qr,ds,b4,te,me,vx,de,i3,gs,v3,pi,no,f8,r6,mp,tn,q9,s3,sG,er,kE,us,f9,ce,ci,d8,wb,l5,hQ,m0,rp,sn,vv,d6,sE,wz,hL,qq,ut,d0,e5,wd,n0,cS,o3,wv,i7,oA,xb,lj,k1,hv,v4,f6,d4,or,wt,v7,qx,vq,d7,m7,pu,k5,f2,sl,fd,hI,tA,hB,o6,kk,ts,pw,b6,hO,b7,hW,mE,k4,gi,g3,mU,n5,rx,k2,sB,f4,r7,cj,uv,hK,s2,hM,q5,cb,co,jv,kf,iS,mA,d5,j8,pv,e8,cv,vs,p6,e1,m1,ei,e6,m8,ct,ty,ha,ps,p2,pp,fl,wx,o5,go,mb,rt,sD,hG,se,hE,r5,it,iQ,e2,vi,l6,om,un,o1,pj,hj,t1,he,wA,sc,ms,up,wf,l1,xl,ro,k8,ch,n4,kw,t3,hz,hb,rc,pk,wq,p5,hw,ne,sa,k0,is,xi,gf,rg,tv,f3,kb,n9,ml,f5,wl,io,sf,tO,bv,q8,j6,p7,on,nh,q6,cu,xj,xf,hP,ev,ho,j0,cn,e4,hf,vj,ht,r0,j4,s1,ea,wB,q2,le,i8,ta,oL,t8,hH,v0,nn,c6,kD,gz,km,m9,o9,b8,n3,hY,t7,b5,xn,x2,x7,y0,xt,x5,y5,xv,zz,z0,z6,z1,x9,sz,cd,lb,c8,r9,hp,gw,j1,g5,fp,d1,gc,v9,wn,gq,pe,oj,p0,ex,iB,b3,v5,d2,g4,c7],[]⟩ w:=by
 obtain⟨q,hq⟩: ∃q,(c.pr k i).q=q:=⟨_,rfl⟩
 have X:(sv q).length=m:=by rw[jL,←hq];exact hlen
 have z3:=eJ xu;have aA:=eJ r2
 rw[hq] at Y
 have b2:sv ((c.pr k i).put d).q=sv q++[.string d]:=by rw[LZ _ _ hd ah,hq,tS]
 have z7:=eJ b2
 obtain⟨i0,hi,U,T,O⟩:=eR rJ
 have C:=aG _ _ j
 have r1:=eJ (Below.refl w.heap.size w)
 have al:=eN.new w 9 #[]
 have Ad:=eN.new w 9 #[.string d]
 have ot:=eN.new (w.alloc (.cells #[] 9)) 9 #[.string d]
 have bk:=eN.new (w.alloc (.cells #[.string d] 9)) 9 #[]
 have a5:(w.alloc (.cells #[] 9)).heap.size=w.heap.size+1:=ak
 have a6:(w.alloc (.cells #[.string d] 9)).heap.size=w.heap.size+1:=ak
 rw[a5] at ot
 rw[a6] at bk
 have ac:=eJ (r1.out.alloc (ar) (.cells #[] 9))
 have t5:=eJ (r1.out.alloc (ar) (.cells #[.string d] 9))
 have ap:=eJ (ac.out.alloc (by rw[a5];omega) (.cells #[.string d] 9))
 have am:=eJ (t5.out.alloc (by rw[a6];omega) (.cells #[] 9))
 have xT:=eJ (qZ al (ar))
 have z9:=eJ (qZ (al.alloc (.cells #[.string d] 9)) (ar))
 have y7:=eJ (qZ bk (aU w.heap.size))
 have Ar:=eJ (Y.below ac.out (ar))
 have xq:=eJ (Y.below ap.out (ar))
 have xo:=eJ (Y.below am.out (ar))
 have z2:=(ac.out.cell (p:=⟨g,15,none⟩) C).trans j
 have xm:=(t5.out.cell (p:=⟨g,15,none⟩) C).trans j
 have An:=(ap.out.cell (p:=⟨g,15,none⟩) C).trans j
 have x3:=(am.out.cell (p:=⟨g,15,none⟩) C).trans j
 have bl:Hid (∀u∈sv q,u.oneCell'=true):=eJ (fun u hu=>by obtain⟨x,_,rfl⟩:=cX.1 hu;rfl)
 have bf:Hid (∀u∈sv [d],u.oneCell'=true):=eJ (fun u hu=>by obtain⟨x,_,rfl⟩:=cX.1 hu;rfl)
 have be:Hid (0+(sv q).length≤maxLen):=eJ (by rw[X];unfold maxLen;omega)
 have a7:Hid ((0+(sv q).length)*16≤140737488355328):=eJ (by rw[X];omega)
 have bj:Hid (0+(sv q).length+(sv [d]).length≤maxLen):=eJ (by rw[X];unfold maxLen;simp[sv];omega)
 have bd:Hid ((0+(sv q).length+(sv [d]).length)*16≤140737488355328):=eJ (by rw[X];simp[sv];omega)
 have Av:=eJ al;have At:=eJ X
 clear a5 a6 b2 r2 Y hlen hq X bk al
 conv=>arg 2;whnf
 go_region_held3 (fun w'=>w'.cell? ⟨g,15,none⟩=some (.map (some pm))) (first|exact j|exact z2|exact xm|exact An|exact x3|exact a3|exact x4|exact bm|exact bb|fail)
  (first
   |(refine ja _ (by rfl) (.tmp 421) (.tmp 422) _ (by rfl) w.heap.size 9 i0 _ 16 underlying52 hi U T O rfl (.slice (some ⟨w.heap.size,0,none⟩) 0 0) 0 [] (by rfl) (by exact xT.out) base (.slice ao m cp) (sv q) (by rfl) (by exact Ar.out) bl.out be.out a7.out (by exact ac.out.size) ?_;intro v1 w8 e h z;have I:=uu ac.out (jN h) ah (ar);have K:=eJ e;have s:=eJ I;have y2:=eJ (eN.new w8 9 #[.string d]);have a2:=eJ (s.out.alloc s.out.size (.cells #[.string d] 9));have dg:=eJ (K.out.alloc (.cells #[.string d] 9));have x4:=(a2.out.cell (p:=⟨g,15,none⟩) C).trans j;have Z:=eJ s.out.size;have a3:=(s.out.cell (p:=⟨g,15,none⟩) C).trans j;clear e h z I)
   |(refine ja _ (by rfl) (.tmp 421) (.tmp 422) _ (by rfl) w.heap.size 9 i0 _ 16 underlying52 hi U T O rfl (.slice (some ⟨w.heap.size,0,none⟩) 0 0) 0 [] (by rfl) (by exact z9.out) base (.slice ao m cp) (sv q) (by rfl) (by exact xq.out) bl.out be.out a7.out (by exact ap.out.size) ?_;intro v1 w8 e h z;have I:=uu ap.out (jN h) ah (ar);have K:=eJ e;have s:=eJ I;have a8:=eJ (ot.grown (jN h) (by simp[Value.ownBlock]));have Z:=eJ (aU w.heap.size);have a3:=(s.out.cell (p:=⟨g,15,none⟩) C).trans j;clear e h z I)
   |(refine ja _ (by rfl) (.tmp 421) (.tmp 422) _ (by rfl) w.heap.size 9 i0 _ 16 underlying52 hi U T O rfl (.slice (some ⟨w.heap.size+1,0,none⟩) 0 0) 0 [] (by rfl) (by exact y7.out) base (.slice ao m cp) (sv q) (by rfl) (by exact xo.out) bl.out be.out a7.out (by exact am.out.size) ?_;intro v1 w8 e h z;have I:=uu am.out (jN h) ah (ar);have K:=eJ e;have s:=eJ I;have a8:=eJ ((Ad.alloc (.cells #[] 9)).grown (jN h) (by simp[Value.ownBlock]));have Z:=eJ (aC w.heap.size);have a3:=(s.out.cell (p:=⟨g,15,none⟩) C).trans j;clear e h z I)
   |(refine ja _ (by rfl) (.tmp 423) (.tmp 425) _ (by rfl) w.heap.size 9 i0 _ 16 underlying52 hi U T O rfl v1 (0+(sv q).length) ([]++sv q) (by rfl) (by exact dg.out) w.heap.size (.slice (some ⟨w8.heap.size,0,none⟩) 1 1) (sv [d]) (by rfl) (by exact yL y2.out Z.out) bf.out bj.out bd.out (by exact a2.out.size) ?_;intro v2 aa e h z;rw[bB,bQ] at e;have E:=um a2.out dg.out h;obtain⟨g9,c9,rfl,ad⟩:=zm e (aN Nat.one_pos (Nat.le_add_left _ _));obtain⟨a9,g0,bb,J⟩:=aA.out aa _ E ad;have bi:=eJ e;have a4:=eJ J;have bm:=(E.cell (p:=⟨g,15,none⟩) C).trans j;clear e h z E J)
   |(refine ja _ (by rfl) (.tmp 423) (.tmp 425) _ (by rfl) w.heap.size 9 i0 _ 16 underlying52 hi U T O rfl v1 (0+(sv q).length) ([]++sv q) (by rfl) (by exact K.out) w.heap.size (.slice (some ⟨w.heap.size+1,0,none⟩) 1 1) (sv [d]) (by rfl) (by exact yL a8.out Z.out) bf.out bj.out bd.out (by exact s.out.size) ?_;intro v2 aa e h z;rw[bB,bQ] at e;have E:=um s.out K.out h;obtain⟨g9,c9,rfl,ad⟩:=zm e (aN Nat.one_pos (Nat.le_add_left _ _));obtain⟨a9,g0,bb,J⟩:=aA.out aa _ E ad;have bi:=eJ e;have a4:=eJ J;have bm:=(E.cell (p:=⟨g,15,none⟩) C).trans j;clear e h z E J)
   | (refine ja _ (by rfl) (.tmp 423) (.tmp 425) _ (by rfl) w.heap.size 9 i0 _ 16 underlying52 hi U T O rfl v1 (0 + (sv q).length) ([] ++ sv q) (by rfl) (by exact K.out) w.heap.size (.slice (some ⟨w.heap.size, 0, none⟩) 1 1) (sv [d]) (by rfl) (by exact yL a8.out Z.out) bf.out bj.out bd.out (by exact s.out.size) ?_; intro v2 aa e h z; rw [bB, bQ] at e; have E := um s.out K.out h; obtain ⟨g9, c9, rfl, ad⟩ := zm e (aN Nat.one_pos (Nat.le_add_left _ _)); obtain ⟨a9, g0, bb, J⟩ := aA.out aa _ E ad; have bi := eJ e; have a4 := eJ J; have bm := (E.cell (p := ⟨g, 15, none⟩) C).trans j; clear e h z E J))
 all_goals exact z3.out _ _ _ _ _ _ _ _ _ _ _ _ _ a9 (a4.out _ (by rw[z7.out];exact fK.s6 bi.out z5))
end Go.Proofs.YtideefjnlakciaaGreatDoor
