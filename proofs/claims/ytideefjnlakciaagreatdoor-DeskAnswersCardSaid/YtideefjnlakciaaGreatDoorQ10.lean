/- The contract of cluster.Cluster.loads; conditions: the cluster lies in memory, its numbers are small. -/
import Derived.Test.YtideefjnlakciaaGreatDoorQ00
import Derived.Test.YtideefjnlakciaaGreatDoorQ09
import Derived.Test.YtideefjnlakciaaGreatDoorQ05
import Derived.Test.YtideefjnlakciaaGreatDoorQ04
import Derived.Test.YtideefjnlakciaaGreatDoorQ01
import Derived.Laws.MakeOwn
set_option maxRecDepth 1000000
set_option maxHeartbeats 20000000
set_option linter.unusedVariables false
set_option linter.unusedSimpArgs false
namespace Go.Proofs.YtideefjnlakciaaGreatDoor
open Go.RowKit Go.Proofs.Tryz
open Go.RowKit Go.Proofs.Tryz
open Go.RowKit Go.Proofs.Tryz
section
attribute [local irreducible] px DC
theorem fx.iI{w:World}{base:Nat}{S:Ix->Ob}(h:fx w base S){p:Addr}(hp: ¬py S p.block)(v:Value):fx (w.setCell p v) base S:=⟨fun x=>(h.at_ x).iP (fun k _ hm=>aW w p v k (by rintro rfl;exact hp ⟨x,hm⟩)),fun x k hm=>⟨(h.own x k hm).1,by simpa[World.setCell] using (h.own x k hm).2⟩,h.sep⟩
theorem fV.iU{w w':World}{S S':Ix->Ob}(h:fV w w' S S'){p:Addr}(hp:w.heap.size<=p.block)(v:Value):fV w (w'.setCell p v) S S':=⟨h.os,h.tape,h.output,by simpa[World.setCell] using h.size,fun i hi hn=>(aW w' p v i (by rintro rfl;omega)).trans (h.block i hi hn),h.gJ⟩
theorem fV.drew{w w':World}{S S':Ix->Ob}(h:fV w w' S S'):fV w w'.drew S S':=⟨h.os,h.tape,h.output,h.size,h.block,h.gJ⟩
theorem OV{W w0:World}{A:Option Addr}{n B:Nat}{ws:List Sl}(h:fN w0 A n ws)(hw:w0.heap.size<=B)(hB:Below B w0 W):fN W A n ws:=fun j u=>by obtain⟨b,off,e,x,h1,h2,h3,h4⟩:=h j u;have s:b<B:=aN (aG _ _ h2) hw;exact⟨b,off,e,x,h1,(hB.cell (p:=⟨b,_,none⟩) s).trans h2,(hB.cell (p:=⟨b,_,none⟩) s).trans h3,(hB.cell (p:=⟨b,_,none⟩) s).trans h4⟩
theorem NX{R pr f:Int}(h0:0<=R)(h1:R<=7000)(h2:1<=pr)(h3:pr<=137438953472)(h4:0<=f)(h5:f<=137438953472):0<=R*pr/\R*pr<=962072674304000/\0<=R*pr+f/\R*pr+f<=1000000000000000:=by have a:0<=R*pr:=eI h0 ah;have b:R*pr<=7000*137438953472:=Int.mul_le_mul h1 h3 ah ah;omega
def PR(c:Cl):Prop:= ∀k,0<=(c.sd k).nx/\(c.sd k).nx<=255/\-1<=(c.sd k).la/\(c.sd k).la<=1099511627776/\(c.sd k).q.length<=16/\∀d∈(c.sd k).q,d.size<=40
theorem wj(tmps:Array Value)(w:World)(g:Nat)(a b c d e f:Value)(h2:tmps[4]? =some (.pointer (some ⟨g,0,none⟩)))(C:eN w g 269 #[a,b,c,d,e,f]):(results f177 tmps).run prog w=.ok (.agg #[a,b,c,d,e,f]) w:=by obtain⟨u,E,s,j,h,z,_⟩:=C.gN;simp[results,results177,go_sem,h2,u,E,s,j,h,z]
theorem zA {now node:Int} {l:Lk} {ls:List Lk} {k:Nat} {c:Cl} (h:l.f≠node):eZ now node (l::ls) k c=eZ now node ls (k+1) c:=by
 conv=>lhs;unfold eZ
 rw[aI h]
theorem Fc {now node:Int} {l:Lk} {ls:List Lk} {k:Nat} {c:Cl} (h:l.f=node) (h0:px now (c.sd k).la (c.sd k).nw l.b (c.sd k).q.length=0):eZ now node (l::ls) k c=({c with sd:=eV c.sd k ⟨if(c.sd k).nx+1=256 then 1 else(c.sd k).nx+1,now,now,(c.sd k).q.tail⟩},((k:Int),(c.sd k).nx,(c.sd k).q.headD ⟨#[]⟩)):=by
 conv=>lhs;unfold eZ
 rw[aM h,aM h0]
theorem Fa {now node:Int} {l:Lk} {ls:List Lk} {k:Nat} {c:Cl} (h:l.f=node) (h0:px now (c.sd k).la (c.sd k).nw l.b (c.sd k).q.length≠0):eZ now node (l::ls) k c=eZ now node ls (k+1) {c with sd:=eV c.sd k {c.sd k with nw:=DC (px now (c.sd k).la (c.sd k).nw l.b (c.sd k).q.length) now (c.sd k).nw}}:=by
 conv=>lhs;unfold eZ
 rw[aM h,aI h0]
theorem N0{now la nw bag:Int}{n:Nat}(h:px now la nw bag n=0):n≠0:=by
 rintro rfl;unfold px at h;repeat' split at h
 all_goals first|(exact absurd h aj)|skip
 rename_i h1;exact h1 (.inl rfl)
theorem CR{α:Type}(f:Nat->α)(k:Nat)(v:α):eV f k v k=v:=by simp[eV]
theorem IQ{α:Type}(f:Nat->α){k j:Nat}{v:α}(h:j≠k):eV f k v j=f j:=by simp[eV,h]
theorem Li{α:Type}{l:List α}{k:Nat}{x:α}(h:l[k]? =some x):l.drop k=x::l.drop (k+1):=by have e:k<l.length:=(aQ.1 h).1;rw[cy e];congr 1;rw[aF e] at h;exact bg h
theorem Ev{base:Nat}{a:Ad}{p:Pl}{P:lz}{fy:Nat}{c:Cl}{N:Nat}(w:World){K:World->(Ix->Ob)->Prop}(bm:MW K)(cn AL:Option Addr)(cs cl:Nat)(c3:P.s=.slice cn p.sl.length cs)(cr:P.l=.slice AL p.lk.length cl)(h:fW w base a (eO p) p P fy c)(hp:gl p)(ce:gH p N c)(cv:c.rd<=7000)(cV: ∀W S,K W S->fN W cn p.sl.length p.sl)(cS: ∀W S,K W S->fA W AL p.lk.length p.lk)(cd:K w (shape a (eO p) p P fy c))(d8:base<=w.heap.size)(node slot mb:Nat)(s:Sl)(hs:p.sl[slot]? =some s):Calls prog 177 #[.pointer (some ⟨a.g,0,none⟩),.agg #[.int .i64 node,.int .i64 slot,.int .i64 mb,.int .i64 (-1),.int .i64 0,.string ⟨#[]⟩]] w fun e w'=>e=.returned (.agg #[.int .i64 node,.int .i64 slot,.int .i64 mb,.int .i64 (eZ (c.rd*p.rd+s.f) node p.lk 0 c).2.1,.int .i64 (eZ (c.rd*p.rd+s.f) node p.lk 0 c).2.2.1,.string (eZ (c.rd*p.rd+s.f) node p.lk 0 c).2.2.2])/\iG w base a (eO p) p P fy c w' (eZ (c.rd*p.rd+s.f) node p.lk 0 c).1:=by
 have ao:=NX ce.rd cv hp.rd.1 hp.rd.2 (hp.slot slot s hs).2.2.1 (hp.slot slot s hs).2.2.2;obtain⟨w2,aA⟩:=ab ((w.alloc (.cells #[.int .i64 node,.int .i64 slot,.int .i64 mb,.int .i64 (-1),.int .i64 0,.string ⟨#[]⟩] 269)).alloc (.cells #[.int .i64 0,.int .i64 0,.int .i64 0,.int .i64 0,.int .i64 0,.string ⟨#[]⟩] 269));have a4:Below w.heap.size w w2:=by rw[<-aA];exact((Below.refl w.heap.size w).alloc (ar) _).alloc ak _
 have cm:eN w2 w.heap.size 269 #[.int .i64 node,.int .i64 slot,.int .i64 mb,.int .i64 (-1),.int .i64 0,.string ⟨#[]⟩]:=by rw[<-aA];exact(eN.new w _ _).alloc _
 have co:eN w2 (w.heap.size+1) 269 #[.int .i64 0,.int .i64 0,.int .i64 0,.int .i64 0,.int .i64 0,.string ⟨#[]⟩]:=by rw[<-aA];have:=eN.new (w.alloc (.cells #[.int .i64 node,.int .i64 slot,.int .i64 mb,.int .i64 (-1),.int .i64 0,.string ⟨#[]⟩] 269)) 269 #[.int .i64 0,.int .i64 0,.int .i64 0,.int .i64 0,.int .i64 0,.string ⟨#[]⟩];rw[bX] at this;exact this
 have bv:=eJ (fV.fC (S:=shape a (eO p) p P fy c) a4);have ez:=eJ (h.ky (aC w.heap.size));have d6:=eJ (h.ky (aU w.heap.size));have cb:=eJ (h.below a4);have ei:=eJ bm;have cA:=eJ (bm.step cd bv.out);have ev:=aK d8 a4.size;have ds:=eJ (iG.refl cb.out (Below.refl w2.heap.size w2));obtain⟨G,hG⟩:=ab a.g;rw[hG];obtain⟨dk,ea,eq,e1,d4,ct,bi,dg,b6⟩:=cb.out.ru hG;have el:=eJ aA;have bf:=eJ cm;have c5:=eJ co;have e5:=eJ hp;have ex:=eJ ce;have d5:=eJ cS;have c8:=eJ cV;have dt:=eJ cr;have d3:=eJ c3;have d9:=eJ hG;clear aA cm co h cr c3 hG cS cV cd bm a4;obtain⟨R,bn⟩:=ab c.rd;obtain⟨pr,bx⟩:=ab p.rd;obtain⟨e9,b7,st⟩:=s;dsimp only at ao⊢;rw[bn,bx] at ao⊢;rw[bn] at b6;rw[bx] at ct;obtain⟨M,hM⟩:=ab (R*pr);obtain⟨now,bw⟩:=ab (M+b7);rw[hM,bw] at ao⊢;have fd:IntKind.i64.wrap (R*pr)=M:=by rw[hM];exact cJ _ ah
 have f6:IntKind.i64.wrap (M+b7)=now:=by rw[bw];exact cJ _ ah
 obtain⟨bs,os,et,f4,ci,_,ch,_⟩:=(c8.out _ _ cA.out) slot (aQ.1 hs).1;have d2:=(aQ.1 hs).1;rw[hs] at ci;cases ci;dsimp only at ch;rw[d3.out,et] at bi;obtain⟨ns,cx⟩:=ab p.sl.length;rw[cx] at bi d2;obtain⟨nl,a6⟩:=ab p.lk.length;rw[dt.out,a6] at dg;have dd:=hp.lk;rw[a6] at dd;obtain⟨t0,t1,t2,t3,t4,t5,_⟩:=bf.out.gN;have X:=eJ a6;have e6:=ao.1;clear hM bw bn bx hs cx a6 ao cv;go_enter func177,ntmps177;go_wp2_with fail;rw[el.out];go_quiet (fail);clear dk ea eq e1 d4 ct bi b6 ch t0 t1 t2 t3 t4 t5;go_wp2_with fail;go_loopw [38] (fun i wr=> ∃(k:Nat) (ck:Cl),k<=nl/\i=.int .i64 k/\Hid (eN wr w.heap.size 269 #[.int .i64 node,.int .i64 slot,.int .i64 mb,.int .i64 (-1),.int .i64 0,.string ⟨#[]⟩])/\Hid (eN wr (w.heap.size+1) 269 #[.int .i64 0,.int .i64 0,.int .i64 0,.int .i64 0,.int .i64 0,.string ⟨#[]⟩])/\Hid (eZ now node p.lk 0 c=eZ now node (p.lk.drop k) k ck)/\Hid (PR ck)/\Hid (iG w2 base a (eO p) p P fy c wr ck)) (fun i _=>nl-(intOf i).toNat);case atStart=>exact⟨0,c,ah,rfl,eJ (bf.out.drewN _),eJ (c5.out.drewN _),eJ rfl,eJ ex.out.sd,eJ (ds.out.below (below_drewN (au) _))⟩
 case round=>
  obtain⟨k,ck,hk,rfl,O,T,a7,bl,c7⟩:=hrel;obtain⟨J,a9,b9,Y⟩:=c7.out;have ca:base<=wr.heap.size:=aK ev Y.size;have dl:=eJ (ei.out.step cA.out Y);have c4:=eJ b9;have bz:=eJ Y;have bd:=eJ (Y.not bf.out.lt ez.out);have C:=eJ (Y.not c5.out.lt d6.out);clear b9 Y;by_cases ap:k<nl
  ·obtain⟨fn,ol,em,u,bt,f0,f1,f2,f3⟩:=(d5.out _ _ dl.out) k (by rw[X.out];exact ap);rw[em];have be:=eJ bt;have b5:=eJ (Li bt);clear bt;obtain⟨t0,t1,t2,t3,t4,t5,_⟩:=O.out.gN;have a2:=O.out.lt;by_cases ac:u.f=node
   ·have d1:(u.f !=(node:Int))=false:=by simpa using ac
    have a0:=eJ (c4.out.alloc (.cells #[.int .i64 u.f,.int .i64 u.t,.int .i64 u.b,.int .i64 u.q] 88));obtain⟨fp,fl,f5,c0,b4⟩:=a0.out.Pb (a9.trans d9.out) X.out ap;obtain⟨gs,a8⟩: ∃gs,J.gs k=gs:=⟨_,rfl⟩;rw[a8] at b4;have bk:=a0.out.Pd (k:=k) (by show k<p.lk.length;rw[X.out];exact ap) be.out;rw[a8] at bk;have I:=eJ bk;have cj:=eJ a8;have E:=bl.out k;have cu:=eJ ac;clear bk a8 ac;obtain⟨a5,b8⟩:=ab (px now (ck.sd k).la (ck.sd k).nw u.b (ck.sd k).q.length);have U:=eJ b8;clear b8;by_cases h00:a5=0
    ·subst h00;have bj:=N0 U.out;obtain⟨d,q,al⟩: ∃d q,(ck.sd k).q=d::q:=by cases e:(ck.sd k).q with|nil=>rw[e] at bj;exact absurd rfl bj|cons d q=>exact⟨d,q,rfl⟩
     have er:=eJ al;have eg:Hid (px now (ck.sd k).la (ck.sd k).nw u.b (q.length+1)=0):=eJ (by have:=U.out;rw[al] at this;exact this);have e7:q.length<=15:=by have:=E.2.2.2.2.1;rw[al,aP] at this;omega
     rw[al] at I;have bq:=eJ (Ip (lf:=u.f) (lt:=u.t) gs base u.b u.q (J.vs k) (ck.sd k).nx (ck.sd k).la (ck.sd k).nw q _ now d eg I.out.1 I.out.2.1 I.out.2.2.2 I.out.2.2.1 ⟨E.2.2.1,E.2.2.2.1⟩ ⟨E.1,E.2.1⟩ ah);clear al bj;go_wp2_with fail;refine bq.out.mono ?_;rintro e w5 ⟨rfl,aa⟩;obtain⟨v,ad,z⟩:=a0.out.Oz (k:=k) (by show k<p.lk.length;rw[X.out];exact ap) be.out ⟨if(ck.sd k).nx+1=256 then 1 else(ck.sd k).nx+1,now,now,q⟩ (by rw[cj.out];exact aa) (aK ca ak);have b2:=eJ ad;have b3:=eJ ((bz.out.below ((au).alloc (ar) (.cells #[.int .i64 u.f,.int .i64 u.t,.int .i64 u.b,.int .i64 u.q] 88))).trans z);have a3:=eJ (z.eW (O.out.alloc _) bd.out);have am:=eJ (z.eW (T.out.alloc _) C.out);have bb:=eJ (z.not (O.out.alloc (.cells #[.int .i64 u.f,.int .i64 u.t,.int .i64 u.b,.int .i64 u.q] 88)).lt bd.out);have Z:=eJ (z.not (T.out.alloc (.cells #[.int .i64 u.f,.int .i64 u.t,.int .i64 u.b,.int .i64 u.q] 88)).lt C.out);clear ad z aa c0 b4 t0 t1 t2 t3 t4 t5 a2 f0 f1 f2 f3 E;have e0:=eJ (eN.new w5 305 #[.int .i64 (ck.sd k).nx,.string d]);obtain⟨i0,i1,i2,i3⟩:=e0.out.fQ;obtain⟨t0,t1,t2,t3,t4,t5,g0,g1,g2,g3,g4,g5⟩:=a3.out.gN;obtain⟨eb,d7,d0,c9,de,en,fc,e2,e4,e8,f8,e3⟩:=am.out.gN;have a2:=a3.out.lt;have es:=am.out.lt;have cc:Hid (eZ now node p.lk 0 c=({ck with sd:=eV ck.sd k ⟨if(ck.sd k).nx+1=256 then 1 else(ck.sd k).nx+1,now,now,q⟩},((k:Int),(ck.sd k).nx,d))):=eJ (by rw[a7.out,b5.out,Fc cu.out U.out,er.out];rfl);go_wp2_with fail;go_region;go_wp2_with fail;exact aR (wj _ _ (w.heap.size+1) _ _ _ _ _ _ rfl (((((((((((am.out.iI (p:=⟨w.heap.size,3,none⟩) (cW (av)) _).iI (p:=⟨w.heap.size,4,none⟩) (cW (av)) _).iI (p:=⟨w.heap.size,5,none⟩) (cW (av)) _).eS 0 _).eS 1 _).eS 2 _).eS 3 _).eS 4 _).eS 5 _).alloc _).drew)) rfl ⟨by rw[cc.out],by rw[cc.out];exact⟨{J with vs:=eV J.vs k v},a9,((((((((((b2.out.iI (p:=⟨w.heap.size,3,none⟩) bb.out _).iI (p:=⟨w.heap.size,4,none⟩) bb.out _).iI (p:=⟨w.heap.size,5,none⟩) bb.out _).iI (p:=⟨w.heap.size+1,0,none⟩) Z.out _).iI (p:=⟨w.heap.size+1,1,none⟩) Z.out _).iI (p:=⟨w.heap.size+1,2,none⟩) Z.out _).iI (p:=⟨w.heap.size+1,3,none⟩) Z.out _).iI (p:=⟨w.heap.size+1,4,none⟩) Z.out _).iI (p:=⟨w.heap.size+1,5,none⟩) Z.out _).alloc _).drew,(((((((((((bv.out.trans b3.out).iU (p:=⟨w.heap.size,3,none⟩) (ar) _).iU (p:=⟨w.heap.size,4,none⟩) (ar) _).iU (p:=⟨w.heap.size,5,none⟩) (ar) _).iU (p:=⟨w.heap.size+1,0,none⟩) (aw) _).iU (p:=⟨w.heap.size+1,1,none⟩) (aw) _).iU (p:=⟨w.heap.size+1,2,none⟩) (aw) _).iU (p:=⟨w.heap.size+1,3,none⟩) (aw) _).iU (p:=⟨w.heap.size+1,4,none⟩) (aw) _).iU (p:=⟨w.heap.size+1,5,none⟩) (aw) _).below ((au).alloc (ar) _)).drew⟩⟩
    ·have bq:=eJ (EW (lf:=u.f) (lt:=u.t) gs base u.b u.q (J.vs k) (ck.sd k).nx (ck.sd k).la (ck.sd k).nw (ck.sd k).q _ now a5 U h00 I.out.1 I.out.2.1 I.out.2.2.2 I.out.2.2.1 ⟨E.2.2.1,E.2.2.2.1⟩ ah);have f7:(a5==0)=false:=by simpa using h00
     go_wp2_with fail;refine bq.out.mono ?_;rintro e w5 ⟨rfl,aa⟩;obtain⟨v,ad,z⟩:=a0.out.Oz (k:=k) (by show k<p.lk.length;rw[X.out];exact ap) be.out {ck.sd k with nw:=DC a5 now (ck.sd k).nw} (by rw[cj.out];exact aa) (aK ca ak);have b2:=eJ ad;have ft:=eJ z;have b3:=eJ ((bz.out.below ((au).alloc (ar) (.cells #[.int .i64 u.f,.int .i64 u.t,.int .i64 u.b,.int .i64 u.q] 88))).trans z);have a3:=eJ (z.eW (O.out.alloc _) bd.out);have am:=eJ (z.eW (T.out.alloc _) C.out);clear ad z aa c0 b4 t0 t1 t2 t3 t4 t5 a2 f0 f1 f2 f3;go_wp2_with fail;go_roundw;case rel=>
      exact⟨k+1,_,ah,aq,eJ (a3.out.alloc _),eJ (am.out.alloc _),eJ (by rw[a7.out,b5.out,Fa cu.out (by rw[U.out];exact h00),U.out]),eJ (fun j=>by
       by_cases e:j=k
       ·subst e;simp only[CR];exact E
       ·simp only[IQ (ck.sd) e];exact bl.out j),eJ ⟨{J with vs:=eV J.vs k v},a9,b2.out.alloc _,b3.out.below ((au).alloc (ar) _)⟩⟩
     case measure=>simp[intOf];omega
   ·have d1:(u.f !=(node:Int))=true:=by simpa using ac
    go_wp2_with fail;go_roundw;case rel=>exact⟨k+1,ck,ah,aq,eJ (O.out.alloc _),eJ (T.out.alloc _),eJ (by rw[a7.out,b5.out,zA ac]),bl,eJ (c7.out.below ((au).alloc (ar) _))⟩
    case measure=>simp[intOf];omega
  ·obtain rfl:k=nl:=ah;have a2:=O.out.lt;have es:=T.out.lt;obtain⟨t0,t1,t2,t3,t4,t5,_⟩:=O.out.gN;obtain⟨eb,d7,d0,c9,de,en,g0,g1,g2,g3,g4,g5⟩:=T.out.gN;have c6:Hid (eZ now node p.lk 0 c=(ck,(-1,0,⟨#[]⟩))):=eJ (by rw[a7.out,List.drop_eq_nil_of_le (by rw[X.out];exact ar)];rfl);go_wp2_with fail;exact aR (wj _ _ (w.heap.size+1) _ _ _ _ _ _ rfl (((((((T.out.eS 0 _).eS 1 _).eS 2 _).eS 3 _).eS 4 _).eS 5 _))) rfl ⟨by rw[c6.out],by rw[c6.out];exact⟨J,a9,((((((c4.out.iI (p:=⟨w.heap.size+1,0,none⟩) C.out _).iI (p:=⟨w.heap.size+1,1,none⟩) C.out _).iI (p:=⟨w.heap.size+1,2,none⟩) C.out _).iI (p:=⟨w.heap.size+1,3,none⟩) C.out _).iI (p:=⟨w.heap.size+1,4,none⟩) C.out _).iI (p:=⟨w.heap.size+1,5,none⟩) C.out _),(((((((bv.out.trans bz.out).iU (p:=⟨w.heap.size+1,0,none⟩) (aw) _).iU (p:=⟨w.heap.size+1,1,none⟩) (aw) _).iU (p:=⟨w.heap.size+1,2,none⟩) (aw) _).iU (p:=⟨w.heap.size+1,3,none⟩) (aw) _).iU (p:=⟨w.heap.size+1,4,none⟩) (aw) _).iU (p:=⟨w.heap.size+1,5,none⟩) (aw) _)⟩⟩
end
section
variable {p:Pl}{N:Nat}{c:Cl}
theorem Gj(h:gH p N c){from_:Nat}(e:from_<16)(tn slot:Nat)(fr:Option mB)(ls:List Ls):gH p (N+5) (je p from_ tn slot fr ls c):=by rw[nN];have h2:=mN h tn slot fr ls 2;exact h2.Di tn (Mm.MJ (h2.mm tn) e)
theorem mV(h:gH p N c){nd:Nat}(j:nd<16)(slot:Nat)(fr:Option mB)(ls:List Ls): ∀k,gH p (N+5*k) (ff p nd slot fr ls c k)
 |0=>h
 |k+1=>by
  have e:=mV h j slot fr ls k;unfold ff;split
  ·exact e.mono ah
  ·exact(Gj e j k slot fr ls).mono ah
theorem J8{now la nw bag:Int}{n:Nat}(h:px now la nw bag n=0):0<=now/\now<=1099511627776/\nw<=now/\n≠0:=by
 unfold px at h;repeat' split at h
 all_goals first|(exact absurd h aj)|skip
 rename_i h1 h2 h3;exact⟨ah,ah,ah,fun e=>h3 (.inl e)⟩
theorem pF(now nd:Int): ∀(ls:List Lk)(k:Nat)(c:Cl),gH p N c->(∀(j:Nat)(l:Lk),ls[j]? =some l->p.lk[k+j]? =some l)->gH p N (eZ now nd ls k c).1/\(((eZ now nd ls k c).2.1=-1/\(eZ now nd ls k c).2.2.1=0/\(eZ now nd ls k c).2.2.2=⟨#[]⟩)\/(∃(j:Nat) (l:Lk),(eZ now nd ls k c).2.1=j/\p.lk[j]? =some l/\0<=(eZ now nd ls k c).2.2.1/\(eZ now nd ls k c).2.2.1<=255/\(eZ now nd ls k c).2.2.2.size<=40))
 |[],_,c,h,_=>⟨h,.inl ⟨rfl,rfl,rfl⟩⟩
 |l::ls,k,c,h,hd=>by
  have hk:p.lk[k]? =some l:=by simpa using hd 0 l ak
  have z: ∀(j:Nat)(u:Lk),ls[j]? =some u->p.lk[k+1+j]? =some u:=fun j u I=>by have:=hd (j+1) u (by simpa using I);rw[show k+1+j=k+(j+1) from ah];exact this
  have s:=h.sd k;unfold eZ;by_cases C:l.f=nd
  ·rw[aM C];by_cases h0:px now (c.sd k).la (c.sd k).nw l.b (c.sd k).q.length=0
   ·rw[aM h0];obtain⟨K,z2,_,z4⟩:=J8 h0;obtain⟨d,q,E⟩: ∃d q,(c.sd k).q=d::q:=by cases e:(c.sd k).q with|nil=>rw[e] at z4;exact absurd rfl z4|cons d q=>exact⟨d,q,rfl⟩
    have hl:=s.2.2.2.2.1;have hm:=s.2.2.2.2.2;rw[E] at hl hm;rw[E];rw[aP] at hl;exact⟨h.Ic k ⟨by dsimp only;split<;>omega,by dsimp only;split<;>omega,by dsimp only;omega,by dsimp only;omega,by dsimp only[List.tail_cons];omega,fun x J=>hm x (cF _ J)⟩,.inr ⟨k,l,rfl,hk,s.1,s.2.1,hm d (cP ..)⟩⟩
   ·rw[aI h0];exact pF now nd ls (k+1) _ (h.Ic k s) z
  ·rw[aI C];exact pF now nd ls (k+1) c h z
theorem Jr(h:gH p N c)(hp:gl p)(fy:Nat)(r:Rn)(i:Nat):gH p (N+81) (jh p fy r i c):=by
 unfold jh;cases hs:p.sl[i]? with
  |none=>exact h.mono ah
  |some s=>
   dsimp only;have h1:=hp.slot i s hs;have h2:=hp.n16;have hm:=h.Di s.n.toNat (Mm.yB (h.mm s.n.toNat));split
   ·exact(mV (pF (c.rd*p.rd+s.f) s.n p.lk 0 _ hm ak).1 ah i _ r.ls p.nd.toNat).mono ah
   ·exact(mV hm ah i _ r.ls p.nd.toNat).mono ah
theorem qB(h:gH p N c)(hp:gl p)(fy:Nat)(r:Rn): ∀k,gH p (N+81*k) (gZ p fy r c k)|0=>h|k+1=>(Jr (qB h hp fy r k) hp fy r k).mono ah
theorem AN(p:Pl)(tn:Nat)(f:mB)(c:Cl):(iC p tn f c).rd=c.rd/\(iC p tn f c).ck=c.ck:=by
 unfold iC;split
 ·exact⟨rfl,rfl⟩
 ·split
  ·exact⟨rfl,rfl⟩
  ·split<;>exact⟨rfl,rfl⟩
theorem sU(p:Pl)(tn slot:Nat)(fr:Option mB)(ls:List Ls)(c:Cl): ∀k,(fG p tn slot fr ls c k).rd=c.rd/\(fG p tn slot fr ls c k).ck=c.ck
 |0=>⟨rfl,rfl⟩
 |k+1=>by
  have e:=sU p tn slot fr ls c k;unfold fG nB;split
  ·exact e
  ·split
   ·exact⟨(AN _ _ _ _).1.trans e.1,(AN _ _ _ _).2.trans e.2⟩
   ·exact e
theorem oJ(p:Pl)(nd slot:Nat)(fr:Option mB)(ls:List Ls)(c:Cl): ∀k,(ff p nd slot fr ls c k).rd=c.rd/\(ff p nd slot fr ls c k).ck=c.ck
 |0=>⟨rfl,rfl⟩
 |k+1=>by
  have e:=oJ p nd slot fr ls c k;unfold ff;split
  ·exact e
  ·rw[nN];exact⟨(sU _ _ _ _ _ _ 2).1.trans e.1,(sU _ _ _ _ _ _ 2).2.trans e.2⟩
theorem ql(now nd:Int): ∀(ls:List Lk)(k:Nat)(c:Cl),(eZ now nd ls k c).1.rd=c.rd/\(eZ now nd ls k c).1.ck=c.ck
 |[],_,_=>⟨rfl,rfl⟩
 |l::ls,k,c=>by
  unfold eZ;split
  ·split
   ·exact⟨rfl,rfl⟩
   ·exact ql now nd ls (k+1) _
  ·exact ql now nd ls (k+1) c
theorem zy(p:Pl)(fy:Nat)(r:Rn)(i:Nat)(c:Cl):(jh p fy r i c).rd=c.rd/\(jh p fy r i c).ck=c.ck:=by
 unfold jh;cases p.sl[i]? with
  |none=>exact⟨rfl,rfl⟩
  |some s=>
   dsimp only;split
   ·exact⟨(oJ _ _ _ _ _ _ _).1.trans (ql _ _ _ _ _).1,(oJ _ _ _ _ _ _ _).2.trans (ql _ _ _ _ _).2⟩
   ·exact oJ _ _ _ _ _ _ _
theorem lP(p:Pl)(fy:Nat)(r:Rn)(c:Cl): ∀k,(gZ p fy r c k).rd=c.rd/\(gZ p fy r c k).ck=c.ck|0=>⟨rfl,rfl⟩|k+1=>⟨(zy p fy r k _).1.trans (lP p fy r c k).1,(zy p fy r k _).2.trans (lP p fy r c k).2⟩
end
section
attribute [local irreducible] gR fs lD pg ff eZ Mm.send
theorem NQ(mm e nx:Nat)(hm:mm<65536)(hw:e<16)(h:nx<16):bits .xor .i64 (mm:Int) (bits .or .i64 (wrap64 (2^e)) (wrap64 (2^nx)))=((mm^^^(2^e|||2^nx):Nat):Int):=by have h1:2^e<=2^15:=aX ah ah;have h2:2^nx<=2^15:=aX ah ah;have h3:2^e|||2^nx<2^16:=dM ah ah;rw[iL e ah,iL nx ah,ri _ _ ah ah,tt _ _ ah ah]
theorem Ai{nd node m:Nat}{md:Int}(hm:m<65536)(hn:node<nd)(e:nd<=16):lD nd node m md<65536:=by
 unfold lD;split
 ·have h1:2^node<=2^15:=aX ah ah;have h2:2^((node+1)%nd)<=2^15:=aX ah (by have:=Nat.mod_lt (node+1) (show 0<nd from ah);omega);exact A6 hm (dM (n:=16) ah ah)
 ·exact hm
theorem CG(m:Nat)(gd bd:Int)(fz:Bool)(hm:m<65536): ∃v:Nat,gR m gd bd fz=v/\v<65536:=by
 unfold gR;split
 ·exact⟨m,rfl,hm⟩
 ·exact⟨0,rfl,ah⟩
theorem z8{p:Pl}{fy:Nat}{r:Rn}{i:Nat}{c:Cl}{s:Sl}(hs:p.sl[i]? =some s){node v:Nat}(hn:s.n=node){md:Int}(h:pg fy r.md node=md)(j:gR (c.mm node).m (c.mm node).gd (c.mm node).bd (c.mm node).fz=v):jh p fy r i c=if (fs (c.mm node).gd (c.mm node).bd (c.mm node).fz&&decide (md≠1))=true then ff p node i (some ⟨node,i,(lD p.nd.toNat node v md:Nat),(eZ (c.rd*p.rd+s.f) node p.lk 0 {c with mm:=eV c.mm node (c.mm node).send}).2.1,(eZ (c.rd*p.rd+s.f) node p.lk 0 {c with mm:=eV c.mm node (c.mm node).send}).2.2.1,(eZ (c.rd*p.rd+s.f) node p.lk 0 {c with mm:=eV c.mm node (c.mm node).send}).2.2.2⟩) r.ls (eZ (c.rd*p.rd+s.f) node p.lk 0 {c with mm:=eV c.mm node (c.mm node).send}).1 p.nd.toNat else ff p node i none r.ls {c with mm:=eV c.mm node (c.mm node).send} p.nd.toNat:=by have e:s.n.toNat=node:=ah;unfold jh;rw[hs];dsimp only;rw[e,h,j,bU,hn]
theorem oT(p:Pl)(nd slot:Nat)(fr:Option mB)(ls:List Ls)(c:Cl):ff p nd slot fr ls c 0=c:=by unfold ff;rfl
theorem o7 {p:Pl} {nd slot k:Nat} {fr:Option mB} {ls:List Ls} {c:Cl} (h:k=nd):ff p nd slot fr ls c (k+1)=ff p nd slot fr ls c k:=by
 conv=>lhs;unfold ff
 rw[aM h]
theorem oN {p:Pl} {nd slot k:Nat} {fr:Option mB} {ls:List Ls} {c:Cl} (h: ¬k=nd):ff p nd slot fr ls c (k+1)=je p nd k slot fr ls (ff p nd slot fr ls c k):=by
 conv=>lhs;unfold ff
 rw[aI h]
theorem Jk{base:Nat}{a:Ad}{p:Pl}{P:lz}{fy:Nat}{c:Cl}{N:Nat}(w:World){K:World->(Ix->Ob)->Prop}(c4:MW K)(c3 AL:Option Addr)(cs cl:Nat)(dg:P.s=.slice c3 p.sl.length cs)(e0:P.l=.slice AL p.lk.length cl)(h:fW w base a (eO p) p P fy c)(hp:gl p)(c0:gH p N c)(hQ:N<=800000000000)(hh:c.rd<=7000)(ht:fy<65536)(dd: ∀W S,K W S->fN W c3 p.sl.length p.sl)(fc: ∀W S,K W S->fA W AL p.lk.length p.lk)(bz:K w (shape a (eO p) p P fy c))(cx:base<=w.heap.size)(A:Option Addr)(cp:Nat)(r:Rn)(e7: ∀W S,K W S->jD W A r.ls)(gf:r.ls.length<=9223372036854775807)(y1 I:Value)(z:Option Addr)(J:Nat)(hM: ∀W S,K W S->kY W z r.md)(hj:r.md.length<=9223372036854775807)(i:Nat)(s:Sl)(hs:p.sl[i]? =some s):Calls prog 141 #[.pointer (some ⟨a.g,0,none⟩),.int .i64 i,.agg #[.slice A r.ls.length cp,y1,I,.slice z r.md.length J]] w fun e w'=>e=.returned (.tuple #[])/\iG w base a (eO p) p P fy c w' (jh p fy r i c):=by
 have ha:=hp.slot i s hs;have hC:=hp.n16;have hD:=hp.n1;have el:i<p.sl.length:=(aQ.1 hs).1;have gc:=hp.sl;obtain⟨node,d4⟩: ∃node:Nat,s.n=node:=⟨s.n.toNat,ah⟩;obtain⟨nd,cS⟩: ∃nd,p.nd.toNat=nd:=⟨_,rfl⟩;have dk:node<nd:=ah;have hn:nd<=16:=ah;have d9:p.nd=(nd:Int):=ah;obtain⟨w2,bj⟩:=ab ((w.alloc (.cells #[.slice A r.ls.length cp,y1,I,.slice z r.md.length J] 35)).alloc (.cells #[.int .i64 node,.int .i64 i,.int .i64 0,.int .i64 (-1),.int .i64 0,.string ⟨#[]⟩] 269));have b7:Below w.heap.size w w2:=by rw[<-bj];exact((Below.refl w.heap.size w).alloc (ar) _).alloc ak _
 have c9:eN w2 w.heap.size 35 #[.slice A r.ls.length cp,y1,I,.slice z r.md.length J]:=by rw[<-bj];exact(eN.new w _ _).alloc _
 have hF:eN w2 (w.heap.size+1) 269 #[.int .i64 node,.int .i64 i,.int .i64 0,.int .i64 (-1),.int .i64 0,.string ⟨#[]⟩]:=by rw[<-bj];have:=eN.new (w.alloc (.cells #[.slice A r.ls.length cp,y1,I,.slice z r.md.length J] 35)) 269 #[.int .i64 node,.int .i64 i,.int .i64 0,.int .i64 (-1),.int .i64 0,.string ⟨#[]⟩];rw[bX] at this;exact this
 have hA:=aK cx b7.size;have e8:=eJ (fV.fC (S:=shape a (eO p) p P fy c) b7);have f2:=eJ (h.ky (aC w.heap.size));have er:=eJ (h.ky (aU w.heap.size));have es:=eJ (h.below b7);have ac:=eJ c4;have hP:=eJ (c4.step bz e8.out);have hJ:=eJ h;have c8:=eJ bz;obtain⟨G,hG⟩:=ab a.g;rw[hG];have cu:=(h.ru hG).2.2.2.2.2.2.1;obtain⟨bs,os,hy,hO,ex,c7,_,_⟩:=(dd _ _ bz) i el;rw[hs] at ex;cases ex;rw[d4] at c7;rw[dg,hy] at cu;have hb:=h.gA.lt;rw[hG] at hb;have go:=aG _ _ c7;dsimp only at go;obtain⟨hK,hE,hR,g0,ds⟩:=h.LH hG (show(eO p).nm=nd from cS) dk;obtain⟨gm,bx⟩: ∃gm,a.gm node=gm:=⟨_,rfl⟩;rw[bx] at ds;have hv:=aG _ _ ds;dsimp only at hv;have ev:=eJ (es.out.NG (i:=node) (by show node<p.nd.toNat;omega));rw[bx] at ev;obtain⟨v,b4,d6⟩:=CG (c.mm node).m (c.mm node).gd (c.mm node).bd (c.mm node).fz (c0.mm node).1;have cb:=eJ (It gm node p.nd.toNat _ _ _ _ w2 ev.out);rw[Mm.Ph,b4] at cb;obtain⟨fd,co⟩:=ab (fs (c.mm node).gd (c.mm node).bd (c.mm node).fz);rw[co] at cb;obtain⟨md,ch⟩: ∃md,pg fy r.md node=md:=⟨_,rfl⟩;have E:=eJ (z8 (c:=c) hs d4 ch b4);rw[co] at E;have d8:=hF.cell 2;have g9:=hF.frozen 2;have hu:=hF.lt;have hB:=c9.lt;have hm:=eJ bj;have aa:=eJ c9;have ea:=eJ hF;have ct:=eJ hp;have f1:=eJ c0;have eq:=eJ fc;have f7:=eJ dd;have eg:=eJ e0;have gz:=eJ dg;have Z:=eJ hG;have hw:=eJ e7;have hc:=eJ hM;have f3:=eJ bx;have hH:=eJ b4;have fl:=eJ ch;have ao:=eJ hs;have ad:=eJ cS;have b8:=eJ d9;simp at d8;clear bj c9 hF h e0 dg hG fc dd bz c4 b7 e7 hM bx b4 ch hs d4 cS c0 hp ha co d9 hB;obtain⟨ns,e5⟩:=ab p.sl.length;rw[e5] at cu el gc;clear e5;go_enter func141,ntmps141;go_wp2_with fail;rw[hm.out];refine cb.out.mono ?_;rintro e w3 ⟨rfl,eb,aA⟩;have T:=es.out.M0 (i:=node) (by show node<p.nd.toNat;rw[ad.out];exact dk) (c.mm node).send (by rw[f3.out];exact eb) (by rw[f3.out];exact aA) hA;obtain⟨c1,cc⟩: ∃c1:Cl,{c with mm:=eV c.mm node (c.mm node).send}=c1:=⟨_,rfl⟩;have ce:Hid (gH p (N+1) c1):=eJ (by rw[<-cc];exact f1.out.Di node (Mm.yB (f1.out.mm node)));have em:c1.rd=c.rd:=by rw[<-cc]
 rw[cc] at E T;have cv:=eJ (T.2.eW aa.out f2.out);have cr:=eJ (T.2.eW ea.out er.out);have bm:=eJ (T.2.not aa.out.lt f2.out);have bk:=eJ (T.2.not ea.out.lt er.out);have dt:=eJ (cr.out.eS 2 (.int .i64 (v:Nat)));have c6:=eJ (cv.out.iI (p:=⟨w.heap.size+1,2,none⟩) (bH (av)) (.int .i64 (v:Nat)));have de:=eJ (T.1.iI (p:=⟨w.heap.size+1,2,none⟩) bk.out (.int .i64 (v:Nat)));have dl:=eJ ((e8.out.trans T.2).iU (p:=⟨w.heap.size+1,2,none⟩) (aw) (.int .i64 (v:Nat)));obtain⟨_,_,u2,_,_,_,_,_,v2,_⟩:=cr.out.gN;obtain⟨cV,x1,cA,d0⟩:=cv.out.lH;have cn:=eJ (I4 G p.nd p.fa p.sk p.ji p.dr p.rd P.s P.l p.fr P.q a.mm a.sd a.tk a.pr c1.rd fy node a.ck (.slice A r.ls.length cp) y1 I z J r.md _ (by have:=de.out.gA;rw[Z.out] at this;exact this) ht ah (hc.out _ _ (ac.out.step c8.out dl.out)) hj);rw[fl.out] at cn;clear T eb aA cc cu g0 ds c7 d8 g9 hu;go_wp2_with fail;refine cn.out.mono ?_;rintro e w5 ⟨rfl,ap⟩;have b2:=eJ (c6.out.below ap c6.out.lt);have a0:=eJ (dt.out.below ap dt.out.lt);have bb:=eJ (de.out.below ap);have b3:=eJ (dl.out.below ap);clear ap cV x1 cA d0 u2 v2 cn cb c6 dt de dl cv cr;obtain⟨nx,bn⟩: ∃nx:Nat,nx=(node+1)%nd:=⟨_,rfl⟩;have hL:nx<nd:=by rw[bn];exact Nat.mod_lt _ ah
 have f6:((node:Int)+1)%(nd:Int)=nx:=by rw[bn];simp
 have ge:=eJ bn;clear bn;have fn:=eJ (NQ v node nx d6 (by clear f6;omega) (by clear f6;omega));obtain⟨T,cd⟩:=ab (lD p.nd.toNat node v md);have e1:Hid (T<65536):=eJ (by rw[<-cd];exact Ai d6 (by rw[ad.out];exact dk) (by rw[ad.out];exact hn));have b5:=eJ cd;rw[cd] at E;clear cd;go_upto_block 0 with fail;go_cut [9] from 9 to 60 (fun g3 C=>g3=.bool (fd&&decide (md≠1))/\Hid (eN C w.heap.size 35 #[.slice A r.ls.length cp,y1,I,.slice z r.md.length J])/\Hid (eN C (w.heap.size+1) 269 #[.int .i64 node,.int .i64 i,.int .i64 (T:Nat),.int .i64 (-1),.int .i64 0,.string ⟨#[]⟩])/\Hid (fW C base a (eO p) p P fy c1)/\Hid (fV w C (shape a (eO p) p P fy c) (shape a (eO p) p P fy c1)));case first=>
  by_cases h1:md=1
  ·subst h1;have a5:v=T:=by rw[<-b5.out];unfold lD;rw[aI aj]
   subst a5;go_wp2_with fail;go_meet;exact⟨ak,b2,a0,bb,b3⟩
  ·by_cases h2:md=2
   ·subst h2;have a5:T=v^^^(2^node|||2^nx):=by rw[<-b5.out];unfold lD;rw[aM rfl,ad.out,ge.out]
    have bt:=(bb.out.ru Z.out).1;rw[b8.out] at bt;obtain⟨_,_,u2,_,_,_,_,_,v2,_⟩:=a0.out.gN;go_wp2_with fail;go_region;go_wp2_with fail;go_meet;refine⟨ak,eJ ?_,eJ ?_,eJ ?_,eJ ?_⟩
    ·exact(b2.out.iI (p:=⟨w.heap.size+1,2,none⟩) (bH (av)) _).drew
    ·rw[fn.out,<-a5];exact(a0.out.eS 2 _).drew
    ·exact(bb.out.iI (p:=⟨w.heap.size+1,2,none⟩) bk.out _).drew
    ·exact(b3.out.iU (p:=⟨w.heap.size+1,2,none⟩) (aw) _).drew
   ·have a5:v=T:=by rw[<-b5.out];unfold lD;rw[aI h2]
    subst a5;have d1:(md==1)=false:=by simpa using h1
    have d2:(md==2)=false:=by simpa using h2
    go_wp2_with fail;go_meet;exact⟨by simp[h1],b2,a0,bb,b3⟩
 case rest=>
  obtain⟨rfl,ca,b6,c5,be⟩:=hcut;clear b2 a0 bb b3 fn b5 fl;obtain⟨ok,ei⟩:=ab ((fd&&decide (md≠1)));rw[ei] at E⊢;clear ei;go_upto_if 61 with fail;go_cut [10] from 9 to 69 (fun bv C=> ∃(fr:Option mB) (c2:Cl) (a2:Ad),a2.g=G/\Hid (AU C (shape a2 (eO p) p P fy c2) bv fr)/\Hid (eN C w.heap.size 35 #[.slice A r.ls.length cp,y1,I,.slice z r.md.length J])/\Hid (fW C base a2 (eO p) p P fy c2)/\Hid (fV w C (shape a (eO p) p P fy c) (shape a2 (eO p) p P fy c2))/\Hid (∀f,fr=some f->OZ p node i f)/\Hid (gH p (N+1) c2)/\Hid (jh p fy r i c=ff p node i fr r.ls c2 nd)/\Hid (¬py (shape a2 (eO p) p P fy c2) w.heap.size));case first=>
   cases ok
   ·have bi:Hid (jh p fy r i c=ff p node i none r.ls c1 nd):=eJ (by rw[E.out,aI aj,ad.out]);go_wp2_with fail;go_meet;exact⟨none,c1,a,Z.out,eJ rfl,ca,c5,be,eJ (fun f e=>by cases e),ce,bi,bm⟩
   ·have a9:=eJ (Ev wc ac.out c3 AL cs cl gz.out eg.out c5.out ct.out ce.out (by rw[em];exact hh) f7.out eq.out (ac.out.step c8.out be.out) (aK cx be.out.size) node i T s ao.out);have bl:=pF (c1.rd*p.rd+s.f) node p.lk 0 c1 ce.out ak;rw[em] at a9 bl;rw[Z.out] at a9;obtain⟨u,e9⟩:=ab (eZ (c.rd*p.rd+s.f) node p.lk 0 c1);rw[e9] at a9 bl E;have bi:Hid (jh p fy r i c=ff p node i (some ⟨node,i,(T:Nat),u.2.1,u.2.2.1,u.2.2.2⟩) r.ls u.1 nd):=eJ (by rw[E.out,aM rfl,ad.out]);have cj:=eJ bl.2;have f8:=eJ bl.1;clear e9 bl E;obtain⟨z0,hr,z2,z3,z4,z5,_⟩:=b6.out.gN;go_wp2_with fail;refine a9.out.mono ?_;rintro e w7 ⟨rfl,a2,a8,hA2,am⟩;have bw:=eJ hA2;have a6:=eJ (be.out.trans am);have f9:=eJ (am.eW b6.out bk.out);have b9:=eJ (am.eW ca.out bm.out);have Y:=eJ (am.not b6.out.lt bk.out);have ci:=eJ (am.not ca.out.lt bm.out);obtain⟨u0,u1,u2,u3,u4,u5,v0,v1,v2,v3,v4,v5⟩:=f9.out.gN;clear hA2 am a9 z0 hr z2 z3 z4 z5;have e2:tz node i (T:Nat) u.2.1 u.2.2.1 u.2.2.2.size=true:=by
     have hI:=e1.out;unfold tz;apply aJ;refine⟨⟨ah,ah,ah,ah,ah,ah⟩, ?_⟩;rcases cj.out with ⟨U,O,X⟩|⟨j,l,U,O,X,f4,bq⟩
     ·exact .inl ⟨U,O,by rw[X];rfl⟩
     ·have:=(aQ.1 O).1;have:=ct.out.lk;exact .inr ⟨ah,ah,ah,ah,bq⟩
    obtain⟨lb,et,d7,h7,h49,ez,en,_⟩:=IZ node i (T:Nat) u.2.1 u.2.2.1 u.2.2.2 e2;have hf:=eJ et;have gi:=eJ d7;have fp:=eJ h7;have hx:=eJ ez;have hz:=eJ en;have e3:=eJ ((((((bw.out.iI (p:=⟨w.heap.size+1,0,none⟩) Y.out (.int .i64 node)).iI (p:=⟨w.heap.size+1,1,none⟩) Y.out (.int .i64 i)).iI (p:=⟨w.heap.size+1,2,none⟩) Y.out (.int .i64 (T:Nat))).iI (p:=⟨w.heap.size+1,3,none⟩) Y.out (.int .i64 u.2.1)).iI (p:=⟨w.heap.size+1,4,none⟩) Y.out (.int .i64 u.2.2.1)).iI (p:=⟨w.heap.size+1,5,none⟩) Y.out (.string u.2.2.2));have ho:=eJ ((((((a6.out.iU (p:=⟨w.heap.size+1,0,none⟩) (aw) (.int .i64 node)).iU (p:=⟨w.heap.size+1,1,none⟩) (aw) (.int .i64 i)).iU (p:=⟨w.heap.size+1,2,none⟩) (aw) (.int .i64 (T:Nat))).iU (p:=⟨w.heap.size+1,3,none⟩) (aw) (.int .i64 u.2.1)).iU (p:=⟨w.heap.size+1,4,none⟩) (aw) (.int .i64 u.2.2.1)).iU (p:=⟨w.heap.size+1,5,none⟩) (aw) (.string u.2.2.2));have e6:=eJ ((((((b9.out.iI (p:=⟨w.heap.size+1,0,none⟩) (bH (av)) (.int .i64 node)).iI (p:=⟨w.heap.size+1,1,none⟩) (bH (av)) (.int .i64 i)).iI (p:=⟨w.heap.size+1,2,none⟩) (bH (av)) (.int .i64 (T:Nat))).iI (p:=⟨w.heap.size+1,3,none⟩) (bH (av)) (.int .i64 u.2.1)).iI (p:=⟨w.heap.size+1,4,none⟩) (bH (av)) (.int .i64 u.2.2.1)).iI (p:=⟨w.heap.size+1,5,none⟩) (bH (av)) (.string u.2.2.2));clear et d7 h7 h49 ez en e2;go_wp2_with fail;refine(hf.out _).mono ?_;intro e w8 he;obtain⟨gb,cap,rfl,f5,e4⟩:=he.open (by have:=fp.out;omega);have a7:=eJ f5;have cm:=eJ e4;clear he f5 e4 u0 u1 u2 u3 u4 u5 v0 v1 v2 v3 v4 v5;go_wp2_with fail;go_meet;exact⟨some ⟨node,i,(T:Nat),u.2.1,u.2.2.1,u.2.2.2⟩,u.1,a2,a8.trans Z.out,eJ ⟨gb,0,cap,lb,rfl,a7.out.bytes,gi.out,fp.out,a7.out.OM,a7.out.NN,hx.out,hz.out,a7.out.lt,e3.out.ky a7.out.lo⟩,eJ (e6.out.below cm.out e6.out.lt),eJ (e3.out.below cm.out),eJ (ho.out.below cm.out),eJ (fun f e=>by
     cases e;refine⟨rfl,rfl,⟨T,rfl,e1.out⟩, ?_, ?_⟩
     ·rcases cj.out with ⟨U,O,X⟩|⟨j,l,U,O,X,f4,bq⟩
      ·left;show u.2.1<0;omega
      ·exact .inr ⟨j,l,U,O⟩
     ·rcases cj.out with ⟨U,O,X⟩|⟨j,l,U,O,X,f4,bq⟩
      ·show u.2.2.2.size<=40;rw[X];exact cT _
      ·exact bq),f8,bi,ci⟩
  case rest=>
   obtain⟨fr,c2,a2,a8,g5,b9,bw,a6,g6,gr,bi,ci⟩:=hcut;have bt:=(bw.out.ru a8).1;rw[b8.out] at bt;have hg:=aK cx a6.out.size;have hq:=eJ (iG.refl bw.out (Below.refl wc.heap.size wc));have g7:=eJ (ac.out.step c8.out a6.out);clear ca b6 c5 be bm bk ce E;go_wp2_with fail;clear bt;go_loopw [75] (fun j wr=> ∃k:Nat,k<=nd/\j=.int .i64 k/\Hid (eN wr w.heap.size 35 #[.slice A r.ls.length cp,y1,I,.slice z r.md.length J])/\Hid (iG wc base a2 (eO p) p P fy c2 wr (ff p node i fr r.ls c2 k))) (fun j _=>nd-(intOf j).toNat);case atStart=>exact⟨0,ah,rfl,b9,eJ (by rw[oT];exact hq.out)⟩
   case round=>
    obtain⟨k,hk,rfl,aa,d5⟩:=hrel;by_cases hS:k<nd
    ·by_cases bf:k=node
     ·have d1:((k:Int) !=(node:Int))=false:=ag;have ao:Hid (ff p node i fr r.ls c2 (k+1)=ff p node i fr r.ls c2 k):=eJ (o7 bf);clear bf;go_wp2_with fail;go_roundw;case rel=>exact⟨k+1,ah,aq,aa,eJ (by rw[ao.out];exact d5.out)⟩
      case measure=>simp[intOf];omega
     ·have d1:((k:Int) !=(node:Int))=true:=ag;have ao:Hid (ff p node i fr r.ls c2 (k+1)=je p node k i fr r.ls (ff p node i fr r.ls c2 k)):=eJ (oN bf);obtain⟨a3,aA,hA3,al⟩:=d5.out;have gs:=eJ (mV gr.out (show node<16 from ah) i fr r.ls k);have ft:=eJ (EH wr ac.out AL cl eg.out hA3 ct.out gs.out ah eq.out (ac.out.step g7.out al) (aK hg al.size) A cp r.ls hw.out gf y1 I (.slice z r.md.length J) node k i (by rw[b8.out];omega) (by rw[b8.out];omega) bf ah fr _ (g5.out.kept al) g6.out);rw[aA,a8] at ft;have g8:=eJ al;have hl:=eJ (al.not b9.out.lt ci.out);have hN:=eJ hA3;obtain⟨cV,x1,cA,d0⟩:=aa.out.lH;clear hA3 al bf;go_wp2_with fail;refine ft.out.mono ?_;rintro e w9 ⟨rfl,a4,g4,hA4,d3⟩;have gw:=eJ (d3.eW aa.out hl.out);have gq:Hid (iG wc base a2 (eO p) p P fy c2 w9 (ff p node i fr r.ls c2 (k+1))):=eJ (by rw[ao.out];exact⟨a4,g4.trans aA,hA4,g8.out.trans d3⟩);clear hA4 d3 cV x1 cA d0;go_wp2_with fail;go_roundw;case rel=>exact⟨k+1,ah,aq,gw,gq⟩
      case measure=>simp[intOf];omega
    ·obtain rfl:k=nd:=ah;go_wp2_with fail;go_end0;exact⟨rfl,by rw[bi.out];exact iG.trans a6.out (a8.trans Z.out.symm) d5.out⟩
end
def mT(k:Nat)(l:Lk)(d:ByteArray)(c:Cl):Cl:={c with sd:=eV c.sd k {c.sd k with q:=lu (c.sd k).q d (jg d.size (c.sd k).q.length l.q)}}
def lJ(k i:Nat)(c:Cl):Cl:={c with pr:=fM c.pr k i {c.pr k i with q:=(c.pr k i).q.tail}}
section
variable {p:Pl}{node:Int}{x y:Cl}
theorem fB{α:Type}(f:Nat->α)(k:Nat)(v:α):eV f k v k=v:=by simp[eV]
theorem gj{α:Type}(f:Nat->α){k j:Nat}(v:α)(h:j≠k):eV f k v j=f j:=by simp[eV,h]
theorem qv{α:Type}(f:Nat->Nat->α){k j i:Nat}(v:α)(h:j≠k):fM f k i v j=f j:=by funext b;simp[fM,h]
end
section
attribute [local irreducible] jg lu
theorem GL{t:Int}{nd i:Nat}(h0:0<t)(h1:t<2^nd)(hn:nd<=16):(bits .and .i64 (t/2^i) 1==0)= !kZ t i:=by
 obtain⟨x,rfl⟩:=aZ (Int.le_of_lt h0);have e:x<65536:=by
  have h2:(2:Nat)^nd<=2^16:=aX ah hn;have h3:x<2^nd:=by exact_mod_cast h1
  omega
 unfold kZ;rw[l8 x i e];cases x.testBit i<;>rfl
theorem HU{base:Nat}{a:Ad}{p:Pl}{P:lz}{fy:Nat}{c:Cl}{N:Nat}(w:World)(h:fW w base a (eO p) p P fy c)(hp:gl p)(I:gH p N c)(E:base<=w.heap.size)(k:Nat)(l:Lk)(hl:p.lk[k]? =some l)(d:ByteArray)(hd:d.size<=maxLen):Calls prog 101 #[.pointer (some ⟨a.g,0,none⟩),.int .i64 k,.string d] w fun e w'=>e=.returned (gv (jg d.size (c.sd k).q.length l.q))/\iG w base a (eO p) p P fy c w' (mT k l d c):=by have C:k<p.lk.length:=(aQ.1 hl).1;have ad:=hp.lk;obtain⟨nl,J⟩:=ab p.lk.length;have U:k<nl:=ah;obtain⟨G,hG⟩:=ab a.g;rw[hG];obtain⟨ac,al,am,aa,Z⟩:=h.Pb hG (show(eO p).ns=nl from J) U;obtain⟨gs,s⟩: ∃gs,a.gs k=gs:=⟨_,rfl⟩;rw[s] at Z;have j:=h.Pd (k:=k) C hl;rw[s] at j;obtain⟨z,u⟩:=ab (jg d.size (c.sd k).q.length l.q);have K:=eJ (Hr (lf:=l.f) (lt:=l.t) gs base l.b l.q (a.vs k) (c.sd k).nx (c.sd k).la (c.sd k).nw (c.sd k).q w d z (eJ u) j.1 j.2.1 j.2.2.2 j.2.2.1 E hd (by have:=(I.sd k).2.2.2.2.1;omega));have O:Hid (∀w',kO w base gs l.f l.t l.b l.q (a.vs k) (c.sd k).nx (c.sd k).la (c.sd k).nw (lu (c.sd k).q d z) w'->iG w base a (eO p) p P fy c w' (mT k l d c)):=eJ (fun w' hq=>by obtain⟨v,X,T⟩:=h.Oz (k:=k) C hl {c.sd k with q:=lu (c.sd k).q d z} (by rw[s];exact hq) E;unfold mT;rw[u];exact⟨{a with vs:=eV a.vs k v},rfl,X,T⟩);rw[u];have d1:decide ((k:Int)<0)=false:=aH ah;have d2:decide ((nl:Int)<=(k:Int))=false:=aH ah;clear h hp I hl j J s u hd;go_enter func101,ntmps101;go_wp2_with fail;refine K.out.mono ?_;rintro e w2 ⟨rfl,hq⟩;have Y:=eJ (O.out w2 hq);clear hq;go_wp2_with fail;go_ret;exact⟨rfl,Y.out⟩
theorem Gl{base:Nat}{a:Ad}{p:Pl}{P:lz}{fy:Nat}{c:Cl}{N:Nat}(w:World)(AL:Option Addr)(cl:Nat)(am:P.l=.slice AL p.lk.length cl)(h:fW w base a (eO p) p P fy c)(hp:gl p)(aa:gH p N c)(ad:fA w AL p.lk.length p.lk)(a4:base<=w.heap.size)(k i:Nat)(l:Lk)(hl:p.lk[k]? =some l)(hi:(i:Int)<p.nd):Calls prog 103 #[.pointer (some ⟨a.g,0,none⟩),.int .i64 i,.int .i64 k] w fun e w'=>(kZ l.t i=false/\e=.returned (.tuple #[.string ⟨#[]⟩,gv 2])/\iG w base a (eO p) p P fy c w' c)\/(kZ l.t i=true/\(c.pr k i).q=[]/\e=.returned (.tuple #[.string ⟨#[]⟩,gv 8])/\iG w base a (eO p) p P fy c w' c)\/(kZ l.t i=true/\∃d q,(c.pr k i).q=d::q/\e=.returned (.tuple #[.string d,gv 0])/\iG w base a (eO p) p P fy c w' (lJ k i c)):=by
 have U:k<p.lk.length:=(aQ.1 hl).1;have bn:=hp.lk;have a3:=hp.n16;have I:=hp.link k l hl;obtain⟨nl,O⟩:=ab p.lk.length;obtain⟨nd,Z⟩: ∃nd,p.nd.toNat=nd:=⟨_,rfl⟩;have a0:k<nl:=ah;have J:i<nd:=ah;have Y:p.nd=(nd:Int):=ah;have bq:i<=20:=ah;have C:=GL (i:=i) I.2.2.1 I.2.2.2.1 ah;obtain⟨G,hG⟩:=ab a.g;rw[hG];have bb:=(h.ru hG).1;have a8:=(h.ru hG).2.2.2.2.2.2.2.1;rw[Y] at bb;obtain⟨bj,ol,T,al,K,_,kt,_⟩:=ad k U;obtain rfl:al=l:=by rw[hl] at K;cases K;rfl
 rw[am,T,O] at a8;have u:(eO p).nk k=nd:=by show(if k<p.lk.length then p.nd.toNat else 0)=nd;rw[aM U];exact Z
 obtain⟨bm,bl,bv,be,bi,bk,bt,bf,a6⟩:=h.QZ hG (k:=k) (i:=i) (show(eO p).na=nl from O) u a0 J;obtain⟨gp,s⟩: ∃gp,a.gp k i=gp:=⟨_,rfl⟩;rw[s] at a6;have j:=h.ER (k:=k) (i:=i) (by rw[u];exact J);rw[s] at j;have z:=aa.pr k i;have d1:decide ((i:Int)<0)=false:=aH ah;have d2:decide ((nd:Int)<=(i:Int))=false:=aH ah;have d3:decide ((k:Int)<0)=false:=aH ah;have d4:decide ((nl:Int)<=(k:Int))=false:=aH ah;have ac:=eJ (iG.refl h (Below.refl w.heap.size w));obtain⟨bd,X⟩:=ab (kZ al.t i);rw[X] at C⊢;have a2:=eJ h;have aA:=eJ u;have a9:=eJ s;clear h hp aa hl K I O Z ad am Y T u s X hi a3;cases bd
 ·simp only[ej] at C;clear j;go_enter func103,ntmps103;go_wp2_with fail;go_ret2;exact .inl ⟨trivial,by simp[gv],ac.out⟩
 ·simp only[eA] at C;cases hq:(c.pr k i).q with|nil=>have E:=eJ (BY gp base 16 (a.vp k i) (c.pr k i).lost w j.1 (by have:=j.2.1;rw[hq] at this;exact this));clear j z;go_enter func103,ntmps103;go_wp2_with fail;refine E.out.mono ?_;rintro e w2 ⟨rfl,rfl⟩;go_wp2_with fail;go_ret2;exact .inr (.inl ⟨trivial,trivial,rfl,ac.out⟩)|cons d q=>have E:=eJ (BF gp base 16 (a.vp k i) (c.pr k i).lost q w d j.1 (by have:=j.2.1;rw[hq] at this;exact this) j.2.2.2 j.2.2.1 (by have:=z.2.2;rw[hq,aP] at this;omega));have ao:Hid (∀w',nH w base gp 16 (a.vp k i) (c.pr k i).lost q w'->iG w base a (eO p) p P fy c w' (lJ k i c)):=eJ (fun w' hp=>by obtain⟨v,a5,ap⟩:=a2.out.put (k:=k) (i:=i) (by rw[aA.out];exact J) {c.pr k i with q:=(c.pr k i).q.tail} (by rw[a9.out,hq];exact hp) a4;exact⟨{a with vp:=fM a.vp k i v},rfl,a5,ap⟩);clear j z hq;go_enter func103,ntmps103;go_wp2_with fail;refine E.out.mono ?_;rintro e w2 ⟨rfl,hp⟩;have a7:=eJ (ao.out w2 hp);clear hp;go_wp2_with fail;go_ret2;exact .inr (.inr ⟨trivial,d,q,rfl,rfl,a7.out⟩)
end
theorem fx.rk{w w':World}{base:Nat}{S:Ix->Ob}(h:fx w base S)(x:Ix){t:TypeId}{v:Value}{l:List Value}(j:S x=.arr t v l){u:Value}{g o cp:Nat}(I:fK w' base t (.slice (some ⟨g,o,none⟩) (l.length+1) cp) (l++[u]))(E:w.grownBy w' v.ownBlock)(z:v.ownBlock=some g\/w.heap.size<=g)(s:g<w'.heap.size)(C:base<=w.heap.size):fx w' base (iv S x (.arr t (.slice (some ⟨g,o,none⟩) (l.length+1) cp) (l++[u]))):=by refine h.uW x _ (by rw[j];exact xH E) I (fun k hm=> ?_) C;rw[j];simp[Ob.eX,Value.ownBlock] at hm;subst hm;refine⟨s,z.imp (fun e=> ?_) id⟩;simp[Ob.eX,e]
section
variable {a:Ad}{p:Pl}{P:lz}{fy:Nat}{c:Cl}{na i:Nat}{nk:Nat->Nat}
theorem jW(f:Nat->Value)(n:Nat):(List.range (n+1)).map f=(List.range n).map f++[f n]:=by rw[eD,dz];rfl
theorem ub(f:Nat->Nat)(n g:Nat):(List.range n).map (fun i=>fk (eV f n g i))=(List.range n).map (fun i=>fk (f i)):=by apply cw;intro i hi;have:=dc.1 hi;rw[gj f g ah]
theorem Bm(f:Nat->Value)(n:Nat)(v:Value):(List.range n).map (eV f n v)=(List.range n).map f:=by apply cw;intro i hi;have:=dc.1 hi;rw[gj f v ah]
theorem yx{g:Nat}{v:Value}{k ns:Nat}(x:Mm)(hx:c.mm k=x):iv (iv (iv (shape a ⟨k,ns,na,nk⟩ p P fy c) (.mem k) (.mem g k p.nd.toNat x.m x.gd x.bd x.fz)) .memA (.arr 211 v ((List.range k).map (fun i=>fk (a.gm i))++[fk g]))) .im (.eW a.g 210 ((wL p.nd p.fa p.sk p.ji p.dr p.rd P.s P.l p.fr P.q fy a.ck a.mm a.sd a.tk a.pr c.rd).setIfInBounds 12 v))=shape {a with mm:=v,gm:=eV a.gm k g} ⟨k+1,ns,na,nk⟩ p P fy c:=by
 funext y;cases y with
  |im=>rfl
  |memA=>rw[putO_ne _ ak,fq];show _=Ob.arr _ v _;rw[jW,ub];simp only[fB]
  |mem j=>
   rw[putO_ne _ ak,putO_ne _ ak];by_cases e:j=k
   ·subst e;rw[fq];subst hx;simp[shape,fB]
   ·rw[putO_ne _ (by simpa using e)];by_cases h:j<k
    ·simp[shape,h,dm h,gj a.gm g e]
    ·simp[shape,h,show¬j<k+1 from ah]
  |_=>rw[putO_ne _ ak,putO_ne _ ak,putO_ne _ ak];rfl
theorem yw{g:Nat}{v:Value}{k nm:Nat}{l:Lk}(hl:p.lk[k]? =some l)(hs:c.sd k=⟨0,-1,0,[]⟩):iv (iv (iv (shape a ⟨nm,k,na,nk⟩ p P fy c) (.snd k) (.snd g (.slice none 0 0) l.f l.t l.b l.q 0 (-1) 0 [])) .sndA (.arr 217 v ((List.range k).map (fun i=>fk (a.gs i))++[fk g]))) .im (.eW a.g 210 ((wL p.nd p.fa p.sk p.ji p.dr p.rd P.s P.l p.fr P.q fy a.ck a.mm a.sd a.tk a.pr c.rd).setIfInBounds 13 v))=shape {a with sd:=v,gs:=eV a.gs k g,vs:=eV a.vs k (.slice none 0 0)} ⟨nm,k+1,na,nk⟩ p P fy c:=by
 funext y;cases y with
  |im=>rfl
  |sndA=>rw[putO_ne _ ak,fq];show _=Ob.arr _ v _;rw[jW,ub];simp only[fB]
  |snd j=>
   rw[putO_ne _ ak,putO_ne _ ak];by_cases e:j=k
   ·subst e;rw[fq];simp[shape,fB,hl,hs]
   ·rw[putO_ne _ (by simpa using e)];by_cases h:j<k
    ·simp[shape,h,dm h,gj a.gs g e,gj a.vs (.slice none 0 0) e]
    ·simp[shape,h,show¬j<k+1 from ah]
  |_=>rw[putO_ne _ ak,putO_ne _ ak,putO_ne _ ak];rfl
theorem pJ{α:Type}(f:Nat->Nat->α)(k i:Nat)(v:α):fM f k i v k i=v:=by simp[fM]
theorem pD{α:Type}(f:Nat->Nat->α){k i j:Nat}(v:α)(h:j≠i):fM f k i v k j=f k j:=by simp[fM,h]
theorem zQ(f:Nat->Nat->Nat)(k n g:Nat):(List.range n).map (fun i=>fk (fM f k n g k i))=(List.range n).map (fun i=>fk (f k i)):=by apply cw;intro i hi;have:=dc.1 hi;rw[pD f g ah]
theorem zj{gt gp:Nat}{vt vp:Value}{k nm ns:Nat}(hk:nk k=i)(h1:c.tk k i=⟨-1,0,0⟩)(h2:c.pr k i=⟨0,[]⟩):iv (iv (iv (iv (shape a ⟨nm,ns,k,nk⟩ p P fy c) (.prt k i) (.prt gp (.slice none 0 0) 16 0 [])) (.nK k i) (.nK gt (-1) 0 0)) (.takR k) (.arr 232 vt ((List.range i).map (fun j=>fk (a.gt k j))++[fk gt]))) (.prtR k) (.arr 219 vp ((List.range i).map (fun j=>fk (a.gp k j))++[fk gp]))=shape {a with rt:=eV a.rt k vt,rp:=eV a.rp k vp,gt:=fM a.gt k i gt,gp:=fM a.gp k i gp,vp:=fM a.vp k i (.slice none 0 0)} ⟨nm,ns,k,eV nk k (i+1)⟩ p P fy c:=by
 funext y;cases y with
  |takA=>rw[putO_ne _ ak,putO_ne _ ak,putO_ne _ ak,putO_ne _ ak];show Ob.arr _ _ _=Ob.arr _ _ _;rw[Bm]
  |prtA=>rw[putO_ne _ ak,putO_ne _ ak,putO_ne _ ak,putO_ne _ ak];show Ob.arr _ _ _=Ob.arr _ _ _;rw[Bm]
  |takR j=>
   rw[putO_ne _ ak];by_cases e:j=k
   ·subst e;rw[fq];simp only[shape,fB];rw[jW,zQ,pJ]
   ·rw[putO_ne _ (by simpa using e),putO_ne _ ak,putO_ne _ ak];simp only[shape,gj a.rt vt e,gj nk (i+1) e,qv a.gt gt e]
  |prtR j=>
   by_cases e:j=k
   ·subst e;rw[fq];simp only[shape,fB];rw[jW,zQ,pJ]
   ·rw[putO_ne _ (by simpa using e),putO_ne _ ak,putO_ne _ ak,putO_ne _ ak];simp only[shape,gj a.rp vp e,gj nk (i+1) e,qv a.gp gp e]
  |nK j q=>
   rw[putO_ne _ ak,putO_ne _ ak];by_cases e:j=k
   ·subst e;by_cases e2:q=i
    ·subst e2;rw[fq];simp[shape,fB,pJ,h1]
    ·rw[putO_ne _ (by simpa using e2),putO_ne _ ak];simp only[shape,fB,pD a.gt gt e2,hk];by_cases h:q<i
     ·rw[aM h,aM ah]
     ·rw[aI h,aI ah]
   ·rw[putO_ne _ (by simp[e]),putO_ne _ ak];simp only[shape,gj nk (i+1) e,qv a.gt gt e]
  |prt j q=>
   rw[putO_ne _ ak,putO_ne _ ak,putO_ne _ ak];by_cases e:j=k
   ·subst e;by_cases e2:q=i
    ·subst e2;rw[fq];simp[shape,fB,pJ,h2]
    ·rw[putO_ne _ (by simpa using e2)];simp only[shape,fB,pD a.gp gp e2,pD a.vp (.slice none 0 0) e2,hk];by_cases h:q<i
     ·rw[aM h,aM ah]
     ·rw[aI h,aI ah]
   ·rw[putO_ne _ (by simp[e])];simp only[shape,gj nk (i+1) e,qv a.gp gp e,qv a.vp (.slice none 0 0) e]
  |_=>rw[putO_ne _ ak,putO_ne _ ak,putO_ne _ ak,putO_ne _ ak];rfl
theorem xg{vt vp:Value}{k nm ns:Nat}:iv (iv (iv (shape a ⟨nm,ns,k,nk⟩ p P fy c) .takA (.arr 229 vt ((List.range k).map a.rt++[a.rt k]))) .prtA (.arr 220 vp ((List.range k).map a.rp++[a.rp k]))) .im (.eW a.g 210 (((wL p.nd p.fa p.sk p.ji p.dr p.rd P.s P.l p.fr P.q fy a.ck a.mm a.sd a.tk a.pr c.rd).setIfInBounds 14 vt).setIfInBounds 15 vp))=shape {a with tk:=vt,pr:=vp} ⟨nm,ns,k+1,nk⟩ p P fy c:=by funext y;cases y with|im=>rfl|takA=>rw[putO_ne _ ak,putO_ne _ ak,fq];show _=Ob.arr _ vt _;rw[jW]|prtA=>rw[putO_ne _ ak,fq];show _=Ob.arr _ vp _;rw[jW]|_=>rw[putO_ne _ ak,putO_ne _ ak,putO_ne _ ak];rfl
end
def Ii(g:Nat)(v:Value):Ad:=⟨g,v,.slice none 0 0,.slice none 0 0,.slice none 0 0,.slice none 0 0,fun _=>0,fun _=>0,fun _=> .slice none 0 0,fun _=> .slice none 0 0,fun _ _=>0,fun _=> .slice none 0 0,fun _ _=>0,fun _ _=> .slice none 0 0⟩
def rB:Cn:=⟨0,0,0,fun _=>0⟩
theorem Jy{g:Nat}{v:Value}{p:Pl}{P:lz}{fy:Nat}{c:Cl}{x:Ix}{k:Nat}(h:k∈(shape (Ii g v) rB p P fy c x).eX):(x=.im/\k=g)\/(x=.jb/\v.ownBlock=some k):=by cases x with|im=>simp[shape,Ob.eX,Ii] at h;exact .inl ⟨rfl,h⟩|jb=>simp[shape,Ob.eX,Ii] at h;exact .inr ⟨rfl,h⟩|memA=>simp[shape,Ob.eX,Ii,rB,Value.ownBlock] at h|mem i=>simp[shape,Ob.eX,rB] at h|sndA=>simp[shape,Ob.eX,Ii,rB,Value.ownBlock] at h|snd i=>simp[shape,Ob.eX,rB] at h|takA=>simp[shape,Ob.eX,Ii,rB,Value.ownBlock] at h|takR i=>simp[shape,Ob.eX,Ii,rB,Value.ownBlock] at h|nK i j=>simp[shape,Ob.eX,rB] at h|prtA=>simp[shape,Ob.eX,Ii,rB,Value.ownBlock] at h|prtR i=>simp[shape,Ob.eX,Ii,rB,Value.ownBlock] at h|prt i j=>simp[shape,Ob.eX,rB] at h|loc i=>simp[shape,Ob.eX] at h
theorem JK{w8:World}{base:Nat}{p:Pl}{P:lz}{fy:Nat}{v:Value}{zs:List Int}(hq:fK w8 base 3 v (zs.map (Value.int .i64)))(hv: ∀k,v.ownBlock=some k->base<=k/\k<w8.heap.size)(hb:base<=w8.heap.size):fW (w8.alloc (.cells (wL p.nd p.fa p.sk p.ji p.dr p.rd P.s P.l p.fr P.q fy v (.slice none 0 0) (.slice none 0 0) (.slice none 0 0) (.slice none 0 0) 0) 210)) base (Ii w8.heap.size v) rB p P fy (gG p zs):=by
 refine⟨fun x=> ?_,fun x k h=> ?_,fun x y k hx hy=> ?_⟩
 ·cases x with|im=>exact eN.new w8 _ _|jb=>exact hq.alloc _|memA=>exact fK.nil _ _ _|mem i=>simp[shape,rB,Ob.At]|sndA=>exact fK.nil _ _ _|snd i=>simp[shape,rB,Ob.At]|takA=>exact fK.nil _ _ _|takR i=>exact fK.nil _ _ _|nK i j=>simp[shape,rB,Ob.At]|prtA=>exact fK.nil _ _ _|prtR i=>exact fK.nil _ _ _|prt i j=>simp[shape,rB,Ob.At]|loc i=>trivial
 ·rcases Jy h with ⟨_,rfl⟩|⟨_,e⟩
  ·simp;exact hb
  ·have:=hv k e;simp;omega
 ·rcases Jy hx with ⟨rfl,e1⟩|⟨rfl,e1⟩<;>rcases Jy hy with ⟨rfl,e2⟩|⟨rfl,e2⟩
  ·rfl
  ·have:=hv k e2;omega
  ·have:=hv k e1;omega
  ·rfl
section
variable {a:Ad}{p:Pl}{P:lz}{fy:Nat}{c:Cl}{na ns nm k gx g o cp:Nat}{nk:Nat->Nat}{w w' w2 w3:World}{base:Nat}
theorem fx.Oe(h:fW w base a ⟨k,ns,na,nk⟩ p P fy c)(s:base<=w.heap.size){x:Mm}(O:c.mm k=x)(hB:Below w.heap.size w w')(C:eN w' gx 261 (jn k p.nd.toNat x.m x.gd x.bd x.fz))(J:w.heap.size<=gx)(e:Below w'.heap.size w' w2)(K:fK w3 base 211 (.slice (some ⟨g,o,none⟩) (k+1) cp) ((List.range k).map (fun i=>fk (a.gm i))++[fk gx]))(z:w2.grownBy w3 a.mm.ownBlock)(I:a.mm.ownBlock=some g\/w2.heap.size<=g)(E:g<w3.heap.size):fW (w3.setCell ⟨a.g,12,none⟩ (.slice (some ⟨g,o,none⟩) (k+1) cp)) base {a with mm:=.slice (some ⟨g,o,none⟩) (k+1) cp,gm:=eV a.gm k gx} ⟨k+1,ns,na,nk⟩ p P fy c:=by have h1:fx w' base (iv (shape a ⟨k,ns,na,nk⟩ p P fy c) (.mem k) (.mem gx k p.nd.toNat x.m x.gd x.bd x.fz)):=fx.add h (.mem k) (.mem gx k p.nd.toNat x.m x.gd x.bd x.fz) hB C (fun q hm=>by simp[Ob.eX] at hm;subst hm;exact⟨C.lt,J⟩) s;have j:base<=w2.heap.size:=aK s (aK hB.size e.size);have h2:=h1.below e;have h3:=h2.rk .memA (v:=a.mm) (l:=(List.range k).map (fun i=>fk (a.gm i))) (by rw[putO_ne _ ak];rfl) (u:=fk gx) (g:=g) (o:=o) (cp:=cp) (by simpa using K) z I E j;have h4:=h3.nb .im (g:=a.g) (by rw[putO_ne _ ak,putO_ne _ ak];rfl) 12 (.slice (some ⟨g,o,none⟩) (k+1) cp) (aK j z.size);simp only[aY,br] at h4;rw[yx x O] at h4;exact h4
theorem fx.Lx(h:fW w base a ⟨k,ns,na,nk⟩ p P fy c)(hB:Below w.heap.size w w2)(j:w2.grownBy w3 a.mm.ownBlock):eN w3 a.g 210 (wL p.nd p.fa p.sk p.ji p.dr p.rd P.s P.l p.fr P.q fy a.ck a.mm a.sd a.tk a.pr c.rd):=((gA h).below hB (gA h).lt).grown j (fun e=>by have:=h.sep .im .memA a.g (by simp[shape,Ob.eX]) (by simp[shape,Ob.eX,<-e]);cases this)
theorem fx.Nn(h:fW w base a ⟨nm,k,na,nk⟩ p P fy c)(s:base<=w.heap.size){l:Lk}(hl:p.lk[k]? =some l)(hs:c.sd k=⟨0,-1,0,[]⟩)(hB:Below w.heap.size w w')(C:eN w' gx 264 (Gr l.f l.t l.b l.q (.slice none 0 0) 0 (-1) 0))(J:w.heap.size<=gx)(e:Below w'.heap.size w' w2)(K:fK w3 base 217 (.slice (some ⟨g,o,none⟩) (k+1) cp) ((List.range k).map (fun i=>fk (a.gs i))++[fk gx]))(z:w2.grownBy w3 a.sd.ownBlock)(I:a.sd.ownBlock=some g\/w2.heap.size<=g)(E:g<w3.heap.size):fW (w3.setCell ⟨a.g,13,none⟩ (.slice (some ⟨g,o,none⟩) (k+1) cp)) base {a with sd:=.slice (some ⟨g,o,none⟩) (k+1) cp,gs:=eV a.gs k gx,vs:=eV a.vs k (.slice none 0 0)} ⟨nm,k+1,na,nk⟩ p P fy c:=by have h1:fx w' base (iv (shape a ⟨nm,k,na,nk⟩ p P fy c) (.snd k) (.snd gx (.slice none 0 0) l.f l.t l.b l.q 0 (-1) 0 [])):=fx.add h (.snd k) (.snd gx (.slice none 0 0) l.f l.t l.b l.q 0 (-1) 0 []) hB ⟨C,fK.nil _ _ _,by simp[Value.ownBlock]⟩ (fun q hm=>by simp[Ob.eX,Value.ownBlock] at hm;subst hm;exact⟨C.lt,J⟩) s;have j:base<=w2.heap.size:=aK s (aK hB.size e.size);have h2:=h1.below e;have h3:=h2.rk .sndA (v:=a.sd) (l:=(List.range k).map (fun i=>fk (a.gs i))) (by rw[putO_ne _ ak];rfl) (u:=fk gx) (g:=g) (o:=o) (cp:=cp) (by simpa using K) z I E j;have h4:=h3.nb .im (g:=a.g) (by rw[putO_ne _ ak,putO_ne _ ak];rfl) 13 (.slice (some ⟨g,o,none⟩) (k+1) cp) (aK j z.size);simp only[aY,br] at h4;rw[yw hl hs] at h4;exact h4
theorem fx.MK(h:fW w base a ⟨nm,k,na,nk⟩ p P fy c)(hB:Below w.heap.size w w2)(j:w2.grownBy w3 a.sd.ownBlock):eN w3 a.g 210 (wL p.nd p.fa p.sk p.ji p.dr p.rd P.s P.l p.fr P.q fy a.ck a.mm a.sd a.tk a.pr c.rd):=((gA h).below hB (gA h).lt).grown j (fun e=>by have:=h.sep .im .sndA a.g (by simp[shape,Ob.eX]) (by simp[shape,Ob.eX,<-e]);cases this)
theorem fx.Qj(h:fW w base a ⟨k,ns,na,nk⟩ p P fy c):fK w base 211 a.mm ((List.range k).map fun i=>fk (a.gm i)):=h.at_ .memA
theorem fx.QG(h:fW w base a ⟨nm,k,na,nk⟩ p P fy c):fK w base 217 a.sd ((List.range k).map fun i=>fk (a.gs i)):=h.at_ .sndA
theorem fx.P6(h:fW w base a ⟨nm,ns,k,nk⟩ p P fy c):fK w base 229 a.tk ((List.range k).map a.rt):=h.at_ .takA
theorem fx.Pq(h:fW w base a ⟨nm,ns,k,nk⟩ p P fy c):fK w base 220 a.pr ((List.range k).map a.rp):=h.at_ .prtA
theorem fx.M8(h:fW w base a ⟨nm,ns,na,nk⟩ p P fy c):fK w base 232 (a.rt k) ((List.range (nk k)).map fun i=>fk (a.gt k i)):=h.at_ (.takR k)
theorem fx.Nc(h:fW w base a ⟨nm,ns,na,nk⟩ p P fy c):fK w base 219 (a.rp k) ((List.range (nk k)).map fun i=>fk (a.gp k i)):=h.at_ (.prtR k)
end
section
variable {a:Ad}{p:Pl}{P:lz}{fy:Nat}{c:Cl}{ns nm k i gt gp g o cp g' o' cp':Nat}{nk:Nat->Nat}{w w1 w2 w3 w4 w5 w6:World}{base:Nat}
theorem fx.ON(h:fW w base a ⟨nm,ns,k,nk⟩ p P fy c)(E:base<=w.heap.size)(hk:nk k=i)(h1:c.tk k i=⟨-1,0,0⟩)(h2:c.pr k i=⟨0,[]⟩)(hB:Below w.heap.size w w1)(O:eN w1 gp 266 (GC 16 (.slice none 0 0) 0))(ad:w.heap.size<=gp)(z:Below w1.heap.size w1 w2)(I:eN w2 gt 275 #[.int .i64 (-1),.int .i64 0,.int .i64 0])(X:w1.heap.size<=gt)(T:Below w2.heap.size w2 w3)(aa:fK w4 base 232 (.slice (some ⟨g,o,none⟩) (i+1) cp) ((List.range i).map (fun j=>fk (a.gt k j))++[fk gt]))(s:w3.grownBy w4 (a.rt k).ownBlock)(am:(a.rt k).ownBlock=some g\/w3.heap.size<=g)(ac:g<w4.heap.size)(C:Below w4.heap.size w4 w5)(a0:fK w6 base 219 (.slice (some ⟨g',o',none⟩) (i+1) cp') ((List.range i).map (fun j=>fk (a.gp k j))++[fk gp]))(a2:w5.grownBy w6 (a.rp k).ownBlock)(al:(a.rp k).ownBlock=some g'\/w5.heap.size<=g')(a3:g'<w6.heap.size):fW w6 base {a with rt:=eV a.rt k (.slice (some ⟨g,o,none⟩) (i+1) cp),rp:=eV a.rp k (.slice (some ⟨g',o',none⟩) (i+1) cp'),gt:=fM a.gt k i gt,gp:=fM a.gp k i gp,vp:=fM a.vp k i (.slice none 0 0)} ⟨nm,ns,k,eV nk k (i+1)⟩ p P fy c:=by have aA:fx w1 base (iv (shape a ⟨nm,ns,k,nk⟩ p P fy c) (.prt k i) (.prt gp (.slice none 0 0) 16 0 [])):=fx.add h (.prt k i) (.prt gp (.slice none 0 0) 16 0 []) hB ⟨O,fK.nil _ _ _,by simp[Value.ownBlock]⟩ (fun q hm=>by simp[Ob.eX,Value.ownBlock] at hm;subst hm;exact⟨O.lt,ad⟩) E;have K:=aK E hB.size;have U:=fx.add aA (.nK k i) (.nK gt (-1) 0 0) z I (fun q hm=>by simp[Ob.eX] at hm;subst hm;exact⟨I.lt,X⟩) K;have J:=aK (aK K z.size) T.size;have Y:=U.below T;have ao:=Y.rk (.takR k) (v:=a.rt k) (l:=(List.range i).map (fun j=>fk (a.gt k j))) (by rw[putO_ne _ ak,putO_ne _ ak];show Ob.arr _ (a.rt k) ((List.range (nk k)).map fun j=>fk (a.gt k j))=_;rw[hk]) (u:=fk gt) (g:=g) (o:=o) (cp:=cp) (by simpa using aa) s am ac J;have Z:=aK (aK J s.size) C.size;have ap:=ao.below C;have e:=ap.rk (.prtR k) (v:=a.rp k) (l:=(List.range i).map (fun j=>fk (a.gp k j))) (by rw[putO_ne _ ak,putO_ne _ ak,putO_ne _ ak];show Ob.arr _ (a.rp k) ((List.range (nk k)).map fun j=>fk (a.gp k j))=_;rw[hk]) (u:=fk gp) (g:=g') (o:=o') (cp:=cp') (by simpa using a0) a2 al a3 Z;simp only[aY,br] at e;rw[zj hk h1 h2] at e;exact e
theorem fx.Kx(h:fW w base a ⟨nm,ns,k,nk⟩ p P fy c)(aA:base<=w.heap.size)(ac:fK w3 base 229 (.slice (some ⟨g,o,none⟩) (k+1) cp) ((List.range k).map a.rt++[a.rt k]))(ao:fK w3 base 220 (.slice (some ⟨g',o',none⟩) (k+1) cp') ((List.range k).map a.rp++[a.rp k]))(hk:ka w w3 ((shape a ⟨nm,ns,k,nk⟩ p P fy c .takA).eX++(shape a ⟨nm,ns,k,nk⟩ p P fy c .prtA).eX))(U:a.tk.ownBlock=some g\/w.heap.size<=g)(T:a.pr.ownBlock=some g'\/w.heap.size<=g')(O:g≠g')(u:g<w3.heap.size)(a4:g'<w3.heap.size):fW ((w3.setCell ⟨a.g,14,none⟩ (.slice (some ⟨g,o,none⟩) (k+1) cp)).setCell ⟨a.g,15,none⟩ (.slice (some ⟨g',o',none⟩) (k+1) cp')) base {a with tk:=.slice (some ⟨g,o,none⟩) (k+1) cp,pr:=.slice (some ⟨g',o',none⟩) (k+1) cp'} ⟨nm,ns,k+1,nk⟩ p P fy c:=by
 have Z:=aK aA hk.size;have ad: ∀x,x≠ .takA->x≠ .prtA->∀b,b∈(shape a ⟨nm,ns,k,nk⟩ p P fy c x).eX->b∉(shape a ⟨nm,ns,k,nk⟩ p P fy c .takA).eX++(shape a ⟨nm,ns,k,nk⟩ p P fy c .prtA).eX:=fun x h1 h2 b hm a2=>by
  rcases bY.1 a2 with h3|h3
  ·exact h1 (h.sep x .takA b hm h3)
  ·exact h2 (h.sep x .prtA b hm h3)
 have e:fx w3 base (iv (iv (shape a ⟨nm,ns,k,nk⟩ p P fy c) .takA (.arr 229 (.slice (some ⟨g,o,none⟩) (k+1) cp) ((List.range k).map a.rt++[a.rt k]))) .prtA (.arr 220 (.slice (some ⟨g',o',none⟩) (k+1) cp') ((List.range k).map a.rp++[a.rp k]))):=by
  have Y: ∀b,b∈(Ob.arr 229 (.slice (some ⟨g,o,none⟩) (k+1) cp) ((List.range k).map a.rt++[a.rt k])).eX->b=g:=fun b hm=>by simpa[Ob.eX,Value.ownBlock,eq_comm] using hm
  have C: ∀b,b∈(Ob.arr 220 (.slice (some ⟨g',o',none⟩) (k+1) cp') ((List.range k).map a.rp++[a.rp k])).eX->b=g':=fun b hm=>by simpa[Ob.eX,Value.ownBlock,eq_comm] using hm
  have I:a.tk.ownBlock=some g->g∈(shape a ⟨nm,ns,k,nk⟩ p P fy c .takA).eX:=fun e=>by simp[shape,Ob.eX,e]
  have aa:a.pr.ownBlock=some g'->g'∈(shape a ⟨nm,ns,k,nk⟩ p P fy c .prtA).eX:=fun e=>by simp[shape,Ob.eX,e]
  refine⟨fun x=> ?_,fun x b hm=> ?_,fun x y b am al=> ?_⟩
  ·by_cases j:x=.prtA
   ·subst j;rw[fq];exact ao
   ·rw[putO_ne _ j];by_cases s:x=.takA
    ·subst s;rw[fq];exact ac
    ·rw[putO_ne _ s];exact(h.at_ x).iP (fun b u hm=>hk.block b u (ad x s j b hm))
  ·by_cases j:x=.prtA
   ·subst j;rw[fq] at hm;obtain rfl:=C b hm;exact⟨T.elim (fun e=>(h.own .prtA _ (aa e)).1) (fun e=>ah),a4⟩
   ·rw[putO_ne _ j] at hm;by_cases s:x=.takA
    ·subst s;rw[fq] at hm;obtain rfl:=Y b hm;exact⟨U.elim (fun e=>(h.own .takA _ (I e)).1) (fun e=>ah),u⟩
    ·rw[putO_ne _ s] at hm;exact⟨(h.own x b hm).1,aN (h.own x b hm).2 hk.size⟩
  ·have cls: ∀x b,b∈(iv (iv (shape a ⟨nm,ns,k,nk⟩ p P fy c) .takA (.arr 229 (.slice (some ⟨g,o,none⟩) (k+1) cp) ((List.range k).map a.rt++[a.rt k]))) .prtA (.arr 220 (.slice (some ⟨g',o',none⟩) (k+1) cp') ((List.range k).map a.rp++[a.rp k])) x).eX->(x=.prtA/\b=g')\/(x=.takA/\b=g)\/(x≠ .takA/\x≠ .prtA/\b∈(shape a ⟨nm,ns,k,nk⟩ p P fy c x).eX):=fun x b hm=>by
    by_cases j:x=.prtA
    ·subst j;rw[fq] at hm;exact .inl ⟨rfl,C b hm⟩
    ·rw[putO_ne _ j] at hm;by_cases s:x=.takA
     ·subst s;rw[fq] at hm;exact .inr (.inl ⟨rfl,Y b hm⟩)
     ·rw[putO_ne _ s] at hm;exact .inr (.inr ⟨s,j,hm⟩)
   have E: ∀x,x≠ .takA->g∉(shape a ⟨nm,ns,k,nk⟩ p P fy c x).eX:=fun x h1 hm=>U.elim (fun e=>h1 (h.sep x .takA g hm (I e))) (fun e=>by have:=(h.own x g hm).2;omega);have K: ∀x,x≠ .prtA->g'∉(shape a ⟨nm,ns,k,nk⟩ p P fy c x).eX:=fun x h1 hm=>T.elim (fun e=>h1 (h.sep x .prtA g' hm (aa e))) (fun e=>by have:=(h.own x g' hm).2;omega);rcases cls x b am with ⟨rfl,s⟩|⟨rfl,s⟩|⟨n1,a3,s⟩<;>rcases cls y b al with ⟨rfl,j⟩|⟨rfl,j⟩|⟨m1,m2,j⟩
   ·rfl
   ·exact absurd (j.symm.trans s) O
   ·subst s;exact absurd j (K y m2)
   ·exact absurd (s.symm.trans j) O
   ·rfl
   ·subst s;exact absurd j (E y m1)
   ·subst j;exact absurd s (K x a3)
   ·subst j;exact absurd s (E x n1)
   ·exact h.sep x y b s j
 have a0:=e.nb .im (g:=a.g) (by rw[putO_ne _ ak,putO_ne _ ak];rfl) 14 (.slice (some ⟨g,o,none⟩) (k+1) cp) Z;have J:=a0.nb .im (fq _ _) 15 (.slice (some ⟨g',o',none⟩) (k+1) cp') (by simpa[World.setCell] using Z);have ap: ∀(S:Ix->Ob)(X z:Ob),iv (iv S .im X) .im z=iv S .im z:=fun S X z=>by
  funext y;by_cases e:y=.im
  ·subst e;rw[fq,fq]
  ·rw[putO_ne _ e,putO_ne _ e,putO_ne _ e]
 rw[ap,xg] at J;exact J
end
theorem mQ{wr W0 w8:World}{r:Option Nat}(_:W0.grownBy w8 r)(h:Below wr.heap.size wr W0):Below wr.heap.size wr W0:=h
theorem mM{wr W0 w8:World}{v:Value}(hB:Below wr.heap.size wr W0)(h:W0.grownBy w8 v.ownBlock):ka wr w8 v.ownBlock.toList/\∀b,b<W0.heap.size->v.ownBlock≠some b->∀o,w8.cell? ⟨b,o,none⟩=W0.cell? ⟨b,o,none⟩:=⟨⟨h.os.trans hB.os,h.tape.trans hB.tape,h.output.trans hB.output,aK hB.size h.size,fun i hi hn=>(h.block i (aN hi hB.size) (fun e=>hn (by simp[<-e]))).trans (hB.block i hi)⟩,fun b s j o=>fj (h.block b s (fun e=>j e.symm)) o⟩
section
variable {a:Ad}{p:Pl}{P:lz}{fy:Nat}{c:Cl}{ns nm k g o cp g' o' cp':Nat}{nk:Nat->Nat}{w W0 w8 W1 w9:World}{base:Nat}
theorem fx.uU(h:fW w base a ⟨nm,ns,k,nk⟩ p P fy c)(X:base<=w.heap.size)(hB:Below w.heap.size w W0)(Z:fK w8 base 229 (.slice (some ⟨g,o,none⟩) (k+1) cp) ((List.range k).map a.rt++[a.rt k]))(Y:W0.grownBy w8 a.tk.ownBlock)(I:a.tk.ownBlock=some g\/W0.heap.size<=g)(K:g<w8.heap.size)(C:Below w8.heap.size w8 W1)(O:fK w9 base 220 (.slice (some ⟨g',o',none⟩) (k+1) cp') ((List.range k).map a.rp++[a.rp k]))(T:W1.grownBy w9 a.pr.ownBlock)(E:a.pr.ownBlock=some g'\/W1.heap.size<=g')(ad:g'<w9.heap.size):fW ((w9.setCell ⟨a.g,14,none⟩ (.slice (some ⟨g,o,none⟩) (k+1) cp)).setCell ⟨a.g,15,none⟩ (.slice (some ⟨g',o',none⟩) (k+1) cp')) base {a with tk:=.slice (some ⟨g,o,none⟩) (k+1) cp,pr:=.slice (some ⟨g',o',none⟩) (k+1) cp'} ⟨nm,ns,k+1,nk⟩ p P fy c/\ka w w9 (a.tk.ownBlock.toList++a.pr.ownBlock.toList)/\eN w9 a.g 210 (wL p.nd p.fa p.sk p.ji p.dr p.rd P.s P.l p.fr P.q fy a.ck a.mm a.sd a.tk a.pr c.rd):=by
 have al: ∀q,a.tk.ownBlock=some q->q<w.heap.size:=fun q e=>(h.own .takA q (by simp[shape,Ob.eX,e])).2;have U: ∀q,a.pr.ownBlock=some q->q<w.heap.size:=fun q e=>(h.own .prtA q (by simp[shape,Ob.eX,e])).2;have sp: ∀q,a.tk.ownBlock=some q->a.pr.ownBlock≠some q:=fun q e J=>by have:=h.sep .takA .prtA q (by simp[shape,Ob.eX,e]) (by simp[shape,Ob.eX,J]);cases this
 have u:=(mM hB Y).1;have j:=(mM C T).1;have hk:ka w w9 (a.tk.ownBlock.toList++a.pr.ownBlock.toList):=⟨j.os.trans u.os,j.tape.trans u.tape,j.output.trans u.output,aK u.size j.size,fun i hi hn=>(j.block i (aN hi u.size) (fun hm=>hn (List.mem_append_right _ hm))).trans (u.block i hi (fun hm=>hn (List.mem_append_left _ hm)))⟩;have gp:a.pr.ownBlock≠some g:=fun e=>I.elim (fun z=>sp g z e) (fun z=>by have:=U g e;have:=hB.size;omega);have aa:g≠g':=fun e=>by subst e;exact E.elim (fun z=>gp z) (fun z=>by have:=C.size;omega)
 have ac:fK w9 base 229 (.slice (some ⟨g,o,none⟩) (k+1) cp) ((List.range k).map a.rt++[a.rt k]):=Z.iP (fun q _ hq e=>by cases e;exact j.block g hq (fun hm=>gp (by simpa using hm)));refine⟨h.Kx X ac O hk (I.imp id (fun e=>aK hB.size e)) (E.imp id (fun e=>aK (aK u.size C.size) e)) aa (aN K j.size) ad,hk, ?_⟩;refine(hk.block a.g (gA h).lt (fun hm=> ?_)).trans (gA h);rcases bY.1 hm with hm|hm
 ·have:=h.sep .im .takA a.g (by simp[shape,Ob.eX]) (by simpa[shape,Ob.eX] using hm);cases this
 ·have:=h.sep .im .prtA a.g (by simp[shape,Ob.eX]) (by simpa[shape,Ob.eX] using hm);cases this
end
def tL(rs:List (List Int))(i k:Nat):Int:=(rs.getD i []).getD k 0
structure jw (p:Pl) (fy:Nat) (c:List Int) (rs:List (List Int)):Prop where
 len:rs.length=p.nd.toNat
 row: ∀i,i<p.nd.toNat→(rs.getD i []).length=p.nd.toNat
 bd: ∀i k,i<p.nd.toNat→k<p.nd.toNat→-700000000000≤tL rs i k∧tL rs i k≤700000000000
 Rk: ∀i k,i<p.nd.toNat→k<p.nd.toNat→fu fy k=false→c.getD k 0-c.getD i 0-p.ji≤tL rs i k∧tL rs i k≤c.getD k 0-c.getD i 0+p.ji
theorem mR{x m:Int}(hm:0<=m):-m<=gF x m/\gF x m<=m:=by unfold gF;omega
theorem jy{α:Type}(f:Nat->α)(d:α){n i:Nat}(h:i<n):((List.range n).map f).getD i d=f i:=by simp[List.getD,h]
theorem nz{α:Type}(l:List α)(d x:α){i:Nat}(h:i<l.length):(l.set i x).getD i d=x:=by simp[List.getD,h]
theorem getD_set_ne{α:Type}(l:List α)(d x:α){i j:Nat}(h:j≠i):(l.set i x).getD j d=l.getD j d:=by simp only[List.getD];rw[List.getElem?_set_ne ah]
section
variable {p:Pl}{fy:Nat}{c:List Int}{rs:List (List Int)}
theorem jw.zero(hp:gl p)(e: ∀j,-274877906944<=c.getD j 0/\c.getD j 0<=274877906944):jw p fy c (qf c p.nd.toNat):=by
 have he: ∀i k,i<p.nd.toNat->k<p.nd.toNat->tL (qf c p.nd.toNat) i k=c.getD k 0-c.getD i 0:=by intro i k hi hk;unfold tL qf;rw[jy _ _ hi,jy _ _ hk]
 refine⟨by simp[qf],fun i hi=>by unfold qf;rw[jy _ _ hi];simp,fun i k hi hk=> ?_,fun i k hi hk _=> ?_⟩
 ·rw[he i k hi hk];have:=e i;have:=e k;omega
 ·rw[he i k hi hk];have:=hp.ji;omega
theorem jw.eS(hp:gl p)(h:jw p fy c rs){i k:Nat}(hi:i<p.nd.toNat)(hk:k<p.nd.toNat){x:Int}(I:-700000000000<=x/\x<=700000000000)(E:fu fy k=false->c.getD k 0-c.getD i 0-p.ji<=x/\x<=c.getD k 0-c.getD i 0+p.ji):jw p fy c (setRow rs i k x):=by
 have _:=hp;have hl:=h.len;have C:=h.row i hi;have he: ∀a b,tL (setRow rs i k x) a b=if a=i/\b=k then x else tL rs a b:=by
  intro a b;unfold tL setRow;by_cases e:a=i
  ·subst e;rw[nz _ _ _ ah];by_cases s:b=k
   ·subst s;rw[nz _ _ _ ah,aM ⟨rfl,rfl⟩]
   ·rw[getD_set_ne _ _ _ s,aI (fun h=>s h.2)]
  ·rw[getD_set_ne _ _ _ e,aI (fun h=>e h.1)]
 refine⟨by simp[setRow,hl],fun a j=> ?_,fun a b j u=> ?_,fun a b j u z=> ?_⟩
 ·unfold setRow;by_cases e:a=i
  ·subst e;rw[nz _ _ _ ah,List.length_set];exact C
  ·rw[getD_set_ne _ _ _ e];exact h.row a j
 ·rw[he];split
  ·exact I
  ·exact h.bd a b j u
 ·rw[he];split
  ·rename_i e;obtain⟨rfl,rfl⟩:=e;exact E z
  ·exact h.Rk a b j u z
theorem jw.read(hp:gl p)(e: ∀j,-274877906944<=c.getD j 0/\c.getD j 0<=274877906944)(h:jw p fy c rs)(x:Rg):jw p fy c (pf p fy c rs x):=by
 unfold pf;split
 ·exact h
 ·rename_i hn;have u:=hp.ji;have h1:=e x.o.toNat;have h2:=e x.n.toNat;have h3:=mR (x:=x.i) (m:=549755813888) ah;have h4:=mR (x:=x.i) u.1;refine h.eS hp ah ah ?_ ?_
  ·split<;>omega
  ·intro s;rw[aI (by rw[s];decide)];omega
theorem jw.reads(hp:gl p)(e: ∀j,-274877906944<=c.getD j 0/\c.getD j 0<=274877906944)(h:jw p fy c rs)(l:List Rg):jw p fy c (l.foldl (pf p fy c) rs):=by induction l generalizing rs with|nil=>exact h|cons x l s=>exact s (h.read hp e x)
theorem jw.eq(h:jw p fy c rs){i:Nat}(hi:i<p.nd.toNat):rs.getD i []=(List.range p.nd.toNat).map (tL rs i):=by
 apply List.ext_getElem?;intro k;by_cases hk:k<p.nd.toNat
 ·simp only[bp,List.getElem?_range hk,dJ];unfold tL;rw[aL (l:=rs.getD i []),aF (by rw[h.row i hi];exact hk)];rfl
 ·rw[bS (by rw[h.row i hi];omega),bS ag]
theorem jw.Q9(hp:gl p)(h:jw p fy c rs){i:Nat}(hi:i<p.nd.toNat):lL (rs.getD i []) p.fa=0/\ly (rs.getD i []) p.fa=wY ((List.range p.nd.toNat).map (tL rs i)) p.fa.toNat:=by
 have h1:=hp.f0;have h2:=hp.f3;have s:(rs.getD i []).any jE=false:=by rw[dw];intro x j;rw[h.eq hi] at j;obtain⟨k,hk,rfl⟩:=cX.1 j;have:=h.bd i k hi (dc.1 hk);simp[jE];omega
 have e:lL (rs.getD i []) p.fa=0:=by unfold lL;rw[h.row i hi,aI ah,aI (by rw[s];decide)]
 exact⟨e,by unfold ly;rw[aM e,h.eq hi]⟩
theorem Hd(zs:List Int)(rs:List (List Int))(f:Int){k j:Nat}(e:j<k):(my zs rs f k).getD j 0=zs.getD j 0+ly (rs.getD j []) f:=by simp only[my,List.getD,bp,List.getElem?_range e,dJ,cB]
theorem jw.I9(hp:gl p)(h:jw p fy c rs)(e: ∀j,-274877906944<=c.getD j 0/\c.getD j 0<=274877906944){i:Nat}(hi:i<p.nd.toNat):kW p.nd.toNat p.fa (c.getD i 0) (rs.getD i [])=0:=by unfold kW;rw[aI (by rw[h.row i hi];simp),aI (by have:=e i;simp only[jE,dA,bI];omega)];exact(h.Q9 hp hi).1
theorem qS(zs dr:List Int):(lI p zs dr).length=zs.length:=by simp[lI]
theorem CN(zs dr:List Int){j:Nat}(e:j<zs.length):(lI p zs dr).getD j 0=zs.getD j 0+(if j<dr.length then gF (dr.getD j 0) p.dr else 0):=by unfold lI;rw[jy _ _ e]
def ny(fy:Nat)(c:List Int)(n:Nat)(d:Int):Prop:= ∀i j,i<n->j<n->fu fy i=false->fu fy j=false->c.getD i 0-c.getD j 0<=d
def jY(fy n:Nat):Nat:=(List.range n).countP (fun k=>fu fy k)
theorem oU(hp:gl p)(hl:(jY fy p.nd.toNat:Int)<=p.fa): ∃k,k<p.nd.toNat/\fu fy k=false:=by
 have h1:=hp.f0;have h2:=hp.f3;have h3:=hp.n1;by_cases e: ∃k,k<p.nd.toNat/\fu fy k=false
 ·exact e
 ·have:(List.range p.nd.toNat).countP (fun k=>fu fy k)=(List.range p.nd.toNat).length:=by
   rw[List.countP_eq_length];intro k hk;cases h:fu fy k
   ·exact absurd ⟨k,dc.1 hk,h⟩ e
   ·rfl
  unfold jY at hl;rw[this,br] at hl;omega
end
theorem fv{w w':World}{base size n:Nat}{e:TypeId}{v:Value}{xs:List Value}(h:w.ownsRow base e size v n xs)(hk: ∀g,v.ownBlock=some g->w'.heap[g]? =w.heap[g]?):w'.ownsRow base e size v n xs:=by
 refine⟨h.1, ?_⟩;rcases h.2 with h1|⟨g,cap,cur,rfl,s,j,rest⟩
 ·exact .inl h1
 ·exact .inr ⟨g,cap,cur,rfl,s,(hk g rfl).trans j,rest⟩
structure Kc (w:World) (base n:Nat) (V:Nat→Value) (R:Nat→List Int):Prop where
 own: ∀j,j≤n→w.ownsRow base 3 1 (V j) (R j).length ((R j).map (Value.int .i64))
 ne: ∀i j,i≤n→j≤n→i≠j→(V i).ownBlock=none∨(V i).ownBlock≠(V j).ownBlock
theorem Kc.iP{w w':World}{base n:Nat}{V:Nat->Value}{R:Nat->List Int}(h:Kc w base n V R)(hk: ∀g,base<=g->g<w.heap.size->w'.heap[g]? =w.heap[g]?):Kc w' base n V R:=⟨fun j s=>fv (h.own j s) fun g e=>hk g ((h.own j s).lt g e).1 ((h.own j s).lt g e).2,h.ne⟩
theorem Kc.congr{w:World}{base n:Nat}{V:Nat->Value}{R s:Nat->List Int}(h:Kc w base n V R)(e: ∀j,j<=n->R j=s j):Kc w base n V s:=⟨fun j u=>by rw[<-e j u];exact h.own j u,h.ne⟩
def uW{α:Type}(V:Nat->α)(i:Nat)(v:α):Nat->α:=fun j=>if j=i then v else V j
theorem Kc.push{w w8:World}{base n i:Nat}{V:Nat->Value}{R:Nat->List Int}{v8:Value}{x:Int}(h:Kc w base n V R)(hi:i<=n)(T:w8.ownsRow base 3 1 v8 ((R i).length+1) ((R i).map (Value.int .i64)++[.int .i64 x]))(U:w.grownBy w8 (V i).ownBlock)(hw:v8.ownBlock=(V i).ownBlock\/∀k,v8.ownBlock=some k->w.heap.size<=k):Kc w8 base n (uW V i v8) (uW R i (R i++[x])):=by
 have O: ∀j,j<=n->∀k,(V j).ownBlock=some k->k<w.heap.size:=fun j u k e=>((h.own j u).lt k e).2;refine⟨fun j u=> ?_,fun a b J I C=> ?_⟩
 ·unfold uW;by_cases e:j=i
  ·rw[aM e,aM e];simpa using T
  ·rw[aI e,aI e];refine fv (h.own j u) fun g z=>U.block g (O j u g z) ?_;rcases h.ne j i u hi e with h1|h1
   ·rw[h1] at z;cases z
   ·rw[z] at h1;exact h1
 ·unfold uW;by_cases E:a=i
  ·have s:b≠i:=fun e=>C (E.trans e.symm);rw[aM E,aI s];rcases hw with hw|hw
   ·rw[hw,<-E];exact h.ne a b J I C
   ·cases e:v8.ownBlock with|none=>exact .inl rfl|some k=>exact .inr fun K=>by have:=O b I k K.symm;have:=hw k e;omega
  ·rw[aI E];by_cases s:b=i
   ·rw[aM s];rcases hw with hw|hw
    ·rw[hw,<-s];exact h.ne a b J I C
    ·cases e:(V a).ownBlock with|none=>exact .inl rfl|some k=>exact .inr fun K=>by have:=O a J k e;have:=hw k K.symm;omega
   ·rw[aI s];exact h.ne a b J I C
structure jQ (w7 wr:World) (n:Nat) (V:Nat→Value) (R:Nat→List Int):Prop where
 gJ:Kc wr (w7.heap.size+1) n V R
 hd: ∃H,eN wr w7.heap.size 33 H∧H.size=n∧∀j,j<n→H[j]? =some (V j)
 old:Below w7.heap.size w7 wr
section
variable {w7 wr w8:World}{n i:Nat}{V:Nat->Value}{R:Nat->List Int}{v8:Value}{x:Int}
theorem jQ.sz(h:jQ w7 wr n V R):w7.heap.size<wr.heap.size:=by obtain⟨H,e,_⟩:=h.hd;exact e.lt
theorem jQ.cell(h:jQ w7 wr n V R){j:Nat}(s:j<n):wr.cell? ⟨w7.heap.size,j,none⟩=some (V j):=by obtain⟨H,u,_,e⟩:=h.hd;rw[u.cell j,e j s]
theorem jQ.drewN(h:jQ w7 wr n V R)(q:Nat):jQ w7 (wr.drewN q) n V R:=⟨h.gJ.iP fun _ _ _=>rfl,by obtain⟨H,e,h2⟩:=h.hd;exact⟨H,e.drewN q,h2⟩,below_drewN h.old q⟩
theorem jQ.alloc(h:jQ w7 wr n V R)(o:Obj):jQ w7 (wr.alloc o) n V R:=⟨h.gJ.iP fun g _ hl=>bu wr o g hl,by obtain⟨H,e,h2⟩:=h.hd;exact⟨H,e.alloc o,h2⟩,h.old.alloc (bM h.sz) o⟩
theorem jQ.congr{s:Nat->List Int}(h:jQ w7 wr n V R)(e: ∀j,j<=n->R j=s j):jQ w7 wr n V s:=⟨h.gJ.congr e,h.hd,h.old⟩
theorem jQ.nh(h:jQ w7 wr n V R)(hi:i<=n):some w7.heap.size≠(V i).ownBlock:=fun e=>by have:=((h.gJ.own i hi).lt _ e.symm).1;omega
theorem jQ.row(h:jQ w7 wr n V R)(hi:i<n)(C:w8.ownsRow (w7.heap.size+1) 3 1 v8 ((R i).length+1) ((R i).map (Value.int .i64)++[.int .i64 x]))(s:wr.grownBy w8 (V i).ownBlock)(hw:v8.ownBlock=(V i).ownBlock\/∀k,v8.ownBlock=some k->wr.heap.size<=k):jQ w7 (w8.setCell ⟨w7.heap.size,i,none⟩ v8) n (uW V i v8) (uW R i (R i++[x])):=by
 have z:=h.gJ.push (bM hi) C s hw;refine⟨z.iP fun g u _=>aW w8 _ v8 g (by show g≠w7.heap.size;omega), ?_, ?_⟩
 ·obtain⟨H,u,h2,h3⟩:=h.hd;refine⟨H.setIfInBounds i v8,(u.grown s (h.nh (bM hi))).eS i v8,by rw[Array.size_setIfInBounds];exact h2,fun j E=> ?_⟩;unfold uW;by_cases e:j=i
  ·subst e;rw[aM rfl,Array.getElem?_setIfInBounds_self,aM ah]
  ·rw[aI e,Array.getElem?_setIfInBounds_ne (eC e)];exact h3 j E
 ·exact(h.old.grown s (bM h.sz) (fun k e=>by have:=((h.gJ.own i (bM hi)).lt k e).1;omega)).setCell (ar) _
end
theorem xG:(prog.info? 33).map (fun i=>(i.zero,i.size,i.bytes))=some (some (.slice none 0 0),1,24):=ai
theorem ES(n:Nat)(hn:n<=1000): ∃cs:Array Value,(∀w:World,(Instr.makeSlice 147 (.int .i64 n) (.int .i64 n)).run prog w=.ok (.slice (some ⟨w.heap.size,0,none⟩) n n) (w.alloc (.cells cs 33)))/\cs.size=n/\∀k,k<n->cs[k]? =some (.slice none 0 0):=by
 obtain⟨i0,hi,h,e,j⟩:=eR xG;refine⟨madeCells (Value.slice none 0 0).cells ((n:Int).toNat*i0.size),fun w=> ?_,by rw[size_madeCells,e];simp, ?_⟩
 ·have:=run_makeSlice (P:=prog) w 147 33 i0 (.slice none 0 0) underlying147 hi h .i64 .i64 n n ah ah (by rw[e];simp;omega) (by rw[j];simp;omega) ah;simpa using this
 ·intro k hk;rw[e];simp[madeCells,Value.cells];exact⟨k,by simp[hk],by rw[Nat.mod_one];rfl⟩
theorem jQ.start{w7:World}{n:Nat}{cs:Array Value}(h1:cs.size=n)(h2: ∀k,k<n->cs[k]? =some (.slice none 0 0)):jQ w7 (w7.alloc (.cells cs 33)) n (fun _=> .slice none 0 0) (fun _=>[]):=⟨⟨fun _ _=>bT _ _ _ _,fun _ _ _ _ _=> .inl rfl⟩,⟨cs,eN.new w7 _ _,h1,h2⟩,(au).alloc (ar) _⟩
theorem ue{w:World}{base n g i:Nat}{cp:Nat}{xs:List Value}{u:Value}(h:w.ownsRow base 3 1 (.slice (some ⟨g,0,none⟩) n cp) n xs)(hi:i<n):(w.setCell ⟨g,i,none⟩ u).ownsRow base 3 1 (.slice (some ⟨g,0,none⟩) n cp) n (xs.set i u):=by
 refine⟨by rw[List.length_set];exact h.1, ?_⟩;rcases h.2 with ⟨h1,_⟩|⟨g2,cap,cur,j,z,C,e,hm,hs,s⟩
 ·cases h1
 ·cases j;refine .inr ⟨g,cp,cur.setIfInBounds i u,rfl,z, ?_,e,hm,by simpa using hs, ?_⟩
  ·simp[World.setCell,ee,C]
  ·rw[ek,List.take_set,s]
theorem vn{w:World}{base n g i:Nat}{cp:Nat}{xs:List Value}(h:w.ownsRow base 3 1 (.slice (some ⟨g,0,none⟩) n cp) n xs)(hi:i<n):w.cell? ⟨g,i,none⟩=xs[i]? /\w.frozen? ⟨g,i,none⟩=false:=by
 rcases h.2 with ⟨h1,_⟩|⟨g2,cap,cur,j,z,e,u,hm,hs,s⟩
 ·cases h1
 ·cases j;have hl:=h.1;refine⟨?_,by unfold World.frozen?;simp[e]⟩;rw[dC w g i cur 3 (0,0) e,<-s,dh];rw[aM ah];simp
theorem jQ.OH{w7 wr:World}{n i k g cp:Nat}{V:Nat->Value}{R:Nat->List Int}{x:Int}(h:jQ w7 wr n V R)(hi:i<n)(s:V i=.slice (some ⟨g,0,none⟩) (R i).length cp)(hk:k<(R i).length):jQ w7 (wr.setCell ⟨g,k,none⟩ (.int .i64 x)) n V (uW R i ((R i).set k x)):=by
 have z:=h.gJ.own i (bM hi);have I:w7.heap.size+1<=g:=(z.lt g (by rw[s];rfl)).1;refine⟨⟨fun j C=> ?_,h.gJ.ne⟩, ?_,h.old.setCell (by show w7.heap.size<=g;omega) _⟩
 ·unfold uW;by_cases e:j=i
  ·subst e;rw[aM rfl,List.length_set,List.map_set,s];rw[s] at z;exact ue z hk
  ·rw[aI e];refine fv (h.gJ.own j C) fun g2 u=>aW wr _ _ g2 ?_;show g2≠g;rintro rfl;rcases h.gJ.ne j i C (bM hi) e with h1|h1
   ·rw[h1] at u;cases u
   ·apply h1;rw[u,s];rfl
 ·obtain⟨H,E,h2⟩:=h.hd;exact⟨H,E.iI (p:=⟨g,k,none⟩) (by show w7.heap.size≠g;omega) _,h2⟩
theorem jQ.Ka{w7 wr:World}{n:Nat}{V:Nat->Value}{rs:List (List Int)}(h:jQ w7 wr n V (fun j=>rs.getD j []))(hl:rs.length=n):qT wr (some ⟨w7.heap.size,0,none⟩) rs:=fun j C=>by have s:=h.cell (j:=j) ah;have u:=h.gJ.own j ah;obtain⟨A,c,e,z⟩:=uG u rfl;rw[e] at s;exact⟨w7.heap.size,0,A,c,rfl,by rw[bB];exact s,z⟩
def np(c:List Int)(j m:Nat):List Int:=(List.range m).map fun k=>c.getD k 0-c.getD j 0
theorem xX(c:List Int)(j m:Nat):np c j (m+1)=np c j m++[c.getD m 0-c.getD j 0]:=by simp[np,eD]
theorem zN(c:List Int)(j m:Nat):(np c j m).length=m:=by simp[np]
def Rp(c:List Int)(n i m:Nat):Nat->List Int:=fun j=>if j<i then np c j n else if j=i then np c i m else []
theorem Lg(c:List Int)(n:Nat)(j:Nat):([]:List Int)=Rp c n 0 0 j:=by
 unfold Rp;split
 ·omega
 ·split<;>rfl
theorem GH(c:List Int)(n i m:Nat):Rp c n i m i=np c i m:=by simp[Rp]
theorem KR(c:List Int)(n i m j:Nat):uW (Rp c n i m) i (np c i m++[c.getD m 0-c.getD i 0]) j=Rp c n i (m+1) j:=by
 unfold uW Rp;by_cases e:j=i
 ·subst e;rw[aM rfl,aI (ew _),aM rfl,xX]
 ·rw[aI e,aI e,aI e]
theorem Mb(c:List Int)(n i j:Nat):Rp c n i n j=Rp c n (i+1) 0 j:=by
 unfold Rp;by_cases h1:j<i
 ·rw[aM h1,aM ah]
 ·rw[aI h1];by_cases h2:j=i
  ·subst h2;rw[aM rfl,aM ah]
  ·rw[aI h2,aI ah];split<;>rfl
theorem Iq(c:List Int)(n j:Nat):Rp c n n 0 j=(qf c n).getD j []:=by
 unfold Rp qf;by_cases h:j<n
 ·rw[aM h,jy _ _ h];rfl
 ·rw[aI h,aL,bS ag];split<;>rfl
theorem cell_far{w:World}(u:Value){p:Addr}{b o:Nat}(h:b≠p.block):(w.setCell p u).cell? ⟨b,o,none⟩=w.cell? ⟨b,o,none⟩:=fj (aW w p u b h) o
def jB(p:Pl)(fy:Nat)(c:List Int)(l:List Rg)(k:Nat):List (List Int):=(l.take k).foldl (pf p fy c) (qf c p.nd.toNat)
theorem vJ{p:Pl}{fy:Nat}{c:List Int}{l:List Rg}{k:Nat}{x:Rg}(h:l[k]? =some x):jB p fy c l (k+1)=pf p fy c (jB p fy c l k) x:=by unfold jB;rw[cE,h,List.foldl_append];rfl
theorem xO(p:Pl)(fy:Nat)(c:List Int)(l:List Rg):jB p fy c l l.length=readAll p fy c l:=by unfold jB readAll;rw[dj]
theorem nM{p:Pl}{fy:Nat}{c:List Int}(hp:gl p)(e: ∀j,-274877906944<=c.getD j 0/\c.getD j 0<=274877906944)(l:List Rg)(k:Nat):jw p fy c (jB p fy c l k):=(jw.zero hp e).reads hp e _
theorem xQ{p:Pl}{fy:Nat}{c:List Int}{rs:List (List Int)}{x:Rg}(h:x.n<0\/p.nd<=x.n\/x.o<0\/p.nd<=x.o\/x.n=x.o):pf p fy c rs x=rs:=by unfold pf;rw[aM h]
theorem uY{p:Pl}{fy:Nat}{c:List Int}{rs:List (List Int)}{x:Rg}{u v:Nat}(hu:x.n=u)(e:x.o=v)(h1:(u:Int)<p.nd)(h2:(v:Int)<p.nd)(h3:u≠v):pf p fy c rs x=setRow rs u v (if fu fy v=true then gF x.i 549755813888 else c.getD v 0-c.getD u 0+gF x.i p.ji):=by unfold pf;rw[aI ah,hu,e,bU,bU]
theorem vV(rs:List (List Int)){u v:Nat}(y:Int)(hu:u<rs.length)(j:Nat):uW (fun j=>rs.getD j []) u ((rs.getD u []).set v y) j=(setRow rs u v y).getD j []:=by
 unfold uW setRow;by_cases e:j=u
 ·subst e;rw[aM rfl,nz _ _ _ hu]
 ·rw[aI e,getD_set_ne _ _ _ e]
theorem sO(x m:Int)(w:World)(hm:0<=m)(h:m<=1099511627776):Calls prog 173 #[.int .i64 x,.int .i64 m] w fun e w'=>e=.returned (.int .i64 (gF x m))/\w'=w:=by have hn:wrap64 (-m)=-m:=bL _ ⟨ah,ah⟩;go_enter func173,ntmps173;go_wp2_with fail;go_ret;exact⟨rfl,rfl⟩
def Ce(w:World)(A:Option Addr)(l:List Rg):Prop:= ∀(j:Nat)(x:Rg),l[j]? =some x->∃b off,A=some ⟨b,off,none⟩/\w.cell? ⟨b,off+j*3,none⟩=some (.int .i64 x.n)/\w.cell? ⟨b,off+j*3+1,none⟩=some (.int .i64 x.o)/\w.cell? ⟨b,off+j*3+2,none⟩=some (.int .i64 x.i)
theorem fx.Q4{w:World}{base:Nat}{a:Ad}{n:Cn}{p:Pl}{P:lz}{fy:Nat}{c:Cl}(h:fW w base a n p P fy c){m:Nat}(hm:c.ck.length=m)(h0:0<m): ∃b off cp,a.ck=.slice (some ⟨b,off,none⟩) m cp:=by have h1:fK w base 3 a.ck (c.ck.map (Value.int .i64)):=h.at_ .jb;obtain⟨ao,cp,e,_⟩:=h1.shape;rw[aY,hm] at e;rw[e] at h1;obtain⟨b,off,rfl,_⟩:=h1.block h0;exact⟨b,off,cp,e⟩
theorem fx.Ke{w:World}{base:Nat}{a:Ad}{n:Cn}{p:Pl}{P:lz}{fy:Nat}{c:Cl}(h:fW w base a n p P fy c){m b off cp:Nat}(hm:c.ck.length=m)(e:a.ck=.slice (some ⟨b,off,none⟩) m cp):kY w (some ⟨b,off,none⟩) c.ck:=fun j s=>by have h1:fK w base 3 a.ck (c.ck.map (Value.int .i64)):=h.at_ .jb;rw[e] at h1;obtain⟨b2,off2,u,_,_,z⟩:=h1.block ah;cases u;refine⟨b,off,rfl, ?_⟩;rw[z j ah,bp,aF s,aL,aF s];rfl
theorem AE{w:World}{base b2 n:Nat}{e:TypeId}{v:Value}{xs:List Value}(h:w.ownsRow base e 1 v n xs)(j:b2<=base):w.ownsRow b2 e 1 v n xs:=by
 refine⟨h.1, ?_⟩;rcases h.2 with h1|⟨g,cap,cur,h1,h2,h3⟩
 ·exact .inl h1
 ·exact .inr ⟨g,cap,cur,h1,ah,h3⟩
theorem By{w:World}{g i:Nat}{t:TypeId}{cs:Array Value}{u:Value}(s:eN w g t cs)(hi:cs[i]? =some u)(v:Value):Below w.heap.size w ((w.setCell ⟨g,i,none⟩ v).setCell ⟨g,i,none⟩ u):=by
 refine⟨rfl,rfl,rfl,by simp[World.setCell],fun k hk=> ?_⟩;by_cases e:k=g
 ·subst e;have h1:eN ((w.setCell ⟨k,i,none⟩ v).setCell ⟨k,i,none⟩ u) k t ((cs.setIfInBounds i v).setIfInBounds i u):=(s.eS i v).eS i u;have h2:(cs.setIfInBounds i v).setIfInBounds i u=cs:=by
   apply Array.ext_getElem?;intro j;rw[dB,dB];by_cases e:i=j
   ·subst e;have h:i<cs.size:=(aS.1 hi).1;simp[h];rw[Array.getElem?_eq_getElem h] at hi;exact(bg hi).symm
   ·simp[e]
  rw[h2] at h1;exact h1.trans s.symm
 ·exact(aW _ _ _ k e).trans (aW _ _ _ k e)
def mc(p:Pl)(zs dr:List Int)(k:Nat):List Int:=(List.range zs.length).map fun i=>zs.getD i 0+(if i<k/\i<dr.length then gF (dr.getD i 0) p.dr else 0)
theorem iq(p:Pl)(zs dr:List Int)(k:Nat):(mc p zs dr k).length=zs.length:=by simp[mc]
theorem yj(p:Pl)(zs dr:List Int):mc p zs dr 0=zs:=by
 unfold mc;apply List.ext_getElem?;intro i;by_cases h:i<zs.length
 ·simp[h,List.getD]
 ·rw[bS ag,bS ah]
theorem Ht(p:Pl)(zs dr:List Int):mc p zs dr dr.length=lI p zs dr:=by
 unfold mc lI;apply cw;intro i _;by_cases h:i<dr.length
 ·rw[aM ⟨h,h⟩,aM h]
 ·rw[aI (fun e=>h e.1),aI h]
theorem mX(p:Pl)(zs dr:List Int)(k:Nat){i:Nat}(h:i<zs.length):(mc p zs dr k).getD i 0=zs.getD i 0+(if i<k/\i<dr.length then gF (dr.getD i 0) p.dr else 0):=by unfold mc;rw[jy _ _ h]
theorem ya(p:Pl)(zs dr:List Int){k:Nat}(h:k<dr.length)(hk:k<zs.length):mc p zs dr (k+1)=(mc p zs dr k).set k (zs.getD k 0+gF (dr.getD k 0) p.dr):=by
 apply List.ext_getElem?;intro i;rw[List.getElem?_set];by_cases e:k=i
 ·subst e;rw[aM rfl,aM (by rw[iq];exact hk)];have h1:=mX p zs dr (k+1) hk;rw[aM ⟨av,h⟩,aL,aF (by rw[iq];exact hk)] at h1;rw[aF (by rw[iq];exact hk)];rw[<-h1];rfl
 ·rw[aI e];by_cases hi:i<zs.length
  ·have h1:=mX p zs dr (k+1) hi;have h2:=mX p zs dr k hi;have s:(if i<k+1/\i<dr.length then gF (dr.getD i 0) p.dr else 0)=(if i<k/\i<dr.length then gF (dr.getD i 0) p.dr else 0):=by
    by_cases h3:i<k
    ·simp[h3,dm h3]
    ·rw[aI (fun j:i<k+1/\i<dr.length=>ah),aI (fun j:i<k/\i<dr.length=>h3 j.1)]
   rw[s,<-h2,aL,aL,aF (by rw[iq];exact hi),aF (by rw[iq];exact hi)] at h1;rw[aF (by rw[iq];exact hi),aF (by rw[iq];exact hi)];exact aO some h1
  ·rw[bS (by rw[iq];omega),bS (by rw[iq];omega)]
theorem Ex(p:Pl)(zs dr:List Int){k:Nat}(hk:zs.length<=k):mc p zs dr (k+1)=mc p zs dr k:=by
 unfold mc;apply cw;intro i hi;have hi:=dc.1 hi;by_cases h:i<dr.length
 ·rw[aM ⟨ah,h⟩,aM ⟨ah,h⟩]
 ·rw[aI (fun e=>h e.2),aI (fun e=>h e.2)]
theorem D8{p:Pl}{fy:Nat}{c:List Int}{rs:List (List Int)}(hp:gl p)(h:jw p fy c rs)(u: ∀j,-274877906944<=c.getD j 0/\c.getD j 0<=274877906944){i:Nat}(hi:i<p.nd.toNat):-2000000000000<=(my c rs p.fa p.nd.toNat).getD i 0/\(my c rs p.fa p.nd.toNat).getD i 0<=2000000000000:=by
 have h1:=hp.f0;have h2:=hp.f3;rw[Hd _ _ _ hi];have hm:=h.Q9 hp hi;have hl:=h.row i hi;have s:(rs.getD i []).any jE=false:=by rw[dw];intro x e;rw[h.eq hi] at e;obtain⟨k,hk,rfl⟩:=cX.1 e;have:=h.bd i k hi (dc.1 hk);simp[jE];omega
 have z:=Df (m:=p.fa.toNat) (by rw[hl];omega) s;have:=u i;rw[hm.2,<-h.eq hi];omega
theorem zJ{w:World}{base n g cp:Nat}{zs:List Int}(h:w.ownsRow base 3 1 (.slice (some ⟨g,0,none⟩) n cp) n (zs.map (Value.int .i64)))(s:zs.length=n):kY w (some ⟨g,0,none⟩) zs:=fun j e=>⟨g,0,rfl,by rw[bB,(vn h ah).1,bp,aF e,aL,aF e];rfl⟩
section
variable {w w':World}{base:Nat}{S:Ix->Ob}
theorem fx.pV(h:fx w base S)(hs:w.heap.size<=w'.heap.size)(hk: ∀i,i<w.heap.size->py S i->w'.heap[i]? =w.heap[i]?):fx w' base S:=⟨fun x=>(h.at_ x).iP (fun k e j=>hk k e ⟨x,j⟩),fun x k hm=>⟨(h.own x k hm).1,aN (h.own x k hm).2 hs⟩,h.sep⟩
end
theorem fx.mono{w:World}{base b:Nat}{S:Ix->Ob}(h:fx w base S)(j:b<=base):fx w b S:=⟨fun x=>by have h1:=h.at_ x;cases e:S x with|none=>trivial|mem=>rw[e] at h1;exact h1|nK=>rw[e] at h1;exact h1|snd=>rw[e] at h1;exact⟨h1.1,h1.2.1.mono j,h1.2.2⟩|prt=>rw[e] at h1;exact⟨h1.1,h1.2.1.mono j,h1.2.2⟩|arr=>rw[e] at h1;exact fK.mono h1 j|eW=>rw[e] at h1;exact h1,fun x k hm=>⟨aK j (h.own x k hm).1,(h.own x k hm).2⟩,h.sep⟩
theorem G4{p:Pl}(hp:gl p){zs:List Int}(hl:zs.length=p.nd.toNat)(e: ∀j,-274877906944<=zs.getD j 0/\zs.getD j 0<=274877906944):gH p 1 (gG p zs):=by
 have h16:=hp.n16;have hm:(2:Nat)^p.nd.toNat<=2^16:=aX ah ah;refine⟨hl,e,dV _,fun i=> ?_,fun k=> ?_,fun k i=> ?_,fun k i=> ?_⟩
 ·show 2^p.nd.toNat-1<65536/\(0:Int)<=1/\(1:Int)<=(1:Nat)/\(0:Int)<=0/\(0:Int)<=(1:Nat);omega
 ·exact⟨dV _,by show(0:Int)<=255;decide,by show(-1:Int)<=-1;decide,by show(-1:Int)<=1099511627776;decide,cT _,fun d hd=>by cases hd⟩
 ·exact⟨by show(-1:Int)<=-1;decide,by show(-1:Int)<=255;decide,dV _,by show(0:Int)<=(1:Nat);decide,dV _,by show(0:Int)<=(1:Nat);decide⟩
 ·exact⟨dV _,by show(0:Int)<=(1:Nat);decide,cT _⟩
end Go.Proofs.YtideefjnlakciaaGreatDoor
