/- The contracts of cluster.Cluster's methods Put, Receive and Play; conditions: the cluster and the round lie in memory; errors.errorType holds what start-up lays there. -/
import Derived.Test.YtideefjnlakciaaGreatDoorQ00
import Derived.Test.YtideefjnlakciaaGreatDoorQ16
import Derived.Test.YtideefjnlakciaaGreatDoorQ10
import Derived.Test.YtideefjnlakciaaGreatDoorQ15
import Derived.Test.YtideefjnlakciaaGreatDoorQ02
import Derived.Test.YtideefjnlakciaaGreatDoorQ11
import Derived.Test.YtideefjnlakciaaGreatDoorQ13
import Derived.Test.YtideefjnlakciaaGreatDoorQ12
import Derived.Test.YtideefjnlakciaaGreatDoorQ04
import Derived.Test.YtideefjnlakciaaGreatDoorQ01
import Derived.WideKeyRuns
import Derived.MapKept
set_option maxRecDepth 1000000
set_option maxHeartbeats 20000000
set_option linter.unusedVariables false
set_option linter.unusedSimpArgs false
namespace Go.Proofs.YtideefjnlakciaaGreatDoor
open Go.RowKit Go.Proofs.Tryz
section
attribute [local irreducible] gZ iw
section
variable {w w1:World}{base:Nat}{S S0:Ix->Ob}
theorem fx.swap(h:fx w base S)(x:Ix)(o:Ob)(E:o.At w base)(C: ∀k,k∈o.eX->base<=k/\k<w.heap.size/\¬py S k):fx w base (iv S x o):=by
 refine⟨fun y=> ?_,fun y k hm=> ?_,fun y z k s j=> ?_⟩
 ·by_cases e:y=x
  ·subst e;rw[fq];exact E
  ·rw[putO_ne _ e];exact h.at_ y
 ·by_cases e:y=x
  ·subst e;rw[fq] at hm;exact⟨(C k hm).1,(C k hm).2.1⟩
  ·rw[putO_ne _ e] at hm;exact h.own y k hm
 ·by_cases e:y=x
  ·by_cases u:z=x
   ·rw[e,u]
   ·subst e;rw[fq] at s;rw[putO_ne _ u] at j;exact absurd ⟨z,j⟩ (C k s).2.2
  ·by_cases u:z=x
   ·subst u;rw[fq] at j;rw[putO_ne _ e] at s;exact absurd ⟨y,s⟩ (C k j).2.2
   ·rw[putO_ne _ e] at s;rw[putO_ne _ u] at j;exact h.sep y z k s j
end
theorem fx.finish{w w1:World}{base:Nat}{a a0:Ad}{n:Cn}{p:Pl}{P:lz}{fy:Nat}{c c0:Cl}{v:Value}{zs:List Int}{rd:Int}(h:fW w1 base a n p P fy c)(hk:fV w w1 (shape a0 n p P fy c0) (shape a n p P fy c))(j:a.g=a0.g)(C:base<=w1.heap.size)(hq:fK w1 base 3 v (zs.map (Value.int .i64)))(z: ∀k,v.ownBlock=some k->base<=k/\k<w1.heap.size/\w.heap.size<=k/\¬py (shape a n p P fy c) k):iG w base a0 n p P fy c0 ((w1.setCell ⟨a.g,11,none⟩ v).setCell ⟨a.g,16,none⟩ (.int .i64 rd)) {c with ck:=zs,rd:=rd}:=by
 have h1:=h.swap .jb (.arr 3 v (zs.map (Value.int .i64))) hq (fun k hm=>by have:=z k (by simpa[Ob.eX] using hm);exact⟨this.1,this.2.1,this.2.2.2⟩);have J:iv (shape a n p P fy c) .jb (.arr 3 v (zs.map (Value.int .i64))) .im=.eW a.g 210 (wL p.nd p.fa p.sk p.ji p.dr p.rd P.s P.l p.fr P.q fy a.ck a.mm a.sd a.tk a.pr c.rd):=by rw[putO_ne _ ak];rfl
 have h2:=h1.nb .im J 11 v C;have K:iv (iv (shape a n p P fy c) .jb (.arr 3 v (zs.map (Value.int .i64)))) .im (.eW a.g 210 ((wL p.nd p.fa p.sk p.ji p.dr p.rd P.s P.l p.fr P.q fy a.ck a.mm a.sd a.tk a.pr c.rd).setIfInBounds 11 v)) .im=.eW a.g 210 ((wL p.nd p.fa p.sk p.ji p.dr p.rd P.s P.l p.fr P.q fy a.ck a.mm a.sd a.tk a.pr c.rd).setIfInBounds 11 v):=fq _ _;have h3:=h2.nb .im K 16 (.int .i64 rd) (by simpa[World.setCell] using C);have e:iv (iv (iv (shape a n p P fy c) .jb (.arr 3 v (zs.map (Value.int .i64)))) .im (.eW a.g 210 ((wL p.nd p.fa p.sk p.ji p.dr p.rd P.s P.l p.fr P.q fy a.ck a.mm a.sd a.tk a.pr c.rd).setIfInBounds 11 v))) .im (.eW a.g 210 (((wL p.nd p.fa p.sk p.ji p.dr p.rd P.s P.l p.fr P.q fy a.ck a.mm a.sd a.tk a.pr c.rd).setIfInBounds 11 v).setIfInBounds 16 (.int .i64 rd)))=shape {a with ck:=v} n p P fy {c with ck:=zs,rd:=rd}:=by funext y;cases y<;>rfl
 rw[e] at h3;refine⟨{a with ck:=v},j,h3,hk.os,hk.tape,hk.output,by simpa[World.setCell] using hk.size,fun i hi hn=> ?_, ?_⟩
 ·have E:i≠a.g:=by rintro rfl;exact hn ⟨.im,by rw[j];simp[shape,Ob.eX]⟩
  exact((aW _ _ _ i E).trans (aW _ _ _ i E)).trans (hk.block i hi hn)
 ·rintro k ⟨y,I⟩;by_cases u:y=.jb
  ·subst u;exact .inr (z k (by simpa[shape,Ob.eX] using I)).2.2.1
  ·refine hk.gJ k ⟨y, ?_⟩;cases y<;>first|exact I|exact absurd rfl u
theorem zZ(p:Pl)(fy:Nat)(r:Rn)(c:Cl):gZ p fy r c 0=c:=by unfold gZ;rfl
theorem zV(p:Pl)(fy:Nat)(r:Rn)(c:Cl)(k:Nat):gZ p fy r c (k+1)=jh p fy r k (gZ p fy r c k):=by conv=>lhs;unfold gZ
theorem JP{base:Nat}{a:Ad}{p:Pl}{P:lz}{fy:Nat}{c:Cl}{N:Nat}(w:World){K:World->(Ix->Ob)->Prop}(ac:MW K)(a7 AL:Option Addr)(cs cl:Nat)(bd:P.s=.slice a7 p.sl.length cs)(b5:P.l=.slice AL p.lk.length cl)(h:fW w base a (eO p) p P fy c)(hp:gl p)(a6:gH p N c)(d6:N<=700000000000)(dd:c.rd<=7000)(bt:fy<65536)(bk: ∀W S,K W S->fN W a7 p.sl.length p.sl)(bl: ∀W S,K W S->fA W AL p.lk.length p.lk)(b3:K w (shape a (eO p) p P fy c))(co:base<=w.heap.size)(cb: ∀W S,K W S->nQ W)(A:Option Addr)(c1:Nat)(r:Rn)(b2: ∀W S,K W S->jD W A r.ls)(dk:r.ls.length<=9223372036854775807)(u:Option Addr)(c2:Nat)(bv: ∀W S,K W S->Ce W u r.rg)(d3:r.rg.length<=9223372036854775807)(B:Option Addr)(c3:Nat)(hB: ∀W S,K W S->kY W B r.dr)(d2:r.dr.length<=9223372036854775807)(z:Option Addr)(c4:Nat)(hM: ∀W S,K W S->kY W z r.md)(cr:r.md.length<=9223372036854775807):Calls prog 104 #[.pointer (some ⟨a.g,0,none⟩),.agg #[.slice A r.ls.length c1,.slice u r.rg.length c2,.slice B r.dr.length c3,.slice z r.md.length c4]] w fun e w'=>e=.returned (gv (kQ p fy r c))/\iG w base a (eO p) p P fy c w' (gD p fy r c):=by
 obtain⟨w1,O⟩:=ab (w.alloc (.cells #[.slice A r.ls.length c1,.slice u r.rg.length c2,.slice B r.dr.length c3,.slice z r.md.length c4] 35));have ad:Below w.heap.size w w1:=by rw[<-O];exact(Below.refl w.heap.size w).alloc (ar) _
 have aa:eN w1 w.heap.size 35 #[.slice A r.ls.length c1,.slice u r.rg.length c2,.slice B r.dr.length c3,.slice z r.md.length c4]:=by rw[<-O];exact eN.new w _ _
 have ao:=eJ (fV.fC (S:=shape a (eO p) p P fy c) ad);have bq:=eJ (h.ky (aC w.heap.size));have b6:=eJ (h.below ad);have al:=eJ ac;have ca:=eJ (ac.step b3 ao.out);have J:=aK co ad.size;obtain⟨G,hG⟩:=ab a.g;have bz:=eJ (I1 w1 ac b6.out hp a6 bt ca.out J cb r (.slice A r.ls.length c1) u c2 bv d3 B c3 hB d2 (.slice z r.md.length c4));rw[hG] at bz⊢;obtain⟨a0,x1,a5,a8⟩:=aa.lH;have c9:w.heap.size<w1.heap.size:=aa.lt;have c8:=hp.sl;have d0:=eJ O;have d5:=eJ aa;have b8:=eJ hp;have bf:=eJ a6;have c6:=eJ bl;have cV:=eJ bk;have cx:=eJ b5;have b4:=eJ bd;have a2:=eJ hG;have cA:=eJ b2;have c0:=eJ hM;clear O aa h b5 bd hG bl bk b3 ac ad b2 hM a6 hp bv hB cb;go_enter func104,ntmps104;go_wp2_with fail;rw[d0.out];refine bz.out.mono ?_;rintro e w2 (⟨I,rfl,bn⟩|⟨I,g,cp,rfl,⟨hA2,E⟩,ap,T⟩)
 ·have bj:=eJ I;have dg:=eJ bn;clear I bn;go_wp2_with fail;go_ret;exact⟨by unfold kQ;rw[bj.out];rfl,by unfold gD;rw[bj.out,aM rfl];exact iG.trans ao.out rfl dg.out⟩
 ·obtain⟨nd,am⟩: ∃nd,p.nd.toNat=nd:=⟨_,rfl⟩;rw[am] at T⊢;have ea:=eJ am;have a9:Hid (gD p fy r c={gZ p fy r c p.sl.length with ck:=iw p fy c.ck r,rd:=c.rd+1}/\kQ p fy r c=0):=eJ (by unfold gD kQ;rw[I,aI aj,aI aj];exact⟨rfl,rfl⟩);have c5:=eJ (b6.out.ky ap);have d4:g<w2.heap.size:=(T.lt g rfl).2;have ds:=eJ T;have d8:=eJ hA2;have cS:=eJ E;have cc:=eJ (E.eW d5.out bq.out);have cj:=aK J E.size;have cm:=eJ (al.out.step ca.out E);have ct:=eJ (iG.refl hA2 (Below.refl w2.heap.size w2));have b7:=(hA2.ru a2.out).2.2.2.2.2.2.1;obtain⟨ns,U⟩:=ab p.sl.length;rw[b4.out,U] at b7;rw[U] at c8;have bb:=eJ U;clear I hA2 E T am U a0 x1 a5 a8;go_wp2_with fail;clear b7;go_loopw [23] (fun i wr=> ∃k:Nat,k<=ns/\i=.int .i64 k/\Hid (eN wr w.heap.size 35 #[.slice A r.ls.length c1,.slice u r.rg.length c2,.slice B r.dr.length c3,.slice z r.md.length c4])/\Hid (wr.ownsRow w1.heap.size 3 1 (.slice (some ⟨g,0,none⟩) nd cp) nd ((iw p fy c.ck r).map (Value.int .i64)))/\Hid (iG w2 base a (eO p) p P fy c wr (gZ p fy r c k))) (fun i _=>ns-(intOf i).toNat);case atStart=>exact⟨0,ah,rfl,cc,ds,eJ (by rw[zZ];exact ct.out)⟩
  case round=>
   obtain⟨k,hk,rfl,bm,HOr,de⟩:=hrel;obtain⟨a3,Y,hA3,j⟩:=de.out;have X: ¬py (shape a3 (eO p) p P fy (gZ p fy r c k)) g:=j.not d4 c5.out;have aA: ¬py (shape a3 (eO p) p P fy (gZ p fy r c k)) w.heap.size:=j.not cc.out.lt bq.out;have bx:=aK cj j.size;by_cases c7:k<ns
   ·obtain⟨s,hs⟩: ∃s,p.sl[k]? =some s:=⟨_,aF (by rw[bb.out];exact c7)⟩;have be:=eJ (Jk wr al.out a7 AL cs cl b4.out cx.out hA3 b8.out (qB bf.out b8.out fy r k) ah (by rw[(lP p fy r c k).1];exact dd) bt cV.out c6.out (al.out.step cm.out j) bx A c1 r cA.out dk (.slice u r.rg.length c2) (.slice B r.dr.length c3) z c4 c0.out cr k s hs);rw[Y,a2.out] at be;have cu:Hid (gZ p fy r c (k+1)=jh p fy r k (gZ p fy r c k)):=eJ (zV p fy r c k);obtain⟨a0,x1,a5,a8⟩:=bm.out.lH;have ci:=eJ aA;have cv:=eJ X;have cd:=eJ j;have d7:=eJ hA3;clear hA3 j X aA hs;go_wp2_with fail;refine be.out.mono ?_;rintro e w9 ⟨rfl,a4,dl,hA4,Z⟩;have ce:=eJ (Z.eW bm.out ci.out);have dt:=eJ (fv HOr.out (w':=w9) (fun q e=>by cases e;exact Z.block g (HOr.out.lt g rfl).2 cv.out));have d1:Hid (iG w2 base a (eO p) p P fy c w9 (gZ p fy r c (k+1))):=eJ (by rw[cu.out];exact⟨a4,dl.trans Y,hA4,cd.out.trans Z⟩);clear hA4 Z a0 x1 a5 a8;go_wp2_with fail;go_roundw;case rel=>exact⟨k+1,ah,aq,ce,dt,d1⟩
    case measure=>simp[intOf];omega
   ·obtain rfl:k=ns:=ah;have C:=hA3.gA;have b9:a3.g=G:=Y.trans a2.out;rw[b9] at C;have ch:=C.cell 11;have f11:=C.frozen 11;have bi:=C.cell 16;have f16:=C.frozen 16;simp at ch bi;have cn:(gZ p fy r c k).rd=c.rd:=(lP p fy r c k).1;rw[cn] at bi;have d9:=bf.out.rd;have bw:=eJ (fx.finish (v:=.slice (some ⟨g,0,none⟩) nd cp) (zs:=iw p fy c.ck r) (rd:=c.rd+1) hA3 ((ao.out.trans cS.out).trans j) Y bx (fK.s6 HOr.out J) (fun q e=>by cases e;exact⟨aK J ap,(HOr.out.lt g rfl).2,aK (bM c9) ap,X⟩));rw[b9] at bw;clear hA3 j C X aA;go_wp2_with fail;go_ret;exact⟨by rw[a9.out.2];simp[gv],by rw[a9.out.1,bb.out];exact bw.out⟩
end
def Rb(w:World)(v:Value)(e pl:Int):Prop:=(e=0/\pl=-1/\v=.nilIface)\/(e≠0/\Cr w v e pl)
theorem rC{p:Pl}(h:(iO p).1=0):(iO p).2=-1:=by
 unfold iO at h⊢;by_cases h1:iK p≠0
 ·rw[aM h1] at h;exact absurd h h1
 ·rw[aI h1] at h⊢;by_cases h2:(fS (oM p.sk p.rd p.nd 0 p.sl) 0).1≠0
  ·rw[aM h2] at h;exact absurd h h2
  ·rw[aI h2] at h⊢;by_cases h3:(fS (p.lk.map (sH p.nd)) 0).1≠0
   ·rw[aM h3] at h;exact absurd h h3
   ·rw[aI h3] at h⊢;by_cases h4:(fS (kX p.fr 0 p.wn) 0).1≠0
    ·rw[aM h4] at h;exact absurd h h4
    ·rw[aI h4]
section
attribute [local irreducible] iO fP fu jx
theorem Fw(x:Int):bits .and .i64 x 1=0\/bits .and .i64 x 1=1:=by
 have e:bits .and .i64 x 1=IntKind.i64.wrap ((BitVec.ofInt 64 x&&&BitVec.ofInt 64 1).toNat:Int):=rfl;rw[e,BitVec.toNat_and,show(BitVec.ofInt 64 1).toNat=1 from rfl,Nat.and_one_is_mod];rcases ef (BitVec.ofInt 64 x).toNat with h|h<;>rw[h]
 ·exact .inl rfl
 ·exact .inr rfl
theorem G1{w:World}{b:Nat}{t:TypeId}{v:Value}{n:Nat}{l:List Value}(h:w.ownsRow b t 1 v n l): ∃e j,v=.slice e n j:=by
 rcases h.2 with ⟨rfl,h2⟩|⟨g,cap,cur,rfl,_⟩
 ·have h1:=h.1;subst h2;simp at h1;subst h1;exact⟨_,_,rfl⟩
 ·exact⟨_,_,rfl⟩
theorem Ol{p:Pl}{f0 m:Int}{nd:Nat}(e:p.nd.toNat=nd)(h16:nd<=16)(hm: ∀fy:Nat,f0=(fy:Int)->fy<65536->m=(jY fy nd:Nat)):tM p f0↔(m<=p.fa/\0<=f0/\f0/2^nd=0):=by
 have h2:(2:Nat)^nd<=2^16:=aX ah h16;have s:0<(2:Nat)^nd:=cQ nd;have j: ∀fy:Nat,((fy:Int)/2^nd)=((fy/2^nd:Nat):Int):=fun fy=>ak;constructor
 ·rintro⟨fy,rfl,h,hl⟩;rw[e] at h hl;have h1:=hm fy rfl ah;refine⟨ah,ah, ?_⟩;rw[j,Nat.div_eq_of_lt h];rfl
 ·rintro⟨h1,h3,h4⟩;obtain⟨fy,rfl⟩:=aZ h3;rw[j] at h4;have h5:fy<2^nd:=by
   rcases bW fy (2^nd) with h|h
   ·exact h
   ·have:=Nat.div_pos h s;omega
  have h6:=hm fy rfl ah;exact⟨fy,rfl,by rw[e];exact h5,by rw[e];omega⟩
theorem C6{zs:List Int}(h:jx zs=false){j:Nat}(e:j<zs.length):-274877906944<=zs.getD j 0/\zs.getD j 0<=274877906944:=by unfold jx at h;rw[dw] at h;have:=h (zs.getD j 0) (ke e);rw[dA,bI,bI] at this;omega
theorem vz{W:World}{b g n cp:Nat}{zs:List Int}(h:W.ownsRow b 3 1 (.slice (some ⟨g,0,none⟩) n cp) n (zs.map (Value.int .i64)))(hn:zs.length=n):kY W (some ⟨g,0,none⟩) zs:=fun j e=>⟨g,0,rfl,by have:=(ov h (by rw[<-hn];exact e)).1;rw[bB,this,bp,aF e,aL,aF e];rfl⟩
section
variable (p:Pl)(A:Option Addr)(c:Nat)(AL:Option Addr)(cl:Nat)(AQ:Option Addr)(cq:Nat)(f0:Int)(B:Option Addr)(ln cz:Nat)
theorem MO(w:World)(O:iO p≠(0,-1))(s2:fN w A p.sl.length p.sl)(Y:fA w AL p.lk.length p.lk)(U:iV w AQ p.wn.length p.wn):Calls prog 107 #[.agg (fb p.nd p.fa p.sk p.ji p.dr p.rd (.slice A p.sl.length c) (.slice AL p.lk.length cl) p.fr (.slice AQ p.wn.length cq)),.int .i64 f0,.slice B ln cz] w fun e w'=> ∃v,e=.returned (.tuple #[.pointer none,v])/\Rb w' v (iO p).1 (iO p).2/\Below w.heap.size w w':=by
 obtain⟨w1,s⟩:=ab (w.alloc (.cells (fb p.nd p.fa p.sk p.ji p.dr p.rd (.slice A p.sl.length c) (.slice AL p.lk.length cl) p.fr (.slice AQ p.wn.length cq)) 29));have j:Below w.heap.size w w1:=by rw[<-s];exact(Below.refl w.heap.size w).alloc (ar) _
 have C:eN w1 w.heap.size 29 (fb p.nd p.fa p.sk p.ji p.dr p.rd (.slice A p.sl.length c) (.slice AL p.lk.length cl) p.fr (.slice AQ p.wn.length cq)):=by rw[<-s];exact eN.new w _ _
 have I:=eJ (ox p A p.sl.length c AL p.lk.length cl AQ p.wn.length cq w1 rfl rfl rfl (OV s2 (ar) j) (Ek Y (ar) j) (U.below j));have a3:=eJ C;have K:=eJ j;have a2:=eJ s;obtain⟨a0,x1,al,Z,ao,ap,aa,aA,ad,ac⟩:=fm C;have z:Hid ((iO p).1≠0):=eJ (fun h=>O (Prod.ext h (rC h)));obtain⟨ck,E⟩:=ab (iO p);rw[E] at I z⊢;clear C j s s2 Y U O E;go_enter func107,ntmps107;go_wp2_with fail;rw[a2.out];refine I.out.mono ?_;rintro e w2 ⟨J,⟨h0,-⟩|⟨-,v,rfl,X⟩⟩
 ·exact absurd h0 z.out
 ·have T:=eJ X;have am:=eJ (K.out.trans (J.mono K.out.size));clear J X a0 x1 al Z ao ap aa aA ad ac;obtain⟨t,u,rfl⟩:=T.out.iface;go_wp2_with fail;go_ret2;exact⟨_,rfl,.inr ⟨z.out,T.out⟩,am.out⟩
theorem KI(w:World)(bb:iO p=(0,-1))(s2:fN w A p.sl.length p.sl)(b6:fA w AL p.lk.length p.lk)(ce:iV w AQ p.wn.length p.wn)(zs:List Int)(b7:zs.length=ln)(cm:kY w B zs)(hle:ln<=cz)(h30:ln<=100000)(e:Int)(he:uT p f0 zs e)(h0:e≠0):Calls prog 107 #[.agg (fb p.nd p.fa p.sk p.ji p.dr p.rd (.slice A p.sl.length c) (.slice AL p.lk.length cl) p.fr (.slice AQ p.wn.length cq)),.int .i64 f0,.slice B ln cz] w fun r w'=>r=.returned (.tuple #[.pointer none,gv e])/\Below w.heap.size w w':=by
 have hp:=gl.of bb;have d6:=hp.n16;have d9:=hp.n1;obtain⟨w1,aa⟩:=ab (w.alloc (.cells (fb p.nd p.fa p.sk p.ji p.dr p.rd (.slice A p.sl.length c) (.slice AL p.lk.length cl) p.fr (.slice AQ p.wn.length cq)) 29));have O:Below w.heap.size w w1:=by rw[<-aa];exact(Below.refl w.heap.size w).alloc (ar) _
 have bm:eN w1 w.heap.size 29 (fb p.nd p.fa p.sk p.ji p.dr p.rd (.slice A p.sl.length c) (.slice AL p.lk.length cl) p.fr (.slice AQ p.wn.length cq)):=by rw[<-aa];exact eN.new w _ _
 have cb:=eJ (ox p A p.sl.length c AL p.lk.length cl AQ p.wn.length cq w1 rfl rfl rfl (OV s2 (ar) O) (Ek b6 (ar) O) (ce.below O));rw[bb] at cb;obtain⟨nd,bw⟩: ∃nd,p.nd.toNat=nd:=⟨_,rfl⟩;have b5:p.nd=(nd:Int):=ah;have c5:0<nd:=ah;have a9:nd<=16:=ah;have cv:=eJ bm;have b3:=eJ O;have dg:=eJ aa;have dl:=eJ hp;have cV:=eJ cm;have s:=eJ b7;have d7:=eJ b5;have C:=eJ bw;have J:=eJ he;have co:=eJ h0;have ds:=eJ hle;have b2:=eJ h30;obtain⟨U,x1,E,aA,a6,ao,ac,ap,am,a0⟩:=fm bm;clear bm O aa hp cm b7 b5 bw bb s2 b6 ce d6 d9 he h0 hle h30;go_enter func107,ntmps107;go_wp2_with fail;rw[dg.out];refine cb.out.mono ?_;rintro e w2 ⟨bn,⟨-,rfl⟩|⟨h0,-⟩⟩;case inr=>exact absurd rfl h0
 have K:=eJ (cv.out.below bn cv.out.lt);have Z:=eJ (b3.out.trans (bn.mono b3.out.size));clear bn U x1 E aA a6 ao ac ap am a0;obtain⟨U,x1,E,aA,a6,ao,ac,ap,am,a0⟩:=fm K.out;go_wp2_with fail;obtain⟨i0,hi,c9,c4,c0⟩:=eR kz;have I:=eJ Z.out.size;have ca:=K.out.lt;have bt:Hid ((w2.alloc (.cells #[] 3)).drew.ownsRow (w.heap.size+1) 3 1 (.slice (some ⟨w2.heap.size,0,none⟩) 0 0) 0 []):=eJ (kh (eN.new w2 3 #[]).drew ca);have ci:Hid (kY (w2.alloc (.cells #[] 3)).drew B zs):=eJ (cV.out.below (ar) (below_drewN (Z.out.alloc I.out _) 1));have ct:Hid (∀W,(w2.alloc (.cells #[] 3)).drew.grownBy W (some w2.heap.size)->eN W w.heap.size 29 (fb p.nd p.fa p.sk p.ji p.dr p.rd (.slice A p.sl.length c) (.slice AL p.lk.length cl) p.fr (.slice AQ p.wn.length cq))/\Below w.heap.size w W):=eJ (fun W T=>⟨((K.out.alloc (.cells #[] 3)).drew).grown T (fun e=>by have h1:=K.out.lt;have h2:=bg e;omega),(below_drewN (Z.out.alloc I.out (.cells #[] 3)) 1).grown T (by show w.heap.size<=(w2.alloc _).heap.size;have:=I.out;simp;omega) (fun k e=>by have h2:=bg e;have:=I.out;omega)⟩);have bl:Hid (0+ln<=maxLen/\(0+ln)*8<=140737488355328):=eJ ⟨by have:=b2.out;simp[maxLen];omega,by have:=b2.out;omega⟩;have cu:Hid (w.heap.size+1<=(w2.alloc (.cells #[] 3)).drew.heap.size):=eJ (by show _<=(w2.alloc _).heap.size;have:=I.out;simp;omega);go_cut [9] from 9 to 34 (fun v al=> ∃G ck,v=.pointer (some ⟨G,0,none⟩)/\Hid (Below w.heap.size w al)/\Hid (eN al w.heap.size 29 (fb p.nd p.fa p.sk p.ji p.dr p.rd (.slice A p.sl.length c) (.slice AL p.lk.length cl) p.fr (.slice AQ p.wn.length cq)))/\Hid (eN al G 210 (wL p.nd p.fa p.sk p.ji p.dr p.rd (.slice A p.sl.length c) (.slice AL p.lk.length cl) p.fr (.slice AQ p.wn.length cq) f0 ck (.slice none 0 0) (.slice none 0 0) (.slice none 0 0) (.slice none 0 0) 0))/\Hid (al.ownsRow (w.heap.size+1) 3 1 ck ln (zs.map (Value.int .i64))));case first=>go_region_law (first|(refine nT _ rfl (.tmp 30) (.tmp 31) _ rfl (w.heap.size+1) 3 i0 _ 8 underlying33 hi c9 c4 c0 rfl (.slice (some ⟨w2.heap.size,0,none⟩) 0 0) 0 [] rfl (by exact bt.out) B cz ln zs s.out rfl ds.out (by exact ci.out) bl.out.1 bl.out.2 (by exact cu.out) ?_;intro v8 w8 ad T cS;simp only[bB,bQ] at ad;obtain⟨sb,ev,rfl⟩:=G1 ad;have a5:=eJ (ct.out w8 T);have de:=eJ ad;obtain⟨eq,y1,et,e0,el,er,es,en,ez,eg⟩:=fm a5.out.1;clear ad T cS));all_goals go_wp2_with fail;go_meet;exact⟨w8.heap.size,_,rfl,eJ (a5.out.2.alloc a5.out.2.size _),eJ (a5.out.1.alloc _),eJ (eN.new w8 _ _),eJ (jr de.out ((Below.refl w8.heap.size w8).alloc (ar) _))⟩
 case rest=>
  obtain⟨G,ck,rfl,z,bf,ch,b4⟩:=hcut;clear bt ci ct bl cu I ca K Z U x1 E aA a6 ao ac ap am a0;obtain⟨U,x1,E,aA,a6,ao,ac,ap,am,a0⟩:=fm bf.out;rw[d7.out] at U;go_wp2_with fail;go_loopw [10,37] (fun v10 v37 wr=> ∃(k:Nat) (m:Int),k<=nd/\v37=.int .i64 k/\v10=.int .i64 m/\0<=m/\m<=(k:Int)/\Hid (∀fy:Nat,f0=(fy:Int)->fy<65536->m=(jY fy k:Nat))/\wr=wc) (fun _ v _=>nd-(intOf v).toNat);case atStart=>exact⟨0,0,ah,rfl,rfl,ah,ah,eJ (fun fy _ _=>rfl),rfl⟩
  case round=>
   obtain⟨k,m,hk,rfl,rfl,ex,c8,bq,rfl⟩:=hrel;by_cases ei:k<nd
   ·obtain⟨x,cj⟩:=ab (bits .and .i64 (f0/2^k) 1);have ea:x=0\/x=1:=by rw[<-cj];exact Fw _
    have c3:Hid (∀fy:Nat,f0=(fy:Int)->fy<65536->m+x=(jY fy (k+1):Nat)):=eJ (fun fy e bz=>by have h1:=bq.out fy e bz;have h2:=l8 fy k bz;rw[<-e,cj] at h2;rw[qY,h1,h2];unfold fu;split<;>simp_all);go_wp2_with fail;go_roundw;case rel=>exact⟨k+1,m+x,ah,aq,aq,ah,ah,c3,trivial⟩
    case measure=>simp[intOf];omega
   ·obtain rfl:nd=k:=ah;have X:=eJ (Ol C.out a9 bq.out);clear c8 bq;by_cases a1:m<=p.fa;case neg=>
     have Y:Hid (¬tM p f0):=eJ (fun h=>a1 (X.out.1 h).1);have d1:decide (p.fa<m)=true:=aJ ah;clear a1;have u:e=1:=by
      rcases J.out with ⟨_,h⟩|⟨h,_⟩|⟨h,_⟩|⟨h,_⟩
      ·exact h
      all_goals exact absurd h Y.out
     subst u;go_wp2_with fail;go_ret2;exact⟨rfl,z.out⟩
    have d1:decide (p.fa<m)=false:=aH ah;by_cases a2:0<=f0;case neg=>
     have Y:Hid (¬tM p f0):=eJ (fun h=>a2 (X.out.1 h).2.1);have d2:decide (f0<0)=true:=aJ ah;clear a1 a2;have u:e=1:=by
      rcases J.out with ⟨_,h⟩|⟨h,_⟩|⟨h,_⟩|⟨h,_⟩
      ·exact h
      all_goals exact absurd h Y.out
     subst u;go_wp2_with fail;go_ret2;exact⟨rfl,z.out⟩
    have d2:decide (f0<0)=false:=aH ah;by_cases a3:f0/2^nd=0;case neg=>
     have Y:Hid (¬tM p f0):=eJ (fun h=>a3 (X.out.1 h).2.2);have d3:(f0/2^nd==0)=false:=aV.2 a3;clear a1 a2;have u:e=1:=by
      rcases J.out with ⟨_,h⟩|⟨h,_⟩|⟨h,_⟩|⟨h,_⟩
      ·exact h
      all_goals exact absurd h Y.out
     subst u;go_wp2_with fail;go_ret2;exact⟨rfl,z.out⟩
    obtain⟨fy,rfl,be,bk⟩:=X.out.2 ⟨a1,a2,a3⟩;have bj:Hid (tM p fy):=eJ ⟨fy,rfl,be,bk⟩;have cA:=eJ bk;rw[C.out] at be;have d0:fy<65536:=by have:(2:Nat)^nd<=2^16:=aX ah a9;omega
    clear a1 a2 X bk be;by_cases a4:ln=nd;case neg=>
     have u:e=7:=by
      rcases J.out with ⟨h,_⟩|⟨_,_,h⟩|⟨_,h,_⟩|⟨_,h,_⟩
      ·exact absurd bj.out h
      ·exact h
      all_goals (rw[s.out,C.out] at h;exact absurd h a4)
     subst u;have d4:((ln:Int)==(nd:Int))=false:=aV.2 (fun h=>a4 (ey.1 h));have d5:decide ((ln:Int)=(nd:Int))=false:=aH (fun h=>a4 (ey.1 h));go_wp2_with fail;go_ret2;exact⟨rfl,z.out⟩
    subst a4;obtain⟨gk,bi,cur,rfl,-,-,-,-,-,-⟩:=fO b4.out c5;have d8:=eJ (vz b4.out s.out);have u:e=2:=by
     rcases J.out with ⟨h,_⟩|⟨_,h,_⟩|⟨_,_,_,h⟩|⟨_,_,_,h⟩
     ·exact absurd bj.out h
     ·rw[s.out,C.out] at h;exact absurd rfl h
     ·exact h
     ·exact absurd h co.out
    subst u;have dk:Hid (¬EB p fy zs):=eJ (by
     rcases J.out with ⟨h,_⟩|⟨_,h,_⟩|⟨_,_,h,_⟩|⟨_,_,_,h⟩
     ·exact absurd bj.out h
     ·rw[s.out,C.out] at h;exact absurd rfl h
     ·exact h
     ·exact absurd h co.out)
    have bd:Hid (∀W,Below wr.heap.size wr W->eN W G 210 (wL p.nd p.fa p.sk p.ji p.dr p.rd (.slice A p.sl.length c) (.slice AL p.lk.length cl) p.fr (.slice AQ p.wn.length cq) fy (.slice (some ⟨gk,0,none⟩) ln bi) (.slice none 0 0) (.slice none 0 0) (.slice none 0 0) (.slice none 0 0) 0)/\kY W (some ⟨gk,0,none⟩) zs/\W.cell? ⟨w.heap.size,2,none⟩=some (.int .i64 p.sk)):=eJ (fun W hB=>⟨ch.out.below hB ch.out.lt,d8.out.below (ar) hB,(fm (bf.out.below hB bf.out.lt)).2.2.1⟩);obtain⟨b9,a7⟩:=ab (jx zs);have cc:Hid (∀W,Below wr.heap.size wr W->Calls prog 144 #[.pointer (some ⟨G,0,none⟩)] W fun e w'=>e=.returned (.bool b9)/\w'=W):=eJ (fun W hB=>by have h1:=bd.out W hB;have:=vW G p.nd p.fa p.sk p.ji p.dr p.rd (.slice A p.sl.length c) (.slice AL p.lk.length cl) p.fr (.slice AQ p.wn.length cq) (.slice none 0 0) (.slice none 0 0) (.slice none 0 0) (.slice none 0 0) 0 fy (some ⟨gk,0,none⟩) bi zs W (by rw[s.out];exact h1.1) h1.2.1 (by rw[s.out];omega);rw[a7] at this;exact this);cases b9
    ·obtain⟨em,a8,cd⟩:=oU (fy:=fy) dl.out cA.out;have bv:=eJ a7;have dd:Hid (∀W,Below wr.heap.size wr W->Calls prog 106 #[.pointer (some ⟨G,0,none⟩)] W fun e w'=>(∃sp:Int,e=.returned (.int .i64 sp)/\decide (p.sk<sp)=true)/\Below W.heap.size W w'):=eJ (fun W hB=>by have h1:=bd.out W hB;have:=pS G p.nd p.fa p.sk p.ji p.dr p.rd (.slice A p.sl.length c) (.slice AL p.lk.length cl) p.fr (.slice AQ p.wn.length cq) (.slice none 0 0) (.slice none 0 0) (.slice none 0 0) (.slice none 0 0) 0 fy (some ⟨gk,0,none⟩) bi zs W (by rw[s.out];exact h1.1) d0 h1.2.1 (by rw[s.out];exact a9) (by rw[s.out];exact qm zs (by rw[C.out] at a8;exact a8) cd) (fun j c6=>by have:=C6 bv.out c6;omega);refine this.mono ?_;rintro e w' ⟨⟨x,y,rfl,bx,hl⟩,cx⟩;rw[s.out] at bx hl;refine⟨⟨x-y,rfl,aJ (Jw (fun dt=>dk.out ⟨bv.out, ?_⟩) bx hl)⟩,cx⟩;rw[bU,C.out];exact dt);have b8:=E;clear a8 cd a7;go_wp2_with fail;go_region_held3 (fun w'=>w'.cell? ⟨w.heap.size,2,none⟩=some (.int .i64 p.sk)) (first|exact b8|exact c7.out) (first|(go_at_call 144;go_must (refine(cc.out _ (by first|exact au|exact below_drewN (au) 1)).mono ?_);rintro e w5 ⟨rfl,rfl⟩)|(go_at_call 106;go_must (refine(dd.out _ (by first|exact au|exact below_drewN (au) 1)).mono ?_);rintro e w5 ⟨⟨sp,rfl,eb⟩,cr⟩;have cn:=eJ ((below_drewN (Below.refl wr.heap.size wr) 1).trans cr);have c7:=eJ (bd.out w5 cn.out).2.2;clear cr));go_wp2_with fail;go_ret2;exact⟨rfl,z.out.trans (cn.out.mono z.out.size)⟩
    ·have b8:=E;clear a7;go_wp2_with fail;go_quiet ((go_at_call 144;(with_reducible exact bc (cc.out _ (below_drewN (au) _)))));go_wp2_with fail;go_ret2;exact⟨rfl,below_drewN z.out _⟩
end
end
section
variable {p:Pl}{N:Nat}{c:Cl}
theorem J0(hp:gl p)(h:gH p N c){k:Nat}{l:Lk}(hl:p.lk[k]? =some l)(d:ByteArray):gH p N (mT k l d c):=by
 have h1:=h.sd k;have h2:=hp.link k l hl;refine h.Ic k ⟨h1.1,h1.2.1,h1.2.2.1,h1.2.2.2.1, ?_,fun x j=> ?_⟩
 ·show(lu _ _ _).length<=16;unfold lu jg;repeat' split
  all_goals first|(exact absurd ‹_› aj)|exact h1.2.2.2.2.1|(rw[aT,ed];omega)
 ·have e:x∈lu (c.sd k).q d (jg d.size (c.sd k).q.length l.q):=j;unfold lu jg at e;repeat' split at e
  all_goals
   first
    |(exact absurd ‹_› aj)
    |exact h1.2.2.2.2.2 x e
    |
     (
      rcases bY.1 e with h3|h3
      ·exact h1.2.2.2.2.2 x h3
      ·simp at h3;subst h3;omega)
theorem EZ(h:gH p N c)(k i:Nat):gH p (N+1) (lJ k i c):=by have h1:=h.pr k i;refine h.M4 k i ⟨h1.1,by show(c.pr k i).lost<=_;omega, ?_⟩;show(c.pr k i).q.tail.length<=16;rw[List.length_tail];omega
end
theorem sA{p:Pl}{N:Nat}{c:Cl}(hp:gl p)(h:gH p N c)(fy:Nat)(r:Rn):gH p (N+2592) (gD p fy r c):=by
 have h32:=hp.sl;unfold gD;split
 ·exact h.mono ah
 ·rename_i hw;have h1:=(qB h hp fy r p.sl.length).mono (show N+81*p.sl.length<=N+2592 from ah);have s:jx (iw p fy c.ck r)=false:=by cases e:jx (iw p fy c.ck r);rfl;exact absurd e hw
  have hlen:(iw p fy c.ck r).length=p.nd.toNat:=by unfold iw;rw[qS,uR,h.len]
  refine⟨hlen,fun j=> ?_,by show 0<=c.rd+1;have:=h.rd;omega,h1.mm,h1.sd,h1.tk,h1.pr⟩;by_cases u:j<(iw p fy c.ck r).length
  ·unfold jx at s;rw[dw] at s;have:=s _ (ke u);simp only[dA,bI] at this;show _<=(iw p fy c.ck r).getD j 0/\(iw p fy c.ck r).getD j 0<=_;omega
  ·show _<=(iw p fy c.ck r).getD j 0/\(iw p fy c.ck r).getD j 0<=_;rw[aL,bS ah];simp
section
attribute [local irreducible] gD gG mT lJ fP
theorem CQ{w:World}{base:Nat}{a:Ad}{n:Cn}{p:Pl}{P:lz}{fy:Nat}{c:Cl}(h:fW w base a n p P fy c):Calls prog 105 #[.pointer (some ⟨a.g,0,none⟩)] w fun e w'=>e=.returned (.int .i64 c.rd)/\w'=w:=by have j:=(h.ru rfl).2.2.2.2.2.2.2.2;clear h;go_enter func105,ntmps105;go_wp2_with fail;go_ret;exact⟨rfl,rfl⟩
theorem KY{w:World}{base:Nat}{a:Ad}{n:Cn}{p:Pl}{P:lz}{fy:Nat}{c:Cl}(h:fW w base a n p P fy c)(hp:gl p)(hlen:c.ck.length=p.nd.toNat)(C: ∀j,-274877906944<=c.ck.getD j 0/\c.ck.getD j 0<=274877906944)(K:fy<65536)(I:(jY fy p.nd.toNat:Int)<=p.fa):Calls prog 106 #[.pointer (some ⟨a.g,0,none⟩)] w fun e w'=>(∃x y,e=.returned (.int .i64 (x-y))/\rW (fP fy c.ck p.nd.toNat) x/\rM (fP fy c.ck p.nd.toNat) y)/\Below w.heap.size w w':=by have h16:=hp.n16;have h1:=hp.n1;obtain⟨b,off,cp,e⟩:=h.Q4 hlen ah;have z:=h.Ke hlen e;obtain⟨q,J,E⟩:=oU hp I;have u:=h.gA;rw[e,<-hlen] at u;have:=pS a.g p.nd p.fa p.sk p.ji p.dr p.rd P.s P.l p.fr P.q a.mm a.sd a.tk a.pr c.rd fy (some ⟨b,off,none⟩) cp c.ck w u K z ah (by rw[hlen];exact qm c.ck J E) (fun j _=>by have:=C j;omega);rw[hlen] at this;exact this
end
section
attribute [local irreducible] fu
section
variable {P0:Program}
theorem rE(w:World){ops:Array Oper}{rest:List Oper}{o:Oper}{a:Act}{Q:Exit->Act->World->Prop}(E:o.guard=none)(s x:Operand)(t:TypeId)(O:o.op=.call {callee:=.builtin .append,args:= #[s,x],argTypes:= #[t,t]})(base:Nat)(e:TypeId)(i:TypeInfo)(z:Value)(bytes:Nat)(T:P0.underlying t=some (.slice e))(hi:P0.info? e=some i)(C:i.zero=some z)(U:i.size=1)(I:i.bytes=bytes)(aa:z.cells.size=1)(v:Value)(n:Nat)(xs:List Value)(hs:a.eval s=v)(X:w.ownsRow base e 1 v n xs)(b2:Nat)(j:Value)(l:List Value)(ac:a.eval x=j)(J:fK w b2 e j l)(h1: ∀u∈l,u.oneCell'=true)(h63:n+l.length<=maxLen)(Y:(n+l.length)*bytes<=140737488355328)(K:base<=w.heap.size)(h: ∀v' w',w'.ownsRow base e 1 v' (n+l.length) (xs++l)->w.grownBy w' v.ownBlock->(v'.ownBlock=v.ownBlock\/∀k,v'.ownBlock=some k->w.heap.size<=k)->wpList P0 ops Q rest (a.put o.dst v') w'):wpList P0 ops Q (o::rest) a w:=wpList_plain E fun _ Z=>qL w s x t O base e i z bytes T hi C U I aa v n xs hs X b2 j l ac J h1 h63 Y K fun v' w' h2 h3 h4=>Z _ _ (h v' w' h2 h3 h4)
end
section
variable {w:World}{base:Nat}{a:Ad}{p:Pl}{P:lz}{fy:Nat}{c:Cl}
theorem J5(h:fW w base a (eO p) p P fy c)(hp:gl p)(k:Int)(hk:k<0\/(p.lk.length:Int)<=k)(d:ByteArray):Calls prog 101 #[.pointer (some ⟨a.g,0,none⟩),.int .i64 k,.string d] w fun e w'=>e=.returned (gv 2)/\w'=w:=by
 have z:=hp.lk;have u:=h.gA.cell 13;simp at u;obtain⟨ao,cp,e,-⟩:=(h.at_ .sndA:fK w base 217 a.sd ((List.range (eO p).ns).map fun i=>fk (a.gs i))).shape;rw[aY,br] at e;obtain⟨nl,j⟩:=ab p.lk.length;have s:(eO p).ns=nl:=j;rw[s] at e;rw[e] at u;rw[j] at hk z;clear h j e s;go_enter func101,ntmps101;by_cases h0:k<0
 ·have d1:decide (k<0)=true:=aJ h0;go_wp2_with fail;go_ret;exact⟨rfl,rfl⟩
 ·have d1:decide (k<0)=false:=aH h0;have d2:decide ((nl:Int)<=k)=true:=aJ ah;go_wp2_with fail;go_ret;exact⟨rfl,rfl⟩
theorem Et(h:fW w base a (eO p) p P fy c)(hp:gl p)(i k:Int)(hk:i<0\/p.nd<=i\/k<0\/(p.lk.length:Int)<=k):Calls prog 103 #[.pointer (some ⟨a.g,0,none⟩),.int .i64 i,.int .i64 k] w fun e w'=>e=.returned (.tuple #[.string ⟨#[]⟩,gv 2])/\w'=w:=by
 have z:=hp.lk;have s:=h.gA.cell 15;have C:=h.gA.cell 0;simp at s C;obtain⟨ao,cp,e,-⟩:=(h.at_ .prtA:fK w base 220 a.pr ((List.range (eO p).na).map a.rp)).shape;rw[aY,br] at e;obtain⟨nl,j⟩:=ab p.lk.length;have u:(eO p).na=nl:=j;rw[u] at e;rw[e] at s;rw[j] at hk z;clear h j e u;go_enter func103,ntmps103;by_cases h0:i<0
 ·have d1:decide (i<0)=true:=aJ h0;go_wp2_with fail;go_ret2;exact⟨rfl,rfl⟩
 ·have d1:decide (i<0)=false:=aH h0;by_cases h1:p.nd<=i
  ·have d2:decide (p.nd<=i)=true:=aJ h1;go_wp2_with fail;go_ret2;exact⟨rfl,rfl⟩
  ·have d2:decide (p.nd<=i)=false:=aH h1;by_cases h2:k<0
   ·have d3:decide (k<0)=true:=aJ h2;go_wp2_with fail;go_ret2;exact⟨rfl,rfl⟩
   ·have d3:decide (k<0)=false:=aH h2;have d4:decide ((nl:Int)<=k)=true:=aJ ah;go_wp2_with fail;go_ret2;exact⟨rfl,rfl⟩
theorem BJ(h:fW w base a (eO p) p P fy c)(hp:gl p)(hlen:c.ck.length=p.nd.toNat):Calls prog 96 #[.pointer (some ⟨a.g,0,none⟩)] w fun e w'=>(∃A cp,e=.returned (.slice A p.nd.toNat cp)/\kY w' A c.ck)/\Below w.heap.size w w':=by have h16:=hp.n16;have h1:=hp.n1;have j:fK w base 3 a.ck (c.ck.map (Value.int .i64)):=h.at_ .jb;have z:=h.gA.cell 11;simp at z;obtain⟨nd,E⟩: ∃nd,p.nd.toNat=nd:=⟨_,rfl⟩;rw[E] at hlen⊢;have aa:0<nd:=ah;have ad:=h.gA.lt;obtain⟨G,hG⟩:=ab a.g;obtain⟨v,J⟩:=ab a.ck;rw[J] at z j;rw[hG] at z ad⊢;obtain⟨zs,K⟩:=ab c.ck;rw[K] at j hlen⊢;obtain⟨ao,cp,e,-⟩:=j.shape;rw[aY,hlen] at e;subst e;have U:=eJ (j.alloc (.cells #[] 3));have T:=eJ hlen;have Y:Hid ((w.alloc (.cells #[] 3)).ownsRow w.heap.size 3 1 (.slice (some ⟨w.heap.size,0,none⟩) 0 0) 0 []):=eJ (kh (eN.new w 3 #[]) (ar));have s:Hid ((∀u∈zs.map (Value.int .i64),u.oneCell'=true)/\0+(zs.map (Value.int .i64)).length<=maxLen/\(0+(zs.map (Value.int .i64)).length)*8<=140737488355328/\w.heap.size<=(w.alloc (.cells #[] 3)).heap.size):=eJ ⟨by intro u hu;obtain⟨q,_,rfl⟩:=cX.1 hu;rfl,by simp[maxLen];omega,ag,ak⟩;obtain⟨i0,hi,X,Z,am⟩:=eR kz;clear h j hlen E hG J K;go_enter func96,ntmps96;go_wp2_with (at_builtin;go_must (refine rE _ rfl (.tmp 3) (.tmp 7) _ rfl w.heap.size 3 i0 _ 8 underlying33 hi X Z am rfl (.slice (some ⟨w.heap.size,0,none⟩) 0 0) 0 [] rfl (by exact Y.out) base _ (zs.map (Value.int .i64)) rfl (by exact U.out) s.out.1 s.out.2.1 s.out.2.2.1 s.out.2.2.2 ?_);intro v8 w8 C I ac;rw[bB,bQ,aY,T.out] at C;have O:=eJ C;have al:=eJ I;clear C I ac);obtain⟨gk,ap,cur,rfl,-,-,-,-,-,-⟩:=fO O.out aa;go_ret;refine⟨⟨_,_,rfl,vz O.out T.out⟩, ?_⟩;exact((Below.refl w.heap.size w).alloc (ar) (.cells #[] 3)).grown al.out ak (fun k e=>by cases e;exact ar)
theorem AO(h:fW w base a (eO p) p P fy c)(i:Int)(hi:p.nd<=i)(h0:0<=i):Calls prog 99 #[.pointer (some ⟨a.g,0,none⟩),.int .i64 i] w fun e w'=>e=.returned (.tuple #[.int .i64 0,.bool false,gv 2])/\w'=w:=by have j:=h.gA.cell 0;simp at j;clear h;have d1:decide (i<0)=false:=aH ah;have d2:decide (p.nd<=i)=true:=aJ hi;go_enter func99,ntmps99;go_wp2_with fail;exact aR (v:=.tuple #[.int .i64 0,.bool false,.iface 61 (.int .i64 2)]) (by simp[results,results99,go_sem]) rfl ⟨rfl,rfl⟩
theorem Au(h:fW w base a (eO p) p P fy c)(i:Int)(h0:i<0):Calls prog 99 #[.pointer (some ⟨a.g,0,none⟩),.int .i64 i] w fun e w'=>e=.returned (.tuple #[.int .i64 0,.bool false,gv 2])/\w'=w:=by clear h;have d1:decide (i<0)=true:=aJ h0;go_enter func99,ntmps99;go_wp2_with fail;exact aR (v:=.tuple #[.int .i64 0,.bool false,.iface 61 (.int .i64 2)]) (by simp[results,results99,go_sem]) rfl ⟨rfl,rfl⟩
theorem CS(h:fW w base a (eO p) p P fy c)(hp:gl p)(i:Nat)(hi:i<p.nd.toNat):Calls prog 99 #[.pointer (some ⟨a.g,0,none⟩),.int .i64 i] w fun e w'=>e=.returned (.tuple #[.int .i64 ((c.mm i).m:Nat),.bool (c.mm i).fz,.nilIface])/\Below w.heap.size w w':=by
 have h16:=hp.n16;have z:=h.gA.cell 0;have K:=h.gA.cell 12;simp at z K;obtain⟨X,on,Y,I,T⟩:=h.LH rfl (M:=p.nd.toNat) rfl hi;have u:eN w (a.gm i) 261 (jn i p.nd.toNat (c.mm i).m (c.mm i).gd (c.mm i).bd (c.mm i).fz):=by have:=h.at_ (.mem i);simpa[shape,Ob.At,eO,hi] using this
 have j:=eJ (fun q=>Cq (a.gm i) i p.nd.toNat (c.mm i).m (c.mm i).gd (c.mm i).bd (c.mm i).fz (w.drewN q) (u.drewN q));have s:=eJ (fun q=>F4 (a.gm i) i p.nd.toNat (c.mm i).m (c.mm i).gd (c.mm i).bd (c.mm i).fz (w.drewN q) (u.drewN q));obtain⟨nd,C⟩: ∃nd,p.nd.toNat=nd:=⟨_,rfl⟩;have J:p.nd=(nd:Int):=by have:=hp.n1;omega
 rw[C] at I hi;rw[J] at z;have U:nd<=16:=ah;obtain⟨G,hG⟩:=ab a.g;obtain⟨gm,E⟩: ∃gm,a.gm i=gm:=⟨_,rfl⟩;obtain⟨fz,O⟩: ∃fz,(c.mm i).fz=fz:=⟨_,rfl⟩;obtain⟨m,hm⟩: ∃m,(c.mm i).m=m:=⟨_,rfl⟩;rw[hG] at I z⊢;rw[E] at T j s;rw[O] at s⊢;rw[hm] at j⊢;clear h K u C J h16 hG E O hm;go_enter func99,ntmps99;go_wp2_with fail;go_quiet ((first|(go_at_call 132;with_reducible exact bc (j.out _))|(go_at_call 133;with_reducible exact bc (s.out _))));go_wp2_with fail;exact aR (v:=.tuple #[.int .i64 (m:Nat),.bool fz,.nilIface]) (by simp[results,results99,go_sem]) rfl ⟨rfl,below_drewN (au) _⟩
end
end
theorem mO{w:World}{base n g i:Nat}{cp:Nat}{e:TypeId}{xs:List Value}(h:w.ownsRow base e 3 (.slice (some ⟨g,0,none⟩) n cp) n xs)(hi:i<n*3):w.cell? ⟨g,i,none⟩=xs[i]? :=by
 rcases h.2 with ⟨h1,_⟩|⟨g2,cap,cur,u,C,j,z,hm,hs,s⟩
 ·cases h1
 ·cases u;rw[dC w g i cur e (0,0) j,<-s,dh,aM hi];simp
def Bv:List Ls->List Value|[]=>[]|x::l=> .int .i64 x.s::.int .i64 x.c::.int .i64 x.t::Bv l
def Bu:List Rg->List Value|[]=>[]|x::l=> .int .i64 x.n::.int .i64 x.o::.int .i64 x.i::Bu l
theorem vf(x:Ls): ∀l,Bv (l++[x])=Bv l++[.int .i64 x.s,.int .i64 x.c,.int .i64 x.t]|[]=>rfl|y::l=>by rw[bE,Bv,vf x l];rfl
theorem vZ(x:Rg): ∀l,Bu (l++[x])=Bu l++[.int .i64 x.n,.int .i64 x.o,.int .i64 x.i]|[]=>rfl|y::l=>by rw[bE,Bu,vZ x l];rfl
theorem Hm: ∀{l:List Ls}{j:Nat}{x:Ls},l[j]? =some x->(Bv l)[j*3]? =some (.int .i64 x.s)/\(Bv l)[j*3+1]? =some (.int .i64 x.c)/\(Bv l)[j*3+2]? =some (.int .i64 x.t)|[],j,x,h=>by simp at h|y::l,0,x,h=>by simp at h;subst h;exact⟨rfl,rfl,rfl⟩|y::l,j+1,x,h=>by have e:=Hm (l:=l) (j:=j) (x:=x) (by simpa using h);rw[show(j+1)*3=j*3+3 from ah];exact e
theorem IS: ∀{l:List Rg}{j:Nat}{x:Rg},l[j]? =some x->(Bu l)[j*3]? =some (.int .i64 x.n)/\(Bu l)[j*3+1]? =some (.int .i64 x.o)/\(Bu l)[j*3+2]? =some (.int .i64 x.i)|[],j,x,h=>by simp at h|y::l,0,x,h=>by simp at h;subst h;exact⟨rfl,rfl,rfl⟩|y::l,j+1,x,h=>by have e:=IS (l:=l) (j:=j) (x:=x) (by simpa using h);rw[show(j+1)*3=j*3+3 from ah];exact e
theorem Am{w:World}{b n:Nat}{e:TypeId}{v:Value}{l:List Ls}(h:w.ownsRow b e 3 v n (Bv l))(hn:l.length=n): ∃A cp,v=.slice A n cp/\jD w A l/\∀x,A=some x->b<=x.block/\x.block<w.heap.size:=by
 rcases h.2 with ⟨rfl,h2⟩|⟨g,cap,cur,rfl,z,u,_⟩
 ·subst h2;exact⟨none,0,rfl,fun j x s=>by rw[bN hn] at s;simp at s,fun x e=>by cases e⟩
 ·refine⟨some ⟨g,0,none⟩,cap,rfl,fun j x s=> ?_,fun x e=>by
   cases e;exact⟨z,by
    rcases bW g w.heap.size with h1|h1
    ·exact h1
    ·rw[da h1] at u;cases u⟩⟩
  have C:j<n:=by have:=(aQ.1 s).1;omega
  obtain⟨a1,a2,a3⟩:=Hm s;exact⟨g,0,rfl,by rw[mO h ah,bB];exact a1,by rw[mO h ah,bB];exact a2,by rw[mO h ah,bB];exact a3⟩
theorem Aw{w:World}{b n:Nat}{e:TypeId}{v:Value}{l:List Rg}(h:w.ownsRow b e 3 v n (Bu l))(hn:l.length=n): ∃A cp,v=.slice A n cp/\Ce w A l/\∀x,A=some x->b<=x.block/\x.block<w.heap.size:=by
 rcases h.2 with ⟨rfl,h2⟩|⟨g,cap,cur,rfl,z,u,_⟩
 ·subst h2;exact⟨none,0,rfl,fun j x s=>by rw[bN hn] at s;simp at s,fun x e=>by cases e⟩
 ·refine⟨some ⟨g,0,none⟩,cap,rfl,fun j x s=> ?_,fun x e=>by
   cases e;exact⟨z,by
    rcases bW g w.heap.size with h1|h1
    ·exact h1
    ·rw[da h1] at u;cases u⟩⟩
  have C:j<n:=by have:=(aQ.1 s).1;omega
  obtain⟨a1,a2,a3⟩:=IS s;exact⟨g,0,rfl,by rw[mO h ah,bB];exact a1,by rw[mO h ah,bB];exact a2,by rw[mO h ah,bB];exact a3⟩
def AB:List Sl->List Value|[]=>[]|x::l=> .int .i64 x.n::.int .i64 x.f::.int .i64 x.t::AB l
def zv:List Lk->List Value|[]=>[]|x::l=> .int .i64 x.f::.int .i64 x.t::.int .i64 x.b::.int .i64 x.q::zv l
theorem uP(x:Sl): ∀l,AB (l++[x])=AB l++[.int .i64 x.n,.int .i64 x.f,.int .i64 x.t]|[]=>rfl|y::l=>by rw[bE,AB,uP x l];rfl
theorem wh(x:Lk): ∀l,zv (l++[x])=zv l++[.int .i64 x.f,.int .i64 x.t,.int .i64 x.b,.int .i64 x.q]|[]=>rfl|y::l=>by rw[bE,zv,wh x l];rfl
theorem Is: ∀{l:List Sl}{j:Nat}{x:Sl},l[j]? =some x->(AB l)[j*3]? =some (.int .i64 x.n)/\(AB l)[j*3+1]? =some (.int .i64 x.f)/\(AB l)[j*3+2]? =some (.int .i64 x.t)|[],j,x,h=>by simp at h|y::l,0,x,h=>by simp at h;subst h;exact⟨rfl,rfl,rfl⟩|y::l,j+1,x,h=>by have e:=Is (l:=l) (j:=j) (x:=x) (by simpa using h);rw[show(j+1)*3=j*3+3 from ah];exact e
theorem ID: ∀{l:List Lk}{j:Nat}{x:Lk},l[j]? =some x->(zv l)[j*4]? =some (.int .i64 x.f)/\(zv l)[j*4+1]? =some (.int .i64 x.t)/\(zv l)[j*4+2]? =some (.int .i64 x.b)/\(zv l)[j*4+3]? =some (.int .i64 x.q)|[],j,x,h=>by simp at h|y::l,0,x,h=>by simp at h;subst h;exact⟨rfl,rfl,rfl,rfl⟩|y::l,j+1,x,h=>by have e:=ID (l:=l) (j:=j) (x:=x) (by simpa using h);rw[show(j+1)*4=j*4+4 from ah];exact e
theorem gK{w:World}{base size n:Nat}{e:TypeId}{v:Value}{xs:List Value}(h:w.ownsRow base e size v n xs): ∃A cp,v=.slice A n cp/\n<=cp/\(∀x,A=some x->v.ownBlock=some x.block)/\∀i,i<n*size->∃g,A=some ⟨g,0,none⟩/\w.cell? ⟨g,i,none⟩=xs[i]? :=by
 obtain⟨hl,⟨rfl,rfl⟩|⟨g,cap,cur,rfl,C,z,hn,hm,hs,u⟩⟩:=h
 ·exact⟨none,0,rfl,ar,fun x e=>by(first|cases e),fun j s=>ah⟩
 ·refine⟨_,cap,rfl,hn,fun x e=>by cases e;rfl,fun j s=>⟨g,rfl, ?_⟩⟩;rw[dC w g j cur e (0,0) z,<-u,dh,aM s];simp
theorem ye{w:World}{b n:Nat}{e:TypeId}{v:Value}{l:List Sl}(h:w.ownsRow b e 3 v n (AB l))(hn:l.length=n): ∃A cp,v=.slice A n cp/\fN w A n l/\∀x,A=some x->v.ownBlock=some x.block:=by
 obtain⟨A,cp,E,_,I,z⟩:=gK h;refine⟨A,cp,E,fun j J=> ?_,I⟩;obtain⟨g,u,_⟩:=z (j*3) ah;have C:l[j]? =some l[j]:=aF ah;obtain⟨a0,a1,a2⟩:=Is C;have cell: ∀i,i<n*3->w.cell? ⟨g,0+i,none⟩=(AB l)[i]? :=fun i hi=>by obtain⟨g',s,c⟩:=z i hi;rw[u] at s;cases s;rw[bB];exact c
 exact⟨g,0,u,_,C,(cell (j*3) ah).trans a0,(cell (j*3+1) ah).trans a1,(cell (j*3+2) ah).trans a2⟩
theorem xD{w:World}{b n:Nat}{e:TypeId}{v:Value}{l:List Lk}(h:w.ownsRow b e 4 v n (zv l))(hn:l.length=n): ∃A cp,v=.slice A n cp/\fA w A n l/\∀x,A=some x->v.ownBlock=some x.block:=by
 obtain⟨A,cp,E,_,I,z⟩:=gK h;refine⟨A,cp,E,fun j J=> ?_,I⟩;obtain⟨g,u,_⟩:=z (j*4) ah;have C:l[j]? =some l[j]:=aF ah;obtain⟨a0,a1,a2,a3⟩:=ID C;have cell: ∀i,i<n*4->w.cell? ⟨g,0+i,none⟩=(zv l)[i]? :=fun i hi=>by obtain⟨g',s,c⟩:=z i hi;rw[u] at s;cases s;rw[bB];exact c
 exact⟨g,0,u,_,C,(cell (j*4) ah).trans a0,(cell (j*4+1) ah).trans a1,(cell (j*4+2) ah).trans a2,(cell (j*4+3) ah).trans a3⟩
theorem rS{w:World}{b n:Nat}{e:TypeId}{v:Value}{l:List Int}(h:w.ownsRow b e 1 v n (l.map (Value.int .i64)))(hn:l.length=n): ∃A cp,v=.slice A n cp/\n<=cp/\kY w A l/\∀x,A=some x->v.ownBlock=some x.block:=by obtain⟨A,cp,z,hle,C,E⟩:=gK h;refine⟨A,cp,z,hle,fun j s=> ?_,C⟩;obtain⟨g,u,c⟩:=E j ah;exact⟨g,0,u,by rw[bB,c,bp,aF s,aL,aF s];rfl⟩
structure Ly where
 v:Nat→Value
 S:Ix→Ob
 cv:Value
def Pw:Nat->TypeId|0=>86|1=>88|2=>169|3=>174|_=>3
def Af:Nat->Nat|0=>3|1=>4|2=>3|3=>3|_=>1
def ju(d:Dk):Nat->List Value|0=>AB d.p.sl|1=>zv d.p.lk|2=>Bv d.r.ls|3=>Bu d.r.rg|4=>d.r.dr.map (Value.int .i64)|_=>d.r.md.map (Value.int .i64)
def iR(d:Dk):Nat->Nat|0=>d.p.sl.length|1=>d.p.lk.length|2=>d.r.ls.length|3=>d.r.rg.length|4=>d.r.dr.length|_=>d.r.md.length
abbrev ic(d:Dk)(L:Ly):Array Value:= #[.int .i64 d.p.nd,.int .i64 d.p.fa,.int .i64 d.p.sk,.int .i64 d.p.ji,.int .i64 d.p.dr,.int .i64 d.p.rd,L.v 0,L.v 1,.int .i64 d.p.fr,.slice none 0 0,L.cv,L.v 2,L.v 3,L.v 4,L.v 5]
def nO(g:Nat)(L:Ly)(i:Nat):Prop:=i=g\/(∃j,j<6/\(L.v j).ownBlock=some i)\/py L.S i
def uA(d:Dk)(L:Ly):Prop:=match d.c with|none=>L.cv=.pointer none/\L.S=fun _=>Ob.none|some x=> ∃a,L.cv=fk a.g/\L.S=shape a (eO d.p) d.p ⟨L.v 0,L.v 1,.slice none 0 0⟩ x.1 x.2
structure nI (w0 w:World) (g:Nat) (d:Dk) (L:Ly):Prop where
 low:Below w0.heap.size w0 w
 gb:w0.heap.size≤g
 eW:eN w g 37 (ic d L)
 own: ∀j,j<6→w.ownsRow w0.heap.size (Pw j) (Af j) (L.v j) (iR d j) (ju d j)
 off: ∀j,j<6→(L.v j).ownBlock≠some g
 sep: ∀i j b,i<6→j<6→(L.v i).ownBlock=some b→(L.v j).ownBlock=some b→i=j
 gJ: ∃b,w0.heap.size≤b∧b≤w.heap.size∧fx w b L.S
 l9: ¬py L.S g
 nj: ∀j b,j<6→(L.v j).ownBlock=some b→¬py L.S b
 im:uA d L
structure ko (w w':World) (g:Nat) (L L':Ly):Prop where
 os:w'.os=w.os
 tape:w'.tape=w.tape
 output:w'.output=w.output
 size:w.heap.size≤w'.heap.size
 block: ∀i,i<w.heap.size→¬nO g L i→w'.heap[i]? =w.heap[i]?
 gJ: ∀i,nO g L' i→nO g L i∨w.heap.size≤i
def iN(w0 w:World)(g:Nat)(L:Ly)(w':World)(d':Dk):Prop:= ∃L',nI w0 w' g d' L'/\ko w w' g L L'
section
variable {w0 w w' w2:World}{g:Nat}{d d':Dk}{L L' L2:Ly}
theorem ko.trans(h:ko w w' g L L')(h2:ko w' w2 g L' L2):ko w w2 g L L2:=⟨h2.os.trans h.os,h2.tape.trans h.tape,h2.output.trans h.output,aK h.size h2.size,fun i hi hn=>(h2.block i (aN hi h.size) (fun j=>(h.gJ i j).elim hn (fun e=>ah))).trans (h.block i hi hn),fun k j=>(h2.gJ k j).elim (h.gJ k) (fun e=> .inr (aK h.size e))⟩
theorem ko.fC(hB:Below w.heap.size w w'):ko w w' g L L:=⟨hB.os,hB.tape,hB.output,hB.size,fun i hi _=>hB.block i hi,fun _ h=> .inl h⟩
theorem nI.lo(h:nI w0 w g d L){i:Nat}(hi:nO g L i):w0.heap.size<=i/\i<w.heap.size:=by
 rcases hi with rfl|⟨j,hj,e⟩|⟨x,hx⟩
 ·exact⟨h.gb,h.eW.lt⟩
 ·have h1:=h.own j hj;obtain⟨_,⟨s,_⟩|⟨b,cap,cur,s,u,z,_⟩⟩:=h1
  ·rw[s] at e;cases e
  ·rw[s] at e;cases e;exact⟨u,(aS.1 z).1⟩
 ·obtain⟨b,u,_,C⟩:=h.gJ;have:=C.own x i hx;omega
theorem nI.kJ(h:nI w0 w g d L)(hk:ko w w' g L L'):Below w0.heap.size w0 w':=⟨hk.os.trans h.low.os,hk.tape.trans h.low.tape,hk.output.trans h.low.output,aK h.low.size hk.size,fun i hi=>(hk.block i (aN hi h.low.size) (fun e=>by have:=(h.lo e).1;omega)).trans (h.low.block i hi)⟩
theorem nI.same(h:nI w0 w g d L)(hs:w.heap.size<=w'.heap.size)(hl:Below w0.heap.size w0 w')(hk: ∀i,i<w.heap.size->nO g L i->w'.heap[i]? =w.heap[i]?):nI w0 w' g d L:={low:=hl,gb:=h.gb,eW:=(hk g h.eW.lt (.inl rfl)).trans h.eW,own:=fun j s=>fv (h.own j s) (fun b e=>hk b (h.lo (.inr (.inl ⟨j,s,e⟩))).2 (.inr (.inl ⟨j,s,e⟩))),off:=h.off,sep:=h.sep,gJ:=by obtain⟨b,h1,h2,z⟩:=h.gJ;exact⟨b,h1,ah,z.pV hs (fun i hi u=>hk i hi (.inr (.inr u)))⟩,l9:=h.l9,nj:=h.nj,im:=h.im}
theorem nI.below(h:nI w0 w g d L)(hB:Below w.heap.size w w'):nI w0 w' g d L:=h.same hB.size (h.kJ (ko.fC (L:=L) (g:=g) hB)) (fun i hi _=>hB.block i hi)
theorem nI.to(h:nI w0 w g d L)(hB:Below w.heap.size w w'):iN w0 w g L w' d:=⟨L,h.below hB,.fC hB⟩
theorem iN.after(hB:Below w.heap.size w w2)(h:iN w0 w2 g L w' d'):iN w0 w g L w' d':=by obtain⟨L',h1,h2⟩:=h;exact⟨L',h1,(ko.fC hB).trans h2⟩
theorem iN.below(h:iN w0 w g L w' d')(hB:Below w'.heap.size w' w2):iN w0 w g L w2 d':=by obtain⟨L',h1,h2⟩:=h;exact⟨L',h1.below hB,h2.trans (.fC hB)⟩
theorem ko.grown(j:w.grownBy w' (some g)):ko w w' g L L:=⟨j.os,j.tape,j.output,j.size,fun i hi hn=>j.block i hi (fun e=>hn (.inl (by cases e;rfl))),fun _ h=> .inl h⟩
theorem nI.put(h:nI w0 w g d L)(s:w.grownBy w' (some g))(J:eN w' g 37 (ic d' L))(C: ∀j,ju d' j=ju d j/\iR d' j=iR d j)(K:d.c=none)(E:d'.c=none):iN w0 w g L w' d':=by
 have hk:ko w w' g L L:=.grown s;have z: ∀i,i<w.heap.size->i≠g->w'.heap[i]? =w.heap[i]? :=fun i hi hn=>s.block i hi (fun e=>hn (by cases e;rfl));refine⟨L,⟨h.kJ hk,h.gb,J,fun j u=> ?_,h.off,h.sep, ?_,h.l9,h.nj, ?_⟩,hk⟩
 ·rw[(C j).1,(C j).2];exact fv (h.own j u) (fun b e=>z b (h.lo (.inr (.inl ⟨j,u,e⟩))).2 (fun I=>h.off j u (by rw[e,I])))
 ·obtain⟨b,h1,h2,O⟩:=h.gJ;exact⟨b,h1,aK h2 s.size,O.pV s.size (fun i hi T=>z i hi (fun e=>h.l9 (by rw[<-e];exact T)))⟩
 ·have:=h.im;unfold uA at this⊢;rw[K] at this;rw[E];exact this
theorem nI.row(h:nI w0 w g d L)(s:Nat)(E:s<6)(v:Value)(O:w.grownBy w2 (L.v s).ownBlock)(T:v.ownBlock=(L.v s).ownBlock\/∀b,v.ownBlock=some b->w.heap.size<=b)(K:w2.grownBy w' (some g))(ac:w2.ownsRow w0.heap.size (Pw s) (Af s) v (iR d' s) (ju d' s))(aa:eN w' g 37 (ic d' {L with v:=eV L.v s v}))(al: ∀j,j<6->j≠s->ju d' j=ju d j/\iR d' j=iR d j)(ap:d'.c=d.c)(hp:d.c=none\/(2<=s/\d'.p=d.p)):iN w0 w g L w' d':=by
 have Y:=O.size;have a3: ∀b,v.ownBlock=some b->b<w2.heap.size:=fun b e=>by
  obtain⟨_,⟨u,_⟩|⟨b2,cap,cur,u,aa,a0,_⟩⟩:=ac
  ·rw[u] at e;cases e
  ·rw[u] at e;cases e;exact(aS.1 a0).1
 have U: ∀i,i<w.heap.size->i≠g->some i≠(L.v s).ownBlock->w'.heap[i]? =w.heap[i]? :=fun i hi hn hm=>(K.block i (aN hi Y) (fun e=>hn (by cases e;rfl))).trans (O.block i hi hm);have hk:ko w w' g L {L with v:=eV L.v s v}:=by
  refine⟨K.os.trans O.os,K.tape.trans O.tape,K.output.trans O.output,aK Y K.size,fun i hi hn=>U i hi (fun e=>hn (.inl e)) (fun e=>hn (.inr (.inl ⟨s,E,e.symm⟩))), ?_⟩;rintro i (rfl|⟨j,z,e⟩|J)
  ·exact .inl (.inl rfl)
  ·dsimp only[eV] at e;by_cases u:j=s
   ·rw[aM u] at e;rcases T with h1|h1
    ·exact .inl (.inr (.inl ⟨s,E,by rw[<-h1];exact e⟩))
    ·exact .inr (h1 i e)
   ·rw[aI u] at e;exact .inl (.inr (.inl ⟨j,z,e⟩))
  ·exact .inl (.inr (.inr J))
 have Z:v.ownBlock≠some g:=fun e=>by
  rcases T with h1|h1
  ·exact h.off s E (by rw[<-h1];exact e)
  ·have:=h1 g e;have:=h.eW.lt;omega
 have ad: ∀i b,i<6->i≠s->(L.v i).ownBlock=some b->v.ownBlock≠some b:=fun i b hi aA e u=>by
  rcases T with h1|h1
  ·exact aA (h.sep i s b hi E e (by rw[<-h1];exact u))
  ·have:=h1 b u;have:=(h.lo (.inr (.inl ⟨i,hi,e⟩))).2;omega
 have am: ∀b,v.ownBlock=some b->¬py L.S b:=fun b e J=>by
  rcases T with h1|h1
  ·exact h.nj s b E (by rw[<-h1];exact e) J
  ·have:=h1 b e;have:=(h.lo (.inr (.inr J))).2;omega
 refine⟨{L with v:=eV L.v s v},⟨h.kJ hk,h.gb,aa,fun j z=> ?_,fun j z=> ?_,fun i j b hi z I u=> ?_, ?_,h.l9,fun j b z e=> ?_, ?_⟩,hk⟩
 ·dsimp only[eV];by_cases e:j=s
  ·subst e;rw[aM rfl];exact fv ac (fun b e=>K.block b (a3 b e) (fun u=>Z (by rw[e];exact u)))
  ·rw[aI e,(al j z e).1,(al j z e).2];exact fv (h.own j z) (fun b X=>U b (h.lo (.inr (.inl ⟨j,z,X⟩))).2 (fun u=>h.off j z (by rw[X,u])) (fun u=>e (h.sep j s b z E X u.symm)))
 ·dsimp only[eV];split
  ·exact Z
  ·exact h.off j z
 ·dsimp only[eV] at I u;by_cases a1:i=s<;>by_cases a2:j=s
  ·omega
  ·rw[aM a1] at I;rw[aI a2] at u;exact absurd I (ad j b z a2 u)
  ·rw[aI a1] at I;rw[aM a2] at u;exact absurd u (ad i b hi a1 I)
  ·rw[aI a1] at I;rw[aI a2] at u;exact h.sep i j b hi z I u
 ·obtain⟨b,h1,h2,a4⟩:=h.gJ;exact⟨b,h1,aK h2 hk.size,a4.pV hk.size (fun i hi J=>U i hi (fun e=>h.l9 (by rw[<-e];exact J)) (fun e=>h.nj s i E e.symm J))⟩
 ·dsimp only[eV] at e;by_cases u:j=s
  ·rw[aM u] at e;exact am b e
  ·rw[aI u] at e;exact h.nj j b z e
 ·have C:=h.im;unfold uA at C⊢;rw[ap];rcases hp with hp|⟨hp,ao⟩
  ·rw[hp] at C⊢;exact C
  ·cases hd:d.c with|none=>rw[hd] at C;exact C|some x=>rw[hd] at C;obtain⟨a,h1,h2⟩:=C;refine⟨a,h1, ?_⟩;rw[ao];dsimp only[eV];rw[aI ah,aI ah];exact h2
theorem nI.BK(h:nI w0 w g d L){fy:Nat}{c c':Cl}(hd:d.c=some (fy,c)){b:Nat}{a:Ad}(C:L.S=shape a (eO d.p) d.p ⟨L.v 0,L.v 1,.slice none 0 0⟩ fy c)(J:L.cv=fk a.g)(U:w0.heap.size<=b)(O:b<=w.heap.size)(T:iG w b a (eO d.p) d.p ⟨L.v 0,L.v 1,.slice none 0 0⟩ fy c w' c'):iN w0 w g L w' {d with c:=some (fy,c')}:=by
 obtain⟨E,X,K,s⟩:=T;have hk:ko w w' g L {L with S:=shape E (eO d.p) d.p ⟨L.v 0,L.v 1,.slice none 0 0⟩ fy c'}:=by
  refine⟨s.os,s.tape,s.output,s.size,fun i hi hn=>s.block i hi (fun u=>hn (.inr (.inr (by rw[C];exact u)))), ?_⟩;rintro i (rfl|h1|u)
  ·exact .inl (.inl rfl)
  ·exact .inl (.inr (.inl h1))
  ·rcases s.gJ i u with h1|h1
   ·exact .inl (.inr (.inr (by rw[C];exact h1)))
   ·exact .inr h1
 have I: ∀i,i<w.heap.size->¬py L.S i->w'.heap[i]? =w.heap[i]? :=fun i hi hn=>s.block i hi (by rw[<-C];exact hn);refine⟨{L with S:=shape E (eO d.p) d.p ⟨L.v 0,L.v 1,.slice none 0 0⟩ fy c'},⟨h.kJ hk,h.gb,(I g h.eW.lt h.l9).trans h.eW,fun j z=>fv (h.own j z) (fun b e=>I b (h.lo (.inr (.inl ⟨j,z,e⟩))).2 (h.nj j b z e)),h.off,h.sep,⟨b,U,aK O s.size,K⟩,fun u=> ?_,fun j b z e u=> ?_, ?_⟩,hk⟩
 ·rcases s.gJ g u with h1|h1
  ·exact h.l9 (by rw[C];exact h1)
  ·have:=h.eW.lt;omega
 ·rcases s.gJ b u with h1|h1
  ·exact h.nj j b z e (by rw[C];exact h1)
  ·have:=(h.lo (.inr (.inl ⟨j,z,e⟩))).2;omega
 ·exact⟨E,by rw[J,<-X],rfl⟩
theorem nI.start(h:nI w0 w g d L)(hd:d.c=none)(hB:Below w.heap.size w w2){b:Nat}{a:Ad}{fy:Nat}{c:Cl}(T:w.heap.size<=b)(u:fW w2 b a (eO d.p) d.p ⟨L.v 0,L.v 1,.slice none 0 0⟩ fy c):iN w0 w g L (w2.setCell ⟨g,10,none⟩ (fk a.g)) {d with c:=some (fy,c)}:=by
 have E:=h.eW.lt;have K:b<=w2.heap.size:=by have:=(u.own .im a.g (by simp[shape,Ob.eX]));omega
 have z: ∀i,i<w2.heap.size->i≠g->(w2.setCell ⟨g,10,none⟩ (fk a.g)).heap[i]? =w2.heap[i]? :=fun i _ hn=>aW w2 _ _ i hn;have C:(w2.setCell ⟨g,10,none⟩ (fk a.g)).heap.size=w2.heap.size:=by simp[World.setCell]
 have hk:ko w (w2.setCell ⟨g,10,none⟩ (fk a.g)) g L {v:=L.v,S:=shape a (eO d.p) d.p ⟨L.v 0,L.v 1,.slice none 0 0⟩ fy c,cv:=fk a.g}:=by
  refine⟨hB.os,hB.tape,hB.output,by rw[C];exact hB.size,fun i hi hn=>(z i (aN hi hB.size) (fun e=>hn (.inl e))).trans (hB.block i hi), ?_⟩;rintro i (rfl|h1|⟨x,I⟩)
  ·exact .inl (.inl rfl)
  ·exact .inl (.inr (.inl h1))
  ·exact .inr (aK T (u.own x i I).1)
 have J: ∀i,i<w.heap.size->¬py (shape a (eO d.p) d.p ⟨L.v 0,L.v 1,.slice none 0 0⟩ fy c) i:=fun i hi ⟨x,I⟩=>by have:=(u.own x i I).1;omega
 refine⟨{v:=L.v,S:=shape a (eO d.p) d.p ⟨L.v 0,L.v 1,.slice none 0 0⟩ fy c,cv:=fk a.g},⟨h.kJ hk,h.gb, ?_,fun j s=> ?_,h.off,h.sep,⟨b, ?_,by rw[C];exact K, ?_⟩,J g E,fun j b2 s e=>J b2 (h.lo (.inr (.inl ⟨j,s,e⟩))).2,⟨a,rfl,rfl⟩⟩,hk⟩
 ·have:=(h.eW.below hB E).eS 10 (fk a.g);exact this
 ·exact fv (h.own j s) (fun b2 e=>(z b2 (aN (h.lo (.inr (.inl ⟨j,s,e⟩))).2 hB.size) (fun O=>h.off j s (by rw[e,O]))).trans (hB.block b2 (h.lo (.inr (.inl ⟨j,s,e⟩))).2))
 ·have:=h.low.size;omega
 ·exact u.pV (by rw[C];exact ar) (fun i hi U=>z i hi (fun e=>J g E (by rw[<-e];exact U)))
theorem nI.reset(h:nI w0 w g d L)(E:w.grownBy w' (some g)){C:Ly}(z:C={L with v:=fun j=>if j<2 then L.v j else .slice none 0 0})(X:eN w' g 37 (ic {d with r:=⟨[],[],[],[]⟩} C)):iN w0 w g L w' {d with r:=⟨[],[],[],[]⟩}:=by
 have T: ∀i,i<w.heap.size->i≠g->w'.heap[i]? =w.heap[i]? :=fun i hi hn=>E.block i hi (fun e=>hn (by cases e;rfl));have J: ∀j b,(C.v j).ownBlock=some b->j<2/\(L.v j).ownBlock=some b:=fun j b e=>by
  rw[z] at e;dsimp only at e;by_cases s:j<2
  ·rw[aM s] at e;exact⟨s,e⟩
  ·rw[aI s] at e;cases e
 have O:C.S=L.S:=by rw[z]
 have hk:ko w w' g L C:=by
  refine⟨E.os,E.tape,E.output,E.size,fun i hi hn=>T i hi (fun e=>hn (.inl e)), ?_⟩;rintro i (rfl|⟨j,s,e⟩|U)
  ·exact .inl (.inl rfl)
  ·exact .inl (.inr (.inl ⟨j,s,(J j i e).2⟩))
  ·exact .inl (.inr (.inr (by rw[<-O];exact U)))
 refine⟨C,⟨h.kJ hk,h.gb,X,fun j s=> ?_,fun j s e=>h.off j s (J j g e).2,fun i j b hi s K u=>h.sep i j b hi s (J i b K).2 (J j b u).2, ?_,by rw[O];exact h.l9,fun j b s e=>by rw[O];exact h.nj j b s (J j b e).2, ?_⟩,hk⟩
 ·by_cases h2:j<2
  ·have K:C.v j=L.v j:=by rw[z];exact aM h2
   have u:ju {d with r:=⟨[],[],[],[]⟩} j=ju d j/\iR {d with r:=⟨[],[],[],[]⟩} j=iR d j:=by
    obtain rfl|rfl:j=0\/j=1:=ah
    ·exact⟨rfl,rfl⟩
    ·exact⟨rfl,rfl⟩
   rw[K,u.1,u.2];exact fv (h.own j s) (fun b e=>T b (h.lo (.inr (.inl ⟨j,s,e⟩))).2 (fun u=>h.off j s (by rw[e,u])))
  ·have K:C.v j=.slice none 0 0:=by rw[z];exact aI h2
   have u:ju {d with r:=⟨[],[],[],[]⟩} j=[]/\iR {d with r:=⟨[],[],[],[]⟩} j=0:=by obtain rfl|rfl|rfl|rfl:j=2\/j=3\/j=4\/j=5:=ah;all_goals exact⟨rfl,rfl⟩
   rw[K,u.1,u.2];exact⟨ak,.inl ⟨rfl,rfl⟩⟩
 ·obtain⟨b,h1,h2,Y⟩:=h.gJ;rw[O];exact⟨b,h1,aK h2 E.size,Y.pV E.size (fun i hi U=>T i hi (fun e=>h.l9 (by rw[<-e];exact U)))⟩
 ·have I:=h.im;unfold uA at I⊢;cases hd:d.c with|none=>rw[hd] at I;exact⟨by rw[z];exact I.1,by rw[z];exact I.2⟩|some x=>rw[hd] at I;obtain⟨a,h1,h2⟩:=I;exact⟨a,by rw[z];exact h1,by rw[z];exact h2⟩
abbrev zt:Ly:=⟨fun _=> .slice none 0 0,fun _=> .none,.pointer none⟩
theorem IY(hl:Below w0.heap.size w0 w)(z:w0.heap.size<=g)(u:eN w g 37 (ic ld zt)):nI w0 w g ld zt:=by
 have s: ∀i,¬py zt.S i:=fun i ⟨x,C⟩=>by simp[Ob.eX] at C
 refine⟨hl,z,u,fun j h=>⟨?_,.inl ⟨rfl, ?_⟩⟩,(fun j h e=>by cases e),(fun i j b hi h e=>by cases e),⟨w.heap.size,hl.size,ar,⟨fun x=>trivial,fun x k hm=>by simp[Ob.eX] at hm,fun x y k hm=>by simp[Ob.eX] at hm⟩⟩,s g,fun j b h e=>s b,rfl,rfl⟩
 ·obtain rfl|rfl|rfl|rfl|rfl|rfl:j=0\/j=1\/j=2\/j=3\/j=4\/j=5:=ah;all_goals rfl
 ·obtain rfl|rfl|rfl|rfl|rfl|rfl:j=0\/j=1\/j=2\/j=3\/j=4\/j=5:=ah;all_goals rfl
theorem nI.clear(h:nI w0 w g d L)(s:w.grownBy w' (some g))(z:eN w' g 37 (ic ld zt)):iN w0 w g L w' ld:=by
 have u: ∀i,¬py zt.S i:=fun i ⟨x,E⟩=>by simp[Ob.eX] at E
 have hk:ko w w' g L zt:=by
  refine⟨s.os,s.tape,s.output,s.size,fun i hi hn=>s.block i hi (fun e=>hn (.inl (by cases e;rfl))), ?_⟩;rintro i (rfl|⟨j,I,e⟩|C)
  ·exact .inl (.inl rfl)
  ·cases e
  ·exact absurd C (u i)
 exact⟨zt,IY (h.kJ hk) h.gb z,hk⟩
end
def oD(a b:Nat):Value:=.agg #[.int .i64 a,.int .i64 b]
def uH(a b:Int):Value:=.agg #[.int .i64 a,.int .i64 b]
theorem vA:prog.info? 3=some ((prog.info? 3).getD default):=ai
theorem tw:prog.cellsOf 3=1:=ai
theorem DZ:prog.plainKey 3=true:=ai
theorem Du(w:World)(a b:Value):(part 3 #[a,b] 0).run prog w=.ok a w:=run_part_plain w DZ rfl
theorem tX(w:World)(a b:Value):(part 3 #[a,b] 1).run prog w=.ok b w:=run_part_plain w DZ rfl
theorem DY(d:Nat)(w:World)(a b:Int):(Op.equalIn (d+1) 3 (.int .i64 a) (.int .i64 b)).run prog w=.ok (a==b) w:=run_equalIn_int w d 3 .i64 .i64 a b underlying3
theorem Kz(w:World)(a b c e:Int):(Op.equal 146 (uH a b) (uH c e)).run prog w=.ok (a==c&&b==e) w:=by unfold Op.equal uH;rw[show Op.maxDepth=9998+1+1 from rfl,run_equalIn_array w _ _ _ underlying146 vA,tw];simp only[List.range,List.range.loop,Op.eqItems,Nat.zero_mul,Nat.one_mul,bZ,Du,tX,bG,DY];cases j:a==c<;>cases h:b==e<;>simp[tX,DY]<;>simp_all
theorem Da(em:Bool)(n:Nat)(w:World)(a:Int):(Instr.checkKey em (n+1) 3 (.int .i64 a)).run prog w=.ok () w:=by simp[Instr.checkKey,bK underlying3]
theorem vl(em:Bool)(w:World)(a b:Int):(Instr.checkKey em 10000 146 (uH a b)).run prog w=.ok () w:=by unfold uH;rw[show(10000:Nat)=9998+1+1 from rfl];unfold Instr.checkKey;simp only[bZ,bK underlying146,bG];simp only[Std.Legacy.Range.forIn_eq_forIn_range',Std.Legacy.Range.size,Nat.sub_zero,Nat.add_one_sub_one,Nat.div_one,List.range',List.forIn_cons,List.forIn_nil,bZ,run_sizeOf w vA,tw,bG,Nat.zero_mul,Nat.one_mul,Du,tX,Da,bB];simp[tX,Da]
abbrev KV:=(Nat×Nat)×Value
def lp(a b:Nat):List KV->Nat->Option (Nat×Value)|[],_=>none|x::xs,i=>if x.1.1=a/\x.1.2=b then some (i,x.2) else lp a b xs (i+1)
def ph(a b:Nat)(v:Value):List KV->List KV|[]=>[((a,b),v)]|x::xs=>if x.1.1=a/\x.1.2=b then(x.1,v)::xs else x::ph a b v xs
def zo(a b:Nat)(l:List KV):Option Value:=(lp a b l 0).map (·.2)
theorem vD(w:World)(a b:Nat): ∀(es:List MapEntry)(l:List KV)(i:Nat),es.map (fun e=>(e.key,e.val))=l.map (fun x=>(oD x.1.1 x.1.2,x.2))->(Instr.findAsking 146 (oD a b) es i).run prog w=.ok (lp a b l i) w
 |[],[],i,_=>by simp[Instr.findAsking,lp]
 |[],_::_,_,h=>by simp at h
 |_::_,[],_,h=>by simp at h
 |e::es,x::xs,i,h=>by
  simp only[cK,List.cons.injEq,Prod.mk.injEq] at h;have s:=vD w a b es xs (i+1) h.2;have hq:=Kz w (a:Int) (b:Int) (x.1.1:Int) (x.1.2:Int);unfold Instr.findAsking lp;simp only[bZ];rw[h.1.1,show(oD a b)=uH (a:Int) (b:Int) from rfl,show(oD x.1.1 x.1.2)=uH (x.1.1:Int) (x.1.2:Int) from rfl,hq];simp only[bG];by_cases j:x.1.1=a/\x.1.2=b
  ·rw[aM j,j.1,j.2];simp[h.1.2]
  ·rw[aI j];have hn:((a:Int)==(x.1.1:Int)&&(b:Int)==(x.1.2:Int))=false:=by rw[dH];rw[aV,aV];omega
   rw[hn];exact s
def jP(w:World)(g:Nat)(l:List KV):Prop:= ∃es clock,w.heap[g]? =some (.map es clock)/\es.toList.map (fun e=>(e.key,e.val))=l.map (fun x=>(oD x.1.1 x.1.2,x.2))
theorem jP.lt{w:World}{g:Nat}{l:List KV}(h:jP w g l):g<w.heap.size:=by obtain⟨es,c,h1,_⟩:=h;exact(aS.1 h1).1
theorem jP.iP{w w':World}{g:Nat}{l:List KV}(h:jP w g l)(hk:w'.heap[g]? =w.heap[g]?):jP w' g l:=by obtain⟨es,c,h1,h2⟩:=h;exact⟨es,c,hk.trans h1,h2⟩
theorem Br{w:World}{g:Nat}{es:Array MapEntry}{c:Nat}(h:w.heap[g]? =some (.map es c)):(getObj g).run prog w=.ok (.map es c) w:=by simp[getObj,Sem.run,h]
theorem Ao{w:World}{g:Nat}{es:Array MapEntry}{c:Nat}(o':Obj)(h:w.heap[g]? =some (.map es c)):(setObj g o').run prog w=.ok () {w with heap:=w.heap.setIfInBounds g o'}:=by simp[setObj,Sem.run,h]
theorem nE{m e:TypeId}(hu:prog.underlying m=some (.map 146 e)){w:World}{g:Nat}{l:List KV}(h:jP w g l)(a b:Nat){v z:Value}(j:(zeroValue e).run prog w=.ok z w)(s:(zo a b l).getD z=v):(Instr.lookup m (.map (some g)) (oD a b) false).run prog w=.ok v w:=by obtain⟨es,c,h1,h2⟩:=h;unfold Instr.lookup;simp only[bZ,bK hu,bG,Br h1,dW];rw[show oD a b=uH (a:Int) (b:Int) from rfl,vl];simp only[bG];rw[run_findKey_eq w ai,show uH (a:Int) (b:Int)=oD a b from rfl,vD w a b _ _ 0 h2];simp only[bG];subst s;unfold zo;cases u:lp a b l 0 with|none=>simp[j]|some x=>simp
theorem xK{a b:Nat}{v:Value}: ∀{l:List KV}{i j:Nat}{u:Value},lp a b l i=some (j,u)->i<=j/\l[j-i]? =some ((a,b),u)/\ph a b v l=l.set (j-i) ((a,b),v)
 |[],i,j,u,h=>by simp[lp] at h
 |x::xs,i,j,u,h=>by
  unfold lp at h;split at h
  ·rename_i s;simp at h;obtain⟨rfl,rfl⟩:=h;obtain⟨⟨x1,C⟩,z⟩:=x;obtain⟨rfl,rfl⟩:=s;simp[ph]
  ·rename_i s;have ⟨h1,h2,h3⟩:=xK (v:=v) h;have e:j-i=(j-(i+1))+1:=ah;refine⟨ah, ?_, ?_⟩
   ·rw[e,cf];exact h2
   ·rw[e,aD];unfold ph;rw[aI s,h3]
theorem xY{a b:Nat}{v:Value}: ∀{l:List KV}{i:Nat},lp a b l i=none->ph a b v l=l++[((a,b),v)]
 |[],i,_=>rfl
 |x::xs,i,h=>by
  unfold lp at h;split at h
  ·cases h
  ·rename_i e;unfold ph;rw[aI e,xY h];rfl
theorem pX{a b:Nat}: ∀{l:List KV}{i j:Nat},(lp a b l i).map (·.2)=(lp a b l j).map (·.2)
 |[],_,_=>rfl
 |x::xs,i,j=>by
  unfold lp;split
  ·rfl
  ·exact pX
theorem vO{a b c d:Nat}{v:Value}: ∀{l:List KV},zo c d (ph a b v l)=if c=a/\d=b then some v else zo c d l
 |[]=>by
  unfold ph zo lp lp;by_cases h:c=a/\d=b
  ·rw[aM h,aM ⟨h.1.symm,h.2.symm⟩];rfl
  ·rw[aI h,aI (fun e=>h ⟨e.1.symm,e.2.symm⟩)]
 |x::xs=>by
  have z:=vO (a:=a) (b:=b) (c:=c) (d:=d) (v:=v) (l:=xs);unfold zo at z⊢;unfold ph;by_cases s:x.1.1=a/\x.1.2=b
  ·rw[aM s];unfold lp;dsimp only;by_cases h:c=a/\d=b
   ·rw[aM h,aM ⟨s.1.trans h.1.symm,s.2.trans h.2.symm⟩];rfl
   ·rw[aI h];have hn: ¬(x.1.1=c/\x.1.2=d):=fun e=>h ⟨e.1.symm.trans s.1,e.2.symm.trans s.2⟩;rw[aI hn,aI hn]
  ·rw[aI s];unfold lp;by_cases u:x.1.1=c/\x.1.2=d
   ·rw[aM u,aM u,aI (fun e=>s ⟨u.1.trans e.1,u.2.trans e.2⟩)]
   ·rw[aI u,aI u,pX (j:=0),z,pX (i:=0+1) (j:=0)]
theorem Jo(a b:Nat):Instr.sameBits 10000 (oD a b) (oD a b)=true:=by unfold oD;rw[show(10000:Nat)=9998+1+1 from rfl];simp[Instr.sameBits]
theorem pK{m e:TypeId}(hu:prog.underlying m=some (.map 146 e)){w:World}{g:Nat}{l:List KV}(h:jP w g l)(a b:Nat)(v:Value): ∃w',(Instr.mapUpdate m (.map (some g)) (oD a b) v).run prog w=.ok () w'/\jP w' g (ph a b v l)/\w.grownBy w' (some g):=by
 obtain⟨es,c,h1,h2⟩:=h;have hs:=(aS.1 h1).1;have T:=vD w a b es.toList l 0 h2;have C: ∀o:Obj,w.grownBy {w with heap:=w.heap.setIfInBounds g o} (some g):=fun o=>by refine⟨rfl,rfl,rfl,ak,fun i hi J=> ?_⟩;have:i≠g:=fun e=>J (by rw[e]);simp[eC this]
 unfold Instr.mapUpdate;simp only[bZ,bK hu,bG,Br h1];rw[show oD a b=uH (a:Int) (b:Int) from rfl,vl];simp only[bG];rw[run_findKey_eq w ai,show uH (a:Int) (b:Int)=oD a b from rfl,T];simp only[bG];cases hk:lp a b l 0 with
  |none=>refine⟨_,Ao _ h1,⟨es.push {key:=oD a b,val:=v,born:=c},c+1,by simp[hs], ?_⟩,C _⟩;rw[xY hk];simp[h2]
  |some x=>
   obtain⟨j,u⟩:=x;obtain⟨-,I,z⟩:=xK (v:=v) hk;rw[Nat.sub_zero] at I z;have hm:(es.toList.map (fun e=>(e.key,e.val)))[j]? =some (oD a b,u):=by rw[h2];simp[I]
   simp only[bp,Option.map_eq_some_iff] at hm;obtain⟨E,U,X⟩:=hm;have s:es[j]? =some E:=by simpa using U
   have K:E.key=oD a b:=by injection X
   simp only[s,dJ,cB,K,Instr.keyThatStays,Jo,eF,dW,bG,bZ];refine⟨_,Ao _ h1,⟨es.modify j fun e=>{key:=oD a b,val:=v,born:=e.born},c,by simp[hs], ?_⟩,C _⟩;rw[z,List.map_set,<-h2];apply List.ext_getElem?;intro k;simp only[bp,List.getElem?_set,aY,Array.getElem?_toList,ee,dT];have O:j<es.size:=(aS.1 s).1;by_cases e:j=k
   ·subst e;simp[O,s]
   ·simp[e]
theorem mod_succ(m k:Nat):m%2^(k+1)=m%2^k+if m.testBit k then 2^k else 0:=by rw[Nat.pow_succ,Nat.mod_mul,Nat.testBit_eq_decide_div_mod_eq];have:=ef (m/2^k);rcases this with h|h<;>simp[h]
theorem Lm(m k:Nat):m&&&2^k=if m.testBit k then 2^k else 0:=by
 apply du;intro i;rw[Nat.testBit_and,cg];by_cases h:k=i
 ·subst h;cases e:m.testBit k<;>simp[cg]
 ·cases m.testBit k<;>simp[cg,h]
theorem yX(m k:Nat)(hm:m<65536)(hk:k<17):bits .and .i64 (m:Int) (wrap64 (2^k))=if m.testBit k then((2^k:Nat):Int) else 0:=by have h1:(2:Nat)^k<=2^16:=aX ah ah;rw[iL k hk,pZ m (2^k) ah ah,Lm];cases m.testBit k<;>simp
theorem rm(m k:Nat)(hm:m<65536)(hk:k<17):(bits .and .i64 (m:Int) (wrap64 (2^k))==0)= !m.testBit k:=by
 rw[yX m k hm hk];have:=cQ k;cases m.testBit k
 ·simp
 ·simp only[eF,eA];rw[aV];omega
def nf(m fr mm i:Nat):Bool:=if i=fr then mm.testBit i else mm.testBit i==m.testBit i
theorem Gg{n m fr mm:Nat}(hm:m<2^n)(j:mm<2^n)(u:fr<n)(h: ∀i,i<n->nf m fr mm i=true):kK m fr mm=true:=by
 have h0:=h fr u;unfold nf at h0;rw[aM rfl] at h0;unfold kK;rw[h0,Bool.and_true,bI];apply du;intro i;rw[dU,dU,cg];by_cases hi:i=fr
 ·subst hi;simp
 ·rcases bW i n with e|s
  ·have h1:=h i e;unfold nf at h1;rw[aI hi] at h1;simp at h1;rw[h1]
  ·have hp:2^n<=2^i:=aX ah s;rw[dY (aN hm hp),dY (aN j hp)]
theorem FA{m fr mm i:Nat}(h:nf m fr mm i=false):kK m fr mm=false:=by
 cases j:kK m fr mm
 ·rfl
 ·unfold kK at j;simp at j;obtain⟨e,s⟩:=j;unfold nf at h;by_cases hi:i=fr
  ·rw[aM hi] at h;subst hi;rw[s] at h;cases h
  ·rw[aI hi] at h;have:=aO (fun x=>Nat.testBit x i) e;simp only[dU,cg] at this;have hd:decide (fr=i)=false:=aH ah;rw[hd,Bool.or_false,Bool.or_false] at this;rw[this] at h;simp at h
theorem BX{n m fr mm:Nat}(hm:m<2^n)(z:2^n<=mm)(j:fr<n):kK m fr mm=false:=by
 cases h:kK m fr mm
 ·rfl
 ·exfalso;unfold kK at h;simp at h;obtain⟨e,u⟩:=h;have s:m|||2^fr<2^n:=dM hm (Nat.pow_lt_pow_right ah j);have:= @Nat.left_le_or mm (2^fr);omega
def rh(n m:Nat)(fr mm:Int):Int:=if fr<0\/(n:Int)<=fr\/mm<0\/(2^n:Nat)<=mm then 2 else gW m fr.toNat mm.toNat
theorem rv{n m:Nat}{fr mm:Int}(h:fr<0\/(n:Int)<=fr\/mm<0\/(2^n:Nat)<=mm):rh n m fr mm=2:=by unfold rh;rw[aM h]
theorem yk{n m fr mm:Nat}(hm:m<2^n)(e:fr<n):rh n m (fr:Int) (mm:Int)=gW m fr mm:=by
 unfold rh;by_cases h:2^n<=mm
 ·rw[aM ah];unfold gW;rw[BX hm h e];rfl
 ·rw[aI ah];rfl
def GJ(id n:Nat)(fz:Bool)(fr e:Int):Bool:= !fz&&decide (0<=fr)&&decide (fr<n)&& !decide (fr=id)&&decide (0<=e)&&decide (e<=2)
def hM(id n m:Nat)(fz:Bool)(fr e:Int):Nat:=if GJ id n fz fr e then(if e=1 then m|||2^fr.toNat else yz m (2^fr.toNat)) else m
def hG(id n:Nat)(fe:Int)(fz:Bool)(fr e:Int):Int:=if GJ id n fz fr e&&decide (e=1) then fe+1 else fe
def hB(id n:Nat)(bad:Int)(fz:Bool)(fr e:Int):Int:=if GJ id n fz fr e&&decide (e=2) then bad+1 else bad
theorem PS{id n m:Nat}{fz:Bool}{fr e:Int}(h:GJ id n fz fr e=false):hM id n m fz fr e=m:=by unfold hM;rw[h];rfl
theorem Pz{id n:Nat}{fe:Int}{fz:Bool}{fr e:Int}(h:GJ id n fz fr e=false):hG id n fe fz fr e=fe:=by unfold hG;rw[h];rfl
theorem OY{id n:Nat}{fe:Int}{fz:Bool}{fr e:Int}(h:GJ id n fz fr e=false):hB id n fe fz fr e=fe:=by unfold hB;rw[h];rfl
def sG(fe bad:Int)(fz:Bool):Int:=if fs fe bad fz then 1 else fe
def sB(fe bad:Int)(fz:Bool):Int:=if fs fe bad fz then 0 else bad
theorem FW(m k:Nat):(m|||2^k).testBit k=true:=by simp[dU]
theorem BA{m k i:Nat}(h:i≠k):(m|||2^k).testBit i=m.testBit i:=by simp[dU,cg,eC h]
theorem vQ(m k:Nat):(yz m (2^k)).testBit k=false:=by simp[ud]
theorem tj{m k i:Nat}(h:i≠k):(yz m (2^k)).testBit i=m.testBit i:=by simp[ud,cg,eC h]
end Go.Proofs.YtideefjnlakciaaGreatDoor
