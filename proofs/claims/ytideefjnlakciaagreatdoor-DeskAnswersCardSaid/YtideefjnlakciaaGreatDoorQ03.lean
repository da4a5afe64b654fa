/- The contract of plan.Check; conditions: slots, links and windows lie in memory. -/
import Derived.Test.YtideefjnlakciaaGreatDoorQ00
import Derived.Test.YtideefjnlakciaaGreatDoorQ02
import Derived.Test.YtideefjnlakciaaGreatDoorQ01
import Derived.Laws.BitsAll
import Derived.Laws.Shifts
set_option maxRecDepth 1000000
set_option maxHeartbeats 20000000
set_option linter.unusedVariables false
set_option linter.unusedSimpArgs false
namespace Go.Proofs.YtideefjnlakciaaGreatDoor
open Go.RowKit Go.Proofs.Tryz
theorem Pe{w:World}{g:Nat}{a:Int}(h:eN w g 3 #[.int .i64 a]):rq w (some ⟨g,0,none⟩) 1 [a]:=by intro j e;obtain rfl:j=0:=ah;exact⟨g,0,rfl,h.cells1.1⟩
theorem PM{w:World}{g:Nat}{a b:Int}(h:eN w g 3 #[.int .i64 a,.int .i64 b]):rq w (some ⟨g,0,none⟩) 2 [a,b]:=by intro j e;refine⟨g,0,rfl, ?_⟩;match j,e with|0,_=>exact h.cell 0|1,_=>exact h.cell 1
theorem Pk{w:World}{g:Nat}{a b c:Int}(h:eN w g 3 #[.int .i64 a,.int .i64 b,.int .i64 c]):rq w (some ⟨g,0,none⟩) 3 [a,b,c]:=by intro j e;refine⟨g,0,rfl, ?_⟩;match j,e with|0,_=>exact h.cell 0|1,_=>exact h.cell 1|2,_=>exact h.cell 2
theorem fD(lo hi z:Int)(g:Nat)(w:World)(j:w.heap.size=g)(x:Bool)(h:Hid (gU lo hi z=x)):Calls prog 168 #[.int .i64 lo,.int .i64 hi,.slice (some ⟨g,0,none⟩) 1 1] (w.alloc (.cells #[.int .i64 z] 3)) fun e w'=>e=.returned (.bool (!x))/\Below w.heap.size w w':=(pP lo hi _ 1 1 [z] _ ah rfl (Pe (j▸eN.new w _ _)) (!x) (eJ (by simp[h.out]))).mono fun e w' ⟨h1,h2⟩=>⟨h1,((au).alloc (ar) _).trans (h2.mono ak)⟩
theorem nY(lo hi y z:Int)(g:Nat)(w:World)(j:w.heap.size=g)(x:Bool)(h:Hid ((gU lo hi y||gU lo hi z)=x)):Calls prog 168 #[.int .i64 lo,.int .i64 hi,.slice (some ⟨g,0,none⟩) 2 2] (w.alloc (.cells #[.int .i64 y,.int .i64 z] 3)) fun e w'=>e=.returned (.bool (!x))/\Below w.heap.size w w':=(pP lo hi _ 2 2 [y,z] _ ah rfl (PM (j▸eN.new w _ _)) (!x) (eJ (by simp[<-h.out]))).mono fun e w' ⟨h1,h2⟩=>⟨h1,((au).alloc (ar) _).trans (h2.mono ak)⟩
theorem mZ(lo hi u y z:Int)(g:Nat)(w:World)(j:w.heap.size=g)(x:Bool)(h:Hid ((gU lo hi u||gU lo hi y||gU lo hi z)=x)):Calls prog 168 #[.int .i64 lo,.int .i64 hi,.slice (some ⟨g,0,none⟩) 3 3] (w.alloc (.cells #[.int .i64 u,.int .i64 y,.int .i64 z] 3)) fun e w'=>e=.returned (.bool (!x))/\Below w.heap.size w w':=(pP lo hi _ 3 3 [u,y,z] _ ah rfl (Pk (j▸eN.new w _ _)) (!x) (eJ (by simp[<-h.out,Bool.or_assoc]))).mono fun e w' ⟨h1,h2⟩=>⟨h1,((au).alloc (ar) _).trans (h2.mono ak)⟩
theorem mo{lo hi z:Int}(h:gU lo hi z=true):z<lo\/hi<z:=by unfold gU at h;simpa using h
theorem gX{lo hi z:Int}(h:gU lo hi z=false):lo<=z/\z<=hi:=by unfold gU at h;simpa using h
def GB(p:Pl)(n:Nat):Prop:= ∀j,j<n->(oM p.sk p.rd p.nd 0 p.sl)[j]? =some 0
def Hx(p:Pl)(n:Nat):Prop:= ∀j,j<n->(p.lk.map (sH p.nd))[j]? =some 0
def ND(p:Pl)(n:Nat):Prop:= ∀j,j<n->(kX p.fr 0 p.wn)[j]? =some 0
theorem wK{p:Pl}{e:Int}(h:iK p=e)(h0:e≠0):iO p=(e,-1):=by unfold iO;rw[h,aM h0]
theorem kv{p:Pl}{k:Nat}{s:Sl}{e:Int}(h:iK p=0)(hF:GB p k)(hk:p.sl[k]? =some s)(he:AD p.sk p.rd p.nd (qX p.sk 0 p.sl k) s=e)(h0:e≠0):iO p=(e,(k:Int)):=by have:=qA _ k e hF (by rw[yo _ _ _ _ _ _ _ hk,he]) h0;unfold iO;rw[aI (fun g=>g h),this,aM h0]
theorem rD{p:Pl}(h:GB p p.sl.length):(fS (oM p.sk p.rd p.nd 0 p.sl) 0).1=0:=by rw[nG _ 0 (by rw[uQ];exact h)]
theorem vF{p:Pl}(h:Hx p p.lk.length):(fS (p.lk.map (sH p.nd)) 0).1=0:=by rw[nG _ 0 (by rw[aY];exact h)]
theorem J6{p:Pl}(h:ND p p.wn.length):(fS (kX p.fr 0 p.wn) 0).1=0:=by rw[nG _ 0 (by rw[sr];exact h)]
theorem jT{p:Pl}{k:Nat}{s:Lk}{e:Int}(h:iK p=0)(j:GB p p.sl.length)(hF:Hx p k)(hk:p.lk[k]? =some s)(he:sH p.nd s=e)(h0:e≠0):iO p=(e,1000+(k:Int)):=by have:=qA _ k e hF (by rw[bp,hk];simp[he]) h0;unfold iO;rw[aI (fun g=>g h),aI (fun g=>g (rD j)),this,aM h0]
theorem C7{p:Pl}{k:Nat}{s:Wn}{e:Int}(j:iK p=0)(u:GB p p.sl.length)(h:Hx p p.lk.length)(hF:ND p k)(hk:p.wn[k]? =some s)(he:ui p.fr (sj 0 p.wn k) s=e)(h0:e≠0):iO p=(e,2000+(k:Int)):=by have:=qA _ k e hF (by rw[rX _ _ _ _ _ hk,he]) h0;unfold iO;rw[aI (fun g=>g j),aI (fun g=>g (rD u)),aI (fun g=>g (vF h)),this,aM h0]
theorem Jb{p:Pl}(j:iK p=0)(s:GB p p.sl.length)(h:Hx p p.lk.length)(e:ND p p.wn.length):iO p=(0,-1):=by unfold iO;rw[aI (fun g=>g j),aI (fun g=>g (rD s)),aI (fun g=>g (vF h)),aI (fun g=>g (J6 e))]
theorem vU{p:Pl}{k:Nat}{s:Sl}(hF:GB p k)(hk:p.sl[k]? =some s)(he:AD p.sk p.rd p.nd (qX p.sk 0 p.sl k) s=0):GB p (k+1):=by
 intro j e;rcases bW j k with h|h
 ·exact hF j h
 ·obtain rfl:j=k:=ah;rw[yo _ _ _ _ _ _ _ hk,he]
theorem Bn{p:Pl}{k:Nat}{s:Lk}(hF:Hx p k)(hk:p.lk[k]? =some s)(he:sH p.nd s=0):Hx p (k+1):=by
 intro j e;rcases bW j k with h|h
 ·exact hF j h
 ·obtain rfl:j=k:=ah;rw[bp,hk];simp[he]
theorem IM{p:Pl}{k:Nat}{s:Wn}(hF:ND p k)(hk:p.wn[k]? =some s)(he:ui p.fr (sj 0 p.wn k) s=0):ND p (k+1):=by
 intro j e;rcases bW j k with h|h
 ·exact hF j h
 ·obtain rfl:j=k:=ah;rw[rX _ _ _ _ _ hk,he]
def gL(w:World)(c:Int×Int)(r:Ending)(w':World):Prop:=Below w.heap.size w w'/\((c.1=0/\r=.returned .nilIface)\/(c.1≠0/\∃v,r=.returned v/\Cr w' v c.1 c.2))
theorem gL.bare{w w':World}{c:Int×Int}{e:Int}(h:c=(e,-1))(h0:e≠0)(hB:Below w.heap.size w w'):gL w c (.returned (.iface 61 (.int .i64 e))) w':=by rw[h];exact⟨hB,.inr ⟨h0,_,rfl,Cr.bare _ _⟩⟩
theorem gL.at_{w w':World}{c:Int×Int}{e pl:Int}{g:Nat}(h:c=(e,pl))(h0:e≠0)(hB:Below w.heap.size w w')(j:eN w' g 259 #[.int .i64 e,.int .i64 pl]):gL w c (.returned (.iface 258 (.pointer (some ⟨g,0,none⟩)))) w':=by rw[h];exact⟨hB,.inr ⟨h0,_,rfl,Cr.at_ j⟩⟩
theorem gL.tQ{w w':World}{c:Int×Int}(e:c=(0,-1))(hB:Below w.heap.size w w'):gL w c (.returned .nilIface) w':=by rw[e];exact⟨hB,.inl ⟨rfl,rfl⟩⟩
structure sS (w wr:World) (G:Array Value):Prop where
 g:eN wr w.heap.size 29 G
 old:Below w.heap.size w wr
theorem sS.below{w w1 w2:World}{G:Array Value}(h:sS w w1 G)(hB:Below w1.heap.size w1 w2):sS w w2 G:=⟨h.g.below hB h.g.lt,h.old.trans (hB.mono h.old.size)⟩
theorem sS.alloc{w w1:World}{G:Array Value}(h:sS w w1 G)(o:Obj):sS w (w1.alloc o) G:=h.below ((au).alloc (ar) o)
section
variable (p:Pl)(A:Option Addr)(len c:Nat)(AL:Option Addr)(ll cl:Nat)(AQ:Option Addr)(lq cq:Nat)
theorem CV(w:World)(h0:iK p≠0)(s1:p.sl.length=len)(a8:p.lk.length=ll)(bi:p.wn.length=lq):Calls prog 129 #[.agg (fb p.nd p.fa p.sk p.ji p.dr p.rd (.slice A len c) (.slice AL ll cl) p.fr (.slice AQ lq cq))] w (gL w (iO p)):=by
 have al:sS w (w.alloc (.cells (fb p.nd p.fa p.sk p.ji p.dr p.rd (.slice A len c) (.slice AL ll cl) p.fr (.slice AQ lq cq)) 29)) (fb p.nd p.fa p.sk p.ji p.dr p.rd (.slice A len c) (.slice AL ll cl) p.fr (.slice AQ lq cq)):=⟨eN.new w _ _,(au).alloc (ar) _⟩;have u:=eJ al;obtain⟨i0,i1,i2,i3,i4,i5,i6,i7,i8,i9⟩:=al.g.eT;clear al;obtain⟨E,Z⟩:=ae (iK p);have K:=eJ (wK Z.symm (by rw[Z];exact h0));rw[<-Z] at h0;unfold iK at Z;have ad:=eJ Z;clear Z;have a5:=eJ h0;clear h0;generalize iO p=C at*;cases ac:gU 1 16 p.nd;case true=>have J:=eJ ac;have z:=eJ (show E=1 by rw[ad.out,aM (by have:=mo ac;omega)]);clear ac;go_enter func129,ntmps129;go_wp2_with fail;refine(fD 1 16 p.nd (w.heap.size+1) _ ak true J).mono ?_;rintro e w2 ⟨rfl,hB⟩;have h:=eJ (u.out.below hB);clear hB u i0 i1 i2 i3 i4 i5 i6 i7 i8 i9;obtain⟨i0,i1,i2,i3,i4,i5,i6,i7,i8,i9⟩:=h.out.g.eT;go_wp2_with fail;go_ret;exact gL.bare (by rw[K.out,z.out]) aj h.out.old
 case false=>
  have J:=eJ ac;have bb:=gX ac;clear ac;cases Y:gU 0 16 p.fa;case true=>have O:=eJ Y;have z:=eJ (show E=1 by rw[ad.out,aM (by have:=mo Y;omega)]);clear Y;go_enter func129,ntmps129;go_wp2_with fail;refine(fD 1 16 p.nd (w.heap.size+1) _ ak false J).mono ?_;rintro e w2 ⟨rfl,hB⟩;have h:=eJ (u.out.below hB);clear hB u i0 i1 i2 i3 i4 i5 i6 i7 i8 i9;obtain⟨i0,i1,i2,i3,i4,i5,i6,i7,i8,i9⟩:=h.out.g.eT;go_wp2_with fail;refine(fD 0 16 p.fa (w2.heap.size) _ rfl true O).mono ?_;rintro e w3 ⟨rfl,hB⟩;have j:=eJ (h.out.below hB);clear hB h i0 i1 i2 i3 i4 i5 i6 i7 i8 i9;obtain⟨i0,i1,i2,i3,i4,i5,i6,i7,i8,i9⟩:=j.out.g.eT;go_wp2_with fail;go_ret;exact gL.bare (by rw[K.out,z.out]) aj j.out.old
  case false=>
   have O:=eJ Y;have a7:=gX Y;clear Y;by_cases h3:p.nd<3*p.fa+1
   ·have z:=eJ (show E=1 by rw[ad.out,aM ah]);have d3:decide (p.nd<3*p.fa+1)=true:=aJ h3;clear h3;go_enter func129,ntmps129;go_wp2_with fail;refine(fD 1 16 p.nd (w.heap.size+1) _ ak false J).mono ?_;rintro e w2 ⟨rfl,hB⟩;have h:=eJ (u.out.below hB);clear hB u i0 i1 i2 i3 i4 i5 i6 i7 i8 i9;obtain⟨i0,i1,i2,i3,i4,i5,i6,i7,i8,i9⟩:=h.out.g.eT;go_wp2_with fail;refine(fD 0 16 p.fa (w2.heap.size) _ rfl false O).mono ?_;rintro e w3 ⟨rfl,hB⟩;have j:=eJ (h.out.below hB);clear hB h i0 i1 i2 i3 i4 i5 i6 i7 i8 i9;obtain⟨i0,i1,i2,i3,i4,i5,i6,i7,i8,i9⟩:=j.out.g.eT;go_wp2_with fail;go_ret;exact gL.bare (by rw[K.out,z.out]) aj j.out.old
   ·have d3:decide (p.nd<3*p.fa+1)=false:=aH h3;have am:=eJ (show E=_ from ad.out.trans (aI ah));cases X:(gU 0 137438953472 p.sk||gU 0 137438953472 p.ji||gU 0 137438953472 p.dr);case true=>have U:=eJ X;have z:=eJ (show E=2 by rw[am.out,aM (by simp only[dA] at X;rcases X with (o|o)|o<;>(have:=mo o;omega))]);clear X h3;go_enter func129,ntmps129;go_wp2_with fail;refine(fD 1 16 p.nd (w.heap.size+1) _ ak false J).mono ?_;rintro e w2 ⟨rfl,hB⟩;have h:=eJ (u.out.below hB);clear hB u i0 i1 i2 i3 i4 i5 i6 i7 i8 i9;obtain⟨i0,i1,i2,i3,i4,i5,i6,i7,i8,i9⟩:=h.out.g.eT;go_wp2_with fail;refine(fD 0 16 p.fa (w2.heap.size) _ rfl false O).mono ?_;rintro e w3 ⟨rfl,hB⟩;have j:=eJ (h.out.below hB);clear hB h i0 i1 i2 i3 i4 i5 i6 i7 i8 i9;obtain⟨i0,i1,i2,i3,i4,i5,i6,i7,i8,i9⟩:=j.out.g.eT;go_wp2_with fail;refine(mZ 0 137438953472 p.sk p.ji p.dr (w3.heap.size) _ rfl true U).mono ?_;rintro e w4 ⟨rfl,hB⟩;have s:=eJ (j.out.below hB);clear hB j i0 i1 i2 i3 i4 i5 i6 i7 i8 i9;obtain⟨i0,i1,i2,i3,i4,i5,i6,i7,i8,i9⟩:=s.out.g.eT;go_wp2_with fail;go_ret;exact gL.bare (by rw[K.out,z.out]) aj s.out.old
    case false=>
     have U:=eJ X;simp only[Bool.or_eq_false_iff] at X;obtain⟨⟨a2,a3⟩,a4⟩:=X;have bf:=gX a2;have be:=gX a3;have bd:=gX a4;clear a2 a3 a4;cases T:(gU 1 137438953472 p.rd||gU 1 137438953472 p.fr);case true=>have aa:=eJ T;have z:=eJ (show E=2 by rw[am.out,aM (by simp only[dA] at T;rcases T with o|o<;>(have:=mo o;omega))]);clear T h3;go_enter func129,ntmps129;go_wp2_with fail;refine(fD 1 16 p.nd (w.heap.size+1) _ ak false J).mono ?_;rintro e w2 ⟨rfl,hB⟩;have h:=eJ (u.out.below hB);clear hB u i0 i1 i2 i3 i4 i5 i6 i7 i8 i9;obtain⟨i0,i1,i2,i3,i4,i5,i6,i7,i8,i9⟩:=h.out.g.eT;go_wp2_with fail;refine(fD 0 16 p.fa (w2.heap.size) _ rfl false O).mono ?_;rintro e w3 ⟨rfl,hB⟩;have j:=eJ (h.out.below hB);clear hB h i0 i1 i2 i3 i4 i5 i6 i7 i8 i9;obtain⟨i0,i1,i2,i3,i4,i5,i6,i7,i8,i9⟩:=j.out.g.eT;go_wp2_with fail;refine(mZ 0 137438953472 p.sk p.ji p.dr (w3.heap.size) _ rfl false U).mono ?_;rintro e w4 ⟨rfl,hB⟩;have s:=eJ (j.out.below hB);clear hB j i0 i1 i2 i3 i4 i5 i6 i7 i8 i9;obtain⟨i0,i1,i2,i3,i4,i5,i6,i7,i8,i9⟩:=s.out.g.eT;go_wp2_with fail;refine(nY 1 137438953472 p.rd p.fr (w4.heap.size) _ rfl true aa).mono ?_;rintro e w5 ⟨rfl,hB⟩;have I:=eJ (s.out.below hB);clear hB s i0 i1 i2 i3 i4 i5 i6 i7 i8 i9;obtain⟨i0,i1,i2,i3,i4,i5,i6,i7,i8,i9⟩:=I.out.g.eT;go_wp2_with fail;go_ret;exact gL.bare (by rw[K.out,z.out]) aj I.out.old
     case false=>
      have aa:=eJ T;simp only[Bool.or_eq_false_iff] at T;obtain⟨ap,aA⟩:=T;have a6:=gX ap;have a9:=gX aA;clear ap aA;have ao:=eJ (show E=_ from am.out.trans (aI ah));by_cases h5:32<len\/8<ll\/32<lq
      ·have z:=eJ (show E=4 by rw[ao.out,aM ah]);clear h3;by_cases h6:32<len
       ·have d6:decide ((32:Int)<(len:Int))=true:=aJ ah;go_enter func129,ntmps129;go_wp2_with fail;refine(fD 1 16 p.nd (w.heap.size+1) _ ak false J).mono ?_;rintro e w2 ⟨rfl,hB⟩;have h:=eJ (u.out.below hB);clear hB u i0 i1 i2 i3 i4 i5 i6 i7 i8 i9;obtain⟨i0,i1,i2,i3,i4,i5,i6,i7,i8,i9⟩:=h.out.g.eT;go_wp2_with fail;refine(fD 0 16 p.fa (w2.heap.size) _ rfl false O).mono ?_;rintro e w3 ⟨rfl,hB⟩;have j:=eJ (h.out.below hB);clear hB h i0 i1 i2 i3 i4 i5 i6 i7 i8 i9;obtain⟨i0,i1,i2,i3,i4,i5,i6,i7,i8,i9⟩:=j.out.g.eT;go_wp2_with fail;refine(mZ 0 137438953472 p.sk p.ji p.dr (w3.heap.size) _ rfl false U).mono ?_;rintro e w4 ⟨rfl,hB⟩;have s:=eJ (j.out.below hB);clear hB j i0 i1 i2 i3 i4 i5 i6 i7 i8 i9;obtain⟨i0,i1,i2,i3,i4,i5,i6,i7,i8,i9⟩:=s.out.g.eT;go_wp2_with fail;refine(nY 1 137438953472 p.rd p.fr (w4.heap.size) _ rfl false aa).mono ?_;rintro e w5 ⟨rfl,hB⟩;have I:=eJ (s.out.below hB);clear hB s i0 i1 i2 i3 i4 i5 i6 i7 i8 i9;obtain⟨i0,i1,i2,i3,i4,i5,i6,i7,i8,i9⟩:=I.out.g.eT;go_wp2_with fail;go_ret;exact gL.bare (by rw[K.out,z.out]) aj I.out.old
       ·have d6:decide ((32:Int)<(len:Int))=false:=aH ah;by_cases h7:8<ll
        ·have d7:decide ((8:Int)<(ll:Int))=true:=aJ ah;go_enter func129,ntmps129;go_wp2_with fail;refine(fD 1 16 p.nd (w.heap.size+1) _ ak false J).mono ?_;rintro e w2 ⟨rfl,hB⟩;have h:=eJ (u.out.below hB);clear hB u i0 i1 i2 i3 i4 i5 i6 i7 i8 i9;obtain⟨i0,i1,i2,i3,i4,i5,i6,i7,i8,i9⟩:=h.out.g.eT;go_wp2_with fail;refine(fD 0 16 p.fa (w2.heap.size) _ rfl false O).mono ?_;rintro e w3 ⟨rfl,hB⟩;have j:=eJ (h.out.below hB);clear hB h i0 i1 i2 i3 i4 i5 i6 i7 i8 i9;obtain⟨i0,i1,i2,i3,i4,i5,i6,i7,i8,i9⟩:=j.out.g.eT;go_wp2_with fail;refine(mZ 0 137438953472 p.sk p.ji p.dr (w3.heap.size) _ rfl false U).mono ?_;rintro e w4 ⟨rfl,hB⟩;have s:=eJ (j.out.below hB);clear hB j i0 i1 i2 i3 i4 i5 i6 i7 i8 i9;obtain⟨i0,i1,i2,i3,i4,i5,i6,i7,i8,i9⟩:=s.out.g.eT;go_wp2_with fail;refine(nY 1 137438953472 p.rd p.fr (w4.heap.size) _ rfl false aa).mono ?_;rintro e w5 ⟨rfl,hB⟩;have I:=eJ (s.out.below hB);clear hB s i0 i1 i2 i3 i4 i5 i6 i7 i8 i9;obtain⟨i0,i1,i2,i3,i4,i5,i6,i7,i8,i9⟩:=I.out.g.eT;go_wp2_with fail;go_ret;exact gL.bare (by rw[K.out,z.out]) aj I.out.old
        ·have d7:decide ((8:Int)<(ll:Int))=false:=aH ah;have d8:decide ((32:Int)<(lq:Int))=true:=aJ ah;go_enter func129,ntmps129;go_wp2_with fail;refine(fD 1 16 p.nd (w.heap.size+1) _ ak false J).mono ?_;rintro e w2 ⟨rfl,hB⟩;have h:=eJ (u.out.below hB);clear hB u i0 i1 i2 i3 i4 i5 i6 i7 i8 i9;obtain⟨i0,i1,i2,i3,i4,i5,i6,i7,i8,i9⟩:=h.out.g.eT;go_wp2_with fail;refine(fD 0 16 p.fa (w2.heap.size) _ rfl false O).mono ?_;rintro e w3 ⟨rfl,hB⟩;have j:=eJ (h.out.below hB);clear hB h i0 i1 i2 i3 i4 i5 i6 i7 i8 i9;obtain⟨i0,i1,i2,i3,i4,i5,i6,i7,i8,i9⟩:=j.out.g.eT;go_wp2_with fail;refine(mZ 0 137438953472 p.sk p.ji p.dr (w3.heap.size) _ rfl false U).mono ?_;rintro e w4 ⟨rfl,hB⟩;have s:=eJ (j.out.below hB);clear hB j i0 i1 i2 i3 i4 i5 i6 i7 i8 i9;obtain⟨i0,i1,i2,i3,i4,i5,i6,i7,i8,i9⟩:=s.out.g.eT;go_wp2_with fail;refine(nY 1 137438953472 p.rd p.fr (w4.heap.size) _ rfl false aa).mono ?_;rintro e w5 ⟨rfl,hB⟩;have I:=eJ (s.out.below hB);clear hB s i0 i1 i2 i3 i4 i5 i6 i7 i8 i9;obtain⟨i0,i1,i2,i3,i4,i5,i6,i7,i8,i9⟩:=I.out.g.eT;go_wp2_with fail;go_ret;exact gL.bare (by rw[K.out,z.out]) aj I.out.old
      ·have a0:=eJ (show E=_ from ao.out.trans (aI ah));have d6:decide ((32:Int)<(len:Int))=false:=aH ah;have d7:decide ((8:Int)<(ll:Int))=false:=aH ah;have d8:decide ((32:Int)<(lq:Int))=false:=aH ah;have hq:p.sk.tdiv 2=p.sk/2:=cY ah;by_cases h9:p.sk<p.sk/2+2*p.ji+1+2*p.dr
       ·have d9:decide (p.sk<p.sk/2+2*p.ji+1+2*p.dr)=true:=aJ h9;have z:=eJ (show E=13 by rw[a0.out,aM ah]);clear h3 h5 h9;go_enter func129,ntmps129;go_wp2_with fail;refine(fD 1 16 p.nd (w.heap.size+1) _ ak false J).mono ?_;rintro e w2 ⟨rfl,hB⟩;have h:=eJ (u.out.below hB);clear hB u i0 i1 i2 i3 i4 i5 i6 i7 i8 i9;obtain⟨i0,i1,i2,i3,i4,i5,i6,i7,i8,i9⟩:=h.out.g.eT;go_wp2_with fail;refine(fD 0 16 p.fa (w2.heap.size) _ rfl false O).mono ?_;rintro e w3 ⟨rfl,hB⟩;have j:=eJ (h.out.below hB);clear hB h i0 i1 i2 i3 i4 i5 i6 i7 i8 i9;obtain⟨i0,i1,i2,i3,i4,i5,i6,i7,i8,i9⟩:=j.out.g.eT;go_wp2_with fail;refine(mZ 0 137438953472 p.sk p.ji p.dr (w3.heap.size) _ rfl false U).mono ?_;rintro e w4 ⟨rfl,hB⟩;have s:=eJ (j.out.below hB);clear hB j i0 i1 i2 i3 i4 i5 i6 i7 i8 i9;obtain⟨i0,i1,i2,i3,i4,i5,i6,i7,i8,i9⟩:=s.out.g.eT;go_wp2_with fail;refine(nY 1 137438953472 p.rd p.fr (w4.heap.size) _ rfl false aa).mono ?_;rintro e w5 ⟨rfl,hB⟩;have I:=eJ (s.out.below hB);clear hB s i0 i1 i2 i3 i4 i5 i6 i7 i8 i9;obtain⟨i0,i1,i2,i3,i4,i5,i6,i7,i8,i9⟩:=I.out.g.eT;go_wp2_with fail;go_ret;exact gL.bare (by rw[K.out,z.out]) aj I.out.old
       ·exact absurd (by rw[a0.out,aI ah]:E=0) a5.out
end
def zS(v:Nat):Nat:=if 32768<=v then(2*v%65536)^^^4129 else 2*v
def tN:Nat->Nat->Nat|0,v=>v|k+1,v=>zS (tN k v)
def BU(v c:Nat):Nat:=tN 8 (v^^^(c*256))
def iZ(l:List Nat):Nat:=l.foldl BU 65535
theorem Kn(v:Nat)(h:v<65536):zS v<65536:=by
 unfold zS;split
 ·exact dX (n:=16) ah ah
 ·omega
theorem DG(k v:Nat)(h:v<65536):tN k v<65536:=by induction k with|zero=>exact h|succ k e=>exact Kn _ e
theorem Dd(v c:Nat)(h:v<65536)(e:c<256):v^^^(c*256)<65536:=dX (n:=16) ah ah
theorem LU(v c:Nat)(h:v<65536)(e:c<256):BU v c<65536:=DG _ _ (Dd v c h e)
theorem Mh(l:List Nat)(v:Nat)(h:v<65536)(hl: ∀c∈l,c<256):l.foldl BU v<65536:=by induction l generalizing v with|nil=>exact h|cons c l e=>rw[List.foldl_cons];exact e (BU v c) (LU _ _ h (hl c (cP ..))) (fun d hd=>hl d (cF _ hd))
theorem mH(l:List Nat)(hl: ∀c∈l,c<256):iZ l<65536:=Mh l _ ah hl
theorem Ft(l:List Nat)(k:Nat)(h:k<l.length):iZ (l.take (k+1))=BU (iZ (l.take k)) (l.getD k 0):=by
 unfold iZ;rw[cE,List.foldl_append];rw[aF h];have e:l.getD k 0=l[k]:=by rw[List.getD,aF h];rfl
 rw[e];simp only[Option.toList_some,List.foldl_cons,List.foldl_nil]
def gh(W:World)(A:Option Addr)(n:Nat)(bs:List Nat):Prop:= ∀j,j<n->∃b off,A=some ⟨b,off,none⟩/\W.cell? ⟨b,off+j,none⟩=some (.int .u8 (bs.getD j 0:Nat))
theorem J2(v x:Nat)(e:v<65536)(h:x<256):bits .xor .u16 (v:Int) ((x:Int)*256)=((v^^^(x*256):Nat):Int):=by rw[show((x:Int)*256)=((x*256:Nat):Int) from ah,u16_xor_nat v (x*256) e ah]
theorem MM(z:Nat)(j:z<65536)(h:(((z:Int)/32768)==1)=true):bits .xor .u16 (IntKind.u16.wrap ((z:Int)*2)) 4129=((zS z:Nat):Int):=by
 have h1:32768<=z:=by simp at h;omega
 have e:IntKind.u16.wrap ((z:Int)*2)=((2*z%65536:Nat):Int):=by rw[IntKind.wrap_u16];omega
 rw[e,show(4129:Int)=((4129:Nat):Int) from rfl,u16_xor_nat _ _ ah ah,zS,aM h1]
theorem Mn(z:Nat)(e:z<65536)(h:(((z:Int)/32768)==1)=false):IntKind.u16.wrap ((z:Int)*2)=((zS z:Nat):Int):=by
 have h1: ¬32768<=z:=by simp at h;omega
 rw[IntKind.wrap_u16,zS,aI h1];omega
theorem Nt{a b:Int}(h:a=b):Value.int .u16 a=.int .u16 b:=by rw[h]
theorem qC(A:Option Addr)(c:Nat)(bs:List Nat)(w:World)(K:gh w A bs.length bs)(hl: ∀x∈bs,x<256)(hn:bs.length<=9223372036854775807):Calls prog 202 #[.slice A bs.length c] w fun e w'=>e=.returned (.int .i64 (iZ bs:Nat))/\w=w':=by
 go_enter func202,ntmps202;go_wp2;go_loop [3,9] (fun v i=> ∃k:Nat,k<=bs.length/\i=.int .i64 k/\v=.int .u16 (iZ (bs.take k):Nat)) (fun _ i=>bs.length-(intOf i).toNat);case atStart=>exact⟨0,ah,rfl,rfl⟩
 case round=>
  obtain⟨k,hk,rfl,rfl⟩:=hrel;by_cases s:k<bs.length
  ·obtain⟨b,off,rfl,X⟩:=K k s;have u:=mH (bs.take k) (fun x C=>hl x (eh C));have hs:=Ft bs k s;have E:bs.getD k 0<256:=by
    have:bs.getD k 0=bs[k]:=by simp[List.getD,aF s]
    rw[this];exact hl _ (cI s)
   generalize C:bs.getD k 0=x at hs E X;clear C;have T:=eJ (J2 (iZ (bs.take k)) x u E);have O:=Dd _ _ u E;have J:=eJ hs;clear hs;generalize hq:iZ (bs.take k)=q at*;clear hq;go_wp2;go_loop [3,18] (fun v i=> ∃j:Nat,j<=8/\i=.int .i64 j/\v=.int .u16 (tN j (q^^^(x*256)):Nat)) (fun _ i=>8-(intOf i).toNat);case atStart=>exact⟨0,ah,rfl,by rw[T.out];rfl⟩
   case round=>
    obtain⟨j,Y,rfl,rfl⟩:=hrel;have I:=DG j _ O;generalize h:tN j (q^^^(x*256))=z at*;have h:=eJ h;go_wp2
    ·exact⟨⟨j+1,ah,aq,Nt (by rw[tN,h.out];exact MM z I ‹_›)⟩,by simp[intOf];omega⟩
    ·exact⟨⟨j+1,ah,aq,Nt (by rw[tN,h.out];exact Mn z I ‹_›)⟩,by simp[intOf];omega⟩
    ·obtain rfl:j=8:=ah;exact⟨⟨k+1,ah,aq,by rw[J.out,BU,h.out]⟩,by simp[intOf];omega⟩
  ·obtain rfl:k=bs.length:=ah;have u:=mH bs hl;have U:bs.take bs.length=bs:=dj;rw[U];go_wp2;go_ret;exact⟨rfl,rfl⟩
abbrev FX(nd sl mb lk sq:Int)(d:ByteArray):Value:=.agg #[.int .i64 nd,.int .i64 sl,.int .i64 mb,.int .i64 lk,.int .i64 sq,.string d]
abbrev Cs(nd sl mb lk sq:Int)(d:ByteArray):Array Value:= #[.int .i64 nd,.int .i64 sl,.int .i64 mb,.int .i64 lk,.int .i64 sq,.string d]
def tz(nd sl mb lk sq:Int)(n:Nat):Bool:=decide ((0<=nd/\nd<16/\0<=sl/\sl<32/\0<=mb/\mb<65536)/\((lk=-1/\sq=0/\n=0)\/(0<=lk/\lk<8/\0<=sq/\sq<256/\n<=40)))
theorem size_empty{d:ByteArray}(h:d.size=0):d=⟨#[]⟩:=by obtain⟨a⟩:=d;have:a= #[]:=Array.eq_empty_of_size_eq_zero h;rw[this]
theorem Fx(d:ByteArray):d.toList.length=d.size:=by rw[ByteArray.toList_eq,dT];rfl
theorem oX(nd sl mb lk sq:Int)(d:ByteArray)(w:World)(hd:d.size<=9223372036854775807):Calls prog 201 #[FX nd sl mb lk sq d] w fun e w'=>e=.returned (.bool (tz nd sl mb lk sq d.size))/\w.alloc (.cells (Cs nd sl mb lk sq d) 269)=w':=by
 by_cases h0:d.size=0
 ·obtain rfl:=size_empty h0;rw[h0];clear h0 hd;go_enter func201,ntmps201;go_wp2;all_goals go_ret;exact⟨gB (by unfold tz;symm;first|(apply aH;omega)|(apply aJ;omega)|(apply cG.2;omega)),by first|rfl|(subst_vars;rfl)⟩
 ·have hl:d.toList.isEmpty=false:=by have:=Fx d;cases h:d.toList with|nil=>rw[h] at this;simp at this;omega|cons a b=>rfl
  have j:(d.toList==[])=false:=by cases h:d.toList with|nil=>rw[h] at hl;simp at hl|cons a b=>rfl
  go_enter func201,ntmps201;go_wp2;all_goals go_ret;exact⟨gB (by unfold tz;symm;first|(apply aH;omega)|(apply aJ;omega)|(apply cG.2;omega)),by first|rfl|(subst_vars;rfl)⟩
end Go.Proofs.YtideefjnlakciaaGreatDoor
