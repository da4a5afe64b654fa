/- The contract of plan.Check where the whole is not wrong; conditions: slots, links and windows lie in memory. -/
import Derived.Test.YtideefjnlakciaaGreatDoorQ00
import Derived.Test.YtideefjnlakciaaGreatDoorQ03
set_option maxRecDepth 1000000
set_option maxHeartbeats 20000000
set_option linter.unusedVariables false
set_option linter.unusedSimpArgs false
namespace Go.Proofs.YtideefjnlakciaaGreatDoor
open Go.RowKit Go.Proofs.Tryz
theorem oW{w:World}{g:Nat}{t:TypeId}{a0 a1 a2:Value}(h:eN w g t #[a0,a1,a2]):w.cell? ⟨g,0,none⟩=some a0/\w.cell? ⟨g,1,none⟩=some a1/\w.cell? ⟨g,2,none⟩=some a2:=⟨by simpa using h.cell 0,by simpa using h.cell 1,by simpa using h.cell 2⟩
theorem E9{p:Pl}(h:iK p=0):1<=p.nd/\p.nd<=16/\0<=p.fa/\p.fa<=16/\3*p.fa+1<=p.nd/\0<=p.sk/\p.sk<=137438953472/\0<=p.ji/\p.ji<=137438953472/\0<=p.dr/\p.dr<=137438953472/\1<=p.rd/\p.rd<=137438953472/\1<=p.fr/\p.fr<=137438953472/\p.sl.length<=32/\p.lk.length<=8/\p.wn.length<=32/\p.sk/2+2*p.ji+1+2*p.dr<=p.sk:=by
 unfold iK at h;split at h
 ·cases h
 ·split at h
  ·cases h
  ·split at h
   ·cases h
   ·split at h
    ·cases h
    ·omega
theorem mY{sk rd nd lo e:Int}{s:Sl}(h:pc s.f s.t lo (rd-sk-1)=e)(h0:e≠0):AD sk rd nd lo s=e:=by unfold AD;rw[h,aM h0]
theorem JD{sk rd nd lo:Int}{s:Sl}(h:pc s.f s.t lo (rd-sk-1)=0)(h1:gU 0 (nd-1) s.n=true):AD sk rd nd lo s=7:=by unfold AD;rw[h,aI aj,aM (by have:=mo h1;omega)]
theorem I6{sk rd nd lo:Int}{s:Sl}(h:pc s.f s.t lo (rd-sk-1)=0)(h1:gU 0 (nd-1) s.n=false):AD sk rd nd lo s=0:=by unfold AD;rw[h,aI aj,aI (by have:=gX h1;omega)]
theorem zB{f t lo hi:Int}(h:pc f t lo hi=0):f<t/\lo<=f/\t<=hi:=by
 unfold pc at h;by_cases h1:t<=f
 ·rw[aM h1] at h;cases h
 ·rw[aI h1] at h;by_cases h2:f<lo
  ·rw[aM h2] at h;cases h
  ·rw[aI h2] at h;by_cases h3:hi<t
   ·rw[aM h3] at h;cases h
   ·omega
theorem He{fr lo e:Int}{s:Wn}(h:pc s.f s.t lo fr=e)(h0:e≠0):ui fr lo s=e:=by unfold ui;rw[h,aM h0]
theorem IK{fr lo:Int}{s:Wn}(h:pc s.f s.t lo fr=0)(h1:gU 0 5 s.p=true):ui fr lo s=7:=by unfold ui;rw[h,aI aj,aM (by have:=mo h1;omega)]
theorem Ia{fr lo:Int}{s:Wn}(h:pc s.f s.t lo fr=0)(h1:gU 0 5 s.p=false):ui fr lo s=0:=by unfold ui;rw[h,aI aj,aI (by have:=gX h1;omega)]
theorem IC{nd:Int}{s:Lk}(h:gU 0 (nd-1) s.f=true):sH nd s=7:=by unfold sH;rw[aM (by have:=mo h;omega)]
theorem Cm{nd:Int}{s:Lk}(h:gU 0 (nd-1) s.f=false)(h1:ki nd s=true):sH nd s=1:=by unfold sH;rw[aI (by have:=gX h;omega),aM h1]
theorem Bc{nd:Int}{s:Lk}(h:gU 0 (nd-1) s.f=false)(h1:ki nd s=false)(h2:gU 1 137438953472 s.b=true\/gU 1 16 s.q=true):sH nd s=2:=by unfold sH;rw[aI (by have:=gX h;omega),aI (by rw[h1];decide),aM (by rcases h2 with h2|h2<;>(have:=mo h2;omega))]
theorem JM{nd:Int}{s:Lk}(h:gU 0 (nd-1) s.f=false)(h1:ki nd s=false)(h2:gU 1 137438953472 s.b=false)(h3:gU 1 16 s.q=false):sH nd s=0:=by unfold sH;rw[aI (by have:=gX h;omega),aI (by rw[h1];decide),aI (by have:=gX h2;have:=gX h3;omega)]
theorem F7{T N:Nat}(h:(T:Int)/2^N=0):T<2^N:=by
 have h1:(T:Int)/((2^N:Nat):Int)=0:=by push_cast;exact h
 have h2:((T/2^N:Nat):Int)=0:=by push_cast;exact h
 have h3:T/2^N=0:=by exact_mod_cast h2
 rcases bW T (2^N) with e|j
 ·exact e
 ·have:=Nat.div_pos j (Nat.pow_pos (by decide:0<2));omega
theorem EJ{T N:Nat}(h: ¬(T:Int)/2^N=0):2^N<=T:=by
 rcases bW T (2^N) with e|j
 ·exfalso;apply h;have h2:((T/2^N:Nat):Int)=0:=by rw[Nat.div_eq_of_lt e];rfl
  push_cast at h2;exact h2
 ·exact j
theorem Dv(nd:Int)(s:Lk)(h:s.t<=0):ki nd s=true:=by unfold ki;simp[h]
theorem Eb(nd:Int)(s:Lk)(h:2^nd.toNat<=s.t):ki nd s=true:=by unfold ki;simp[h]
theorem Hi(nd:Int)(s:Lk)(h:0<s.t)(h1:s.t<2^nd.toNat):ki nd s=s.t.toNat.testBit s.f.toNat:=by unfold ki;have a:decide (s.t<=0)=false:=aH ah;have b:decide (2^nd.toNat<=s.t)=false:=aH ah;rw[a,b];simp
section
variable (p:Pl)(A:Option Addr)(len c:Nat)(AL:Option Addr)(ll cl:Nat)(AQ:Option Addr)(lq cq:Nat)
theorem B4(w:World)(h0:iK p=0)(s1:p.sl.length=len)(b9:p.lk.length=ll)(cb:p.wn.length=lq)(s2:fN w A len p.sl)(co:fA w AL ll p.lk)(b8:iV w AQ lq p.wn):Calls prog 129 #[.agg (fb p.nd p.fa p.sk p.ji p.dr p.rd (.slice A len c) (.slice AL ll cl) p.fr (.slice AQ lq cq))] w (gL w (iO p)):=by
 obtain⟨b1,b2,cx,dd,c8,ds,b7,ea,d2,d0,dk,dg,dl,d4,d5,cS,de,ct,cu⟩:=E9 h0;rw[s1] at cS;rw[b9] at de;rw[cb] at ct;obtain⟨N,ch⟩: ∃N:Nat,p.nd=N:=⟨p.nd.toNat,ah⟩;have cn:=eJ (show gU 1 16 (N:Int)=false by unfold gU;simp;omega);have a3:=eJ (show gU 0 16 p.fa=false by unfold gU;simp;omega);have a5:=eJ (show(gU 0 137438953472 p.sk||gU 0 137438953472 p.ji||gU 0 137438953472 p.dr)=false by unfold gU;simp;omega);have cr:=eJ (show(gU 1 137438953472 p.rd||gU 1 137438953472 p.fr)=false by unfold gU;simp;omega);have d3:decide ((N:Int)<3*p.fa+1)=false:=aH ah;have d6:decide ((32:Int)<(len:Int))=false:=aH ah;have d7:decide ((8:Int)<(ll:Int))=false:=aH ah;have d8:decide ((32:Int)<(lq:Int))=false:=aH ah;have hq:p.sk.tdiv 2=p.sk/2:=cY ah;have d9:decide (p.sk<p.sk/2+2*p.ji+1+2*p.dr)=false:=aH ah;have c6:=eJ (rfl:fb p.nd p.fa p.sk p.ji p.dr p.rd (.slice A len c) (.slice AL ll cl) p.fr (.slice AQ lq cq)=fb p.nd p.fa p.sk p.ji p.dr p.rd (.slice A len c) (.slice AL ll cl) p.fr (.slice AQ lq cq));have n1:1<=N:=ah;have c7:N<=16:=ah;rw[ch];have X:=eJ ch;have aa:=eJ h0;have cv:=eJ s1;have c9:=eJ b9;have cA:=eJ cb;have S2:=eJ s2;have L2:=eJ co;have cV:=eJ b8;clear c6 ch h0 s1 b9 cb s2 co b8 b1 b2 c8 cu;have cj:sS w (w.alloc (.cells (fb (N:Int) p.fa p.sk p.ji p.dr p.rd (.slice A len c) (.slice AL ll cl) p.fr (.slice AQ lq cq)) 29)) (fb (N:Int) p.fa p.sk p.ji p.dr p.rd (.slice A len c) (.slice AL ll cl) p.fr (.slice AQ lq cq)):=⟨eN.new w _ _,(au).alloc (ar) _⟩;have s:=eJ cj;obtain⟨i0,i1,i2,i3,i4,i5,i6,i7,i8,i9⟩:=cj.g.eT;clear cj;obtain⟨C,hC⟩:=ab (iO p);rw[hC];have U:=eJ hC;clear hC;go_enter func129,ntmps129;go_wp2_with fail;refine(fD 1 16 (N:Int) (w.heap.size+1) _ ak false cn).mono ?_;rintro e w2 ⟨rfl,hB⟩;have J:=eJ (s.out.below hB);clear hB s i0 i1 i2 i3 i4 i5 i6 i7 i8 i9;obtain⟨i0,i1,i2,i3,i4,i5,i6,i7,i8,i9⟩:=J.out.g.eT;go_wp2_with fail;refine(fD 0 16 p.fa (w2.heap.size) _ rfl false a3).mono ?_;rintro e w3 ⟨rfl,hB⟩;have ce:=eJ (J.out.below hB);clear hB J i0 i1 i2 i3 i4 i5 i6 i7 i8 i9;obtain⟨i0,i1,i2,i3,i4,i5,i6,i7,i8,i9⟩:=ce.out.g.eT;go_wp2_with fail;refine(mZ 0 137438953472 p.sk p.ji p.dr (w3.heap.size) _ rfl false a5).mono ?_;rintro e w4 ⟨rfl,hB⟩;have cc:=eJ (ce.out.below hB);clear hB ce i0 i1 i2 i3 i4 i5 i6 i7 i8 i9;obtain⟨i0,i1,i2,i3,i4,i5,i6,i7,i8,i9⟩:=cc.out.g.eT;go_wp2_with fail;refine(nY 1 137438953472 p.rd p.fr (w4.heap.size) _ rfl false cr).mono ?_;rintro e w5 ⟨rfl,hB⟩;have ci:=eJ (cc.out.below hB);clear hB cc i0 i1 i2 i3 i4 i5 i6 i7 i8 i9;obtain⟨i0,i1,i2,i3,i4,i5,i6,i7,i8,i9⟩:=ci.out.g.eT;clear cn a3 a5 cr cx dd;go_wp2_with fail;clear d3 d6 d7 d8 d9 hq;go_loopw [3,97] (fun v i wr=> ∃(k:Nat) (E:Int),k<=len/\i=.int .i64 k/\v=.int .i64 E/\-137438953473<=E/\E<=137438953472/\Hid (E+p.sk+1=qX p.sk 0 p.sl k/\GB p k)/\sS w wr (fb (N:Int) p.fa p.sk p.ji p.dr p.rd (.slice A len c) (.slice AL ll cl) p.fr (.slice AQ lq cq))) (fun _ i _=>len-(intOf i).toNat);case atStart=>exact⟨0,-p.sk-1,ah,rfl,aq,ah,ah,eJ ⟨by rw[og];omega,fun j cm=>ah⟩,ci.out⟩
 case round=>
  clear i0 i1 i2 i3 i4 i5 i6 i7 i8 i9 ci;obtain⟨k,E,hk,rfl,rfl,bq,cd,I,a0⟩:=hrel;have s:=eJ a0;clear a0;obtain⟨i0,i1,i2,i3,i4,i5,i6,i7,i8,i9⟩:=s.out.g.eT;by_cases a7:k<len
  ·obtain⟨b,off,rfl,x,a6,c0,c1,c2⟩:=(S2.out.below s.out.old) k a7;have z:=eJ a6;clear a6;obtain⟨a8,bt⟩:=ab (pc x.f x.t (E+p.sk+1) (p.rd-p.sk-1));have ac:=eJ bt;clear bt;have J:=eJ (s.out.alloc (.cells #[.int .i64 x.n,.int .i64 x.f,.int .i64 x.t] 86));have Z:=eJ (eN.new wr 86 #[.int .i64 x.n,.int .i64 x.f,.int .i64 x.t]);obtain⟨bf,bm,bx,bv,bk,bi,bw,bz,bn,bl⟩:=J.out.g.eT;go_wp2_with fail;refine(Ay x.f x.t (E+p.sk+1) (p.rd-p.sk-1) _ a8 ac).mono ?_;rintro e w6 ⟨rfl,hB⟩;have aA:=eJ (J.out.below hB);have a9:=eJ (Z.out.below hB Z.out.lt);clear hB s J Z c0 c1 c2 i0 i1 i2 i3 i4 i5 i6 i7 i8 i9 bf bm bx bv bk bi bw bz bn bl;obtain⟨i0,i1,i2,i3,i4,i5,i6,i7,i8,i9⟩:=aA.out.g.eT;obtain⟨c0,c1,c2⟩:=oW a9.out;by_cases ao:a8=0
   ·subst ao;have Y:=eJ (zB ac.out);cases K:gU 0 ((N:Int)-1) x.n;case true=>have h:=eJ K;clear K;go_wp2_with fail;refine(fD 0 ((N:Int)-1) x.n (w6.heap.size) _ rfl true h).mono ?_;rintro e w7 ⟨rfl,hB⟩;have u:=eJ (aA.out.below hB);clear hB;go_wp2_with fail;go_ret;exact gL.at_ (by rw[<-U.out];exact kv (aa.out) I.out.2 z.out (JD (by rw[<-I.out.1];exact ac.out) (by rw[X.out];exact h.out)) aj) aj (u.out.alloc _).old (eN.new _ _ _)
    case false=>
     have h:=eJ K;clear K;have O:Hid (-137438953473<=x.t/\x.t<=137438953472):=eJ (by have:=Y.out;omega);go_wp2_with fail;refine(fD 0 ((N:Int)-1) x.n (w6.heap.size) _ rfl false h).mono ?_;rintro e w7 ⟨rfl,hB⟩;have u:=eJ (aA.out.below hB);have a2:=eJ (a9.out.below hB a9.out.lt);clear hB c0 c1 c2;obtain⟨c0,c1,c2⟩:=oW a2.out;go_wp2_with fail;go_roundw;case rel=>exact⟨k+1,x.t,ah,aq,rfl,O.out.1,O.out.2,eJ ⟨(lG _ _ _ _ _ z.out).symm,vU I.out.2 z.out (I6 (by rw[<-I.out.1];exact ac.out) (by rw[X.out];exact h.out))⟩,u.out⟩
     case measure=>simp[intOf];omega
   ·have b8:(a8 !=0)=true:=by simp[ao]
    have Y:=eJ ao;clear ao;go_wp2_with fail;go_ret;exact gL.at_ (by rw[<-U.out];exact kv (aa.out) I.out.2 z.out (mY (by rw[<-I.out.1];exact ac.out) Y.out) Y.out) Y.out (aA.out.alloc _).old (eN.new _ _ _)
  ·obtain rfl:len=k:=ah;have ap:Hid (GB p p.sl.length):=eJ (by rw[cv.out];exact I.out.2);clear I bq cd a7 hk;go_wp2_with fail;obtain⟨be,rfl⟩: ∃be:World,be=wr:=⟨_,rfl⟩;go_loopw [142] (fun i wr=> ∃(k:Nat),k<=ll/\i=.int .i64 k/\Hid (Hx p k)/\sS w wr (fb (N:Int) p.fa p.sk p.ji p.dr p.rd (.slice A len c) (.slice AL ll cl) p.fr (.slice AQ lq cq))) (fun i _=>ll-(intOf i).toNat);case atStart=>exact⟨0,ah,rfl,eJ (fun j cm=>ah),s.out⟩
   case round=>
    clear i0 i1 i2 i3 i4 i5 i6 i7 i8 i9 s;obtain⟨k,hk,rfl,am,a0⟩:=hrel;have s:=eJ a0;clear a0;obtain⟨i0,i1,i2,i3,i4,i5,i6,i7,i8,i9⟩:=s.out.g.eT;by_cases a7:k<ll
    ·obtain⟨b,off,rfl,x,a6,c0,c1,c2,c3⟩:=(L2.out.below s.out.old) k a7;obtain⟨bb,a4,al,ad⟩:=x;dsimp only at c0 c1 c2 c3;have z:=eJ a6;clear a6;have J:=eJ (s.out.alloc (.cells #[.int .i64 bb,.int .i64 a4,.int .i64 al,.int .i64 ad] 88));have Z:=eJ (eN.new wr 88 #[.int .i64 bb,.int .i64 a4,.int .i64 al,.int .i64 ad]);obtain⟨bf,bm,bx,bv,bk,bi,bw,bz,bn,bl⟩:=J.out.g.eT;cases K:gU 0 ((N:Int)-1) bb;case true=>have h:=eJ K;clear K;go_wp2_with fail;refine(fD 0 ((N:Int)-1) bb (wr.heap.size+1) _ ak true h).mono ?_;rintro e w7 ⟨rfl,hB⟩;have u:=eJ (J.out.below hB);clear hB;go_wp2_with fail;go_ret;exact gL.at_ (by rw[<-U.out];exact jT aa.out ap.out am.out z.out (IC (by rw[X.out];exact h.out)) aj) aj (u.out.alloc _).old (eN.new _ _ _)
     case false=>
      have h:=eJ K;clear K;obtain⟨F,rfl⟩: ∃F:Nat,bb=F:=⟨bb.toNat,by have:=gX h.out;omega⟩;have hF:F<N:=by have:=gX h.out;omega
      go_wp2_with fail;refine(fD 0 ((N:Int)-1) (F:Int) (wr.heap.size+1) _ ak false h).mono ?_;rintro e w7 ⟨rfl,hB⟩;have u:=eJ (J.out.below hB);have a2:=eJ (Z.out.below hB Z.out.lt);clear hB s J Z c0 c1 c2 c3 i0 i1 i2 i3 i4 i5 i6 i7 i8 i9 bf bm bx bv bk bi bw bz bn bl;obtain⟨i0,i1,i2,i3,i4,i5,i6,i7,i8,i9⟩:=u.out.g.eT;obtain⟨c0,c1,c2,c3⟩:=a2.out.lH;by_cases h0:a4<=0
      ·have d1:decide (a4<=0)=true:=aJ h0;have O:=eJ (Dv p.nd ⟨F,a4,al,ad⟩ h0);clear h0;go_wp2_with fail;go_ret;exact gL.at_ (by rw[<-U.out];exact jT aa.out ap.out am.out z.out (Cm (by rw[X.out];exact h.out) O.out) aj) aj (u.out.alloc _).old (eN.new _ _ _)
      ·have d1:decide (a4<=0)=false:=aH h0;obtain⟨T,rfl⟩: ∃T:Nat,a4=T:=⟨a4.toNat,ah⟩;have dt:1<=T:=ah;clear h0;by_cases h2:(T:Int)/2^N=0
       ·have b3:T<2^N:=F7 h2;have h16:T<65536:=aN b3 (aK (aX aj c7) aj);have O:=eJ (Hi p.nd ⟨F,T,al,ad⟩ (by dsimp only;omega) (by dsimp only;rw[X.out];exact_mod_cast b3));cases bd:T.testBit F;case true=>
         have bq:(bits .and .i64 ((T:Int)/2^F) 1==1)=true:=by rw[l8 T F h16,bd];rfl
         have bj:Hid (ki p.nd ⟨F,T,al,ad⟩=true):=eJ (by rw[O.out];exact bd);clear bd b3 O;go_wp2_with fail;go_ret;exact gL.at_ (by rw[<-U.out];exact jT aa.out ap.out am.out z.out (Cm (by rw[X.out];exact h.out) bj.out) aj) aj (u.out.alloc _).old (eN.new _ _ _)
        case false=>
         have bq:(bits .and .i64 ((T:Int)/2^F) 1==1)=false:=by rw[l8 T F h16,bd];rfl
         have bj:Hid (ki p.nd ⟨F,T,al,ad⟩=false):=eJ (by rw[O.out];exact bd);clear bd b3 O;cases b4:gU 1 137438953472 al;case true=>have a3:=eJ b4;clear b4;go_wp2_with fail;refine(fD 1 137438953472 al (w7.heap.size) _ rfl true a3).mono ?_;rintro e w8 ⟨rfl,hB⟩;have b6:=eJ (u.out.below hB);clear hB;go_wp2_with fail;go_ret;exact gL.at_ (by rw[<-U.out];exact jT aa.out ap.out am.out z.out (Bc (by rw[X.out];exact h.out) bj.out (.inl a3.out)) aj) aj (b6.out.alloc _).old (eN.new _ _ _)
         case false=>
          have a3:=eJ b4;clear b4;go_wp2_with fail;refine(fD 1 137438953472 al (w7.heap.size) _ rfl false a3).mono ?_;rintro e w8 ⟨rfl,hB⟩;have b6:=eJ (u.out.below hB);have c4:=eJ (a2.out.below hB a2.out.lt);clear hB u a2 c0 c1 c2 c3 i0 i1 i2 i3 i4 i5 i6 i7 i8 i9;obtain⟨c0,c1,c2,c3⟩:=c4.out.lH;cases b5:gU 1 16 ad;case true=>have a5:=eJ b5;clear b5;go_wp2_with fail;refine(fD 1 16 ad (w8.heap.size) _ rfl true a5).mono ?_;rintro e w9 ⟨rfl,hB⟩;have ca:=eJ (b6.out.below hB);clear hB;go_wp2_with fail;go_ret;exact gL.at_ (by rw[<-U.out];exact jT aa.out ap.out am.out z.out (Bc (by rw[X.out];exact h.out) bj.out (.inr a5.out)) aj) aj (ca.out.alloc _).old (eN.new _ _ _)
          case false=>
           have a5:=eJ b5;clear b5;go_wp2_with fail;refine(fD 1 16 ad (w8.heap.size) _ rfl false a5).mono ?_;rintro e w9 ⟨rfl,hB⟩;have ca:=eJ (b6.out.below hB);clear hB;go_wp2_with fail;go_roundw;case rel=>exact⟨k+1,ah,aq,eJ (Bn am.out z.out (JM (by rw[X.out];exact h.out) bj.out a3.out a5.out)),ca.out⟩
           case measure=>simp[intOf];omega
       ·have O:=eJ (Eb p.nd ⟨F,T,al,ad⟩ (by dsimp only;rw[X.out];exact_mod_cast EJ h2));go_wp2_with fail;go_ret;exact gL.at_ (by rw[<-U.out];exact jT aa.out ap.out am.out z.out (Cm (by rw[X.out];exact h.out) O.out) aj) aj (u.out.alloc _).old (eN.new _ _ _)
    ·obtain rfl:ll=k:=ah;have ck:Hid (Hx p p.lk.length):=eJ (by rw[c9.out];exact am.out);clear am a7 hk L2;go_wp2_with fail;obtain⟨be,rfl⟩: ∃be:World,be=wr:=⟨_,rfl⟩;go_loopw [3,209] (fun v i wr=> ∃(k:Nat) (E:Int),k<=lq/\i=.int .i64 k/\v=.int .i64 E/\0<=E/\E<=137438953472/\Hid (E=sj 0 p.wn k/\ND p k)/\sS w wr (fb (N:Int) p.fa p.sk p.ji p.dr p.rd (.slice A len c) (.slice AL ll cl) p.fr (.slice AQ lq cq))) (fun _ i _=>lq-(intOf i).toNat);case atStart=>exact⟨0,0,ah,rfl,rfl,ah,ah,eJ ⟨by rw[td],fun j cm=>ah⟩,s.out⟩
     case round=>
      clear i0 i1 i2 i3 i4 i5 i6 i7 i8 i9 s;obtain⟨k,E,hk,rfl,rfl,bq,cd,I,a0⟩:=hrel;have s:=eJ a0;clear a0;obtain⟨i0,i1,i2,i3,i4,i5,i6,i7,i8,i9⟩:=s.out.g.eT;by_cases a7:k<lq
      ·obtain⟨b,off,rfl,x,a6,c0,c1,c2⟩:=(cV.out.below s.out.old) k a7;have z:=eJ a6;clear a6;obtain⟨a8,bt⟩:=ab (pc x.f x.t E p.fr);have ac:=eJ bt;clear bt;have J:=eJ (s.out.alloc (.cells #[.int .i64 x.p,.int .i64 x.f,.int .i64 x.t] 135));have Z:=eJ (eN.new wr 135 #[.int .i64 x.p,.int .i64 x.f,.int .i64 x.t]);obtain⟨bf,bm,bx,bv,bk,bi,bw,bz,bn,bl⟩:=J.out.g.eT;go_wp2_with fail;refine(Ay x.f x.t E p.fr _ a8 ac).mono ?_;rintro e w6 ⟨rfl,hB⟩;have aA:=eJ (J.out.below hB);have a9:=eJ (Z.out.below hB Z.out.lt);clear hB s J Z c0 c1 c2 i0 i1 i2 i3 i4 i5 i6 i7 i8 i9 bf bm bx bv bk bi bw bz bn bl;obtain⟨i0,i1,i2,i3,i4,i5,i6,i7,i8,i9⟩:=aA.out.g.eT;obtain⟨c0,c1,c2⟩:=oW a9.out;by_cases ao:a8=0
       ·subst ao;have Y:=eJ (zB ac.out);cases K:gU 0 5 x.p;case true=>have h:=eJ K;clear K;go_wp2_with fail;refine(fD 0 5 x.p (w6.heap.size) _ rfl true h).mono ?_;rintro e w7 ⟨rfl,hB⟩;have u:=eJ (aA.out.below hB);clear hB;go_wp2_with fail;go_ret;exact gL.at_ (by rw[<-U.out];exact C7 aa.out ap.out ck.out I.out.2 z.out (IK (by rw[<-I.out.1];exact ac.out) h.out) aj) aj (u.out.alloc _).old (eN.new _ _ _)
        case false=>
         have h:=eJ K;clear K;have O:Hid (0<=x.t/\x.t<=137438953472):=eJ (by have:=Y.out;omega);go_wp2_with fail;refine(fD 0 5 x.p (w6.heap.size) _ rfl false h).mono ?_;rintro e w7 ⟨rfl,hB⟩;have u:=eJ (aA.out.below hB);have a2:=eJ (a9.out.below hB a9.out.lt);clear hB c0 c1 c2;obtain⟨c0,c1,c2⟩:=oW a2.out;go_wp2_with fail;go_roundw;case rel=>exact⟨k+1,x.t,ah,aq,rfl,O.out.1,O.out.2,eJ ⟨(th _ _ _ _ z.out).symm,IM I.out.2 z.out (Ia (by rw[<-I.out.1];exact ac.out) h.out)⟩,u.out⟩
         case measure=>simp[intOf];omega
       ·have b8:(a8 !=0)=true:=by simp[ao]
        have Y:=eJ ao;clear ao;go_wp2_with fail;go_ret;exact gL.at_ (by rw[<-U.out];exact C7 aa.out ap.out ck.out I.out.2 z.out (He (by rw[<-I.out.1];exact ac.out) Y.out) Y.out) Y.out (aA.out.alloc _).old (eN.new _ _ _)
      ·obtain rfl:lq=k:=ah;have c5:Hid (ND p p.wn.length):=eJ (by rw[cA.out];exact I.out.2);clear I bq cd a7 hk;go_wp2_with fail;go_ret;exact gL.tQ (by rw[<-U.out];exact Jb aa.out ap.out ck.out c5.out) s.out.old
theorem ox(w:World)(s1:p.sl.length=len)(h:p.lk.length=ll)(e:p.wn.length=lq)(s2:fN w A len p.sl)(s:fA w AL ll p.lk)(j:iV w AQ lq p.wn):Calls prog 129 #[.agg (fb p.nd p.fa p.sk p.ji p.dr p.rd (.slice A len c) (.slice AL ll cl) p.fr (.slice AQ lq cq))] w (gL w (iO p)):=by
 by_cases h0:iK p=0
 ·exact B4 p A len c AL ll cl AQ lq cq w h0 s1 h e s2 s j
 ·exact CV p A len c AL ll cl AQ lq cq w h0 s1 h e
end
end Go.Proofs.YtideefjnlakciaaGreatDoor
