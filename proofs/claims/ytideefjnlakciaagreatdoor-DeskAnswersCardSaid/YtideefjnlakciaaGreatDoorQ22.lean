/- The contract of metronomeref.Check; conditions: slots, links and windows lie in memory; metronomeref.Fine holds what start-up lays there. -/
import Derived.Test.YtideefjnlakciaaGreatDoorQ00
import Derived.Test.YtideefjnlakciaaGreatDoorQ19
import Derived.Test.YtideefjnlakciaaGreatDoorQ11
import Derived.Test.YtideefjnlakciaaGreatDoorQ01
set_option maxRecDepth 1000000
set_option maxHeartbeats 20000000
set_option linter.unusedVariables false
set_option linter.unusedSimpArgs false
namespace Go.Proofs.YtideefjnlakciaaGreatDoor
open Go.RowKit Go.Proofs.Tryz
theorem rU(n lo hi:Int)(v:Bool)(h:ij n lo hi=v)(w:World):Calls prog 31 #[.int .i64 n,.int .i64 lo,.int .i64 hi] w fun e w'=>e=.returned (.bool v)/\w'=w:=(fE n lo hi v h w).mono fun _ _ ⟨h1,h2⟩=>⟨h1,h2.symm⟩
theorem zr{n lo hi:Int}(h:ij n lo hi=true):lo<=n/\n<=hi:=by unfold ij at h;simpa using h
theorem Nf{n lo hi:Int}(h:ij n lo hi=false):n<lo\/hi<n:=by unfold ij at h;simp at h;omega
theorem fi(tmps:Array Value)(w:World)(g:Nat)(a b:Value)(h2:tmps[2]? =some (.pointer (some ⟨g,0,none⟩)))(e:eN w g 90 #[a,b]):(results f73 tmps).run prog w=.ok (.agg #[a,b]) w:=by obtain⟨j,h,_⟩:=e.fQ;simp[results,results73,go_sem,h2,j,h]
def nC(w:World)(c:Int×Int)(r:Ending)(w':World):Prop:=r=.returned (.agg #[.int .i64 c.1,.int .i64 c.2])/\Below w.heap.size w w'
structure ng (w wr:World) (G:Array Value):Prop where
 g:eN wr w.heap.size 29 G
 r:eN wr (w.heap.size+1) 90 #[.int .i64 0,.int .i64 0]
 old:Below w.heap.size w wr
theorem ng.below{w w1 w2:World}{G:Array Value}(h:ng w w1 G)(hB:Below w1.heap.size w1 w2):ng w w2 G:=⟨h.g.below hB h.g.lt,h.r.below hB h.r.lt,h.old.trans (hB.mono h.old.size)⟩
theorem ng.alloc{w w1:World}{G:Array Value}(h:ng w w1 G)(o:Obj):ng w (w1.alloc o) G:=h.below ((au).alloc (ar) o)
theorem ng.drewN{w w1:World}{G:Array Value}(h:ng w w1 G)(n:Nat):ng w (w1.drewN n) G:=⟨h.g,h.r,below_drewN h.old n⟩
theorem ng.new(w:World)(G:Array Value):ng w ((w.alloc (.cells G 29)).alloc (.cells #[.int .i64 0,.int .i64 0] 90)) G:=⟨(eN.new w _ _).alloc _,by have:=eN.new (w.alloc (.cells G 29)) 90 #[.int .i64 0,.int .i64 0];simpa using this,((au).alloc (ar) _).alloc ak _⟩
theorem ng.eW{w wr:World}{G:Array Value}(h:ng w wr G)(a b:Value):eN ((wr.setCell ⟨w.heap.size+1,0,none⟩ a).setCell ⟨w.heap.size+1,1,none⟩ b) (w.heap.size+1) 90 #[a,b]:=(h.r.eS 0 _).eS 1 _
theorem ng.post{w wr:World}{G:Array Value}(h:ng w wr G){c:Int×Int}{e pl:Int}(j:c=(e,pl)):nC w c (.returned (.agg #[.int .i64 e,.int .i64 pl])) ((wr.setCell ⟨w.heap.size+1,0,none⟩ (.int .i64 e)).setCell ⟨w.heap.size+1,1,none⟩ (.int .i64 pl)):=by subst j;exact⟨rfl,(h.old.setCell (p:=⟨w.heap.size+1,0,none⟩) (aw) _).setCell (p:=⟨w.heap.size+1,1,none⟩) (aw) _⟩
theorem Mu(T F:Nat)(j:T<65536)(hF:F<17):(bits .and .i64 (T:Int) (wrap64 (2^F)) !=0)=T.testBit F:=by
 have h1:(2:Nat)^F<=2^16:=aX ah ah;rw[iL F hF,pZ T (2^F) ah ah];have e:T&&&2^F=if T.testBit F then 2^F else 0:=by
  apply du;intro i;rw[Nat.testBit_and,cg];by_cases hi:F=i
  ·subst hi;by_cases h:T.testBit F=true
   ·rw[aM h,cg];simp[h]
   ·rw[aI h];simp[h]
  ·by_cases h:T.testBit F=true
   ·rw[aM h,cg];simp[hi]
   ·rw[aI h];simp[hi]
 rw[e];have hp:0<(2:Nat)^F:=cQ F;by_cases h:T.testBit F=true
 ·rw[aM h,h];generalize(2:Nat)^F=x at hp;rw[dP];omega
 ·rw[aI h];simp at h;rw[h];rfl
theorem MD(n:Nat)(hn:n<=16):wrap64 (wrap64 (2^n)-1)=((2^n-1:Nat):Int):=by have h1:(2:Nat)^n<=2^16:=aX ah ah;have h2:0<(2:Nat)^n:=cQ n;rw[iL n ah];generalize(2:Nat)^n=x at h1 h2;unfold wrap64;omega
theorem Og(N:Nat)(s:Lk)(h:ij s.t 1 ((2^N-1:Nat):Int)=false):ki (N:Int) s=true:=by
 have h2:0<(2:Nat)^N:=cQ N;rcases Nf h with h|h
 ·exact Dv _ s ah
 ·refine Eb _ s ?_;rw[bU];have e:((2:Int)^N)=((2^N:Nat):Int):=ak;rw[e];omega
theorem O0(N T:Nat)(j s z:Int)(h:ij (T:Int) 1 ((2^N-1:Nat):Int)=true)(C:N<=16)(F:Nat)(hF:F<N)(u:j=F):(bits .and .i64 (T:Int) (wrap64 (2^F)) !=0)=ki (N:Int) ⟨j,T,s,z⟩:=by have h1:(2:Nat)^N<=2^16:=aX ah ah;have h2:0<(2:Nat)^N:=cQ N;obtain⟨a,b⟩:=zr h;subst u;rw[Mu T F ah ah,Hi _ _ (by dsimp only;omega) (by dsimp only;rw[bU];have e:((2:Int)^N)=((2^N:Nat):Int):=ak;rw[e];omega)];simp
theorem Ih{f t lo hi:Int}(h:t<=f):pc f t lo hi=1:=by unfold pc;rw[aM h]
theorem IH{f t lo hi:Int}(h: ¬t<=f)(h1:f<lo):pc f t lo hi=10:=by unfold pc;rw[aI h,aM h1]
theorem IP{f t lo hi:Int}(h: ¬t<=f)(h1: ¬f<lo)(h2:hi<t):pc f t lo hi=2:=by unfold pc;rw[aI h,aI h1,aM h2]
theorem JY{f t lo hi:Int}(h: ¬t<=f)(h1: ¬f<lo)(h2: ¬hi<t):pc f t lo hi=0:=by unfold pc;rw[aI h,aI h1,aI h2]
theorem Dg{sk rd nd lo:Int}{s:Sl}(h:pc s.f s.t lo (rd-sk-1)=0)(h1:ij s.n 0 (nd-1)=false):AD sk rd nd lo s=7:=by unfold AD;rw[h,aI aj,aM (by have:=Nf h1;omega)]
theorem G3{sk rd nd lo:Int}{s:Sl}(h:pc s.f s.t lo (rd-sk-1)=0)(h1:ij s.n 0 (nd-1)=true):AD sk rd nd lo s=0:=by unfold AD;rw[h,aI aj,aI (by have:=zr h1;omega)]
theorem L8{nd:Int}{s:Lk}(h:ij s.f 0 (nd-1)=false):sH nd s=7:=by unfold sH;rw[aM (by have:=Nf h;omega)]
theorem MT{nd:Int}{s:Lk}(h:ij s.f 0 (nd-1)=true)(h1:ki nd s=true):sH nd s=1:=by unfold sH;rw[aI (by have:=zr h;omega),aM h1]
theorem De{nd:Int}{s:Lk}(h:ij s.f 0 (nd-1)=true)(h1:ki nd s=false)(h2:ij s.b 1 137438953472=false\/ij s.q 1 16=false):sH nd s=2:=by unfold sH;rw[aI (by have:=zr h;omega),aI (by rw[h1];decide),aM (by rcases h2 with h2|h2<;>(have:=Nf h2;omega))]
theorem Lw{nd:Int}{s:Lk}(h:ij s.f 0 (nd-1)=true)(h1:ki nd s=false)(h2:ij s.b 1 137438953472=true)(h3:ij s.q 1 16=true):sH nd s=0:=by unfold sH;rw[aI (by have:=zr h;omega),aI (by rw[h1];decide),aI (by have:=zr h2;have:=zr h3;omega)]
def Mp(p:Pl)(k:Nat):Int:=if k=0 then p.sk else if k=1 then p.ji else p.dr
def xe(p:Pl):Prop:= ¬(p.nd<1\/16<p.nd\/p.fa<0\/16<p.fa\/p.nd<3*p.fa+1)
def sh(p:Pl):Prop:= ¬(p.sk<0\/137438953472<p.sk\/p.ji<0\/137438953472<p.ji\/p.dr<0\/137438953472<p.dr\/p.rd<1\/137438953472<p.rd\/p.fr<1\/137438953472<p.fr)
def uJ(p:Pl):Prop:= ¬(32<p.sl.length\/8<p.lk.length\/32<p.wn.length)
theorem wg{p:Pl}(h:xe p)(h2: ¬sh p):iK p=2:=by unfold xe at h;unfold sh at h2;unfold iK;rw[aI h,aM (Decidable.of_not_not h2)]
theorem sZ{p:Pl}(h:xe p)(h2:sh p)(h3: ¬uJ p):iK p=4:=by unfold xe at h;unfold sh at h2;unfold uJ at h3;unfold iK;rw[aI h,aI h2,aM (Decidable.of_not_not h3)]
theorem ME{p:Pl}(h:xe p)(h2:sh p)(h3:uJ p)(h4:p.sk<p.sk/2+p.ji*2+p.dr*2+1):iK p=13:=by unfold xe at h;unfold sh at h2;unfold uJ at h3;unfold iK;rw[aI h,aI h2,aI h3,aM ah]
theorem Fv{p:Pl}(h:xe p)(h2:sh p)(h3:uJ p)(h4: ¬p.sk<p.sk/2+p.ji*2+p.dr*2+1):iK p=0:=by unfold xe at h;unfold sh at h2;unfold uJ at h3;unfold iK;rw[aI h,aI h2,aI h3,aI ah]
theorem Kh{p:Pl}{k:Nat}(h:ij (Mp p k) 0 137438953472=false): ¬sh p:=by
 have:=Nf h;unfold Mp at this;unfold sh;split at this
 ·omega
 ·split at this<;>omega
theorem GW{p:Pl}{k:Nat}(h: ∀j,j<k->ij (Mp p j) 0 137438953472=true)(h1:ij (Mp p k) 0 137438953472=true): ∀j,j<k+1->ij (Mp p j) 0 137438953472=true:=by
 intro j e;rcases bW j k with h2|h2
 ·exact h j h2
 ·obtain rfl:j=k:=ah;exact h1
theorem IW{p:Pl}(h: ∀j,j<3->ij (Mp p j) 0 137438953472=true):0<=p.sk/\p.sk<=137438953472/\0<=p.ji/\p.ji<=137438953472/\0<=p.dr/\p.dr<=137438953472:=by have a:=zr (h 0 ah);have b:=zr (h 1 ah);have c:=zr (h 2 ah);simp[Mp] at a b c;omega
theorem EE(l:List Int)(i:Nat):(fS l i).2<=i+l.length:=by
 induction l generalizing i with
  |nil=>simp[fS]
  |cons x l e=>
   unfold fS;split
   ·have:=e (i+1);simp;omega
   ·simp
theorem JL{p:Pl}(h:iK p=0)(j:GB p p.sl.length)(s:Hx p p.lk.length)(e:Int)(i:Nat)(he:(fS (kX p.fr 0 p.wn) 0).1=e)(hi:(fS (kX p.fr 0 p.wn) 0).2=i):iO p=if e≠0 then(e,2000+(i:Int)) else(0,-1):=by unfold iO;rw[aI (fun g=>g h),aI (fun g=>g (rD j)),aI (fun g=>g (vF s)),he,hi]
section
variable (p:Pl)(A:Option Addr)(len c:Nat)(AL:Option Addr)(ll cl:Nat)(AQ:Option Addr)(lq cq:Nat)
theorem LY(w:World)(h: ¬(ij p.nd 1 16=true/\0<=p.fa/\p.fa<=100/\p.fa*3+1<=p.nd))(J:iO p=(1,-1)):Calls prog 73 #[.agg (fb p.nd p.fa p.sk p.ji p.dr p.rd (.slice A len c) (.slice AL ll cl) p.fr (.slice AQ lq cq))] w (nC w (iO p)):=by
 have s:=eJ (ng.new w (fb p.nd p.fa p.sk p.ji p.dr p.rd (.slice A len c) (.slice AL ll cl) p.fr (.slice AQ lq cq)));obtain⟨i0,i1,i2,i3,i4,i5,i6,i7,i8,i9⟩:=s.out.g.eT;have u:=eJ J;clear J;generalize iO p=C at*;cases h1:ij p.nd 1 16;case false=>clear h;go_enter func73,ntmps73;go_wp2_with fail;refine(fE p.nd 1 16 false h1 _).mono ?_;rintro e w2 ⟨rfl,rfl⟩;go_wp2_with fail;refine(mn 1 _).mono ?_;rintro e I ⟨rfl,hB⟩;have j:=eJ (s.out.below hB);obtain⟨E,z,f0,f1⟩:=j.out.r.fQ;clear hB;go_wp2_with fail;exact aR (fi _ _ (w.heap.size+1) _ _ rfl (j.out.eW _ _)) rfl (j.out.post u.out)
 case true=>
  obtain⟨n1,K⟩:=zr h1;by_cases h2:p.fa<0
  ·have d2:decide (p.fa<0)=true:=aJ h2;clear h;go_enter func73,ntmps73;go_wp2_with fail;refine(fE p.nd 1 16 true h1 _).mono ?_;rintro e w2 ⟨rfl,rfl⟩;go_wp2_with fail;refine(mn 1 _).mono ?_;rintro e I ⟨rfl,hB⟩;have j:=eJ (s.out.below hB);obtain⟨E,z,f0,f1⟩:=j.out.r.fQ;clear hB;go_wp2_with fail;exact aR (fi _ _ (w.heap.size+1) _ _ rfl (j.out.eW _ _)) rfl (j.out.post u.out)
  have d2:decide (p.fa<0)=false:=aH h2;by_cases h3:100<p.fa
  ·have d3:decide (100<p.fa)=true:=aJ h3;clear h;go_enter func73,ntmps73;go_wp2_with fail;refine(fE p.nd 1 16 true h1 _).mono ?_;rintro e w2 ⟨rfl,rfl⟩;go_wp2_with fail;refine(mn 1 _).mono ?_;rintro e I ⟨rfl,hB⟩;have j:=eJ (s.out.below hB);obtain⟨E,z,f0,f1⟩:=j.out.r.fQ;clear hB;go_wp2_with fail;exact aR (fi _ _ (w.heap.size+1) _ _ rfl (j.out.eW _ _)) rfl (j.out.post u.out)
  have d3:decide (100<p.fa)=false:=aH h3;have d4:decide (p.nd<p.fa*3+1)=true:=aJ (by by_cases h4:p.nd<p.fa*3+1;exact h4;exact absurd ⟨h1,ah,ah,ah⟩ h);clear h;go_enter func73,ntmps73;go_wp2_with fail;refine(fE p.nd 1 16 true h1 _).mono ?_;rintro e w2 ⟨rfl,rfl⟩;go_wp2_with fail;refine(mn 1 _).mono ?_;rintro e I ⟨rfl,hB⟩;have j:=eJ (s.out.below hB);obtain⟨E,z,f0,f1⟩:=j.out.r.fQ;clear hB;go_wp2_with fail;exact aR (fi _ _ (w.heap.size+1) _ _ rfl (j.out.eW _ _)) rfl (j.out.post u.out)
theorem JQ(w:World)(s1:p.sl.length=len)(ci:p.lk.length=ll)(cb:p.wn.length=lq)(s2:fN w A len p.sl)(cn:fA w AL ll p.lk)(ch:iV w AQ lq p.wn)(hF:nP w)(h1:ij p.nd 1 16=true)(f0:0<=p.fa)(f1:p.fa<=100)(f2:p.fa*3+1<=p.nd):Calls prog 73 #[.agg (fb p.nd p.fa p.sk p.ji p.dr p.rd (.slice A len c) (.slice AL ll cl) p.fr (.slice AQ lq cq))] w (nC w (iO p)):=by
 obtain⟨n1,cr⟩:=zr h1;obtain⟨N,b3⟩: ∃N:Nat,p.nd=N:=⟨p.nd.toNat,ah⟩;have ad:Hid (xe p):=eJ (by unfold xe;omega);have b9:=eJ s1;have b6:=eJ ci;have bz:=eJ cb;have S2:=eJ s2;have L2:=eJ cn;have cv:=eJ ch;have cu:=eJ hF;rw[b3] at h1 n1 cr f2⊢;have Z:=eJ b3;have d2:decide (p.fa<0)=false:=aH ah;have d3:decide (100<p.fa)=false:=aH ah;have d4:decide ((N:Int)<p.fa*3+1)=false:=aH ah;have u:=eJ (ng.new w (fb (N:Int) p.fa p.sk p.ji p.dr p.rd (.slice A len c) (.slice AL ll cl) p.fr (.slice AQ lq cq)));obtain⟨i0,i1,i2,i3,i4,i5,i6,i7,i8,i9⟩:=u.out.g.eT;obtain⟨C,hC⟩:=ab (iO p);rw[hC];have K:=eJ hC;clear hC b3 s1 ci cb s2 cn ch hF;have a8:Hid (∀e,iK p=e->e≠0->C=(e,-1)):=eJ (fun e h h0=>by rw[<-K.out];exact wK h h0);go_enter func73,ntmps73;go_wp2_with fail;refine(fE (N:Int) 1 16 true h1 _).mono ?_;rintro e w2 ⟨rfl,rfl⟩;go_wp2_with fail;clear d2 d3 d4 h1;have bi:=eJ (eN.new _ 3 #[.int .i64 p.sk,.int .i64 p.ji,.int .i64 p.dr]:eN (((w.alloc (.cells (fb (N:Int) p.fa p.sk p.ji p.dr p.rd (.slice A len c) (.slice AL ll cl) p.fr (.slice AQ lq cq)) 29)).alloc (.cells #[.int .i64 0,.int .i64 0] 90)).alloc (.cells #[.int .i64 p.sk,.int .i64 p.ji,.int .i64 p.dr] 3)) _ _ _);have s:=eJ (u.out.alloc (.cells #[.int .i64 p.sk,.int .i64 p.ji,.int .i64 p.dr] 3));clear u i0 i1 i2 i3 i4 i5 i6 i7 i8 i9;go_loopw [45] (fun i wr=> ∃k:Nat,k<=3/\i=.int .i64 k/\Hid (∀j,j<k->ij (Mp p j) 0 137438953472=true)/\Hid (ng w wr (fb (N:Int) p.fa p.sk p.ji p.dr p.rd (.slice A len c) (.slice AL ll cl) p.fr (.slice AQ lq cq)))/\Hid (eN wr (w.heap.size+1+1) 3 #[.int .i64 p.sk,.int .i64 p.ji,.int .i64 p.dr])) (fun i _=>3-(intOf i).toNat);case atStart=>exact⟨0,ah,rfl,eJ (fun j cj=>ah),s,eJ (by have:=bi.out;simpa using this)⟩
 case round=>
  clear s bi;obtain⟨k,hk,rfl,al,u,bi⟩:=hrel;by_cases a0:k<3
  ·obtain⟨z,b4⟩:=ab (Mp p k);have c0:wr.cell? ⟨w.heap.size+1+1,k,none⟩=some (.int .i64 z):=by rw[bi.out.cell k,<-b4];match k,a0 with|0,_=>rfl|1,_=>rfl|2,_=>rfl
   have cc:=eJ b4;clear b4;cases hi:ij z 0 137438953472;case false=>have U:Hid (C=(2,-1)):=eJ (a8.out 2 (wg ad.out (Kh (k:=k) (by rw[cc.out];exact hi))) aj);go_wp2_with fail;refine(fE z 0 137438953472 false hi _).mono ?_;rintro e w3 ⟨rfl,rfl⟩;go_wp2_with fail;refine(mn 2 _).mono ?_;rintro e be ⟨rfl,hB⟩;have I:=eJ (u.out.below hB);obtain⟨ac,am,f0,f1⟩:=I.out.r.fQ;clear hB;go_wp2_with fail;exact aR (fi _ _ (w.heap.size+1) _ _ rfl (I.out.eW _ _)) rfl (I.out.post U.out)
   case true=>
    go_wp2_with fail;refine(fE z 0 137438953472 true hi _).mono ?_;rintro e w3 ⟨rfl,rfl⟩;go_wp2_with fail;go_roundw;case rel=>exact⟨k+1,ah,aq,eJ (GW al.out (by rw[cc.out];exact hi)),u,bi⟩
    case measure=>simp[intOf];omega
  ·obtain rfl:k=3:=ah;obtain⟨a1,a2,a3,a4,a5,c6⟩:=IW al.out;clear al bi a0 hk;obtain⟨i0,i1,i2,i3,i4,i5,i6,i7,i8,i9⟩:=u.out.g.eT;cases ao:ij p.rd 1 137438953472;case false=>have U:Hid (C=(2,-1)):=eJ (a8.out 2 (wg ad.out (by have:=Nf ao;unfold sh;omega)) aj);go_wp2_with fail;refine(fE p.rd 1 137438953472 false ao _).mono ?_;rintro e w3 ⟨rfl,rfl⟩;go_wp2_with fail;refine(mn 2 _).mono ?_;rintro e be ⟨rfl,hB⟩;have I:=eJ (u.out.below hB);obtain⟨ac,am,f0,f1⟩:=I.out.r.fQ;clear hB;go_wp2_with fail;exact aR (fi _ _ (w.heap.size+1) _ _ rfl (I.out.eW _ _)) rfl (I.out.post U.out)
   cases a7:ij p.fr 1 137438953472;case true.false=>have U:Hid (C=(2,-1)):=eJ (a8.out 2 (wg ad.out (by have:=Nf a7;unfold sh;omega)) aj);go_wp2_with fail;refine(fE p.rd 1 137438953472 true ao _).mono ?_;rintro e w3 ⟨rfl,rfl⟩;go_wp2_with fail;refine(fE p.fr 1 137438953472 false a7 _).mono ?_;rintro e w4 ⟨rfl,rfl⟩;go_wp2_with fail;refine(mn 2 _).mono ?_;rintro e be ⟨rfl,hB⟩;have I:=eJ (u.out.below hB);obtain⟨ac,am,f0,f1⟩:=I.out.r.fQ;clear hB;go_wp2_with fail;exact aR (fi _ _ (w.heap.size+1) _ _ rfl (I.out.eW _ _)) rfl (I.out.post U.out)
   obtain⟨cS,c5⟩:=zr ao;obtain⟨g1,g2⟩:=zr a7;have bf:Hid (sh p):=eJ (by unfold sh;omega);by_cases cV:32<len
   ·have d6:decide ((32:Int)<(len:Int))=true:=aJ ah;have U:Hid (C=(4,-1)):=eJ (a8.out 4 (sZ ad.out bf.out (by have:=b9.out;unfold uJ;omega)) aj);go_wp2_with fail;refine(fE p.rd 1 137438953472 true ao _).mono ?_;rintro e w3 ⟨rfl,rfl⟩;go_wp2_with fail;refine(fE p.fr 1 137438953472 true a7 _).mono ?_;rintro e w4 ⟨rfl,rfl⟩;go_wp2_with fail;refine(mn 4 _).mono ?_;rintro e be ⟨rfl,hB⟩;have I:=eJ (u.out.below hB);obtain⟨ac,am,f0,f1⟩:=I.out.r.fQ;clear hB;go_wp2_with fail;exact aR (fi _ _ (w.heap.size+1) _ _ rfl (I.out.eW _ _)) rfl (I.out.post U.out)
   have d6:decide ((32:Int)<(len:Int))=false:=aH ah;by_cases b7:8<ll
   ·have d7:decide ((8:Int)<(ll:Int))=true:=aJ ah;have U:Hid (C=(4,-1)):=eJ (a8.out 4 (sZ ad.out bf.out (by have:=b6.out;unfold uJ;omega)) aj);go_wp2_with fail;refine(fE p.rd 1 137438953472 true ao _).mono ?_;rintro e w3 ⟨rfl,rfl⟩;go_wp2_with fail;refine(fE p.fr 1 137438953472 true a7 _).mono ?_;rintro e w4 ⟨rfl,rfl⟩;go_wp2_with fail;refine(mn 4 _).mono ?_;rintro e be ⟨rfl,hB⟩;have I:=eJ (u.out.below hB);obtain⟨ac,am,f0,f1⟩:=I.out.r.fQ;clear hB;go_wp2_with fail;exact aR (fi _ _ (w.heap.size+1) _ _ rfl (I.out.eW _ _)) rfl (I.out.post U.out)
   have d7:decide ((8:Int)<(ll:Int))=false:=aH ah;by_cases c4:32<lq
   ·have d8:decide ((32:Int)<(lq:Int))=true:=aJ ah;have U:Hid (C=(4,-1)):=eJ (a8.out 4 (sZ ad.out bf.out (by have:=bz.out;unfold uJ;omega)) aj);go_wp2_with fail;refine(fE p.rd 1 137438953472 true ao _).mono ?_;rintro e w3 ⟨rfl,rfl⟩;go_wp2_with fail;refine(fE p.fr 1 137438953472 true a7 _).mono ?_;rintro e w4 ⟨rfl,rfl⟩;go_wp2_with fail;refine(mn 4 _).mono ?_;rintro e be ⟨rfl,hB⟩;have I:=eJ (u.out.below hB);obtain⟨ac,am,f0,f1⟩:=I.out.r.fQ;clear hB;go_wp2_with fail;exact aR (fi _ _ (w.heap.size+1) _ _ rfl (I.out.eW _ _)) rfl (I.out.post U.out)
   have d8:decide ((32:Int)<(lq:Int))=false:=aH ah;have b8:Hid (uJ p):=eJ (by have:=b9.out;have:=b6.out;have:=bz.out;unfold uJ;omega);have hq:p.sk.tdiv 2=p.sk/2:=cY ah;by_cases bt:p.sk<p.sk/2+p.ji*2+p.dr*2+1
   ·have d9:decide (p.sk<p.sk/2+p.ji*2+p.dr*2+1)=true:=aJ bt;have U:Hid (C=(13,-1)):=eJ (a8.out 13 (ME ad.out bf.out b8.out bt) aj);go_wp2_with fail;refine(fE p.rd 1 137438953472 true ao _).mono ?_;rintro e w3 ⟨rfl,rfl⟩;go_wp2_with fail;refine(fE p.fr 1 137438953472 true a7 _).mono ?_;rintro e w4 ⟨rfl,rfl⟩;go_wp2_with fail;refine(mn 13 _).mono ?_;rintro e be ⟨rfl,hB⟩;have I:=eJ (u.out.below hB);obtain⟨ac,am,f0,f1⟩:=I.out.r.fQ;clear hB;go_wp2_with fail;exact aR (fi _ _ (w.heap.size+1) _ _ rfl (I.out.eW _ _)) rfl (I.out.post U.out)
   have d9:decide (p.sk<p.sk/2+p.ji*2+p.dr*2+1)=false:=aH bt;have X:Hid (iK p=0):=eJ (Fv ad.out bf.out b8.out bt);clear a8;go_wp2_with fail;refine(fE p.rd 1 137438953472 true ao _).mono ?_;rintro e w3 ⟨rfl,rfl⟩;go_wp2_with fail;refine(fE p.fr 1 137438953472 true a7 _).mono ?_;rintro e w4 ⟨rfl,rfl⟩;go_wp2_with fail;clear d6 d7 d8 d9 hq bt ad bf b8;obtain⟨bk,rfl⟩: ∃bk:World,bk=wr:=⟨_,rfl⟩;go_loopw [101] (fun i wr=> ∃k:Nat,k<=len/\i=.int .i64 k/\Hid (0<=qX p.sk 0 p.sl k/\qX p.sk 0 p.sl k<=137438953472/\GB p k)/\Hid (ng w wr (fb (N:Int) p.fa p.sk p.ji p.dr p.rd (.slice A len c) (.slice AL ll cl) p.fr (.slice AQ lq cq)))) (fun i _=>len-(intOf i).toNat);case atStart=>exact⟨0,ah,rfl,eJ ⟨by rw[og];omega,by rw[og];omega,fun j cj=>ah⟩,u⟩
   case round=>
    clear u i0 i1 i2 i3 i4 i5 i6 i7 i8 i9;obtain⟨k,hk,rfl,O,u⟩:=hrel;by_cases a0:k<len
    ·obtain⟨b,off,rfl,x,bw,c0,c1,c2⟩:=(S2.out.below u.out.old) k a0;have J:=eJ bw;clear bw;have s:=eJ (u.out.alloc (.cells #[.int .i64 x.n,.int .i64 x.f,.int .i64 x.t] 86));obtain⟨i0,i1,i2,i3,i4,i5,i6,i7,i8,i9⟩:=s.out.g.eT;obtain⟨ac,am,f0,f1⟩:=s.out.r.fQ;cases k with
      |zero=>
       simp only[Nat.zero_mul,eG] at c0 c1 c2;have aa:=eJ (og p.sk 0 p.sl);by_cases g1:x.t<=x.f
       ·have d1:decide (x.t<=x.f)=true:=aJ g1;have E:Hid (C=(1,((0:Nat):Int))):=eJ (by rw[<-K.out];exact kv X.out O.out.2.2 J.out (mY (Ih g1) aj) aj);go_wp2_with fail;exact aR (fi _ _ (w.heap.size+1) _ _ rfl (s.out.eW _ _)) rfl (s.out.post E.out)
       have d1:decide (x.t<=x.f)=false:=aH g1;by_cases g2:x.f<0
       ·have d2:decide (x.f<0)=true:=aJ g2;have E:Hid (C=(10,((0:Nat):Int))):=eJ (by rw[<-K.out];exact kv X.out O.out.2.2 J.out (mY (IH g1 (by rw[aa.out];exact g2)) aj) aj);go_wp2_with fail;exact aR (fi _ _ (w.heap.size+1) _ _ rfl (s.out.eW _ _)) rfl (s.out.post E.out)
       have d2:decide (x.f<0)=false:=aH g2;by_cases g3:p.rd-p.sk-1<x.t
       ·have d3:decide (p.rd-p.sk-1<x.t)=true:=aJ g3;have E:Hid (C=(2,((0:Nat):Int))):=eJ (by rw[<-K.out];exact kv X.out O.out.2.2 J.out (mY (IP g1 (by rw[aa.out];exact g2) g3) aj) aj);go_wp2_with fail;go_quiet (fail);go_wp2_with fail;exact aR (fi _ _ (w.heap.size+1) _ _ rfl ((s.out.drewN _).eW _ _)) rfl ((s.out.drewN _).post E.out)
       have d3:decide (p.rd-p.sk-1<x.t)=false:=aH g3;have bv:=eJ (JY g1 (by rw[aa.out];exact g2) g3:pc x.f x.t (qX p.sk 0 p.sl (0)) (p.rd-p.sk-1)=0);have al:Hid (0<=x.t+p.sk+1/\x.t+p.sk+1<=137438953472):=eJ (by have:=O.out.1;have:=aa.out;omega);clear g1 g2 g3;cases hn:ij x.n 0 ((N:Int)-1);case false=>have E:Hid (C=(7,((0:Nat):Int))):=eJ (by rw[<-K.out];exact kv X.out O.out.2.2 J.out (Dg bv.out (by rw[Z.out];exact hn)) aj);go_wp2_with fail;go_quiet (fail);go_wp2_with fail;refine(fE x.n 0 ((N:Int)-1) false hn _).mono ?_;rintro e w5 ⟨rfl,rfl⟩;go_wp2_with fail;exact aR (fi _ _ (w.heap.size+1) _ _ rfl ((s.out.drewN _).eW _ _)) rfl ((s.out.drewN _).post E.out)
       case true=>
        go_wp2_with fail;go_quiet (fail);go_wp2_with fail;refine(fE x.n 0 ((N:Int)-1) true hn _).mono ?_;rintro e w5 ⟨rfl,rfl⟩;go_wp2_with fail;go_roundw;case rel=>exact⟨0+1,ah,aq,eJ ⟨by rw[lG _ _ _ _ _ J.out];exact al.out.1,by rw[lG _ _ _ _ _ J.out];exact al.out.2,vU O.out.2.2 J.out (G3 bv.out (by rw[Z.out];exact hn))⟩,eJ (s.out.drewN _)⟩
        case measure=>simp[intOf];omega
      |succ j=>
       obtain⟨c8,cx,co,y,cd,_,_,m2⟩:=(S2.out.below u.out.old) j ah;cases co;have c9:=(bF wr (.cells #[.int .i64 x.n,.int .i64 x.f,.int .i64 x.t] 86) ⟨b,off+j*3+2,none⟩ (aG _ _ m2)).trans m2;have aa:=eJ (lG p.sk 0 p.sl j y cd);have y1:0<=y.t+p.sk+1:=by rw[<-aa.out];exact O.out.1
       have cA:y.t+p.sk+1<=137438953472:=by rw[<-aa.out];exact O.out.2.1
       have bn:((j:Int)+1==0)=false:=by rw[aV];omega
       have de:decide ((0:Int)<(j:Int)+1)=true:=aJ ah;have dd:(j:Int)<(len:Int):=ah;clear cd;by_cases g1:x.t<=x.f
       ·have d1:decide (x.t<=x.f)=true:=aJ g1;have E:Hid (C=(1,((j+1:Nat):Int))):=eJ (by rw[<-K.out];exact kv X.out O.out.2.2 J.out (mY (Ih g1) aj) aj);go_wp2_with fail;exact aR (fi _ _ (w.heap.size+1) _ _ rfl (s.out.eW _ _)) rfl (s.out.post E.out)
       have d1:decide (x.t<=x.f)=false:=aH g1;by_cases g2:x.f<=y.t+p.sk
       ·have d2:decide (x.f<=y.t+p.sk)=true:=aJ g2;have E:Hid (C=(10,((j+1:Nat):Int))):=eJ (by rw[<-K.out];exact kv X.out O.out.2.2 J.out (mY (IH g1 (by rw[aa.out];omega)) aj) aj);go_wp2_with fail;go_quiet (fail);go_wp2_with fail;exact aR (fi _ _ (w.heap.size+1) _ _ rfl ((s.out.drewN _).eW _ _)) rfl ((s.out.drewN _).post E.out)
       have d2:decide (x.f<=y.t+p.sk)=false:=aH g2;by_cases g3:p.rd-p.sk-1<x.t
       ·have d3:decide (p.rd-p.sk-1<x.t)=true:=aJ g3;have E:Hid (C=(2,((j+1:Nat):Int))):=eJ (by rw[<-K.out];exact kv X.out O.out.2.2 J.out (mY (IP g1 (by rw[aa.out];omega) g3) aj) aj);go_wp2_with fail;go_quiet (fail);go_wp2_with fail;exact aR (fi _ _ (w.heap.size+1) _ _ rfl ((s.out.drewN _).eW _ _)) rfl ((s.out.drewN _).post E.out)
       have d3:decide (p.rd-p.sk-1<x.t)=false:=aH g3;have bv:=eJ (JY g1 (by rw[aa.out];omega) g3:pc x.f x.t (qX p.sk 0 p.sl (j+1)) (p.rd-p.sk-1)=0);have al:Hid (0<=x.t+p.sk+1/\x.t+p.sk+1<=137438953472):=eJ (by have:=O.out.1;have:=aa.out;omega);clear g1 g2 g3;cases hn:ij x.n 0 ((N:Int)-1);case false=>have E:Hid (C=(7,((j+1:Nat):Int))):=eJ (by rw[<-K.out];exact kv X.out O.out.2.2 J.out (Dg bv.out (by rw[Z.out];exact hn)) aj);go_wp2_with fail;go_quiet (fail);go_wp2_with fail;refine(fE x.n 0 ((N:Int)-1) false hn _).mono ?_;rintro e w5 ⟨rfl,rfl⟩;go_wp2_with fail;exact aR (fi _ _ (w.heap.size+1) _ _ rfl ((s.out.drewN _).eW _ _)) rfl ((s.out.drewN _).post E.out)
       case true=>
        go_wp2_with fail;go_quiet (fail);go_wp2_with fail;refine(fE x.n 0 ((N:Int)-1) true hn _).mono ?_;rintro e w5 ⟨rfl,rfl⟩;go_wp2_with fail;go_roundw;case rel=>exact⟨j+1+1,ah,aq,eJ ⟨by rw[lG _ _ _ _ _ J.out];exact al.out.1,by rw[lG _ _ _ _ _ J.out];exact al.out.2,vU O.out.2.2 J.out (G3 bv.out (by rw[Z.out];exact hn))⟩,eJ (s.out.drewN _)⟩
        case measure=>simp[intOf];omega
    ·obtain rfl:len=k:=ah;have bd:Hid (GB p p.sl.length):=eJ (by rw[b9.out];exact O.out.2.2);clear O a0 hk;obtain⟨i0,i1,i2,i3,i4,i5,i6,i7,i8,i9⟩:=u.out.g.eT;go_wp2_with fail;obtain⟨bk,rfl⟩: ∃bk:World,bk=wr:=⟨_,rfl⟩;go_loopw [170] (fun i wr=> ∃k:Nat,k<=ll/\i=.int .i64 k/\Hid (Hx p k)/\Hid (ng w wr (fb (N:Int) p.fa p.sk p.ji p.dr p.rd (.slice A len c) (.slice AL ll cl) p.fr (.slice AQ lq cq)))) (fun i _=>ll-(intOf i).toNat);case atStart=>exact⟨0,ah,rfl,eJ (fun j cj=>ah),u⟩
     case round=>
      clear u i0 i1 i2 i3 i4 i5 i6 i7 i8 i9;obtain⟨k,hk,rfl,a6,u⟩:=hrel;by_cases a0:k<ll
      ·obtain⟨b,off,rfl,x,bw,c0,c1,c2,c3⟩:=(L2.out.below u.out.old) k a0;obtain⟨bl,bq,ap,bb⟩:=x;dsimp only at c0 c1 c2 c3;have J:=eJ bw;clear bw;have s:=eJ (u.out.alloc (.cells #[.int .i64 bl,.int .i64 bq,.int .i64 ap,.int .i64 bb] 88));obtain⟨i0,i1,i2,i3,i4,i5,i6,i7,i8,i9⟩:=s.out.g.eT;obtain⟨ac,am,f0,f1⟩:=s.out.r.fQ;cases Y:ij bl 0 ((N:Int)-1);case false=>have E:Hid (C=(7,1000+(k:Int))):=eJ (by rw[<-K.out];exact jT X.out bd.out a6.out J.out (L8 (by rw[Z.out];exact Y)) aj);go_wp2_with fail;refine(fE bl 0 ((N:Int)-1) false Y _).mono ?_;rintro e w5 ⟨rfl,rfl⟩;go_wp2_with fail;exact aR (fi _ _ (w.heap.size+1) _ _ rfl (s.out.eW _ _)) rfl (s.out.post E.out)
       case true=>
        obtain⟨F,rfl⟩: ∃F:Nat,bl=F:=⟨bl.toNat,by have:=zr Y;omega⟩;have hF:F<N:=by have:=zr Y;omega
        have ck:N<=16:=ah;have ce:=eJ (MD N ck);cases aA:ij bq 1 (wrap64 (wrap64 (2^N)-1));case false=>have b2:Hid (ki p.nd ⟨(F:Int),bq,ap,bb⟩=true):=eJ (by rw[Z.out];exact Og N _ (by rw[<-ce.out];exact aA));have E:Hid (C=(1,1000+(k:Int))):=eJ (by rw[<-K.out];exact jT X.out bd.out a6.out J.out (MT (by rw[Z.out];exact Y) b2.out) aj);go_wp2_with fail;refine(fE (F:Int) 0 ((N:Int)-1) true Y _).mono ?_;rintro e w5 ⟨rfl,rfl⟩;go_wp2_with fail;go_quiet ((go_at_call 31;with_reducible exact bc (rU _ _ _ _ aA _)));go_wp2_with fail;exact aR (fi _ _ (w.heap.size+1) _ _ rfl ((s.out.drewN _).eW _ _)) rfl ((s.out.drewN _).post E.out)
        case true=>
         obtain⟨T,rfl⟩: ∃T:Nat,bq=T:=⟨bq.toNat,by have:=zr aA;omega⟩;have b2:Hid ((bits .and .i64 (T:Int) (wrap64 (2^F)) !=0)=ki p.nd ⟨(F:Int),T,ap,bb⟩):=eJ (by rw[Z.out];exact O0 N T _ ap bb (by rw[<-ce.out];exact aA) ck F hF rfl);cases a9:(bits .and .i64 (T:Int) (wrap64 (2^F)) !=0);case true=>have E:Hid (C=(1,1000+(k:Int))):=eJ (by rw[<-K.out];exact jT X.out bd.out a6.out J.out (MT (by rw[Z.out];exact Y) (by rw[<-b2.out];exact a9)) aj);go_wp2_with fail;refine(fE (F:Int) 0 ((N:Int)-1) true Y _).mono ?_;rintro e w5 ⟨rfl,rfl⟩;go_wp2_with fail;go_quiet ((go_at_call 31;with_reducible exact bc (rU _ _ _ _ aA _)));go_wp2_with fail;exact aR (fi _ _ (w.heap.size+1) _ _ rfl ((s.out.drewN _).eW _ _)) rfl ((s.out.drewN _).post E.out)
         case false=>
          have b5:Hid (ki p.nd ⟨(F:Int),T,ap,bb⟩=false):=eJ (by rw[<-b2.out];exact a9);cases bm:ij ap 1 137438953472;case false=>have E:Hid (C=(2,1000+(k:Int))):=eJ (by rw[<-K.out];exact jT X.out bd.out a6.out J.out (De (by rw[Z.out];exact Y) b5.out (.inl bm)) aj);go_wp2_with fail;refine(fE (F:Int) 0 ((N:Int)-1) true Y _).mono ?_;rintro e w5 ⟨rfl,rfl⟩;go_wp2_with fail;go_quiet ((go_at_call 31;with_reducible exact bc (rU _ _ _ _ aA _)));go_wp2_with fail;refine(fE ap 1 137438953472 false bm _).mono ?_;rintro e w6 ⟨rfl,rfl⟩;go_wp2_with fail;exact aR (fi _ _ (w.heap.size+1) _ _ rfl ((s.out.drewN _).eW _ _)) rfl ((s.out.drewN _).post E.out)
          cases bx:ij bb 1 16;case true.false=>have E:Hid (C=(2,1000+(k:Int))):=eJ (by rw[<-K.out];exact jT X.out bd.out a6.out J.out (De (by rw[Z.out];exact Y) b5.out (.inr bx)) aj);go_wp2_with fail;refine(fE (F:Int) 0 ((N:Int)-1) true Y _).mono ?_;rintro e w5 ⟨rfl,rfl⟩;go_wp2_with fail;go_quiet ((go_at_call 31;with_reducible exact bc (rU _ _ _ _ aA _)));go_wp2_with fail;refine(fE ap 1 137438953472 true bm _).mono ?_;rintro e w6 ⟨rfl,rfl⟩;go_wp2_with fail;refine(fE bb 1 16 false bx _).mono ?_;rintro e w7 ⟨rfl,rfl⟩;go_wp2_with fail;exact aR (fi _ _ (w.heap.size+1) _ _ rfl ((s.out.drewN _).eW _ _)) rfl ((s.out.drewN _).post E.out)
          case true.true=>
           go_wp2_with fail;refine(fE (F:Int) 0 ((N:Int)-1) true Y _).mono ?_;rintro e w5 ⟨rfl,rfl⟩;go_wp2_with fail;go_quiet ((go_at_call 31;with_reducible exact bc (rU _ _ _ _ aA _)));go_wp2_with fail;refine(fE ap 1 137438953472 true bm _).mono ?_;rintro e w6 ⟨rfl,rfl⟩;go_wp2_with fail;refine(fE bb 1 16 true bx _).mono ?_;rintro e w7 ⟨rfl,rfl⟩;go_wp2_with fail;go_roundw;case rel=>exact⟨k+1,ah,aq,eJ (Bn a6.out J.out (Lw (by rw[Z.out];exact Y) b5.out bm bx)),eJ (s.out.drewN _)⟩
           case measure=>simp[intOf];omega
      ·obtain rfl:ll=k:=ah;have ct:Hid (Hx p p.lk.length):=eJ (by rw[b6.out];exact a6.out);clear a6 a0 hk;obtain⟨i0,i1,i2,i3,i4,i5,i6,i7,i8,i9⟩:=u.out.g.eT;obtain⟨a9,ca⟩:=ab ((fS (kX p.fr 0 p.wn) 0).1);obtain⟨bj,bn⟩: ∃bj:Nat,(fS (kX p.fr 0 p.wn) 0).2=bj:=⟨_,rfl⟩;have E:=eJ (JL X.out bd.out ct.out a9 bj ca bn);have cm:Hid (∀w0,Below w.heap.size w w0->Calls prog 120 #[.slice AQ lq cq,.int .i64 p.fr] w0 fun r w'=>r=.returned (.tuple #[.int .i64 a9,.int .i64 (bj:Nat)])/\Below w0.heap.size w0 w'):=eJ (by intro w0 hB;have h:=GV AQ lq cq p.fr p.wn w0 ah bz.out (cv.out.below hB);unfold jm at h;rw[ca,bn] at h;exact h);have c7:bj<=32:=by rw[<-bn];have:=EE (kX p.fr 0 p.wn) 0;rw[sr] at this;have:=bz.out;omega
       clear ca bn;go_wp2_with fail;refine(cm.out _ u.out.old).mono ?_;rintro e w5 ⟨rfl,hB⟩;have s:=eJ (u.out.below hB);obtain⟨ac,am,f0,f1⟩:=s.out.r.fQ;obtain⟨g0,g1⟩:=cu.out.below s.out.old;clear hB cm;by_cases h0:a9=0
       ·subst h0;go_wp2_with fail;exact aR (fi _ _ (w.heap.size+1) _ _ rfl (s.out.eW _ _)) rfl (s.out.post (by rw[<-K.out,E.out];rfl))
       ·have cb:(a9 !=0)=true:=by simp[h0]
        have U:Hid (C=(a9,2000+(bj:Int))):=eJ (by rw[<-K.out,E.out,aM h0]);clear h0;go_wp2_with fail;exact aR (fi _ _ (w.heap.size+1) _ _ rfl (s.out.eW _ _)) rfl (s.out.post U.out)
theorem tV(w:World)(s1:p.sl.length=len)(e:p.lk.length=ll)(u:p.wn.length=lq)(s2:fN w A len p.sl)(s:fA w AL ll p.lk)(j:iV w AQ lq p.wn)(hF:nP w):Calls prog 73 #[.agg (fb p.nd p.fa p.sk p.ji p.dr p.rd (.slice A len c) (.slice AL ll cl) p.fr (.slice AQ lq cq))] w (nC w (iO p)):=by
 by_cases h:ij p.nd 1 16=true/\0<=p.fa/\p.fa<=100/\p.fa*3+1<=p.nd
 ·exact JQ p A len c AL ll cl AQ lq cq w s1 e u s2 s j hF h.1 h.2.1 h.2.2.1 h.2.2.2
 ·refine LY p A len c AL ll cl AQ lq cq w h (wK ?_ aj);unfold iK;rw[aM];cases h1:ij p.nd 1 16 with|false=>have:=Nf h1;omega|true=>have:=zr h1;simp only[h1,true_and] at h;omega
end
end Go.Proofs.YtideefjnlakciaaGreatDoor
