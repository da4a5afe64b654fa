/- The contract of frame.Encode; no condition but that the text is no longer than memory. -/
import Derived.Test.YtideefjnlakciaaGreatDoorQ00
import Derived.Test.YtideefjnlakciaaGreatDoorQ03
import Derived.Test.YtideefjnlakciaaGreatDoorQ01
import Derived.Test.YtideefjnlakciaaGreatDoorQ02
import Derived.Lib.AppendStr
import Derived.Laws.BytesArg
import Derived.Shelf.SlIterI.Sorted
import Derived.Shelf.SortM.Plain
import Derived.Shelf.SortM.SortNone
import Derived.Shelf.Sort.Plain
import Derived.Shelf.Slices.In.SortNone2
import Derived.Test.YtideefjnlakciaaGreatDoorProg
import Derived.WalkKit
import Derived.Sort.OwnSortedInts
import Derived.LoopIn
import Derived.LoopNIn
import Derived.TacticsInMore
import Derived.OwnWalkIn
import Derived.RangeFuncLeaves
import Derived.Deep.QuietTactic
import Derived.Deep.Cut
import Derived.Deep.CutRange
import Derived.Deep.CutBlock
import Derived.BigQuiet
set_option maxRecDepth 1000000
set_option maxHeartbeats 20000000
set_option linter.unusedVariables false
set_option linter.unusedSimpArgs false
namespace Go.Proofs.YtideefjnlakciaaGreatDoor
open Go.RowKit Go.Proofs.Tryz
open Go.RowKit Go.Proofs.Tryz
def bv(l:List Nat):List Value:=l.map fun(x:Nat)=>Value.int .u8 (x:Int)
def dl(d:ByteArray):List Nat:=d.data.toList.map fun b=>b.toNat
theorem yT(a b:List Nat):bv (a++b)=bv a++bv b:=dz
theorem PG(d:ByteArray):bv (dl d)=Lib.strCells d:=by unfold bv dl Lib.strCells;rw[eH];rfl
theorem qU(d:ByteArray):(dl d).length=d.size:=by unfold dl;rw[aY,dT];rfl
theorem MR(d:ByteArray): ∀x∈dl d,x<256:=by intro x e;unfold dl at e;obtain⟨b,_,rfl⟩:=cX.1 e;exact b.toNat_lt
theorem Cd(l:List Nat): ∀u∈bv l,u.oneCell'=true:=by intro u hu;unfold bv at hu;obtain⟨x,_,rfl⟩:=cX.1 hu;rfl
def rP(w:World)(bs:List Nat)(e:Ending)(w':World):Prop:= ∃v,e=.returned (.tuple #[v,.nilIface])/\w'.ownsRow w.heap.size 5 1 v bs.length (bv bs)/\Below w.heap.size w w'
def xP(nd sl mb lk sq:Nat)(e:List Nat):List Nat:=[nd,sl,mb/256,mb%256,lk+1]++([sq,e.length]++e)
def ia(l:List Nat):List Nat:=l++[iZ l/256,iZ l%256]
theorem D0:(prog.info? 5).map (fun i=>(i.zero,i.size,i.bytes))=some (some (.int .u8 0),1,1):=ai
theorem wi{w:World}{g:Nat}{t:TypeId}{cs:List Value}(h:eN w g t cs.toArray){base n:Nat}(e:base<=g)(hn:cs.length=n)(hm:n<=maxLen):w.ownsRow base t 1 (.slice (some ⟨g,0,none⟩) n n) n cs:=by refine⟨ah,.inr ⟨g,n,cs.toArray,rfl,e,h,ar,hm,by simp[hn], ?_⟩⟩;rw[Nat.mul_one,<-hn];simp
theorem pL{w:World}{g:Nat}{t:TypeId}{cs:List Value}(h:eN w g t cs.toArray): ∀j u,cs[j]? =some u->w.cell? ((⟨g,0,none⟩:Addr).add j)=some u:=by
 intro j u hu;have:=h.cell j;simp only[Addr.add,bB];split
 ·rename_i h0;subst h0;rw[this];simpa using hu
 ·rw[this];simpa using hu
theorem qa{w:World}{base g cap n:Nat}{t:TypeId}{bs:List Nat}(h:w.ownsRow base t 1 (.slice (some ⟨g,0,none⟩) n cap) n (bv bs)):gh w (some ⟨g,0,none⟩) n bs:=by
 intro j u;have hlen:bs.length=n:=by have:=h.1;unfold bv at this;rw[aY] at this;omega
 have e:bs.getD j 0=bs[j]'(ah):=by rw[List.getD,aF ah];rfl
 have s:=h.cells (g:=g) rfl j (.int .u8 ((bs.getD j 0:Nat):Int)) (by unfold bv;rw[bp,aF ah,e];rfl);refine⟨g,0,rfl, ?_⟩;rw[<-s];simp only[Addr.add,bB];split
 ·rename_i h0;subst h0;rfl
 ·rfl
theorem Hp{w:World}{base n:Nat}{t:TypeId}{v:Value}{xs:List Value}(h:w.ownsRow base t 1 v n xs)(hn:0<n): ∃g cap,v=.slice (some ⟨g,0,none⟩) n cap/\base<=g/\g<w.heap.size/\cap<=maxLen:=by
 rcases h.2 with ⟨_,h0⟩|⟨g,cap,cur,j,s,e,_,hm,_⟩
 ·omega
 ·exact⟨g,cap,j,s,(aS.1 e).1,hm⟩
theorem Jz(nd sl mb lk sq:Nat)(d:ByteArray)(w:World)(h1:nd<16)(h2:sl<32)(h3:mb<65536)(h4:lk<8)(h5:sq<256)(h6:d.size<=40):Calls prog 178 #[FX nd sl mb lk sq d] w (rP w (ia (xP nd sl mb lk sq (dl d)))):=by
 have bl:tz nd sl mb lk sq d.size=true:=by unfold tz;apply aJ;omega
 have H:=eJ bl;clear bl;obtain⟨i0,hi,U,T,aa⟩:=info_parts D0;obtain⟨h,bi⟩: ∃x:Nat,x=mb/256:=⟨_,rfl⟩;obtain⟨s,a5⟩: ∃x:Nat,x=mb%256:=⟨_,rfl⟩;obtain⟨j,ao⟩: ∃x:Nat,x=lk+1:=⟨_,rfl⟩;have ck:(mb:Int)/256=(h:Int):=ah;have b8:IntKind.u8.wrap (mb:Int)=(s:Int):=by rw[dp];omega
 have ce:(lk:Int)+1=(j:Int):=ah;have X:Hid (h=mb/256/\s=mb%256/\j=lk+1):=⟨bi,a5,ao⟩;have b2:h<256:=ah;have ci:j<256:=ah;clear bi a5 ao;obtain⟨n,hn⟩: ∃n:Nat,n=d.size:=⟨_,rfl⟩;have ch:n<=40:=ah;go_enter func178,ntmps178;go_wp2_with fail;refine(oX _ _ _ _ _ _ _ ah).mono ?_;rw[H.out];rintro e w' ⟨rfl,rfl⟩;have n1:=wi (base:=w.heap.size) (n:=5) ((eN.new ((w.alloc (.cells (Cs nd sl mb lk sq d) 269)).alloc (.cells (Cs nd sl mb lk sq d) 269)) 5 (bv [nd,sl,h,s,j]).toArray).alloc (.cells (bv [sq,d.size]).toArray 5)) af rfl (by simp[maxLen]);have ac:=pL (eN.new (((w.alloc (.cells (Cs nd sl mb lk sq d) 269)).alloc (.cells (Cs nd sl mb lk sq d) 269)).alloc (.cells (bv [nd,sl,h,s,j]).toArray 5)) 5 (bv [sq,d.size]).toArray);simp only[bX] at n1 ac;have hB:=eJ (((((Below.refl w.heap.size w).alloc (ar) (.cells (Cs nd sl mb lk sq d) 269)).alloc ak (.cells (Cs nd sl mb lk sq d) 269)).alloc af (.cells (bv [nd,sl,h,s,j]).toArray 5)).alloc af (.cells (bv [sq,d.size]).toArray 5));have b3:=eJ n1;have bz:=eJ ac;clear n1 ac;have hF:=eJ ((((eN.new w 269 (Cs nd sl mb lk sq d)).alloc (.cells (Cs nd sl mb lk sq d) 269)).alloc (.cells (bv [nd,sl,h,s,j]).toArray 5)).alloc (.cells (bv [sq,d.size]).toArray 5));go_wp2_with (first|(at_builtin;(refine bD _ rfl (.tmp 31) (.tmp 39) _ rfl w.heap.size 5 i0 _ 1 1 underlying40 hi U T aa rfl aj (.slice (some ⟨w.heap.size+1+1,0,none⟩) 5 5) 5 (bv [nd,sl,h,s,j]) rfl (by exact b3.out) ⟨w.heap.size+1+1+1,0,none⟩ 2 2 (bv [sq,d.size]) rfl rfl (by exact bz.out) (Cd _) (by simp[maxLen]) ah af ?_);intro v1 w1 a8 ad _;have Z:=eJ a8;have K:=eJ (hB.out.grown ad af (by intro k hk;simp[Value.ownBlock] at hk;omega));have bk:=(hF.out.grown ad (by simp[Value.ownBlock]<;>omega)).cell 5;simp at bk;clear a8 ad)|(at_builtin;go_must (refine Lib.wpList_append_own_string _ rfl (.tmp 41) (.tmp 43) _ _ rfl w.heap.size 5 i0 underlying40 underlying9 hi U T aa v1 7 (bv [nd,sl,h,s,j]++bv [sq,d.size]) rfl (by exact Z.out) d rfl (by simp[maxLen];omega) ah K.out.size ?_);intro v2 w2 a9 a6 _;have a4:=eJ a9;have bf:=eJ (K.out.grown a6 K.out.size (fun k hk=>(Z.out.lt k hk).1));clear a9 a6 bk));have C:w2.ownsRow w.heap.size 5 1 v2 (7+d.size) (bv ([nd,sl,h,s,j]++[sq,d.size]++dl d)):=by rw[yT,yT,PG];exact a4.out
 have hlen:([nd,sl,h,s,j]++[sq,d.size]++dl d).length=7+d.size:=by simp[qU];omega
 have I: ∀x∈([nd,sl,h,s,j]++[sq,d.size]++dl d),x<256:=by
  intro x z;simp only[bY,bR,cC,ec] at z;obtain⟨E,aA,a3⟩:=X.out;rcases z with (z|z)|z
  ·omega
  ·omega
  ·exact MR d x z
 obtain⟨g,cap,bx,b9,cj,_⟩:=Hp C ah;subst bx;have J:=qa C;obtain⟨bs,al⟩:=ae ([nd,sl,h,s,j]++[sq,d.size]++dl d);rw[<-al] at hlen I J C;have cb:=mH bs I;have ap:ia (xP nd sl mb lk sq (dl d))=bs++[iZ bs/256,iZ bs%256]:=by
  obtain⟨E,aA,a3⟩:=X.out;have:xP nd sl mb lk sq (dl d)=bs:=by rw[al,xP,E,aA,a3,qU];simp
  rw[ia,this]
 rw[<-hlen] at J C⊢;have b6:=eJ J;have bm:=eJ C;have b5:=eJ ap;clear J C ap al a4 Z;have am:=eJ hlen;clear hlen;have b7:=eJ I;clear I;refine(qC _ _ bs _ b6.out b7.out (by have:=am.out;omega)).mono ?_;rintro e w3 ⟨rfl,rfl⟩;generalize cd:iZ bs=c at*;obtain⟨y1,bb⟩: ∃y:Nat,y=c/256:=⟨_,rfl⟩;obtain⟨u,bd⟩: ∃y:Nat,y=c%256:=⟨_,rfl⟩;have cc:(c:Int)/256=(y1:Int):=ah;have ca:IntKind.u8.wrap (c:Int)=(u:Int):=by rw[dp];omega
 have b1:y1<256:=ah;have Y:Hid (y1=c/256/\u=c%256):=⟨bb,bd⟩;clear bb bd;have a0:=bm.out.alloc (.cells (bv [y1,u]).toArray 5);have bj:=pL (eN.new w2 5 (bv [y1,u]).toArray);have a2:=bf.out.alloc bf.out.size (.cells (bv [y1,u]).toArray 5);have bn:=eJ a0;have bw:=eJ bj;have O:=eJ a2;clear a0 bj a2;go_wp2_with (first|(at_builtin;go_must (refine bD _ rfl (.tmp 47) (.tmp 53) _ rfl w.heap.size 5 i0 _ 1 1 underlying40 hi U T aa rfl aj (.slice (some ⟨g,0,none⟩) bs.length cap) bs.length (bv bs) rfl (by exact bn.out) ⟨w2.heap.size,0,none⟩ 2 2 (bv [y1,u]) rfl rfl (by exact bw.out) (Cd _) (by have:=am.out;simp[maxLen];omega) (by have:=am.out;omega) O.out.size ?_);intro v5 w5 a7 be _;have b4:=eJ a7;have bq:=eJ (O.out.grown be O.out.size (by intro k hk;simp[Value.ownBlock] at hk;omega));clear a7 be));go_ret2;refine⟨v5,rfl, ?_,bq.out⟩;obtain⟨bt,E⟩:=Y.out;rw[b5.out,aT,yT,<-bt,<-E];exact b4.out
def zu(nd sl mb:Nat):List Nat:=[nd,sl,mb/256,mb%256,0]
theorem GP(nd sl mb:Nat)(w:World)(h1:nd<16)(h2:sl<32)(h3:mb<65536):Calls prog 178 #[FX nd sl mb (-1) 0 ⟨#[]⟩] w (rP w (ia (zu nd sl mb))):=by
 have aa:tz nd sl mb (-1) 0 (⟨#[]⟩:ByteArray).size=true:=by unfold tz;apply aJ;have:(⟨#[]⟩:ByteArray).size=0:=rfl;omega
 have H:=eJ aa;clear aa;obtain⟨i0,hi,am,al,ap⟩:=info_parts D0;obtain⟨h,Z⟩: ∃x:Nat,x=mb/256:=⟨_,rfl⟩;obtain⟨j,K⟩: ∃x:Nat,x=mb%256:=⟨_,rfl⟩;have bf:(mb:Int)/256=(h:Int):=ah;have a8:IntKind.u8.wrap (mb:Int)=(j:Int):=by rw[dp];omega
 have I:ia (zu nd sl mb)=[nd,sl,h,j,0]++[iZ [nd,sl,h,j,0]/256,iZ [nd,sl,h,j,0]%256]:=by rw[ia,zu,Z,K]
 have b2:h<256:=ah;have C: ∀x∈[nd,sl,h,j,0],x<256:=by intro x aA;simp only[bR,cC,ec] at aA;omega
 clear Z K;have n1:=wi (base:=w.heap.size) (n:=5) (eN.new ((w.alloc (.cells (Cs nd sl mb (-1) 0 ⟨#[]⟩) 269)).alloc (.cells (Cs nd sl mb (-1) 0 ⟨#[]⟩) 269)) 5 (bv [nd,sl,h,j,0]).toArray) af rfl (by simp[maxLen]);simp only[bX] at n1;have hB:=eJ (((((Below.refl w.heap.size w).alloc (ar) (.cells (Cs nd sl mb (-1) 0 ⟨#[]⟩) 269)).alloc ak (.cells (Cs nd sl mb (-1) 0 ⟨#[]⟩) 269)).alloc af (.cells (bv [nd,sl,h,j,0]).toArray 5)));have bb:=mH _ C;have a0:=eJ (qa n1);have a5:=eJ n1;clear n1;have a7:=eJ C;clear C;have a6:=eJ I;clear I;go_enter func178,ntmps178;go_wp2_with fail;refine(oX _ _ _ _ _ _ _ (cT _)).mono ?_;rw[H.out];rintro e w' ⟨rfl,rfl⟩;go_wp2_with fail;refine(qC _ _ [nd,sl,h,j,0] _ (by exact a0.out) a7.out ak).mono ?_;rintro e w3 ⟨rfl,rfl⟩;generalize be:iZ [nd,sl,h,j,0]=c at*;obtain⟨y1,U⟩: ∃y:Nat,y=c/256:=⟨_,rfl⟩;obtain⟨s,T⟩: ∃y:Nat,y=c%256:=⟨_,rfl⟩;have bd:(c:Int)/256=(y1:Int):=ah;have a9:IntKind.u8.wrap (c:Int)=(s:Int):=by rw[dp];omega
 have b1:y1<256:=ah;have Y:Hid (y1=c/256/\s=c%256):=⟨U,T⟩;clear U T;have z:=a5.out.alloc (.cells (bv [y1,s]).toArray 5);have E:=pL (eN.new (((w.alloc (.cells (Cs nd sl mb (-1) 0 ⟨#[]⟩) 269)).alloc (.cells (Cs nd sl mb (-1) 0 ⟨#[]⟩) 269)).alloc (.cells (bv [nd,sl,h,j,0]).toArray 5)) 5 (bv [y1,s]).toArray);simp only[bX] at z E;have J:=hB.out.alloc hB.out.size (.cells (bv [y1,s]).toArray 5);have ad:=eJ z;have a3:=eJ E;have u:=eJ J;clear z E J;go_wp2_with (first|(at_builtin;go_must (refine bD _ rfl (.tmp 47) (.tmp 53) _ rfl w.heap.size 5 i0 _ 1 1 underlying40 hi am al ap rfl aj (.slice (some ⟨w.heap.size+1+1,0,none⟩) 5 5) 5 (bv [nd,sl,h,j,0]) rfl (by exact ad.out) ⟨w.heap.size+1+1+1,0,none⟩ 2 2 (bv [y1,s]) rfl rfl (by exact a3.out) (Cd _) (by simp[maxLen]) ah u.out.size ?_);intro v5 w5 O X _;have a4:=eJ O;have ao:=eJ (u.out.grown X u.out.size (by intro k hk;simp[Value.ownBlock] at hk;omega));clear O X));go_ret2;refine⟨v5,rfl, ?_,ao.out⟩;obtain⟨a2,ac⟩:=Y.out;rw[a6.out,aT,yT,<-a2,<-ac];exact a4.out
def OG(l:List Nat):ByteArray:=strOfNums (l.map fun(x:Nat)=>(x:Int))
theorem Ko(d:ByteArray):OG (dl d)=d:=by
 obtain⟨⟨l⟩⟩:=d;unfold OG dl strOfNums;simp only[eH];congr 2;have:((fun(n:Int)=>UInt8.ofNat n.toNat)∘(fun(x:Nat)=>(x:Int))∘fun (b:UInt8)=>b.toNat)=id:=by funext b;simp
 rw[this,List.map_id]
structure mB where
 nd:Int
 sl:Int
 mb:Int
 lk:Int
 sq:Int
 d:ByteArray
def wO(l:List Nat):mB:=if l.getD 4 0=0 then⟨l.getD 0 0,l.getD 1 0,(l.getD 2 0*256+l.getD 3 0:Nat),(l.getD 4 0:Int)-1,0,⟨#[]⟩⟩ else⟨l.getD 0 0,l.getD 1 0,(l.getD 2 0*256+l.getD 3 0:Nat),(l.getD 4 0:Int)-1,l.getD 5 0,OG ((l.drop 7).take (l.length-9))⟩
def CJ(l:List Nat):Bool:=if l.getD 4 0=0 then decide (l.length=7)&&tz (l.getD 0 0) (l.getD 1 0) (l.getD 2 0*256+l.getD 3 0:Nat) ((l.getD 4 0:Int)-1) 0 0 else decide (l.length=9+l.getD 6 0)&&tz (l.getD 0 0) (l.getD 1 0) (l.getD 2 0*256+l.getD 3 0:Nat) ((l.getD 4 0:Int)-1) (l.getD 5 0) (l.length-9)
def qj(l:List Nat):Bool:=decide (7<=l.length)&&decide (iZ (l.take (l.length-2))=l.getD (l.length-2) 0*256+l.getD (l.length-1) 0)&&CJ l
theorem mr(l:List Nat):(ia l).length=l.length+2:=by simp[ia]
theorem wQ(l:List Nat)(hl: ∀x∈l,x<256):(ia l).take l.length=l/\(ia l).getD l.length 0=iZ l/256/\(ia l).getD (l.length+1) 0=iZ l%256:=by unfold ia;exact⟨List.take_left,by simp[List.getD],by simp[List.getD,List.getElem?_append]⟩
theorem uz(l:List Nat)(hl: ∀x∈l,x<256): ∀x∈ia l,x<256:=by
 have:=mH l hl;intro x e;unfold ia at e;rw[bY] at e;rcases e with e|e
 ·exact hl x e
 ·simp at e;omega
theorem G8(nd sl mb lk sq:Nat)(d:ByteArray)(h1:nd<16)(h2:sl<32)(h3:mb<65536)(h4:lk<8)(h5:sq<256)(h6:d.size<=40): ∀x∈xP nd sl mb lk sq (dl d),x<256:=by
 intro x e;unfold xP at e;rw[bY,bY] at e;rcases e with e|e|e
 ·simp at e;omega
 ·simp[qU] at e;omega
 ·exact MR d x e
theorem Iz(nd sl mb:Nat)(h1:nd<16)(h2:sl<32)(h3:mb<65536): ∀x∈zu nd sl mb,x<256:=by intro x e;unfold zu at e;simp at e;omega
theorem Gm(nd sl mb lk sq:Nat)(d:ByteArray)(h1:nd<16)(h2:sl<32)(h3:mb<65536)(h4:lk<8)(h5:sq<256)(h6:d.size<=40):qj (ia (xP nd sl mb lk sq (dl d)))=true/\wO (ia (xP nd sl mb lk sq (dl d)))=⟨nd,sl,mb,lk,sq,d⟩:=by
 have j:=G8 nd sl mb lk sq d h1 h2 h3 h4 h5 h6;have J:=mH _ j;obtain⟨z,u,s⟩:=wQ _ j;have hlen:(xP nd sl mb lk sq (dl d)).length=7+d.size:=by simp[xP,qU];omega
 have hw:ia (xP nd sl mb lk sq (dl d))=nd::sl::(mb/256)::(mb%256)::(lk+1)::sq::d.size::(dl d++[iZ (xP nd sl mb lk sq (dl d))/256,iZ (xP nd sl mb lk sq (dl d))%256]):=by simp[ia,xP,qU]
 have e:=mr (xP nd sl mb lk sq (dl d));rw[hlen] at e z u s;have mG:=qU d;have h:mb/256*256+mb%256=mb:=ah;refine⟨?_, ?_⟩
 ·unfold qj;rw[e,show 7+d.size+2-2=7+d.size from ah,show 7+d.size+2-1=7+d.size+1 from ah,z,u,s];have E:decide (7<=7+d.size+2)=true:=aJ ah;have C:decide (iZ (xP nd sl mb lk sq (dl d))=iZ (xP nd sl mb lk sq (dl d))/256*256+iZ (xP nd sl mb lk sq (dl d))%256)=true:=aJ ah;rw[E,C];unfold CJ;rw[e,hw];simp only[dR,dS];rw[aI ah,h];have I:decide (7+d.size+2=9+d.size)=true:=aJ ah;rw[I];simp only[Bool.true_and];unfold tz;apply aJ;omega
 ·unfold wO;rw[e,hw];simp only[dR,dS,List.drop_succ_cons,List.drop_zero];rw[aI ah,h,show 7+d.size+2-9=(dl d).length from ah,List.take_left,Ko,show((lk+1:Nat):Int)-1=lk from ah]
theorem Fk(nd sl mb:Nat)(h1:nd<16)(h2:sl<32)(h3:mb<65536):qj (ia (zu nd sl mb))=true/\wO (ia (zu nd sl mb))=⟨nd,sl,mb,-1,0,⟨#[]⟩⟩:=by
 have j:=Iz nd sl mb h1 h2 h3;have s:=mH _ j;have hw:ia (zu nd sl mb)=[nd,sl,mb/256,mb%256,0,iZ (zu nd sl mb)/256,iZ (zu nd sl mb)%256]:=by simp[ia,zu]
 have e:mb/256*256+mb%256=mb:=ah;refine⟨?_, ?_⟩
 ·unfold qj CJ;rw[hw];have h:decide (iZ ([nd,sl,mb/256,mb%256,0,iZ (zu nd sl mb)/256,iZ (zu nd sl mb)%256].take 5)=iZ (zu nd sl mb)/256*256+iZ (zu nd sl mb)%256)=true:=by apply aJ;show iZ (zu nd sl mb)=_;omega
  simp only[aP,bh,dR,dS];rw[show(0+1+1+1+1+1+1+1-2)=5 from rfl,h,aM trivial,e];unfold tz;simp;omega
 ·unfold wO;rw[hw];simp only[dR,dS];rw[aM trivial,e];rfl
theorem C4(k y:Nat)(hk:k<=8)(h:y<256):tN k y=y*2^k:=by induction k with|zero=>simp[tN]|succ k e=>have h1:=e ah;have hp:2^k<=128:=aX (n:=2) (j:=7) ah ah;have s:y*2^k<32768:=cO (Nat.mul_le_mul (Nat.le_of_lt_succ h) hp) ah;rw[tN,h1,zS,aI ah,Nat.pow_succ,<-Nat.mul_assoc y,Nat.mul_comm]
theorem JW(k:Nat):tN k 0=0:=by induction k with|zero=>rfl|succ k e=>rw[tN,e];rfl
theorem CT (s:Nat):s^^^(s/256*256)=s%256:=by
 have h:s/256*256+s%256=s:=ah
 have e:=Nat.shiftLeft_add_eq_or_of_lt (show s%256<2^8 from ah) (s/256)
 rw[Nat.shiftLeft_eq,show(2:Nat)^8=256 from rfl,h] at e
 have h2:(s/256*256)^^^(s%256)=s:=by
  apply du
  intro j
  rw[Nat.testBit_xor]
  have u:s.testBit j=((s/256*256).testBit j||(s%256).testBit j):=by
   conv=>lhs;rw[e]
   rw[dU]
  rw[u,show(256:Nat)=2^8 from rfl,Nat.testBit_mul_two_pow,Nat.testBit_mod_two_pow]
  by_cases h8:8≤j
  ·have: ¬j<8:=ah
   simp[h8,this]
  ·have:j<8:=ah
   simp[h8,this]
 conv=>lhs;arg 1;rw[←h2]
 rw[Nat.xor_comm,←Nat.xor_assoc,Nat.xor_self,Nat.zero_xor]
theorem Dt(l:List Nat)(x y:Nat)(s:x<256)(j:y<256)(h:iZ l=x*256+y):iZ (l++[x,y])=0:=by unfold iZ at h⊢;rw[List.foldl_append,h,List.foldl_cons,List.foldl_cons,List.foldl_nil];have e:=CT (x*256+y);rw[show(x*256+y)/256=x from ah,show(x*256+y)%256=y from ah] at e;unfold BU;rw[e,C4 8 y ah j,show(2:Nat)^8=256 from rfl,Nat.xor_self,JW]
structure Hn (w:World) (base g cap:Nat) (l:List Nat):Prop where
 eW: ∃cur,eN w g 5 cur∧cur.size=cap∧cur.toList.take l.length=bv l
 NN:cap≤9223372036854775807
 OM:l.length≤cap
 lo:base≤g
theorem Hn.bytes{w:World}{base g cap:Nat}{l:List Nat}(h:Hn w base g cap l):gh w (some ⟨g,0,none⟩) l.length l:=by
 obtain⟨cur,u,hs,s⟩:=h.eW;intro j e;refine⟨g,0,rfl, ?_⟩;rw[u.cell];have h1:cur.toList[j]? =(cur.toList.take l.length)[j]? :=by rw[dQ e]
 have h2:cur[j+0]? =cur.toList[j]? :=ak;rw[show 0+j=j+0 from ah,h2,h1,s];unfold bv;rw[bp,List.getD,aF e];rfl
theorem Hn.lt{w:World}{base g cap:Nat}{l:List Nat}(h:Hn w base g cap l):g<w.heap.size:=by obtain⟨cur,e,_⟩:=h.eW;exact e.lt
theorem rP.open{w w':World}{l:List Nat}{e:Ending}(h:rP w l e w')(h0:0<l.length): ∃g cap,e=.returned (.tuple #[.slice (some ⟨g,0,none⟩) l.length cap,.nilIface])/\Hn w' w.heap.size g cap l/\Below w.heap.size w w':=by
 obtain⟨v,he,j,hB⟩:=h;have hlen:=j.1;rcases j.2 with ⟨_,E⟩|⟨g,cap,cur,s,z,C,hn,hm,hs,u⟩
 ·omega
 ·subst s;exact⟨g,cap,he,⟨⟨cur,C,ah,by simpa using u⟩,by unfold maxLen at hm;omega,hn,z⟩,hB⟩
theorem IZ(nd sl mb lk sq:Int)(d:ByteArray)(h:tz nd sl mb lk sq d.size=true): ∃l:List Nat,(∀w,Calls prog 178 #[FX nd sl mb lk sq d] w (rP w l))/\(∀x∈l,x<256)/\7<=l.length/\l.length<=49/\qj l=true/\wO l=⟨nd,sl,mb,lk,sq,d⟩/\iZ l=0:=by
 unfold tz at h;have h:=dv h;obtain⟨⟨a1,a2,a3,a4,a5,K⟩,z⟩:=h;obtain⟨nd,rfl⟩:=aZ a1;obtain⟨sl,rfl⟩:=aZ a3;obtain⟨mb,rfl⟩:=aZ a5;rcases z with ⟨rfl,rfl,I⟩|⟨b1,b2,C,J,j⟩
 ·obtain rfl:=size_empty I;have e:=Iz nd sl mb ah ah ah;have E:=mH _ e;obtain⟨u,s⟩:=Fk nd sl mb ah ah ah;refine⟨_,fun w=>GP nd sl mb w ah ah ah,uz _ e,by simp[mr,zu],by simp[mr,zu],u,s, ?_⟩;exact Dt _ _ _ ah ah ah
 ·obtain⟨lk,rfl⟩:=aZ b1;obtain⟨sq,rfl⟩:=aZ C;have e:=G8 nd sl mb lk sq d ah ah ah ah ah j;have E:=mH _ e;obtain⟨u,s⟩:=Gm nd sl mb lk sq d ah ah ah ah ah j;refine⟨_,fun w=>Jz nd sl mb lk sq d w ah ah ah ah ah j,uz _ e,by simp only[mr,xP,aT,aP,bh];omega,by simp only[mr,xP,aT,aP,bh,qU];omega,u,s, ?_⟩;exact Dt _ _ _ ah ah ah
end Go.Proofs.YtideefjnlakciaaGreatDoor
namespace Go.Proofs
open Go.RowKit Go.Proofs.Tryz Go.Proofs.YtideefjnlakciaaGreatDoor
open Go.RowKit Go.Proofs.Tryz Go.Proofs.YtideefjnlakciaaGreatDoor
open Go.Shelf
def xB:Go.Shelf.Ren:=⟨fun|6=>136|8=>171|9=>122|11=>198|13=>163|12=>162|23=>196|24=>158|14=>187|15=>188|16=>189|17=>190|18=>191|19=>192|20=>193|21=>194|22=>195|25=>209|26=>210|27=>211|28=>212|29=>213|30=>214|31=>216|n=>n,fun|26=>3|28=>215|24=>33|0=>0|3=>3|37=>188|48=>250|50=>185|4=>4|40=>296|39=>295|45=>62|5=>5|9=>9|51=>316|55=>320|57=>323|58=>324|33=>138|n=>n,fun|n=>n⟩
theorem PA:Go.Proofs.SlLaysZI.n6 prog xB:={mixed:=ai,f6:=⟨f136.name,aj,func136.trans (aO some ai)⟩,f8:=⟨f171.name,aj,func171.trans (aO some ai)⟩,f11:=⟨f198.name,aj,func198.trans (aO some ai)⟩,t0:=underlying0,a0:=isAgg0,z0:=sizeOf0,v0:=zeroValue0,t24:=underlying33,a24:=isAgg33,z24:=sizeOf33,v24:=zeroValue33,t26:=underlying3,a26:=isAgg3,z26:=sizeOf3,v26:=zeroValue3,t28:=underlying215,a28:=isAgg215,z28:=sizeOf215,v28:=zeroValue215,i26:=ai}
def FV:Go.Shelf.Ren:=⟨fun|5=>122|8=>163|7=>162|19=>196|20=>158|10=>187|11=>188|12=>189|13=>190|14=>191|15=>192|16=>193|17=>194|18=>195|30=>209|31=>210|32=>211|33=>212|34=>213|35=>214|40=>216|n=>n,fun|23=>33|25=>3|3=>3|32=>188|22=>33|0=>0|44=>250|46=>185|4=>4|36=>296|35=>295|41=>62|5=>5|9=>9|53=>316|57=>320|63=>323|64=>324|n=>n,fun|n=>n⟩
theorem Ng:Go.Proofs.SlLaysM.n5 prog FV:={mixed:=ai,f5:=⟨f122.name,aj,func122.trans (aO some ai)⟩,f7:=⟨f162.name,aj,func162.trans (aO some ai)⟩,f8:=func163.trans (aO some ai),f10:=⟨f187.name,aj,func187.trans (aO some ai)⟩,f11:=⟨f188.name,aj,func188.trans (aO some ai)⟩,f12:=⟨f189.name,aj,func189.trans (aO some ai)⟩,f13:=⟨f190.name,aj,func190.trans (aO some ai)⟩,f14:=⟨f191.name,aj,func191.trans (aO some ai)⟩,f15:=⟨f192.name,aj,func192.trans (aO some ai)⟩,f16:=⟨f193.name,aj,func193.trans (aO some ai)⟩,f17:=⟨f194.name,aj,func194.trans (aO some ai)⟩,f18:=⟨f195.name,aj,func195.trans (aO some ai)⟩,f19:=func196.trans (aO some ai),f20:=func158.trans (aO some ai),f30:=⟨f209.name,aj,func209.trans (aO some ai)⟩,f31:=func210.trans (aO some ai),f32:=func211.trans (aO some ai),f33:=⟨f212.name,aj,func212.trans (aO some ai)⟩,f34:=⟨f213.name,aj,func213.trans (aO some ai)⟩,f35:=⟨f214.name,aj,func214.trans (aO some ai)⟩,f40:=⟨f216.name,aj,func216.trans (aO some ai)⟩,t0:=underlying0,a0:=isAgg0,z0:=sizeOf0,v0:=zeroValue0,t3:=underlying3,a3:=isAgg3,z3:=sizeOf3,v3:=zeroValue3,t4:=underlying4,a4:=isAgg4,z4:=sizeOf4,v4:=zeroValue4,t5:=underlying5,a5:=isAgg5,z5:=sizeOf5,v5:=zeroValue5,t9:=underlying9,a9:=isAgg9,z9:=sizeOf9,v9:=zeroValue9,t22:=underlying33,a22:=isAgg33,z22:=sizeOf33,v22:=zeroValue33,t23:=underlying33,a23:=isAgg33,z23:=sizeOf33,v23:=zeroValue33,t25:=underlying3,a25:=isAgg3,z25:=sizeOf3,v25:=zeroValue3,t32:=underlying188,a32:=isAgg188,z32:=sizeOf188,v32:=zeroValue188,t35:=underlying295,a35:=isAgg295,z35:=sizeOf295,v35:=zeroValue295,t36:=underlying296,a36:=isAgg296,z36:=sizeOf296,v36:=zeroValue296,t41:=underlying62,a41:=isAgg62,z41:=sizeOf62,v41:=zeroValue62,t44:=underlying250,a44:=isAgg250,z44:=sizeOf250,v44:=zeroValue250,t46:=underlying185,a46:=isAgg185,z46:=sizeOf185,v46:=zeroValue185,t53:=underlying316,a53:=isAgg316,z53:=sizeOf316,v53:=zeroValue316,t57:=underlying320,a57:=isAgg320,z57:=sizeOf320,v57:=zeroValue320,t63:=underlying323,a63:=isAgg323,z63:=sizeOf323,v63:=zeroValue323,t64:=underlying324,a64:=isAgg324,z64:=sizeOf324,v64:=zeroValue324}
def EY:Go.Shelf.Ren:=⟨fun|191=>86|189=>122|125=>163|257=>162|128=>196|129=>158|294=>187|295=>188|296=>189|297=>190|298=>191|299=>192|216=>193|300=>194|301=>195|328=>209|329=>210|330=>211|331=>212|332=>213|215=>214|343=>216|n=>n,fun|28=>33|0=>0|3=>3|46=>188|51=>250|53=>185|4=>4|183=>296|182=>295|131=>62|5=>5|9=>9|218=>316|222=>320|228=>323|229=>324|n=>n,fun|n=>n⟩
theorem P3:Go.Proofs.Lays.n191 prog EY:={mixed:=ai,f125:=func163.trans (aO some ai),f128:=func196.trans (aO some ai),f129:=func158.trans (aO some ai),f189:=func122.trans (aO some ai),f191:=func86.trans (aO some ai),f215:=func214.trans (aO some ai),f216:=func193.trans (aO some ai),f257:=func162.trans (aO some ai),f294:=func187.trans (aO some ai),f295:=func188.trans (aO some ai),f296:=func189.trans (aO some ai),f297:=func190.trans (aO some ai),f298:=func191.trans (aO some ai),f299:=func192.trans (aO some ai),f300:=func194.trans (aO some ai),f301:=func195.trans (aO some ai),f328:=func209.trans (aO some ai),f329:=func210.trans (aO some ai),f330:=func211.trans (aO some ai),f331:=func212.trans (aO some ai),f332:=func213.trans (aO some ai),f343:=func216.trans (aO some ai),t0:=underlying0,a0:=isAgg0,z0:=sizeOf0,v0:=zeroValue0,t3:=underlying3,a3:=isAgg3,z3:=sizeOf3,v3:=zeroValue3,t4:=underlying4,a4:=isAgg4,z4:=sizeOf4,v4:=zeroValue4,t5:=underlying5,a5:=isAgg5,z5:=sizeOf5,v5:=zeroValue5,t9:=underlying9,a9:=isAgg9,z9:=sizeOf9,v9:=zeroValue9,t28:=underlying33,a28:=isAgg33,z28:=sizeOf33,v28:=zeroValue33,t46:=underlying188,a46:=isAgg188,z46:=sizeOf188,v46:=zeroValue188,t51:=underlying250,a51:=isAgg250,z51:=sizeOf250,v51:=zeroValue250,t53:=underlying185,a53:=isAgg185,z53:=sizeOf185,v53:=zeroValue185,t131:=underlying62,a131:=isAgg62,z131:=sizeOf62,v131:=zeroValue62,t182:=underlying295,a182:=isAgg295,z182:=sizeOf295,v182:=zeroValue295,t183:=underlying296,a183:=isAgg296,z183:=sizeOf296,v183:=zeroValue296,t218:=underlying316,a218:=isAgg316,z218:=sizeOf316,v218:=zeroValue316,t222:=underlying320,a222:=isAgg320,z222:=sizeOf320,v222:=zeroValue320,t228:=underlying323,a228:=isAgg323,z228:=sizeOf323,v228:=zeroValue323,t229:=underlying324,a229:=isAgg324,z229:=sizeOf324,v229:=zeroValue324}
end Go.Proofs
namespace Go.Proofs.YtideefjnlakciaaGreatDoor
open Go.RowKit Go.Proofs.Tryz
open Go.RowKit Go.Proofs.Tryz
section
open Go.Maps Go.Sort Go.Shelf
variable {P:Program}{ρ:Ren}
def lM{α:Type}(F:Fence)(n:Nat)(P:Program)(g:Nat)(lb:Array Value)(enc:α->Value)(S:List α->Prop)(N:Nat)(w:World):Prop:= ∀(l:Nat)(h:List α->World->Prop)(W:World),Below w.heap.size w W->AbidesFrom W.heap.size h->(∀s W1,h s W1->Below w.heap.size w W1)->(∀pre x W1,h pre W1->pre.length<N->YieldAt F (n-1) P l #[enc x] W1 fun e j=>e=.returned (.bool true)/\h (pre++[x]) j/\KeepsWalks W1 j)->h [] W->CallsIn F n P g (#[.func (.yield l) #[] #[]]++lb) W fun e j=>(∃v,e=.returned v)/\∃xs,S xs/\h xs j
theorem lM.bounded{α:Type}{F:Fence}{n:Nat}{P:Program}{g:Nat}{lb:Array Value}{enc:α->Value}{S:List α->Prop}{N:Nat}{w:World}(h:lM F n P g lb enc S N w):lM F n P g lb enc (fun xs=>S xs/\xs.length<=N) N w:=fun l E W K z hB J h0=>by refine(h l (fun xs u=>E xs u/\xs.length<=N) W K (fun s A B row hs T j=>⟨z s A B row hs.1 T j,hs.2⟩) (fun s W1 hs=>hB s W1 hs.1) (fun pre x W1 O hl=>(J pre x W1 O.1 hl).mono (fun e w' j=>⟨j.1,⟨j.2.1,ag⟩,j.2.2⟩)) ⟨h0,cT _⟩).mono ?_;rintro e u ⟨I,xs,C,U,hlen⟩;exact⟨I,xs,⟨C,hlen⟩,U⟩
theorem Ba(L:SlLaysZI.n11 P ρ)(F:Fence)(n:Nat)(h11:F.fn (ρ.f 11))(X:F.round=none)(hn:2<=n)(g:Nat)(lb:Array Value)(a3:F.fn g)(a4: ∀args w,(callFunc g args).run P w=.ok (.enter g args) w)(S:List Int->Prop)(N:Nat)(am:N<=maxLen)(aA:N*8<=140737488355328)(w:World)(ao:lM F (n-1) P g lb encZ S N w):CallsIn F n P (ρ.f 11) #[.slice none 0 0,.func (.func g) #[] lb] w fun e w'=> ∃(v:Value) (j:List Int),e=.returned v/\S j/\w'.ownsRow w.heap.size (ρ.t 26) 1 v j.length (j.map encZ)/\(v=.slice none 0 0↔j=[])/\Below w.heap.size w w':=by
 have h1:1<=n:=ah;have mixed:=L.mixed;have t0:=L.t0;have a0:=L.a0;have z0:=L.z0;have v0:=L.v0;have t24:=L.t24;have a24:=L.a24;have z24:=L.z24;have v24:=L.v24;have t26:=L.t26;have a26:=L.a26;have z26:=L.z26;have v26:=L.v26;have t28:=L.t28;have a28:=L.a28;have z28:=L.z28;have v28:=L.v28;have O:ρ.t 24≠ρ.t 26:=fun e=>by have h:=L.t24;rw[e,L.t26] at h;cases h
 have u0:=bK L.t0;have u24:=bK L.t24;have u26:=bK L.t26;have u28:=bK L.t28;obtain⟨_,_,a8⟩:=L.f11;refine callsIn_of_wp_marks a8 rfl h11 ?_ X;simp only[SlBodyZ.n11_ntmps ρ,ba,aP,bh,Nat.reduceAdd,Nat.reduceSub,cN,cM,db,cU,bQ,bE];gi_wp2;refine wpIn_rangeFunc ?_;intro fn ad;rw[X];obtain⟨W0,C⟩:=ab (w.alloc (.cells #[.slice none 0 0] (ρ.t 24)));have a7:W0.heap.size=w.heap.size+1:=by rw[<-C];simp
 have a9:W0.heap[w.heap.size]? =some (.cells #[.slice none 0 0] (ρ.t 24) (0,0)):=by rw[<-C];exact World.alloc_heap_new w _
 have E:Below w.heap.size w W0:=by rw[<-C];exact(Below.refl _ w).alloc (ar) _
 rw[C];obtain⟨W1,u⟩:=ab ((W0.alloc (.deferred (some []))).alloc (.loop (AnyZI.apRec ρ fn (.func (.func g) #[] lb) w.heap.size W0.heap.size .ready none)));have hold: ∀k,k<W0.heap.size->W1.heap[k]? =W0.heap[k]? :=fun k hk=>by rw[<-u];exact(bu _ _ k ag).trans (bu _ _ k hk)
 have I:Below w.heap.size w W1:=by rw[<-u];exact(E.alloc E.size _).alloc (by have:=E.size;simp;omega) _
 have bb:W1.heap.size=W0.heap.size+2:=by rw[<-u];simp
 have hM:AnyZI.ApAt ρ w fn (.func (.func g) #[] lb) w.heap.size (W0.heap.size+1) W0.heap.size [] W1:=⟨⟨_,(hold w.heap.size ah).trans a9,⟨rfl,.inl ⟨rfl,rfl⟩⟩,ak⟩,by rw[<-u];have:=World.alloc_heap_new (W0.alloc (.deferred (some []))) (.loop (AnyZI.apRec ρ fn (.func (.func g) #[] lb) w.heap.size W0.heap.size .ready none));rwa[bX] at this,by rw[<-u];exact(bu _ _ _ ak).trans (World.alloc_heap_new W0 _),I⟩;refine⟨W0.heap.size+1,[{target:=.collected W0.heap.size,args:= #[]}],W1,{target:=.fn (.func g) lb,args:= #[.func (.yield (W0.heap.size+1)) #[] #[]]},W1,g, #[.func (.yield (W0.heap.size+1)) #[] #[]]++lb,W1, ?_, ?_, ?_, ?_,fun _=>h1, ?_⟩
 ·rw[<-u];exact run_enterLoop_outer _ _ _ _ _
 ·simp[resolve,go_sem]
 ·intro f' Y;simp[Target.leads] at Y;subst Y;exact a3
 ·simp[invoke,go_sem,a4]
 ·refine(ao (W0.heap.size+1) (AnyZI.ApAt ρ w fn (.func (.func g) #[] lb) w.heap.size (W0.heap.size+1) W0.heap.size) W1 I (AnyZI.ap_abides ρ _ _ _ _ _ _ _ I.size) (fun s W h=>h.below) (fun pre x W ap hl=>AnyZI.apYield {L with} F (n-1-1) w fn ad _ w.heap.size (W0.heap.size+1) W0.heap.size ah ah ah (ar) ah N am aA pre x W ap hl) hM).mono ?_;rintro e W2 ⟨⟨v0,rfl⟩,j,al,h2⟩;obtain⟨v,a6,ac,a2⟩:=h2.box;have U:=run_endLoop (P:=P) h2.L (by simp[AnyZI.apRec]);obtain⟨W3,z⟩: ∃W3,W2.putObj (W0.heap.size+1) (.loop {AnyZI.apRec ρ fn (.func (.func g) #[] lb) w.heap.size W0.heap.size .ready none with state:=.exhausted})=W3:=⟨_,rfl⟩;rw[z] at U;have Z:W2.grownBy W3 (some (W0.heap.size+1)):=by rw[<-z];exact grownBy_putObj_a _ _ _
  have a5:W3.heap[w.heap.size]? =some (.cells #[v] (ρ.t 24) (0,0)):=by rw[<-z];exact(World.putObj_heap_other ah).trans a6
  have T:W3.heap[W0.heap.size]? =some (.deferred (some [])):=by rw[<-z];exact(World.putObj_heap_other ah).trans h2.K
  have J:=ac.kept Z (ownsRow_ne_a ac h2.L (fun cur e=>by first|cases e|exact O (Obj.cells.inj e).2.1));have aa:Below w.heap.size w W3:=h2.below.grown Z h2.below.size (fun k e=>by cases e;omega);obtain⟨be,bd⟩:=cell_of_box_a a5;clear z;refine⟨none,W3,U, ?_⟩;gi_wp2;rw[<-a7];refine⟨ak,.inl ⟨_,_,rfl,run_takeDeferred T, ?_⟩⟩;exact⟨_,results_tmp rfl _ _ _,v,j,rfl,al,J.kept (grownBy_putObj_a _ _ _) (ownsRow_ne_a J T (fun cur e=>by first|cases e|exact O (Obj.cells.inj e).2.1)),a2,aa.grown (grownBy_putObj_a _ _ _) aa.size (fun k e=>by cases e;omega)⟩
theorem Gf(L:SlLaysZI.n8 P ρ)(F:Fence)(n:Nat)(h8:F.fn (ρ.f 8))(h11:F.fn (ρ.f 11))(j:F.round=none)(hn:3<=n)(g:Nat)(lb:Array Value)(J:F.fn g)(u: ∀args w,(callFunc g args).run P w=.ok (.enter g args) w)(S:List Int->Prop)(N:Nat)(K:N<=maxLen)(C:N*8<=140737488355328)(w:World)(s:lM F (n-1-1) P g lb encZ S N w):CallsIn F n P (ρ.f 8) #[.func (.func g) #[] lb] w fun e w'=> ∃(v:Value) (h:List Int),e=.returned v/\S h/\w'.ownsRow w.heap.size (ρ.t 26) 1 v h.length (h.map encZ)/\(v=.slice none 0 0↔h=[])/\Below w.heap.size w w':=by have h1:1<=n:=ah;have Q8: ∀args w,(callFunc (ρ.f 11) args).run P w=.ok (.enter (ρ.f 11) args) w:=L.f11.enters rfl;have mixed:=L.mixed;have t0:=L.t0;have a0:=L.a0;have z0:=L.z0;have v0:=L.v0;have t24:=L.t24;have a24:=L.a24;have z24:=L.z24;have v24:=L.v24;have t26:=L.t26;have a26:=L.a26;have z26:=L.z26;have v26:=L.v26;have t28:=L.t28;have a28:=L.a28;have z28:=L.z28;have v28:=L.v28;have u0:=bK L.t0;have u24:=bK L.t24;have u26:=bK L.t26;have u28:=bK L.t28;obtain⟨_,_,O⟩:=L.f8;refine callsIn_of_wp O rfl h8 ?_ j;simp only[SlBodyZ.n8_ntmps ρ,ba,aP,bh,Nat.reduceAdd,Nat.reduceSub,cN,cM,db,cU,bQ,bE];gi_wp2_with (gi_at_fn (ρ.f 11);refine(Ba {L with} F (n-1) h11 j ah g lb J u S N K C _ s).mono ?_;rintro e w' ⟨v,h,rfl,z,T,I,E⟩);go_ret;exact⟨v,h,rfl,z,T,I,E⟩
theorem JB(L:SlLaysZI.n6 P ρ)(F:Fence)(n:Nat)(h6:F.fn (ρ.f 6))(h8:F.fn (ρ.f 8))(h9:F.fn (ρ.f 9))(h11:F.fn (ρ.f 11))(I:F.round=none)(hn:4<=n)(z:AnyZI.SortsIn P ρ F (n-1))(a7: ∀args w,(callFunc (ρ.f 9) args).run P w=.ok (.enter (ρ.f 9) args) w)(g:Nat)(lb:Array Value)(am:F.fn g)(aA: ∀args w,(callFunc g args).run P w=.ok (.enter g args) w)(S:List Int->Prop)(N:Nat)(T:N<=maxLen)(aa:N*8<=140737488355328)(w:World)(Y:lM F (n-1-1-1) P g lb encZ S N w):CallsIn F n P (ρ.f 6) #[.func (.func g) #[] lb] w fun e w'=> ∃(v:Value) (h:List Int),e=.returned v/\S h/\w'.ownsRow w.heap.size (ρ.t 26) 1 v h.length ((h.mergeSort (fun x y=>decide (x<=y))).map encZ)/\(v=.slice none 0 0↔h=[])/\Below w.heap.size w w':=by
 have h1:1<=n:=ah;have a5: ∀args w,(callFunc (ρ.f 8) args).run P w=.ok (.enter (ρ.f 8) args) w:=L.f8.enters rfl;have mixed:=L.mixed;have t0:=L.t0;have a0:=L.a0;have z0:=L.z0;have v0:=L.v0;have t24:=L.t24;have a24:=L.a24;have z24:=L.z24;have v24:=L.v24;have t26:=L.t26;have a26:=L.a26;have z26:=L.z26;have v26:=L.v26;have t28:=L.t28;have a28:=L.a28;have z28:=L.z28;have v28:=L.v28;have u0:=bK L.t0;have u24:=bK L.t24;have u26:=bK L.t26;have u28:=bK L.t28;obtain⟨_,_,a4⟩:=L.f6;refine callsIn_of_wp a4 rfl h6 ?_ I;simp only[SlBodyZ.n6_ntmps ρ,ba,aP,bh,Nat.reduceAdd,Nat.reduceSub,cN,cM,db,cU,bQ,bE];gi_wp2_with (gi_at_fn (ρ.f 8);refine(Gf {L with} F (n-1) h8 h11 I ah g lb am aA _ N T aa _ Y.bounded).mono ?_;rintro e W ⟨v,h,rfl,⟨C,hlen⟩,J,ad,u⟩);rcases J.2 with ⟨rfl,X⟩|⟨gb,cap,cur,rfl,E,s,O,ap,K,a2⟩
 ·have Z:h=[]:=bN X;subst Z;gi_wp2_with (gi_at_fn (ρ.f 9);refine(z.2 none 0 W).mono ?_;rintro e w' ⟨rfl,rfl⟩);go_ret;exact⟨.slice none 0 0,[],rfl,C,by simpa using J,ak,u⟩
 ·have U:Holds encZ W gb 0 h.toArray:=holds_of_block_i s (by simpa using a2);have a3:gb<W.heap.size:=(aS.1 s).1;have ac:h.length<4611686018427387904:=ah;have ao:=z.1 gb 0 cap h W U a3 ac;gi_wp2_with (gi_at_fn (ρ.f 9);refine ao.mono ?_;rintro e w' ⟨rfl,a6,os,rfl⟩);go_ret;exact⟨_,h,rfl,C,ownsRow_sorted_i ak E s O ap K,ad,u.grown (grownBy_sorted_i _) u.size (fun j al=>by cases al;exact E)⟩
end
def xW(l:List Int):List Int:=l.mergeSort (fun a b=>decide (a<=b))
theorem Ag(l:List Int):(xW l).Perm l:=List.mergeSort_perm _ _
theorem zk(l:List Int):(xW l).length=l.length:=(Ag l).length_eq
def jE(z:Int):Bool:=decide (z< -1099511627776)||decide (1099511627776<z)
def lL(l:List Int)(f:Int):Int:=if f<0\/(l.length:Int)<2*f+1 then 1 else if l.any jE=true then 2 else 0
def wY(l:List Int)(f:Nat):Int:=((xW l).getD f 0+(xW l).getD (l.length-1-f) 0)/2
def ly(l:List Int)(f:Int):Int:=if lL l f=0 then wY l f.toNat else 0
section
variable {n f:Nat}{fe:Nat->Bool}{r:Nat->Int}
end
section
open Go.Maps Go.Sort Go.Shelf
def kY(w:World)(A:Option Addr)(zs:List Int):Prop:= ∀j,j<zs.length->∃b off,A=some ⟨b,off,none⟩/\w.cell? ⟨b,off+j,none⟩=some (.int .i64 (zs.getD j 0))
theorem kY.below{B:Nat}{w w':World}{A:Option Addr}{zs:List Int}(h:kY w A zs)(hw:w.heap.size<=B)(hB:Below B w w'):kY w' A zs:=fun j u=>by obtain⟨b,off,e,s⟩:=h j u;exact⟨b,off,e,(hB.cell (p:=⟨b,off+j,none⟩) (aN (aG _ _ s) hw)).trans s⟩
theorem Gp(A:Option Addr)(n c:Nat)(w:World):Calls prog 137 #[.slice A n c] w fun e w'=>e=.returned (.func (.func 172) #[] #[.pointer (some ⟨w.heap.size,0,none⟩)])/\w'=w.alloc (.cells #[.slice A n c] 33):=by go_enter func137,ntmps137;go_wp2_with fail;go_ret;exact⟨rfl,rfl⟩
attribute [local go_sem] Oper.semAt_some
theorem BW(F:Fence)(n:Nat)(h:F.fn 172)(Z:F.round=none)(hn:1<=n)(j:Nat)(A:Option Addr)(cap:Nat)(zs:List Int)(w:World)(am:zs.length<=9223372036854775807)(aa:j<w.heap.size)(K:w.cell? ⟨j,0,none⟩=some (.slice A zs.length cap))(C:kY w A zs):lM F n prog 172 #[.pointer (some ⟨j,0,none⟩)] encZ (fun T=>T=zs) zs.length w:=fun l O W ac _ I X h0=>by
 have ap:W.cell? ⟨j,0,none⟩=some (.slice A zs.length cap):=(ac.cell (p:=⟨j,0,none⟩) aa).trans K;show CallsIn F n prog 172 #[.func (.yield l) #[] #[],.pointer (some ⟨j,0,none⟩)] W _;refine callsIn_of_wp func172 rfl h ?_ Z;simp only[ntmps172,ba,aP,bh,Nat.reduceAdd,Nat.reduceSub,cN,cM,db,cU,bQ,bE];gi_wp2;gi_loopw [7] (fun i wr=> ∃k:Nat,k<=zs.length/\i=.int .i64 k/\O (zs.take k) wr) (fun i _=>zs.length-(intOf i).toNat);case atStart=>exact⟨0,cT _,rfl,by simpa using h0⟩
 case round=>
  obtain⟨k,hk,rfl,z⟩:=hrel;by_cases s:k<zs.length
  ·obtain⟨b,off,rfl,u⟩:=C k s;have U:=((I _ _ z).cell (p:=⟨b,off+k,none⟩) (aG _ _ u)).trans u;have a0:(k:Int)<(zs.length:Int):=ah;have e:zs.take (k+1)=zs.take k++[zs.getD k 0]:=by rw[cE];simp[List.getD,aF s]
   have E:=eJ s;clear s;obtain⟨x,J⟩:=ab (zs.getD k 0);rw[J] at e U;have al:=eJ e;obtain⟨fn,tmps,assign,body,ao,ad⟩:=X _ x wr z (by have:=E.out;simp;omega);clear C K I e J u;gi_wp2;refine ad.mono ?_;rintro e W3 ⟨rfl,Y,aA⟩;gi_wp2;go_roundw;case rel=>exact⟨k+1,by have:=E.out;omega,ak,by rw[al.out];exact Y⟩
   case measure=>simp[intOf];omega
  ·obtain rfl:k=zs.length:=ah;gi_wp2;go_end0;exact⟨⟨_,rfl⟩,_,rfl,by simpa using z⟩
theorem Mj(m:Nat):AnyZI.SortsIn prog xB Fence.wide m:=⟨fun eW off cap s W j h e=>df.2 (AnyM.slices_Sort_int Ng eW off cap s W j h e),fun p cap W=>df.2 (AnyM.slices_Sort_int_none Ng p cap W)⟩
theorem Fj(A:Option Addr)(cap:Nat)(zs:List Int)(w:World)(E:zs.length<=100000)(u:kY w A zs):Calls prog 136 #[.func (.func 172) #[] #[.pointer (some ⟨w.heap.size,0,none⟩)]] (w.alloc (.cells #[.slice A zs.length cap] 33)) fun e w'=> ∃v,e=.returned v/\w'.ownsRow (w.heap.size+1) 3 1 v zs.length ((xW zs).map (Value.int .i64))/\Below w.heap.size w w':=by refine(df (n:=5)).1 ?_;have h:Below w.heap.size w (w.alloc (.cells #[.slice A zs.length cap] 33)):=(Below.refl _ w).alloc (ar) _;have s:=BW Fence.wide 2 trivial rfl ah w.heap.size A cap zs (w.alloc (.cells #[.slice A zs.length cap] 33)) ah ak (eN.new w 33 #[.slice A zs.length cap]).cells1.1 (u.below (ar) h);have C:=JB PA Fence.wide 5 trivial trivial trivial trivial rfl ah (Mj _) (enters_of func122 ai rfl) 172 #[.pointer (some ⟨w.heap.size,0,none⟩)] trivial (enters_of func172 ai rfl) _ _ (by unfold maxLen;omega) ah _ s;refine C.mono ?_;rintro e w' ⟨v,z,rfl,rfl,j,-,hB⟩;refine⟨v,rfl, ?_,h.trans (hB.mono ak)⟩;have:(w.alloc (.cells #[.slice A z.length cap] 33)).heap.size=w.heap.size+1:=ak;rw[this] at j;exact j
theorem fO{w:World}{base n:Nat}{e:TypeId}{v:Value}{xs:List Value}(h:w.ownsRow base e 1 v n xs)(hn:0<n): ∃g c cur,v=.slice (some ⟨g,0,none⟩) n c/\base<=g/\w.heap[g]? =some (.cells cur e (0,0))/\n<=c/\c<=maxLen/\cur.size=c*1/\cur.toList.take (n*1)=xs:=by
 rcases h.2 with ⟨_,h0⟩|⟨g,c,cur,rfl,s,j,h1,h2,h3,h4⟩
 ·omega
 ·exact⟨g,c,cur,rfl,s,j,h1,h2,h3,h4⟩
theorem ints_at(base:Nat)(v:Value)(zs:List Int)(w:World)(z:zs.length<=100000)(h:w.ownsRow base 3 1 v zs.length (zs.map (Value.int .i64)))(h0:0<zs.length):Calls prog 86 #[v] w fun e w'=>e=.returned (.tuple #[])/\w'.ownsRow base 3 1 v zs.length ((xW zs).map (Value.int .i64))/\w.grownBy w' v.ownBlock:=by obtain⟨g,c,cur,rfl,u,j,h1,h2,h3,h4⟩:=fO h h0;have s:Holds (Value.int .i64) w g 0 zs.toArray:=holds_of_blockI j (by simpa using h4);refine(Any.sort_Ints P3 g 0 c zs w s (aS.1 j).1 ah).mono ?_;rintro e w' ⟨rfl,C,os,rfl⟩;exact⟨rfl,ownsRow_sortedI ak u j h1 h2 h3,grownBy_sortedI _⟩
end
theorem Dn(n:Int)(w:World):Calls prog 135 #[.int .i64 n] w fun e w'=>e=.returned (.bool (jE n))/\w'=w:=by go_enter func135,ntmps135;go_wp2_with fail;all_goals (go_ret;exact⟨gB (by simp only[jE]<;>simp[*]<;>omega),rfl⟩)
theorem zF{zs:List Int}{k:Nat}(h:k<zs.length):(zs.take (k+1)).any jE=((zs.take k).any jE||jE (zs.getD k 0)):=by
 have e:zs.take (k+1)=zs.take k++[zs.getD k 0]:=by rw[cE];simp[List.getD,aF h]
 rw[e,List.any_append];simp
theorem GR{zs:List Int}{k:Nat}(h:k<zs.length)(e:jE (zs.getD k 0)=true):zs.any jE=true:=by rw[List.any_eq_true];exact⟨zs[k],cI h,by simpa[List.getD,aF h] using e⟩
theorem FO(A:Option Addr)(c:Nat)(zs:List Int)(w:World)(I:kY w A zs)(J:zs.length<=100000):Calls prog 170 #[.slice A zs.length c,.func (.func 135) #[] #[]] w fun e w'=> ∃r:Int,e=.returned (.int .i64 r)/\decide (0<=r)=zs.any jE/\w'=w:=by
 have U:=eJ I;have K:=eJ J;clear I J;obtain⟨n,hn⟩:=ab zs.length;rw[hn] at K⊢;have u:=eJ hn;clear hn;go_enter func170,ntmps170;go_wp2_with fail;go_loopw [8] (fun i wr=> ∃k:Nat,k<=n/\i=.int .i64 k/\Hid ((zs.take k).any jE=false)/\Hid (wr=w)) (fun i _=>n-(intOf i).toNat);case atStart=>exact⟨0,ah,rfl,eJ ak,eJ rfl⟩
 case round=>
  obtain⟨k,hk,rfl,O,j⟩:=hrel;have Y:n<=100000:=K.out;by_cases C:k<n
  ·obtain⟨b,off,rfl,X⟩:=U.out k (by rw[u.out];exact C);obtain⟨x,z⟩:=ab (zs.getD k 0);rw[z,<-j.out] at X;have E:=eJ z;clear z;have T:k<zs.length:=by rw[u.out];exact C
   cases s:jE x;case true=>have h:=eJ s;clear s;go_wp2_with (go_at_call 135;refine(Dn x _).mono ?_;rintro e w3 ⟨rfl,rfl⟩;rw[h.out]);go_ret;exact⟨_,rfl,by rw[GR T (by rw[E.out];exact h.out)];simp,j.out⟩
   case false=>have h:=eJ s;clear s;go_wp2_with (go_at_call 135;refine(Dn x _).mono ?_;rintro e w3 ⟨rfl,rfl⟩;rw[h.out]);exact⟨⟨k+1,ah,aq,eJ (by rw[zF T,O.out,E.out,h.out];rfl),j⟩,by simp[intOf];omega⟩
  ·obtain rfl:k=n:=ah;go_wp2_with fail;go_ret;exact⟨_,rfl,by rw[<-dj (l:=zs),u.out,O.out];rfl,j.out⟩
theorem zn(A:Option Addr)(c:Nat)(zs:List Int)(w:World)(s:kY w A zs)(j:zs.length<=100000):Calls prog 134 #[.slice A zs.length c,.func (.func 135) #[] #[]] w fun e w'=>e=.returned (.bool (zs.any jE))/\w'=w:=by go_enter func134,ntmps134;go_wp2_with (go_at_call 170;refine(FO A c zs _ s j).mono ?_;rintro e w3 ⟨r,rfl,h,rfl⟩;have u:=eJ h;clear h);go_ret;exact⟨gB (by rw[<-u.out]),rfl⟩
theorem su{w:World}{base n g c:Nat}{e:TypeId}{zs:List Int}(h:w.ownsRow base e 1 (.slice (some ⟨g,0,none⟩) n c) n (zs.map (Value.int .i64))){j:Nat}(z:j<n):w.cell? ⟨g,j,none⟩=some (.int .i64 (zs.getD j 0)):=by
 rcases h.2 with ⟨_,h0⟩|⟨g1,c1,cur,u,C,s,h1,h2,h3,h4⟩
 ·omega
 ·cases u;have hl:(zs.map (Value.int .i64)).length=n*1:=h.1;rw[dC w g j cur e (0,0) s,<-Array.getElem?_toList];have h5:(cur.toList.take (n*1))[j]? =cur.toList[j]? :=dQ ah;rw[<-h5,h4];have:j<zs.length:=by simpa using (by rw[hl];omega:j<(zs.map (Value.int .i64)).length)
  simp[List.getD,aF this]
theorem xw{zs:List Int}(s:zs.any jE=false){j:Nat}(u:j<zs.length):-1099511627776<=(xW zs).getD j 0/\(xW zs).getD j 0<=1099511627776:=by
 have h:j<(xW zs).length:=by rw[zk];exact u
 have e:(xW zs).getD j 0=(xW zs)[j]:=by simp[List.getD,aF h]
 have hm:(xW zs)[j]∈zs:=(Ag zs).mem_iff.1 (cI h);rw[e];have:=dw.1 s _ hm;simp[jE] at this;exact this
theorem iH{a b c d:Value}(h:a=c)(k:b=d):Ending.returned (.tuple #[a,b])=.returned (.tuple #[c,d]):=by rw[h,k]
theorem nW{zs:List Int}{f:Int}(h:f<0\/(zs.length:Int)<2*f+1):lL zs f=1/\ly zs f=0:=by
 have:lL zs f=1:=by unfold lL;rw[aM h]
 exact⟨this,by unfold ly;rw[this];rfl⟩
theorem C5{zs:List Int}{m:Nat}(h:2*m+1<=zs.length):(zs.any jE=true->lL zs m=2/\ly zs m=0)/\(zs.any jE=false->lL zs m=0/\ly zs m=wY zs m):=by
 have h1: ¬((m:Int)<0\/(zs.length:Int)<2*(m:Int)+1):=ah;constructor
 ·intro e;have:lL zs m=2:=by unfold lL;rw[aI h1,aM e]
  exact⟨this,by unfold ly;rw[this];rfl⟩
 ·intro e;have:lL zs m=0:=by unfold lL;rw[aI h1,aI (by rw[e];simp)]
  exact⟨this,by unfold ly;rw[aM this];simp⟩
theorem vh:Value.iface 61 (.int .i64 1)=gv 1:=by simp[gv]
theorem Cf:Value.iface 61 (.int .i64 2)=gv 2:=by simp[gv]
theorem Ee(A:Option Addr)(c:Nat)(zs:List Int)(f:Int)(w:World)(C:kY w A zs)(am:zs.length<=100000)(ao:f<=9223372036854775807):Calls prog 100 #[.slice A zs.length c,.int .i64 f] w fun e w'=>e=.returned (.tuple #[.int .i64 (ly zs f),gv (lL zs f)])/\Below w.heap.size w w':=by
 by_cases h0:f<0
 ·obtain⟨h,s⟩:=nW (zs:=zs) (.inl h0);rw[h,s];clear C h s;go_enter func100,ntmps100;go_wp2_with fail;go_ret2;exact⟨iH rfl vh,au⟩
 obtain⟨m,rfl⟩:=aZ (by omega:0<=f);obtain⟨n,hn⟩:=ab zs.length;by_cases h1:n<m
 ·obtain⟨h,s⟩:=nW (zs:=zs) (f:=(m:Int)) (.inr ah);rw[h,s,hn];clear C h s hn;have d1:decide ((n:Int)<(m:Int))=true:=aJ ah;go_enter func100,ntmps100;go_wp2_with fail;go_ret2;exact⟨iH rfl vh,au⟩
 have d1:decide ((n:Int)<(m:Int))=false:=aH ah;have d0:decide ((m:Int)<0)=false:=aH ah;have w1:wrap64 (2*(m:Int))=2*(m:Int):=by unfold wrap64;omega
 have w2:wrap64 (2*(m:Int)+1)=2*(m:Int)+1:=by unfold wrap64;omega
 by_cases h2:n<2*m+1
 ·obtain⟨h,s⟩:=nW (zs:=zs) (f:=(m:Int)) (.inr ah);rw[h,s,hn];clear C h s hn;have d2:decide ((n:Int)<2*(m:Int)+1)=true:=aJ ah;go_enter func100,ntmps100;go_wp2_with fail;go_ret2;exact⟨iH rfl vh,au⟩
 have d2:decide ((n:Int)<2*(m:Int)+1)=false:=aH ah;have Z:=eJ (C5 (zs:=zs) (m:=m) ah);have E:=eJ (zn A c zs w C ah);have O:=eJ (Fj A c zs w ah C);rw[hn] at E O⊢;have u:Hid (2*m+1<=n/\n<=100000):=eJ ⟨ah,ah⟩;have J:=eJ hn;clear h0 h2 hn C am ao;cases z:zs.any jE;case true=>obtain⟨h,s⟩:=Z.out.1 z;rw[h,s];rw[z] at E;clear h s z;go_enter func100,ntmps100;go_wp2_with (go_at_call 134;refine E.out.mono ?_;rintro e w3 ⟨rfl,rfl⟩);go_ret2;exact⟨iH rfl Cf,au⟩
 case false=>
  obtain⟨h,s⟩:=Z.out.2 z;rw[h,s];rw[z] at E;clear h s;have T:=eJ (show wY zs m=((xW zs).getD m 0+(xW zs).getD (n-1-m) 0)/2 from by unfold wY;rw[J.out]);have b1:=xw z (j:=m) (by have:=u.out;have:=J.out;omega);have b2:=xw z (j:=n-1-m) (by have:=u.out;have:=J.out;omega);have ac:Hid ((xW zs).length=n):=eJ (by rw[zk,J.out]);clear z;generalize xW zs=ss at O T ac b1 b2;obtain⟨x,K⟩:=ab (ss.getD m 0);obtain⟨y,I⟩:=ab (ss.getD (n-1-m) 0);rw[K,I] at T;rw[K] at b1;rw[I] at b2;have al:=eJ K;have aA:=eJ I;clear K I;have a6:wrap64 (x+y)=x+y:=by unfold wrap64;omega
  rw[T.out];clear b1 b2;go_enter func100,ntmps100;go_wp2_with (first|(go_at_call 134;refine E.out.mono ?_;rintro e w3 ⟨rfl,rfl⟩)|(go_at_call 137;refine(Gp A n c _).mono ?_;rintro e w3 ⟨rfl,rfl⟩)|(go_at_call 136;refine O.out.mono ?_;rintro e w4 ⟨v,rfl,U,hB⟩;obtain⟨g,cp,cur,rfl,-,X,ad,a3,aa,ap⟩:=fO U (by have:=u.out;omega);have a0:=eJ hB;have Y:=eJ U;have a7:=eJ X;clear hB U X ad a3 aa ap));have a4:=su Y.out (j:=m) (by have:=u.out;omega);have a2:=su Y.out (j:=n-1-m) (by have:=u.out;omega);rw[al.out] at a4;rw[aA.out] at a2;have h:wrap64 (wrap64 ((n:Int)-1)-(m:Int))=((n-1-m:Nat):Int):=by have:=u.out;unfold wrap64;omega
  have a5:n-1-m<n:=by have:=u.out;omega
  have z2:m<n:=by have:=u.out;omega
  go_quiet (fail);go_wp2_with fail;go_ret2;exact⟨iH rfl (by simp[gv]),below_drewN a0.out _⟩
def kU(n:Nat):List Nat:=if n<128 then [n] else(n%128+128)::kU (n/128) termination_by n decreasing_by omega
theorem oV{n:Nat}(h:n<128):kU n=[n]:=by rw[kU,aM h]
theorem rK{n:Nat}(h: ¬n<128):kU n=(n%128+128)::kU (n/128):=by rw[kU,aI h]
theorem LD(n:Nat):kU n≠[]:=by
 by_cases h:n<128
 ·rw[oV h];simp
 ·rw[rK h];simp
def gn(l:List Nat):List Nat:=l.flatMap kU
theorem oc:gn []=[]:=rfl
theorem oS(n:Nat)(l:List Nat):gn (n::l)=kU n++gn l:=rfl
theorem xp(l m:List Nat):gn (l++m)=gn l++gn m:=by simp[gn]
structure OU where
 l:List Nat
 bad:Bool
section
variable (num:OU->Nat×OU)
end
theorem NC{b:Bool}(h:b=true->False):b=false:=by cases b<;>simp_all
section
variable {num:OU->Nat×OU}
end
section
variable {R:List Nat->List Nat->Prop}{f g:OU->Nat×OU}
end
def pU(l:List Nat):List Value:=l.map fun(n:Nat)=>Value.int .u8 (n:Int)
theorem nu(l:List Nat):(pU l).length=l.length:=by simp[pU]
theorem AF(l:List Nat)(n:Nat):pU (l++[n])=pU l++[.int .u8 (n:Int)]:=by simp[pU]
def mg(w w':World)(v v':Value):Prop:=w.grownBy w' v.ownBlock/\∀k,v'.ownBlock=some k->k<w'.heap.size/\(v.ownBlock=some k\/w.heap.size<=k)
theorem mg.refl(w:World)(v:Value)(h: ∀k,v.ownBlock=some k->k<w.heap.size):mg w w v v:=⟨World.grownBy.refl w _,fun k e=>⟨h k e,.inl e⟩⟩
theorem mg.trans{w w1 w2:World}{v v1 v2:Value}(h:mg w w1 v v1)(k:mg w1 w2 v1 v2):mg w w2 v v2:=by
 refine⟨⟨k.1.os.trans h.1.os,k.1.tape.trans h.1.tape,k.1.output.trans h.1.output,aK h.1.size k.1.size,fun i hi u=> ?_⟩,fun j e=> ?_⟩
 ·rw[k.1.block i (aN hi h.1.size) ?_]
  ·exact h.1.block i hi u
  ·intro e;rcases(h.2 i e.symm).2 with s|s
   ·exact u s.symm
   ·omega
 ·obtain⟨a,b⟩:=k.2 j e;refine⟨a, ?_⟩;rcases b with b|b
  ·exact(h.2 j b).2
  ·exact .inr (aK h.1.size b)
theorem mg.alloc{w w':World}{v v':Value}(h:mg w w' v v')(o:Obj):mg w (w'.alloc o) v v':=⟨gM h.1 o,fun k e=>⟨by rw[bX];have:=(h.2 k e).1;omega,(h.2 k e).2⟩⟩
def rl(w:World)(A:Option Addr)(n:Nat)(zs:List Nat):Prop:= ∀j,j<n->∃b off,A=some ⟨b,off,none⟩/\w.cell? ⟨b,off+j,none⟩=some (.int .i64 (zs.getD j 0:Nat))
theorem u8_or: ∀x:Fin 256,bits .or .u8 (x.val:Int) 128=((x.val%128+128:Nat):Int):=by decide+kernel
theorem Lv(m:Nat):IntKind.u8.wrap (m:Int)=((m%256:Nat):Int):=by rw[dp];push_cast;rfl
theorem Pc(m:Nat):bits .or .u8 (IntKind.u8.wrap (m:Int)) 128=((m%128+128:Nat):Int):=by rw[Lv];have h:=u8_or ⟨m%256,Nat.mod_lt _ aj⟩;simp only at h;rw[h];congr 2;omega
theorem ry:(prog.info? 5).map (fun i=>(i.zero,i.size,i.bytes))=some (some (.int .u8 0),1,1):=ai
theorem eR{t:TypeId}{z:Value}{a b:Nat}(h:(prog.info? t).map (fun i=>(i.zero,i.size,i.bytes))=some (some z,a,b)): ∃i,prog.info? t=some i/\i.zero=some z/\i.size=a/\i.bytes=b:=by cases e:prog.info? t with|none=>rw[e] at h;cases h|some i=>rw[e] at h;simp at h;exact⟨i,rfl,h.1,h.2.1,h.2.2⟩
theorem Ax(l:List Nat)(h: ∀z∈l,(kU z).length<=10):(gn l).length<=10*l.length:=by induction l with|nil=>simp[oc]|cons n l e=>have h1:=h n ak;have h2:=e (fun m hm=>h m (by simp[hm]));rw[oS,aT,aP];omega
theorem vY(zs:List Nat)(k:Nat)(hk:k<zs.length):gn (zs.take (k+1))=gn (zs.take k)++kU (zs.getD k 0):=by rw[List.take_succ_eq_append_getElem hk,xp];congr 1;rw[oS,oc,dK];simp[hk]
theorem I7{w w':World}{v:Value}{g o n c:Nat}(j:v.ownBlock=some g\/w.heap.size<=g)(h:g<w'.heap.size): ∀k,(Value.slice (some ⟨g,o,none⟩) n c).ownBlock=some k->k<w'.heap.size/\(v.ownBlock=some k\/w.heap.size<=k):=by intro k e;simp[Value.ownBlock] at e;subst e;exact⟨h,j⟩
theorem kz:(prog.info? 3).map (fun i=>(i.zero,i.size,i.bytes))=some (some (.int .i64 0),1,8):=ai
theorem LI(x:Int):ij x (-1099511627776) 1099511627776= !jE x:=by unfold ij jE;rw[Bool.not_or,<-decide_not,<-decide_not];congr 1<;>(apply cG.2;omega)
theorem vG(x:Int)(w:World):Calls prog 31 #[.int .i64 x,.int .i64 (-1099511627776),.int .i64 1099511627776] w fun e w'=>e=.returned (.bool (!jE x))/\w=w':=by rw[<-LI];exact qi x _ _ w
theorem Kl{w:World}{b off:Nat}{zs:List Int}(h: ∀j,j<zs.length->w.cell? ⟨b,off+j,none⟩=some (.int .i64 (zs.getD j 0))): ∀j u,(zs.map (Value.int .i64))[j]? =some u->w.cell? ((⟨b,off,none⟩:Addr).add j)=some u:=by
 intro j u hu;have e:j<zs.length:=by
  rcases bW j zs.length with h1|h1
  ·exact h1
  ·rw[bS (by simpa using h1)] at hu;cases hu
 rw[bp,aF e] at hu;have s:Value.int .i64 (zs.getD j 0)=u:=by simpa[List.getD,aF e] using hu
 rw[<-s,<-h j e];by_cases h0:j=0
 ·subst h0;rfl
 ·rw[show(⟨b,off,none⟩:Addr).add j=⟨b,off+j,none⟩ by unfold Addr.add;rw[aI h0]]
theorem DE(x:Int):x.tdiv 2=x/2+(if 0<=x\/2∣x then 0 else 1):=by rw[Int.tdiv_eq_ediv];rfl
theorem MX(x:Int):x.tmod 2=x-2*x.tdiv 2:=by have:=Int.mul_tdiv_add_tmod x 2;omega
theorem PW{s:Int}(_h:s<0)(k:(s.tmod 2 !=0)=false):s.tdiv 2=s/2:=by
 have e:s.tmod 2=0:=by simpa using k
 rw[MX,DE] at e;rw[DE];split<;>rename_i h1
 ·omega
 ·rw[aI h1] at e;omega
theorem Pf{s:Int}(_h:s<0)(k:(s.tmod 2 !=0)=true):(s-1).tdiv 2=s/2:=by
 have e:s.tmod 2≠0:=by simpa using k
 rw[MX,DE] at e;rw[DE];by_cases h2:0<=s\/2∣s
 ·rw[aM h2] at e;omega
 ·split<;>omega
theorem AI(A:Option Addr)(c:Nat)(zs:List Int)(f:Int)(w:World)(J:kY w A zs)(bn:zs.length<=2000):Calls prog 37 #[.slice A zs.length c,.int .i64 f] w fun e w'=>e=.returned (.tuple #[.int .i64 (ly zs f),.int .i64 (lL zs f)])/\Below w.heap.size w w':=by
 by_cases h0:f<0
 ·obtain⟨h,s⟩:=nW (zs:=zs) (.inl h0);rw[h,s];clear J h s;go_enter func37,ntmps37;go_wp2_with fail;go_ret2;exact⟨iH rfl rfl,au⟩
 obtain⟨m,rfl⟩:=aZ (by omega:0<=f);obtain⟨n,hn⟩:=ab zs.length;have d0:decide ((m:Int)<0)=false:=aH ah;by_cases h1:1000<m
 ·obtain⟨h,s⟩:=nW (zs:=zs) (f:=(m:Int)) (.inr ah);rw[h,s,hn];clear J h s hn;have d1:decide ((1000:Int)<(m:Int))=true:=aJ ah;go_enter func37,ntmps37;go_wp2_with fail;go_ret2;exact⟨iH rfl rfl,au⟩
 have d1:decide ((1000:Int)<(m:Int))=false:=aH ah;have w1:wrap64 (2*(m:Int))=2*(m:Int):=by unfold wrap64;omega
 have w2:wrap64 (2*(m:Int)+1)=2*(m:Int)+1:=by unfold wrap64;omega
 by_cases h2:n<2*m+1
 ·obtain⟨h,s⟩:=nW (zs:=zs) (f:=(m:Int)) (.inr ah);rw[h,s,hn];clear J h s hn;have d2:decide ((n:Int)<2*(m:Int)+1)=true:=aJ ah;go_enter func37,ntmps37;go_wp2_with fail;go_ret2;exact⟨iH rfl rfl,au⟩
 have d2:decide ((n:Int)<2*(m:Int)+1)=false:=aH ah;have a5:=eJ (C5 (zs:=zs) (m:=m) ah);obtain⟨b,off,rfl,-⟩:=J 0 ah;have b9:=eJ J;have ap:Hid (∀j,j<zs.length->w.cell? ⟨b,off+j,none⟩=some (.int .i64 (zs.getD j 0))):=eJ fun j aa=>by obtain⟨b6,cc,e,am⟩:=J j aa;cases e;exact am
 have hM:n<=2000:=ah;rw[hn];have C:Hid (2*m+1<=n/\n<=2000):=eJ ⟨ah,ah⟩;have E:=eJ hn;clear h0 h2 hn J bn;go_enter func37,ntmps37;go_wp2_with fail;go_loopw [26] (fun i wr=> ∃k:Nat,k<=n/\i=.int .i64 k/\Hid ((zs.take k).any jE=false)/\Hid (wr=w)) (fun i _=>n-(intOf i).toNat);case atStart=>exact⟨0,ah,rfl,eJ ak,eJ rfl⟩
 case round=>
  obtain⟨k,hk,rfl,ac,O⟩:=hrel;by_cases aA:k<n
  ·have am:=ap.out k (by rw[E.out];exact aA);obtain⟨x,I⟩:=ab (zs.getD k 0);rw[I,<-O.out] at am;have X:=eJ I;clear I;have a3:k<zs.length:=by rw[E.out];exact aA
   have a4:=eJ a3;clear a3;cases Z:jE x;case true=>have T:=eJ Z;clear Z;go_wp2_with (go_at_call 31;refine(vG x _).mono ?_;rintro e w3 ⟨rfl,rfl⟩;rw[T.out]);go_ret2;have K:=GR a4.out (by rw[X.out];exact T.out);obtain⟨h,s⟩:=a5.out.1 K;exact⟨by rw[h,s];exact iH rfl rfl,by rw[O.out];exact au⟩
   case false=>have T:=eJ Z;clear Z;go_wp2_with (go_at_call 31;refine(vG x _).mono ?_;rintro e w3 ⟨rfl,rfl⟩;rw[T.out]);exact⟨⟨k+1,ah,aq,eJ (by rw[zF a4.out,ac.out,X.out,T.out];rfl),O⟩,by simp[intOf];omega⟩
  ·obtain rfl:k=n:=ah;have K:zs.any jE=false:=by rw[<-dj (l:=zs),E.out,ac.out]
   obtain⟨h,s⟩:=a5.out.2 K;have b3:=eJ h;have bx:=eJ s;have bd:=eJ (show wY zs m=((xW zs).getD m 0+(xW zs).getD (k-1-m) 0)/2 from by unfold wY;rw[E.out]);have b1:=xw K (j:=m) (by have:=C.out;have:=E.out;omega);have b2:=xw K (j:=k-1-m) (by have:=C.out;have:=E.out;omega);have hlen:=zk zs;obtain⟨x,I⟩:=ab ((xW zs).getD m 0);obtain⟨y,Y⟩:=ab ((xW zs).getD (k-1-m) 0);rw[I,Y] at bd;rw[I] at b1;rw[Y] at b2;have X:=eJ I;have bz:=eJ Y;have ca:=eJ (O.out);obtain⟨i0,hi,bm,bj,bv⟩:=eR kz;rw[O.out];clear I Y K h s ac hlen;have a2:Hid ((w.alloc (.cells #[] 3)).ownsRow w.heap.size 3 1 (.slice (some ⟨w.heap.size,0,none⟩) 0 0) 0 []):=eJ ⟨rfl,.inr ⟨w.heap.size,0, #[],rfl,ar,eN.new w 3 #[],ah,by simp[maxLen],rfl,rfl⟩⟩;have bb:Hid (∀j u,(zs.map (Value.int .i64))[j]? =some u->(w.alloc (.cells #[] 3)).cell? ((⟨b,off,none⟩:Addr).add j)=some u):=eJ (Kl fun j aa=>(((Below.refl w.heap.size w).alloc (ar) _).cell (p:=⟨b,off+j,none⟩) (aG _ _ (ap.out j aa))).trans (ap.out j aa));go_wp2_with (first|(at_builtin;go_must (refine bD _ rfl (.tmp 34) (.tmp 35) _ rfl w.heap.size 3 i0 _ 1 8 underlying33 hi bm bj bv rfl aj (.slice (some ⟨w.heap.size,0,none⟩) 0 0) 0 [] rfl (by exact a2.out) ⟨b,off,none⟩ k c (zs.map (Value.int .i64)) rfl (by rw[aY,E.out,Nat.mul_one]) (by exact bb.out) (by intro u hu;obtain⟨z,_,rfl⟩:=cX.1 hu;rfl) (by simp[maxLen];omega) ah ak ?_);intro v' w4 a8 a0 _;have a9:=eJ a8;have a7:=eJ a0;clear a8 a0)|fail);have ad:Hid (w4.ownsRow w.heap.size 3 1 v' zs.length (zs.map (Value.int .i64))):=eJ (by simpa[E.out] using a9.out);have al:Hid (Below w.heap.size w w4):=eJ (((Below.refl w.heap.size w).alloc (ar) _).grown a7.out ak (fun j e=>by cases e;exact ar));refine(ints_at w.heap.size v' zs _ (by rw[E.out];omega) ad.out (by have:=C.out;have:=E.out;omega)).mono ?_;rintro e w5 ⟨rfl,U,a6⟩;have bq:Hid (Below w.heap.size w w5):=eJ (al.out.grown a6 al.out.size (fun j e=>(ad.out.lt j e).1));rw[E.out] at U;obtain⟨g,cp,cur,rfl,bt,be,bk,b4,-,-⟩:=fO U (by have:=C.out;omega);have bw:=su U (j:=m) (by have:=C.out;omega);have ao:=su U (j:=k-1-m) (by have:=C.out;omega);rw[X.out] at bw;rw[bz.out] at ao;have bl: ¬cp=m:=by have:=C.out;omega
   have h:wrap64 ((k:Int)-(m:Int))=((k-m:Nat):Int):=by have:=C.out;unfold wrap64;omega
   have bf:m<=k-m:=by have:=C.out;omega
   have z2:k-m<=cp:=by have:=C.out;omega
   have bi:2*m+1<=k:=C.out.1;clear U a6 bt be b4 a9 a7 ad a2 bb al;go_wp2_with fail;obtain⟨q,hq⟩:=ab (k-m-m);have b8:0<q:=ah;have cb:w5.cell? ⟨g,m+(q-1),none⟩=some (.int .i64 y):=by rw[show m+(q-1)=k-1-m from ah];exact ao
   have s:wrap64 ((q:Int)-1)=((q-1:Nat):Int):=by unfold wrap64;omega
   have b5:q-1<q:=ah;have b7:wrap64 (x+y)=x+y:=by unfold wrap64;omega
   rw[hq];clear ao hq bi h bf z2 bl bk d2;go_quiet (fail);go_wp2_with fail;all_goals (go_ret2;exact⟨by rw[b3.out,bx.out,bd.out];first|exact iH rfl rfl|exact iH (aO _ (PW an an)) rfl|exact iH (aO _ (Pf an an)) rfl,below_drewN bq.out _⟩)
def kW(n:Nat)(f c:Int)(r:List Int):Int:=if r.length≠n then 1 else if jE c=true then 2 else lL r f
def qT(w:World)(B:Option Addr)(rs:List (List Int)):Prop:= ∀j,j<rs.length->∃b off A c,B=some ⟨b,off,none⟩/\w.cell? ⟨b,off+j,none⟩=some (.slice A (rs.getD j []).length c)/\kY w A (rs.getD j [])
theorem qT.below{B:Nat}{w w':World}{A:Option Addr}{rs:List (List Int)}(h:qT w A rs)(hw:w.heap.size<=B)(hB:Below B w w'):qT w' A rs:=fun j u=>by obtain⟨b,off,A,c,e,s,z⟩:=h j u;exact⟨b,off,A,c,e,(hB.cell (p:=⟨b,off+j,none⟩) (aN (aG _ _ s) hw)).trans s,z.below hw hB⟩
def my(zs:List Int)(rs:List (List Int))(f:Int)(k:Nat):List Int:=(List.range k).map fun j=>zs.getD j 0+ly (rs.getD j []) f
theorem xL(zs:List Int)(rs:List (List Int))(f:Int)(k:Nat):my zs rs f (k+1)=my zs rs f k++[zs.getD k 0+ly (rs.getD k []) f]:=by simp[my,eD]
theorem uR(zs:List Int)(rs:List (List Int))(f:Int)(k:Nat):(my zs rs f k).length=k:=by simp[my]
theorem yq{z:Int}(h:jE z=false):-1099511627776<=z/\z<=1099511627776:=by simpa[jE] using h
theorem Df{zs:List Int}{m:Nat}(h:2*m+1<=zs.length)(e:zs.any jE=false):-1099511627776<=wY zs m/\wY zs m<=1099511627776:=by have h1:=xw e (j:=m) ah;have h2:=xw e (j:=zs.length-1-m) ah;unfold wY;omega
theorem si(zs:List Int)(f:Int):-1099511627776<=ly zs f/\ly zs f<=1099511627776:=by
 unfold ly;split
 ·rename_i h;unfold lL at h;split at h
  ·cases h
  ·rename_i h1;split at h
   ·cases h
   ·rename_i h2;exact Df ah (by simpa using h2)
 ·omega
theorem Gb{n:Nat}{f c:Int}{r:List Int}(h:kW n f c r=0):r.length=n/\jE c=false/\lL r f=0:=by
 unfold kW at h;split at h
 ·cases h
 ·rename_i h1;split at h
  ·cases h
  ·rename_i h2;exact⟨ah,by simpa using h2,h⟩
theorem Md(s:Int)(A:Option Addr)(c:Nat)(r:List Int)(n:Nat)(f:Int)(w:World)(C:kY w A r)(I:r.length<=100)(E:f<=9223372036854775807):Calls prog 199 #[.int .i64 s,.slice A r.length c,.int .i64 (n:Nat),.int .i64 f] w fun e w'=>(∃v,e=.returned (.tuple #[.int .i64 v,gv (kW n f s r)])/\(kW n f s r=0->v=ly r f))/\Below w.heap.size w w':=by
 have u:=eJ (Ee A c r f w C ah E);clear C E I;obtain⟨l,hl⟩:=ab r.length;have z:=eJ hl;rw[hl] at u⊢;clear hl;by_cases h1:l=n;case neg=>
  have he:kW n f s r=1:=by unfold kW;rw[aM (by rw[z.out];exact h1)]
  rw[he];have d1:((l:Int) !=(n:Int))=true:=dP.2 ah;have d2: ¬(l:Int)=(n:Int):=ah;clear he u;go_enter func199,ntmps199;go_wp2_with fail;go_ret2;exact⟨⟨_,iH rfl vh,fun h=>by cases h⟩,au⟩
 case pos=>
  subst h1;cases j:jE s;case true=>
   have he:kW l f s r=2:=by unfold kW;rw[aI (by rw[z.out];simp),aM j]
   rw[he];clear he u;by_cases hs:s< -1099511627776
   ·have d1:decide (s< -1099511627776)=true:=aJ hs;go_enter func199,ntmps199;go_wp2_with fail;go_ret2;exact⟨⟨_,iH rfl Cf,fun h=>by cases h⟩,au⟩
   ·have d1:decide (s< -1099511627776)=false:=aH hs;have d2:decide (1099511627776<s)=true:=by unfold jE at j;rw[d1] at j;simpa using j
    go_enter func199,ntmps199;go_wp2_with fail;go_ret2;exact⟨⟨_,iH rfl Cf⟩,au⟩
  case false=>
   have he:kW l f s r=lL r f:=by unfold kW;rw[aI (by rw[z.out];simp),aI (by rw[j];simp)]
   rw[he];obtain⟨b1,b2⟩:=yq j;have d1:decide (s< -1099511627776)=false:=aH ah;have d2:decide (1099511627776<s)=false:=aH ah;clear he j b1 b2;go_enter func199,ntmps199;go_wp2_with (go_at_call 100;refine u.out.mono ?_;rintro e w3 ⟨rfl,hB⟩;have J:=eJ hB;clear hB);go_ret2;exact⟨⟨_,rfl,fun _=>rfl⟩,J.out⟩
theorem all_succ{p:Nat->Prop}{k:Nat}(h: ∀j,j<k->p j)(hk:p k): ∀j,j<k+1->p j:=fun j s=>if e:j=k then e▸hk else h j ah
theorem jr{w w':World}{base size n:Nat}{e:TypeId}{v:Value}{xs:List Value}(h:w.ownsRow base e size v n xs)(hB:Below w.heap.size w w'):w'.ownsRow base e size v n xs:=by
 refine⟨h.1, ?_⟩;rcases h.2 with h1|⟨g,cap,cur,s,u,j,rest⟩
 ·exact .inl h1
 ·exact .inr ⟨g,cap,cur,s,u,(hB.block g (aS.1 j).1).trans j,rest⟩
theorem vu{w:World}{g:Nat}{t:TypeId}{x:Value}(h:eN w g t #[x]): ∀j u,[x][j]? =some u->w.cell? ((⟨g,0,none⟩:Addr).add j)=some u:=by intro j u hu;cases j with|zero=>simp at hu;subst hu;exact h.cells1.1|succ j=>simp at hu
structure Mm where
 m:Nat
 gd:Int
 bd:Int
 fz:Bool
structure Tk where
 nw:Int
 c0:Int
 c1:Int
structure Sd where
 nx:Int
 la:Int
 nw:Int
 q:List ByteArray
structure Pr where
 lost:Int
 q:List ByteArray
structure Cl where
 ck:List Int
 rd:Int
 mm:Nat→Mm
 sd:Nat→Sd
 tk:Nat→Nat→Tk
 pr:Nat→Nat→Pr
structure Ls where
 s:Int
 c:Int
 t:Int
structure Rg where
 n:Int
 o:Int
 i:Int
structure Rn where
 ls:List Ls
 rg:List Rg
 dr:List Int
 md:List Int
def kZ(x:Int)(k:Nat):Bool:=bits .and .i64 (x/2^k) 1==1
def eV{α:Type}(f:Nat->α)(k:Nat)(x:α):Nat->α:=fun j=>if j=k then x else f j
def fM{α:Type}(f:Nat->Nat->α)(k i:Nat)(x:α):Nat->Nat->α:=fun a b=>if a=k/\b=i then x else f a b
def Mm.mi(s:Mm)(fr:Nat)(e:Int):Mm:=if s.fz then s else if e=1 then⟨s.m|||2^fr,s.gd+1,s.bd,s.fz⟩ else if e=2 then⟨yz s.m (2^fr),s.gd,s.bd+1,s.fz⟩ else⟨yz s.m (2^fr),s.gd,s.bd,s.fz⟩
def Mm.send(s:Mm):Mm:=if s.fz then s else if s.gd<=s.bd then⟨s.m,s.gd,s.bd,true⟩ else⟨s.m,1,0,s.fz⟩
theorem Mm.PO(s:Mm)(id n fr:Nat)(e:Int):BO id n s.m s.gd s.bd s.fz fr e=jn id n (s.mi fr e).m (s.mi fr e).gd (s.mi fr e).bd (s.mi fr e).fz:=by
 unfold BO Mm.mi;split
 ·rfl
 ·split
  ·rfl
  ·split<;>rfl
theorem Mm.Ph(s:Mm)(id n:Nat):oY id n s.m s.gd s.bd s.fz=jn id n s.send.m s.send.gd s.send.bd s.send.fz:=by
 unfold oY Mm.send;split
 ·rfl
 ·split<;>rfl
def Tk.take(s:Tk)(x:Int):Tk:=bif gS x s.nw then⟨x,s.c0+1,s.c1⟩ else⟨s.nw,s.c0,s.c1+1⟩
theorem Tk.MQ(s:Tk)(x:Int):jV x s.nw s.c0 s.c1= #[.int .i64 (s.take x).nw,.int .i64 (s.take x).c0,.int .i64 (s.take x).c1]:=by unfold jV Tk.take;cases gS x s.nw<;>rfl
def Pr.put(s:Pr)(d:ByteArray):Pr:=⟨if jg d.size s.q.length 16=12 then s.lost+1 else s.lost,lu s.q d (jg d.size s.q.length 16)⟩
def jl(l:List Ls)(slot ch tn:Nat):Bool:=l.any fun x=>decide (x.s=slot)&&decide (x.c=ch)&&kZ x.t tn
def fu(fa:Nat)(i:Nat):Bool:=fa.testBit i
def pg(fa:Nat)(md:List Int)(i:Nat):Int:=if fu fa i=true/\i<md.length then md.getD i 0 else 0
def iC(p:Pl)(tn:Nat)(f:mB)(c:Cl):Cl:=if f.lk<0 then c else match p.lk[f.lk.toNat]? with|none=>c|some l=>if kZ l.t tn then {c with tk:=fM c.tk f.lk.toNat tn ((c.tk f.lk.toNat tn).take f.sq),pr:=if gS f.sq (c.tk f.lk.toNat tn).nw then fM c.pr f.lk.toNat tn ((c.pr f.lk.toNat tn).put f.d) else c.pr} else c
def jc(fr:Option mB)(ls:List Ls)(slot ch tn:Nat):Bool:=fr.isSome&& !jl ls slot ch tn
def nB(p:Pl)(tn:Nat)(fr:Option mB)(b:Bool)(c:Cl):Cl:=match fr with|none=>c|some f=>if b then iC p tn f c else c
def jj(m from_:Nat)(fr:Option mB)(b:Bool):Int:=match fr with|none=>0|some f=>if b then gW m from_ f.mb.toNat else 0
def je (p:Pl) (from_ tn slot:Nat) (fr:Option mB) (ls:List Ls) (c:Cl):Cl:=
 let c2:=nB p tn fr (jc fr ls slot 1 tn) (nB p tn fr (jc fr ls slot 0 tn) c)
 {c2 with mm:=eV c.mm tn ((c.mm tn).mi from_ (jj (c.mm tn).m from_ fr (jc fr ls slot 0 tn||jc fr ls slot 1 tn)))}
def ff(p:Pl)(node slot:Nat)(fr:Option mB)(ls:List Ls)(c:Cl):Nat->Cl|0=>c|k+1=>if k=node then ff p node slot fr ls c k else je p node k slot fr ls (ff p node slot fr ls c k)
def eZ(now:Int)(node:Int):List Lk->Nat->Cl->Cl×(Int×Int×ByteArray)|[],_,c=>(c,(-1,0,⟨#[]⟩))|l::ls,k,c=>if l.f=node then if px now (c.sd k).la (c.sd k).nw l.b (c.sd k).q.length=0 then({c with sd:=eV c.sd k ⟨if(c.sd k).nx+1=256 then 1 else(c.sd k).nx+1,now,now,(c.sd k).q.tail⟩},((k:Int),(c.sd k).nx,(c.sd k).q.headD ⟨#[]⟩)) else eZ now node ls (k+1) {c with sd:=eV c.sd k {c.sd k with nw:=DC (px now (c.sd k).la (c.sd k).nw l.b (c.sd k).q.length) now (c.sd k).nw}} else eZ now node ls (k+1) c
def lD(nd node:Nat)(m:Nat)(md:Int):Nat:=if md=2 then m^^^(2^node|||2^((node+1)%nd)) else m
def jh (p:Pl) (fa:Nat) (r:Rn) (i:Nat) (c:Cl):Cl:=
 match p.sl[i]? with
 |none=>c
 |some s=>
  let node:=s.n.toNat
  let mb:=c.mm node
  let md:=pg fa r.md node
  let ok:=fs mb.gd mb.bd mb.fz&&decide (md≠1)
  let c1:={c with mm:=eV c.mm node mb.send}
  let told:=lD p.nd.toNat node (gR mb.m mb.gd mb.bd mb.fz).toNat md
  if ok then
   let x:=eZ (c.rd*p.rd+s.f) s.n p.lk 0 c1
   ff p node i (some ⟨s.n,i,told,x.2.1,x.2.2.1,x.2.2.2⟩) r.ls x.1 p.nd.toNat
  else ff p node i none r.ls c1 p.nd.toNat
def gZ(p:Pl)(fa:Nat)(r:Rn)(c:Cl):Nat->Cl|0=>c|k+1=>jh p fa r k (gZ p fa r c k)
def gF(x most:Int):Int:=max (-most) (min most x)
def qf(c:List Int)(n:Nat):List (List Int):=(List.range n).map fun i=>(List.range n).map fun k=>c.getD k 0-c.getD i 0
def setRow(rs:List (List Int))(i k:Nat)(x:Int):List (List Int):=rs.set i ((rs.getD i []).set k x)
def pf(p:Pl)(fa:Nat)(c:List Int)(rs:List (List Int))(x:Rg):List (List Int):=if x.n<0\/p.nd<=x.n\/x.o<0\/p.nd<=x.o\/x.n=x.o then rs else setRow rs x.n.toNat x.o.toNat (if fu fa x.o.toNat then gF x.i 549755813888 else c.getD x.o.toNat 0-c.getD x.n.toNat 0+gF x.i p.ji)
def readAll(p:Pl)(fa:Nat)(c:List Int)(l:List Rg):List (List Int):=l.foldl (pf p fa c) (qf c p.nd.toNat)
def lI(p:Pl)(zs:List Int)(dr:List Int):List Int:=(List.range zs.length).map fun i=>zs.getD i 0+(if i<dr.length then gF (dr.getD i 0) p.dr else 0)
def jx(l:List Int):Bool:=l.any fun n=>decide (n< -274877906944)||decide (274877906944<n)
def iw(p:Pl)(fa:Nat)(c:List Int)(r:Rn):List Int:=lI p (my c (readAll p fa c r.rg) p.fa c.length) r.dr
def kQ(p:Pl)(fa:Nat)(r:Rn)(c:Cl):Int:=if jx (iw p fa c.ck r) then 6 else 0
def gD(p:Pl)(fa:Nat)(r:Rn)(c:Cl):Cl:=if jx (iw p fa c.ck r) then c else {gZ p fa r c p.sl.length with ck:=iw p fa c.ck r,rd:=c.rd+1}
def gG(p:Pl)(ck:List Int):Cl:=⟨ck,0,fun _=>⟨2^p.nd.toNat-1,1,0,false⟩,fun _=>⟨0,-1,0,[]⟩,fun _ _=>⟨-1,0,0⟩,fun _ _=>⟨0,[]⟩⟩
def jD(w:World)(A:Option Addr)(l:List Ls):Prop:= ∀(j:Nat)(x:Ls),l[j]? =some x->∃b off,A=some ⟨b,off,none⟩/\w.cell? ⟨b,off+j*3,none⟩=some (.int .i64 x.s)/\w.cell? ⟨b,off+j*3+1,none⟩=some (.int .i64 x.c)/\w.cell? ⟨b,off+j*3+2,none⟩=some (.int .i64 x.t)
theorem jD.below{B:Nat}{w w':World}{A:Option Addr}{l:List Ls}(h:jD w A l)(hw:w.heap.size<=B)(hB:Below B w w'):jD w' A l:=fun j x u=>by obtain⟨b,off,e,h0,h1,h2⟩:=h j x u;have s:b<B:=aN (aG _ _ h0) hw;exact⟨b,off,e,(hB.cell (p:=⟨b,_,none⟩) s).trans h0,(hB.cell (p:=⟨b,_,none⟩) s).trans h1,(hB.cell (p:=⟨b,_,none⟩) s).trans h2⟩
def sg(x:Ls)(slot ch tn:Nat):Bool:=decide (x.s=slot)&&decide (x.c=ch)&&kZ x.t tn
theorem yf(l:List Ls)(slot ch tn:Nat):jl l slot ch tn=l.any fun x=>sg x slot ch tn:=rfl
theorem Ie{l:List Ls}{slot ch tn k:Nat}{x:Ls}(hk:l[k]? =some x)(e:sg x slot ch tn=true):jl l slot ch tn=true:=by rw[yf,List.any_eq_true];exact⟨x,cL hk,e⟩
theorem Kr{l:List Ls}{slot ch tn:Nat}(h: ∀j x,j<l.length->l[j]? =some x->sg x slot ch tn=false):jl l slot ch tn=false:=by rw[yf,dw];intro x u;obtain⟨j,s,e⟩:=bJ.1 u;rw[h j x s (by rw[aF s,e])];decide
theorem Em{l:List Ls}{slot ch tn k:Nat}{x:Ls}(h: ∀j x,j<k->l[j]? =some x->sg x slot ch tn=false)(hk:l[k]? =some x)(u:sg x slot ch tn=false): ∀j x,j<k+1->l[j]? =some x->sg x slot ch tn=false:=by
 intro j y z s;by_cases e:j<k
 ·exact h j y e s
 ·obtain rfl:j=k:=ah;rw[hk] at s;cases s;exact u
theorem J4(A:Option Addr)(c:Nat)(l:List Ls)(slot ch tn:Nat)(w:World)(C:jD w A l)(K:l.length<=9223372036854775807)(hs:slot<=100)(T:ch<=2)(U:tn<=20):Calls prog 203 #[.slice A l.length c,.int .i64 slot,.int .i64 ch,.int .i64 tn] w fun e w'=>e=.returned (.bool (jl l slot ch tn))/\Below w.heap.size w w':=by
 have O:=eJ C;clear C;obtain⟨n,hn⟩:=ab l.length;have E:=eJ hn;rw[hn] at K⊢;clear hn;go_enter func203,ntmps203;go_wp2_with fail;go_loopw [13] (fun i wr=> ∃k:Nat,k<=n/\i=.int .i64 k/\Hid (∀j x,j<k->l[j]? =some x->sg x slot ch tn=false)/\Hid (Below w.heap.size w wr)) (fun i _=>n-(intOf i).toNat);case atStart=>exact⟨0,ah,rfl,eJ (fun j x u=>absurd u ah),eJ (au)⟩
 case round=>
  obtain⟨k,hk,rfl,I,h⟩:=hrel;by_cases J:k<n
  ·obtain⟨x,s⟩: ∃x,l[k]? =some x:=⟨_,aF (by rw[E.out];exact J)⟩;obtain⟨b,off,rfl,h0,h1,h2⟩:=(O.out.below (ar) h.out) k x s;have z:=eJ s;clear s;obtain⟨xs,Y,X⟩:=x;dsimp only at h0 h1 h2;go_wp2_with fail;all_goals
    first
     |
      (
       go_roundw;case rel=>exact⟨k+1,ah,aq,eJ (Em I.out z.out (by simp[sg,kZ, *])),eJ (h.out.alloc h.out.size _)⟩
       case measure=>simp[intOf];omega)
     |(go_ret;exact⟨by rw[Ie z.out (by simp[sg,kZ, *])];rfl,h.out.alloc h.out.size _⟩)
  ·obtain rfl:k=n:=ah;go_wp2_with fail;go_ret;exact⟨by rw[Kr (fun j x u s=>I.out j x (by rw[E.out] at u;exact u) s)];rfl,h.out⟩
abbrev wL(nd fa sk ji dr R:Int)(S L:Value)(fr:Int)(Q:Value)(fy:Int)(ck mm sd tk pr:Value)(rd:Int):Array Value:= #[.int .i64 nd,.int .i64 fa,.int .i64 sk,.int .i64 ji,.int .i64 dr,.int .i64 R,S,L,.int .i64 fr,Q,.int .i64 fy,ck,mm,sd,tk,pr,.int .i64 rd]
section
variable (g:Nat)(nd fa sk ji dr R:Int)(S L:Value)(fr:Int)(Q:Value)(mm sd tk pr:Value)(rd:Int)
theorem uj(fy i:Nat)(ck:Value)(w:World)(h:eN w g 210 (wL nd fa sk ji dr R S L fr Q fy ck mm sd tk pr rd))(u:fy<65536)(hi:i<=20):Calls prog 142 #[.pointer (some ⟨g,0,none⟩),.int .i64 i] w fun e w'=>e=.returned (.bool (fu fy i))/\w'=w:=by
 have s:=h.cell 10;simp at s;clear h;have j:(bits .and .i64 ((fy:Int)/2^i) 1==1)=fu fy i:=by rw[l8 fy i u];unfold fu;cases fy.testBit i<;>rfl
 have H:=eJ j;clear j;go_enter func142,ntmps142;go_wp2_with fail;go_ret;exact⟨by rw[<-H.out];rfl,rfl⟩
theorem rI{zs:List Int}{k:Nat}(hk:k<zs.length)(h:zs.getD k 0< -274877906944\/274877906944<zs.getD k 0):jx zs=true:=by unfold jx;rw[List.any_eq_true];refine⟨zs.getD k 0,by rw[aL,aF hk];exact cI hk, ?_⟩;simpa using h
theorem tZ{zs:List Int}(h: ∀k,k<zs.length->-274877906944<=zs.getD k 0/\zs.getD k 0<=274877906944):jx zs=false:=by unfold jx;rw[dw];intro x u;obtain⟨j,s,e⟩:=bJ.1 u;have:=h j s;rw[aL,aF s,e] at this;simp at this⊢;omega
theorem vW(fy:Int)(A:Option Addr)(c:Nat)(zs:List Int)(w:World)(J:eN w g 210 (wL nd fa sk ji dr R S L fr Q fy (.slice A zs.length c) mm sd tk pr rd))(E:kY w A zs)(T:zs.length<=1000):Calls prog 144 #[.pointer (some ⟨g,0,none⟩)] w fun e w'=>e=.returned (.bool (jx zs))/\w'=w:=by
 have I:=J.cell 11;simp at I;have O:=eJ E;clear J E;obtain⟨n,hn⟩:=ab zs.length;have s:=eJ hn;rw[hn] at T I;clear hn;go_enter func144,ntmps144;go_wp2_with fail;go_loopw [10] (fun i wr=> ∃k:Nat,k<=n/\i=.int .i64 k/\Hid (∀j,j<k->-274877906944<=zs.getD j 0/\zs.getD j 0<=274877906944)/\wr=w) (fun i _=>n-(intOf i).toNat);case atStart=>exact⟨0,ah,rfl,eJ (fun j h=>absurd h ah),rfl⟩
 case round=>
  obtain⟨k,hk,rfl,K,rfl⟩:=hrel;by_cases u:k<n
  ·obtain⟨b,off,rfl,h0⟩:=O.out k (by rw[s.out];exact u);obtain⟨x,C⟩:=ab (zs.getD k 0);rw[C] at h0;have z:=eJ C;clear C;by_cases a:x< -274877906944
   ·have d1:decide (x< -274877906944)=true:=aJ a;go_wp2_with fail;go_ret;exact⟨by rw[rI (by rw[s.out];exact u) (by rw[z.out];exact .inl a)];rfl,rfl⟩
   ·have d1:decide (x< -274877906944)=false:=aH a;by_cases b2:274877906944<x
    ·have d2:decide (274877906944<x)=true:=aJ b2;go_wp2_with fail;go_ret;exact⟨by rw[rI (by rw[s.out];exact u) (by rw[z.out];exact .inr b2)];rfl,rfl⟩
    ·have d2:decide (274877906944<x)=false:=aH b2;go_wp2_with fail;go_roundw;case rel=>
      exact⟨k+1,ah,aq,eJ (fun j h=>by
       by_cases e:j<k
       ·exact K.out j e
       ·obtain rfl:j=k:=ah;rw[z.out];omega),trivial⟩
     case measure=>simp[intOf];omega
  ·obtain rfl:k=n:=ah;go_wp2_with fail;go_ret;exact⟨by rw[tZ (fun j h=>K.out j (by rw[s.out] at h;exact h))];rfl,rfl⟩
end
def rW(l:List Int)(m:Int):Prop:=(∃j,j<l.length/\l.getD j 0=m)/\∀j,j<l.length->l.getD j 0<=m
def rM(l:List Int)(m:Int):Prop:=(∃j,j<l.length/\l.getD j 0=m)/\∀j,j<l.length->m<=l.getD j 0
theorem Kk{zs:List Int}{x:Int}(h:zs.getD 0 0=x):(∃j,j<1/\zs.getD j 0=x)/\∀j,j<1->zs.getD j 0<=x:=⟨⟨0,by omega,h⟩,fun j hj=>by
 have e:j=0:=by omega
 rw[e,h];exact dV _⟩
theorem Km{zs:List Int}{x:Int}(h:zs.getD 0 0=x):(∃j,j<1/\zs.getD j 0=x)/\∀j,j<1->x<=zs.getD j 0:=⟨⟨0,by omega,h⟩,fun j hj=>by
 have e:j=0:=by omega
 rw[e,h];exact dV _⟩
theorem KK(A:Option Addr)(c:Nat)(zs:List Int)(w:World)(s:kY w A zs)(h0:0<zs.length)(U:zs.length<=1000):Calls prog 180 #[.slice A zs.length c] w fun e w'=> ∃m,e=.returned (.int .i64 m)/\rW zs m/\w'=w:=by
 obtain⟨b,off,rfl,Z⟩:=s 0 h0;have K:=eJ s;clear s;obtain⟨n,hn⟩:=ab zs.length;have E:=eJ hn;rw[hn] at U h0⊢;clear hn;have d1:decide ((n:Int)<1)=false:=aH ah;obtain⟨O,C⟩: ∃x,zs.getD 0 0=x:=⟨_,rfl⟩;rw[C,eG] at Z;have Y:=eJ C;clear C;go_enter func180,ntmps180;go_wp2_with fail;go_loopw [3,4] (fun m i wr=> ∃(k:Nat) (y:Int),1<=k/\k<=n/\i=.int .i64 k/\m=.int .i64 y/\Hid ((∃j,j<k/\zs.getD j 0=y)/\∀j,j<k->zs.getD j 0<=y)/\Hid (wr=w)) (fun _ i _=>n-(intOf i).toNat);case atStart=>exact⟨1,O,ah,ah,rfl,rfl,eJ (Kk Y.out),eJ rfl⟩
 case round=>
  obtain⟨k,y,ac,hk,rfl,rfl,z,u⟩:=hrel;by_cases T:k<n
  ·obtain⟨aa,al,e,X⟩:=K.out k (by rw[E.out];exact T);cases e;obtain⟨x,I⟩:=ab (zs.getD k 0);rw[I,<-u.out] at X;have J:=eJ I;clear I;go_wp2_with fail;go_roundw;case rel=>
    exact⟨k+1,max y x,ah,ah,aq,rfl,eJ (by
     obtain⟨⟨j,ad,e⟩,h2⟩:=z.out;refine⟨?_,fun i hi=> ?_⟩
     ·rcases Int.le_total x y with h|h
      ·exact⟨j,ah,by rw[e];omega⟩
      ·exact⟨k,ah,by rw[J.out];omega⟩
     ·rcases bW i k with h|h
      ·have:=h2 i h;omega
      ·obtain rfl:i=k:=ah;rw[J.out];omega),u⟩
   case measure=>simp[intOf];omega
  ·obtain rfl:k=n:=ah;go_wp2_with fail;go_ret;exact⟨y,rfl,⟨by rw[E.out];exact z.out.1,by rw[E.out];exact z.out.2⟩,u.out⟩
theorem Mi(A:Option Addr)(c:Nat)(zs:List Int)(w:World)(s:kY w A zs)(h0:0<zs.length)(U:zs.length<=1000):Calls prog 181 #[.slice A zs.length c] w fun e w'=> ∃m,e=.returned (.int .i64 m)/\rM zs m/\w'=w:=by
 obtain⟨b,off,rfl,Z⟩:=s 0 h0;have K:=eJ s;clear s;obtain⟨n,hn⟩:=ab zs.length;have E:=eJ hn;rw[hn] at U h0⊢;clear hn;have d1:decide ((n:Int)<1)=false:=aH ah;obtain⟨O,C⟩: ∃x,zs.getD 0 0=x:=⟨_,rfl⟩;rw[C,eG] at Z;have Y:=eJ C;clear C;go_enter func181,ntmps181;go_wp2_with fail;go_loopw [3,4] (fun m i wr=> ∃(k:Nat) (y:Int),1<=k/\k<=n/\i=.int .i64 k/\m=.int .i64 y/\Hid ((∃j,j<k/\zs.getD j 0=y)/\∀j,j<k->y<=zs.getD j 0)/\Hid (wr=w)) (fun _ i _=>n-(intOf i).toNat);case atStart=>exact⟨1,O,ah,ah,rfl,rfl,eJ (Km Y.out),eJ rfl⟩
 case round=>
  obtain⟨k,y,ac,hk,rfl,rfl,z,u⟩:=hrel;by_cases T:k<n
  ·obtain⟨aa,al,e,X⟩:=K.out k (by rw[E.out];exact T);cases e;obtain⟨x,I⟩:=ab (zs.getD k 0);rw[I,<-u.out] at X;have J:=eJ I;clear I;go_wp2_with fail;go_roundw;case rel=>
    exact⟨k+1,min y x,ah,ah,aq,rfl,eJ (by
     obtain⟨⟨j,ad,e⟩,h2⟩:=z.out;refine⟨?_,fun i hi=> ?_⟩
     ·rcases Int.le_total y x with h|h
      ·exact⟨j,ah,by rw[e];omega⟩
      ·exact⟨k,ah,by rw[J.out];omega⟩
     ·rcases bW i k with h|h
      ·have:=h2 i h;omega
      ·obtain rfl:i=k:=ah;rw[J.out];omega),u⟩
   case measure=>simp[intOf];omega
  ·obtain rfl:k=n:=ah;go_wp2_with fail;go_ret;exact⟨y,rfl,⟨by rw[E.out];exact z.out.1,by rw[E.out];exact z.out.2⟩,u.out⟩
theorem Cx(A:Option Addr)(c:Nat)(zs:List Int)(w:World)(h:kY w A zs)(h0:0<zs.length)(z:zs.length<=1000)(K: ∀j,j<zs.length->-1000000000000000<=zs.getD j 0/\zs.getD j 0<=1000000000000000):Calls prog 143 #[.slice A zs.length c] w fun e w'=> ∃a b,e=.returned (.int .i64 (a-b))/\rW zs a/\rM zs b/\w'=w:=by
 have O:=eJ (KK A c zs w h h0 z);have U:=eJ (Mi A c zs w h h0 z);have s:=eJ K;clear h K;obtain⟨n,hn⟩:=ab zs.length;rw[hn] at h0 O U s⊢;have T:=eJ hn;clear hn;have d1:((n:Int)==0)=false:=aV.2 ah;have d2: ¬n=0:=ah;go_enter func143,ntmps143;go_wp2_with fail;refine O.out.mono ?_;rintro e w1 ⟨a,rfl,J,rfl⟩;have u:=eJ J;clear J;go_wp2_with fail;refine U.out.mono ?_;rintro e w2 ⟨b,rfl,I,rfl⟩;have E:=eJ I;clear I;have C:wrap64 (a-b)=a-b:=by obtain⟨⟨j,X,Z⟩,_⟩:=u.out;obtain⟨⟨i,hi,Y⟩,_⟩:=E.out;have:=s.out j (by rw[<-T.out];exact X);have:=s.out i (by rw[<-T.out];exact hi);unfold wrap64;omega
 have aa:IntKind.i64.wrap (a-b)=a-b:=by rw[ep];unfold wrap64 at C;exact C
 go_wp2_with fail;go_ret;exact⟨a,b,rfl,u.out,E.out,rfl⟩
end Go.Proofs.YtideefjnlakciaaGreatDoor
