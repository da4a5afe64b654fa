/- The contracts of metronomeref.NewMember and of its methods; conditions: the member lies in a block of its own, its set in another one. -/
import Derived.Test.YtideefjnlakciaaGreatDoorQ00
import Derived.Test.YtideefjnlakciaaGreatDoorQ17
import Derived.Test.YtideefjnlakciaaGreatDoorQ01
import Derived.Test.YtideefjnlakciaaGreatDoorQ05
import Derived.Test.YtideefjnlakciaaGreatDoorQ10
import Derived.Laws.MakeOwn
import Derived.BigQuiet
import Derived.RegionTactic
set_option maxRecDepth 1000000
set_option maxHeartbeats 20000000
set_option linter.unusedVariables false
set_option linter.unusedSimpArgs false
namespace Go.Proofs.YtideefjnlakciaaGreatDoor
open Go.RowKit Go.Proofs.Tryz
def mJ(id n gt:Nat)(fe bad:Int)(fz:Bool):Array Value:= #[.int .i64 id,.int .i64 n,.slice (some ⟨gt,0,none⟩) n n,.int .i64 fe,.int .i64 bad,.bool fz]
def rj(n:Nat)(f:Nat->Bool):Array Value:=((List.range n).map fun i=>Value.bool (f i)).toArray
theorem tU{n i:Nat}{f:Nat->Bool}(h:i<n):(rj n f)[i]? =some (.bool (f i)):=by simp[rj,h]
theorem yA{n:Nat}{f:Nat->Bool}{a:Array Value}(hs:a.size=n)(h: ∀i,i<n->a[i]? =some (.bool (f i))):a=rj n f:=by
 apply Array.ext_getElem?;intro i;rcases bW i n with e|j
 ·rw[h i e,tU e]
 ·rw[da ah,da (by simp[rj];omega)]
theorem E1{n:Nat}{f f':Nat->Bool}(h: ∀i,i<n->f i=f' i):rj n f=rj n f':=yA (by simp[rj]) fun i hi=>by rw[tU hi,h i hi]
theorem uc{n:Nat}{f f':Nat->Bool}(k:Nat)(b:Bool)(hk:k<n)(j:f' k=b)(e: ∀i,i<n->i≠k->f' i=f i):(rj n f).setIfInBounds k (.bool b)=rj n f':=by
 apply yA (by simp[rj]);intro i hi;rw[dB];by_cases h:k=i
 ·subst h;simp[rj,hk,j]
 ·rw[aI h,tU hi,e i hi (eC h)]
theorem EF:(prog.info? 4).map (fun i=>(i.zero,i.size,i.bytes))=some (some (.bool false),1,1):=ai
theorem Ik(n:Nat)(hn:n<=16): ∀w:World,(Instr.makeSlice 112 (.int .i64 n) (.int .i64 n)).run prog w=.ok (.slice (some ⟨w.heap.size,0,none⟩) n n) (w.alloc (.cells (rj n fun _=>false) 4)):=by
 obtain⟨i0,hi,j,h,s⟩:=lY EF;intro w;have:=run_makeSlice (P:=prog) w 112 4 i0 (.bool false) underlying112 hi j .i64 .i64 n n ah ah (by rw[h];simp;omega) (by rw[s];simp;omega) ah;have e:madeCells (Value.bool false).cells ((n:Int).toNat*i0.size)=rj n fun _=>false:=by
  apply yA
  ·rw[h];simp[madeCells]
  ·intro k hk;rw[h];simp[madeCells,Value.cells];exact⟨k,by simp[hk],by rw[Nat.mod_one];rfl⟩
 rw[e] at this;simpa using this
theorem eN.qp{w:World}{g id n gt:Nat}{fe bad:Int}{fz:Bool}(h:eN w g 114 (mJ id n gt fe bad fz)):w.cell? ⟨g,0,none⟩=some (.int .i64 id)/\w.cell? ⟨g,1,none⟩=some (.int .i64 n)/\w.cell? ⟨g,2,none⟩=some (.slice (some ⟨gt,0,none⟩) n n)/\w.cell? ⟨g,3,none⟩=some (.int .i64 fe)/\w.cell? ⟨g,4,none⟩=some (.int .i64 bad)/\w.cell? ⟨g,5,none⟩=some (.bool fz):=⟨h.cell 0,h.cell 1,h.cell 2,h.cell 3,h.cell 4,h.cell 5⟩
theorem eN.tk{w:World}{g n i:Nat}{f:Nat->Bool}(h:eN w g 4 (rj n f))(hi:i<n):w.cell? ⟨g,i,none⟩=some (.bool (f i)):=(h.cell i).trans (tU hi)
theorem Cw{m k:Nat}(hm:m<65536)(hk:k<17)(h:m.testBit k=true): ∃X:Int,bits .and .i64 (m:Int) (wrap64 (2^k))=X/\X≠0/\(X==0)=false/\(X !=0)=true:=by rw[yX m k hm hk,h];have:=cQ k;have h0:((2^k:Nat):Int)≠0:=ah;exact⟨_,rfl,h0,aV.2 h0,dP.2 h0⟩
theorem yP{m k:Nat}(hm:m<65536)(hk:k<17)(h:m.testBit k=false):bits .and .i64 (m:Int) (wrap64 (2^k))=0:=by rw[yX m k hm hk,h];rfl
theorem sR{P:Nat->Prop}{k:Nat}(h: ∀j,j<k->P j)(hk:P k): ∀j,j<k+1->P j:=fun j e=>by
 rcases bW j k with h1|h1
 ·exact h j h1
 ·obtain rfl:j=k:=ah;exact hk
theorem Lj(m k:Nat)(hk:k<16):wrap64 (((m%2^k:Nat):Int)+wrap64 (2^k))=((m%2^k+2^k:Nat):Int):=by rw[iL k ah];have h1:2^k<=2^15:=aX aj ah;have h2:=Nat.mod_lt m (cQ k);generalize m%2^k=r at*;generalize 2^k=x at*;unfold wrap64;omega
def Co(w:World)(g gt:Nat)(cs:Array Value)(n:Nat)(f:Nat->Bool)(w':World):Prop:=eN w' g 114 cs/\eN w' gt 4 (rj n f)/\fL w w' g (some gt)
section
variable (g gt id n m:Nat)(fe bad:Int)(fz:Bool)
theorem yd(w:World)(j:eN w g 114 (mJ id n gt fe bad fz))(u:eN w gt 4 (rj n (m.testBit ·)))(hn:n<=16)(hm:m<2^n):Calls prog 36 #[.pointer (some ⟨g,0,none⟩)] w fun e w'=>e=.returned (.int .i64 (m:Nat))/\w'=w:=by
 have aa:=eJ j;have I:=eJ u;obtain⟨Z,K,T,O,J,X⟩:=j.qp;clear j u;go_enter func36,ntmps36;go_wp2_with fail;go_loopw [3,11] (fun v i wr=> ∃k:Nat,k<=n/\i=.int .i64 k/\v=.int .i64 (m%2^k:Nat)/\wr=w) (fun _ i _=>n-(intOf i).toNat);case atStart=>exact⟨0,ah,rfl,by simp[Nat.mod_one],rfl⟩
 case round=>
  obtain⟨k,hk,rfl,rfl,rfl⟩:=hrel;by_cases E:k<n
  ·have U:=I.out.tk E;obtain⟨Y,s⟩:=ab (m%2^k);have z:=eJ (Lj m k ah);have h:=eJ (mod_succ m k);rw[s] at z h⊢;clear s;generalize m.testBit k=t at*;cases t;case true=>
    go_wp2_with fail;go_roundw;case rel=>exact⟨k+1,ah,aq,by rw[z.out,h.out];rfl,trivial⟩
    case measure=>simp[intOf];omega
   case false=>
    go_wp2_with fail;go_roundw;case rel=>exact⟨k+1,ah,aq,by rw[h.out];rfl,trivial⟩
    case measure=>simp[intOf];omega
  ·obtain rfl:n=k:=ah;have C:m%2^n=m:=Nat.mod_eq_of_lt hm;rw[C];clear hm C;go_wp2_with fail;go_ret;exact⟨rfl,rfl⟩
theorem A0(w:World)(fr mm:Int)(u:eN w g 114 (mJ id n gt fe bad fz))(s:eN w gt 4 (rj n (m.testBit ·)))(be:1<=n)(hn:n<=16)(hm:m<2^n):Calls prog 82 #[.pointer (some ⟨g,0,none⟩),.int .i64 fr,.int .i64 mm] w fun e w'=>e=.returned (.int .i64 (rh n m fr mm))/\w'=w:=by
 have a7:=eJ u;have a3:=eJ s;obtain⟨a5,a8,bd,a6,bb,a9⟩:=u.qp;have hp:wrap64 (2^n)=((2^n:Nat):Int):=iL n ah;have h16:2^n<=2^16:=aX aj hn;obtain⟨N,I⟩:=ab (2^n);rw[I] at hp h16;clear u s;by_cases aa:0<=fr/\fr<n
 ·have E:ij fr 0 ((n:Int)-1)=true:=by simp[ij];omega
  have O:=eJ (fE fr 0 ((n:Int)-1) true E);by_cases h0:mm<0
  ·have d0:decide (mm<0)=true:=aJ h0;rw[rv (.inr (.inr (.inl h0)))];clear E aa I;go_enter func82,ntmps82;go_wp2_with (go_at_call 31;refine(O.out _).mono ?_;rintro e w' ⟨rfl,rfl⟩);go_ret;exact⟨rfl,rfl⟩
  ·have d0:decide (mm<0)=false:=aH h0;by_cases h1:(N:Int)<=mm
   ·have d1:decide ((N:Int)<=mm)=true:=aJ h1;rw[rv (.inr (.inr (.inr (by rw[I];exact h1))))];clear E aa I;go_enter func82,ntmps82;go_wp2_with (go_at_call 31;refine(O.out _).mono ?_;rintro e w' ⟨rfl,rfl⟩);go_ret;exact⟨rfl,rfl⟩
   ·have d1:decide ((N:Int)<=mm)=false:=aH h1;obtain⟨F,rfl⟩: ∃F:Nat,fr=F:=⟨fr.toNat,ah⟩;obtain⟨h,rfl⟩: ∃h:Nat,mm=h:=⟨mm.toNat,ah⟩;rw[yk hm ah];obtain⟨V,al⟩:=ab (gW m F h);rw[al];have a0:=eJ al;clear al;have a4:Hid (h<2^n):=eJ ah;have hF:F<n:=ah;have K:h<65536:=ah;have d2:decide (N<=h)=false:=aH ah;clear E aa I h0 h1;go_enter func82,ntmps82;go_wp2_with (go_at_call 31;refine(O.out _).mono ?_;rintro e w' ⟨rfl,rfl⟩);clear d0 d1 hp;go_loopw [36] (fun i wr=> ∃k:Nat,k<=n/\i=.int .i64 k/\Hid (∀j,j<k->nf m F h j=true)/\wr=w) (fun i _=>n-(intOf i).toNat);case atStart=>exact⟨0,ah,rfl,eJ (fun j ad=>ah),rfl⟩
    case round=>
     obtain⟨k,hk,rfl,ac,rfl⟩:=hrel;by_cases a2:k<n
     ·have z:=a3.out.tk a2;have h17:k<17:=ah;cases C:nf m F h k;case true=>
       have Z:=eJ C;clear C;by_cases U:k=F
       ·subst U;have u:h.testBit k=true:=by have:=Z.out;unfold nf at this;rwa[aM rfl] at this
        obtain⟨X,Y,aA,ap,am⟩:=Cw K h17 u;generalize m.testBit k=t at z;clear u;go_wp2_with fail;go_roundw;case rel=>exact⟨k+1,ah,aq,eJ (sR ac.out Z.out),trivial⟩
        case measure=>simp[intOf];omega
       ·have u:h.testBit k=m.testBit k:=by have:=Z.out;unfold nf at this;rw[aI U] at this;simpa using this
        rw[<-u] at z;have hq:((k:Int)==(F:Int))=false:=by rw[aV];omega
        clear u;cases s:h.testBit k;case true=>
         rw[s] at z;obtain⟨X,Y,aA,ap,am⟩:=Cw K h17 s;clear s;go_wp2_with fail;go_roundw;case rel=>exact⟨k+1,ah,aq,eJ (sR ac.out Z.out),trivial⟩
         case measure=>simp[intOf];omega
        case false=>
         rw[s] at z;have Y:=yP K h17 s;clear s;go_wp2_with fail;go_roundw;case rel=>exact⟨k+1,ah,aq,eJ (sR ac.out Z.out),trivial⟩
         case measure=>simp[intOf];omega
      case false=>
       have J:gW m F h=2:=by unfold gW;rw[FA C];rfl
       have T:Hid (2=V):=eJ (by rw[<-a0.out,J]);by_cases U:k=F
       ·subst U;have u:h.testBit k=false:=by have:=C;unfold nf at this;rwa[aM rfl] at this
        have Y:=yP K h17 u;generalize m.testBit k=t at z;clear u C J;go_wp2_with fail;go_ret;exact⟨lh T.out,rfl⟩
       ·have u:h.testBit k= !m.testBit k:=by have:=C;unfold nf at this;rw[aI U] at this;revert this;cases h.testBit k<;>cases m.testBit k<;>simp
        have hq:((k:Int)==(F:Int))=false:=by rw[aV];omega
        have ao:m.testBit k= !h.testBit k:=by rw[u];simp
        rw[ao] at z;clear u ao C J;cases s:h.testBit k;case true=>rw[s] at z;obtain⟨X,Y,aA,ap,am⟩:=Cw K h17 s;clear s;simp only[eA,ej] at z;go_wp2_with fail;go_ret;exact⟨lh T.out,rfl⟩
        case false=>rw[s] at z;have Y:=yP K h17 s;clear s;simp only[eA,ej] at z;go_wp2_with fail;go_ret;exact⟨lh T.out,rfl⟩
     ·obtain rfl:n=k:=ah;have ad:=Gg hm a4.out hF ac.out;have J:gW m F h=1:=by unfold gW;rw[ad];rfl
      have T:Hid (1=V):=eJ (by rw[<-a0.out,J]);clear ad J;go_wp2_with fail;go_ret;exact⟨lh T.out,rfl⟩
 ·have E:ij fr 0 ((n:Int)-1)=false:=by simp[ij];omega
  have O:=eJ (fE fr 0 ((n:Int)-1) false E);rw[rv ah];clear E aa I;go_enter func82,ntmps82;go_wp2_with (go_at_call 31;refine(O.out _).mono ?_;rintro e w' ⟨rfl,rfl⟩);go_ret;exact⟨rfl,rfl⟩
end
theorem eN.vR{w:World}{g k:Nat}{t:TypeId}{cs:Array Value}(h:eN w k t cs)(e:k≠g)(i:Nat)(u:Value):eN (w.setCell ⟨g,i,none⟩ u) k t cs:=h.iI (by exact e) u
theorem fL.NA{w w':World}{g b:Nat}(h:fL w w' g (some b))(i:Nat)(u:Value):fL w (w'.setCell ⟨b,i,none⟩ u) g (some b):=⟨h.os,h.tape,h.output,by simpa[World.setCell] using h.size,fun k hk h1 h2=>(aW w' _ u k (fun e=>h2 (by rw[e]))).trans (h.block k hk h1 h2)⟩
section
variable (g gt id n m:Nat)(fe bad:Int)(fz:Bool)
theorem vr(w:World)(z:eN w g 114 (mJ id n gt fe bad fz))(J:eN w gt 4 (rj n (m.testBit ·)))(C:g≠gt)(hn:n<=16)(hm:m<2^n):Calls prog 80 #[.pointer (some ⟨g,0,none⟩)] w fun e w'=>e=.returned (.tuple #[.int .i64 (gR m fe bad fz),.bool (fs fe bad fz)])/\Co w g gt (mJ id n gt (sG fe bad fz) (sB fe bad fz) (!fs fe bad fz)) n (m.testBit ·) w':=by
 have I:=eJ z;have E:=eJ J;obtain⟨Y,O,U,T,K,X⟩:=z.qp;have f3:=z.frozen 3;have f4:=z.frozen 4;have f5:=z.frozen 5;clear z J;cases fz;case true=>
  have s:gR m fe bad true=0:=by simp[gR,fs]
  have j:fs fe bad true=false:=by simp[fs]
  have u:mJ id n gt (sG fe bad true) (sB fe bad true) (!fs fe bad true)=mJ id n gt fe bad true:=by simp[sG,sB,fs]
  rw[u,s,j];clear s j u;go_enter func80,ntmps80;go_wp2;go_ret2;exact⟨rfl,I.out,E.out,fL.refl _ _ _⟩
 case false=>
  by_cases h:fe<=bad
  ·have j:fs fe bad false=false:=by simp[fs];omega
   have s:gR m fe bad false=0:=by unfold gR;rw[j];rfl
   have u:mJ id n gt (sG fe bad false) (sB fe bad false) (!fs fe bad false)=mJ id n gt fe bad true:=by simp[sG,sB,j]
   rw[u,s,j];clear s j u;have d1:decide (fe<=bad)=true:=aJ h;go_enter func80,ntmps80;go_wp2;go_quiet (fail);go_wp2;go_ret2;exact⟨rfl,(I.out.drewN _).eS 5 _,(E.out.drewN _).vR C.symm _ _,((fL.refl _ _ _).drewN _).eS 5 _⟩
  ·have j:fs fe bad false=true:=by simp[fs];omega
   have s:gR m fe bad false=m:=by unfold gR;rw[j];rfl
   have u:mJ id n gt (sG fe bad false) (sB fe bad false) (!fs fe bad false)=mJ id n gt 1 0 false:=by simp[sG,sB,j]
   rw[u,s,j];clear s j u;have d1:decide (fe<=bad)=false:=aH h;go_enter func80,ntmps80;go_wp2;go_quiet (fail);go_wp2_with fail;refine(yd g gt id n m 1 0 false _ (by exact((I.out.drewN _).eS 3 _).eS 4 _) (by exact((E.out.drewN _).vR C.symm _ _).vR C.symm _ _) hn hm).mono ?_;rintro e w2 ⟨rfl,rfl⟩;go_wp2;go_ret2;exact⟨rfl,((I.out.drewN _).eS 3 _).eS 4 _,((E.out.drewN _).vR C.symm _ _).vR C.symm _ _,(((fL.refl _ _ _).drewN _).eS 3 _).eS 4 _⟩
theorem uX(w:World)(fr j:Int)(I:eN w g 114 (mJ id n gt fe bad fz))(X:eN w gt 4 (rj n (m.testBit ·)))(U:g≠gt)(a5:1<=n)(hn:n<=16)(g0:0<=fe)(g1:fe<=1000000000000)(b0:0<=bad)(b1:bad<=1000000000000):Calls prog 84 #[.pointer (some ⟨g,0,none⟩),.int .i64 fr,.int .i64 j] w fun e w'=>e=.returned (.tuple #[])/\Co w g gt (mJ id n gt (hG id n fe fz fr j) (hB id n bad fz fr j) fz) n ((hM id n m fz fr j).testBit ·) w':=by
 have K:=eJ I;have J:=eJ X;obtain⟨am,aA,a4,ao,a3,a0⟩:=I.qp;have f3:=I.frozen 3;have f4:=I.frozen 4;cases s:GJ id n fz fr j;case false=>
  rw[PS s,Pz s,OY s];clear I X;cases fz;case true=>clear s;go_enter func84,ntmps84;go_wp2;refine aR (eE rfl _ _ _) rfl ⟨rfl,K.out,J.out,fL.refl _ _ _⟩
  case false=>obtain⟨v1,Y⟩: ∃v,ij fr 0 ((n:Int)-1)=v:=⟨_,rfl⟩;obtain⟨v2,Z⟩: ∃v,ij j 0 2=v:=⟨_,rfl⟩;have T:=eJ (fE fr 0 ((n:Int)-1) v1 Y);have O:=eJ (fE j 0 2 v2 Z);have ac:Hid (v1=false\/(v1=true/\(fr==(id:Int))=true)\/(v1=true/\(fr==(id:Int))=false/\v2=false)):=eJ (by subst Y Z;simp only[GJ,ij,ej,Bool.true_and,dH,Bool.not_eq_false',di,bI,dy,aV,cR] at s⊢;omega);clear s Y Z;rcases ac.out with rfl|⟨rfl,h1⟩|⟨rfl,h1,rfl⟩;all_goals clear ac;go_enter func84,ntmps84;go_wp2_with (go_at_call 31;first|(with_reducible refine(T.out _).mono ?_;rintro e w' ⟨rfl,rfl⟩)|(with_reducible refine(O.out _).mono ?_;rintro e w' ⟨rfl,rfl⟩));refine aR (eE rfl _ _ _) rfl ⟨rfl,K.out,J.out,fL.refl _ _ _⟩
 case true=>
  have h:fz=false/\0<=fr/\fr<n/\fr≠id/\0<=j/\j<=2:=by simp[GJ] at s;obtain⟨⟨⟨⟨⟨a,b⟩,c⟩,d⟩,e⟩,f⟩:=s;exact⟨a,b,c,d,e,f⟩
  obtain⟨rfl,al,a2,ad,w0,w2⟩:=h;obtain⟨F,rfl⟩: ∃F:Nat,fr=F:=⟨fr.toNat,ah⟩;have T:=eJ (fE (F:Int) 0 ((n:Int)-1) true (by simp[ij];omega));have O:=eJ (fE j 0 2 true (by simp[ij];omega));have hid:((F:Int)==(id:Int))=false:=aV.2 ad;have hF:F<n:=ah;have c0:=X.tk hF;have ap:=X.frozen F;generalize m.testBit F=t0 at c0;have aa:=eJ hF;have E:Hid (hM id n m false (F:Int) j=if j=1 then m|||2^F else yz m (2^F)):=eJ (by unfold hM;rw[s,aM rfl];rfl);have z:Hid (hG id n fe false (F:Int) j=if j=1 then fe+1 else fe):=eJ (by unfold hG;rw[s];simp);have C:Hid (hB id n bad false (F:Int) j=if j=2 then bad+1 else bad):=eJ (by unfold hB;rw[s];simp);clear I X s ad;by_cases h1:j=1
  ·subst h1;rw[z.out,C.out,E.out,aM rfl,aI aj,aM rfl];clear E z C w0 w2;go_enter func84,ntmps84;go_wp2_with (go_at_call 31;first|(with_reducible refine(T.out _).mono ?_;rintro e w' ⟨rfl,rfl⟩)|(with_reducible refine(O.out _).mono ?_;rintro e w' ⟨rfl,rfl⟩));go_end0;have u:=J.out.eS F (.bool true);rw[uc (f':=((m|||2^F).testBit ·)) F true aa.out (FW m F) (fun i _ hi=>BA hi)] at u;exact⟨rfl,(K.out.vR U F _).eS 3 _,u.vR U.symm 3 _,((fL.refl _ _ _).NA F _).eS 3 _⟩
  ·have d1:(j==1)=false:=aV.2 h1;by_cases h2:j=2
   ·subst h2;rw[z.out,C.out,E.out,aI h1,aI h1,aM rfl];clear E z C w0 w2 h1;go_enter func84,ntmps84;go_wp2_with (go_at_call 31;first|(with_reducible refine(T.out _).mono ?_;rintro e w' ⟨rfl,rfl⟩)|(with_reducible refine(O.out _).mono ?_;rintro e w' ⟨rfl,rfl⟩));go_end0;have u:=J.out.eS F (.bool false);rw[uc (f':=((yz m (2^F)).testBit ·)) F false aa.out (vQ m F) (fun i _ hi=>tj hi)] at u;exact⟨rfl,(K.out.vR U F _).eS 4 _,u.vR U.symm 4 _,((fL.refl _ _ _).NA F _).eS 4 _⟩
   ·obtain rfl:j=0:=ah;rw[z.out,C.out,E.out,aI h1,aI h1,aI h2];clear E z C w0 w2 h1 h2;go_enter func84,ntmps84;go_wp2_with (go_at_call 31;first|(with_reducible refine(T.out _).mono ?_;rintro e w' ⟨rfl,rfl⟩)|(with_reducible refine(O.out _).mono ?_;rintro e w' ⟨rfl,rfl⟩));go_end0;have u:=J.out.eS F (.bool false);rw[uc (f':=((yz m (2^F)).testBit ·)) F false aa.out (vQ m F) (fun i _ hi=>tj hi)] at u;exact⟨rfl,K.out.vR U F _,u,(fL.refl _ _ _).NA F _⟩
end
def Bz(bag que:Int)(v:Value)(went last nw:Int):Array Value:= #[.int .i64 bag,.int .i64 que,v,.int .i64 went,.int .i64 last,.int .i64 nw]
theorem eN.qD{w:World}{g:Nat}{t:TypeId}{a0 a1 a2 a3 a4 a5:Value}(h:eN w g t #[a0,a1,a2,a3,a4,a5]):w.cell? ⟨g,0,none⟩=some a0/\w.cell? ⟨g,1,none⟩=some a1/\w.cell? ⟨g,2,none⟩=some a2/\w.cell? ⟨g,3,none⟩=some a3/\w.cell? ⟨g,4,none⟩=some a4/\w.cell? ⟨g,5,none⟩=some a5:=⟨by simpa using h.cell 0,by simpa using h.cell 1,by simpa using h.cell 2,by simpa using h.cell 3,by simpa using h.cell 4,by simpa using h.cell 5⟩
def nJ(w:World)(base g:Nat)(bag que:Int)(v:Value)(went last nw:Int)(all:List ByteArray)(w':World):Prop:= ∃v',eN w' g 142 (Bz bag que v' went last nw)/\fK w' base 9 v' (sv all)/\fL w w' g v.ownBlock/\Own w w' v v'
theorem nJ.same{w w':World}{base g:Nat}{bag que:Int}{v:Value}{went last nw:Int}{all:List ByteArray}(h:eN w g 142 (Bz bag que v went last nw))(s:fK w base 9 v (sv all))(j: ∀k,v.ownBlock=some k->k<w.heap.size)(hB:Below w.heap.size w w'):nJ w base g bag que v went last nw all w':=⟨v,h.below hB h.lt,s.below hB (ar),fL.fC hB _ _,fun k e=>⟨aN (j k e) hB.size,.inl e⟩⟩
section
variable {w w1 w2:World}{bag que:Int}{g1:Nat}{v1:Value}{nx la nw:Int}{q:List ByteArray}{g2:Nat}{v2:Value}{went:Nat}{last nw2:Int}{all:List ByteArray}
end
theorem FJ(k:Nat)(w:World)(hk:k<=100000):Calls prog 121 #[.int .i64 k] w fun e w'=>e=.returned (.int .i64 (wU k))/\w'=w:=by
 have u:=eJ hk;by_cases h0:k=0
 ·subst h0;go_enter func121,ntmps121;go_wp2_with fail;go_ret;exact⟨rfl,rfl⟩
 ·obtain⟨j,rfl⟩: ∃j,k=j+1:=⟨k-1,ah⟩;have d1:((j:Int)+1==0)=false:=by rw[aV];omega
  have h:wU (j+1)=(j:Int)%255+1:=by unfold wU;rw[aI h0,dD];push_cast;rfl
  rw[h];clear h0 h;have s:j<=100000:=ah;go_enter func121,ntmps121;go_wp2_with fail;go_ret;exact⟨lh ak,rfl⟩
section
variable (g base:Nat)(bag que:Int)(v:Value)(went:Nat)(last nw:Int)(all:List ByteArray)
theorem I0(w:World)(d:ByteArray)(e:Int)(he:Hid (jg d.size (all.length-went) que=e))(u:eN w g 142 (Bz bag que v went last nw))(s:fK w base 9 v (sv all))(z: ∀k,v.ownBlock=some k->k<w.heap.size)(ac:v.ownBlock≠some g)(Z:base<=w.heap.size)(hd:d.size<=maxLen)(hq:all.length<=1000)(hw:went<=all.length):Calls prog 32 #[.pointer (some ⟨g,0,none⟩),.string d] w fun r w'=>r=.returned (.int .i64 e)/\nJ w base g bag que v went last nw (lu all d e) w':=by
 have j:=he.out;unfold jg at j;unfold maxLen at hd;by_cases h1:40<d.size
 ·have d1:decide ((40:Int)<(d.size:Int))=true:=aJ ah;rw[aM h1] at j;subst j;have C:=eJ (nJ.same u s z (au));clear h1 he u s z hd hq hw;go_enter func32,ntmps32;go_wp2_with fail;go_ret;exact⟨rfl,by rw[qo _ _ aj];exact C.out⟩
 ·have d1:decide ((40:Int)<(d.size:Int))=false:=aH ah;rw[aI h1] at j;obtain⟨ao,c,J,I⟩:=s.shape;obtain⟨c0,c1,c2,c3,c4,c5⟩:=u.qD;rw[jL] at J I;have U:((all.length-went:Nat):Int)=(all.length:Int)-(went:Int):=ah;rw[U] at j;clear U;by_cases h2:que<=(all.length:Int)-(went:Int)
  ·have d2:decide (que<=(all.length:Int)-(went:Int))=true:=aJ h2;rw[aM h2] at j;subst j;have C:=eJ (fun w' hB=>nJ.same (w':=w') u s z hB);subst J;clear h1 h2 he u s z hd I;go_enter func32,ntmps32;go_wp2_with fail;go_quiet (fail);go_wp2_with fail;go_ret;exact⟨rfl,by rw[qo _ _ aj];exact C.out _ (below_drewN (au) _)⟩
  ·have d2:decide (que<=(all.length:Int)-(went:Int))=false:=aH h2;rw[aI h2] at j;subst j;subst J;have Y:=eJ u;have am:=eJ s;have bb:=eJ z;have O:=eJ ac;have a4:=eJ Z;have al:=eJ hq;obtain⟨i0,hi,a2,a3,a6⟩:=lY rJ;clear h1 h2 he u s z hd I Z ac;go_enter func32,ntmps32;go_wp2_with fail;go_quiet (fail);go_wp2_with (at_builtin;go_must (refine gu _ rfl (.tmp 27) (.tmp 29) _ rfl base 9 i0 _ 16 underlying52 hi a2 a3 a6 rfl (.slice ao all.length c) (sv all) rfl (by exact(am.out.drewN _).alloc _) w.heap.size 0 1 (.string d) rfl (by exact(eN.new (w.drewN _) 9 #[.string d]).cells1.1) rfl (by have:=al.out;simp[maxLen,jL];omega) (by have:=al.out;simp[jL];omega) (by have:=a4.out;simp;omega) ?_);intro g1 a8 a5 w3 ad E aa a0 X;have aA:=eJ ad;have K:=eJ (((Y.out.drewN _).alloc _).grown E (fun e=>O.out e.symm));have ap:=eJ ((((fL.refl w g (Value.slice ao all.length c).ownBlock).drewN _).alloc _).uB E);have T:=eJ aa;have a9:=eJ X;have be:=K.out.frozen 2;obtain⟨_,_,bd,_,_,_⟩:=K.out.qD;clear ad E aa a0 X);go_ret;have a7:(Value.slice (some ⟨g1,a8,none⟩) ((sv all).length+1) a5).ownBlock≠some g:=by
    intro e;simp[Value.ownBlock] at e;subst e;rcases T.out with h|h
    ·exact O.out h
    ·have:=Y.out.lt;simp at h;omega
   refine⟨rfl,_,K.out.eS 2 _, ?_,ap.out.eS 2 _, ?_⟩
   ·rw[sN,tS];exact fK.iI (p:=⟨g,2,none⟩) aA.out a7 _
   ·intro k e;simp[Value.ownBlock] at e;subst e;refine⟨by simpa[World.setCell] using a9.out, ?_⟩;rcases T.out with h|h
    ·exact .inl h
    ·right;simp at h;omega
def Nj(w:World)(base g:Nat)(bag que:Int)(v:Value)(went:Nat)(last nw:Int)(all:List ByteArray)(now e:Int)(r:Ending)(w':World):Prop:=(e≠0/\r=.returned (.tuple #[.int .i64 0,.string ⟨#[]⟩,.int .i64 e])/\nJ w base g bag que v went last (DC e now nw) all w')\/(e=0/\∃d,all[went]? =some d/\r=.returned (.tuple #[.int .i64 (wU went),.string d,.int .i64 0])/\nJ w base g bag que v ((went+1:Nat):Int) now now all w')
theorem EO(w:World)(now:Int)(e:Int)(he:Hid (Qa now last nw bag went all.length=e))(s:eN w g 142 (Bz bag que v went last nw))(u:fK w base 9 v (sv all))(E: ∀k,v.ownBlock=some k->k<w.heap.size)(aA:v.ownBlock≠some g)(b3:0<=last/\last<=1099511627776)(bt:1<=bag/\bag<=1099511627776)(hq:all.length<=1000)(hw:went<=all.length):Calls prog 81 #[.pointer (some ⟨g,0,none⟩),.int .i64 now] w fun r w'=>Nj w base g bag que v went last nw all now e r w':=by
 have h:=he.out;unfold Qa at h;obtain⟨ao,c,am,bn⟩:=u.shape;obtain⟨c0,c1,c2,c3,c4,c5⟩:=s.qD;rw[jL] at am bn;by_cases h1:now<0\/1099511627776<now
 ·have d1:ij now 0 1099511627776=false:=by unfold ij;simp;omega
  rw[aM h1] at h;subst h;have Z:=eJ (fun w' hB=>nJ.same (w':=w') s u E hB);clear h1 he s u E hq hw;go_enter func81,ntmps81;go_wp2_with fail;refine(fE now 0 1099511627776 false d1 _).mono ?_;rintro e w2 ⟨rfl,rfl⟩;go_wp2_with fail;go_ret3;exact Or.inl ⟨aj,rfl,Z.out _ (au)⟩
 ·have d1:ij now 0 1099511627776=true:=by unfold ij;simp;omega
  rw[aI h1] at h;have b9:0<=now/\now<=1099511627776:=ah;by_cases h2:now<nw
  ·have d2:decide (now<nw)=true:=aJ h2;rw[aM h2] at h;subst h;have Z:=eJ (fun w' hB=>nJ.same (w':=w') s u E hB);clear h1 h2 he s u E hq hw;go_enter func81,ntmps81;go_wp2_with fail;refine(fE now 0 1099511627776 true d1 _).mono ?_;rintro e w2 ⟨rfl,rfl⟩;go_wp2_with fail;go_ret3;exact Or.inl ⟨aj,rfl,Z.out _ (au)⟩
  ·have d2:decide (now<nw)=false:=aH h2;rw[aI h2] at h;obtain⟨W1,I⟩:=ae (w.setCell ⟨g,5,none⟩ (.int .i64 now));have al:eN W1 g 142 (Bz bag que v went last now):=by rw[I];exact s.eS 5 _
   have be:fK W1 base 9 v (sv all):=by rw[I];exact u.iI (p:=⟨g,5,none⟩) aA _
   have a3:fL w W1 g v.ownBlock:=by rw[I];exact(fL.refl w g _).eS 5 _
   have bm:=s.frozen 5;have a7:=eJ al;have a4:=eJ be;have bb:=eJ a3;have a9:=eJ E;have aa:=eJ aA;have bw:=eJ s.lt;clear h1 h2 he s u E be a3 aA;obtain⟨b,j⟩: ∃b:Bool,decide (went=all.length\/(0<went/\now<last+bag))=b:=⟨_,rfl⟩;go_enter func81,ntmps81;go_wp2_with fail;refine(fE now 0 1099511627776 true d1 _).mono ?_;rintro e w2 ⟨rfl,rfl⟩;go_wp2_with fail;rw[<-I];clear I c0 c1 c2 c3 c4 c5 bm;obtain⟨c0,c1,c2,c3,c4,c5⟩:=al.qD;clear al;go_upto_region 6 with fail;go_cut [49] from 20 to 49 (fun v bj=>v=.bool b/\∃n,bj=W1.drewN n);case first=>
    subst am;by_cases T:went=all.length
    ·obtain rfl:true=b:=by rw[<-j];simp[T]
     have d3:((went:Int)==(all.length:Int))=true:=by rw[T];simp
     clear T j;go_quiet (fail);go_wp2_with fail;go_meet;case rel=>exact⟨rfl,_,rfl⟩
    ·have d3:((went:Int)==(all.length:Int))=false:=by rw[aV];omega
     by_cases a6:0<went
     ·have d4:decide ((0:Int)<(went:Int))=true:=aJ ah;have bi:decide (0<went)=true:=aJ ah;have d5:decide (now<last+bag)=b:=by rw[<-j];apply cG.2;omega
      clear T a6 j;go_quiet (fail);go_wp2_with fail;go_meet;case rel=>exact⟨rfl,_,rfl⟩
     ·have d4:decide ((0:Int)<(went:Int))=false:=aH ah;have bi:decide (0<went)=false:=aH ah;obtain rfl:false=b:=by rw[<-j];symm;apply aH;omega
      clear T a6 j;go_quiet (fail);go_wp2_with fail;go_meet;case rel=>exact⟨rfl,_,rfl⟩
   case rest=>
    obtain⟨rfl,nq,rfl⟩:=hcut;have z:=eJ (a7.out.drewN nq);have O:=eJ (a4.out.drewN nq);have K:=eJ (bb.out.drewN nq);obtain⟨W2,bf⟩:=ae (W1.drewN nq);rw[<-bf] at z O K⊢;clear bf a7 a4 bb c0 c1 c2 c3 c4 c5;obtain⟨c0,c1,c2,c3,c4,c5⟩:=z.out.qD;have a8:DC 8 now nw=now:=by unfold DC;rw[aI aj]
    cases b;case true=>have U:=dv j;rw[aM U] at h;subst h;clear j U;go_wp2_with fail;go_ret3;exact Or.inl ⟨aj,rfl,by rw[a8];exact⟨v,z.out,O.out,K.out,fun k e=>⟨aN (a9.out k e) K.out.size,.inl e⟩⟩⟩
    case false=>
     have U:=of_decide_eq_false j;rw[aI U] at h;subst h;have Y:went<all.length:=ah;have a0:all[went]? =some all[went]:=aF Y;obtain⟨d,hd⟩:=ab (all[went]);rw[hd] at a0;have ad:=eJ a0;clear j U a8 hd a0;subst am;obtain⟨J,off,rfl,a2,bz,C⟩:=O.out.block ah;have a5:W2.cell? ⟨J,off+went,none⟩=some (.string d):=by rw[C went Y];simp[sv,ad.out]
     have b8:=eJ a2;have b6:=eJ C;have f3:=z.out.frozen 3;have f4:=z.out.frozen 4;have bq:g≠J:=by rintro rfl;exact aa.out rfl
     have b2:J≠g:=eC bq;clear a2 C;go_upto_region 10 with fail;have ap:=eJ (show eN ((W2.setCell ⟨g,4,none⟩ (.int .i64 now)).setCell ⟨g,3,none⟩ (.int .i64 ((went:Int)+1))) g 142 (Bz bag que (.slice (some ⟨J,off,none⟩) all.length c) ((went:Int)+1) now now) from(z.out.eS 4 _).eS 3 _);have ac:=eJ ((O.out.iI (p:=⟨g,4,none⟩) aa.out (.int .i64 now)).iI (p:=⟨g,3,none⟩) aa.out (.int .i64 ((went:Int)+1)));have X:=eJ ((K.out.eS 4 (.int .i64 now)).eS 3 (.int .i64 ((went:Int)+1)));obtain⟨W3,bd⟩:=ae ((W2.setCell ⟨g,4,none⟩ (.int .i64 now)).setCell ⟨g,3,none⟩ (.int .i64 ((went:Int)+1)));rw[<-bd] at ap ac X⊢;clear bd z O K c0 c1 c2 c3 c4 c5 a5 f3 f4;obtain⟨b4,bv,bk,_,_,C⟩:=ac.out.block ah;cases bk;have a5:W3.cell? ⟨J,off+went,none⟩=some (.string d):=by rw[C went Y];simp[sv,ad.out]
     obtain⟨c0,c1,c2,c3,c4,c5⟩:=ap.out.qD;have bx:(went:Int)<(all.length:Int):=ah;have b7:(0:Int)<=(went:Int):=ah;have b5:(went:Int)+1-1=(went:Int):=ah;have bl:=eJ (fun w0=>FJ went w0 ah);clear C;go_quiet ((go_at_call 121;with_reducible exact bc (bl.out _)));go_wp2_with fail;go_ret3;exact Or.inr ⟨rfl,d,ad.out,rfl,⟨_,ap.out.drewN _,ac.out.drewN _,X.out.drewN _,fun k e=>⟨aN (a9.out k e) X.out.size,.inl e⟩⟩⟩
end
structure GO where
 eX:List Nat
 At:World→Prop
 iP: ∀{w w':World},At w→(∀k,k<w.heap.size→k∈eX→w'.heap[k]? =w.heap[k]?)→At w'
def GO.none:GO:=⟨[],fun _=>True,fun _ _=>trivial⟩
def GO.eW(g:Nat)(t:TypeId)(cs:Array Value):GO:=⟨[g],fun w=>eN w g t cs,fun h hk=>(hk _ h.lt ak).trans h⟩
def GO.arr(base:Nat)(t:TypeId)(v:Value)(l:List Value):GO:=⟨v.ownBlock.toList,fun w=>fK w base t v l,fun h hk=>h.iP (fun g _ j e=>hk g j (by simp[e]))⟩
def GO.mp(g:Nat)(l:List KV):GO:=⟨[g],fun w=>jP w g l,fun h hk=>h.iP (hk _ h.lt ak)⟩
def GO.mem(g gt id n m:Nat)(fe bad:Int)(fz:Bool):GO:=⟨[g,gt],fun w=>eN w g 114 (mJ id n gt fe bad fz)/\eN w gt 4 (rj n (m.testBit ·))/\g≠gt,fun h hk=>⟨(hk _ h.1.lt ak).trans h.1,(hk _ h.2.1.lt ak).trans h.2.1,h.2.2⟩⟩
def GO.snd(base g:Nat)(v:Value)(bag que:Int)(went last nw:Int)(all:List ByteArray):GO:=⟨g::v.ownBlock.toList,fun w=>eN w g 142 (Bz bag que v went last nw)/\fK w base 9 v (sv all)/\v.ownBlock≠some g,fun h hk=>⟨(hk _ h.1.lt ak).trans h.1,h.2.1.iP (fun g _ j e=>hk g j (by simp[e])),h.2.2⟩⟩
structure kH {ι:Type} (w:World) (base:Nat) (S:ι→GO):Prop where
 at_: ∀x,(S x).At w
 own: ∀x k,k∈(S x).eX→base≤k∧k<w.heap.size
 sep: ∀x y k,k∈(S x).eX→k∈(S y).eX→x=y
def kd{ι:Type}[DecidableEq ι](S:ι->GO)(x:ι)(o:GO):ι->GO:=fun y=>if y=x then o else S y
def wM{ι:Type}(S:ι->GO)(k:Nat):Prop:= ∃x,k∈(S x).eX
section
variable {ι:Type}[DecidableEq ι]{w w' w2:World}{base:Nat}{S S' S2:ι->GO}
@[simp] theorem gP(x:ι)(o:GO):kd S x o x=o:=by simp[kd]
theorem putG_ne{x y:ι}(o:GO)(h:y≠x):kd S x o y=S y:=by simp[kd,h]
omit [DecidableEq ι] in theorem kH.pV(h:kH w base S)(hs:w.heap.size<=w'.heap.size)(hk: ∀i,i<w.heap.size->wM S i->w'.heap[i]? =w.heap[i]?):kH w' base S:=⟨fun x=>(S x).iP (h.at_ x) (fun k j e=>hk k j ⟨x,e⟩),fun x k hm=>⟨(h.own x k hm).1,aN (h.own x k hm).2 hs⟩,h.sep⟩
omit [DecidableEq ι] in theorem kH.below(h:kH w base S)(hB:Below w.heap.size w w'):kH w' base S:=h.pV hB.size (fun i hi _=>hB.block i hi)
theorem kH.uW(h:kH w base S)(x:ι)(o:GO)(hk:ka w w' (S x).eX)(I:o.At w')(C: ∀k,k∈o.eX->k<w'.heap.size/\(k∈(S x).eX\/w.heap.size<=k))(K:base<=w.heap.size):kH w' base (kd S x o):=by
 refine⟨fun y=> ?_,fun y k hm=> ?_,fun y z k s j=> ?_⟩
 ·by_cases e:y=x
  ·subst e;rw[gP];exact I
  ·rw[putG_ne _ e];exact(S y).iP (h.at_ y) (fun k E hm=>hk.block k E (fun J=>e (h.sep y x k hm J)))
 ·by_cases e:y=x
  ·subst e;rw[gP] at hm;obtain⟨h1,h2⟩:=C k hm;rcases h2 with h2|h2
   ·exact⟨(h.own y k h2).1,h1⟩
   ·exact⟨ah,h1⟩
  ·rw[putG_ne _ e] at hm;exact⟨(h.own y k hm).1,aN (h.own y k hm).2 hk.size⟩
 ·by_cases e:y=x
  ·by_cases u:z=x
   ·rw[e,u]
   ·subst e;rw[gP] at s;rw[putG_ne _ u] at j;rcases(C k s).2 with h2|h2
    ·exact h.sep y z k h2 j
    ·have:=(h.own z k j).2;omega
  ·by_cases u:z=x
   ·subst u;rw[gP] at j;rw[putG_ne _ e] at s;rcases(C k j).2 with h2|h2
    ·exact h.sep y z k s h2
    ·have:=(h.own y k s).2;omega
   ·rw[putG_ne _ e] at s;rw[putG_ne _ u] at j;exact h.sep y z k s j
structure jU {ι:Type} (w w':World) (S S':ι→GO):Prop where
 os:w'.os=w.os
 tape:w'.tape=w.tape
 output:w'.output=w.output
 size:w.heap.size≤w'.heap.size
 block: ∀i,i<w.heap.size→¬wM S i→w'.heap[i]? =w.heap[i]?
 gJ: ∀k,wM S' k→wM S k∨w.heap.size≤k
omit [DecidableEq ι] in theorem jU.trans(h:jU w w' S S')(h2:jU w' w2 S' S2):jU w w2 S S2:=⟨h2.os.trans h.os,h2.tape.trans h.tape,h2.output.trans h.output,aK h.size h2.size,fun i hi hn=>(h2.block i (aN hi h.size) (fun j=>(h.gJ i j).elim hn (fun e=>ah))).trans (h.block i hi hn),fun k j=>(h2.gJ k j).elim (h.gJ k) (fun e=> .inr (aK h.size e))⟩
omit [DecidableEq ι] in theorem jU.fC(hB:Below w.heap.size w w'):jU w w' S S:=⟨hB.os,hB.tape,hB.output,hB.size,fun i hi _=>hB.block i hi,fun _ h=> .inl h⟩
omit [DecidableEq ι] in theorem jU.below(h:jU w w' S S')(hB:Below w'.heap.size w' w2):jU w w2 S S':=h.trans (.fC hB)
theorem jU.CO(x:ι)(o:GO)(hk:ka w w' (S x).eX)(s: ∀k,k∈o.eX->k∈(S x).eX\/w.heap.size<=k):jU w w' S (kd S x o):=by
 refine⟨hk.os,hk.tape,hk.output,hk.size,fun i hi hn=>hk.block i hi (fun hm=>hn ⟨x,hm⟩), ?_⟩;rintro k ⟨y,j⟩;by_cases e:y=x
 ·subst e;rw[gP] at j;exact(s k j).imp (fun h=>⟨_,h⟩) id
 ·rw[putG_ne _ e] at j;exact .inl ⟨y,j⟩
omit [DecidableEq ι] in theorem jU.old{w0:World}(h:jU w w' S S')(j:kH w base S)(hB:Below base w0 w)(s:base<=w.heap.size):Below base w0 w':=⟨h.os.trans hB.os,h.tape.trans hB.tape,h.output.trans hB.output,aK hB.size h.size,fun i hi=>(h.block i ah (fun⟨x,e⟩=>by have:=(j.own x i e).1;omega)).trans (hB.block i hi)⟩
omit [DecidableEq ι] in theorem jU.not(h:jU w w' S S'){g:Nat}(s:g<w.heap.size)(hn: ¬wM S g): ¬wM S' g:=fun j=>(h.gJ g j).elim hn (fun e=>ah)
omit [DecidableEq ι] in theorem kH.ky(h:kH w base S){g:Nat}(j:w.heap.size<=g): ¬wM S g:=fun ⟨x,e⟩=>by have:=(h.own x g e).2;omega
omit [DecidableEq ι] in theorem kH.iI(h:kH w base S){p:Addr}(hp: ¬wM S p.block)(v:Value):kH (w.setCell p v) base S:=h.pV (by simp[World.setCell]) (fun i hi j=>aW w p v i (fun e=>hp (e▸j)))
theorem kH.step(h:kH w base S)(x:ι)(o:GO)(hk:ka w w' (S x).eX)(j:o.At w')(e: ∀k,k∈o.eX->k<w'.heap.size/\(k∈(S x).eX\/w.heap.size<=k))(s:base<=w.heap.size):kH w' base (kd S x o)/\jU w w' S (kd S x o):=⟨h.uW x o hk j e s,.CO x o hk (fun k hm=>(e k hm).2)⟩
theorem kH.add(h:kH w base S)(x:ι)(o:GO)(hB:Below w.heap.size w w')(j:o.At w')(e: ∀k,k∈o.eX->k<w'.heap.size/\w.heap.size<=k)(s:base<=w.heap.size):kH w' base (kd S x o)/\jU w w' S (kd S x o):=h.step x o (sY hB _) j (fun k hm=>⟨(e k hm).1,.inr (e k hm).2⟩) s
theorem kH.nb(h:kH w base S)(x:ι){g:Nat}{t:TypeId}{cs:Array Value}(e:S x=.eW g t cs)(i:Nat)(u:Value)(s:base<=w.heap.size):kH (w.setCell ⟨g,i,none⟩ u) base (kd S x (.eW g t (cs.setIfInBounds i u)))/\jU w (w.setCell ⟨g,i,none⟩ u) S (kd S x (.eW g t (cs.setIfInBounds i u))):=by
 have j:eN w g t cs:=by have:=h.at_ x;rw[e] at this;exact this
 refine h.step x _ ?_ (j.eS i u) (fun k hm=> ?_) s
 ·rw[e];exact⟨rfl,rfl,rfl,by simp[World.setCell],fun k hk hn=>aW w _ u k (by simpa[GO.eW] using hn)⟩
 ·rw[e];simp only[GO.eW,bO] at hm;subst hm;exact⟨by simpa[World.setCell] using j.lt,.inl (by simp[GO.eW])⟩
end
structure vK where
 g:Nat
 ck:Value
 nd:Value
 lk:Value
 gm:Nat→Nat
 gt:Nat→Nat
 gs:Nat→Nat
 vs:Nat→Value
 al:Nat→List ByteArray
 wt:Nat→Nat
 ls:Nat→Int
 tm:Nat
 kt:List KV
 gk:Nat→Nat→Nat
 pm:Nat
 kp:List KV
 vp:Nat→Nat→Value
inductive Qb where
 |im|jb|nodA|xh (i:Nat)|lnkA|lnk (k:Nat)|qQ|nK (k i:Nat)|pQ|prt (k i:Nat)
 deriving DecidableEq
def kV(p:Pl)(P:lz)(fy:Nat)(ck nd lk:Value)(tm pm:Nat)(rd:Int):Array Value:= #[.int .i64 p.nd,.int .i64 p.fa,.int .i64 p.sk,.int .i64 p.ji,.int .i64 p.dr,.int .i64 p.rd,P.s,P.l,.int .i64 p.fr,P.q,.int .i64 fy,ck,nd,lk,.map (some tm),.map (some pm),.int .i64 rd]
def eM(base:Nat)(a:vK)(n:Cn)(p:Pl)(P:lz)(fy:Nat)(c:Cl):Qb->GO|.im=> .eW a.g 101 (kV p P fy a.ck a.nd a.lk a.tm a.pm c.rd)|.jb=> .arr base 3 a.ck (c.ck.map (Value.int .i64))|.nodA=> .arr base 111 a.nd ((List.range n.nm).map fun i=>fk (a.gm i))|.xh i=>if i<n.nm then .mem (a.gm i) (a.gt i) i p.nd.toNat (c.mm i).m (c.mm i).gd (c.mm i).bd (c.mm i).fz else .none|.lnkA=> .arr base 102 a.lk ((List.range n.ns).map fun k=>fk (a.gs k))|.lnk k=>if k<n.ns then(match p.lk[k]? with|none=> .none|some l=> .snd base (a.gs k) (a.vs k) l.b l.q (a.wt k) (a.ls k) (c.sd k).nw (a.al k)) else .none|.qQ=> .mp a.tm a.kt|.nK k i=>if i<n.nk k then .eW (a.gk k i) 145 #[.int .i64 (c.tk k i).nw,.int .i64 (c.tk k i).c0,.int .i64 (c.tk k i).c1] else .none|.pQ=> .mp a.pm a.kp|.prt k i=> .arr base 9 (a.vp k i) (sv (c.pr k i).q)
structure Qe (a:vK) (n:Cn) (c:Cl) (M:Nat):Prop where
 sd: ∀k,k<n.ns→lg (a.al k) (a.wt k) (a.ls k) (c.sd k).nw (c.sd k).q (c.sd k).nx (c.sd k).la
 al: ∀k,k<n.ns→(a.al k).length≤M
 tk: ∀k i,i<n.nk k→zo k i a.kt=some (fk (a.gk k i))
 pr: ∀k i,(zo k i a.kp).getD (.slice none 0 0)=a.vp k i
structure fY (w:World) (base:Nat) (a:vK) (n:Cn) (p:Pl) (P:lz) (fy:Nat) (c:Cl) (M:Nat):Prop where
 gJ:kH w base (eM base a n p P fy c)
 rel:Qe a n c M
def sL(w:World)(base:Nat)(a:vK)(n:Cn)(p:Pl)(P:lz)(fy:Nat)(c:Cl)(w':World)(c':Cl)(M':Nat):Prop:= ∃e:vK,e.g=a.g/\fY w' base e n p P fy c' M'/\jU w w' (eM base a n p P fy c) (eM base e n p P fy c')
section
variable {a a1:vK}{n:Cn}{p:Pl}{P:lz}{fy M M1 M2:Nat}{c c1 c2:Cl}{w w' w2:World}{base:Nat}
theorem fY.below(h:fY w base a n p P fy c M)(hB:Below w.heap.size w w'):fY w' base a n p P fy c M:=⟨h.gJ.below hB,h.rel⟩
theorem sL.refl(h:fY w base a n p P fy c M)(hB:Below w.heap.size w w'):sL w base a n p P fy c w' c M:=⟨a,rfl,h.below hB,.fC hB⟩
theorem BC {i:Nat} (hi:i<n.nm) (x:Mm):kd (eM base a n p P fy c) (.xh i) (.mem (a.gm i) (a.gt i) i p.nd.toNat x.m x.gd x.bd x.fz)=eM base a n p P fy {c with mm:=eV c.mm i x}:=by
 funext y
 cases y with
 |xh j=>
  by_cases e:j=i
  ·subst e;simp[eM,eV,hi]
  ·rw[putG_ne _ (by simpa using e)];simp[eM,eV,e]
 |_=>rw[putG_ne _ ak];rfl
theorem CD{k i:Nat}(hi:i<n.nk k)(x:Tk):kd (eM base a n p P fy c) (.nK k i) (.eW (a.gk k i) 145 #[.int .i64 x.nw,.int .i64 x.c0,.int .i64 x.c1])=eM base a n p P fy {c with tk:=fM c.tk k i x}:=by
 funext y;cases y with
  |nK h j=>
   by_cases e:h=k/\j=i
   ·obtain⟨rfl,rfl⟩:=e;simp[eM,fM,hi]
   ·rw[putG_ne _ (by simpa using e)];simp[eM,fM,e]
  |_=>rw[putG_ne _ ak];rfl
theorem CU{k:Nat}{l:Lk}(hi:k<n.ns)(hl:p.lk[k]? =some l)(v:Value)(al:List ByteArray)(wt:Nat)(ls:Int)(x:Sd):kd (eM base a n p P fy c) (.lnk k) (.snd base (a.gs k) v l.b l.q wt ls x.nw al)=eM base {a with vs:=eV a.vs k v,al:=eV a.al k al,wt:=eV a.wt k wt,ls:=eV a.ls k ls} n p P fy {c with sd:=eV c.sd k x}:=by
 funext y;cases y with
  |lnk j=>
   by_cases e:j=k
   ·subst e;simp[eM,eV,hi,hl]
   ·rw[putG_ne _ (by simpa using e)];simp[eM,eV,e]
  |_=>rw[putG_ne _ ak];rfl
theorem B7(k i:Nat)(v:Value)(l:List KV)(x:Pr):kd (kd (eM base a n p P fy c) (.prt k i) (.arr base 9 v (sv x.q))) .pQ (.mp a.pm l)=eM base {a with vp:=fM a.vp k i v,kp:=l} n p P fy {c with pr:=fM c.pr k i x}:=by
 funext y;cases y with
  |prt h j=>
   rw[putG_ne _ ak];by_cases e:h=k/\j=i
   ·obtain⟨rfl,rfl⟩:=e;simp[eM,fM]
   ·rw[putG_ne _ (by simpa using e)];simp[eM,fM,e]
  |pQ=>simp[eM]
  |_=>rw[putG_ne _ ak,putG_ne _ ak];rfl
theorem fY.gA(h:fY w base a n p P fy c M):eN w a.g 101 (kV p P fy a.ck a.nd a.lk a.tm a.pm c.rd):=h.gJ.at_ .im
theorem fY.Bq(h:fY w base a n p P fy c M){i:Nat}(hi:i<n.nm):eN w (a.gm i) 114 (mJ i p.nd.toNat (a.gt i) (c.mm i).gd (c.mm i).bd (c.mm i).fz)/\eN w (a.gt i) 4 (rj p.nd.toNat ((c.mm i).m.testBit ·))/\a.gm i≠a.gt i:=by have:=h.gJ.at_ (.xh i);simpa[eM,hi,GO.mem] using this
theorem fY.N7(h:fY w base a n p P fy c M){k i:Nat}(hi:i<n.nk k):eN w (a.gk k i) 145 #[.int .i64 (c.tk k i).nw,.int .i64 (c.tk k i).c0,.int .i64 (c.tk k i).c1]:=by have:=h.gJ.at_ (.nK k i);simpa[eM,hi,GO.eW] using this
theorem fY.OJ(h:fY w base a n p P fy c M){k:Nat}{l:Lk}(hi:k<n.ns)(hl:p.lk[k]? =some l):eN w (a.gs k) 142 (Bz l.b l.q (a.vs k) (a.wt k) (a.ls k) (c.sd k).nw)/\fK w base 9 (a.vs k) (sv (a.al k))/\(a.vs k).ownBlock≠some (a.gs k)/\∀b,(a.vs k).ownBlock=some b->b<w.heap.size:=by have h1:=h.gJ.at_ (.lnk k);have h2:=h.gJ.own (.lnk k);simp only[eM,hi,hl,GO.snd,eF] at h1;exact⟨h1.1,h1.2.1,h1.2.2,fun b e=>(h2 b (by simp[eM,hi,hl,GO.snd,e])).2⟩
theorem fY.ER(h:fY w base a n p P fy c M)(k i:Nat):fK w base 9 (a.vp k i) (sv (c.pr k i).q)/\∀b,(a.vp k i).ownBlock=some b->b<w.heap.size:=⟨h.gJ.at_ (.prt k i),fun b e=>(h.gJ.own (.prt k i) b (by simp[eM,GO.arr,e])).2⟩
theorem fY.qQ(h:fY w base a n p P fy c M):jP w a.tm a.kt:=h.gJ.at_ .qQ
theorem fY.pQ(h:fY w base a n p P fy c M):jP w a.pm a.kp:=h.gJ.at_ .pQ
theorem fY.Oo(h:fY w base a n p P fy c M){i:Nat}(hi:i<n.nm): ∃b off cp,a.nd=.slice (some ⟨b,off,none⟩) n.nm cp/\w.cell? ⟨b,off+i,none⟩=some (fk (a.gm i)):=mh (h.gJ.at_ .nodA) hi
theorem fY.EL(h:fY w base a n p P fy c M){k:Nat}(hk:k<n.ns): ∃b off cp,a.lk=.slice (some ⟨b,off,none⟩) n.ns cp/\w.cell? ⟨b,off+k,none⟩=some (fk (a.gs k)):=mh (h.gJ.at_ .lnkA) hk
theorem fY.Ea(h:fY w base a n p P fy c M){i:Nat}(hi:i<n.nm)(x:Mm)(hp:Co w (a.gm i) (a.gt i) (mJ i p.nd.toNat (a.gt i) x.gd x.bd x.fz) p.nd.toNat (x.m.testBit ·) w')(u:base<=w.heap.size):sL w base a n p P fy c w' {c with mm:=eV c.mm i x} M:=by
 obtain⟨h1,h2,h3⟩:=hp;have e:eM base a n p P fy c (.xh i)=.mem (a.gm i) (a.gt i) i p.nd.toNat (c.mm i).m (c.mm i).gd (c.mm i).bd (c.mm i).fz:=by simp[eM,hi]
 obtain⟨s,j⟩:=h.gJ.step (.xh i) (.mem (a.gm i) (a.gt i) i p.nd.toNat x.m x.gd x.bd x.fz) (w':=w') (by rw[e];have:=h3.KN;simpa[GO.mem] using this) ⟨h1,h2,(h.Bq hi).2.2⟩ (fun k hm=>by
  rw[e];simp only[GO.mem,bR,cC,ec] at hm⊢;rcases hm with rfl|rfl
  ·exact⟨h1.lt,.inl (.inl rfl)⟩
  ·exact⟨h2.lt,.inl (.inr rfl)⟩) u
 rw[BC hi] at s j;exact⟨a,rfl,⟨s,h.rel.sd,h.rel.al,h.rel.tk,h.rel.pr⟩,j⟩
theorem fY.PH(h:fY w base a n p P fy c M){k i:Nat}(hi:i<n.nk k)(s:Int)(e:eN w' (a.gk k i) 145 (jV s (c.tk k i).nw (c.tk k i).c0 (c.tk k i).c1))(C:w.grownBy w' (some (a.gk k i)))(E:base<=w.heap.size):sL w base a n p P fy c w' {c with tk:=fM c.tk k i ((c.tk k i).take s)} M:=by
 rw[Tk.MQ] at e;have j:eM base a n p P fy c (.nK k i)=.eW (a.gk k i) 145 #[.int .i64 (c.tk k i).nw,.int .i64 (c.tk k i).c0,.int .i64 (c.tk k i).c1]:=by simp[eM,hi]
 obtain⟨z,u⟩:=h.gJ.step (.nK k i) (.eW (a.gk k i) 145 #[.int .i64 ((c.tk k i).take s).nw,.int .i64 ((c.tk k i).take s).c0,.int .i64 ((c.tk k i).take s).c1]) (w':=w') (by rw[j];exact nU C) e (fun k hm=>by rw[j];simp only[GO.eW,bO] at hm⊢;subst hm;exact⟨e.lt,.inl rfl⟩) E;rw[CD hi] at z u;exact⟨a,rfl,⟨z,h.rel.sd,h.rel.al,h.rel.tk,h.rel.pr⟩,u⟩
theorem fY.J1(h:fY w base a n p P fy c M){k:Nat}{l:Lk}(hk:k<n.ns)(hl:p.lk[k]? =some l)(x:Sd){wt:Nat}{ls:Int}{al:List ByteArray}(hp:nJ w base (a.gs k) l.b l.q (a.vs k) wt ls x.nw al w')(E:lg al wt ls x.nw x.q x.nx x.la){M':Nat}(hM:M<=M')(I:al.length<=M')(J:base<=w.heap.size):sL w base a n p P fy c w' {c with sd:=eV c.sd k x} M':=by
 obtain⟨v',h1,h2,h3,h4⟩:=hp;obtain⟨g1,g2,g3,g4⟩:=h.OJ hk hl;have u:eM base a n p P fy c (.lnk k)=.snd base (a.gs k) (a.vs k) l.b l.q (a.wt k) (a.ls k) (c.sd k).nw (a.al k):=by simp[eM,hk,hl]
 obtain⟨C,z⟩:=h.gJ.step (.lnk k) (.snd base (a.gs k) v' l.b l.q wt ls x.nw al) (w':=w') (by rw[u];exact h3.KN) ⟨h1,h2,yO g1.lt g3 h4⟩ (by rw[u];exact wC h1.lt h4) J;rw[CU hk hl] at C z;refine⟨{a with vs:=eV a.vs k v',al:=eV a.al k al,wt:=eV a.wt k wt,ls:=eV a.ls k ls},rfl,⟨C,fun j s=> ?_,fun j s=> ?_,h.rel.tk,h.rel.pr⟩,z⟩
 ·dsimp only;unfold eV;by_cases e:j=k
  ·simp only[aM e];exact E
  ·simp only[aI e];exact h.rel.sd j s
 ·dsimp only;unfold eV;by_cases e:j=k
  ·rw[aM e];exact I
  ·rw[aI e];exact aK (h.rel.al j s) hM
theorem fY.M6(h:fY w base a n p P fy c M)(k i:Nat)(x:Pr){w1:World}{v:Value}(hB:Below w.heap.size w w1)(E:fK w1 base 9 v (sv x.q))(z: ∀g,v.ownBlock=some g->g<w1.heap.size/\((a.vp k i).ownBlock=some g\/w.heap.size<=g))(hm:jP w' a.pm (ph k i v a.kp))(I:w1.grownBy w' (some a.pm))(u:base<=w.heap.size):sL w base a n p P fy c w' {c with pr:=fM c.pr k i x} M:=by
 obtain⟨T,O⟩:=h.gJ.step (.prt k i) (.arr base 9 v (sv x.q)) (w':=w1) (sY hB _) E (fun g hm=>by simp only[GO.arr,Option.mem_toList,eM] at hm⊢;exact⟨(z g hm).1,(z g hm).2⟩) u;have j:kd (eM base a n p P fy c) (.prt k i) (.arr base 9 v (sv x.q)) .pQ=.mp a.pm a.kp:=by rw[putG_ne _ ak];rfl
 obtain⟨e,K⟩:=T.step .pQ (.mp a.pm (ph k i v a.kp)) (w':=w') (by rw[j];exact nU I) hm (fun g s=>by rw[j];simp only[GO.mp,bO] at s⊢;subst s;exact⟨hm.lt,.inl rfl⟩) (aK u hB.size);have C:=O.trans K;rw[B7] at e C;refine⟨{a with vp:=fM a.vp k i v,kp:=ph k i v a.kp},rfl,⟨e,h.rel.sd,h.rel.al,h.rel.tk,fun J i2=> ?_⟩,C⟩;dsimp only;rw[vO];unfold fM;split
 ·rfl
 ·exact h.rel.pr J i2
end
section
attribute [local irreducible] fu
structure mq (zs:List Int) (k j:Nat) (R:Int):Prop where
 h0:0≤R
 hi:R≤2000000000000000
 le: ∀x y,x<k→y<zs.length→zs.getD x 0-zs.getD y 0≤R
 Q3: ∀y,y<j→zs.getD k 0-zs.getD y 0≤R
 is:R=0∨∃x y,x<zs.length∧y<zs.length∧R=zs.getD x 0-zs.getD y 0
theorem mq.start(zs:List Int):mq zs 0 0 0:=⟨ah,ah,fun x y h=>ah,fun y h=>ah,.inl rfl⟩
theorem mq.step{zs:List Int}{k j:Nat}{R:Int}(h:mq zs k j R)(hk:k<zs.length)(z:j<zs.length)(s: ∀j,j<zs.length->-1000000000000000<=zs.getD j 0/\zs.getD j 0<=1000000000000000):mq zs k (j+1) (max R (zs.getD k 0-zs.getD j 0)):=by
 have a:=s k hk;have b:=s j z;refine⟨by have:=h.h0;omega,by have:=h.hi;omega,fun x y C u=>by have:=h.le x y C u;omega,fun y u=> ?_, ?_⟩
 ·by_cases e:y=j
  ·subst e;omega
  ·have:=h.Q3 y ah;omega
 ·by_cases e:R<=zs.getD k 0-zs.getD j 0
  ·exact .inr ⟨k,j,hk,z,ah⟩
  ·rcases h.is with h1|⟨x,y,h1,h2,h3⟩
   ·exact .inl ah
   ·exact .inr ⟨x,y,h1,h2,ah⟩
theorem mq.next{zs:List Int}{k:Nat}{R:Int}(h:mq zs k zs.length R):mq zs (k+1) 0 R:=⟨h.h0,h.hi,fun x y s j=>by
 by_cases e:x=k
 ·subst e;exact h.Q3 y j
 ·exact h.le x y ah j,fun y j=>ah,h.is⟩
theorem sQ(n lo hi:Int)(v:Bool)(h:ij n lo hi=v)(w:World):Calls prog 31 #[.int .i64 n,.int .i64 lo,.int .i64 hi] w fun e w'=>e=.returned (.bool v)/\w'=w:=(fE n lo hi v h w).mono fun e w' ⟨h1,h2⟩=>⟨h1,h2.symm⟩
theorem ze(x m:Int)(w:World)(h0:0<=m)(h1:m<=1000000000000000000):Calls prog 78 #[.int .i64 x,.int .i64 m] w fun e w'=>e=.returned (.int .i64 (gF x m))/\w'=w:=by go_enter func78,ntmps78;go_wp2_with fail;go_ret;exact⟨rfl,rfl⟩
theorem Bf(A:Option Addr)(c:Nat)(zs:List Int)(w:World)(K:kY w A zs)(ac:zs.length<=100)(J: ∀j,j<zs.length->-1000000000000000<=zs.getD j 0/\zs.getD j 0<=1000000000000000):Calls prog 85 #[.slice A zs.length c] w fun e w'=>(∃R,e=.returned (.int .i64 R)/\mq zs zs.length 0 R)/\w'=w:=by
 obtain⟨n,hn⟩:=ab zs.length;have h:=eJ hn;have O:=eJ K;have z:=eJ J;rw[hn];rw[hn] at ac;clear hn K J;go_enter func85,ntmps85;go_wp2_with fail;go_loopw [3,10] (fun v3 v wr=> ∃(k:Nat) (R:Int),k<=n/\v=.int .i64 k/\v3=.int .i64 R/\Hid (mq zs k 0 R)/\wr=w) (fun _ v _=>n-(intOf v).toNat);case atStart=>exact⟨0,0,ah,rfl,rfl,eJ (mq.start zs),rfl⟩
 case round=>
  obtain⟨k,R,hk,rfl,rfl,s,rfl⟩:=hrel;by_cases u:k<n
  ·obtain⟨b,off,rfl,h0⟩:=O.out k (by rw[h.out];exact u);obtain⟨x,I⟩:=ab (zs.getD k 0);have X:=z.out k (by rw[h.out];exact u);rw[I] at h0 X;have aa:=eJ I;clear I;go_wp2_with fail;go_loopw [3,16] (fun v3 v U=> ∃(j:Nat) (R:Int),j<=n/\v=.int .i64 j/\v3=.int .i64 R/\Hid (mq zs k j R)/\U=wr) (fun _ v _=>n-(intOf v).toNat);case atStart=>exact⟨0,R,ah,rfl,rfl,s,rfl⟩
   case round=>
    obtain⟨j,R,ad,rfl,rfl,s,rfl⟩:=hrel;by_cases C:j<n
    ·obtain⟨b2,off2,e,h1⟩:=O.out j (by rw[h.out];exact C);cases e;obtain⟨y,E⟩:=ab (zs.getD j 0);have Z:=z.out j (by rw[h.out];exact C);rw[E] at h1 Z;have T:=eJ (s.out.step (by rw[h.out];exact u) (by rw[h.out];exact C) z.out);rw[aa.out,E] at T;clear E;go_wp2_with fail;go_roundw;case rel=>exact⟨j+1,_,ah,aq,rfl,T,trivial⟩
     case measure=>simp[intOf];omega
    ·obtain rfl:j=n:=ah;have Y:=eJ (show mq zs (k+1) 0 R from mq.next (by have:=s.out;rw[<-h.out] at this;exact this));go_wp2_with fail;go_roundw;case rel=>exact⟨k+1,R,ah,aq,rfl,Y,trivial⟩
     case measure=>simp[intOf];omega
  ·obtain rfl:k=n:=ah;go_wp2_with fail;go_ret;exact⟨⟨R,rfl,s.out⟩,rfl⟩
section
variable {a:vK}{n:Cn}{p:Pl}{P:lz}{fy M:Nat}{c:Cl}{w:World}{base:Nat}
theorem gg{g:Nat}{t:TypeId}{ck nd lk:Value}{tm pm:Nat}{rd:Int}(h:eN w g t (kV p P fy ck nd lk tm pm rd)):w.cell? ⟨g,0,none⟩=some (.int .i64 p.nd)/\w.cell? ⟨g,1,none⟩=some (.int .i64 p.fa)/\w.cell? ⟨g,3,none⟩=some (.int .i64 p.ji)/\w.cell? ⟨g,4,none⟩=some (.int .i64 p.dr)/\w.cell? ⟨g,5,none⟩=some (.int .i64 p.rd)/\w.cell? ⟨g,6,none⟩=some P.s/\w.cell? ⟨g,7,none⟩=some P.l/\w.cell? ⟨g,10,none⟩=some (.int .i64 fy)/\w.cell? ⟨g,11,none⟩=some ck/\w.cell? ⟨g,12,none⟩=some nd/\w.cell? ⟨g,13,none⟩=some lk/\w.cell? ⟨g,14,none⟩=some (.map (some tm))/\w.cell? ⟨g,15,none⟩=some (.map (some pm))/\w.cell? ⟨g,16,none⟩=some (.int .i64 rd):=⟨h.cell 0,h.cell 1,h.cell 3,h.cell 4,h.cell 5,h.cell 6,h.cell 7,h.cell 10,h.cell 11,h.cell 12,h.cell 13,h.cell 14,h.cell 15,h.cell 16⟩
theorem qE{g:Nat}{ck nd lk:Value}{tm pm:Nat}{rd:Int}(j:eN w g 101 (kV p P fy ck nd lk tm pm rd))(s:fy<65536)(i:Nat)(hi:i<17):Calls prog 76 #[.pointer (some ⟨g,0,none⟩),.int .i64 i] w fun e w'=>e=.returned (.bool (fu fy i))/\∃k,w'=w.drewN k:=by
 obtain⟨-,-,-,-,-,-,-,I,-⟩:=gg j;have hm:=rm fy i s hi;have hl:fu fy i=fy.testBit i:=by unfold fu;rfl
 have h:(bits .and .i64 (fy:Int) (wrap64 (2^i)) !=0)=fy.testBit i:=by unfold bne;rw[hm,Bool.not_not]
 rw[hl];obtain⟨x,C⟩:=ab (bits .and .i64 (fy:Int) (wrap64 (2^i)));rw[C] at h;obtain⟨y,u⟩:=ab (fy.testBit i);rw[u] at h⊢;obtain⟨z,E⟩:=ab (wrap64 (2^i));rw[E] at C;clear j hm hl u s;go_enter func76,ntmps76;go_wp2_with fail;go_quiet (fail);go_wp2_with fail;go_ret;exact⟨rfl,_,rfl⟩
theorem zx{g:Nat}{nd lk:Value}{tm pm:Nat}{rd:Int}{A:Option Addr}{bd:Nat}{zs:List Int}(E:eN w g 101 (kV p P fy (.slice A zs.length bd) nd lk tm pm rd))(bm:fy<65536)(X:kY w A zs)(bb:zs.length<=16)(U: ∀j,j<zs.length->-1000000000000000<=zs.getD j 0/\zs.getD j 0<=1000000000000000):Calls prog 35 #[.pointer (some ⟨g,0,none⟩)] w fun e w'=>(∃R,e=.returned (.int .i64 R)/\mq (fP fy zs zs.length) (fP fy zs zs.length).length 0 R)/\Below w.heap.size w w':=by
 obtain⟨-,-,-,-,-,-,-,-,a4,-⟩:=gg E;have bf:=eJ X;have J:=eJ E;have a3:=eJ U;clear E X U;obtain⟨n,hn⟩:=ab zs.length;have ap:=eJ hn;rw[hn] at bb a4 J⊢;clear hn;obtain⟨i0,hi,a5,a8,bj⟩:=eR kz;go_enter func35,ntmps35;go_wp2_with fail;go_loopw [3,11] (fun v3 i wr=> ∃k:Nat,k<=n/\i=.int .i64 k/\Hid (wr.ownsRow w.heap.size 3 1 v3 (fP fy zs k).length ((fP fy zs k).map (Value.int .i64)))/\Hid (Below w.heap.size w wr)) (fun _ i _=>n-(intOf i).toNat);case atStart=>exact⟨0,ah,rfl,eJ (bT _ _ _ _),eJ (au)⟩
 case round=>
  obtain⟨k,hk,rfl,C,h⟩:=hrel;by_cases a2:k<n
  ·obtain⟨b,off,rfl,h0⟩:=(bf.out.below (ar) h.out) k (by rw[ap.out];exact a2);obtain⟨x,T⟩:=ab (zs.getD k 0);rw[T] at h0;have a9:=eJ T;clear T;have aA:=eJ (qE (J.out.below h.out J.out.lt) bm k ah);obtain⟨y,O⟩:=ab (fu fy k);rw[O] at aA;have ad:=eJ O;clear O;go_wp2_with fail;refine aA.out.mono ?_;rintro e w2 ⟨rfl,bk,al⟩;have ac:Hid (Below wr.heap.size wr w2):=eJ (by rw[al];exact below_drewN (au) bk);clear al h0;have z:=eJ (jr C.out ac.out);have s:=eJ (h.out.trans (ac.out.mono h.out.size));cases y
   ·obtain⟨m,hm⟩:=ab ((fP fy zs k).length);have bl:=rN fy zs k;have I:Hid (fP fy zs (k+1)=fP fy zs k++[x]):=eJ (by rw[qy ad.out,a9.out]);rw[hm] at z bl;have a6:=eJ hm;clear hm;have Y:=eJ (jr z.out ((Below.refl w2.heap.size w2).alloc (ar) (.cells #[.int .i64 x] 3)));go_wp2_with (at_builtin;go_must (refine bD _ rfl (.tmp 20) (.tmp 22) _ rfl w.heap.size 3 i0 _ 1 8 underlying33 hi a5 a8 bj rfl aj u3 m ((fP fy zs k).map (Value.int .i64)) rfl (by exact Y.out) ⟨w2.heap.size,0,none⟩ 1 1 [.int .i64 x] rfl rfl (by exact vu (eN.new w2 3 #[.int .i64 x])) (by intro u hu;simp at hu;subst hu;rfl) (by simp[maxLen];omega) ah (by have:=s.out.size;simp;omega) ?_);intro v8 w8 aa ao _;have bn:=eJ aa;have be:=eJ ao;clear aa ao);go_roundw;case rel=>exact⟨k+1,ah,aq,eJ (by rw[I.out];simpa[a6.out] using bn.out),eJ ((s.out.alloc s.out.size _).grown be.out (by have:=s.out.size;simp;omega) (fun j e=>(Y.out.lt j e).1))⟩
    case measure=>simp[intOf];omega
   ·have I:Hid (fP fy zs (k+1)=fP fy zs k):=eJ (pE ad.out);go_wp2_with fail;go_roundw;case rel=>exact⟨k+1,ah,aq,eJ (by rw[I.out];exact z.out),s⟩
    case measure=>simp[intOf];omega
  ·obtain rfl:k=n:=ah;obtain⟨bi,c2,rfl,am⟩:=uG C.out rfl;have hle:=rN fy zs k;have Z:=eJ (Bf bi c2 (fP fy zs k) wr am ah (fun j K=>vw (P:=fun x=> -1000000000000000<=x/\x<=1000000000000000) (fun j K=>a3.out j (by rw[ap.out];exact K)) _ (ke K)));go_wp2_with fail;obtain⟨q,hq⟩:=ab ((fP fy zs k).length);have a0:=eJ hq;rw[hq] at Z⊢;clear C hle am hq;refine Z.out.mono ?_;rintro e w2 ⟨⟨R,rfl,hd⟩,rfl⟩;have a7:=eJ hd;clear hd;go_wp2_with fail;go_ret;exact⟨⟨R,rfl,by rw[a0.out];exact a7.out⟩,h.out⟩
end
end
theorem F5{base:Nat}{a:vK}{p:Pl}{P:lz}{fy:Nat}{c:Cl}{N M:Nat}(w w0:World)(AL:Option Addr)(cl:Nat)(bb:P.l=.slice AL p.lk.length cl)(h:fY w base a (eO p) p P fy c M)(hp:gl p)(bd:gH p N c)(a0:fA w0 AL p.lk.length p.lk)(a8:Below base w0 w)(h0:w0.heap.size<=base)(aA:base<=w.heap.size)(k i:Nat)(l:Lk)(hl:p.lk[k]? =some l)(hi:(i:Int)<p.nd):Calls prog 33 #[.pointer (some ⟨a.g,0,none⟩),.int .i64 i,.int .i64 k] w fun e w'=>(kZ l.t i=false/\e=.returned (.tuple #[.string ⟨#[]⟩,.int .i64 2])/\sL w base a (eO p) p P fy c w' c M)\/(kZ l.t i=true/\(c.pr k i).q=[]/\e=.returned (.tuple #[.string ⟨#[]⟩,.int .i64 8])/\sL w base a (eO p) p P fy c w' c M)\/(kZ l.t i=true/\∃d q,(c.pr k i).q=d::q/\e=.returned (.tuple #[.string d,.int .i64 0])/\sL w base a (eO p) p P fy c w' (lJ k i c) M):=by
 have a9:k<p.lk.length:=(aQ.1 hl).1;have cV:=hp.lk;have ck:=hp.n16;have U:=hp.link k l hl;obtain⟨nl,am⟩:=ab p.lk.length;obtain⟨nd,b3⟩: ∃nd,p.nd.toNat=nd:=⟨_,rfl⟩;have c0:k<nl:=ah;have c3:i<nd:=ah;have a4:p.nd=(nd:Int):=ah;have b8:i<17:=ah;have cn:nd<=16:=ah;have co:nl<=8:=ah;obtain⟨t,K⟩: ∃t:Nat,l.t=(t:Int):=aZ (by have:=U.2.2.1;omega);have aa:t<65536:=by
  have h2:(2:Nat)^p.nd.toNat<=2^16:=aX ah ah;have h3:=U.2.2.2.1;rw[K] at h3;have h4:t<2^p.nd.toNat:=by exact_mod_cast h3
  omega
 have bq:kZ l.t i=t.testBit i:=by unfold kZ;rw[K,l8 t i aa];cases t.testBit i<;>rfl
 have hand:=rm t i aa b8;obtain⟨G,hG⟩:=ab a.g;rw[hG];have al:=h.gA;rw[hG] at al;obtain⟨bm,-,-,-,-,-,bn,-,-,-,bw,-,X,-⟩:=gg al;rw[a4] at bm;obtain⟨cA,ol,bv,cc,Y,_,kt,_⟩:=(Ek a0 h0 a8) k a9;obtain rfl:cc=l:=by rw[hl] at Y;cases Y;rfl
 rw[bb,bv,am] at bn;rw[K] at kt;obtain⟨bs,ct,cs,be,-⟩:=h.EL (k:=k) (show k<(eO p).ns from a9);rw[be,show(eO p).ns=nl from am] at bw;have bf:=eJ (sQ (i:Int) 0 ((nd:Int)-1) true (by simp[ij];omega));have bl:=eJ (sQ (k:Int) 0 ((nl:Int)-1) true (by simp[ij];omega));have bx:=eJ (fun(w':World) (hB:Below w.heap.size w w')=>sL.refl h hB);have a5:=bd.pr k i;have cv:=eJ h.pQ;have cr:=eJ (h.ER k i);have ac:=eJ h;have ca:=eJ h.rel;rw[bq];obtain⟨bz,a7⟩:=ab (t.testBit i);rw[a7] at hand⊢;obtain⟨x,ad⟩:=ab (bits .and .i64 (t:Int) (wrap64 (2^i)));rw[ad] at hand;obtain⟨z,bj⟩:=ab (wrap64 (2^i));rw[bj] at ad;clear h hp bd hl Y U am b3 a0 a8 bb a4 bv al bq a7 hi ck K aa be;cases bz
 ·simp only[ej] at hand;go_enter func33,ntmps33;go_wp2_with fail;go_quiet ((go_at_call 31;first|(with_reducible exact bc (bf.out _))|(with_reducible exact bc (bl.out _))));go_wp2_with fail;go_ret2;exact .inl ⟨trivial,rfl,bx.out _ (below_drewN (au) nq)⟩
 ·simp only[eA] at hand;go_enter func33,ntmps33;go_wp2_with fail;go_quiet ((go_at_call 31;first|(with_reducible exact bc (bf.out _))|(with_reducible exact bc (bl.out _))));obtain⟨u,O⟩:=ab (w.drewN nq);have T:Hid (Below w.heap.size w u):=eJ (by rw[<-O];exact below_drewN (au) nq);rw[O];have cS:=eJ (show base<=u.heap.size by rw[<-O];exact aA);have cu:=(T.out.cell (p:=⟨G,15,none⟩) (aG _ _ X)).trans X;clear O bm bn bw X kt hand ad bj;have Z:=eJ (ac.out.below T.out);obtain⟨v,E⟩:=ab (a.vp k i);have c4:(Instr.lookup 99 (.map (some a.pm)) (.agg #[.int .i64 (k:Int),.int .i64 (i:Int)]) false).run prog u=.ok v u:=nE underlying99 Z.out.pQ k i (zeroValue52 u) ((ca.out.pr k i).trans E);have j:=Z.out.ER k i;rw[E] at j;cases hq:(c.pr k i).q with
   |nil=>rw[hq] at j;obtain⟨ao,C,J,-⟩:=j.1.shape;rw[jL] at J;subst J;have cb:=eJ hq;clear j E hq;go_wp2_with fail;go_ret2;exact .inr (.inl ⟨trivial,cb.out,rfl,bx.out _ T.out⟩)
   |cons d q=>
    rw[hq] at j;obtain⟨ao,C,J,cj⟩:=j.1.shape;have cx:q.length<=16:=by have:=a5.2.2;rw[hq,aP] at this;omega
    simp only[jL,aP] at J cj;subst J;obtain⟨s,off,rfl,b6,bt,cd⟩:=j.1.block ah;have bi:=qh j.1;have b4:s≠a.pm:=fun e=>by
     have h1:s∈(eM base a (eO p) p P fy c (.prt k i)).eX:=by simp[eM,GO.arr,E,Value.ownBlock]
     have h2:s∈(eM base a (eO p) p P fy c .pQ).eX:=by simp[eM,GO.mp,e]
     exact absurd (ac.out.gJ.sep _ _ _ h1 h2) ak
    obtain⟨I,a6⟩: ∃I:Option Addr,(if C=1 then some ⟨s,off,none⟩ else some ⟨s,off+1,none⟩)=I:=⟨_,rfl⟩;have b5:Hid ((Value.slice I q.length (C-1)).ownBlock=some s):=eJ (by rw[<-a6];split<;>rfl);have ce:Hid (fK u base 9 (.slice I q.length (C-1)) (sv q)):=eJ (by rw[<-a6];exact j.1.tail);obtain⟨w9,cm,a2,ap⟩:=pK underlying99 (w:=u.drew) (Z.out.below (below_drewN (au) 1)).pQ k i (.slice I q.length (C-1));unfold oD at cm;have d4:((q.length:Int)+1==0)=false:=by rw[aV];omega
    have bk:=eJ hq;have b2:=eJ E;have b7:=eJ a2;have ch:=eJ ap;have c5:w9.cell? ⟨s,off,none⟩=some (.string d):=ap.cell (a:=⟨s,off,none⟩) bi (by simpa using b4);have b9:=eJ bt;clear j hq E a2 ap cd b6 bt bi a5;go_wp2_with fail;go_region;go_wp2_with fail;go_ret2;refine .inr (.inr ⟨trivial,d,q,bk.out,rfl, ?_⟩);have ci:=below_drewN T.out 1;refine ac.out.M6 k i {c.pr k i with q:=(c.pr k i).q.tail} (w1:=u.drew) (v:=.slice I q.length (C-1)) ci (by rw[bk.out];exact ce.out.drew) (fun g a3=> ?_) b7.out ch.out aA;have:s=g:=by rw[b5.out] at a3;exact bg a3
    subst this;exact⟨b9.out,.inl (by rw[b2.out];rfl)⟩
theorem Hs(n i:Nat)(h:i<n):(2^n-1).testBit i=true:=by rw[Nat.testBit_two_pow_sub_one];simp[h]
theorem Ku(id n:Nat)(w:World)(hi:id<n)(hn:n<=16):Calls prog 77 #[.int .i64 id,.int .i64 n] w fun e w'=> ∃g gt,e=.returned (.tuple #[.pointer (some ⟨g,0,none⟩),.bool true])/\w.heap.size<=g/\w.heap.size<=gt/\g≠gt/\eN w' g 114 (mJ id n gt 1 0 false)/\eN w' gt 4 (rj n ((2^n-1).testBit ·))/\Below w.heap.size w w':=by
 have ad:=eJ (fE (n:Int) 1 16 true (by simp[ij];omega));have aa:=eJ (fE (id:Int) 0 ((n:Int)-1) true (by simp[ij];omega));have al:=Ik n hn;have u:Hid (eN ((w.alloc (.cells (rj n fun _=>false) 4)).alloc (.cells (mJ id n w.heap.size 1 0 false) 114)) (w.heap.size+1) 114 (mJ id n w.heap.size 1 0 false)):=eJ (by simpa using eN.new (w.alloc (.cells (rj n fun _=>false) 4)) 114 (mJ id n w.heap.size 1 0 false));have T:Hid (eN ((w.alloc (.cells (rj n fun _=>false) 4)).alloc (.cells (mJ id n w.heap.size 1 0 false) 114)) w.heap.size 4 (rj n fun _=>false)):=eJ ((eN.new w _ _).alloc _);have J:Hid (Below w.heap.size w ((w.alloc (.cells (rj n fun _=>false) 4)).alloc (.cells (mJ id n w.heap.size 1 0 false) 114))):=eJ (((au).alloc (ar) _).alloc ak _);obtain⟨E,K,X,I,U,O⟩:=u.out.qp;go_enter func77,ntmps77;go_wp2_with (go_at_call 31;first|(with_reducible refine(ad.out _).mono ?_;rintro e w' ⟨rfl,rfl⟩)|(with_reducible refine(aa.out _).mono ?_;rintro e w' ⟨rfl,rfl⟩));clear E K X I U O;go_loopw [29] (fun i wr=> ∃k:Nat,k<=n/\i=.int .i64 k/\Hid (eN wr (w.heap.size+1) 114 (mJ id n w.heap.size 1 0 false))/\Hid (eN wr w.heap.size 4 (rj n (fun j=>decide (j<k))))/\Hid (Below w.heap.size w wr)) (fun i _=>n-(intOf i).toNat);case atStart=>exact⟨0,ah,rfl,u,eJ (by rw[show(fun j=>decide (j<0))=fun (_:Nat)=>false from by funext j;simp];exact T.out),J⟩
 case round=>
  clear u T J;obtain⟨k,hk,rfl,s,h,Y⟩:=hrel;obtain⟨E,K,X,I,U,O⟩:=s.out.qp;by_cases C:k<n
  ·have c0:=h.out.tk C;have am:=h.out.frozen k;generalize decide (k<k)=t0 at c0;have z:=h.out.eS k (.bool true);rw[uc (f':=fun j=>decide (j<k+1)) k true C ak (fun i _ hi=>by
    by_cases h1:i<k
    ·simp[h1,show i<k+1 from ah]
    ·simp[h1,show¬i<k+1 from ah])] at z
   have ac:=eJ z;clear z;go_wp2_with fail;go_roundw;case rel=>exact⟨k+1,ah,aq,eJ (s.out.vR ah k _),ac,eJ (Y.out.setCell (ar) _)⟩
   case measure=>simp[intOf];omega
  ·obtain rfl:n=k:=ah;have Z:Hid (eN wr w.heap.size 4 (rj n ((2^n-1).testBit ·))):=eJ (by rw[E1 (f':=fun j=>decide (j<n)) (fun i hi=>by rw[Hs n i hi];simp[hi])];exact h.out);go_wp2_with fail;go_ret2;exact⟨_,_,rfl,ah,ar,ah,s.out,Z.out,Y.out⟩
section
variable {w w1 w2:World}{id n m m':Nat}{fe bad good' bad':Int}{fz fz':Bool}{g1 g2 gt:Nat}
end
def jX(n k:Int):Int:=if n+k<=255 then n+k else n+k-255
def nR(n s k:Int):Bool:=decide ((n<s/\s<=n+k/\s<=255)\/(1<=s/\s+255<=n+k))
theorem sM(n s k:Int)(hn:0<=n)(h:n<=255)(hk:0<=k)(j:k<=126)(hs:0<=s)(e:s<=255):nR n s (k+1)=(nR n s k||decide (jX n (k+1)=s)):=by rw[dL];simp only[nR,bI,dA];unfold jX;split<;>omega
theorem JG(n s:Int)(hn:0<=n)(h:n<=255)(hs:0<=s)(e:s<=255):nR n s 127=pC s n:=by simp only[nR,pC];rw[dL];simp only[bI];omega
theorem FT(n k:Int)(hn:0<=n)(e:n<=255)(hk:0<=k)(h:k<=127):0<=jX n k/\jX n k<=255:=by unfold jX;split<;>omega
theorem pW(n k:Int)(hn:0<=n)(e:n<=255)(hk:0<=k)(j:k<=126)(h:(jX n k+1==256)=true):jX n (k+1)=1:=by simp only[dy] at h;unfold jX at h⊢;split<;>(split at h<;>omega)
theorem tc(n k:Int)(hn:0<=n)(e:n<=255)(hk:0<=k)(j:k<=126)(h:(jX n k+1==256)=false):jX n (k+1)=jX n k+1:=by simp only[aV,ne_eq] at h;unfold jX at h⊢;split<;>(split at h<;>omega)
theorem Dx(n s k:Int)(hn:0<=n)(j:n<=255)(hk:0<=k)(u:k<=126)(hs:0<=s)(e:s<=255)(h:nR n s k=true):nR n s (k+1)=true:=by rw[sM n s k hn j hk u hs e,h];rfl
theorem Mg(n s k:Int)(hn:0<=n)(j:n<=255)(hk:0<=k)(e:k<=126)(hs:0<=s)(u:s<=255)(h: ¬nR n s k=true)(z:(jX n k+1==256)=true):(1==s)=nR n s (k+1):=by rw[sM n s k hn j hk e hs u,pW n k hn j hk e z,(by simpa using h:nR n s k=false)];rw[dL];simp
theorem Pt(n s k:Int)(hn:0<=n)(j:n<=255)(hk:0<=k)(e:k<=126)(hs:0<=s)(u:s<=255)(h: ¬nR n s k=true)(z:(jX n k+1==256)=false):(jX n k+1==s)=nR n s (k+1):=by rw[sM n s k hn j hk e hs u,tc n k hn j hk e z,(by simpa using h:nR n s k=false)];rw[dL];simp
theorem LX{a b:Int}(h:a=b):Value.int .i64 a=.int .i64 b:=by rw[h]
theorem DW{a b:Bool}(h:a=b):Value.bool a=.bool b:=by rw[h]
theorem FH(g:Nat)(s nw c0 c1:Int)(w:World)(h:eN w g 145 #[.int .i64 nw,.int .i64 c0,.int .i64 c1])(hn:-1<=nw)(u:nw<=255)(al:0<=c0)(ad:c0<=1000000000000)(ac:0<=c1)(Z:c1<=1000000000000):Calls prog 83 #[.pointer (some ⟨g,0,none⟩),.int .i64 s] w fun e w'=>e=.returned (.bool (gS s nw))/\eN w' g 145 (jV s nw c0 c1)/\w.grownBy w' (some g):=by
 have Y:=h.lt;have K:=h.cell 0;have T:=h.cell 1;have U:=h.cell 2;have f0:=h.frozen 0;have f1:=h.frozen 1;have f2:=h.frozen 2;simp at K T U;by_cases a1:ij s 0 255=false
 ·have z:gS s nw=false:=by simp[gS];simp[ij] at a1;omega
  have H:=eJ z;clear z;have A:=eJ a1;clear a1;go_enter func83,ntmps83;go_wp2_with (go_at_call 31;refine(qi _ _ _ _).mono ?_;rw[A.out];rintro e w' ⟨rfl,rfl⟩);go_ret;refine⟨gB H.out.symm, ?_, ?_⟩
  ·rw[jV,H.out];exact(h.eS 2 _)
  ·repeat (first|exact fw _ _|refine iy ?_|refine gT ?_ _|refine gM ?_ _|refine eQ ?_ ak _)
 ·have a1:ij s 0 255=true:=by simpa using a1
  have hs:0<=s/\s<=255:=by simp[ij] at a1;omega
  obtain⟨E,C⟩:=hs;have A:=eJ a1;clear a1;by_cases a3:nw<0
  ·have z:gS s nw=true:=by simp[gS];omega
   have H:=eJ z;clear z;go_enter func83,ntmps83;go_wp2_with (go_at_call 31;refine(qi _ _ _ _).mono ?_;rw[A.out];rintro e w' ⟨rfl,rfl⟩);go_ret;refine⟨gB H.out.symm, ?_, ?_⟩
   ·rw[jV,H.out];exact((h.eS 0 _).eS 1 _)
   ·repeat (first|exact fw _ _|refine iy ?_|refine gT ?_ _|refine gM ?_ _|refine eQ ?_ ak _)
  ·have j:0<=nw:=ah;have z:gS s nw=nR nw s 127:=by rw[JG _ _ j u E C];simp[gS,E,C];omega
   have H:=eJ z;clear z;have J:nR nw s 0=false:=by simp[nR];omega
   have O:=eJ J;clear J;have am:decide (0<=nw)=true:=ag;go_enter func83,ntmps83;go_wp2_with (go_at_call 31;refine(qi _ _ _ _).mono ?_;rw[A.out];rintro e w' ⟨rfl,rfl⟩);go_loop [5,6,21] (fun ok at_ i=> ∃k:Nat,k<=127/\i=.int .i64 k/\at_=.int .i64 (jX nw k)/\ok=.bool (nR nw s k)) (fun _ _ i=>127-(intOf i).toNat);case atStart=>exact⟨0,ah,rfl,by simp[jX];omega,by rw[show((0:Nat):Int)=0 from rfl,O.out]⟩
   case round=>
    obtain⟨k,hk,rfl,rfl,rfl⟩:=hrel;have sb:=FT nw k j u ah ah;obtain⟨ao,aa⟩:=sb;go_wp2
    ·exact⟨⟨k+1,ah,aq,LX (pW nw k j u ah ah ‹_›).symm,DW (Dx nw s k j u ah ah E C ‹_›).symm⟩,by simp[intOf];omega⟩
    ·exact⟨⟨k+1,ah,aq,LX (pW nw k j u ah ah ‹_›).symm,DW (Mg nw s k j u ah ah E C ‹_› ‹_›)⟩,by simp[intOf];omega⟩
    ·exact⟨⟨k+1,ah,aq,LX (tc nw k j u ah ah ‹_›).symm,DW (Dx nw s k j u ah ah E C ‹_›).symm⟩,by simp[intOf];omega⟩
    ·exact⟨⟨k+1,ah,aq,LX (tc nw k j u ah ah ‹_›).symm,DW (Pt nw s k j u ah ah E C ‹_› ‹_›)⟩,by simp[intOf];omega⟩
    all_goals have X:k=127:=ah;subst X;have I:gS s nw=nR nw s 127:=H.out;go_ret
    ·have h1:nR nw s 127=true:=an;refine⟨gB (I.trans h1).symm, ?_, ?_⟩
     ·rw[jV,I,h1];exact((h.eS 0 _).eS 1 _)
     ·repeat (first|exact fw _ _|refine iy ?_|refine gT ?_ _|refine gM ?_ _|refine eQ ?_ ak _)
    ·have h1:nR nw s 127=false:=an;refine⟨gB (I.trans h1).symm, ?_, ?_⟩
     ·rw[jV,I,h1];exact(h.eS 2 _)
     ·repeat (first|exact fw _ _|refine iy ?_|refine gT ?_ _|refine gM ?_ _|refine eQ ?_ ak _)
section
attribute [local irreducible] fu jg lu
def iJ(w0 w:World)(base g:Nat)(p:Pl)(P:lz)(fy:Nat)(c:Cl)(M:Nat)(w1:World)(bs:List Nat):Prop:= ∃a:vK,a.g=g/\fY w base a (eO p) p P fy c M/\Below base w0 w/\base<=w.heap.size/\∀b∈bs,b<w.heap.size/\¬wM (eM base a (eO p) p P fy c) b/\w.heap[b]? =w1.heap[b]?
section
variable {w0 w w' w1:World}{base g:Nat}{p:Pl}{P:lz}{fy M M':Nat}{c c':Cl}{bs:List Nat}
theorem iJ.KM(h:iJ w0 w base g p P fy c M w1 bs):Below base w0 w:=by obtain⟨a,h1,h2,h3,h4,h5⟩:=h;exact h3
theorem iJ.size(h:iJ w0 w base g p P fy c M w1 bs):base<=w.heap.size:=by obtain⟨a,h1,h2,h3,h4,h5⟩:=h;exact h4
theorem iJ.below(h:iJ w0 w base g p P fy c M w1 bs)(hB:Below w.heap.size w w'):iJ w0 w' base g p P fy c M w1 bs:=by obtain⟨a,h1,h2,h3,h4,h5⟩:=h;exact⟨a,h1,h2.below hB,h3.trans (hB.mono h4),aK h4 hB.size,fun b e=>⟨aN (h5 b e).1 hB.size,(h5 b e).2.1,(hB.block b (h5 b e).1).trans (h5 b e).2.2⟩⟩
theorem iJ.now(h:iJ w0 w base g p P fy c M w1 bs):iJ w0 w base g p P fy c M w bs:=by obtain⟨a,h1,h2,h3,h4,h5⟩:=h;exact⟨a,h1,h2,h3,h4,fun b e=>⟨(h5 b e).1,(h5 b e).2.1,rfl⟩⟩
theorem iJ.more(h:iJ w0 w base g p P fy c M w1 bs)(hB:Below w.heap.size w w'){x:Nat}(j:w.heap.size<=x)(s:x<w'.heap.size):iJ w0 w' base g p P fy c M w' (x::bs):=by
 obtain⟨a,h1,h2,h3,h4,h5⟩:=h;refine⟨a,h1,h2.below hB,h3.trans (hB.mono h4),aK h4 hB.size,fun b e=> ?_⟩;rcases bR.1 e with rfl|e
 ·exact⟨s,h2.gJ.ky j,rfl⟩
 ·exact⟨aN (h5 b e).1 hB.size,(h5 b e).2.1,rfl⟩
theorem iJ.OS(h:iJ w0 w base g p P fy c M w1 bs){b:Nat}(e:b∈bs):b<w.heap.size:=by obtain⟨a,h1,h2,h3,h4,h5⟩:=h;exact(h5 b e).1
theorem iJ.heap(h:iJ w0 w base g p P fy c M w1 bs){b:Nat}(e:b∈bs):w.heap[b]? =w1.heap[b]? :=by obtain⟨a,h1,h2,h3,h4,h5⟩:=h;exact(h5 b e).2.2
theorem iJ.eW(h:iJ w0 w base g p P fy c M w1 bs){b:Nat}(e:b∈bs){t:TypeId}{cs:Array Value}(hk:eN w1 b t cs):eN w b t cs:=(h.heap e).trans hk
theorem iJ.vB{a:vK}(h1:a.g=g)(h2:fY w base a (eO p) p P fy c M)(h3:Below base w0 w)(h4:base<=w.heap.size)(h5: ∀b∈bs,b<w.heap.size/\¬wM (eM base a (eO p) p P fy c) b/\w.heap[b]? =w1.heap[b]?)(u:sL w base a (eO p) p P fy c w' c' M'):iJ w0 w' base g p P fy c' M' w1 bs:=by obtain⟨s,e,z,j⟩:=u;exact⟨s,e.trans h1,z,j.old h2.gJ h3 h4,aK h4 j.size,fun b h=>⟨aN (h5 b h).1 j.size,j.not (h5 b h).1 (h5 b h).2.1,(j.block b (h5 b h).1 (h5 b h).2.1).trans (h5 b h).2.2⟩⟩
theorem iJ.cells(h:iJ w0 w base g p P fy c M w1 bs): ∃(ck nd lk:Value) (tm pm:Nat),eN w g 101 (kV p P fy ck nd lk tm pm c.rd):=by obtain⟨a,rfl,h2,h3,h4,h5⟩:=h;exact⟨_,_,_,_,_,h2.gA⟩
theorem vy(s:Mm):s.send.m=s.m/\s.send.gd=sG s.gd s.bd s.fz/\s.send.bd=sB s.gd s.bd s.fz/\s.send.fz= !fs s.gd s.bd s.fz:=by
 unfold Mm.send sG sB fs;cases e:s.fz
 ·by_cases h:s.gd<=s.bd
  ·have: ¬s.bd<s.gd:=ah;simp[h,this]
  ·have:s.bd<s.gd:=ah;simp[h,this,e]
 ·simp[e]
theorem Dr(s:Mm){id n fr:Nat}{e:Int}(h1:fr<n)(h2:fr≠id)(h3:0<=e/\e<=2):(s.mi fr e).m=hM id n s.m s.fz fr e/\(s.mi fr e).gd=hG id n s.gd s.fz fr e/\(s.mi fr e).bd=hB id n s.bd s.fz fr e/\(s.mi fr e).fz=s.fz:=by
 have z:GJ id n s.fz (fr:Int) e= !s.fz:=by unfold GJ;have a1:decide ((0:Int)<=(fr:Int))=true:=aJ ah;have a2:decide ((fr:Int)<(n:Int))=true:=aJ ah;have a3:decide ((fr:Int)=(id:Int))=false:=aH ah;have a4:decide (0<=e)=true:=aJ h3.1;have a5:decide (e<=2)=true:=aJ h3.2;rw[a1,a2,a3,a4,a5];simp
 unfold Mm.mi hM hG hB;rw[z];cases h:s.fz
 ·by_cases u:e=1
  ·subst u;simp[h]
  ·by_cases j:e=2
   ·subst j;simp[h]
   ·simp[u,j,h]
 ·simp[h]
theorem iJ.xh(h:iJ w0 w base g p P fy c M w1 bs)(hp:gl p){N:Nat}(Z:gH p N c)(ad:N<=1000000000000)(hm: ∀i,(c.mm i).m<2^p.nd.toNat){i:Nat}(hi:i<p.nd.toNat): ∃b off cp gm,w.cell? ⟨g,12,none⟩=some (.slice (some ⟨b,off,none⟩) p.nd.toNat cp)/\w.cell? ⟨b,off+i,none⟩=some (fk gm)/\(∀W,Below w.heap.size w W->Calls prog 80 #[fk gm] W fun e w'=>e=.returned (.tuple #[.int .i64 (gR (c.mm i).m (c.mm i).gd (c.mm i).bd (c.mm i).fz),.bool (fs (c.mm i).gd (c.mm i).bd (c.mm i).fz)])/\iJ w0 w' base g p P fy {c with mm:=eV c.mm i (c.mm i).send} M w1 bs)/\(∀W fr mm,Below w.heap.size w W->Calls prog 82 #[fk gm,.int .i64 fr,.int .i64 mm] W fun e w'=>e=.returned (.int .i64 (rh p.nd.toNat (c.mm i).m fr mm))/\w'=W)/\(∀(W:World)(fr:Nat)(z:Int),Below w.heap.size w W->fr<p.nd.toNat->fr≠i->0<=z/\z<=2->Calls prog 84 #[fk gm,.int .i64 fr,.int .i64 z] W fun e w'=>e=.returned (.tuple #[])/\iJ w0 w' base g p P fy {c with mm:=eV c.mm i ((c.mm i).mi fr z)} M w1 bs)/\(∀W,Below w.heap.size w W->Calls prog 36 #[fk gm] W fun e w'=>e=.returned (.int .i64 ((c.mm i).m:Nat))/\w'=W)/\(∀W,Below w.heap.size w W->W.cell? ⟨gm,5,none⟩=some (.bool (c.mm i).fz)):=by
 obtain⟨a,rfl,h2,h3,h4,h5⟩:=h;have hn:=hp.n16;have al:=hp.n1;obtain⟨b,off,cp,e,ac⟩:=h2.Oo (i:=i) hi;obtain⟨-,-,-,-,-,-,-,-,-,U,-⟩:=gg h2.gA;rw[e] at U;have X:=Z.mm i;have hG: ∀W,Below w.heap.size w W->fY W base a (eO p) p P fy c M/\Below base w0 W/\base<=W.heap.size/\∀b∈bs,b<W.heap.size/\¬wM (eM base a (eO p) p P fy c) b/\W.heap[b]? =w1.heap[b]? :=fun W hB=>⟨h2.below hB,h3.trans (hB.mono h4),aK h4 hB.size,fun b J=>⟨aN (h5 b J).1 hB.size,(h5 b J).2.1,(hB.block b (h5 b J).1).trans (h5 b J).2.2⟩⟩;refine⟨b,off,cp,a.gm i,U,ac,fun W hB=> ?_,fun W fr mm hB=> ?_,fun W fr z hB aa Y hw=> ?_,fun W hB=> ?_,fun W hB=> ?_⟩
 ·obtain⟨j,I,s,E⟩:=hG W hB;obtain⟨n1,u,C⟩:=j.Bq (i:=i) hi;refine(vr (a.gm i) (a.gt i) i p.nd.toNat (c.mm i).m (c.mm i).gd (c.mm i).bd (c.mm i).fz W n1 u C ah (hm i)).mono ?_;rintro e w' ⟨rfl,O⟩;obtain⟨s1,s2,K,T⟩:=vy (c.mm i);exact⟨rfl,.vB rfl j I s E (j.Ea hi (c.mm i).send (by rw[s1,s2,K,T];exact O) s)⟩
 ·obtain⟨j,I,s,E⟩:=hG W hB;obtain⟨n1,u,C⟩:=j.Bq (i:=i) hi;exact A0 (a.gm i) (a.gt i) i p.nd.toNat (c.mm i).m (c.mm i).gd (c.mm i).bd (c.mm i).fz W fr mm n1 u ah ah (hm i)
 ·obtain⟨j,I,s,E⟩:=hG W hB;obtain⟨n1,u,C⟩:=j.Bq (i:=i) hi;refine(uX (a.gm i) (a.gt i) i p.nd.toNat (c.mm i).m (c.mm i).gd (c.mm i).bd (c.mm i).fz W fr z n1 u C ah ah X.2.1 ah X.2.2.2.1 ah).mono ?_;rintro e w' ⟨rfl,O⟩;obtain⟨s1,s2,K,T⟩:=Dr (c.mm i) (id:=i) (n:=p.nd.toNat) aa Y hw;exact⟨rfl,.vB rfl j I s E (j.Ea hi ((c.mm i).mi fr z) (by rw[s1,s2,K,T];exact O) s)⟩
 ·obtain⟨j,I,s,E⟩:=hG W hB;obtain⟨n1,u,C⟩:=j.Bq (i:=i) hi;exact yd (a.gm i) (a.gt i) i p.nd.toNat (c.mm i).m (c.mm i).gd (c.mm i).bd (c.mm i).fz W n1 u ah (hm i)
 ·obtain⟨j,I,s,E⟩:=hG W hB;obtain⟨n1,u,C⟩:=j.Bq (i:=i) hi;exact n1.cell 5
end
end
end Go.Proofs.YtideefjnlakciaaGreatDoor
