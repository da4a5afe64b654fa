/- How long an answer is, in plain Lean; no condition. -/
import Derived.Test.YtideefjnlakciaaGreatDoorQ00
import Derived.Test.YtideefjnlakciaaGreatDoorQ34
import Derived.Test.YtideefjnlakciaaGreatDoorQ21
import Derived.Test.YtideefjnlakciaaGreatDoorQ33
import Derived.Test.YtideefjnlakciaaGreatDoorQ26
import Derived.Test.YtideefjnlakciaaGreatDoorQ32
import Derived.Test.YtideefjnlakciaaGreatDoorQ02
import Derived.Test.YtideefjnlakciaaGreatDoorQ15
import Derived.Test.YtideefjnlakciaaGreatDoorQ19
import Derived.Deep.Cut
import Derived.Deep.CutRange
import Derived.Deep.CutBlock
import Derived.RangeFuncLeaves
import Derived.TacticsInMore
import Derived.RangeFuncCalls
import Derived.Test.YtideefjnlakciaaGreatDoorCards
import Derived.Test.YtideefjnlakciaaGreatDoorTie
import Derived.SevenTiedAt
import Derived.ChangeVars
import Derived.JoinedOf
import Derived.RowKit
import Derived.RowKitTokens
import Derived.LaidLaws
import Derived.LaidHandle
import Derived.Stop.Joined
import Derived.LaidMore
import Derived.Lay
import Derived.Lib.LaidTab
import Derived.Lib.SmallJoins
set_option maxRecDepth 1000000
set_option maxHeartbeats 20000000
set_option linter.unusedVariables false
set_option linter.unusedSimpArgs false
namespace Go.Proofs.YtideefjnlakciaaGreatDoor
open Go.RowKit Go.Proofs.Tryz
def FP(x:jM):Prop:= ∀o,x.o=.ok o->o.size<=2000
section
variable {d:Dk}{w:List ByteArray}{k:Nat}
theorem kM{o:ByteArray}{d':Dk}(h:o.size<=2000):FP ⟨.ok o,d'⟩:=fun e j=>by cases j;exact h
theorem kF{e:Int}{d':Dk}:FP ⟨.error e,d'⟩:=fun j h=>by cases h
theorem oZ{c:Prop}[Decidable c]{a b:jM}(j:c->FP a)(e:FP b):FP (if c then a else b):=by
 split
 ·rename_i h;exact j h
 ·exact e
theorem uw{e:Int}{o:ByteArray}{d':Dk}(h:e=0->o.size<=2000):FP (rA e o d'):=by
 unfold rA;intro s j;dsimp only at j;split at j
 ·rename_i h0;cases j;exact h h0
 ·cases j
theorem gO{n:Int}{f:List Int->jM}(h: ∀l,FP (f l)):FP (fH d w n f):=by
 unfold fH;split
 ·exact kF
 ·exact h _
theorem yt{x:jM}(h:FP x):FP (DH d x):=by
 unfold DH;split
 ·exact h
 ·exact kF
theorem l7{x:Nat->Cl->jM}(h: ∀y,d.c=some y->FP (x y.1 y.2)):FP (nc d x):=by
 unfold nc;split
 ·exact kF
 ·rename_i y e;exact h y e
theorem sx{n:Int}(h0:-9223372036854775808<=n)(h1:n<=9223372036854775807):(fR n).size<=2000:=by have:=lO n h0 h1;omega
theorem zq{α:Type}(f:α->List Nat)(m:Nat)(e: ∀x,(f x).length=m): ∀l:List α,((l.map f).flatten).length=m*l.length|[]=>by simp|x::l=>by have:=zq f m e l;rw[cK,List.flatten_cons,aT,this,e,aP,Nat.mul_add,dO];omega
theorem JV(p:Pl):(sK p).length=10+3*p.sl.length+4*p.lk.length+((p.wn.map vS).flatten).length:=by have h1:=zq sI 3 (fun _=>rfl) p.sl;have h2:=zq sJ 4 (fun _=>rfl) p.lk;unfold sK;simp only[aT,aP,bh,h1,h2];omega
theorem Np{p:Pl}{fy:Nat}{c:Cl}(s: ∀j,-274877906944<=c.ck.getD j 0/\c.ck.getD j 0<=274877906944):-549755813888<=C9 p fy c/\C9 p fy c<=549755813888:=by
 have hm: ∀x∈fP fy c.ck p.nd.toNat,-274877906944<=x/\x<=274877906944:=fun x h=>by obtain⟨q,-,-,rfl⟩:=lQ h;exact s q
 unfold C9;split
 ·rename_i he;obtain⟨a,b,e,⟨⟨j,u,z⟩,-⟩,⟨⟨i,hi,C⟩,-⟩⟩:=he.choose_spec;have h1:=hm a (by rw[<-z,aL,aF u];exact cI _);have h2:=hm b (by rw[<-C,aL,aF hi];exact cI _);omega
 ·omega
theorem Gi(h:gC k d)(hk:k<=6000){s:ByteArray}{f:Dk->List ByteArray->jM}(E:s5 s=some f):FP (f d w):=by
 obtain⟨x,z,-,rfl⟩:=lS E;unfold Ct at z;simp only[bR,cC,ec] at z;rcases z with rfl|rfl|rfl|rfl|rfl|rfl|rfl|rfl|rfl|rfl|rfl|rfl|rfl|rfl|rfl|rfl|rfl|rfl|rfl|rfl
 ·refine gO fun _=>uw fun h0=> ?_;have h1:=qt (sK d.p) (Ch h0);rw[JV,h.wn] at h1;simp at h1;have:=h.sl;have:=h.lk;exact sx ah ah
 ·exact gO fun _=>kM aj
 ·refine gO fun _=>l7 fun y u=>kM ?_;obtain⟨h1,h2,-⟩:=h.im y u;have hp:=gl.of h1;have h3:=sF (l:=y.2.ck) (fun x z=>by obtain⟨j,C,e⟩:=bJ.1 z;have:=h2.ck j;rw[aL,aF C,cB,e] at this;omega);have h4:=h2.len;have h5:=hp.n16;have h6:=hp.n1;show(Lib.join (y.2.ck.map Lib.itoa) [32]).toArray.size<=2000;rw[ba];omega
 ·exact gO fun _=>l7 fun _ _=>kM aj
 ·exact gO fun _=>kM aj
 ·refine gO fun _=>yt (oZ (fun _=>kF) (kM ?_));have:=h.lk;exact sx ah ah
 ·refine gO fun l=>uw fun _=> ?_;have:=sV (l.getD 0 0) (l.getD 1 0) (l.getD 2 0) (l.getD 3 0) (l.getD 4 0);exact sx ah ah
 ·exact gO fun _=>l7 fun _ _=>kM aj
 ·refine gO fun n=>l7 fun y u=>oZ (fun _=>kF) (kM ?_);obtain⟨h1,h2,-⟩:=h.im y u;have h3:=(h2.mm (n.getD 0 0).toNat).1;have h4:=lO ((y.2.mm (n.getD 0 0).toNat).m:Nat) ah ah;split
  ·rw[dG];show _+7<=_;omega
  ·omega
 ·refine gO fun l=>uw fun _=> ?_;have:=si l.tail (l.getD 0 0);exact sx ah ah
 ·exact gO fun _=>l7 fun _ _=>kM aj
 ·exact gO fun _=>yt (kM aj)
 ·refine oZ (fun _=>kF) (gO fun _=>l7 fun _ _=>oZ (fun _=>kF) ?_);split
  ·exact kF
  ·exact uw fun _=>aj
 ·exact gO fun _=>l7 fun _ _=>kM aj
 ·refine gO fun l=>uw fun _=> ?_;have:=wI (l.getD 0 0) (l.getD 1 0) (l.getD 2 0) (l.getD 3 0) (l.getD 4 0);exact sx ah ah
 ·refine gO fun _=>l7 fun y u=>oZ (fun _=>kF) ?_;split
  ·exact kF
  ·refine oZ (fun _=>kF) ?_;split
   ·exact kF
   ·rename_i q hq;obtain⟨_,_,_,_,_,I⟩:=h.im y u;have:=I _ _ _ (by rw[hq];exact cP);refine kM ?_;unfold MG;rw[dG];show 3+_<=_;omega
 ·refine gO fun _=>l7 fun y u=>oZ (fun _=>kM ?_) kF;obtain⟨h1,h2,h3,-⟩:=h.im y u;have h4:=tW d.p y.1 d.r y.2;have h5:=(sA (gl.of h1) h2 y.1 d.r).rd;exact sx ah ah
 ·refine gO fun _=>yt (oZ (fun _=>kF) (kM ?_));have:=h.sl;exact sx ah ah
 ·refine gO fun _=>l7 fun y u=>kM ?_;obtain⟨_,h2,-⟩:=h.im y u;have:=Np (p:=d.p) (fy:=y.1) h2.ck;exact sx ah ah
 ·exact gO fun _=>yt (oZ (fun _=>kM aj) kF)
theorem oI(j:gC k d)(hk:k<=6000)(s:ByteArray):(fh d s).1.size<=2000:=by
 unfold fh;split
 ·show(⟨#[111,107]⟩:ByteArray).size<=2000;decide
 ·rename_i x ws hw;split
  ·show(oh 3).size<=2000;have:=lO 3 ah ah;unfold oh;rw[dG];show 6+_<=_;omega
  ·rename_i f h;have h1:=Gi (w:=ws) j hk h;have h2:=yQ (d:=d) (w:=ws) h;cases he:(f d ws).o with|ok o=>exact h1 o he|error e=>obtain⟨z,u⟩:=h2 e he;have:=lO e ah ah;show(oh e).size<=2000;unfold oh;rw[dG];show 6+_<=_;omega
end
section
attribute [local irreducible] fh
theorem yU(z:ByteArray): ∀(n i:Nat)(r:List UInt8),z.size-i<=n->ByteArray.toList.loop z i r=r.reverse++z.data.toList.drop i
 |n,i,r,h=>by
  unfold ByteArray.toList.loop;split
  ·rename_i hi;match n,h with
    |0,h=>omega
    |n+1,h=>
     rw[yU z n (i+1) _ ah];have:z.data.toList.drop i=z.get! i::z.data.toList.drop (i+1):=by rw[cy (by simpa using hi)];congr 1;simp[ByteArray.get!,getElem!_pos,hi]
     rw[this];simp
  ·rename_i hi;rw[List.drop_eq_nil_of_le (by simpa using hi)];simp
theorem DO(z:ByteArray):z.toList.isEmpty=decide (z=⟨#[]⟩):=by
 unfold ByteArray.toList;rw[yU z _ 0 [] (ar)];simp;obtain⟨d⟩:=z;by_cases h:d= #[]
 ·subst h;simp
 ·simp[h]
theorem Mq(z:ByteArray):z.toList=z.data.toList:=by unfold ByteArray.toList;rw[yU z _ 0 [] (ar)];simp
theorem JJ(x:ByteArray):x.toList=[112,117,116]↔x=Jp:=by
 rw[Mq];constructor
 ·intro h;apply ByteArray.ext;apply Array.ext';exact h
 ·intro h;subst h;rfl
theorem Jf{x:ByteArray}{ws:List ByteArray}{j:Nat}(h:x=Jp->j<=1)(s:j=ws.length\/(x=Jp/\j=1)):OW x ws=ws.take j:=by
 unfold OW;split
 ·rename_i e;rcases s with rfl|⟨-,rfl⟩
  ·rw[bC (h e),dj]
  ·rfl
 ·rename_i e;rcases s with rfl|⟨h2,-⟩
  ·rw[dj]
  ·exact absurd h2 e
theorem xJ{l:List ByteArray}{y:ByteArray}{b e:Bool}{ns:List Int}{h:Int}(h1:gI l=if b=true then some ns else none)(h2:lK y=if e=true then some h else none):gI (l++[y])=if (b&&e)=true then some (ns++[h]) else none:=by rw[xZ,h1,h2];cases b<;>cases e<;>rfl
theorem I2(s:ByteArray):(ux s).length<=(ig 10 s).length/\(∀i,i<(ux s).length->(ig 10 s).getD i ⟨#[]⟩=(ux s).getD i ⟨#[]⟩)/\(1<(ig 10 s).length->(ig 10 s).getD ((ig 10 s).length-1) ⟨#[]⟩=⟨#[]⟩->(ux s).length=(ig 10 s).length-1)/\((ig 10 s).length<=1\/(ig 10 s).getD ((ig 10 s).length-1) ⟨#[]⟩≠⟨#[]⟩->(ux s).length=(ig 10 s).length):=by
 unfold ux;generalize ig 10 s=l;have e:1<l.length->(l.getLast? =some ⟨#[]⟩↔l.getD (l.length-1) ⟨#[]⟩=⟨#[]⟩):=fun h1=>by rw[List.getLast?_eq_getElem?,aL,aF ah];simp
 split
 ·rename_i h;refine⟨ak,fun i hi=> ?_,fun _ _=>ak,fun j=> ?_⟩
  ·rw[List.length_dropLast] at hi;simp[aL,List.getElem?_dropLast,hi];rw[aF ah];rfl
  ·have:=(e h.1).1 h.2;rcases j with h1|h1
   ·omega
   ·exact absurd this h1
 ·rename_i h;exact⟨ar,fun i _=>rfl,fun h1 h2=>absurd ⟨h1,(e h1).2 h2⟩ h,fun _=>rfl⟩
theorem Gw(s:ByteArray):jt (ux s)<=s.size+1:=by
 rw[DJ];have e:vg s.data.toList=lv ⟨(Lib.trimSuffix s.data.toList [10]).toArray⟩:=rfl;rw[e,uC];have:(Lib.trimSuffix s.data.toList [10]).length<=s.data.toList.length:=by
  unfold Lib.trimSuffix;split
  ·rw[bP];omega
  ·exact ar
 have h2:s.data.toList.length=s.size:=ak;show(Lib.trimSuffix s.data.toList [10]).toArray.size+1<=_;rw[ba];omega
theorem La {l : List ByteArray} {i : Nat} (hi : i < l.length) : (l.getD i ⟨#[]⟩).size + 1 + jt (l.take i) ≤ jt l := by
 have h1 : l = l.take i ++ (l[i] :: l.drop (i + 1)) := by rw [List.getElem_cons_drop, dE]
 have h2 : jt l = jt (l.take i) + jt (l[i] :: l.drop (i + 1)) := by
  conv => lhs; rw [h1]
  exact pI _ _
 have h3 : ∀ (a : ByteArray) (r : List ByteArray), jt (a :: r) = (a.size + 1) + jt r := fun a r => by simp [jt]
 rw [h3] at h2
 rw [aL, aF hi]
 show l[i].size + 1 + _ ≤ _
 omega
theorem DM(c:UInt8): ∀l:List UInt8,((kc c l).map fun x=>x.length+1).sum=l.length+1
 |[]=>rfl
 |x::l=>by
  have e:=DM c l;obtain⟨y,r,h⟩:=lN (c:=c) l;rw[h] at e;rw[kc];split
  ·rw[h,cK,List.sum_cons,e];simp;omega
  ·rw[h];simp only[cK,List.sum_cons,aP] at e⊢;omega
theorem Dm: ∀P:List (List UInt8),2*(P.filter fun x=> !x.isEmpty).length<=(P.map fun x=>x.length+1).sum|[]=>by simp|x::P=>by have e:=Dm P;rw[cK,List.sum_cons];cases x with|nil=>rw[List.filter_cons_of_neg ak];omega|cons a x=>rw[List.filter_cons_of_pos ak,aP,aP];omega
theorem Hz(s:ByteArray):2*(kG s).length<=s.size+1:=by rw[tB,aY];have h1:=Dm (kc 32 s.data.toList);rw[DM,show s.data.toList.length=s.size from ak] at h1;exact h1
theorem Jh{x:ByteArray}{f:Dk->List ByteArray->jM}(h:s5 x=some f):3<=x.size:=by rcases yN h with ⟨rfl,rfl⟩|⟨rfl,rfl⟩|⟨rfl,rfl⟩|⟨rfl,rfl⟩|⟨rfl,rfl⟩|⟨rfl,rfl⟩|⟨rfl,rfl⟩|⟨rfl,rfl⟩|⟨rfl,rfl⟩|⟨rfl,rfl⟩|⟨rfl,rfl⟩|⟨rfl,rfl⟩|⟨rfl,rfl⟩|⟨rfl,rfl⟩|⟨rfl,rfl⟩|⟨rfl,rfl⟩|⟨rfl,rfl⟩|⟨rfl,rfl⟩|⟨rfl,rfl⟩|⟨rfl,rfl⟩;all_goals decide
theorem xx(l:List ByteArray)(k:Nat)(hk:k<l.length)(d:Dk):kr fh d (l.take (k+1))=kr fh d (l.take k)++((fh (ni fh d (l.take k)) (l.getD k ⟨#[]⟩)).1.data.toList++[10])/\ni fh d (l.take (k+1))=(fh (ni fh d (l.take k)) (l.getD k ⟨#[]⟩)).2:=by
 rw[cE,aF hk,aL,aF hk];constructor
 ·rw[uM];rfl
 ·generalize l.take k=a;show ni fh d (a++[l[k]])=_;induction a generalizing d with|nil=>rfl|cons x a e=>exact e _
theorem zK: ∀(l:List ByteArray)(d:Dk)(k:Nat),gC k d->k+jt l<=6000->(kr fh d l).length<=2001*l.length|[],d,k,h,hk=>by simp[kr]|s::l,d,k,h,hk=>by have h1:=rQ [s] d k h;have e:jt (s::l)=jt [s]+jt l:=pI [s] l;have h2:=zK l (fh d s).2 (k+jt [s]) h1 ah;have h3:=oI h ah s;have h4:(fh d s).1.data.toList.length=(fh d s).1.size:=ak;rw[kr,aT,aP,aP,h4];omega
theorem Jl:ni fh ld []=ld:=rfl
theorem J3:kr fh ld []=[]:=rfl
def QX:List (ByteArray×Value):=ie.take 0
def Qk:List (ByteArray×Value):=ie.take 1
def QL:List (ByteArray×Value):=ie.take 2
def QW:List (ByteArray×Value):=ie.take 3
def Qz:List (ByteArray×Value):=ie.take 4
def QK:List (ByteArray×Value):=ie.take 5
def QI:List (ByteArray×Value):=ie.take 6
def Qs:List (ByteArray×Value):=ie.take 7
def Qw:List (ByteArray×Value):=ie.take 8
def QM:List (ByteArray×Value):=ie.take 9
def Oa:List (ByteArray×Value):=ie.take 10
def NS:List (ByteArray×Value):=ie.take 11
def OP:List (ByteArray×Value):=ie.take 12
def Ox:List (ByteArray×Value):=ie.take 13
def NU:List (ByteArray×Value):=ie.take 14
def N6:List (ByteArray×Value):=ie.take 15
def Oq:List (ByteArray×Value):=ie.take 16
def NO:List (ByteArray×Value):=ie.take 17
def Oc:List (ByteArray×Value):=ie.take 18
def Ou:List (ByteArray×Value):=ie.take 19
def CB:List (ByteArray×Value):=ie.take 20
structure Cu (w0:World) (g ml bl:Nat) (ls:List ByteArray) (k:Nat) (W:World):Prop where
 hs: ∃L m,pA m w0 W g (ni fh ld (ls.take k)) L∧4*m≤jt (ls.take k)∧¬mD g L ml∧¬mD g L bl
 mp:W.heap[ml]? =some (.map (nt ie 0).toArray ie.length)
 ln:Kb W (some ⟨bl,0,none⟩) ls
 mlt:ml<W.heap.size
 blt:bl<W.heap.size
theorem Cu.next{w0 C W:World}{g u s k m':Nat}{ls:List ByteArray}{L:Lh}(h:Cu w0 g u s ls k C)(I: ¬mD g L u)(E: ¬mD g L s)(hk:k<ls.length)(hm:4*m'<=jt (ls.take (k+1)))(K:iW m' w0 C g L W (fh (ni fh ld (ls.take k)) (ls.getD k ⟨#[]⟩)).2):Cu w0 g u s ls (k+1) W:=by obtain⟨L',h1,h2⟩:=K;have z: ∀i,i<C.heap.size->¬mD g L i->¬mD g L' i:=fun i hi hn z=>(h2.gJ i z).elim hn (fun e=>ah);refine⟨⟨L',m',by rw[(xx ls k hk ld).2];exact h1,hm,z u h.mlt I,z s h.blt E⟩,(h2.block u h.mlt I).trans h.mp,fun j J=> ?_,aN h.mlt h2.size,aN h.blt h2.size⟩;obtain⟨b,off,e,c⟩:=h.ln j J;cases e;exact⟨_,_,rfl,(fj (h2.block s h.blt E) _).trans c⟩
theorem GQ{ls:List ByteArray}{k:Nat}(hk:k<ls.length):(⟨(kr fh ld (ls.take k)).toArray⟩:ByteArray)++((fh (ni fh ld (ls.take k)) (ls.getD k ⟨#[]⟩)).1++⟨#[10]⟩)=⟨(kr fh ld (ls.take (k+1))).toArray⟩:=by rw[(xx ls k hk ld).1];apply ByteArray.ext;simp[ByteArray.data_append]
theorem zH{d:Dk}{s:ByteArray}(h:kG s=[]):fh d s=(⟨#[111,107]⟩,d):=by unfold fh;rw[h]
theorem Kg{d:Dk}{s x:ByteArray}{ws:List ByteArray}{f:Dk->List ByteArray->jM}(h:kG s=x::ws)(e:s5 x=some f):fh d s=(On (f d ws).o,(f d ws).d):=by unfold fh;rw[h];dsimp only;rw[e]
theorem PC{x:ByteArray}{k:Int}(h:jO x DR=some k):-1<=k/\k<=6:=by obtain⟨y,e,rfl,rfl⟩:=lS h;unfold DR at e;simp only[bR,cC,ec] at e;rcases e with rfl|rfl|rfl|rfl|rfl|rfl|rfl|rfl|rfl|rfl|rfl|rfl|rfl|rfl|rfl|rfl|rfl|rfl|rfl|rfl<;>decide
end
section
attribute [local irreducible] fh kr ni
theorem yR(s:ByteArray)(hs:20000<s.size)(w:World):Calls prog 6 #[.string s] w fun e w'=>e=.returned (.string ⟨(mu s.data.toList).toArray⟩)/\Below w.heap.size w w':=by have d1:decide ((20000:Int)<(s.size:Int))=true:=aJ ah;have h:Hid (mu s.data.toList=[101,114,114,111,114,32,52,10]):=eJ (by unfold mu;rw[aM (by rw[show s.data.toList.length=s.size from ak];exact hs)]);go_enter func6,ntmps6;go_wp2_with fail;go_ret;rw[h.out];exact⟨rfl,au⟩
theorem zi(s:ByteArray)(hs:s.size<=3000)(w:World)(bv:gY w)(hF:nP w):Calls prog 6 #[.string s] w fun e w'=>e=.returned (.string ⟨(mu s.data.toList).toArray⟩)/\Below w.heap.size w w':=by
 have d1:decide ((20000:Int)<(s.size:Int))=false:=aH ah;have c3:=eJ (xr 10 s w ah);obtain⟨et,c6,bj,bf⟩:=I2 s;have hN:=Gw s;have hy:Hid (mu s.data.toList=kr fh ld (ux s)):=eJ (by unfold mu;rw[aI (by rw[show s.data.toList.length=s.size from ak];omega),DJ];rfl);obtain⟨n,hn⟩:=ab ((ig 10 s).length);obtain⟨ls,bn⟩:=ab (ux s);obtain⟨N,f6⟩:=ab ls.length;rw[bn] at et c6 bj bf hN hy;rw[hn] at c3 et bj bf;rw[f6] at et c6 bj bf;obtain⟨W1,b5⟩:=ab (w.alloc (.cells ((ig 10 s).map Value.string).toArray 9));rw[b5] at c3;have hl: ∀i,i<n->W1.cell? ⟨w.heap.size,i,none⟩=some (.string ((ig 10 s).getD i ⟨#[]⟩)):=fun i hi=>by rw[<-b5,(eN.new w 9 ((ig 10 s).map Value.string).toArray).cell i];simp[aL,aF (show i<(ig 10 s).length from ah)]
 have is:1<=n:=by rw[<-hn];unfold ig;obtain⟨a,r,h⟩:=lN (c:=10) s.data.toList;rw[h];simp
 have e3:n<=3001:=by rw[<-hn];unfold ig;rw[aY,pN];have:=List.count_le_length (a:=10) (l:=s.data.toList);rw[show s.data.toList.length=s.size from ak] at this;omega
 obtain⟨z,ft⟩:=ab ((ig 10 s).getD (n-1) ⟨#[]⟩);have c1:=hl (n-1) ah;rw[ft] at c1 bj bf;have ge:=DO z;have hC:wrap64 ((n:Int)-1)=((n-1:Nat):Int):=by unfold wrap64;omega
 have fn:W1.heap.size=w.heap.size+1:=by rw[<-b5];simp
 have ih:(Instr.makeMap 54 none).run prog W1=.ok (.map (some W1.heap.size)) (fo W1 QX):=run_makeMap _ _;have m0:(Instr.mapUpdate 54 (.map (some W1.heap.size)) (.string ⟨#[98,121,116,101,115]⟩) (.int .i64 (0))).run prog (fo W1 QX)=.ok () (fo W1 Qk):=nS W1 QX _ _ rfl;have m1:(Instr.mapUpdate 54 (.map (some W1.heap.size)) (.string ⟨#[99,108,101,97,114]⟩) (.int .i64 (0))).run prog (fo W1 Qk)=.ok () (fo W1 QL):=nS W1 Qk _ _ rfl;have m2:(Instr.mapUpdate 54 (.map (some W1.heap.size)) (.string ⟨#[99,108,111,99,107,115]⟩) (.int .i64 (0))).run prog (fo W1 QL)=.ok () (fo W1 QW):=nS W1 QL _ _ rfl;have m3:(Instr.mapUpdate 54 (.map (some W1.heap.size)) (.string ⟨#[100,114,105,102,116]⟩) (.int .i64 (-1))).run prog (fo W1 QW)=.ok () (fo W1 Qz):=nS W1 QW _ _ rfl;have m4:(Instr.mapUpdate 54 (.map (some W1.heap.size)) (.string ⟨#[104,101,108,112]⟩) (.int .i64 (0))).run prog (fo W1 Qz)=.ok () (fo W1 QK):=nS W1 Qz _ _ rfl;have m5:(Instr.mapUpdate 54 (.map (some W1.heap.size)) (.string ⟨#[108,105,110,107]⟩) (.int .i64 (4))).run prog (fo W1 QK)=.ok () (fo W1 QI):=nS W1 QK _ _ rfl;have m6:(Instr.mapUpdate 54 (.map (some W1.heap.size)) (.string ⟨#[108,111,99,97,108]⟩) (.int .i64 (5))).run prog (fo W1 QI)=.ok () (fo W1 Qs):=nS W1 QI _ _ rfl;have m7:(Instr.mapUpdate 54 (.map (some W1.heap.size)) (.string ⟨#[108,111,115,101]⟩) (.int .i64 (3))).run prog (fo W1 Qs)=.ok () (fo W1 Qw):=nS W1 Qs _ _ rfl;have m8:(Instr.mapUpdate 54 (.map (some W1.heap.size)) (.string ⟨#[109,101,109,98,101,114,115]⟩) (.int .i64 (1))).run prog (fo W1 Qw)=.ok () (fo W1 QM):=nS W1 Qw _ _ rfl;have m9:(Instr.mapUpdate 54 (.map (some W1.heap.size)) (.string ⟨#[109,105,100,112,111,105,110,116]⟩) (.int .i64 (-1))).run prog (fo W1 QM)=.ok () (fo W1 Oa):=nS W1 QM _ _ rfl;have m10:(Instr.mapUpdate 54 (.map (some W1.heap.size)) (.string ⟨#[109,111,100,101]⟩) (.int .i64 (-1))).run prog (fo W1 Oa)=.ok () (fo W1 NS):=nS W1 Oa _ _ rfl;have m11:(Instr.mapUpdate 54 (.map (some W1.heap.size)) (.string ⟨#[112,108,97,110]⟩) (.int .i64 (6))).run prog (fo W1 NS)=.ok () (fo W1 OP):=nS W1 NS _ _ rfl;have m12:(Instr.mapUpdate 54 (.map (some W1.heap.size)) (.string ⟨#[112,117,116]⟩) (.int .i64 (2))).run prog (fo W1 OP)=.ok () (fo W1 Ox):=nS W1 OP _ _ rfl;have m13:(Instr.mapUpdate 54 (.map (some W1.heap.size)) (.string ⟨#[114,101,97,100]⟩) (.int .i64 (3))).run prog (fo W1 Ox)=.ok () (fo W1 NU):=nS W1 Ox _ _ rfl;have m14:(Instr.mapUpdate 54 (.map (some W1.heap.size)) (.string ⟨#[114,101,97,108]⟩) (.int .i64 (5))).run prog (fo W1 NU)=.ok () (fo W1 N6):=nS W1 NU _ _ rfl;have m15:(Instr.mapUpdate 54 (.map (some W1.heap.size)) (.string ⟨#[114,101,99,101,105,118,101]⟩) (.int .i64 (2))).run prog (fo W1 N6)=.ok () (fo W1 Oq):=nS W1 N6 _ _ rfl;have m16:(Instr.mapUpdate 54 (.map (some W1.heap.size)) (.string ⟨#[114,111,117,110,100]⟩) (.int .i64 (0))).run prog (fo W1 Oq)=.ok () (fo W1 NO):=nS W1 Oq _ _ rfl;have m17:(Instr.mapUpdate 54 (.map (some W1.heap.size)) (.string ⟨#[115,108,111,116]⟩) (.int .i64 (3))).run prog (fo W1 NO)=.ok () (fo W1 Oc):=nS W1 NO _ _ rfl;have m18:(Instr.mapUpdate 54 (.map (some W1.heap.size)) (.string ⟨#[115,112,114,101,97,100]⟩) (.int .i64 (0))).run prog (fo W1 Oc)=.ok () (fo W1 Ou):=nS W1 Oc _ _ rfl;have m19:(Instr.mapUpdate 54 (.map (some W1.heap.size)) (.string ⟨#[115,116,97,114,116]⟩) (.int .i64 (-1))).run prog (fo W1 Ou)=.ok () (fo W1 CB):=nS W1 Ou _ _ rfl;obtain⟨W3,a4⟩:=ab ((fo W1 CB).alloc (.cells #[.int .i64 0,.int .i64 0,.int .i64 0,.int .i64 0,.int .i64 0,.int .i64 0,.slice none 0 0,.slice none 0 0,.int .i64 1,.slice none 0 0,.pointer none,.slice none 0 0,.slice none 0 0,.slice none 0 0,.slice none 0 0] 60));have d4:Hid (Cu w (w.heap.size+2) (w.heap.size+1) w.heap.size ls 0 W3):=eJ (by
  have f7:Below w.heap.size w W1:=by rw[<-b5];exact(au).alloc (ar) _
  have hh:Below w.heap.size w (fo W1 CB):=f7.alloc f7.size _;have hS:Below w.heap.size w W3:=by rw[<-a4];exact hh.alloc hh.size _
  have em:(fo W1 CB).heap.size=w.heap.size+2:=by show(W1.alloc _).heap.size=_;simp;omega
  have hk:eN W3 (w.heap.size+2) 60 (lB ld (OX w.heap.size)):=by rw[<-a4,<-em];exact eN.new _ _ _
  have iT:Below W1.heap.size W1 W3:=by rw[<-a4];exact((Below.refl W1.heap.size W1).alloc (ar) _).alloc ak _
  refine⟨⟨OX w.heap.size,0,by rw[List.take_zero,Jl];exact G0 hS ah hk,ah, ?_, ?_⟩, ?_,fun j aa=>⟨w.heap.size,0,rfl, ?_⟩, ?_, ?_⟩
  ·rintro (h|⟨j,aa,h⟩|h)
   ·omega
   ·cases h
   ·exact h
  ·rintro (h|⟨j,aa,h⟩|h)
   ·omega
   ·cases h
   ·exact h
  ·have h1:(fo W1 CB).heap[w.heap.size+1]? =some (.map (nt ie 0).toArray ie.length):=by rw[<-fn];exact yM W1 CB
   rw[<-a4];exact(bu _ _ _ ah).trans h1
  ·rw[bB,<-c6 j ah];exact(iT.cell (p:=⟨w.heap.size,j,none⟩) (by show w.heap.size<_;omega)).trans (hl j ah)
  ·have:W3.heap.size=w.heap.size+3:=by rw[<-a4];simp[em]
   omega
  ·have:W3.heap.size=w.heap.size+3:=by rw[<-a4];simp[em]
   omega)
 have ha:=eJ a4;have f2:(fo W1 CB).heap.size=w.heap.size+2:=by show(W1.alloc _).heap.size=_;simp;omega
 have de:=eJ f6;have hj:=eJ fn;have cv:=eJ f2;clear fn f2 hl b5 bn hn ft c6 a4;go_enter func6,ntmps6;go_wp2_with fail;refine c3.out.mono ?_;rintro r w1 ⟨rfl,rfl⟩;go_upto_region 4 with fail;go_cut [37] from 26 to 37 (fun i2 E=>i2=.bool (decide (1<n)&&decide (z=⟨#[]⟩))/\E=w1);case first=>
  by_cases h1:1<n
  ·have d2:decide ((1:Int)<(n:Int))=true:=aJ ah;cases cn:decide (z=⟨#[]⟩);all_goals rw[cn] at ge;go_wp2_with fail;go_meet;exact⟨by rw[aJ h1,cn];rfl,rfl⟩
  ·have d2:decide ((1:Int)<(n:Int))=false:=aH ah;go_wp2_with fail;go_meet;exact⟨by rw[aH h1];rfl,rfl⟩
 case rest=>
  obtain⟨rfl,rfl⟩:=hcut;obtain⟨fc,d8⟩:=ab ((decide (1<n)&&decide (z=⟨#[]⟩)));rw[d8];have er:(fc=true->N=n-1/\1<n)/\(fc=false->N=n):=by
   subst d8;refine⟨fun h=> ?_,fun h=> ?_⟩
   ·simp at h;exact⟨bj h.1 h.2,h.1⟩
   ·simp at h;by_cases h1:1<n
    ·exact bf (.inr (h h1))
    ·exact bf (.inl ah)
  clear d8 bj bf c1 ge;go_upto_if 37 with fail;go_cut [3] from 38 to 42 (fun z3 E=>z3=.slice (some ⟨w.heap.size,0,none⟩) N n/\E=wc);case first=>
   cases fc
   ·obtain rfl:=er.2 rfl;go_wp2_with fail;go_meet;exact⟨rfl,rfl⟩
   ·obtain⟨rfl,h1⟩:=er.1 rfl;go_wp2_with fail;go_meet;exact⟨rfl,rfl⟩
  case rest=>
   obtain⟨rfl,rfl⟩:=hcut;go_wp2_with fail;rw[ha.out,cv.out,hj.out];clear m0 m1 m2 m3 m4 m5 m6 m7 m8 m9 m10 m11 m12 m13 m14 m15 m16 m17 m18 m19 ih c3 er ha cv hj is hC;obtain⟨G,hG⟩:=ab (w.heap.size+2);obtain⟨bt,hE⟩:=ab (w.heap.size+1);obtain⟨cS,dt⟩:=ab w.heap.size;have j1:=eJ hG;rw[hG,hE] at d4⊢;have ib:Hid (Cu w G bt cS ls 0 W3):=eJ (by rw[<-dt];exact d4.out);have km:=eJ dt;rw[dt];clear hG hE dt d4;go_loopw [6,50] (fun v6 i wr=> ∃k:Nat,k<=N/\i=.int .i64 k/\v6=.string ⟨(kr fh ld (ls.take k)).toArray⟩/\Hid (Cu w G bt cS ls k wr)) (fun _ i _=>N-(intOf i).toNat);case atStart=>exact⟨0,cT _,rfl,by rw[List.take_zero,J3],ib⟩
   case round=>
    obtain⟨k,hk,rfl,rfl,c4⟩:=hrel;by_cases e2:k<N
    ·obtain⟨C,rfl⟩:=ae wr;obtain⟨sk,ds⟩:=ab (ls.getD k ⟨#[]⟩);obtain⟨K,cA⟩:=ab (jt (ls.take k));obtain⟨d,hd⟩:=ab (ni fh ld (ls.take k));have hI:=La (l:=ls) (i:=k) (by rw[de.out];exact e2);rw[ds,cA] at hI;have kw:sk.size+1+K<=3001:=ah;have gf:Hid (gC K d):=eJ (by rw[<-hd,<-cA];have:=rQ (ls.take k) ld 0 uZ;rwa[bB] at this);have c0:C.cell? ⟨cS,k,none⟩=some (.string sk):=by obtain⟨b,off,e,c⟩:=c4.out.ln k (by rw[de.out];exact e2);cases e;rw[bB,ds] at c;exact c
     have fd:=eJ ds;have e7:=eJ cA;have e6:=eJ hd;have en:=eJ (xr 32 sk C ah);obtain⟨bq,c7⟩:=ab ((ig 32 sk).length);have j3:bq<=3001:=by rw[<-c7];unfold ig;rw[aY,pN];have:=List.count_le_length (a:=32) (l:=sk.data.toList);rw[show sk.data.toList.length=sk.size from ak] at this;omega
     obtain⟨W2,ca⟩:=ab (C.alloc (.cells ((ig 32 sk).map Value.string).toArray 9));rw[c7,ca] at en;have ez:Hid (Below C.heap.size C W2):=eJ (by rw[<-ca];exact(au).alloc (ar) _);have g0:Hid (W2.heap.size=C.heap.size+1):=eJ (by rw[<-ca];simp);have cv:Hid (Kb W2 (some ⟨C.heap.size,0,none⟩) (ig 32 sk)):=eJ (fun j aa=>⟨_,_,rfl,by rw[<-ca,bB,(eN.new C 9 ((ig 32 sk).map Value.string).toArray).cell j];simp[aL,aF aa]⟩);have b3:=eJ c7;obtain⟨i0,hi,cn,i5,hY⟩:=eR sP;obtain⟨acc,d9⟩: ∃acc:ByteArray,(⟨(kr fh ld (ls.take k)).toArray⟩:ByteArray)=acc:=⟨_,rfl⟩;have f5:=eJ d9;rw[d9];clear ds cA hd hI c7 ca d9;go_wp2_with fail;refine en.out.mono ?_;rintro r w2 ⟨rfl,rfl⟩;clear c0 en;go_wp2_with fail;go_loopw [9,57] (fun v9 j E=> ∃q:Nat,q<=bq/\j=.int .i64 q/\Hid (E.ownsRow w2.heap.size 9 1 v9 (((ig 32 sk).take q).filter tK).length ((((ig 32 sk).take q).filter tK).map Value.string))/\Hid (Below w2.heap.size w2 E)) (fun _ j _=>bq-(intOf j).toNat);case atStart=>exact⟨0,cT _,rfl,eJ (bT _ _ _ _),eJ (au)⟩
     case round=>
      obtain⟨q,hq,rfl,X,aA⟩:=hrel;by_cases e8:q<bq
      ·obtain⟨x,eb⟩:=ab ((ig 32 sk).getD q ⟨#[]⟩);have fl:(ig 32 sk)[q]? =some x:=by rw[<-eb,aL,aF (by rw[b3.out];exact e8)];rfl
       have cq:wr.cell? ⟨C.heap.size,q,none⟩=some (.string x):=by obtain⟨b,off,e,c⟩:=(cv.out.below (ar) aA.out) q (by rw[b3.out];exact e8);cases e;rw[bB,eb] at c;exact c
       have g9:=DO x;have ch:Hid (((ig 32 sk).take (q+1)).filter tK=((ig 32 sk).take q).filter tK++(if x=⟨#[]⟩ then [] else [x])):=eJ (by
        have f1:q<(ig 32 sk).length:=by rw[b3.out];exact e8
        rw[zb f1];have:(ig 32 sk)[q]=x:=by rw[aF f1] at fl;exact bg fl
        rw[this])
       obtain⟨wl,a8⟩:=ab (((ig 32 sk).take q).filter tK);rw[a8] at X ch;have hL:wl.length<=bq:=by rw[<-a8,<-b3.out];exact aK (List.length_filter_le _ _) (by rw[bP];omega)
       obtain⟨wn,a6⟩:=ab wl.length;have al:=eJ a6;rw[a6] at X hL;clear eb fl a8 a6;by_cases bl:x=⟨#[]⟩
       ·rw[aJ bl] at g9;rw[aM bl,dK] at ch;clear bl;go_wp2_with fail;go_roundw;case rel=>exact⟨q+1,ah,aq,eJ (by rw[ch.out,al.out];exact X.out),aA⟩
        case measure=>simp[intOf];omega
       ·rw[aH bl] at g9;rw[aI bl] at ch;have f3:=eJ (X.out.alloc (.cells #[.string x] 9));clear bl;go_wp2_with (at_builtin;go_must (refine bD _ rfl (.tmp 63) (.tmp 65) _ rfl w2.heap.size 9 i0 _ 1 16 underlying52 hi cn i5 hY rfl aj _ wn (wl.map Value.string) rfl (by exact f3.out) ⟨wr.heap.size,0,none⟩ 1 1 [.string x] rfl rfl (by exact yl (eN.new wr 9 #[.string x])) (by intro u hu;simp at hu;subst hu;rfl) (by simp[maxLen];omega) ah (by have:=aA.out.size;simp;omega) ?_);intro v8 w8 a0 Z _;have cd:=eJ a0;have cc:=eJ Z;clear a0 Z);go_roundw;case rel=>exact⟨q+1,ah,aq,eJ (by rw[ch.out,aT,al.out,dz];exact cd.out),eJ ((aA.out.alloc aA.out.size _).grown cc.out (by have:=aA.out.size;simp;omega) (fun j e=>(f3.out.lt j e).1))⟩
        case measure=>simp[intOf];omega
      ·obtain rfl:q=bq:=ah;have dl:((ig 32 sk).take q).filter tK=kG sk:=by rw[<-b3.out,dj];exact Ld sk
       rw[dl] at X;have a8:(kG sk).length<=q:=by rw[<-dl];exact aK (List.length_filter_le _ _) (by rw[bP];omega)
       obtain⟨⟨L,m,bw,hm,e3,a2⟩,e1,-,iB,j9⟩:=c4.out;have b8:Below C.heap.size C wr:=ez.out.trans (aA.out.mono ez.out.size);rw[e6.out] at bw;rw[e7.out] at hm;have bi:k<ls.length:=by rw[de.out];exact e2
       have es:jt (ls.take (k+1))=K+(sk.size+1):=by
        have Z:ls[k]=sk:=by rw[<-fd.out,aL,aF bi];rfl
        rw[cE,aF bi,Option.toList_some,E8,e7.out,Z]
       have j8:acc.size<=6100000:=by rw[<-f5.out];have h1:=zK (ls.take k) ld 0 uZ (by rw[e7.out];omega);show(kr fh ld (ls.take k)).toArray.size<=_;rw[ba];rw[bP] at h1;omega
       have b9:=eJ bw;have dd:=eJ b8;have cV:Hid (∀(W:World)(m':Nat),4*m'<=K+(sk.size+1)->iW m' w C G L W (fh d sk).2->Cu w G bt cS ls (k+1) W):=eJ (fun W m' h1 h2=>by rw[<-e6.out,<-fd.out] at h2;exact c4.out.next e3 a2 bi (by rw[es];exact h1) h2);have a7:Hid (acc++((fh d sk).1++⟨#[10]⟩)=⟨(kr fh ld (ls.take (k+1))).toArray⟩):=eJ (by rw[<-f5.out,<-e6.out,<-fd.out];exact GQ bi);cases hw:kG sk with
        |nil=>
         rw[hw] at X;obtain⟨jp,c9,rfl,-⟩:=gK X.out;rw[zH hw] at a7;have gw:=cV.out wr m ah (by rw[zH hw];exact bw.to b8);have d7:=eJ gw;have g6: ¬9223372036854775807<acc.size+3:=ah;clear hw X bw b8 e1 gw cV dl a8 es bi;go_wp2_with fail;go_roundw;case rel=>exact⟨k+1,ah,aq,aO Value.string a7.out,d7⟩
         case measure=>simp[intOf];omega
        |cons x ws=>
         rw[hw] at X a8;obtain⟨wn,a6⟩:=ab ws.length;rw[aP,a6] at X a8;obtain⟨I,cp,cur,rfl,j6,h2,h3,-,-,-⟩:=fO X.out ah;have e5:Hid (∀i,i<wn+1->wr.cell? ⟨I,i,none⟩=some (.string ((x::ws).getD i ⟨#[]⟩))):=eJ (fun i hi=>by rw[mP X.out hi,bp,aL,aF (by rw[aP];omega)];rfl);have c5:wr.cell? ⟨I,0,none⟩=some (.string x):=e5.out 0 ah;have cr:I<wr.heap.size:=(aS.1 h2).1;have e0:wr.heap[bt]? =some (.map (nt ie 0).toArray ie.length):=(b8.block bt iB).trans e1;have ht:=PE wr bt e0 x;obtain⟨O,a3⟩:=ab ((jO x DR).getD 0);obtain⟨ex,hex⟩:=ab ((jO x DR).isSome);rw[a3,hex] at ht;obtain⟨ac,el⟩:=ab ((ex&&wT O wn));have j0:-1<=O/\O<=6:=by cases hl:jO x DR with|none=>rw[hl] at a3;subst a3;decide|some y=>rw[hl] at a3;subst a3;exact PC hl
         have g3:Hid (okW x ws=if ac=true then gI (OW x ws) else none):=eJ (by unfold okW;rw[<-el,<-a6];cases hl:jO x DR with|none=>rw[hl] at hex;subst hex;rfl|some y=>rw[hl] at hex a3;subst hex;subst a3;simp);have al:=eJ a6;have hJ:=eJ el;have ci:=eJ hw;have i9:=eJ e0;have kt:wn+1<=cp:=h3;clear a3 hex dl es bi e3 a2 e1 b8 bw a6 hw h2 h3 e0 el;go_upto_region 22 with fail;go_cut [15] from 79 to 99 (fun z E=>z=.bool ac/\E=wr);case first=>
          have hC:wrap64 (O+1)=O+1:=by unfold wrap64;omega
          have U: ∀b:Bool,(b=true↔ex=true/\((0<=O/\(wn:Int)=O)\/(O<0/\0<wn)))->b=ac:=fun b b4=>by rw[<-hJ.out,dL,b4];simp only[wT,cR,dA,bI]
          have U:=eJ U;cases ex
          ·go_wp2_with fail;go_meet;exact⟨aO Value.bool (U.out _ ak),rfl⟩
          ·by_cases ct:0<=O
           ·have d1:decide ((0:Int)<=O)=true:=aJ ct;have d3:decide (O<(0:Int))=false:=aH ah;obtain⟨b,b4⟩:=ab (((wn:Int)+1==O+1));have ev:=eJ (U.out b (by
             rw[<-b4,dy];constructor
             ·exact fun h=>⟨rfl,ah⟩
             ·exact fun h=>by have:=h.2;omega))
            clear ct;cases b;all_goals go_wp2_with fail;go_meet;exact⟨aO Value.bool ev.out,rfl⟩
           ·have d1:decide ((0:Int)<=O)=false:=aH ct;have d3:decide (O<(0:Int))=true:=aJ ah;obtain⟨b,b4⟩:=ab (decide ((1:Int)<(wn:Int)+1));have ev:=eJ (U.out b (by
             rw[<-b4,bI];constructor
             ·exact fun h=>⟨rfl,ah⟩
             ·exact fun h=>by have:=h.2;omega))
            clear ct;go_wp2_with fail;go_meet;exact⟨aO Value.bool ev.out,rfl⟩
         case rest=>
          obtain⟨rfl,rfl⟩:=hcut;have b1:(1:Int)<=((wn+1:Nat):Int):=ah;have b2:((wn+1:Nat):Int)<=(cp:Int):=ah;have kk:(1:Int)<=(wn:Int)+1:=ah;have kb:(wn:Int)+1<=(cp:Int):=ah;have j4:1<=wn+1:=ah;go_upto_region 24 with fail;go_cut [101,102,103] from 100 to 103 (fun i1 z2 z3 E=> ∃bb cq,i1=.slice (some ⟨I,bb,none⟩) wn cq/\z2=.int .i64 wn/\z3=.int .i64 0/\E=wc/\Hid (wn=0\/bb=1));case first=>
           by_cases eg:cp=1;all_goals go_wp2_with fail;go_meet
           ·exact⟨_,_,rfl,rfl,rfl,rfl,eJ (.inl ah)⟩
           ·exact⟨_,_,rfl,rfl,rfl,rfl,eJ (.inr rfl)⟩
          case rest=>
           obtain⟨bb,cq,rfl,rfl,rfl,rfl,go⟩:=hcut;have io:Hid (∀j,j<wn->wc.cell? ⟨I,bb+j,none⟩=some (.string (ws.getD j ⟨#[]⟩))):=eJ (fun j aa=>by have T:bb=1:=go.out.elim (fun e=>ah) id;have:=e5.out (j+1) ah;rw[T,dO 1 j,this];simp);have ho:Hid (∀j,(ws.getD j ⟨#[]⟩).size<=100000):=eJ (fun j=>by
            by_cases aa:j<ws.length
            ·have hm:ws.getD j ⟨#[]⟩∈kG sk:=by rw[ci.out,aL,aF aa];exact cF _ (cI _)
             have:=rf sk _ hm;omega
            ·rw[aL,bS ah];exact cT _)
           have hK:Hid (gY wc):=eJ (bv.below bv.wR (b9.out.low.trans (dd.out.mono b9.out.low.size)));obtain⟨gc,hb,hA,hx,gi⟩:=eR D4;obtain⟨wd,rfl⟩:=ae wc;go_upto_block 4 with fail;go_cut [15,16,17,18,19,20] from 103 to 129 (fun z5 hX _ _ _ _ E=> ∃(b:Bool) (ns:List Int),z5=.bool (ac&&b)/\Hid (E.ownsRow wd.heap.size 3 1 hX ns.length (ns.map (Value.int .i64)))/\Hid (gI (OW x ws)=if b=true then some ns else none)/\Hid (Below wd.heap.size wd E));case first=>
            obtain⟨pb,i4⟩:=ab (decide (x=Jp));have cm:=eJ i4;go_wp2_with fail;go_loopw [15,16,103] (fun hW Nt i E=> ∃(j:Nat) (b:Bool) (ns:List Int),j<=wn/\(pb=true->j<=1)/\i=.int .i64 j/\hW=.bool (ac&&b)/\Hid (E.ownsRow wd.heap.size 3 1 Nt j (ns.map (Value.int .i64)))/\ns.length=j/\Hid (gI (ws.take j)=if b=true then some ns else none)/\Hid (Below wd.heap.size wd E)) (fun _ _ i _=>wn-(intOf i).toNat);case atStart=>exact⟨0,true,[],ah,ah,rfl,by rw[Bool.and_true],eJ (bT _ _ _ _),rfl,eJ rfl,eJ (au)⟩
            case round=>
             obtain⟨j,b,ns,aa,dg,rfl,rfl,a9,bd,a5,J⟩:=hrel;by_cases g4:j<wn
             ·have iQ:=(J.out.cell (p:=⟨I,bb+j,none⟩) cr).trans (io.out j g4);have j7:=(J.out.cell (p:=⟨I,0,none⟩) cr).trans c5;obtain⟨y,dk⟩:=ab (ws.getD j ⟨#[]⟩);rw[dk] at iQ;have kD:y.size<=100000:=by rw[<-dk];exact ho.out j
              have hO:=eJ dk;have fp:=eJ (CY y wr (hK.out.next J.out) ah);clear dk c5;have hc:Hid (ws.take (j+1)=ws.take j++[y]):=eJ (by
               have gq:j<ws.length:=by rw[al.out];exact g4
               rw[cE,aF gq,<-hO.out,aL,aF gq];rfl)
              replace bd:=eJ bd;cases pb with
               |true=>
                have iS:x.toList=[112,117,116]:=(JJ x).2 (dv cm.out);by_cases cj:j=1
                ·have d5:((j:Int)==1)=true:=by rw[cj];rfl
                 have b7:=eJ (Jf (x:=x) (ws:=ws) (j:=j) (fun _=>ah) (.inr ⟨dv cm.out,cj⟩));clear cj;go_wp2_with fail;go_meet;exact⟨b,ns,rfl,by rw[bd.out];exact a9,eJ (by rw[b7.out];exact a5.out),J⟩
                ·have d5:((j:Int)==1)=false:=by rw[aV];omega
                 have i3:Hid (j=0):=eJ (by have:=dg rfl;omega);clear cj dg;go_wp2_with fail;refine fp.out.mono ?_;rintro r w5 ⟨⟨ao,ei,rfl,a2⟩,be⟩;have am:=eJ (J.out.trans (be.mono J.out.size));have cb:=eJ ((jq a9.out be).alloc (.cells #[.int .i64 ao] 3));have eq:=eJ a2;clear be a2;obtain⟨f,Y⟩:=ab ((ac&&b));have bk:=eJ Y;rw[Y];clear Y;cases f;all_goals
                  go_wp2_with (at_builtin;go_must (refine bD _ rfl (.tmp 125) (.tmp 127) _ rfl wd.heap.size 3 gc _ 1 8 underlying33 hb hA hx gi rfl aj _ j (ns.map (Value.int .i64)) rfl (by exact cb.out) ⟨w5.heap.size,0,none⟩ 1 1 [.int .i64 ao] rfl rfl (by exact yl (eN.new w5 3 #[.int .i64 ao])) (by intro u hu;simp at hu;subst hu;rfl) (by simp[maxLen];omega) ah (by have:=am.out.size;simp;omega) ?_);intro v8 w8 a0 Z _;have cd:=eJ a0;have cc:=eJ Z;clear a0 Z);go_roundw;case rel=>exact⟨j+1,b&&ei,ns++[ao],ah,(fun _=>by have:=i3.out;omega),aq,by rw[<-Bool.and_assoc,bk.out];rfl,eJ (by rw[dz];exact cd.out),by rw[aT,bd.out];rfl,eJ (by rw[hc.out];exact xJ a5.out eq.out),eJ ((am.out.alloc am.out.size _).grown cc.out (by have:=am.out.size;simp;omega) (fun j e=>(cb.out.lt j e).1))⟩
                  case measure=>simp[intOf];omega
               |false=>
                have iS: ¬x.toList=[112,117,116]:=fun h=>absurd ((JJ x).1 h) (of_decide_eq_false cm.out);clear dg;go_wp2_with fail;refine fp.out.mono ?_;rintro r w5 ⟨⟨ao,ei,rfl,a2⟩,be⟩;have am:=eJ (J.out.trans (be.mono J.out.size));have cb:=eJ ((jq a9.out be).alloc (.cells #[.int .i64 ao] 3));have eq:=eJ a2;clear be a2;obtain⟨f,Y⟩:=ab ((ac&&b));have bk:=eJ Y;rw[Y];clear Y;cases f;all_goals
                 go_wp2_with (at_builtin;go_must (refine bD _ rfl (.tmp 125) (.tmp 127) _ rfl wd.heap.size 3 gc _ 1 8 underlying33 hb hA hx gi rfl aj _ j (ns.map (Value.int .i64)) rfl (by exact cb.out) ⟨w5.heap.size,0,none⟩ 1 1 [.int .i64 ao] rfl rfl (by exact yl (eN.new w5 3 #[.int .i64 ao])) (by intro u hu;simp at hu;subst hu;rfl) (by simp[maxLen];omega) ah (by have:=am.out.size;simp;omega) ?_);intro v8 w8 a0 Z _;have cd:=eJ a0;have cc:=eJ Z;clear a0 Z);go_roundw;case rel=>exact⟨j+1,b&&ei,ns++[ao],ah,(fun h=>by cases h),aq,by rw[<-Bool.and_assoc,bk.out];rfl,eJ (by rw[dz];exact cd.out),by rw[aT,bd.out];rfl,eJ (by rw[hc.out];exact xJ a5.out eq.out),eJ ((am.out.alloc am.out.size _).grown cc.out (by have:=am.out.size;simp;omega) (fun j e=>(cb.out.lt j e).1))⟩
                 case measure=>simp[intOf];omega
             ·obtain rfl:j=wn:=ah;have b7:=eJ (Jf (x:=x) (ws:=ws) (j:=j) (fun h=>dg (by rw[<-cm.out];exact aJ h)) (.inl al.out.symm));have hV:=eJ bd;clear bd;go_wp2_with fail;go_meet;exact⟨b,ns,rfl,by rw[hV.out];exact a9,eJ (by rw[b7.out];exact a5.out),J⟩
           case rest=>
            obtain⟨b,ns,rfl,a9,a5,J⟩:=hcut;obtain⟨f,Y⟩:=ab ((ac&&b));have bk:=eJ Y;rw[Y];have hp:Below C.heap.size C wc:=dd.out.trans (J.out.mono dd.out.size);have d0:=eJ hp;clear Y hp ht;go_upto_if 130 with fail;go_cut [12,13] from 131 to 141 (fun z2 z3 E=> ∃(ad:ByteArray) (e:Int) (m':Nat),z2=.string ad/\z3=.int .i64 e/\Hid ((e=0/\ad=(fh d sk).1)\/(e≠0/\oh e=(fh d sk).1))/\(0<=e/\e<=100)/\4*m'<=K+(sk.size+1)/\Hid (iW m' w C G L E (fh d sk).2));case first=>
             cases f with
              |false=>
               have bm:okW x ws=none:=by
                have h1:=g3.out;have h2:=bk.out;rw[a5.out] at h1;cases ac
                ·rw[h1];rfl
                ·rw[Bool.true_and] at h2;subst h2;rw[h1];rfl
               have e4:=Ij (d:=d) ci.out bm;have U:=eJ (show(3:Int)=0/\(⟨#[111,107]⟩:ByteArray)=(fh d sk).1\/(3:Int)≠0/\oh 3=(fh d sk).1 from .inr ⟨aj,by rw[e4]⟩);have ce:=eJ (show iW m w C G L wc (fh d sk).2 by rw[e4];exact b9.out.to d0.out);clear bm e4;go_wp2_with fail;go_meet;exact⟨_,3,m,rfl,rfl,U,ah,ah,ce⟩
              |true=>
               have c8:ac=true/\b=true:=by have:=bk.out;simpa using this
               have bm:okW x ws=some ns:=by rw[g3.out,a5.out,aM c8.1,aM c8.2]
               obtain⟨hv,b6⟩:=Oh bm;have f8: ∀y∈ns,-9223372036854775808<=y/\y<=9223372036854775807:=pR (ws:=OW x ws) (by rw[a5.out,aM c8.2]);obtain⟨i6,i7,rfl,-⟩:=gK a9.out;have hle:wd.heap.size<=wc.heap.size:=J.out.size;have j2:4*m<=3001:=ah;have gs:jF m K w C wc.drew G d L (.slice i6 ns.length i7) ns:=⟨bv,hF,b9.out,gf.out,ah,ah,d0.out.trans ((below_drewN (Below.refl wc.heap.size wc) 1).mono d0.out.size),by have:=ez.out.size;have:=g0.out;have:=aA.out.size;show C.heap.size<wc.heap.size;omega,(rY a9.out dd.out.size),f8⟩;have g8: ∀(o:Nat)(a:Addr),(some ⟨I,o,none⟩:Option Addr)=some a->¬L.S.F a.block:=fun o a e=>by cases e;intro hF;have h8:I<C.heap.size:=(b9.out.lo (.inr (.inr hF))).2;have:=g0.out;omega
               have gm: ∀o,(wn=0\/o=1)->Kb wc.drew (some ⟨I,o,none⟩) ws:=fun o T j aa=>⟨_,_,rfl,by
                have kf:j<wn:=by rw[<-al.out];exact aa
                have it:o=1:=T.elim (fun e=>ah) id;have:=(J.out.cell (p:=⟨I,j+1,none⟩) cr).trans (e5.out (j+1) ah);rw[it,dO 1 j];exact this.trans ak⟩
               have hQ:=Hz sk;rw[ci.out,aP,al.out] at hQ;have kx:x.size<=sk.size:=rf sk x (by show x∈kG sk;rw[ci.out];simp);have j5:=Jh b6;have hP:=eJ (yQ (d:=d) (w:=ws) b6);have hU:4*(m+1)<=K+(sk.size+1):=ah;have cx:=eJ (fun o c (T:wn=0\/o=1)=>EG gs b6 (some ⟨I,o,none⟩) ws c (gm o T) (g8 o) ho.out (by rw[al.out];omega) bm);rw[al.out] at cx;have hr:=eJ (Kg (d:=d) ci.out b6);have kp:Hid (wn=0\/bb=1):=go;obtain⟨ck,gd⟩: ∃ck:World->Prop,(fun W=>W.cell? ⟨I,0,none⟩=some (.string x))=ck:=⟨_,rfl⟩;have gr:=eJ gd.symm;have ii:Hid (ck wc.drew):=eJ (by rw[gr.out];exact(J.out.cell (p:=⟨I,0,none⟩) cr).trans c5);clear c8 bm b6 f8 gs g8 gm gd c5;by_cases eg:cp=1;all_goals
                first|(have gz:=eJ (cx.out 0 (cp-1) (.inl ah));have kA:(cp=1)=True:=eq_true eg;clear eg)|have gz:=eJ (cx.out 1 (cp-1) (.inr rfl))
                clear cx;go_wp2_with fail;refine wp_region_noPanic ?_;refine fU (S:=ck) (L:=7) ai ?_;have ea:=ii.out;try simp only[ba,aP,bh,Nat.reduceAdd]
                refine qM (fuel:=7) ai (fun _ _ _ _ h=>h) ea [0,1,2,4,5,6] ai ?_;iterate 6
                 refine⟨_, ?_,rfl,.inl ⟨by rfl, ?_⟩, ?_⟩;rotate_left
                 ·(intro w9 _;go_simp<;>with_reducible rfl)
                 try simp only[Act.put,ax,aE,aD,aB,ay,az]
                unfold ou;refine il (fuel:=6) ai (fun _ _ _ _ h=>h) ea [3] ai ?_;iterate 1
                 refine⟨_, ?_,rfl,.inl ⟨by rfl, ?_⟩, ?_⟩;rotate_left
                 ·(intro w9 hM;rw[gr.out] at hM;go_simp<;>with_reducible rfl)
                 try simp only[Act.put,ax,aE,aD,aB,ay,az]
                unfold ou;clear ea;refine eK (i:=7) ai rfl (fun bz ap=> ?_);try simp only[aB,ay,az]
                go_simp;refine gz.out.mono ?_;rintro r w7 ⟨⟨ad,e,rfl,f4⟩,hf⟩;have g5:=eJ f4;have iM:=eJ hf;clear f4 hf;try go_simp
                refine ap.out _ _ (fun h9=>absurd h9 aj) ?_;clear ap bz;try simp only[Act.put,ax,aE,aD]
                refine eK (i:=8) ai rfl (fun bz ap=> ?_);try simp only[aB,ay,az]
                go_simp;refine ap.out _ _ (fun h9=>absurd h9 aj) ?_;clear ap bz;try simp only[Act.put,ax,aE,aD]
                refine oO (i:=9) (v:= ?_) rfl ai ai ai ai (fun _ _ _ h=>h) (Or.inl ⟨by rfl, ?_⟩) (fun h9=>absurd h9 aj) ?_;rotate_left
                ·(intro w9 _;go_simp<;>with_reducible rfl)
                try simp only[Act.put,ax,aE,aD,aB,ay,az]
                refine oO (i:=10) (v:= ?_) rfl ai ai ai ai (fun _ _ _ h=>h) (Or.inl ⟨by rfl, ?_⟩) (fun h9=>absurd h9 aj) ?_;rotate_left
                ·(intro w9 _;go_simp<;>with_reducible rfl)
                try simp only[Act.put,ax,aE,aD,aB,ay,az]
                refine oO (i:=11) (v:= ?_) rfl ai ai ai ai (fun _ _ _ h=>h) (Or.inl ⟨by rfl, ?_⟩) (fun h9=>absurd h9 aj) ?_;rotate_left
                ·(intro w9 _;go_simp<;>with_reducible rfl)
                try simp only[Act.put,ax,aE,aD,aB,ay,az]
                refine eK (i:=12) ai rfl (fun bz ap=> ?_);try simp only[aB,ay,az]
                go_simp;refine ap.out _ _ (fun h9=>absurd h9 aj) ?_;clear ap bz;try simp only[Act.put,ax,aE,aD]
                refine fT ai ?_ _;refine NoPanic.normal ?_;have hD:(e=0/\ad=(fh d sk).1)\/(e≠0/\oh e=(fh d sk).1):=by rw[hr.out];have h1:=g5.out;cases T:(hv d ws).o with|ok o=>rw[T] at h1;exact .inl ⟨h1.1,h1.2⟩|error y=>rw[T] at h1;obtain⟨rfl,h2⟩:=h1;exact .inr ⟨h2,rfl⟩
                have iA:=eJ hD;have hz:0<=e/\e<=100:=by have h1:=g5.out;cases T:(hv d ws).o with|ok o=>rw[T] at h1;rw[h1.1];decide|error y=>rw[T] at h1;obtain⟨rfl,-⟩:=h1;exact hP.out _ T
                have hT:=eJ (show iW (m+1) w C G L w7 (fh d sk).2 by rw[hr.out];exact iM.out);clear hD;go_wp2_with fail;go_meet;exact⟨ad,e,m+1,rfl,rfl,iA,hz,hU,hT⟩
            case rest=>
             obtain⟨ad,e,m',rfl,rfl,U,hz,f9,ce⟩:=hcut;have bn:=oI gf.out ah sk;have d7:=eJ (cV.out wc m' f9 ce.out);by_cases he:e=0
             ·have co:ad=(fh d sk).1:=U.out.elim (fun h=>h.2) (fun h=>absurd he h.1);have g6: ¬9223372036854775807<ad.size+1:=by rw[co];omega
              have hR: ¬9223372036854775807<acc.size+(ad.size+1):=by rw[co];omega
              rw[<-co] at a7;clear co bn U;subst he;go_wp2_with fail;go_roundw;case rel=>exact⟨k+1,ah,aq,aO Value.string a7.out,d7⟩
              case measure=>simp[intOf];omega
             ·have e9:oh e=(fh d sk).1:=U.out.elim (fun h=>absurd h.1 he) (fun h=>h.2);have i8:(oh e).size<=2000:=by rw[e9];exact bn
              rw[<-e9] at a7;have d6:(e !=0)=true:=by simpa using he
              have hB:gY wc:=by obtain⟨L2,h2,-⟩:=ce.out;exact bv.below bv.wR h2.low
              have hg:=eJ (qN e wc hB ah ah);obtain⟨bx,cu⟩:=ab (fR e);have g7:oh e=⟨#[101,114,114,111,114,32]⟩++bx:=by rw[<-cu];rfl
              have kn:bx.size<=2000:=by rw[<-cu];exact sx ah ah
              rw[cu] at hg;rw[g7] at a7;have kq: ¬9223372036854775807<6+bx.size:=ah;have g6: ¬9223372036854775807<6+bx.size+1:=ah;have hR: ¬9223372036854775807<acc.size+(6+bx.size+1):=ah;clear e9 bn U i8 hB cu g7 he;go_wp2_with fail;refine hg.out.mono ?_;rintro r w9 ⟨rfl,hH⟩;have ip:=eJ (cV.out w9 m' f9 (ce.out.below hH));clear hH;go_wp2_with fail;go_roundw;case rel=>exact⟨k+1,ah,aq,aO Value.string a7.out,ip⟩
              case measure=>simp[intOf];omega
    ·obtain rfl:k=N:=ah;have b7:Hid (mu s.data.toList=kr fh ld (ls.take k)):=eJ (by rw[hy.out,<-de.out,dj]);go_wp2_with fail;go_ret;obtain⟨jv,m9,h9,-⟩:=c4.out.hs;exact⟨aO (fun l:List UInt8=>Ending.returned (.string ⟨l.toArray⟩)) b7.out.symm,h9.low⟩
end
section
open Go.Shelf
attribute [local go_sem] Oper.semAt_some
theorem zW: ∀(l:List ByteArray)(d:Dk)(k:Nat),gC k d->k+jt l<=6000->(kr fh d l).length<=2001*l.length|[],d,k,h,hk=>by simp[kr]|s::l,d,k,h,hk=>by have h1:=rQ [s] d k h;have e:jt (s::l)=jt [s]+jt l:=pI [s] l;have h2:=zW l (fh d s).2 (k+jt [s]) h1 ah;have h3:=oI h ah s;have h4:(fh d s).1.data.toList.length=(fh d s).1.size:=ak;rw[kr,aT,aP,aP,h4];omega
attribute [local irreducible] fh
theorem F9(s:ByteArray):vg s.data.toList=lv ⟨(Lib.trimSuffix s.data.toList [10]).toArray⟩:=rfl
theorem Io(l p:List UInt8):(Lib.trimSuffix l p).length<=l.length:=by
 unfold Lib.trimSuffix;split
 ·rw[bP];omega
 ·exact ar
theorem Fi{w0 w1:World}(hB:Below w0.heap.size w0 w1)(x y z:Array Value)(hi:Nat):lR w0 w1.heap.size (w1.heap.size+1) hi ld [] (((((w1.alloc (.cells (ic ld zt) 37)).alloc (.cells #[.pointer none,.slice none 0 0] 42)).alloc (.cells x 9)).alloc (.cells y 9)).alloc (.cells z 3)):=by
 have hs:=hB.size;have b1:Below w0.heap.size w0 (((((w1.alloc (.cells (ic ld zt) 37)).alloc (.cells #[.pointer none,.slice none 0 0] 42)).alloc (.cells x 9)).alloc (.cells y 9)).alloc (.cells z 3)):=((((hB.alloc hs _).alloc ag _).alloc ag _).alloc ag _).alloc ag _;have E:=((((eN.new w1 37 (ic ld zt)).alloc (.cells #[.pointer none,.slice none 0 0] 42)).alloc (.cells x 9)).alloc (.cells y 9)).alloc (.cells z 3);have u:=(((eN.new (w1.alloc (.cells (ic ld zt) 37)) 42 #[.pointer none,.slice none 0 0]).alloc (.cells x 9)).alloc (.cells y 9)).alloc (.cells z 3);have s:=((eN.new ((w1.alloc (.cells (ic ld zt) 37)).alloc (.cells #[.pointer none,.slice none 0 0] 42)) 9 x).alloc (.cells y 9)).alloc (.cells z 3);have h:=(eN.new (((w1.alloc (.cells (ic ld zt) 37)).alloc (.cells #[.pointer none,.slice none 0 0] 42)).alloc (.cells x 9)) 9 y).alloc (.cells z 3);have C:=eN.new ((((w1.alloc (.cells (ic ld zt) 37)).alloc (.cells #[.pointer none,.slice none 0 0] 42)).alloc (.cells x 9)).alloc (.cells y 9)) 3 z;simp only[bX] at u s h C;refine⟨zt,IY b1 hs E, ?_,.inl ⟨ah,.slice none 0 0,u,⟨rfl,.inl ⟨rfl,rfl⟩⟩,by simp[Value.ownBlock]⟩,ak,⟨_,s⟩,⟨_,h⟩,⟨_,C⟩⟩;rintro i h1 h2 (rfl|⟨j,I,e⟩|⟨q,hq⟩)
 ·omega
 ·cases e
 ·simp[Ob.eX] at hq
theorem lR.Jx{w0 W:World}{g b hi:Nat}{d:Dk}{acc:List UInt8}(h:lR w0 g b hi d acc W)(z:g<b)(u:b+3<hi)(q:ByteArray)(hq:acc.length+q.size<=100000000):Calls prog 10 #[.pointer (some ⟨b,0,none⟩),.string q] W fun e w'=>e=.returned (.tuple #[.int .i64 q.size,.nilIface])/\lR w0 g b hi d (acc++q.data.toList) w'/\Lib.OthersKept 5 (some b) W w'/\W.heap.size<=w'.heap.size:=by
 have hB:=h;obtain⟨L,h1,_,h3,_⟩:=hB;have hl:(Lib.byteCells acc).length=acc.length:=by simp[Lib.byteCells]
 refine(Any.Builder_WriteString_k LB nF w0.heap.size b (Lib.byteCells acc) q W h3 ah h1.low.size).mono ?_;rintro e w' ⟨he,C,s,j⟩;exact⟨he,h.write z u q C s j,j,s.size⟩
theorem lR.end_{w0 W:World}{g b hi:Nat}{d:Dk}{acc:List UInt8}(h:lR w0 g b hi d acc W):Calls prog 12 #[.pointer (some ⟨b,0,none⟩)] W fun e w'=>e=.returned (.string ⟨acc.toArray⟩)/\Below w0.heap.size w0 w'/\Lib.OthersKept 5 (some b) W w':=by obtain⟨L,h1,_,h3,_⟩:=h;refine(Builder_String_any_k w0.heap.size b acc W h3 h1.low.size).mono ?_;rintro e w' ⟨he,_,s,j⟩;exact⟨he,h1.low.trans (s.mono (ar)),j⟩
theorem Bj(s:ByteArray)(hs:s.size<=5000)(w:World)(aA:gY w):Calls prog 5 #[.string s] w fun e w'=>e=.returned (.string ⟨(mu s.data.toList).toArray⟩)/\Below w.heap.size w w':=by
 have ao:=eJ (xE w);have bv:=eJ aA;have d1:decide ((s.size:Int)>20000)=false:=aH ah;have d2: ¬((20000:Int)<s.size):=ah;obtain⟨t,E⟩: ∃t:ByteArray,(⟨(Lib.trimSuffix s.data.toList [10]).toArray⟩:ByteArray)=t:=⟨_,rfl⟩;have bb:t.size<=5000:=by have:=Io s.data.toList [10];rw[<-E];show(Lib.trimSuffix s.data.toList [10]).toArray.size<=5000;rw[ba];have:s.data.toList.length=s.size:=ak;omega
 have bx:Hid (mu s.data.toList=kr fh ld (lv t)):=eJ (by unfold mu;rw[aI (by rw[show s.data.toList.length=s.size from ak];omega),F9,E];rfl);have X:=eJ (fun W=>strings_TrimSuffix s ⟨#[10]⟩ W ah);simp only[E] at X;have ap:=eJ (fun W=>FY t ⟨#[10]⟩ W);have am:=eJ bb;clear aA E bb;refine(df (n:=6)).1 ?_;refine callsIn_of_wp_marks func5 rfl trivial ?_ rfl;simp only[ntmps5,ba,aP,bh,Nat.reduceAdd,Nat.reduceSub,cN,cM,db,cU,bQ,bE];gi_wp2_with (refine⟨trivial, ?_⟩;gi_at_call 7;refine(df.2 ao.out).mono ?_;rintro r w1 ⟨rfl,a2⟩;have a3:=eJ a2;clear a2);gi_wp2_with (refine⟨trivial, ?_⟩;gi_at_call 9;refine(df.2 (X.out _)).mono ?_;rintro r w2 ⟨rfl,rfl⟩);gi_wp2_with (refine⟨trivial, ?_⟩;gi_at_call 8;refine(df.2 (ap.out _)).mono ?_;rintro r w2 ⟨rfl,rfl⟩);generalize z:(((((w1.alloc (.cells #[.int .i64 0,.int .i64 0,.int .i64 0,.int .i64 0,.int .i64 0,.int .i64 0,.slice none 0 0,.slice none 0 0,.int .i64 1,.slice none 0 0,.pointer none,.slice none 0 0,.slice none 0 0,.slice none 0 0,.slice none 0 0] 37)).alloc (.cells #[.pointer none,.slice none 0 0] 42)).alloc (.cells #[.string t] 9)).alloc (.cells #[.string ⟨#[10]⟩] 9)).alloc (.cells #[.int .i64 0] 3))=W3;have b6:lR w w1.heap.size (w1.heap.size+1) (w1.heap.size+7) ld [] W3:=by rw[<-z];exact Fi a3.out _ _ _ _
 have b7:W3.heap.size=w1.heap.size+5:=by rw[<-z];simp
 have J:eN W3 (w1.heap.size+1+1) 9 #[.string t]:=by rw[<-z];have h:=((eN.new ((w1.alloc (.cells (ic ld zt) 37)).alloc (.cells #[.pointer none,.slice none 0 0] 42)) 9 #[.string t]).alloc (.cells #[.string ⟨#[10]⟩] 9)).alloc (.cells #[.int .i64 0] 3);simp only[bX] at h;exact h
 have C:eN W3 (w1.heap.size+1+1+1) 9 #[.string ⟨#[10]⟩]:=by rw[<-z];have h:=(eN.new (((w1.alloc (.cells (ic ld zt) 37)).alloc (.cells #[.pointer none,.slice none 0 0] 42)).alloc (.cells #[.string t] 9)) 9 #[.string ⟨#[10]⟩]).alloc (.cells #[.int .i64 0] 3);simp only[bX] at h;exact h
 have al:eN W3 (w1.heap.size+1+1+2) 3 #[.int .i64 0]:=by rw[<-z];have h:=eN.new ((((w1.alloc (.cells (ic ld zt) 37)).alloc (.cells #[.pointer none,.slice none 0 0] 42)).alloc (.cells #[.string t] 9)).alloc (.cells #[.string ⟨#[10]⟩] 9)) 3 #[.int .i64 0];simp only[bX] at h;exact h
 have bk:=Ff 5 ah (w1.heap.size+1+1) t (by have:=am.out;omega) W3 J C al;clear z J C al ao X ap d1 d2;have b9:=a3.out.size;generalize w1.heap.size=g at*;refine wX rfl ah (gf:=41) (lb:= #[.pointer (some ⟨g+1+1+1,0,none⟩),.pointer (some ⟨g+1+1,0,none⟩),.pointer (some ⟨g+1+1+2,0,none⟩)]) rfl trivial (enters_of func41 ai rfl) (encs:=fun x:ByteArray=> #[.string x]) (fun _=>rfl) (sb:=g+1+1) ah (K:=fun i=>i=g+1+1\/i=g+1+1+1\/i=g+1+1+2) ah (xs:=lv t) bk (fun pre W=>lR w g (g+1) (g+7) (ni fh ld pre) (kr fh ld pre) W) (fun s W o h=>h.alloc ah ah o) (fun s W o h j=>h.put ah ah ah j o) (fun s W v h=>h.box ah ah v) b6 (fun x=>{tmps:= #[.string s,undef,.string ⟨#[]⟩,.pointer (some ⟨g,0,none⟩),.pointer (some ⟨g+1,0,none⟩),.string x,.string s,.int .i64 s.size,.bool false,.agg #[.int .i64 0,.int .i64 0,.int .i64 0,.int .i64 0,.int .i64 0,.int .i64 0,.slice none 0 0,.slice none 0 0,.int .i64 1,.slice none 0 0,.pointer none,.slice none 0 0,.slice none 0 0,.slice none 0 0,.slice none 0 0],.string s,.string t,.func (.func 41) #[] #[.pointer (some ⟨g+1+1+1,0,none⟩),.pointer (some ⟨g+1+1,0,none⟩),.pointer (some ⟨g+1+1+2,0,none⟩)],.string x,undef,undef,undef,undef,undef],defers:=[]}) ?assign ?body ?done;case assign=>intro l x W K Z;gi_wp2;exact Z
 case body=>
  rintro l pre x W u ⟨r,U⟩ aa;have a5:jt pre+(x.size+1)<=5001:=by
   have h1:=uC t;rw[U,pI,show x::r=[x]++r from rfl,pI] at h1;have h2:jt [x]=x.size+1:=by simp[jt]
   have:=am.out;omega
  have T:=rQ pre ld 0 uZ;have hlen:=zW pre ld 0 uZ ah;have bt:pre.length<=jt pre:=by
   clear u U a5 T hlen;induction pre with
    |nil=>simp
    |cons y l cd=>
     have e:jt (y::l)=y.size+1+jt l:=by simp[jt]
     rw[aP];omega
  have bw:=oI T ah x;have bl:g+7<=W.heap.size:=by obtain⟨o,j,_⟩:=aa (W3.heap.size+1) (.inr rfl);have:=(aS.1 j).1;omega
  have bn:=eJ (u.line bv.out ah ah bl T ah x ah);generalize hd:ni fh ld pre=d at*;generalize a8:kr fh ld pre=acc at*;have a6:Hid (ni fh ld (pre++[x])=(fh d x).2/\kr fh ld (pre++[x])=acc++((fh d x).1.data.toList++[10])):=eJ ⟨by rw[yg,hd],by rw[FD,hd,a8]⟩;generalize(fh d x).1=o at*;generalize(fh d x).2=d2 at*;have hq: ¬9223372036854775807<o.size+1:=ah;have b4:(o++⟨#[10]⟩:ByteArray).size=o.size+1:=by rw[dG];rfl
  have bz:=eJ (fun bm (h:lR w g (g+1) (g+7) d2 acc bm)=>h.Jx ah ah (o++⟨#[10]⟩) ah);have bf:=eJ aa;have b8:=eJ u;have bi:Hid ((o++⟨#[10]⟩:ByteArray).data.toList=o.data.toList++[10]):=eJ ak;clear aa u U T hlen bt bw hd a8 a5 b4;gi_wp2;refine⟨trivial, ?_⟩;refine(CallsIn.inRound l (df.2 bn.out)).mono ?_;rintro e b2 ⟨rfl,a0,ac,cb⟩;have a7:=eJ a0;have a4:=eJ ac;clear a0 ac;gi_wp2;refine⟨trivial, ?_⟩;refine(CallsIn.inRound l (df.2 (bz.out _ a7.out))).mono ?_;rintro e Y ⟨rfl,a9,I,cc⟩;have bq:=eJ a9;have be:=eJ I;clear a9 I;gi_wp2;have O: ∀i o',b2.heap[i]? =some o'->g+1<i->i<g+7->(∀c fz,o'≠ .cells c 5 fz)->Y.heap[i]? =W.heap[i]? :=fun i o' j h1 h2 hn=>by rw[be.out i o' j (fun e=>by cases e;omega) hn,<-j];exact a4.out i ah h2
  refine⟨?_, ?_⟩
  ·obtain⟨_,_,_,_,_,⟨c1,b5⟩,⟨c2,J⟩,⟨c3,C⟩⟩:=a7.out;rintro i ((rfl|rfl|rfl)|hi)
   ·exact O _ _ b5 ah ah (fun c fz e=>by cases e)
   ·exact O _ _ J ah ah (fun c fz e=>by cases e)
   ·exact O _ _ C ah ah (fun c fz e=>by cases e)
   ·obtain⟨o',j,ad⟩:=bf.out i ah;exact O i o' ((a4.out i ah ah).trans j) ah ah (fun c fz e=>by rw[e] at ad;cases ad)
  ·rw[a6.out.1,a6.out.2,<-bi.out];exact bq.out
 case done=>intro D W ca u Z;have bj:=eJ u.end_;gi_wp2_with (refine⟨trivial, ?_⟩;gi_at_call 12;refine(df.2 bj.out).mono ?_;rintro e Y ⟨rfl,bd,I⟩);have b3:Y.heap[D]? =some (.deferred (some [])):=I D _ Z (fun e=>by cases e;omega) (fun c fz e=>by cases e);refine⟨ak,.inl ⟨_,_,rfl,run_takeDeferred b3, ?_⟩⟩;refine⟨_,results_tmp rfl _ _ _, ?_,bd.grown (grownBy_putObj' _ _ _) bd.size (fun k e=>by cases e;omega)⟩;rw[bx.out];simp
end
section
open Go.Shelf
attribute [local irreducible] mu
theorem Aj(s:ByteArray)(hs:20000<s.size)(w:World):Calls prog 5 #[.string s] w fun e w'=>e=.returned (.string ⟨(mu s.data.toList).toArray⟩)/\Below w.heap.size w w':=by have d1:decide ((20000:Int)<(s.size:Int))=true:=aJ ah;have d2:(20000:Int)<(s.size:Int):=ah;have h:Hid (mu s.data.toList=[101,114,114,111,114,32,52,10]):=eJ (by unfold mu;rw[aM (by rw[show s.data.toList.length=s.size from ak];exact hs)]);clear hs;refine(df (n:=6)).1 ?_;refine callsIn_of_wp_marks func5 rfl trivial ?_ rfl;simp only[ntmps5,ba,aP,bh,Nat.reduceAdd,Nat.reduceSub,cN,cM,db,cU,bQ,bE];gi_wp2_with fail;refine⟨_,results_tmp rfl _ _ _, ?_,au⟩;rw[h.out];rfl
theorem AT(s:ByteArray)(w:World)(h:gY w)(hF:nP w)(hs:s.size<=140737488355328):Calls prog 4 #[.string s] w fun e w'=>e=.returned (.bool true)/\Below w.heap.size w w':=by
 by_cases h1:3000<s.size/\s.size<=20000
 ·have d1:decide ((3000:Int)<(s.size:Int))=true:=aJ ah;have d2:decide ((s.size:Int)<=20000)=true:=aJ ah;clear h1 hs;go_enter func4,ntmps4;go_wp2_with fail;go_ret;exact⟨rfl,.refl _ _⟩
 by_cases h2:30000<s.size
 ·have d1:decide ((3000:Int)<(s.size:Int))=true:=aJ ah;have d2:decide ((s.size:Int)<=20000)=false:=aH ah;have d3:decide ((30000:Int)<(s.size:Int))=true:=aJ ah;clear h1 h2 hs;go_enter func4,ntmps4;go_wp2_with fail;go_ret;exact⟨rfl,.refl _ _⟩
 have I:Hid (∀W,Below w.heap.size w W->Calls prog 5 #[.string s] W fun e w'=>e=.returned (.string ⟨(mu s.data.toList).toArray⟩)/\Below W.heap.size W w'):=eJ (fun W hB=>by
  by_cases h3:20000<s.size
  ·exact Aj s h3 W
  ·exact Bj s ah W (h.below h.wR hB))
 have E:Hid (∀W,Below w.heap.size w W->Calls prog 6 #[.string s] W fun e w'=>e=.returned (.string ⟨(mu s.data.toList).toArray⟩)/\Below W.heap.size W w'):=eJ (fun W hB=>by
  by_cases h3:20000<s.size
  ·exact yR s h3 W
  ·exact zi s ah W (h.below h.wR hB) (hF.below hB))
 generalize(⟨(mu s.data.toList).toArray⟩:ByteArray)=x at*;by_cases h3:3000<s.size;all_goals
  first|(have d1:decide ((3000:Int)<(s.size:Int))=true:=aJ ah;have d2:decide ((s.size:Int)<=20000)=false:=aH ah;have d3:decide ((30000:Int)<(s.size:Int))=false:=aH ah)|(have d1:decide ((3000:Int)<(s.size:Int))=false:=aH ah;have d3:decide ((30000:Int)<(s.size:Int))=false:=aH ah)
  clear h1 h2 h3 hs h hF;go_enter func4,ntmps4;go_wp2_with fail;refine(I.out _ (au)).mono ?_;rintro e w1 ⟨rfl,u⟩;have j:=eJ u;clear u;go_wp2_with fail;refine(E.out _ j.out).mono ?_;rintro e w2 ⟨rfl,z⟩;have C:=eJ (j.out.trans (z.mono j.out.size));clear z;go_wp2_with fail;go_ret;exact⟨rfl,C.out⟩
end
section
open Go.ChangeShapes Go.WideShapes
theorem Qy:prog.globalNamed "errors.errorType" =some 4:=ai
theorem Qu:(prog.cutTypes.find? (·.1== "internal/reflectlite.rtype")).map (·.2)=some 277:=ai
theorem Nu:prog.types.size=352:=ai
theorem G6:((List.range 352).filter fun t=>prog.rowNamed t [101,114,114,111,114])=[48]:=ai
theorem Pj:typeHandle prog 48=mG 48:=ai
theorem wJ{l:List (String×DataW Unit)}{W:World}(h:handlesMet prog l W)(hm:("errors.errorType",Rows.laid_errors_errorType)∈l):nQ W:=by obtain⟨name,u,ty,j,z,C,E,e⟩:=h _ hm;have s:name=[101,114,114,111,114]:=(bg j).symm;subst s;obtain rfl:=bg (Qu.symm.trans z);have hm:ty∈(List.range 352).filter fun t=>prog.rowNamed t [101,114,114,111,114]:=List.mem_filter.2 ⟨dc.2 (by rw[<-Nu];exact C),E⟩;rw[G6] at hm;obtain rfl:=bO.1 hm;rw[Pj] at e;simpa using eB Qy e 0
end
section
open Go.ChangeShapes Go.WideShapes
theorem ur{H:Type}{enc:TypeId×Value->H}{P:Program}{w:World}{base:Nat}{sp:Nat->Bool}{fuel:Nat}{t:TypeId}{ms:Array (String×TypeId)}{cs:List Value}{nm:String}{d:DataW H}{p:List MemPlace}(e:P.underlying t=some (.interface ms))(h:DataW.trod enc P w base sp false fuel t cs=some (.iface nm d,p)): ∃u v,cs=[.iface u v]:=by cases fuel with|zero=>simp[DataW.trod] at h|succ n=>match cs,h with|[],h=>simp[DataW.trod,e] at h|[v],h=>cases v<;>simp[DataW.trod,e] at h<;>exact⟨_,_,rfl⟩|_::_::_,h=>simp[DataW.trod,e] at h
theorem IU:prog.globalNamed "strconv.ErrSyntax" =some 5:=ai
theorem Hc:prog.globalNamed "strconv.ErrRange" =some 6:=ai
theorem NT:prog.globalNamed "math/bits.deBruijn64tab" =some 9:=ai
theorem Nl:(prog.globals[7]?).map (·.type)=some 249:=ai
theorem NK:prog.underlying 249=some (.array 20 185):=ai
theorem Oi:prog.underlying 185=some (.int .u64):=ai
theorem NZ:prog.cellsOf 249=20:=ai
theorem OD:prog.cellsOf 185=1:=ai
theorem OR:prog.globalNamed "internal/strconv.uint64pow10" =some 7:=ai
theorem P8:(Rows.laid_internal_strconv_uint64pow10:DataW Unit)=Lib.tabData .u64 Lib.pow10Tab:=ai
theorem Oy:(prog.globals[5]?).map (·.type)=some 48:=ai
theorem Nx:(prog.globals[6]?).map (·.type)=some 48:=ai
theorem yF{W:World}(s:nQ W){c1 c2 c3 c4:Array Value}(h1:W.var? prog "math/bits.deBruijn64tab" =some c1)(h2:W.var? prog "internal/strconv.uint64pow10" =some c2)(h3:W.var? prog "strconv.ErrRange" =some c3)(h4:W.var? prog "strconv.ErrSyntax" =some c4)(E:c2=(Lib.pow10Tab.map fun z=>Value.int .u64 z).toArray)(j: ∃u v,c3.toList=[.iface u v])(C: ∃u v,c4.toList=[.iface u v]):gY W:=by
 refine⟨s,by unfold Lib.TabIs;rw[<-E];exact h2, ?_, ?_, ?_⟩
 ·obtain⟨u,v,e⟩:=C;have:=eB IU h4 0;rw[Array.eq_one_of_toList e] at this;exact⟨_,by simpa using this,.inr ⟨u,v,rfl⟩⟩
 ·obtain⟨u,v,e⟩:=j;have:=eB Hc h3 0;rw[Array.eq_one_of_toList e] at this;exact⟨_,by simpa using this,.inr ⟨u,v,rfl⟩⟩
 ·simp only[World.var?,NT,Option.bind_some] at h1;split at h1
  ·rename_i cs ty fz h;have:=(aS.1 h).1;omega
  ·cases h1
end
section
open Go.ChangeShapes Go.WideShapes Go.Joins
theorem NR:prog.globalNamed "metronome/metronomeref.Fine" =some 0:=ai
theorem Ms:(prog.globals[0]?).map (·.type)=some 90:=ai
theorem LV:prog.cellsOf 90=2:=ai
theorem OF:prog.cellsOf 3=1:=ai
theorem Iy:prog.cellsOf 61=1:=ai
end
section
open Go.ChangeShapes Go.WideShapes
theorem zf{W:World}(h:laidMetH prog Rows.deskAnswersRow.laid W):gY W/\nP W:=by
 have T:laidMet prog [("math/bits.deBruijn32tab",Rows.laid_math_bits_deBruijn32tab),("math/bits.deBruijn64tab",Rows.laid_math_bits_deBruijn64tab),("internal/strconv.uint64pow10",Rows.laid_internal_strconv_uint64pow10),("unicode/utf8.acceptRanges",Rows.laid_unicode_utf8_acceptRanges),("strconv.ErrRange",Rows.laid_strconv_ErrRange),("strconv.ErrSyntax",Rows.laid_strconv_ErrSyntax),("metronome/metronomeref.Fine",Rows.laid_metronome_metronomeref_Fine),("unicode/utf8.first",Rows.laid_unicode_utf8_first)] W/\handlesMet prog [("errors.errorType",Rows.laid_errors_errorType)] W:=h;clear h;obtain⟨⟨U,⟨_,_,_,_,_,_,_,_,_,_,⟨_,_,c1,_,_,_,_,_,v1,_,⟨_,t2,c2,_,_,_,g2,E,v2,d2,⟨_,_,_,_,_,_,_,_,_,_,⟨_,t3,c3,_,_,_,g3,z,v3,d3,⟨_,t4,c4,_,_,_,g4,K,v4,d4,⟨_,t5,cs,_,_,_,g5,I,v5,d5,_,_⟩,_⟩,_⟩,_⟩,_⟩,_⟩,_⟩,_⟩,C⟩:=T;obtain rfl:=bg (OR.symm.trans g2);obtain rfl:=bg (Nl.symm.trans E);obtain rfl:=bg (Hc.symm.trans g3);obtain rfl:=bg (Nx.symm.trans z);obtain rfl:=bg (IU.symm.trans g4);obtain rfl:=bg (Oy.symm.trans K);rw[P8] at d2;have J:=Lib.cells_of_tab NK Oi OD NZ d2;refine⟨yF (wJ C (bO.2 rfl)) v1 v2 v3 v4 (by rw[<-J]) (ur underlying48 d3) (ur underlying48 d4), ?_⟩;obtain rfl:=bg (NR.symm.trans g5);obtain rfl:=bg (Ms.symm.trans I);obtain⟨xs,m,rfl,u,hlen,O,e⟩:=DataW.trod_struct underlying90 d5;have h0:=e 0 _ rfl;have h1:=e 1 _ rfl;obtain⟨l⟩:=cs;rw[LV] at hlen;match l,hlen,xs,O with
  |[c0,c1],_,[X,x1],_=>
   obtain⟨a,s,f0,_⟩:=DataW.trod_int underlying61 h0;obtain⟨b,j,f1,_⟩:=DataW.trod_int underlying3 h1;simp[OF,Iy] at s j;subst s j;subst f0 f1;simp[Rows.laid_metronome_metronomeref_Fine] at u;obtain⟨⟨rfl,rfl⟩,_⟩:=u;constructor
   ·simpa using eB g5 v5 0
   ·simpa using eB g5 v5 1
end
section
open Go.ChangeShapes Go.WideShapes
noncomputable def rz (os:Os):World:=
 let w:=World.laidAll prog os [("math/bits.deBruijn32tab",Rows.laid_math_bits_deBruijn32tab),("math/bits.deBruijn64tab",Rows.laid_math_bits_deBruijn64tab),("internal/strconv.uint64pow10",Rows.laid_internal_strconv_uint64pow10),("unicode/utf8.acceptRanges",Rows.laid_unicode_utf8_acceptRanges),("strconv.ErrRange",Rows.laid_strconv_ErrRange),("strconv.ErrSyntax",Rows.laid_strconv_ErrSyntax),("metronome/metronomeref.Fine",Rows.laid_metronome_metronomeref_Fine),("unicode/utf8.first",Rows.laid_unicode_utf8_first)]
 { w with heap := w.heap.modify 4 fun
  |.cells _ t frozen=> .cells #[.iface 277 (.agg #[mG 48])] t frozen
  | o => o }
theorem uL(os:Os)(args:Array Value):laidMetH prog Rows.deskAnswersRow.laid ((rz os).forCall (fun _ _=>0) ⟨#[],args,[]⟩).memory:=laidMetH_of_parts (laidMet_of_run' 8 ai ai) ai
theorem rZ(os:Os)(args:Array Value):((rz os).forCall (fun _ _=>0) ⟨#[],args,[]⟩).Shaped prog:=World.shaped_of_ZipB ai ai
end
end Go.Proofs.YtideefjnlakciaaGreatDoor
