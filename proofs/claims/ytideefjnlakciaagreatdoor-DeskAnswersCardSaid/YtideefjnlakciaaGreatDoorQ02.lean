/- What is wrong first with a plan: plain facts, no program in sight. -/
import Derived.Test.YtideefjnlakciaaGreatDoorQ00
import Derived.Test.YtideefjnlakciaaGreatDoorQ01
import Derived.ProofKit
import Derived.OpenShut
import Derived.Carry
import Derived.Lib.SmallJoins
import Derived.Deep.RegionHeld3
import Derived.Deep.Slices
set_option maxRecDepth 1000000
set_option maxHeartbeats 20000000
set_option linter.unusedVariables false
set_option linter.unusedSimpArgs false
namespace Go.Proofs.YtideefjnlakciaaGreatDoor
open Go.RowKit Go.Proofs.Tryz
def fS:List Int->Nat->Int×Nat|[],_=>(0,0)|e::l,i=>if e=0 then fS l (i+1) else(e,i)
theorem CL(l:List Int)(i k:Nat)(e:Int)(h: ∀j,j<k->l[j]? =some 0)(hk:l[k]? =some e)(he:e≠0):fS l i=(e,i+k):=by
 induction l generalizing i k with
  |nil=>simp at hk
  |cons x l u=>
   unfold fS;cases k with
    |zero=>simp at hk;subst hk;rw[aI he];rfl
    |succ k=>
     have s:x=0:=by simpa using h 0 ah
     rw[aM s,u (i+1) k (fun j z=>by simpa using h (j+1) ah) (by simpa using hk)];congr 1;omega
theorem qA(l:List Int)(k:Nat)(e:Int)(h: ∀j,j<k->l[j]? =some 0)(hk:l[k]? =some e)(he:e≠0):fS l 0=(e,k):=by rw[CL l 0 k e h hk he];congr 1;omega
theorem nG(l:List Int)(i:Nat)(h: ∀j,j<l.length->l[j]? =some 0):fS l i=(0,0):=by
 induction l generalizing i with
  |nil=>rfl
  |cons x l s=>
   have e:x=0:=by simpa using h 0 ak
   unfold fS;rw[aM e];exact s (i+1) (fun j u=>by simpa using h (j+1) ag)
theorem mw(l:List Int)(i:Nat)(h:(fS l i).1=0): ∀j,j<l.length->l[j]? =some 0:=by
 induction l generalizing i with
  |nil=>intro j s;simp at s
  |cons x l u=>
   unfold fS at h;by_cases e:x=0
   ·rw[aM e] at h;intro j s;cases j with|zero=>simp[e]|succ j=>simpa using u (i+1) h j (by simp at s;omega)
   ·rw[aI e] at h;exact absurd h e
structure Sl where
 n:Int
 f:Int
 t:Int
structure Lk where
 f:Int
 t:Int
 b:Int
 q:Int
def pc(f t lo hi:Int):Int:=if t<=f then 1 else if f<lo then 10 else if hi<t then 2 else 0
def AD(sk rd nd lo:Int)(s:Sl):Int:=if pc s.f s.t lo (rd-sk-1)≠0 then pc s.f s.t lo (rd-sk-1) else if s.n<0\/nd-1<s.n then 7 else 0
def ki(nd:Int)(l:Lk):Bool:=decide (l.t<=0)||decide (2^nd.toNat<=l.t)||l.t.toNat.testBit l.f.toNat
def sH(nd:Int)(l:Lk):Int:=if l.f<0\/nd-1<l.f then 7 else if ki nd l=true then 1 else if l.b<1\/137438953472<l.b\/l.q<1\/16<l.q then 2 else 0
def ui(fr lo:Int)(w:Wn):Int:=if pc w.f w.t lo fr≠0 then pc w.f w.t lo fr else if w.p<0\/5<w.p then 7 else 0
def oM(sk rd nd:Int):Int->List Sl->List Int|_,[]=>[]|lo,s::l=>AD sk rd nd lo s::oM sk rd nd (s.t+sk+1) l
def kX(fr:Int):Int->List Wn->List Int|_,[]=>[]|lo,w::l=>ui fr lo w::kX fr w.t l
theorem uQ(sk rd nd lo:Int)(l:List Sl):(oM sk rd nd lo l).length=l.length:=by induction l generalizing lo with|nil=>rfl|cons s l e=>simp[oM,e]
theorem sr(fr lo:Int)(l:List Wn):(kX fr lo l).length=l.length:=by induction l generalizing lo with|nil=>rfl|cons s l e=>simp[kX,e]
def qX(sk:Int)(lo:Int)(l:List Sl)(k:Nat):Int:=if k=0 then lo else match l[k-1]? with|some s=>s.t+sk+1|none=>lo
def sj(lo:Int)(l:List Wn)(k:Nat):Int:=if k=0 then lo else match l[k-1]? with|some s=>s.t|none=>lo
theorem og(sk lo:Int)(l:List Sl):qX sk lo l 0=lo:=rfl
theorem lG(sk lo:Int)(l:List Sl)(k:Nat)(s:Sl)(h:l[k]? =some s):qX sk lo l (k+1)=s.t+sk+1:=by unfold qX;rw[aI ah,dD,h]
theorem td(lo:Int)(l:List Wn):sj lo l 0=lo:=rfl
theorem th(lo:Int)(l:List Wn)(k:Nat)(s:Wn)(h:l[k]? =some s):sj lo l (k+1)=s.t:=by unfold sj;rw[aI ah,dD,h]
theorem yo(sk rd nd lo:Int)(l:List Sl)(k:Nat)(s:Sl)(h:l[k]? =some s):(oM sk rd nd lo l)[k]? =some (AD sk rd nd (qX sk lo l k) s):=by
 induction l generalizing lo k with
  |nil=>simp at h
  |cons x l u=>
   cases k with
    |zero=>simp at h;subst h;simp[oM,qX]
    |succ k=>
     have j:l[k]? =some s:=by simpa using h
     rw[oM,cf,u _ k j];congr 2;cases k with|zero=>simp[qX]|succ k=>simp[qX];cases e:l[k]? with|none=>have:=dq.1 e;have:=(aQ.1 j).1;omega|some _=>rfl
theorem rX(fr lo:Int)(l:List Wn)(k:Nat)(s:Wn)(h:l[k]? =some s):(kX fr lo l)[k]? =some (ui fr (sj lo l k) s):=by
 induction l generalizing lo k with
  |nil=>simp at h
  |cons x l u=>
   cases k with
    |zero=>simp at h;subst h;simp[kX,sj]
    |succ k=>
     have j:l[k]? =some s:=by simpa using h
     rw[kX,cf,u _ k j];congr 2;cases k with|zero=>simp[sj]|succ k=>simp[sj];cases e:l[k]? with|none=>have:=dq.1 e;have:=(aQ.1 j).1;omega|some _=>rfl
structure Pl where
 nd:Int
 fa:Int
 sk:Int
 ji:Int
 dr:Int
 rd:Int
 sl:List Sl
 lk:List Lk
 fr:Int
 wn:List Wn
def iK(p:Pl):Int:=if p.nd<1\/16<p.nd\/p.fa<0\/16<p.fa\/p.nd<3*p.fa+1 then 1 else if p.sk<0\/137438953472<p.sk\/p.ji<0\/137438953472<p.ji\/p.dr<0\/137438953472<p.dr\/p.rd<1\/137438953472<p.rd\/p.fr<1\/137438953472<p.fr then 2 else if 32<p.sl.length\/8<p.lk.length\/32<p.wn.length then 4 else if p.sk<p.sk/2+2*p.ji+1+2*p.dr then 13 else 0
def iO(p:Pl):Int×Int:=if iK p≠0 then(iK p,-1) else if(fS (oM p.sk p.rd p.nd 0 p.sl) 0).1≠0 then((fS (oM p.sk p.rd p.nd 0 p.sl) 0).1,((fS (oM p.sk p.rd p.nd 0 p.sl) 0).2:Int)) else if(fS (p.lk.map (sH p.nd)) 0).1≠0 then((fS (p.lk.map (sH p.nd)) 0).1,1000+((fS (p.lk.map (sH p.nd)) 0).2:Int)) else if(fS (kX p.fr 0 p.wn) 0).1≠0 then((fS (kX p.fr 0 p.wn) 0).1,2000+((fS (kX p.fr 0 p.wn) 0).2:Int)) else(0,-1)
section
open Go.ChangeShapes Go.WideShapes Go.ChangeAt
theorem own:ownKnob prog.godebug=none:=ai
theorem laidOut:laidOutB prog=true:=ai
section
variable {H:Type}{enc:TypeId×Value->H}
theorem qP{W C:World}{E:Nat->Bool}(z:Below W.heap.size W C): ∀{s:List TypeId}{vs:List Value}{u:List (DataW H)}{j:List MemPlace},(∀t∈s,prog.readableRec t=true/\t<prog.types.size)->DataW.TrodAll enc prog W 0 (fun _=>true) true s vs u j->(∀x∈j,x.block<W.heap.size)->(∀x∈j,E x.block=true)->DataW.TrodAll enc prog C 0 E true s vs u j|[],_,_,_,_,h,_,_=>by obtain⟨rfl,rfl,rfl⟩:=trodAll_nil h;exact rfl|t::s,_,_,_,hr,h,hlt,hs=>by obtain⟨v,O,d,K,a,b,rfl,rfl,rfl,h1,h2⟩:=trodAll_cons h;refine⟨a,b,WideElems.Trod_stays laidOut (hr t ak).1 (hr t ak).2 h1 (fun x e=>z.same (hlt x (by simp[e]))) (fun x e=>hs x (by simp[e])), ?_,rfl⟩;exact qP z (fun I J=>hr I (by simp[J])) h2 (fun x e=>hlt x (by simp[e])) (fun x e=>hs x (by simp[e]))
theorem tx{W:World}{b:Nat}{sp:Nat->Bool}{hd:Bool}: ∀{e:List TypeId}{vs:List Value}{j:List (DataW H)}{s:List MemPlace},DataW.TrodAll enc prog W b sp hd e vs j s->j.length=e.length|[],_,_,_,h=>by obtain⟨rfl,rfl,rfl⟩:=trodAll_nil h;rfl|t::e,_,_,_,h=>by obtain⟨v,z,d,u,a,b,rfl,rfl,rfl,h1,h2⟩:=trodAll_cons h;simp[tx h2]
theorem IL{f:Func}{s:ChangeSpec}{W j:World}{args:Array Value}{e gs:List (DataW H)}{before:List MemPlace}(C:s.vars=[])(aa: ∀e:List (DataW H),e.length=f.params.size->s.fn H e={results:=[.lit (.bool true)],args:=e})(U: ∀t∈f.params.toList,prog.readableRec t=true/\t<prog.types.size)(Y:f.resultTypes= #[4])(z:DataW.Whole enc prog f.params.toList s.vars false W args.toList e gs before)(O:Below W.heap.size W j):s.post enc prog f false true false false W args (.bool true) j:=by
 have K: ∀p∈before,p.block<W.heap.size:=fun p hp=>z.lt p hp;have hold: ∀p∈before,(fun b=>decide (b<W.heap.size)) p.block=true:=fun p hp=>by simpa using K p hp
 have T:=z;obtain⟨p,q,I,E,J,ac,hn⟩:=z;rw[C] at E;obtain⟨rfl,rfl⟩:=trodVars_none E;simp only[dK] at J;subst J;have hlen:=tx I;have u:=aa e (by simpa using hlen);have X:=fun (sp:Nat->Bool) (hs: ∀x∈before,sp x.block=true)=>qP (enc:=enc) O U I K hs;have Z: ∀(b:Nat)(sp:Nat->Bool)(hd:Bool),DataW.TrodAll enc prog j b sp hd f.resultTypes.toList ((Value.bool true).resultList f.resultTypes.size) (s.fn H (e++[])).results []:=by intro b sp hd;rw[dK,u,Y];exact trodAll_cons_mk (shut_bool underlying4 _) trodAll_mk0
 refine⟨e,[],before,[],before,[],by simpa using T,Z _ _ _, ?_, ?_, ?_,fun h=>by cases h⟩
 ·rw[dK,u];exact X _ hold
 ·rw[C,dK,u];rfl
 ·exact World.keptBut_mono (fun p hp=>⟨hp,Or.inr (Or.inl hp)⟩) (O.frame (· ∈before))
end
end
section
open Go.ChangeShapes Go.WideShapes Go.ChangeAt Go.Joins
variable {H:Type}{enc:TypeId×Value->H}
def rq(W:World)(A:Option Addr)(n:Nat)(zs:List Int):Prop:= ∀j,j<n->∃b off,A=some ⟨b,off,none⟩/\W.cell? ⟨b,off+j,none⟩=some (.int .i64 (zs.getD j 0))
end
abbrev Pn(a b:Int):Value:=.agg #[.int .i64 a,.int .i64 b]
def gU(lo hi z:Int):Bool:=decide (z<lo)||decide (hi<z)
theorem zY(g h:Nat)(lo hi z:Int)(b:Bool)(j:Hid (gU lo hi z=b))(w:World)(C:w.cell? ⟨g,0,none⟩=some (.int .i64 lo))(E:w.cell? ⟨h,0,none⟩=some (.int .i64 hi)):Calls prog 197 #[.int .i64 z,.pointer (some ⟨g,0,none⟩),.pointer (some ⟨h,0,none⟩)] w fun e w'=>e=.returned (.bool b)/\Below w.heap.size w w':=by
 by_cases h1:z<lo
 ·have s:decide (z<lo)=true:=aJ h1;have u:Hid (b=true):=eJ (by rw[<-j.out];unfold gU;rw[s];rfl);clear j h1;go_enter func197,ntmps197;go_wp2_with fail;go_ret;exact⟨gB u.out.symm,au⟩
 ·have s:decide (z<lo)=false:=aH h1;have u:Hid (b=decide (hi<z)):=eJ (by rw[<-j.out];unfold gU;rw[s];rfl);clear j h1;go_enter func197,ntmps197;go_wp2_with fail;go_ret;exact⟨gB u.out.symm,au⟩
def rV(lo hi:Int)(zs:List Int):Nat:=match zs with|[]=>0|z::l=>if gU lo hi z=true then 0 else rV lo hi l+1
theorem FL(lo hi:Int)(zs:List Int)(k:Nat)(hk:k<zs.length)(h:k<=rV lo hi zs):if gU lo hi (zs.getD k 0)=true then rV lo hi zs=k else k+1<=rV lo hi zs:=by
 induction zs generalizing k with
  |nil=>simp at hk
  |cons z l j=>
   unfold rV at h⊢;cases k with
    |zero=>
     simp only[dR];by_cases e:gU lo hi z=true
     ·rw[aM e,aM e]
     ·rw[aI e,aI e];omega
    |succ k=>
     by_cases e:gU lo hi z=true
     ·rw[aM e] at h;omega
     ·rw[aI e] at h⊢;have:=j k (by simpa using hk) ah;simp only[dS];split
      ·rename_i h2;rw[aM h2] at this;omega
      ·rename_i h2;rw[aI h2] at this;omega
theorem IT(lo hi:Int)(zs:List Int):decide (rV lo hi zs<zs.length)=zs.any (gU lo hi):=by
 induction zs with
  |nil=>rfl
  |cons z l h=>
   unfold rV;cases e:gU lo hi z
   ·simp only[e,List.any_cons,Bool.false_or,<-h,aP];apply cG.2;simp
   ·simp[e]
theorem BZ(g h:Nat)(lo hi:Int)(A:Option Addr)(n c:Nat)(zs:List Int)(w:World)(hn:n<=100)(ap:zs.length=n)(U:w.cell? ⟨g,0,none⟩=some (.int .i64 lo))(X:w.cell? ⟨h,0,none⟩=some (.int .i64 hi))(O:rq w A n zs)(r:Int)(T:Hid ((if rV lo hi zs<n then(rV lo hi zs:Int) else-1)=r)):Calls prog 170 #[.slice A n c,.func (.func 197) #[] #[.pointer (some ⟨g,0,none⟩),.pointer (some ⟨h,0,none⟩)]] w fun e w'=>e=.returned (.int .i64 r)/\Below w.heap.size w w':=by
 have ad:=eJ O;clear O;have aa:=aG _ _ U;have al:=aG _ _ X;go_enter func170,ntmps170;go_wp2_with fail;go_loopw [8] (fun i wr=> ∃k:Nat,k<=n/\i=.int .i64 k/\k<=rV lo hi zs/\Below w.heap.size w wr) (fun i _=>n-(intOf i).toNat);case atStart=>exact⟨0,ah,rfl,ah,au⟩
 case round=>
  obtain⟨k,hk,rfl,am,hB⟩:=hrel;by_cases J:k<n
  ·obtain⟨b,off,rfl,c0⟩:=ad.out k J;have ac:=aG _ _ c0;have ao:=(hB.cell (p:=⟨b,off+k,none⟩) ac).trans c0;have j:=FL lo hi zs k ah am;have K:=eJ ((hB.cell (p:=⟨g,0,none⟩) aa).trans U);have Z:=eJ ((hB.cell (p:=⟨h,0,none⟩) al).trans X);have z:=eJ hB;have Y:=hB.size;clear hB c0;generalize zs.getD k 0=y at j ao;cases s:gU lo hi y
   ·have E:=eJ s;have hid:k+1<=rV lo hi zs:=by rw[aI (by rw[s];decide)] at j;exact j
    have I:=eJ hid;clear hid j s;go_wp2_with (go_at_call 197;refine(zY g h lo hi y false E _ (by exact K.out) (by exact Z.out)).mono ?_;rintro e w3 ⟨rfl,u⟩;have C:=eJ u;clear u);exact⟨⟨k+1,ah,aq,I.out,z.out.trans (C.out.mono Y)⟩,by simp[intOf];omega⟩
   ·have E:=eJ s;have hid:rV lo hi zs=k:=by rw[aM s] at j;exact j
    have I:=eJ hid;clear hid j s;go_wp2_with (go_at_call 197;refine(zY g h lo hi y true E _ (by exact K.out) (by exact Z.out)).mono ?_;rintro e w3 ⟨rfl,u⟩;have C:=eJ u;clear u);go_ret;exact⟨lh (by rw[<-T.out,I.out,aM J]),z.out.trans (C.out.mono Y)⟩
  ·obtain rfl:k=n:=ah;have z:=eJ hB;clear hB;go_wp2_with fail;go_ret;exact⟨lh (by rw[<-T.out,aI ah]),z.out⟩
theorem xa(g h:Nat)(lo hi:Int)(A:Option Addr)(n c:Nat)(zs:List Int)(w:World)(hn:n<=100)(C:zs.length=n)(u:w.cell? ⟨g,0,none⟩=some (.int .i64 lo))(z:w.cell? ⟨h,0,none⟩=some (.int .i64 hi))(s:rq w A n zs)(b:Bool)(O:Hid (zs.any (gU lo hi)=b)):Calls prog 134 #[.slice A n c,.func (.func 197) #[] #[.pointer (some ⟨g,0,none⟩),.pointer (some ⟨h,0,none⟩)]] w fun e w'=>e=.returned (.bool b)/\Below w.heap.size w w':=by
 obtain⟨r,j⟩: ∃r:Int,(if rV lo hi zs<n then(rV lo hi zs:Int) else-1)=r:=⟨_,rfl⟩;have q:decide (0<=r)=b:=by rw[<-O.out,<-IT,C,<-j];apply cG.2;split<;>omega
 have E:=eJ s;have J:=eJ j;have I:=eJ u;have K:=eJ z;clear s j u z;go_enter func134,ntmps134;go_wp2_with fail;refine(BZ g h lo hi A n c zs _ hn C I.out K.out E.out r J).mono ?_;rintro e w2 ⟨rfl,hB⟩;have T:=eJ hB;clear hB;go_wp2_with fail;go_ret;exact⟨rfl,T.out⟩
theorem pP(lo hi:Int)(A:Option Addr)(n c:Nat)(zs:List Int)(w:World)(hn:n<=100)(Z:zs.length=n)(z:rq w A n zs)(b:Bool)(C:Hid ((!zs.any (gU lo hi))=b)):Calls prog 168 #[.int .i64 lo,.int .i64 hi,.slice A n c] w fun e w'=>e=.returned (.bool b)/\Below w.heap.size w w':=by
 have hB:Below w.heap.size w ((w.alloc (.cells #[.int .i64 lo] 3)).alloc (.cells #[.int .i64 hi] 3)):=((au).alloc (ar) _).alloc ak _;have u:=(eN.new w 3 #[.int .i64 lo]).alloc (.cells #[.int .i64 hi] 3);have h:=eN.new (w.alloc (.cells #[.int .i64 lo] 3)) 3 #[.int .i64 hi];simp only[bX] at h;have I:rq ((w.alloc (.cells #[.int .i64 lo] 3)).alloc (.cells #[.int .i64 hi] 3)) A n zs:=by intro j J;obtain⟨b,off,T,c0⟩:=z j J;exact⟨b,off,T,(hB.cell (p:=⟨b,off+j,none⟩) (aG _ _ c0)).trans c0⟩
 have K:=eJ I;have E:=eJ hB;have U:=eJ u.cells1.1;have Y:=eJ h.cells1.1;clear z I hB u h;have q:(!zs.any (gU lo hi))=b:=C.out;obtain⟨x,s⟩:=ab (zs.any (gU lo hi));rw[s] at q;have X:=eJ s;clear s C;go_enter func168,ntmps168;go_wp2_with fail;refine(xa w.heap.size (w.heap.size+1) lo hi A n c zs _ hn Z U.out Y.out K.out x X).mono ?_;rintro e w2 ⟨rfl,hB⟩;have O:=eJ (E.out.trans (hB.mono E.out.size));clear hB;go_wp2_with fail;go_ret;exact⟨rfl,O.out⟩
theorem Ay(f t lo hi:Int)(w:World)(e:Int)(he:Hid (pc f t lo hi=e)):Calls prog 169 #[Pn f t,.int .i64 lo,.int .i64 hi] w fun r w'=>r=.returned (.int .i64 e)/\Below w.heap.size w w':=by
 have hB:=eJ ((Below.refl w.heap.size w).alloc (ar) (.cells #[.int .i64 f,.int .i64 t] 84));have q:=he.out;unfold pc at q;by_cases h1:t<=f
 ·have d1:decide (t<=f)=true:=aJ h1;rw[aM h1] at q;have Q:=eJ q;clear q he h1;go_enter func169,ntmps169;go_wp2_with fail;go_ret;exact⟨lh Q.out,hB.out⟩
 ·have d1:decide (t<=f)=false:=aH h1;rw[aI h1] at q;by_cases h2:f<lo
  ·have d2:decide (f<lo)=true:=aJ h2;rw[aM h2] at q;have Q:=eJ q;clear q he h1 h2;go_enter func169,ntmps169;go_wp2_with fail;go_ret;exact⟨lh Q.out,hB.out⟩
  ·have d2:decide (f<lo)=false:=aH h2;rw[aI h2] at q;by_cases h3:hi<t
   ·have d3:decide (hi<t)=true:=aJ h3;rw[aM h3] at q;have Q:=eJ q;clear q he h1 h2 h3;go_enter func169,ntmps169;go_wp2_with fail;go_ret;exact⟨lh Q.out,hB.out⟩
   ·have d3:decide (hi<t)=false:=aH h3;rw[aI h3] at q;have Q:=eJ q;clear q he h1 h2 h3;go_enter func169,ntmps169;go_wp2_with fail;go_ret;exact⟨lh Q.out,hB.out⟩
def Cr(w:World)(v:Value)(e pl:Int):Prop:=(pl=-1/\v=.iface 61 (.int .i64 e))\/∃g,v=.iface 258 (.pointer (some ⟨g,0,none⟩))/\eN w g 259 #[.int .i64 e,.int .i64 pl]
theorem Cr.bare(w:World)(e:Int):Cr w (.iface 61 (.int .i64 e)) e (-1):=.inl ⟨rfl,rfl⟩
theorem Cr.at_{w:World}{g:Nat}{e pl:Int}(h:eN w g 259 #[.int .i64 e,.int .i64 pl]):Cr w (.iface 258 (.pointer (some ⟨g,0,none⟩))) e pl:=.inr ⟨g,rfl,h⟩
theorem Cr.iface{w:World}{v:Value}{e pl:Int}(h:Cr w v e pl): ∃t u,v=.iface t u:=by
 rcases h with ⟨_,rfl⟩|⟨g,rfl,_⟩
 ·exact⟨_,_,rfl⟩
 ·exact⟨_,_,rfl⟩
theorem eN.eT{w:World}{g:Nat}{t:TypeId}{a0 a1 a2 a3 a4 a5 e j s a9:Value}(h:eN w g t #[a0,a1,a2,a3,a4,a5,e,j,s,a9]):w.cell? ⟨g,0,none⟩=some a0/\w.cell? ⟨g,1,none⟩=some a1/\w.cell? ⟨g,2,none⟩=some a2/\w.cell? ⟨g,3,none⟩=some a3/\w.cell? ⟨g,4,none⟩=some a4/\w.cell? ⟨g,5,none⟩=some a5/\w.cell? ⟨g,6,none⟩=some e/\w.cell? ⟨g,7,none⟩=some j/\w.cell? ⟨g,8,none⟩=some s/\w.cell? ⟨g,9,none⟩=some a9:=⟨by simpa using h.cell 0,by simpa using h.cell 1,by simpa using h.cell 2,by simpa using h.cell 3,by simpa using h.cell 4,by simpa using h.cell 5,by simpa using h.cell 6,by simpa using h.cell 7,by simpa using h.cell 8,by simpa using h.cell 9⟩
def iV(W:World)(A:Option Addr)(n:Nat)(ws:List Wn):Prop:= ∀j,j<n->∃b off,A=some ⟨b,off,none⟩/\∃w,ws[j]? =some w/\W.cell? ⟨b,off+j*3,none⟩=some (.int .i64 w.p)/\W.cell? ⟨b,off+j*3+1,none⟩=some (.int .i64 w.f)/\W.cell? ⟨b,off+j*3+2,none⟩=some (.int .i64 w.t)
theorem iV.below{w W:World}{A:Option Addr}{n:Nat}{ws:List Wn}(h:iV w A n ws)(hB:Below w.heap.size w W):iV W A n ws:=by intro j s;obtain⟨b,off,z,y,u,c0,c1,c2⟩:=h j s;have e:=aG _ _ c0;exact⟨b,off,z,y,u,(hB.cell (p:=⟨b,off+j*3,none⟩) e).trans c0,(hB.cell (p:=⟨b,off+j*3+1,none⟩) e).trans c1,(hB.cell (p:=⟨b,off+j*3+2,none⟩) e).trans c2⟩
section
open Go.ChangeShapes Go.WideShapes Go.ChangeAt Go.Deep
def fN(W:World)(A:Option Addr)(n:Nat)(ws:List Sl):Prop:= ∀j,j<n->∃b off,A=some ⟨b,off,none⟩/\∃w,ws[j]? =some w/\W.cell? ⟨b,off+j*3,none⟩=some (.int .i64 w.n)/\W.cell? ⟨b,off+j*3+1,none⟩=some (.int .i64 w.f)/\W.cell? ⟨b,off+j*3+2,none⟩=some (.int .i64 w.t)
def fA(W:World)(A:Option Addr)(n:Nat)(ws:List Lk):Prop:= ∀j,j<n->∃b off,A=some ⟨b,off,none⟩/\∃w,ws[j]? =some w/\W.cell? ⟨b,off+j*4,none⟩=some (.int .i64 w.f)/\W.cell? ⟨b,off+j*4+1,none⟩=some (.int .i64 w.t)/\W.cell? ⟨b,off+j*4+2,none⟩=some (.int .i64 w.b)/\W.cell? ⟨b,off+j*4+3,none⟩=some (.int .i64 w.q)
theorem fN.below{w W:World}{A:Option Addr}{n:Nat}{ws:List Sl}(h:fN w A n ws)(hB:Below w.heap.size w W):fN W A n ws:=by intro j s;obtain⟨b,off,z,y,u,c0,c1,c2⟩:=h j s;have e:=aG _ _ c0;exact⟨b,off,z,y,u,(hB.cell (p:=⟨b,off+j*3,none⟩) e).trans c0,(hB.cell (p:=⟨b,off+j*3+1,none⟩) e).trans c1,(hB.cell (p:=⟨b,off+j*3+2,none⟩) e).trans c2⟩
theorem fA.below{w W:World}{A:Option Addr}{n:Nat}{ws:List Lk}(h:fA w A n ws)(hB:Below w.heap.size w W):fA W A n ws:=by intro j s;obtain⟨b,off,z,y,u,c0,c1,c2,c3⟩:=h j s;have e:=aG _ _ c0;exact⟨b,off,z,y,u,(hB.cell (p:=⟨b,off+j*4,none⟩) e).trans c0,(hB.cell (p:=⟨b,off+j*4+1,none⟩) e).trans c1,(hB.cell (p:=⟨b,off+j*4+2,none⟩) e).trans c2,(hB.cell (p:=⟨b,off+j*4+3,none⟩) e).trans c3⟩
theorem PZ{α:Type}{l:List α}(h:l.length=2): ∃a b,l=[a,b]:=by match l,h with|[a,b],_=>exact⟨a,b,rfl⟩
section
variable {H:Type}{enc:TypeId×Value->H}{W:World}{b0:Nat}{sp:Nat->Bool}{hd:Bool}
end
end
abbrev fb(nd fa sk ji dr R:Int)(S L:Value)(fr:Int)(Q:Value):Array Value:= #[.int .i64 nd,.int .i64 fa,.int .i64 sk,.int .i64 ji,.int .i64 dr,.int .i64 R,S,L,.int .i64 fr,Q]
end Go.Proofs.YtideefjnlakciaaGreatDoor
