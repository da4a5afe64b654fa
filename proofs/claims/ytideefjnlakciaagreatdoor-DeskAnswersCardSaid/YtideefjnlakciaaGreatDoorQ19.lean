/- The document's cluster at one time: calls on its senders, receivers and ports; conditions: none. -/
import Derived.Test.YtideefjnlakciaaGreatDoorQ00
import Derived.Test.YtideefjnlakciaaGreatDoorQ18
import Derived.Test.YtideefjnlakciaaGreatDoorQ10
import Derived.Test.YtideefjnlakciaaGreatDoorQ01
import Derived.Test.YtideefjnlakciaaGreatDoorQ02
import Derived.Test.YtideefjnlakciaaGreatDoorQ15
import Derived.Test.YtideefjnlakciaaGreatDoorQ17
import Derived.Test.YtideefjnlakciaaGreatDoorQ13
import Derived.Test.YtideefjnlakciaaGreatDoorQ04
import Derived.Laws.MakeOwn
import Derived.Deep.Cut
import Derived.Deep.CutRange
import Derived.Deep.CutBlock
import Derived.Lib.SplitLaws
import Derived.Lib.DecodeN
import Derived.Lib.FieldsP
import Derived.Shelf.Strings.OnBuilder
import Derived.Shelf.Strings.BuilderK
import Derived.Shelf.LaysM
import Derived.Shelf.Strconv.Itoa4
import Derived.Shelf.LaysC
import Derived.Shelf.Strconv.AtoiAll
import Derived.Shelf.Strings.Search1
import Derived.Shelf.Strings.Search2
import Derived.Shelf.Strings.Search3
import Derived.Shelf.Strings.Prefix
import Derived.Shelf.Strings.FieldsFuncAny
import Derived.Shelf.Strings.BuilderCap
import Derived.Test.YtideefjnlakciaaGreatDoorProg
import Derived.Shelf.Strconv.ParseIntPublic10
import Derived.Shelf.Strings.Count
import Derived.Shelf.Strings.SplitCore
import Derived.Lib.SmallJoins
import Derived.Lib.AtoiErrMem
import Derived.Lib.AppendIntMem
import Derived.WalkSmall
import Derived.Lib.ItoaLen
set_option maxRecDepth 1000000
set_option maxHeartbeats 20000000
set_option linter.unusedVariables false
set_option linter.unusedSimpArgs false
namespace Go.Proofs.YtideefjnlakciaaGreatDoor
open Go.RowKit Go.Proofs.Tryz
section
attribute [local irreducible] fu
section
variable {w0 w w' w1:World}{base g:Nat}{p:Pl}{P:lz}{fy M M':Nat}{c c':Cl}{bs:List Nat}
end
end
structure kl (w7 wr:World) (n m:Nat) (vt:Value) (G cp:Nat→Nat) (R:Nat→List Int):Prop where
 top:wr.ownsRow w7.heap.size 33 1 vt m ((List.range m).map fun i=>Value.slice (some ⟨G i,0,none⟩) n (cp i))
 row: ∀i,i<m→wr.ownsRow w7.heap.size 3 1 (.slice (some ⟨G i,0,none⟩) n (cp i)) n ((R i).map (Value.int .i64))
 ne: ∀i j,i<m→j<m→i≠j→G i≠G j
 tn: ∀i,i<m→vt.ownBlock≠some (G i)
 old:Below w7.heap.size w7 wr
section
variable {w7 wr wr2:World}{n m:Nat}{vt:Value}{G cp:Nat->Nat}{R:Nat->List Int}
theorem kl.start(w7:World)(n:Nat)(R:Nat->List Int):kl w7 w7 n 0 (.slice none 0 0) (fun _=>0) (fun _=>0) R:=⟨bT _ _ _ _,fun i h=>ah,fun i j h=>ah,fun i h=>ah,au⟩
theorem kl.congr{e:Nat->List Int}(h:kl w7 wr n m vt G cp R)(he: ∀i,i<m->R i=e i):kl w7 wr n m vt G cp e:=⟨h.top,fun i hi=>by rw[<-he i hi];exact h.row i hi,h.ne,h.tn,h.old⟩
theorem kl.gb(h:kl w7 wr n m vt G cp R){i:Nat}(hi:i<m):w7.heap.size<=G i/\G i<wr.heap.size:=(h.row i hi).lt (G i) rfl
theorem kl.below(h:kl w7 wr n m vt G cp R)(hB:Below wr.heap.size wr wr2):kl w7 wr2 n m vt G cp R:=⟨jr h.top hB,fun i hi=>jr (h.row i hi) hB,h.ne,h.tn,h.old.trans (hB.mono h.old.size)⟩
theorem kl.grown{vb:Option Nat}(h:kl w7 wr n m vt G cp R)(s:wr.grownBy wr2 vb)(h1: ∀g,vb=some g->w7.heap.size<=g/\vt.ownBlock≠some g/\∀i,i<m->G i≠g):kl w7 wr2 n m vt G cp R:=⟨fv h.top (fun g e=>s.block g (h.top.lt g e).2 (fun j=>(h1 g j.symm).2.1 e)),fun i hi=>fv (h.row i hi) (fun g e=>s.block g ((h.row i hi).lt g e).2 (fun j=>(h1 g j.symm).2.2 i hi (by simpa[Value.ownBlock] using e))),h.ne,h.tn,h.old.grown s h.old.size (fun g e=>(h1 g e).1)⟩
theorem kl.push{s ci:Nat}{xs:List Int}{C:Value}(h:kl w7 wr n m vt G cp R)(J:wr.ownsRow w7.heap.size 3 1 (.slice (some ⟨s,0,none⟩) n ci) n (xs.map (Value.int .i64)))(h1:vt.ownBlock≠some s)(h2: ∀i,i<m->G i≠s)(T:wr2.ownsRow w7.heap.size 33 1 C (m+1) (((List.range m).map fun i=>Value.slice (some ⟨G i,0,none⟩) n (cp i))++[.slice (some ⟨s,0,none⟩) n ci]))(E:wr.grownBy wr2 vt.ownBlock)(hw:C.ownBlock=vt.ownBlock\/∀k,C.ownBlock=some k->wr.heap.size<=k):kl w7 wr2 n (m+1) C (eV G m s) (eV cp m ci) (eV R m xs):=by
 have O:=(J.lt s rfl).2;refine⟨?_,fun i hi=> ?_,fun i j hi U K=> ?_,fun i hi=> ?_,h.old.grown E h.old.size (fun g e=>(h.top.lt g e).1)⟩
 ·rw[eD,dz];have e:((List.range m).map fun i=>Value.slice (some ⟨eV G m s i,0,none⟩) n (eV cp m ci i))=((List.range m).map fun i=>Value.slice (some ⟨G i,0,none⟩) n (cp i)):=by apply cw;intro i hi;have:=dc.1 hi;rw[gj _ _ ah,gj _ _ ah]
  rw[e];simpa[eV] using T
 ·unfold eV;by_cases e:i=m
  ·simp only[aM e];exact fv J (fun g u=>by cases u;exact E.block _ O (fun z=>h1 z.symm))
  ·simp only[aI e];have I:i<m:=ah;exact fv (h.row i I) (fun g u=>by cases u;exact E.block _ (h.gb I).2 (fun z=>h.tn i I z.symm))
 ·unfold eV;by_cases e:i=m<;>by_cases u:j=m
  ·omega
  ·rw[aM e,aI u];exact(h2 j ah).symm
  ·rw[aI e,aM u];exact h2 i ah
  ·rw[aI e,aI u];exact h.ne i j ah ah K
 ·unfold eV;by_cases e:i=m
  ·rw[aM e];rcases hw with h3|h3
   ·rw[h3];exact h1
   ·intro z;have:=h3 _ z;omega
  ·rw[aI e];rcases hw with h3|h3
   ·rw[h3];exact h.tn i ah
   ·intro z;have:=h3 _ z;have:=(h.gb (i:=i) ah).2;omega
theorem kl.OH(h:kl w7 wr n m vt G cp R){u v:Nat}(hu:u<m)(s:v<n)(y:Int):kl w7 (wr.setCell ⟨G u,v,none⟩ (.int .i64 y)) n m vt G cp (eV R u ((R u).set v y)):=by
 refine⟨fv h.top (fun g e=>aW wr _ _ g (fun j=>h.tn u hu (by rw[e,j]))),fun i hi=> ?_,h.ne,h.tn,h.old.setCell (p:=⟨G u,v,none⟩) (h.gb hu).1 _⟩;unfold eV;by_cases e:i=u
 ·subst e;rw[aM rfl,List.map_set];exact ue (h.row i hi) s
 ·rw[aI e];exact fv (h.row i hi) (fun g j=>by cases j;exact aW wr _ _ _ (h.ne i u hi hu e))
theorem kl.Ni{T e:Nat}(h:kl w7 wr n m (.slice (some ⟨T,0,none⟩) m e) G cp R){i:Nat}(hi:i<m):wr.cell? ⟨T,i,none⟩=some (.slice (some ⟨G i,0,none⟩) n (cp i)):=by rw[(ov h.top hi).1];simp[hi]
theorem kl.Ka{T s:Nat}{rs:List (List Int)}(h:kl w7 wr n m (.slice (some ⟨T,0,none⟩) m s) G cp (fun j=>rs.getD j []))(hl:rs.length=m):qT wr (some ⟨T,0,none⟩) rs:=fun j u=>by
 have e:=h.row j ah;have hlen:(rs.getD j []).length=n:=by have:=e.1;simpa using this
 exact⟨T,0,_,_,rfl,by rw[bB,h.Ni ah,hlen],zJ e hlen⟩
end
theorem iJ.Ro{w0 w w1:World}{base g:Nat}{p:Pl}{P:lz}{fy M:Nat}{c:Cl}{bs:List Nat}(h:iJ w0 w base g p P fy c M w1 bs){n:Nat}(hn:c.ck.length=n)(h0:0<n): ∃b off cp,b<w.heap.size/\∀W,Below w.heap.size w W->W.cell? ⟨g,11,none⟩=some (.slice (some ⟨b,off,none⟩) n cp)/\kY W (some ⟨b,off,none⟩) c.ck:=by
 obtain⟨a,rfl,h2,h3,h4,h5⟩:=h;have hq:fK w base 3 a.ck (c.ck.map (Value.int .i64)):=h2.gJ.at_ .jb;obtain⟨ao,cp,e,-⟩:=hq.shape;rw[aY,hn] at e;rw[e] at hq;obtain⟨b,off,rfl,-,s,z⟩:=hq.block h0;refine⟨b,off,cp,s,fun W hB=>⟨?_,fun j C=>⟨b,off,rfl, ?_⟩⟩⟩
 ·obtain⟨-,-,-,-,-,-,-,-,u,-⟩:=gg (h2.below hB).gA;rw[e] at u;exact u
 ·rw[(hB.cell (p:=⟨b,off+j,none⟩) s),z j ah];simp[C]
def nP(w:World):Prop:=w.cell? ⟨0,0,none⟩=some (.int .i64 0)/\w.cell? ⟨0,1,none⟩=some (.int .i64 (-1))
theorem nP.below{w w':World}(h:nP w)(hB:Below w.heap.size w w'):nP w':=⟨(hB.cell (p:=⟨0,0,none⟩) (aG _ _ h.1)).trans h.1,(hB.cell (p:=⟨0,1,none⟩) (aG _ _ h.2)).trans h.2⟩
theorem KU{fr lo:Int}{x:Wn}(h:x.t<=x.f):ui fr lo x=1:=by unfold ui pc;rw[aM h];rfl
theorem C8{fr lo:Int}{x:Wn}(h: ¬x.t<=x.f)(h1:x.f<lo):ui fr lo x=10:=by unfold ui pc;rw[aI h,aM h1];rfl
theorem Eg{fr lo:Int}{x:Wn}(h: ¬x.t<=x.f)(h1: ¬x.f<lo)(h2:fr<x.t):ui fr lo x=2:=by unfold ui pc;rw[aI h,aI h1,aM h2];rfl
theorem Dl{fr lo:Int}{x:Wn}(h: ¬x.t<=x.f)(h1: ¬x.f<lo)(h2: ¬fr<x.t)(h3:x.p<0\/5<x.p):ui fr lo x=7:=by unfold ui pc;rw[aI h,aI h1,aI h2,aI aj,aM h3]
theorem I5{fr lo:Int}{x:Wn}(h: ¬x.t<=x.f)(h1: ¬x.f<lo)(h2: ¬fr<x.t)(h3: ¬(x.p<0\/5<x.p)):ui fr lo x=0:=by unfold ui pc;rw[aI h,aI h1,aI h2,aI aj,aI h3]
theorem wH{fr:Int}{ws:List Wn}{k:Nat}{x:Wn}(h0: ∀j,j<k->(kX fr 0 ws)[j]? =some 0)(e:ws[k]? =some x)(he:ui fr (sj 0 ws k) x=0): ∀j,j<k+1->(kX fr 0 ws)[j]? =some 0:=by
 intro j s;rcases bW j k with h|h
 ·exact h0 j h
 ·obtain rfl:j=k:=ah;rw[rX fr 0 ws j x e,he]
def jm(w:World)(fr:Int)(ws:List Wn)(r:Ending)(w':World):Prop:=r=.returned (.tuple #[.int .i64 (fS (kX fr 0 ws) 0).1,.int .i64 ((fS (kX fr 0 ws) 0).2:Nat)])/\Below w.heap.size w w'
theorem jm.at_{w w':World}{fr:Int}{ws:List Wn}{k:Nat}{x:Wn}{e:Int}(h0: ∀j,j<k->(kX fr 0 ws)[j]? =some 0)(h:ws[k]? =some x)(he:ui fr (sj 0 ws k) x=e)(h1:e≠0)(hB:Below w.heap.size w w'):jm w fr ws (.returned (.tuple #[.int .i64 e,.int .i64 (k:Nat)])) w':=by have:=qA (kX fr 0 ws) k e h0 (by rw[rX fr 0 ws k x h,he]) h1;unfold jm;rw[this];exact⟨rfl,hB⟩
theorem jm.tQ{w w':World}{fr:Int}{ws:List Wn}(h0: ∀j,j<ws.length->(kX fr 0 ws)[j]? =some 0)(hB:Below w.heap.size w w'):jm w fr ws (.returned (.tuple #[.int .i64 0,.int .i64 0])) w':=by have:=nG (kX fr 0 ws) 0 (by rw[sr];exact h0);unfold jm;rw[this];exact⟨rfl,hB⟩
theorem GV(A:Option Addr)(n c:Nat)(fr:Int)(ws:List Wn)(w:World)(hn:n<=1000)(J:ws.length=n)(T:iV w A n ws):Calls prog 120 #[.slice A n c,.int .i64 fr] w (jm w fr ws):=by
 have O:=eJ T;have aa:=eJ J;clear T J;go_enter func120,ntmps120;go_wp2_with fail;go_loopw [10] (fun i wr=> ∃k:Nat,k<=n/\i=.int .i64 k/\Hid (∀j,j<k->(kX fr 0 ws)[j]? =some 0)/\Hid (Below w.heap.size w wr)) (fun i _=>n-(intOf i).toNat);case atStart=>exact⟨0,ah,rfl,eJ (fun j am=>ah),eJ (au)⟩
 case round=>
  obtain⟨k,hk,rfl,s,E⟩:=hrel;by_cases Y:k<n
  ·have U:=O.out.below E.out;obtain⟨b,off,rfl,x,X,c0,c1,c2⟩:=U k Y;have u:=eJ X;have z:=eJ (E.out.alloc E.out.size (.cells #[.int .i64 x.p,.int .i64 x.f,.int .i64 x.t] 135));clear X U;by_cases h1:x.t<=x.f
   ·have d1:decide (x.t<=x.f)=true:=aJ h1;have h:=eJ (KU (fr:=fr) (lo:=sj 0 ws k) h1);clear h1;go_wp2_with fail;go_ret2;exact jm.at_ s.out u.out h.out aj z.out
   ·have d1:decide (x.t<=x.f)=false:=aH h1;cases k with
     |zero=>
      simp only[Nat.zero_mul,eG] at c0 c1 c2;have C:=eJ (td 0 ws);by_cases h2:x.f<0
      ·have d2:decide (x.f<0)=true:=aJ h2;have h:=eJ (C8 (fr:=fr) (lo:=0) h1 h2);clear h1 h2;go_wp2_with fail;go_ret2;exact jm.at_ s.out u.out (by rw[C.out];exact h.out) aj z.out
      have d2:decide (x.f<0)=false:=aH h2;by_cases h3:fr<x.t
      ·have d3:decide (fr<x.t)=true:=aJ h3;have h:=eJ (Eg (fr:=fr) (lo:=0) h1 h2 h3);clear h1 h2 h3;go_wp2_with fail;go_quiet (fail);go_wp2_with fail;go_ret2;exact jm.at_ s.out u.out (by rw[C.out];exact h.out) aj (below_drewN z.out _)
      ·have d3:decide (fr<x.t)=false:=aH h3;cases h4:ij x.p 0 5;case false=>have h:=eJ (Dl (fr:=fr) (lo:=0) h1 h2 h3 (by unfold ij at h4;simp at h4;omega));clear h1 h2 h3;go_wp2_with fail;go_quiet (fail);go_wp2_with fail;refine(fE x.p 0 5 false h4 _).mono ?_;rintro e w3 ⟨rfl,rfl⟩;go_wp2_with fail;go_ret2;exact jm.at_ s.out u.out (by rw[C.out];exact h.out) aj (below_drewN z.out _)
       case true=>
        have h:=eJ (I5 (fr:=fr) (lo:=0) h1 h2 h3 (by unfold ij at h4;simp at h4;omega));clear h1 h2 h3;go_wp2_with fail;go_quiet (fail);go_wp2_with fail;refine(fE x.p 0 5 true h4 _).mono ?_;rintro e w3 ⟨rfl,rfl⟩;go_wp2_with fail;go_roundw;case rel=>exact⟨0+1,ah,aq,eJ (wH s.out u.out (by rw[C.out];exact h.out)),eJ (below_drewN z.out _)⟩
        case measure=>simp[intOf];omega
     |succ j=>
      obtain⟨ao,ap,Z,y,K,_,_,I⟩:=(O.out.below E.out) j ah;cases Z;have al:=(bF wr (.cells #[.int .i64 x.p,.int .i64 x.f,.int .i64 x.t] 135) ⟨b,off+j*3+2,none⟩ (aG _ _ I)).trans I;have C:=eJ (th 0 ws j y K);have ad:((j:Int)+1==0)=false:=by rw[aV];omega
      have aA:decide ((0:Int)<(j:Int)+1)=true:=aJ ah;have ac:(j:Int)<(n:Int):=ah;clear K;by_cases h2:x.f<y.t
      ·have d2:decide (x.f<y.t)=true:=aJ h2;have h:=eJ (C8 (fr:=fr) (lo:=y.t) h1 h2);clear h1 h2;go_wp2_with fail;go_quiet (fail);go_wp2_with fail;go_ret2;exact jm.at_ s.out u.out (by rw[C.out];exact h.out) aj (below_drewN z.out _)
      have d2:decide (x.f<y.t)=false:=aH h2;by_cases h3:fr<x.t
      ·have d3:decide (fr<x.t)=true:=aJ h3;have h:=eJ (Eg (fr:=fr) (lo:=y.t) h1 h2 h3);clear h1 h2 h3;go_wp2_with fail;go_quiet (fail);go_wp2_with fail;go_ret2;exact jm.at_ s.out u.out (by rw[C.out];exact h.out) aj (below_drewN z.out _)
      ·have d3:decide (fr<x.t)=false:=aH h3;cases h4:ij x.p 0 5;case false=>have h:=eJ (Dl (fr:=fr) (lo:=y.t) h1 h2 h3 (by unfold ij at h4;simp at h4;omega));clear h1 h2 h3;go_wp2_with fail;go_quiet (fail);go_wp2_with fail;refine(fE x.p 0 5 false h4 _).mono ?_;rintro e w3 ⟨rfl,rfl⟩;go_wp2_with fail;go_ret2;exact jm.at_ s.out u.out (by rw[C.out];exact h.out) aj (below_drewN z.out _)
       case true=>
        have h:=eJ (I5 (fr:=fr) (lo:=y.t) h1 h2 h3 (by unfold ij at h4;simp at h4;omega));clear h1 h2 h3;go_wp2_with fail;go_quiet (fail);go_wp2_with fail;refine(fE x.p 0 5 true h4 _).mono ?_;rintro e w3 ⟨rfl,rfl⟩;go_wp2_with fail;go_roundw;case rel=>exact⟨j+1+1,ah,aq,eJ (wH s.out u.out (by rw[C.out];exact h.out)),eJ (below_drewN z.out _)⟩
        case measure=>simp[intOf];omega
  ·obtain rfl:n=k:=ah;go_wp2_with fail;go_ret2;exact jm.tQ (by rw[aa.out];exact s.out) E.out
theorem FM(c:List Int)(j:Nat):np c j 0=[]:=rfl
theorem Jn{w:World}{base:Nat}(c:List Int)(j:Nat):w.ownsRow base 3 1 (.slice none 0 0) 0 ((np c j 0).map (Value.int .i64)):=by rw[FM];exact bT _ _ _ _
def jH(p:Pl)(c:Cl):Prop:= ∀i,(c.mm i).m<2^p.nd.toNat
theorem ET(p:Pl)(zs dr:List Int){k:Nat}(hk:dr.length<=k):mc p zs dr (k+1)=mc p zs dr k:=by
 unfold mc;apply cw;intro i _;by_cases h:i<dr.length
 ·rw[aM ⟨ah,h⟩,aM ⟨ah,h⟩]
 ·rw[aI (fun e=>h e.2),aI (fun e=>h e.2)]
theorem Jq(p:Pl)(zs dr:List Int){k:Nat}(hk:zs.length<=k):mc p zs dr k=lI p zs dr:=by
 unfold mc lI;apply cw;intro i hi;have hi:=dc.1 hi;by_cases h:i<dr.length
 ·rw[aM ⟨ah,h⟩,aM h]
 ·rw[aI (fun e=>h e.2),aI h]
theorem Gt(p:Pl)(zs dr:List Int){k i:Nat}(hi:i<k)(e:i<zs.length):(mc p zs dr k).getD i 0=(lI p zs dr).getD i 0:=by
 rw[mX p zs dr k e,CN zs dr e];by_cases h:i<dr.length
 ·rw[aM ⟨hi,h⟩,aM h]
 ·rw[aI (fun j=>h j.2),aI h]
theorem qF{w w':World}(h:nP w)(hB:Below w.heap.size w w'):nP w':=⟨(hB.cell (p:=⟨0,0,none⟩) (aG _ _ h.1)).trans h.1,(hB.cell (p:=⟨0,1,none⟩) (aG _ _ h.2)).trans h.2⟩
theorem CZ{s:Mm}{n fr:Nat}{e:Int}(h:s.m<2^n)(j:fr<n):(s.mi fr e).m<2^n:=by
 have h1:(2:Nat)^fr<2^n:=Nat.pow_lt_pow_right ah j;unfold Mm.mi;split
 ·exact h
 ·split
  ·exact dM h h1
  ·split<;>exact Iw _ _ _ h
theorem jH.Pp{p:Pl}{c:Cl}(h:jH p c){from_:Nat}(e:from_<p.nd.toNat)(tn slot:Nat)(fr:Option mB)(ls:List Ls):jH p (je p from_ tn slot fr ls c):=by
 intro i;rw[nN];dsimp only;rw[mS];unfold eV;split
 ·exact CZ (h tn) e
 ·exact h i
theorem jH.all{p:Pl}{c:Cl}(h:jH p c){node:Nat}(j:node<p.nd.toNat)(slot:Nat)(fr:Option mB)(ls:List Ls): ∀k,jH p (ff p node slot fr ls c k)
 |0=>by rw[oT];exact h
 |k+1=>by
  by_cases e:k=node
  ·rw[o7 e];exact h.all j slot fr ls k
  ·rw[oN e];exact(h.all j slot fr ls k).Pp j k slot fr ls
theorem pT(now nd:Int): ∀(ls:List Lk)(k:Nat)(c:Cl),(eZ now nd ls k c).1.mm=c.mm
 |[],_,_=>rfl
 |l::ls,k,c=>by
  unfold eZ;split
  ·split
   ·rfl
   ·exact pT now nd ls (k+1) _
  ·exact pT now nd ls (k+1) c
theorem jH.send{p:Pl}{c:Cl}(h:jH p c)(i:Nat):jH p {c with mm:=eV c.mm i (c.mm i).send}:=by
 intro j;dsimp only;unfold eV;split
 ·rw[(vy (c.mm i)).1];exact h i
 ·exact h j
theorem jH.slot{p:Pl}{c:Cl}(hp:gl p)(h:jH p c)(fy:Nat)(r:Rn)(i:Nat):jH p (jh p fy r i c):=by
 cases hs:p.sl[i]? with
  |none=>unfold jh;rw[hs];exact h
  |some s=>
   have e:=hp.slot i s hs;have hn:s.n.toNat<p.nd.toNat:=ah;unfold jh;rw[hs];dsimp only;split
   ·refine jH.all ?_ hn _ _ _ _;intro j;rw[pT];exact h.send s.n.toNat j
   ·exact(h.send s.n.toNat).all hn _ _ _ _
theorem jH.IF{p:Pl}{c:Cl}(hp:gl p)(h:jH p c)(fy:Nat)(r:Rn): ∀k,jH p (gZ p fy r c k)|0=>h|k+1=>by show jH p (jh p fy r k (gZ p fy r c k));exact(h.IF hp fy r k).slot hp fy r k
def oQ(p:Pl)(ok:Bool)(now n:Int)(c1 c':Cl)(k:Nat)(lk sq:Int)(d:ByteArray):Prop:=(ok=false/\c'=c1/\lk=-1/\sq=0/\d=⟨#[]⟩)\/(ok=true/\lk=-1/\sq=0/\d=⟨#[]⟩/\eZ now n p.lk 0 c1=eZ now n (p.lk.drop k) k c')\/(ok=true/\0<=lk/\eZ now n p.lk 0 c1=(c',(lk,sq,d)))
section
variable {p:Pl}{ok:Bool}{now n:Int}{c1 c':Cl}{k:Nat}{lk sq:Int}{d:ByteArray}
theorem oQ.start(p:Pl)(ok:Bool)(now n:Int)(c1:Cl):oQ p ok now n c1 c1 0 (-1) 0 ⟨#[]⟩:=by
 cases ok
 ·exact .inl ⟨rfl,rfl,rfl,rfl,rfl⟩
 ·exact .inr (.inl ⟨rfl,rfl,rfl,rfl,rfl⟩)
theorem drop_cons{l:Lk}{ls:List Lk}{k:Nat}(h:ls[k]? =some l):ls.drop k=l::ls.drop (k+1):=by obtain⟨hk,e⟩:=aQ.1 h;rw[<-e];exact cy hk
theorem oQ.skip {l : Lk} (h : oQ p ok now n c1 c' k lk sq d) (hl : p.lk[k]? = some l) (hs : ok = false ∨ 0 ≤ lk ∨ l.f ≠ n) : oQ p ok now n c1 c' (k + 1) lk sq d := by
 rcases h with h | ⟨h1, h2, h3, h4, h5⟩ | h
 ·exact .inl h
 ·have e : l.f ≠ n := by
   rcases hs with h | h | h
   ·rw [h1] at h; cases h
   ·omega
   ·exact h
  refine .inr (.inl ⟨h1, h2, h3, h4, ?_⟩)
  rw [h5, drop_cons hl]
  conv => lhs; unfold eZ
  rw [aI e]
 ·exact .inr (.inr h)
theorem oQ.none_ {l:Lk} (h:oQ p ok now n c1 c' k lk sq d) (hl:p.lk[k]? =some l) (h1:ok=true) (h2:lk<0) (s:l.f=n) (he:px now (c'.sd k).la (c'.sd k).nw l.b (c'.sd k).q.length≠0):oQ p ok now n c1 {c' with sd:=eV c'.sd k {c'.sd k with nw:=DC (px now (c'.sd k).la (c'.sd k).nw l.b (c'.sd k).q.length) now (c'.sd k).nw}} (k+1) lk sq d:=by
 rcases h with h|⟨e,j,h3,h4,h5⟩|h
 ·rw[h1] at h;cases h.1
 ·refine .inr (.inl ⟨e,j,h3,h4, ?_⟩)
  rw[h5,drop_cons hl]
  conv=>lhs;unfold eZ
  rw[aM s,aI he]
 ·omega
theorem oQ.some_ {l:Lk} (h:oQ p ok now n c1 c' k lk sq d) (hl:p.lk[k]? =some l) (h1:ok=true) (h2:lk<0) (j:l.f=n) (he:px now (c'.sd k).la (c'.sd k).nw l.b (c'.sd k).q.length=0):oQ p ok now n c1 {c' with sd:=eV c'.sd k ⟨if(c'.sd k).nx+1=256 then 1 else(c'.sd k).nx+1,now,now,(c'.sd k).q.tail⟩} (k+1) (k:Int) (c'.sd k).nx ((c'.sd k).q.headD ⟨#[]⟩):=by
 rcases h with h|⟨e,s,h3,h4,h5⟩|h
 ·rw[h1] at h;cases h.1
 ·refine .inr (.inr ⟨e,ah, ?_⟩)
  rw[h5,drop_cons hl]
  conv=>lhs;unfold eZ
  rw[aM j,aM he]
 ·omega
end
theorem LO(m a b:Nat)(h:a≠b):(m^^^2^a)^^^2^b=m^^^(2^a|||2^b):=by rw[Nat.xor_assoc];congr 1;apply du;intro i;simp only[Nat.testBit_xor,dU,cg];by_cases e:a=i<;>by_cases j:b=i<;>simp[e,j];omega
theorem DD(m k:Nat)(hm:m<65536)(hk:k<16):bits .xor .i64 (m:Int) (wrap64 (2^k))=((m^^^2^k:Nat):Int):=by have h1:2^k<=2^15:=aX ah ah;rw[iL k ah,tt _ _ ah ah]
theorem sT{w w':World}{A:Option Addr}{ls:List Ls}(h:jD w A ls)(hk: ∀x,A=some x->w'.heap[x.block]? =w.heap[x.block]?):jD w' A ls:=fun j x s=>by obtain⟨b,off,rfl,h1,h2,h3⟩:=h j x s;have e:=hk _ rfl;exact⟨b,off,rfl,(fj e _).trans h1,(fj e _).trans h2,(fj e _).trans h3⟩
theorem Fg{ls:List Ls}{j:Nat}{x:Ls}(e:ls[j]? =some x)(slot ch tn:Nat):jl (ls.take (j+1)) slot ch tn=(jl (ls.take j) slot ch tn||(decide (x.s=slot)&&decide (x.c=ch)&&kZ x.t tn)):=by unfold jl;rw[cE,e,List.any_append];simp
theorem Fu(ls:List Ls)(slot ch tn:Nat):jl (ls.take 0) slot ch tn=false:=rfl
structure Fm where
 F:Nat→Prop
 lo:Nat
 P:World→Prop
 iP: ∀{w w':World},P w→w.heap.size≤w'.heap.size→(∀i,i<w.heap.size→F i→w'.heap[i]? =w.heap[i]?)→P w'
 own: ∀{w:World} {i:Nat},P w→F i→lo≤i∧i<w.heap.size
def Fm.none(n:Nat):Fm:=⟨fun _=>False,n,fun _=>True,fun _ _ _=>trivial,fun _ h=>h.elim⟩
structure AH where
 b:Nat
 a:vK
 M:Nat
def Kd(x:AH)(p:Pl)(v0 v1:Value)(fy:Nat)(c:Cl):Fm:=⟨wM (eM x.b x.a (eO p) p ⟨v0,v1,.slice none 0 0⟩ fy c),x.b,fun w=>fY w x.b x.a (eO p) p ⟨v0,v1,.slice none 0 0⟩ fy c x.M,fun h hs hk=>⟨h.gJ.pV hs hk,h.rel⟩,fun h ⟨y,e⟩=>h.gJ.own y _ e⟩
structure Lh where
 v:Nat→Value
 S:Fm
 cv:Value
def Gy:Nat->TypeId|0=>86|1=>88|2=>106|3=>108|_=>3
abbrev lB(d:Dk)(L:Lh):Array Value:= #[.int .i64 d.p.nd,.int .i64 d.p.fa,.int .i64 d.p.sk,.int .i64 d.p.ji,.int .i64 d.p.dr,.int .i64 d.p.rd,L.v 0,L.v 1,.int .i64 d.p.fr,.slice none 0 0,L.cv,L.v 2,L.v 3,L.v 4,L.v 5]
def mD(g:Nat)(L:Lh)(i:Nat):Prop:=i=g\/(∃j,j<6/\(L.v j).ownBlock=some i)\/L.S.F i
def vo(m:Nat)(d:Dk)(L:Lh):Prop:=match d.c with|none=>L.cv=.pointer none/\∀i,¬L.S.F i|some x=> ∃a:AH,(a.M<=m/\jH d.p x.2/\∀j b,j<2->(L.v j).ownBlock=some b->b<a.b)/\L.cv=fk a.a.g/\L.S=Kd a d.p (L.v 0) (L.v 1) x.1 x.2
structure pA (m:Nat) (w0 w:World) (g:Nat) (d:Dk) (L:Lh):Prop where
 low:Below w0.heap.size w0 w
 gb:w0.heap.size≤g
 eW:eN w g 60 (lB d L)
 own: ∀j,j<6→w.ownsRow w0.heap.size (Gy j) (Af j) (L.v j) (iR d j) (ju d j)
 off: ∀j,j<6→(L.v j).ownBlock≠some g
 sep: ∀i j b,i<6→j<6→(L.v i).ownBlock=some b→(L.v j).ownBlock=some b→i=j
 gJ:w0.heap.size≤L.S.lo∧L.S.lo≤w.heap.size∧L.S.P w
 l9: ¬L.S.F g
 nj: ∀j b,j<6→(L.v j).ownBlock=some b→¬L.S.F b
 im:vo m d L
structure lE (w w':World) (g:Nat) (L L':Lh):Prop where
 os:w'.os=w.os
 tape:w'.tape=w.tape
 output:w'.output=w.output
 size:w.heap.size≤w'.heap.size
 block: ∀i,i<w.heap.size→¬mD g L i→w'.heap[i]? =w.heap[i]?
 gJ: ∀i,mD g L' i→mD g L i∨w.heap.size≤i
def iW(m:Nat)(w0 w:World)(g:Nat)(L:Lh)(w':World)(d':Dk):Prop:= ∃L',pA m w0 w' g d' L'/\lE w w' g L L'
section
variable {w0 w w' w2:World}{g m m':Nat}{d d':Dk}{L L' L2:Lh}
theorem pA.mono(h:pA m w0 w g d L)(hm:m<=m'):pA m' w0 w g d L:=⟨h.low,h.gb,h.eW,h.own,h.off,h.sep,h.gJ,h.l9,h.nj,by have:=h.im;unfold vo at this⊢;cases hd:d.c with|none=>rw[hd] at this;exact this|some x=>rw[hd] at this;obtain⟨a,h1,h2⟩:=this;exact⟨a,⟨aK h1.1 hm,h1.2⟩,h2⟩⟩
theorem lE.trans(h:lE w w' g L L')(h2:lE w' w2 g L' L2):lE w w2 g L L2:=⟨h2.os.trans h.os,h2.tape.trans h.tape,h2.output.trans h.output,aK h.size h2.size,fun i hi hn=>(h2.block i (aN hi h.size) (fun j=>(h.gJ i j).elim hn (fun e=>ah))).trans (h.block i hi hn),fun k j=>(h2.gJ k j).elim (h.gJ k) (fun e=> .inr (aK h.size e))⟩
theorem lE.fC(hB:Below w.heap.size w w'):lE w w' g L L:=⟨hB.os,hB.tape,hB.output,hB.size,fun i hi _=>hB.block i hi,fun _ h=> .inl h⟩
theorem pA.lo(h:pA m w0 w g d L){i:Nat}(hi:mD g L i):w0.heap.size<=i/\i<w.heap.size:=by
 rcases hi with rfl|⟨j,hj,e⟩|hx
 ·exact⟨h.gb,h.eW.lt⟩
 ·have h1:=h.own j hj;obtain⟨_,⟨s,_⟩|⟨b,cap,cur,s,u,z,_⟩⟩:=h1
  ·rw[s] at e;cases e
  ·rw[s] at e;cases e;exact⟨u,(aS.1 z).1⟩
 ·have h1:=h.gJ;have:=L.S.own h1.2.2 hx;omega
theorem pA.kJ(h:pA m w0 w g d L)(hk:lE w w' g L L'):Below w0.heap.size w0 w':=⟨hk.os.trans h.low.os,hk.tape.trans h.low.tape,hk.output.trans h.low.output,aK h.low.size hk.size,fun i hi=>(hk.block i (aN hi h.low.size) (fun e=>by have:=(h.lo e).1;omega)).trans (h.low.block i hi)⟩
theorem pA.same(h:pA m w0 w g d L)(hs:w.heap.size<=w'.heap.size)(hl:Below w0.heap.size w0 w')(hk: ∀i,i<w.heap.size->mD g L i->w'.heap[i]? =w.heap[i]?):pA m w0 w' g d L:={low:=hl,gb:=h.gb,eW:=(hk g h.eW.lt (.inl rfl)).trans h.eW,own:=fun j s=>fv (h.own j s) (fun b e=>hk b (h.lo (.inr (.inl ⟨j,s,e⟩))).2 (.inr (.inl ⟨j,s,e⟩))),off:=h.off,sep:=h.sep,gJ:=⟨h.gJ.1,aK h.gJ.2.1 hs,L.S.iP h.gJ.2.2 hs fun i hi u=>hk i hi (.inr (.inr u))⟩,l9:=h.l9,nj:=h.nj,im:=h.im}
theorem pA.below(h:pA m w0 w g d L)(hB:Below w.heap.size w w'):pA m w0 w' g d L:=h.same hB.size (h.kJ (lE.fC (L:=L) (g:=g) hB)) (fun i hi _=>hB.block i hi)
theorem pA.to(h:pA m w0 w g d L)(hB:Below w.heap.size w w'):iW m w0 w g L w' d:=⟨L,h.below hB,.fC hB⟩
theorem iW.after(hB:Below w.heap.size w w2)(h:iW m w0 w2 g L w' d'):iW m w0 w g L w' d':=by obtain⟨L',h1,h2⟩:=h;exact⟨L',h1,(lE.fC hB).trans h2⟩
theorem iW.below(h:iW m w0 w g L w' d')(hB:Below w'.heap.size w' w2):iW m w0 w g L w2 d':=by obtain⟨L',h1,h2⟩:=h;exact⟨L',h1.below hB,h2.trans (.fC hB)⟩
theorem iW.mono(h:iW m w0 w g L w' d')(hm:m<=m'):iW m' w0 w g L w' d':=by obtain⟨L',h1,h2⟩:=h;exact⟨L',h1.mono hm,h2⟩
theorem lE.grown(j:w.grownBy w' (some g)):lE w w' g L L:=⟨j.os,j.tape,j.output,j.size,fun i hi hn=>j.block i hi (fun e=>hn (.inl (by cases e;rfl))),fun _ h=> .inl h⟩
theorem pA.put(h:pA m w0 w g d L)(s:w.grownBy w' (some g))(J:eN w' g 60 (lB d' L))(C: ∀j,ju d' j=ju d j/\iR d' j=iR d j)(E:d.c=none)(O:d'.c=none):iW m w0 w g L w' d':=by
 have hk:lE w w' g L L:=.grown s;have z: ∀i,i<w.heap.size->i≠g->w'.heap[i]? =w.heap[i]? :=fun i hi hn=>s.block i hi (fun e=>hn (by cases e;rfl));refine⟨L,⟨h.kJ hk,h.gb,J,fun j u=> ?_,h.off,h.sep,⟨h.gJ.1,aK h.gJ.2.1 s.size,L.S.iP h.gJ.2.2 s.size fun i hi K=>z i hi (fun e=>h.l9 (by rw[<-e];exact K))⟩,h.l9,h.nj, ?_⟩,hk⟩
 ·rw[(C j).1,(C j).2];exact fv (h.own j u) (fun b e=>z b (h.lo (.inr (.inl ⟨j,u,e⟩))).2 (fun I=>h.off j u (by rw[e,I])))
 ·have:=h.im;unfold vo at this⊢;rw[E] at this;rw[O];exact this
theorem pA.row(h:pA m w0 w g d L)(s:Nat)(J:s<6)(v:Value)(O:w.grownBy w2 (L.v s).ownBlock)(T:v.ownBlock=(L.v s).ownBlock\/∀b,v.ownBlock=some b->w.heap.size<=b)(K:w2.grownBy w' (some g))(Y:w2.ownsRow w0.heap.size (Gy s) (Af s) v (iR d' s) (ju d' s))(ac:eN w' g 60 (lB d' {L with v:=eV L.v s v}))(ad: ∀j,j<6->j≠s->ju d' j=ju d j/\iR d' j=iR d j)(ao:d'.c=d.c)(hp:d.c=none\/(2<=s/\d'.p=d.p)):iW m w0 w g L w' d':=by
 have aa:=O.size;have a3: ∀b,v.ownBlock=some b->b<w2.heap.size:=fun b e=>by
  obtain⟨_,⟨u,_⟩|⟨b2,cap,cur,u,ac,ap,_⟩⟩:=Y
  ·rw[u] at e;cases e
  ·rw[u] at e;cases e;exact(aS.1 ap).1
 have X: ∀i,i<w.heap.size->i≠g->some i≠(L.v s).ownBlock->w'.heap[i]? =w.heap[i]? :=fun i hi hn hm=>(K.block i (aN hi aa) (fun e=>hn (by cases e;rfl))).trans (O.block i hi hm);have hk:lE w w' g L {L with v:=eV L.v s v}:=by
  refine⟨K.os.trans O.os,K.tape.trans O.tape,K.output.trans O.output,aK aa K.size,fun i hi hn=>X i hi (fun e=>hn (.inl e)) (fun e=>hn (.inr (.inl ⟨s,J,e.symm⟩))), ?_⟩;rintro i (rfl|⟨j,z,e⟩|I)
  ·exact .inl (.inl rfl)
  ·dsimp only[eV] at e;by_cases u:j=s
   ·rw[aM u] at e;rcases T with h1|h1
    ·exact .inl (.inr (.inl ⟨s,J,by rw[<-h1];exact e⟩))
    ·exact .inr (h1 i e)
   ·rw[aI u] at e;exact .inl (.inr (.inl ⟨j,z,e⟩))
  ·exact .inl (.inr (.inr I))
 have am:v.ownBlock≠some g:=fun e=>by
  rcases T with h1|h1
  ·exact h.off s J (by rw[<-h1];exact e)
  ·have:=h1 g e;have:=h.eW.lt;omega
 have al: ∀i b,i<6->i≠s->(L.v i).ownBlock=some b->v.ownBlock≠some b:=fun i b hi a0 e u=>by
  rcases T with h1|h1
  ·exact a0 (h.sep i s b hi J e (by rw[<-h1];exact u))
  ·have:=h1 b u;have:=(h.lo (.inr (.inl ⟨i,hi,e⟩))).2;omega
 have aA: ∀b,v.ownBlock=some b->¬L.S.F b:=fun b e I=>by
  rcases T with h1|h1
  ·exact h.nj s b J (by rw[<-h1];exact e) I
  ·have:=h1 b e;have:=(h.lo (.inr (.inr I))).2;omega
 refine⟨{L with v:=eV L.v s v},⟨h.kJ hk,h.gb,ac,fun j z=> ?_,fun j z=> ?_,fun i j b hi z C u=> ?_,⟨h.gJ.1,aK h.gJ.2.1 hk.size,L.S.iP h.gJ.2.2 hk.size fun i hi I=>X i hi (fun e=>h.l9 (by rw[<-e];exact I)) (fun e=>h.nj s i J e.symm I)⟩,h.l9,fun j b z e=> ?_, ?_⟩,hk⟩
 ·dsimp only[eV];by_cases e:j=s
  ·subst e;rw[aM rfl];exact fv Y (fun b e=>K.block b (a3 b e) (fun u=>am (by rw[e];exact u)))
  ·rw[aI e,(ad j z e).1,(ad j z e).2];exact fv (h.own j z) (fun b U=>X b (h.lo (.inr (.inl ⟨j,z,U⟩))).2 (fun u=>h.off j z (by rw[U,u])) (fun u=>e (h.sep j s b z J U u.symm)))
 ·dsimp only[eV];split
  ·exact am
  ·exact h.off j z
 ·dsimp only[eV] at C u;by_cases a1:i=s<;>by_cases a2:j=s
  ·omega
  ·rw[aM a1] at C;rw[aI a2] at u;exact absurd C (al j b z a2 u)
  ·rw[aI a1] at C;rw[aM a2] at u;exact absurd u (al i b hi a1 C)
  ·rw[aI a1] at C;rw[aI a2] at u;exact h.sep i j b hi z C u
 ·dsimp only[eV] at e;by_cases u:j=s
  ·rw[aM u] at e;exact aA b e
  ·rw[aI u] at e;exact h.nj j b z e
 ·have E:=h.im;unfold vo at E⊢;rw[ao];rcases hp with hp|⟨hp,Z⟩
  ·rw[hp] at E⊢;exact E
  ·cases hd:d.c with|none=>rw[hd] at E;exact E|some x=>rw[hd] at E;obtain⟨a,h0,h1,h2⟩:=E;refine⟨a,⟨h0.1,by rw[Z];exact h0.2.1,fun j b z e=>h0.2.2 j b z (by dsimp only[eV] at e;rwa[aI ah] at e)⟩,h1, ?_⟩;rw[Z];dsimp only[eV];rw[aI ah,aI ah];exact h2
open Classical in theorem pA.DK(h:pA m w0 w g d L){fy:Nat}{c:Cl}(hd:d.c=some (fy,c)){w1:World}(hB:Below w.heap.size w w1)(a4:w.heap.size<w1.heap.size): ∃(gc M:Nat) (bs:List Nat) (s:World),M<=m/\jH d.p c/\L.cv=fk gc/\iJ s w1 s.heap.size gc d.p ⟨L.v 0,L.v 1,.slice none 0 0⟩ fy c M w1 bs/\(∀j,j<2->s.ownsRow w0.heap.size (Gy j) (Af j) (L.v j) (iR d j) (ju d j))/\(∀i,i<w1.heap.size->¬L.S.F i->i∈bs)/\∀W c' M' m',M'<=m'->jH d.p c'->iJ s W s.heap.size gc d.p ⟨L.v 0,L.v 1,.slice none 0 0⟩ fy c' M' w1 bs->iW m' w0 w g L W {d with c:=some (fy,c')}:=by
 have U:=h.im;unfold vo at U;rw[hd] at U;obtain⟨a,⟨hM,a2,X⟩,al,am⟩:=U;have z:=h.gJ;rw[am] at z;have a3:a.b<=w1.heap.size:=aK z.2.1 hB.size;have hA1:fY w1 a.b a.a (eO d.p) d.p ⟨L.v 0,L.v 1,.slice none 0 0⟩ fy c a.M:=(Kd a d.p (L.v 0) (L.v 1) fy c).iP z.2.2 hB.size (fun i hi _=>hB.block i hi);obtain⟨s,C⟩: ∃s:World,{w1 with heap:=w1.heap.extract 0 a.b}=s:=⟨_,rfl⟩;have Y:s.heap.size=a.b:=by rw[<-C];simp;omega
 have Z: ∀i,i<a.b->s.heap[i]? =w1.heap[i]? :=fun i hi=>by rw[<-C];show(w1.heap.extract 0 a.b)[i]? =_;rw[Array.getElem?_extract,aM ah,bB]
 have E:Below s.heap.size s w1:=⟨by rw[<-C],by rw[<-C],by rw[<-C],ah,fun i hi=>(Z i ah).symm⟩;refine⟨a.a.g,a.M,(List.range w1.heap.size).filter (fun i=>decide (¬L.S.F i)),s,hM,a2,al, ?_,fun j u=> ?_,fun i hi hn=>by simp[hi,hn], ?_⟩
 ·rw[Y] at E⊢;refine⟨a.a,rfl,hA1,E,a3,fun b K=> ?_⟩;simp only[List.mem_filter,dc,bI] at K;exact⟨K.1,by rw[am] at K;exact K.2,rfl⟩
 ·exact fv (h.own j ah) (fun b e=>(Z b (X j b u e)).trans (hB.block b (h.lo (.inr (.inl ⟨j,ah,e⟩))).2))
 ·rintro W c' M' m' a0 aA ⟨I,ap,ao,O,ac,ad⟩;rw[Y] at ao O ac ad;have J: ∀i,i<w1.heap.size->¬L.S.F i->i<W.heap.size/\¬wM (eM a.b I (eO d.p) d.p ⟨L.v 0,L.v 1,.slice none 0 0⟩ fy c') i/\W.heap[i]? =w1.heap[i]? :=fun i hi hn=>ad i (by simp[hi,hn]);have a5:=(J (w1.heap.size-1) ah (fun hF=>by have:=(h.lo (.inr (.inr hF))).2;omega)).1;have T: ∀i,i<w.heap.size->¬L.S.F i->W.heap[i]? =w.heap[i]? :=fun i hi hn=>(J i (aN hi hB.size) hn).2.2.trans (hB.block i hi);have hk:lE w W g L {L with S:=Kd ⟨a.b,I,M'⟩ d.p (L.v 0) (L.v 1) fy c'}:=by
   refine⟨(O.os.trans E.os.symm).trans hB.os,(O.tape.trans E.tape.symm).trans hB.tape,(O.output.trans E.output.symm).trans hB.output,ah,fun i hi hn=>T i hi (fun z=>hn (.inr (.inr z))), ?_⟩;rintro i (rfl|h1|hF)
   ·exact .inl (.inl rfl)
   ·exact .inl (.inr (.inl h1))
   ·by_cases hi:i<w.heap.size
    ·by_cases hn:L.S.F i
     ·exact .inl (.inr (.inr hn))
     ·exact absurd hF (J i (aN hi hB.size) hn).2.1
    ·exact .inr ah
  have aa: ∀i,i<w.heap.size->¬L.S.F i->¬(Kd ⟨a.b,I,M'⟩ d.p (L.v 0) (L.v 1) fy c').F i:=fun i hi hn=>(J i (aN hi hB.size) hn).2.1;exact⟨{L with S:=Kd ⟨a.b,I,M'⟩ d.p (L.v 0) (L.v 1) fy c'},⟨h.kJ hk,h.gb,(T g h.eW.lt h.l9).trans h.eW,fun j u=>fv (h.own j u) (fun b e=>T b (h.lo (.inr (.inl ⟨j,u,e⟩))).2 (h.nj j b u e)),h.off,h.sep,⟨z.1,ac,ao⟩,aa g h.eW.lt h.l9,fun j b u e=>aa b (h.lo (.inr (.inl ⟨j,u,e⟩))).2 (h.nj j b u e),⟨⟨a.b,I,M'⟩,⟨a0,aA,X⟩,by rw[al,<-ap],rfl⟩⟩,hk⟩
theorem pA.start(h:pA m w0 w g d L)(hd:d.c=none)(hB:Below w.heap.size w w2){a:AH}{fy:Nat}{c:Cl}(hM:a.M<=m)(U:jH d.p c)(E:w.heap.size<=a.b)(O:a.b<=w2.heap.size)(J:fY w2 a.b a.a (eO d.p) d.p ⟨L.v 0,L.v 1,.slice none 0 0⟩ fy c a.M):iW m w0 w g L (w2.setCell ⟨g,10,none⟩ (fk a.a.g)) {d with c:=some (fy,c)}:=by
 have X:=h.eW.lt;have I: ∀i,i<w2.heap.size->i≠g->(w2.setCell ⟨g,10,none⟩ (fk a.a.g)).heap[i]? =w2.heap[i]? :=fun i _ hn=>aW w2 _ _ i hn;have C:(w2.setCell ⟨g,10,none⟩ (fk a.a.g)).heap.size=w2.heap.size:=by simp[World.setCell]
 have z: ∀i,(Kd a d.p (L.v 0) (L.v 1) fy c).F i->w.heap.size<=i:=fun i u=>aK E ((Kd a d.p (L.v 0) (L.v 1) fy c).own J u).1;have hk:lE w (w2.setCell ⟨g,10,none⟩ (fk a.a.g)) g L {v:=L.v,S:=Kd a d.p (L.v 0) (L.v 1) fy c,cv:=fk a.a.g}:=by
  refine⟨hB.os,hB.tape,hB.output,by rw[C];exact hB.size,fun i hi hn=>(I i (aN hi hB.size) (fun e=>hn (.inl e))).trans (hB.block i hi), ?_⟩;rintro i (rfl|h1|T)
  ·exact .inl (.inl rfl)
  ·exact .inl (.inr (.inl h1))
  ·exact .inr (z i T)
 refine⟨{v:=L.v,S:=Kd a d.p (L.v 0) (L.v 1) fy c,cv:=fk a.a.g},⟨h.kJ hk,h.gb, ?_,fun j s=> ?_,h.off,h.sep,⟨?_,by rw[C];exact O, ?_⟩,fun u=> ?_,fun j b2 s e u=> ?_,⟨a,⟨hM,U,fun j b s e=>aN (h.lo (.inr (.inl ⟨j,ah,e⟩))).2 E⟩,rfl,rfl⟩⟩,hk⟩
 ·have:=(h.eW.below hB X).eS 10 (fk a.a.g);exact this
 ·exact fv (h.own j s) (fun b2 e=>(I b2 (aN (h.lo (.inr (.inl ⟨j,s,e⟩))).2 hB.size) (fun K=>h.off j s (by rw[e,K]))).trans (hB.block b2 (h.lo (.inr (.inl ⟨j,s,e⟩))).2))
 ·exact aK h.low.size E
 ·exact(Kd a d.p (L.v 0) (L.v 1) fy c).iP J (by rw[C];exact ar) (fun i hi u=>I i hi (fun e=>by have:=z i u;omega))
 ·have:=z g u;omega
 ·have:=z b2 u;have:=(h.lo (.inr (.inl ⟨j,s,e⟩))).2;omega
theorem pA.reset(h:pA m w0 w g d L)(E:w.grownBy w' (some g)){z:Lh}(C:z={L with v:=fun j=>if j<2 then L.v j else .slice none 0 0})(X:eN w' g 60 (lB {d with r:=⟨[],[],[],[]⟩} z)):iW m w0 w g L w' {d with r:=⟨[],[],[],[]⟩}:=by
 have U: ∀i,i<w.heap.size->i≠g->w'.heap[i]? =w.heap[i]? :=fun i hi hn=>E.block i hi (fun e=>hn (by cases e;rfl));have J: ∀j b,(z.v j).ownBlock=some b->j<2/\(L.v j).ownBlock=some b:=fun j b e=>by
  rw[C] at e;dsimp only at e;by_cases s:j<2
  ·rw[aM s] at e;exact⟨s,e⟩
  ·rw[aI s] at e;cases e
 have O:z.S=L.S:=by rw[C]
 have hk:lE w w' g L z:=by
  refine⟨E.os,E.tape,E.output,E.size,fun i hi hn=>U i hi (fun e=>hn (.inl e)), ?_⟩;rintro i (rfl|⟨j,s,e⟩|T)
  ·exact .inl (.inl rfl)
  ·exact .inl (.inr (.inl ⟨j,s,(J j i e).2⟩))
  ·exact .inl (.inr (.inr (by rw[<-O];exact T)))
 refine⟨z,⟨h.kJ hk,h.gb,X,fun j s=> ?_,fun j s e=>h.off j s (J j g e).2,fun i j b hi s K u=>h.sep i j b hi s (J i b K).2 (J j b u).2, ?_,by rw[O];exact h.l9,fun j b s e=>by rw[O];exact h.nj j b s (J j b e).2, ?_⟩,hk⟩
 ·by_cases h2:j<2
  ·have K:z.v j=L.v j:=by rw[C];exact aM h2
   have u:ju {d with r:=⟨[],[],[],[]⟩} j=ju d j/\iR {d with r:=⟨[],[],[],[]⟩} j=iR d j:=by
    obtain rfl|rfl:j=0\/j=1:=ah
    ·exact⟨rfl,rfl⟩
    ·exact⟨rfl,rfl⟩
   rw[K,u.1,u.2];exact fv (h.own j s) (fun b e=>U b (h.lo (.inr (.inl ⟨j,s,e⟩))).2 (fun u=>h.off j s (by rw[e,u])))
  ·have K:z.v j=.slice none 0 0:=by rw[C];exact aI h2
   have u:ju {d with r:=⟨[],[],[],[]⟩} j=[]/\iR {d with r:=⟨[],[],[],[]⟩} j=0:=by obtain rfl|rfl|rfl|rfl:j=2\/j=3\/j=4\/j=5:=ah;all_goals exact⟨rfl,rfl⟩
   rw[K,u.1,u.2];exact⟨ak,.inl ⟨rfl,rfl⟩⟩
 ·rw[O];exact⟨h.gJ.1,aK h.gJ.2.1 E.size,L.S.iP h.gJ.2.2 E.size fun i hi T=>U i hi (fun e=>h.l9 (by rw[<-e];exact T))⟩
 ·have I:=h.im;unfold vo at I⊢;cases hd:d.c with|none=>rw[hd] at I;exact⟨by rw[C];exact I.1,by rw[C];exact I.2⟩|some x=>rw[hd] at I;obtain⟨a,h0,h1,h2⟩:=I;exact⟨a,⟨h0.1,h0.2.1,fun j b s e=>h0.2.2 j b s (J j b e).2⟩,by rw[C];exact h1,by rw[C];exact h2⟩
abbrev OX(n:Nat):Lh:=⟨fun _=> .slice none 0 0,Fm.none n,.pointer none⟩
theorem G0(hl:Below w0.heap.size w0 w)(u:w0.heap.size<=g)(s:eN w g 60 (lB ld (OX w0.heap.size))):pA m w0 w g ld (OX w0.heap.size):=by
 refine⟨hl,u,s,fun j h=>⟨?_,.inl ⟨rfl, ?_⟩⟩,(fun j h e=>by cases e),(fun i j b hi h e=>by cases e),⟨ar,hl.size,trivial⟩,id,fun j b h e=>id,rfl,fun _=>id⟩
 ·obtain rfl|rfl|rfl|rfl|rfl|rfl:j=0\/j=1\/j=2\/j=3\/j=4\/j=5:=ah;all_goals rfl
 ·obtain rfl|rfl|rfl|rfl|rfl|rfl:j=0\/j=1\/j=2\/j=3\/j=4\/j=5:=ah;all_goals rfl
theorem pA.clear(h:pA m w0 w g d L)(s:w.grownBy w' (some g))(u:eN w' g 60 (lB ld (OX w0.heap.size))):iW m w0 w g L w' ld:=by
 have hk:lE w w' g L (OX w0.heap.size):=by
  refine⟨s.os,s.tape,s.output,s.size,fun i hi hn=>s.block i hi (fun e=>hn (.inl (by cases e;rfl))), ?_⟩;rintro i (rfl|⟨j,C,e⟩|z)
  ·exact .inl (.inl rfl)
  ·cases e
  ·exact z.elim
 exact⟨_,G0 (h.kJ hk) h.gb u,hk⟩
end
def kc(c:UInt8):List UInt8->List (List UInt8)|[]=>[[]]|x::l=>if x=c then []::kc c l else match kc c l with|[]=>[[x]]|y::r=>(x::y)::r
section
variable {c:UInt8}
theorem lN: ∀l:List UInt8,∃y r,kc c l=y::r
 |[]=>⟨_,_,rfl⟩
 |x::l=>by
  unfold kc;split
  ·exact⟨_,_,rfl⟩
  ·obtain⟨y,r,h⟩:=lN l;rw[h];exact⟨_,_,rfl⟩
theorem D2: ∀l:List UInt8,vM l=kc 10 l|[]=>rfl|x::l=>by rw[vM,kc,D2 l];rfl
theorem rF(b:List UInt8): ∀a:List UInt8,kc c (a++c::b)=kc c a++kc c b
 |[]=>by simp[kc]
 |x::a=>by
  have j:=rF b a;obtain⟨y,r,h⟩:=lN (c:=c) a;rw[bE];by_cases e:x=c
  ·subst e;rw[kc,aM rfl,j,kc,aM rfl];rfl
  ·rw[kc,aI e,j,kc,aI e,h];rfl
theorem uf: ∀{l:List UInt8},c∉l->kc c l=[l]|[],_=>rfl|x::l,h=>by have h1: ¬x=c:=fun e=>h (by simp[e]);rw[kc,aI h1,uf (fun e=>h (by simp[e]))]
theorem pN: ∀l:List UInt8,(kc c l).length=l.count c+1
 |[]=>by simp[kc]
 |x::l=>by
  have e:=pN l;obtain⟨y,r,h⟩:=lN (c:=c) l;unfold kc;rw[h] at e⊢;by_cases j:x=c
  ·subst j;rw[aM rfl];simp at e⊢;omega
  ·rw[aI j];have:(x::l).count c=l.count c:=by rw[List.count_cons];simp[j]
   rw[this];simpa using e
theorem yJ{l:List UInt8}(h:Lib.indexByte l c=-1):kc c l=[l]:=uf (fun hm=>by obtain⟨k,hk,e⟩:=bJ.1 hm;exact Lib.indexByte_none h k (by rw[aF hk,e]))
theorem Fz {l:List UInt8} {m:Nat} (h:Lib.indexByte l c=m):m<l.length∧kc c l=l.take m::kc c (l.drop (m+1)):=by
 obtain⟨h1,h2⟩:=Lib.indexByte_some h
 obtain⟨hm,e⟩:=aQ.1 h1
 refine⟨hm, ?_⟩
 have h3:l=l.take m++c::l.drop (m+1):=by
  conv=>lhs;rw[←dE m l,cy hm,e]
 have h4:c∉l.take m:=fun s=>by
  obtain⟨k,hk,j⟩:=bJ.1 s
  rw[bP] at hk
  refine h2 k ah ?_
  rw[List.getElem_take] at j
  rw[aF ah,j]
 conv=>lhs;rw[h3]
 rw[rF,uf h4]
 rfl
end
def ig(c:UInt8)(s:ByteArray):List ByteArray:=(kc c s.data.toList).map fun l=>⟨l.toArray⟩
theorem wG(c:UInt8): ∀(k:Nat)(s:ByteArray),(kc c s.data.toList).length<=k+1->Lib.splitB ⟨#[c]⟩ 0 k s=ig c s
 |k,s,h=>by
  have u:Lib.indexB s ⟨#[c]⟩=Lib.indexByte s.data.toList c:=by unfold Lib.indexB;exact Lib.index_one _ _
  by_cases j:Lib.indexByte s.data.toList c=-1
  ·rw[Lib.splitB_miss _ _ _ _ (u.trans j)];unfold ig;rw[yJ j];simp
  ·obtain⟨m,hm⟩: ∃m:Nat,Lib.indexByte s.data.toList c=m:=aZ (by have:=Lib.indexByte_ge s.data.toList c;omega);obtain⟨h1,h2⟩:=Fz hm;have h3:s.data.toList.length=s.size:=ak;cases k with
    |zero=>obtain⟨y,r,C⟩:=lN (c:=c) (s.data.toList.drop (m+1));rw[h2,C] at h;simp at h
    |succ k=>
     rw[Lib.splitB_hit _ _ _ _ m (u.trans hm)];unfold ig;rw[h2,cK];have e:s.data.toList.drop (m+1)=(s.extract (m+1) s.size).data.toList:=by rw[dZ,eo,dI,bC ak]
     have z:(⟨#[c]⟩:ByteArray).size=1:=rfl;rw[e,z,wG c k (s.extract (m+1) s.size) (by rw[<-e];rw[h2] at h;simpa using h)];congr 1;apply ByteArray.ext;apply Array.ext';rw[eG,dZ,eo,dI];simp
theorem GA(c:UInt8)(s:ByteArray):Lib.splitB ⟨#[c]⟩ 0 (Lib.countByte s.data.toList c) s=ig c s:=wG c _ s (by rw[pN];exact ar)
def qH(l:List UInt8):List (List UInt8):=(kc 32 l).filter fun x=> !x.isEmpty
theorem AP(a b:List UInt8):qH (a++32::b)=qH a++qH b:=by unfold qH;rw[rF,List.filter_append]
theorem DB{l:List UInt8}(h:(32:UInt8)∉l)(h0:l≠[]):qH l=[l]:=by unfold qH;rw[uf h];cases l with|nil=>exact absurd rfl h0|cons x l=>rfl
theorem Bt:qH []=[]:=rfl
theorem Kp(l:List UInt8):qH (32::l)=qH l:=by have:=AP [] l;simpa[Bt] using this
theorem Fl(s:ByteArray)(i:Nat):((Utf8.decode s i).1==32)=decide ((s.get! i).toNat=32)/\1<=(Utf8.decode s i).2/\(∀j,1<=j->j<(Utf8.decode s i).2->(s.get! (i+j)).toNat≠32)/\((s.get! i).toNat=32->(Utf8.decode s i).2=1):=by
 rw[Lib.decode_at];generalize hn:s.size-i=n;generalize h0:(s.get! i).toNat=b0;generalize h1:(s.get! (i+1)).toNat=b1;generalize h2:(s.get! (i+2)).toNat=b2;generalize h3:(s.get! (i+3)).toNat=b3;have key: ∀k,(∀j,1<=j->j<k->(j=1->b1≠32)/\(j=2->b2≠32)/\(j=3->b3≠32)/\j<=3)->∀j,1<=j->j<k->(s.get! (i+j)).toNat≠32:=fun k h j e hk=>by
  obtain⟨a1,a2,a3,a4⟩:=h j e hk;obtain rfl|rfl|rfl:j=1\/j=2\/j=3:=ah
  ·rw[h1];exact a1 rfl
  ·rw[h2];exact a2 rfl
  ·rw[h3];exact a3 rfl
 unfold Lib.decodeN;repeat' split
 all_goals
  refine⟨?_,by simp only;omega,key _ (fun j e hk=> ?_),fun h=> ?_⟩
  ·rw[dL,dy,bI]<;>first|omega|(simp only;omega)
  ·simp only at hk;omega
  ·first|omega|(simp only;omega)
theorem get_at(s:ByteArray)(i:Nat)(h:i<s.size):s.data.toList[i]? =some (s.get! i):=by rw[Array.getElem?_toList];have e:i<s.data.size:=h;rw[Array.getElem?_eq_getElem e];show some _=some s.data[i]!;rw[getElem!_pos s.data i e]
theorem Bh(s:ByteArray)(i:Nat)(h:i<s.size):s.data.toList.drop i=s.get! i::s.data.toList.drop (i+1):=by have h1:=get_at s i h;obtain⟨h2,h3⟩:=aQ.1 h1;rw[cy h2,h3]
def MY(s:ByteArray)(pos:Nat):Option Nat->List UInt8|none=>s.data.toList.drop pos|some a=>s.data.toList.drop a
theorem sC(s:ByteArray)(a b:Nat)(h:b<=s.size):(s.extract a b).data.toList=(s.data.toList.take b).drop a:=by rw[dZ,eo,dI,List.drop_take]
theorem Im (s:ByteArray) (a b:Nat) (h:b≤s.size) (e:a≤b):s.data.toList.drop a=(s.extract a b).data.toList++s.data.toList.drop b:=by
 have h0:s.data.toList.length=s.size:=ak
 rw[sC s a b h]
 conv=>lhs;rw[←dE b s.data.toList]
 rw[List.drop_append_of_le_length (by rw[bP];omega)]
theorem Jt(s:ByteArray)(a b:Nat)(h:b<=s.size)(z: ∀j,a<=j->j<b->(s.get! j).toNat≠32):(32:UInt8)∉(s.extract a b).data.toList:=fun hm=>by
 obtain⟨k,hk,e⟩:=bJ.1 hm;have E:k<b-a:=by have:=hk;rw[sC s a b h] at this;simp at this;omega
 have u:(s.extract a b).data.toList[k]? =some 32:=by rw[aF hk,e]
 rw[sC s a b h,List.getElem?_drop,dh,aM ah,get_at s (a+k) ah] at u;have C:s.get! (a+k)=32:=bg u;exact z (a+k) ah ah (by rw[C];rfl)
theorem nV(s:ByteArray): ∀(f pos:Nat)(st:Option Nat)(acc:List (Nat×Nat)),s.size-pos<=f->(∀a,st=some a->a<pos/\a<s.size/\∀j,a<=j->j<pos->j<s.size->(s.get! j).toNat≠32)->(Lib.closeSpans s (Lib.spansFromP (fun x=>x==32) s f pos st acc)).map (fun x=>(s.extract x.1 x.2).data.toList)=acc.map (fun x=>(s.extract x.1 x.2).data.toList)++qH (MY s pos st)
 |f,pos,st,acc,E,h=>by
  by_cases hp:pos<s.size
  ·cases f with
    |zero=>omega
    |succ f=>
     obtain⟨b1,b2,u,C⟩:=Fl s pos;rw[Lib.spansFromP.eq_def];dsimp only;rw[aM hp,b1];by_cases h32:(s.get! pos).toNat=32
     ·have z:s.get! pos=32:=UInt8.toNat_inj.1 h32;rw[aM (aJ h32),C h32];cases st with|none=>refine(nV s f (pos+1) none acc ah (fun a e=>by cases e)).trans ?_;show _=_++qH (s.data.toList.drop pos);rw[Bh s pos hp,z,Kp];rfl|some a=>obtain⟨a1,a2,a3⟩:=h a rfl;refine(nV s f (pos+1) none (acc++[(a,pos)]) ah (fun a e=>by cases e)).trans ?_;show _=_++qH (s.data.toList.drop a);rw[Im s a pos ah ah,Bh s pos hp,z,AP,DB (Jt s a pos ah (fun j h1 h2=>a3 j h1 h2 ah)) (fun e=>by have:=aO List.length e;rw[sC s a pos ah] at this;simp at this;omega)];simp[MY]
     ·rw[aI (by rw[bI];exact h32)];cases st with
       |none=>
        refine(nV s f _ (some pos) acc ah (fun a e=>by
         cases e;refine⟨ah,hp,fun j h1 h2 h3=> ?_⟩;by_cases e:j=pos
         ·rw[e];exact h32
         ·have:=u (j-pos) ah ah;rwa[show pos+(j-pos)=j from ah] at this)).trans ?_
        rfl
       |some a=>
        obtain⟨a1,a2,a3⟩:=h a rfl;refine(nV s f _ (some a) acc ah (fun I e=>by
         cases e;refine⟨ah,a2,fun j h1 h2 h3=> ?_⟩;by_cases e:j=pos
         ·rw[e];exact h32
         ·by_cases h4:j<pos
          ·exact a3 j h1 h4 h3
          ·have:=u (j-pos) ah ah;rwa[show pos+(j-pos)=j from ah] at this)).trans ?_
        rfl
  ·rw[Lib.spansFromP_end _ _ _ _ _ _ hp];cases st with|none=>show List.map _ acc=_++qH (s.data.toList.drop pos);rw[List.drop_of_length_le ag];simp[Bt]|some a=>obtain⟨a1,a2,a3⟩:=h a rfl;show List.map _ (acc++[(a,s.size)])=_++qH (s.data.toList.drop a);have h0:=Im s a s.size (ar) ah;rw[List.drop_of_length_le (show s.data.toList.length<=s.size from ak),dK] at h0;rw[h0,DB (Jt s a s.size (ar) (fun j h1 h2=>a3 j h1 ah h2)) (fun e=>by have:=aO List.length e;rw[sC s a s.size (ar)] at this;simp at this;omega)];simp
theorem tB(s:ByteArray):kG s=(qH s.data.toList).map fun l=>⟨l.toArray⟩:=by have h:=nV s s.size 0 none [] ah (fun a e=>by cases e);unfold kG Lib.goFieldsP Lib.spansOfP;have h2:=aO (List.map fun l:List UInt8=>(⟨l.toArray⟩:ByteArray)) h;rw[eH] at h2;exact(cw (fun x _=>by rw[Function.comp_apply,Array.toArray_toList])).trans h2
end Go.Proofs.YtideefjnlakciaaGreatDoor
namespace Go.Proofs
open Go.RowKit Go.Proofs.Tryz Go.Proofs.YtideefjnlakciaaGreatDoor
open Go.Shelf
def tI:Go.Shelf.Ren:=⟨fun|169=>12|n=>n,fun|70=>39|9=>9|0=>0|72=>42|37=>40|127=>78|3=>3|5=>5|n=>n,fun|n=>n⟩
theorem KO:Go.Proofs.Lays.n169 prog tI:={mixed:=ai,f169:=func12.trans (aO some ai),t0:=underlying0,a0:=isAgg0,z0:=sizeOf0,v0:=zeroValue0,t3:=underlying3,a3:=isAgg3,z3:=sizeOf3,v3:=zeroValue3,t9:=underlying9,a9:=isAgg9,z9:=sizeOf9,v9:=zeroValue9,t37:=underlying40,a37:=isAgg40,z37:=sizeOf40,v37:=zeroValue40,t70:=underlying39,a70:=isAgg39,z70:=sizeOf39,v70:=zeroValue39,t72:=underlying42,a72:=isAgg42,z72:=sizeOf42,v72:=zeroValue42,t127:=underlying78,a127:=isAgg78,z127:=sizeOf78,v127:=zeroValue78}
theorem rH:Builder.Extra prog tI:={sizeBuilder:=ai,liesBuilder:=ai,t5:=underlying5,a5:=isAgg5,z5:=sizeOf5,v5:=zeroValue5,infoByte:=ai,cellsByte:=ai,sizeByte:=ai,neB5:=aj}
def pB:Go.Shelf.Ren:=⟨fun|156=>40|165=>89|166=>10|169=>12|240=>19|241=>123|276=>45|277=>164|n=>n,fun|31=>52|9=>9|3=>3|4=>4|0=>0|20=>20|72=>42|76=>49|70=>39|37=>40|75=>48|127=>78|164=>124|5=>5|80=>51|n=>n,fun|n=>n⟩
theorem Dw:Go.Proofs.Lays.n156 prog pB:={mixed:=ai,f156:=func40.trans (aO some ai),f165:=func89.trans (aO some ai),f166:=func10.trans (aO some ai),f169:=func12.trans (aO some ai),f240:=func19.trans (aO some ai),f241:=func123.trans (aO some ai),f276:=func45.trans (aO some ai),f277:=func164.trans (aO some ai),t0:=underlying0,a0:=isAgg0,z0:=sizeOf0,v0:=zeroValue0,t3:=underlying3,a3:=isAgg3,z3:=sizeOf3,v3:=zeroValue3,t4:=underlying4,a4:=isAgg4,z4:=sizeOf4,v4:=zeroValue4,t9:=underlying9,a9:=isAgg9,z9:=sizeOf9,v9:=zeroValue9,t20:=underlying20,a20:=isAgg20,z20:=sizeOf20,v20:=zeroValue20,t31:=underlying52,a31:=isAgg52,z31:=sizeOf52,v31:=zeroValue52,t37:=underlying40,a37:=isAgg40,z37:=sizeOf40,v37:=zeroValue40,t70:=underlying39,a70:=isAgg39,z70:=sizeOf39,v70:=zeroValue39,t72:=underlying42,a72:=isAgg42,z72:=sizeOf42,v72:=zeroValue42,t75:=underlying48,a75:=isAgg48,z75:=sizeOf48,v75:=zeroValue48,t76:=underlying49,a76:=isAgg49,z76:=sizeOf49,v76:=zeroValue49,t127:=underlying78,a127:=isAgg78,z127:=sizeOf78,v127:=zeroValue78,t164:=underlying124,a164:=isAgg124,z164:=sizeOf124,v164:=zeroValue124}
theorem nF:Builder.Extra prog pB:={sizeBuilder:=ai,liesBuilder:=ai,t5:=underlying5,a5:=isAgg5,z5:=sizeOf5,v5:=zeroValue5,infoByte:=ai,cellsByte:=ai,sizeByte:=ai,neB5:=aj}
open Go.RowKit in theorem strings_Join(h o c:Nat)(xs:List ByteArray)(sep:ByteArray)(w:World)(u: ∀(j:Nat) x,xs[j]? =some x->w.cell? ⟨h,o+j,none⟩=some (.string x))(C:h<w.heap.size)(s:xs.length<=140737488355328)(z:xs.length<=c)(hlen:(Lib.join (xs.map (·.data.toList)) sep.data.toList).length<=140737488355328):Calls prog 40 #[.slice (some ⟨h,o,none⟩) xs.length c,.string sep] w fun e w'=>e=.returned (.string ⟨(Lib.join (xs.map (·.data.toList)) sep.data.toList).toArray⟩)/\Below w.heap.size w w':=Any.strings_Join Dw nF h o c xs sep w u C s z hlen
open Go.RowKit in theorem Builder_String_any_k(B b:Nat)(l:List UInt8)(w:World)(h:Lib.IsBuilderF 42 5 B b (Lib.byteCells l) w)(j:B<=w.heap.size):Calls prog 12 #[.pointer (some ⟨b,0,none⟩)] w fun e w'=>e=.returned (.string ⟨l.toArray⟩)/\(Lib.IsBuilderF 42 5 B b (Lib.byteCells l) w'/\Below B w w'/\Lib.OthersKept 5 (some b) w w'):=Any.Builder_String_any_k KO rH B b l w h j
def yC:Go.Shelf.Ren:=⟨fun|171=>21|243=>46|246=>72|283=>116|284=>117|285=>118|286=>119|129=>158|317=>157|318=>159|319=>160|320=>161|337=>185|338=>186|n=>n,fun|3=>3|9=>9|2=>2|4=>4|171=>192|0=>0|53=>185|37=>40|5=>5|173=>195|212=>249|51=>250|20=>20|213=>251|46=>188|232=>314|233=>315|n=>n,fun|17=>7|18=>8|19=>9|n=>n⟩
theorem IV:Go.Proofs.LaysM.n171 prog yC:={mixed:=ai,f129:=func158.trans (aO some ai),f171:=func21.trans (aO some ai),f243:=func46.trans (aO some ai),f246:=func72.trans (aO some ai),f283:=func116.trans (aO some ai),f284:=func117.trans (aO some ai),f285:=func118.trans (aO some ai),f286:=func119.trans (aO some ai),f317:=func157.trans (aO some ai),f318:=func159.trans (aO some ai),f319:=func160.trans (aO some ai),f320:=func161.trans (aO some ai),f337:=func185.trans (aO some ai),f338:=func186.trans (aO some ai),t0:=underlying0,a0:=isAgg0,z0:=sizeOf0,v0:=zeroValue0,t2:=underlying2,a2:=isAgg2,z2:=sizeOf2,v2:=zeroValue2,t3:=underlying3,a3:=isAgg3,z3:=sizeOf3,v3:=zeroValue3,t4:=underlying4,a4:=isAgg4,z4:=sizeOf4,v4:=zeroValue4,t5:=underlying5,a5:=isAgg5,z5:=sizeOf5,v5:=zeroValue5,t9:=underlying9,a9:=isAgg9,z9:=sizeOf9,v9:=zeroValue9,t20:=underlying20,a20:=isAgg20,z20:=sizeOf20,v20:=zeroValue20,t37:=underlying40,a37:=isAgg40,z37:=sizeOf40,v37:=zeroValue40,t46:=underlying188,a46:=isAgg188,z46:=sizeOf188,v46:=zeroValue188,t51:=underlying250,a51:=isAgg250,z51:=sizeOf250,v51:=zeroValue250,t53:=underlying185,a53:=isAgg185,z53:=sizeOf185,v53:=zeroValue185,t171:=underlying192,a171:=isAgg192,z171:=sizeOf192,v171:=zeroValue192,t173:=underlying195,a173:=isAgg195,z173:=sizeOf195,v173:=zeroValue195,t212:=underlying249,a212:=isAgg249,z212:=sizeOf249,v212:=zeroValue249,t213:=underlying251,a213:=isAgg251,z213:=sizeOf251,t232:=underlying314,a232:=isAgg314,z232:=sizeOf314,v232:=zeroValue314,t233:=underlying315,a233:=isAgg315,z233:=sizeOf315,v233:=zeroValue315,g17:=ai,g18:=ai,g19:=ai,i0:=ai,i2:=ai,i3:=ai,i4:=ai,i5:=ai,i9:=ai,i20:=ai,i37:=ai,i46:=ai,i51:=ai,i53:=ai,i171:=ai,i173:=ai,i212:=ai,i232:=ai,i233:=ai,m17:=ai,m18:=ai,m19:=ai}
open Go.RowKit Go.Sort Go.Lib in theorem strconv_Itoa(n:Int)(h0:-9223372036854775808<=n)(h1:n<=9223372036854775807)(w:World)(h:Lib.TabIs prog w "internal/strconv.uint64pow10" .u64 Lib.pow10Tab):Calls prog 21 #[.int .i64 n] w fun e w'=>e=.returned (.string ⟨(Lib.itoa n).toArray⟩)/\∃k os,w'=grow (w.drewN k) os:=Any.strconv_Itoa IV n h0 h1 w h
def yH:Go.Shelf.Ren:=⟨fun|172=>128|244=>167|245=>71|247=>70|279=>112|280=>113|281=>114|282=>115|287=>111|316=>155|171=>21|205=>156|321=>153|322=>154|243=>46|246=>72|283=>116|284=>117|285=>118|286=>119|129=>158|317=>157|318=>159|319=>160|320=>161|337=>185|338=>186|n=>n,fun|9=>9|3=>3|75=>48|76=>49|4=>4|5=>5|167=>184|37=>40|0=>0|85=>80|2=>2|168=>189|53=>185|175=>186|46=>188|210=>247|127=>78|145=>292|143=>290|21=>21|171=>192|173=>195|212=>249|51=>250|20=>20|213=>251|232=>314|233=>315|80=>51|n=>n,fun|15=>5|16=>6|17=>7|18=>8|19=>9|n=>n⟩
theorem vE:Go.Proofs.LaysC.n172 prog yH:={mixed:=ai,f129:=func158.trans (aO some ai),f171:=func21.trans (aO some ai),f172:=func128.trans (aO some ai),f205:=func156.trans (aO some ai),f243:=func46.trans (aO some ai),f244:=func167.trans (aO some ai),f245:=func71.trans (aO some ai),f246:=func72.trans (aO some ai),f247:=func70.trans (aO some ai),f279:=func112.trans (aO some ai),f280:=func113.trans (aO some ai),f281:=func114.trans (aO some ai),f282:=func115.trans (aO some ai),f283:=func116.trans (aO some ai),f284:=func117.trans (aO some ai),f285:=func118.trans (aO some ai),f286:=func119.trans (aO some ai),f287:=func111.trans (aO some ai),f316:=func155.trans (aO some ai),f317:=func157.trans (aO some ai),f318:=func159.trans (aO some ai),f319:=func160.trans (aO some ai),f320:=func161.trans (aO some ai),f321:=func153.trans (aO some ai),f322:=func154.trans (aO some ai),f337:=func185.trans (aO some ai),f338:=func186.trans (aO some ai),t0:=underlying0,a0:=isAgg0,z0:=sizeOf0,v0:=zeroValue0,t2:=underlying2,a2:=isAgg2,z2:=sizeOf2,v2:=zeroValue2,t3:=underlying3,a3:=isAgg3,z3:=sizeOf3,v3:=zeroValue3,t4:=underlying4,a4:=isAgg4,z4:=sizeOf4,v4:=zeroValue4,t5:=underlying5,a5:=isAgg5,z5:=sizeOf5,v5:=zeroValue5,t9:=underlying9,a9:=isAgg9,z9:=sizeOf9,v9:=zeroValue9,t20:=underlying20,a20:=isAgg20,z20:=sizeOf20,v20:=zeroValue20,t21:=underlying21,a21:=isAgg21,z21:=sizeOf21,v21:=zeroValue21,t37:=underlying40,a37:=isAgg40,z37:=sizeOf40,v37:=zeroValue40,t46:=underlying188,a46:=isAgg188,z46:=sizeOf188,v46:=zeroValue188,t51:=underlying250,a51:=isAgg250,z51:=sizeOf250,v51:=zeroValue250,t53:=underlying185,a53:=isAgg185,z53:=sizeOf185,v53:=zeroValue185,t75:=underlying48,a75:=isAgg48,z75:=sizeOf48,v75:=zeroValue48,t76:=underlying49,a76:=isAgg49,z76:=sizeOf49,v76:=zeroValue49,t85:=underlying80,a85:=isAgg80,z85:=sizeOf80,v85:=zeroValue80,t127:=underlying78,a127:=isAgg78,z127:=sizeOf78,v127:=zeroValue78,t143:=underlying290,a143:=isAgg290,z143:=sizeOf290,v143:=zeroValue290,t145:=underlying292,a145:=isAgg292,z145:=sizeOf292,v145:=zeroValue292,t167:=underlying184,a167:=isAgg184,z167:=sizeOf184,v167:=zeroValue184,t168:=underlying189,a168:=isAgg189,z168:=sizeOf189,v168:=zeroValue189,t171:=underlying192,a171:=isAgg192,z171:=sizeOf192,v171:=zeroValue192,t173:=underlying195,a173:=isAgg195,z173:=sizeOf195,v173:=zeroValue195,t175:=underlying186,a175:=isAgg186,z175:=sizeOf186,v175:=zeroValue186,t210:=underlying247,a210:=isAgg247,z210:=sizeOf247,v210:=zeroValue247,t212:=underlying249,a212:=isAgg249,z212:=sizeOf249,v212:=zeroValue249,t213:=underlying251,a213:=isAgg251,z213:=sizeOf251,t232:=underlying314,a232:=isAgg314,z232:=sizeOf314,v232:=zeroValue314,t233:=underlying315,a233:=isAgg315,z233:=sizeOf315,v233:=zeroValue315,g15:=ai,g16:=ai,g17:=ai,g18:=ai,g19:=ai,t80:=underlying51,a80:=isAgg51,z80:=sizeOf51,v80:=zeroValue51,i0:=ai,i2:=ai,i3:=ai,i4:=ai,i5:=ai,i9:=ai,i20:=ai,i21:=ai,i37:=ai,i46:=ai,i51:=ai,i53:=ai,i75:=ai,i76:=ai,i80:=ai,i85:=ai,i127:=ai,i143:=ai,i145:=ai,i167:=ai,i168:=ai,i171:=ai,i173:=ai,i175:=ai,i210:=ai,i212:=ai,i232:=ai,i233:=ai,m15:=ai,m16:=ai,m17:=ai,m18:=ai,m19:=ai,c0:=ai,c2:=ai,c3:=ai,c4:=ai,c5:=ai,c9:=ai,c20:=ai,c21:=ai,c37:=ai,c46:=ai,c51:=ai,c53:=ai,c75:=ai,c76:=ai,c80:=ai,c85:=ai,c127:=ai,c143:=ai,c145:=ai,c167:=ai,c168:=ai,c171:=ai,c173:=ai,c175:=ai,c210:=ai,c212:=ai,c213:=ai,c232:=ai,c233:=ai}
open Go.RowKit in theorem strconv_Atoi_ok(s:ByteArray)(j:s.size<=9223372036854775806)(v:Int)(h:Lib.atoiAll s.data.toList=.ok v)(w:World):Calls prog 128 #[.string s] w fun e w'=>e=.returned (.tuple #[.int .i64 v,.nilIface])/\(w'=w\/∃t,w'=Lib.bytesWorld w 5 t):=Any.strconv_Atoi_ok vE s j v h w
open Go.RowKit in theorem strconv_Atoi_syntax(s:ByteArray)(I:s.size<=281474976710656)(h:Lib.atoiAll s.data.toList=Lib.atoiAll [])(j:Value)(w:World)(E:w.cell? ⟨5,0,none⟩=some j)(C:j=.nilIface\/∃z u,j=.iface z u):Calls prog 128 #[.string s] w fun e w'=> ∃N,e=.returned (.tuple #[.int .i64 (0),.iface 189 (.pointer (some ⟨N,0,none⟩))])/\w.heap.size<=N/\w'.heap[N]? =some (.cells #[.string ⟨#[65,116,111,105]⟩,.string s,j] 247 (0,0))/\Below w.heap.size w w':=Any.strconv_Atoi_syntax vE s I h j w E C
open Go.RowKit in theorem strconv_Atoi_range(s:ByteArray)(I:s.size<=281474976710656)(h:Lib.atoiAll s.data.toList=.range)(j:Value)(w:World)(E:w.cell? ⟨6,0,none⟩=some j)(C:j=.nilIface\/∃z u,j=.iface z u):Calls prog 128 #[.string s] w fun e w'=> ∃N,e=.returned (.tuple #[.int .i64 (Lib.atoiSat s.data.toList),.iface 189 (.pointer (some ⟨N,0,none⟩))])/\w.heap.size<=N/\w'.heap[N]? =some (.cells #[.string ⟨#[65,116,111,105]⟩,.string s,j] 247 (0,0))/\Below w.heap.size w w':=Any.strconv_Atoi_range vE s I h j w E C
def zT:Go.Shelf.Ren:=⟨fun|143=>43|219=>91|217=>124|225=>125|224=>126|267=>127|266=>165|314=>166|n=>n,fun|9=>9|3=>3|4=>4|5=>5|46=>188|146=>254|51=>250|n=>n,fun|1=>3|n=>n⟩
theorem KT:Go.Proofs.Lays.n143 prog zT:={mixed:=ai,f143:=func43.trans (aO some ai),f217:=func124.trans (aO some ai),f219:=func91.trans (aO some ai),f224:=func126.trans (aO some ai),f225:=func125.trans (aO some ai),f266:=func165.trans (aO some ai),f267:=func127.trans (aO some ai),f314:=func166.trans (aO some ai),t3:=underlying3,a3:=isAgg3,z3:=sizeOf3,v3:=zeroValue3,t4:=underlying4,a4:=isAgg4,z4:=sizeOf4,v4:=zeroValue4,t5:=underlying5,a5:=isAgg5,z5:=sizeOf5,v5:=zeroValue5,t9:=underlying9,a9:=isAgg9,z9:=sizeOf9,v9:=zeroValue9,t46:=underlying188,a46:=isAgg188,z46:=sizeOf188,v46:=zeroValue188,t51:=underlying250,a51:=isAgg250,z51:=sizeOf250,v51:=zeroValue250,t146:=underlying254,a146:=isAgg254,z146:=sizeOf254,v146:=zeroValue254,g1:=ai}
open Go.RowKit Go.Lib in theorem strings_Index_one(s:ByteArray)(c:UInt8)(w:World):Calls prog 43 #[.string s,.string ⟨#[c]⟩] w fun e w'=>e=.returned (.int .i64 (Lib.indexByte s.data.toList c))/\w'=w:=Any.strings_Index_one KT s c w
def A7:Go.Shelf.Ren:=⟨fun|102=>9|209=>18|207=>44|n=>n,fun|9=>9|4=>4|3=>3|n=>n,fun|n=>n⟩
theorem LN:Go.Proofs.Lays.n102 prog A7:={mixed:=ai,f102:=func9.trans (aO some ai),f207:=func44.trans (aO some ai),f209:=func18.trans (aO some ai),t3:=underlying3,a3:=isAgg3,z3:=sizeOf3,v3:=zeroValue3,t4:=underlying4,a4:=isAgg4,z4:=sizeOf4,v4:=zeroValue4,t9:=underlying9,a9:=isAgg9,z9:=sizeOf9,v9:=zeroValue9}
open Go.RowKit Go.Lib in theorem strings_TrimSuffix(s p:ByteArray)(w:World)(hs:s.size<=9223372036854775807):Calls prog 9 #[.string s,.string p] w fun e w'=>e=.returned (.string ⟨(Lib.trimSuffix s.data.toList p.data.toList).toArray⟩)/\w'=w:=Any.strings_TrimSuffix LN s p w hs
def zM:Go.Shelf.Ren:=⟨fun|229=>22|n=>n,fun|9=>9|40=>74|31=>52|152=>126|3=>3|0=>0|4=>4|21=>21|154=>128|n=>n,fun|n=>n⟩
theorem Kv:Go.Proofs.Lays.n229 prog zM:={mixed:=ai,f229:=func22.trans (aO some ai),t0:=underlying0,a0:=isAgg0,z0:=sizeOf0,v0:=zeroValue0,t3:=underlying3,a3:=isAgg3,z3:=sizeOf3,v3:=zeroValue3,t4:=underlying4,a4:=isAgg4,z4:=sizeOf4,v4:=zeroValue4,t9:=underlying9,a9:=isAgg9,z9:=sizeOf9,v9:=zeroValue9,t21:=underlying21,a21:=isAgg21,z21:=sizeOf21,v21:=zeroValue21,t31:=underlying52,a31:=isAgg52,z31:=sizeOf52,v31:=zeroValue52,t40:=underlying74,a40:=isAgg74,z40:=sizeOf74,v40:=zeroValue74,t152:=underlying126,a152:=isAgg126,z152:=sizeOf126,v152:=zeroValue126,t154:=underlying128,a154:=isAgg128,z154:=sizeOf128,v154:=zeroValue128}
open Go.RowKit Go.Lib in theorem strings_FieldsFunc_runes(g:Nat)(lb:Array Value)(h: ∀args w,(callFunc g args).run prog w=.ok (.enter g args) w)(p:Nat->Bool)(s:ByteArray)(w:World)(hs:s.size<=4294967296)(hp:PredAtRunes prog g lb p w):Calls prog 22 #[.string s,.func (.func g) #[] lb] w fun e w'=> ∃A,e=.returned (.slice (some ⟨A,0,none⟩) (Lib.goFieldsP p s).length (Lib.goFieldsP p s).length)/\w.heap.size<=A/\w'.ownsRow w.heap.size 9 1 (.slice (some ⟨A,0,none⟩) (Lib.goFieldsP p s).length (Lib.goFieldsP p s).length) (Lib.goFieldsP p s).length ((Lib.goFieldsP p s).map Value.string)/\Below w.heap.size w w':=Any.strings_FieldsFunc_runes Kv g lb h p s w hs hp ai ai
theorem LB:Lays.n166 prog pB:={Dw with}
end Go.Proofs
namespace Go.Proofs
open Go.RowKit Go.Proofs.Tryz Go.Proofs.YtideefjnlakciaaGreatDoor
open Go.Shelf
def zg:Go.Shelf.Ren:=⟨fun|173=>28|246=>72|283=>116|284=>117|285=>118|286=>119|129=>158|317=>157|318=>159|319=>160|320=>161|337=>185|338=>186|n=>n,fun|2=>2|3=>3|9=>9|4=>4|171=>192|0=>0|53=>185|37=>40|5=>5|173=>195|212=>249|51=>250|20=>20|213=>251|46=>188|232=>314|233=>315|n=>n,fun|17=>7|18=>8|19=>9|n=>n⟩
theorem Ji:Go.Proofs.LaysM.n173 prog zg:={mixed:=ai,f129:=func158.trans (aO some ai),f173:=func28.trans (aO some ai),f246:=func72.trans (aO some ai),f283:=func116.trans (aO some ai),f284:=func117.trans (aO some ai),f285:=func118.trans (aO some ai),f286:=func119.trans (aO some ai),f317:=func157.trans (aO some ai),f318:=func159.trans (aO some ai),f319:=func160.trans (aO some ai),f320:=func161.trans (aO some ai),f337:=func185.trans (aO some ai),f338:=func186.trans (aO some ai),t0:=underlying0,a0:=isAgg0,z0:=sizeOf0,v0:=zeroValue0,t2:=underlying2,a2:=isAgg2,z2:=sizeOf2,v2:=zeroValue2,t3:=underlying3,a3:=isAgg3,z3:=sizeOf3,v3:=zeroValue3,t4:=underlying4,a4:=isAgg4,z4:=sizeOf4,v4:=zeroValue4,t5:=underlying5,a5:=isAgg5,z5:=sizeOf5,v5:=zeroValue5,t9:=underlying9,a9:=isAgg9,z9:=sizeOf9,v9:=zeroValue9,t20:=underlying20,a20:=isAgg20,z20:=sizeOf20,v20:=zeroValue20,t37:=underlying40,a37:=isAgg40,z37:=sizeOf40,v37:=zeroValue40,t46:=underlying188,a46:=isAgg188,z46:=sizeOf188,v46:=zeroValue188,t51:=underlying250,a51:=isAgg250,z51:=sizeOf250,v51:=zeroValue250,t53:=underlying185,a53:=isAgg185,z53:=sizeOf185,v53:=zeroValue185,t171:=underlying192,a171:=isAgg192,z171:=sizeOf192,v171:=zeroValue192,t173:=underlying195,a173:=isAgg195,z173:=sizeOf195,v173:=zeroValue195,t212:=underlying249,a212:=isAgg249,z212:=sizeOf249,v212:=zeroValue249,t213:=underlying251,a213:=isAgg251,z213:=sizeOf251,t232:=underlying314,a232:=isAgg314,z232:=sizeOf314,v232:=zeroValue314,t233:=underlying315,a233:=isAgg315,z233:=sizeOf315,v233:=zeroValue315,g17:=ai,g18:=ai,g19:=ai,i0:=ai,i2:=ai,i3:=ai,i4:=ai,i5:=ai,i9:=ai,i20:=ai,i37:=ai,i46:=ai,i51:=ai,i53:=ai,i171:=ai,i173:=ai,i212:=ai,i232:=ai,i233:=ai,m17:=ai,m18:=ai,m19:=ai}
open Go.RowKit Go.Sort Go.Lib in theorem strconv_FormatInt_10(n:Int)(h0:-9223372036854775808<=n)(h1:n<=9223372036854775807)(w:World)(h:Lib.TabIs prog w "internal/strconv.uint64pow10" .u64 Lib.pow10Tab):Calls prog 28 #[.int .i64 n,.int .i64 10] w fun e w'=>e=.returned (.string ⟨(Lib.itoa n).toArray⟩)/\∃k os,w'=grow (w.drewN k) os:=Any.strconv_FormatInt_10 Ji n h0 h1 w h
def yG:Go.Shelf.Ren:=⟨fun|174=>27|247=>70|245=>71|287=>111|279=>112|280=>113|281=>114|282=>115|321=>153|322=>154|316=>155|171=>21|205=>156|243=>46|246=>72|283=>116|284=>117|285=>118|286=>119|129=>158|317=>157|318=>159|319=>160|320=>161|337=>185|338=>186|n=>n,fun|9=>9|3=>3|2=>2|75=>48|85=>80|4=>4|167=>184|5=>5|53=>185|175=>186|46=>188|168=>189|37=>40|0=>0|210=>247|21=>21|127=>78|145=>292|143=>290|171=>192|173=>195|212=>249|51=>250|20=>20|213=>251|232=>314|233=>315|80=>51|n=>n,fun|15=>5|16=>6|17=>7|18=>8|19=>9|n=>n⟩
theorem wD:Go.Proofs.LaysC.n174 prog yG:={mixed:=ai,f129:=func158.trans (aO some ai),f171:=func21.trans (aO some ai),f174:=func27.trans (aO some ai),f205:=func156.trans (aO some ai),f243:=func46.trans (aO some ai),f245:=func71.trans (aO some ai),f246:=func72.trans (aO some ai),f247:=func70.trans (aO some ai),f279:=func112.trans (aO some ai),f280:=func113.trans (aO some ai),f281:=func114.trans (aO some ai),f282:=func115.trans (aO some ai),f283:=func116.trans (aO some ai),f284:=func117.trans (aO some ai),f285:=func118.trans (aO some ai),f286:=func119.trans (aO some ai),f287:=func111.trans (aO some ai),f316:=func155.trans (aO some ai),f317:=func157.trans (aO some ai),f318:=func159.trans (aO some ai),f319:=func160.trans (aO some ai),f320:=func161.trans (aO some ai),f321:=func153.trans (aO some ai),f322:=func154.trans (aO some ai),f337:=func185.trans (aO some ai),f338:=func186.trans (aO some ai),t0:=underlying0,a0:=isAgg0,z0:=sizeOf0,v0:=zeroValue0,t2:=underlying2,a2:=isAgg2,z2:=sizeOf2,v2:=zeroValue2,t3:=underlying3,a3:=isAgg3,z3:=sizeOf3,v3:=zeroValue3,t4:=underlying4,a4:=isAgg4,z4:=sizeOf4,v4:=zeroValue4,t5:=underlying5,a5:=isAgg5,z5:=sizeOf5,v5:=zeroValue5,t9:=underlying9,a9:=isAgg9,z9:=sizeOf9,v9:=zeroValue9,t20:=underlying20,a20:=isAgg20,z20:=sizeOf20,v20:=zeroValue20,t21:=underlying21,a21:=isAgg21,z21:=sizeOf21,v21:=zeroValue21,t37:=underlying40,a37:=isAgg40,z37:=sizeOf40,v37:=zeroValue40,t46:=underlying188,a46:=isAgg188,z46:=sizeOf188,v46:=zeroValue188,t51:=underlying250,a51:=isAgg250,z51:=sizeOf250,v51:=zeroValue250,t53:=underlying185,a53:=isAgg185,z53:=sizeOf185,v53:=zeroValue185,t75:=underlying48,a75:=isAgg48,z75:=sizeOf48,v75:=zeroValue48,t85:=underlying80,a85:=isAgg80,z85:=sizeOf80,v85:=zeroValue80,t127:=underlying78,a127:=isAgg78,z127:=sizeOf78,v127:=zeroValue78,t143:=underlying290,a143:=isAgg290,z143:=sizeOf290,v143:=zeroValue290,t145:=underlying292,a145:=isAgg292,z145:=sizeOf292,v145:=zeroValue292,t167:=underlying184,a167:=isAgg184,z167:=sizeOf184,v167:=zeroValue184,t168:=underlying189,a168:=isAgg189,z168:=sizeOf189,v168:=zeroValue189,t171:=underlying192,a171:=isAgg192,z171:=sizeOf192,v171:=zeroValue192,t173:=underlying195,a173:=isAgg195,z173:=sizeOf195,v173:=zeroValue195,t175:=underlying186,a175:=isAgg186,z175:=sizeOf186,v175:=zeroValue186,t210:=underlying247,a210:=isAgg247,z210:=sizeOf247,v210:=zeroValue247,t212:=underlying249,a212:=isAgg249,z212:=sizeOf249,v212:=zeroValue249,t213:=underlying251,a213:=isAgg251,z213:=sizeOf251,t232:=underlying314,a232:=isAgg314,z232:=sizeOf314,v232:=zeroValue314,t233:=underlying315,a233:=isAgg315,z233:=sizeOf315,v233:=zeroValue315,g15:=ai,g16:=ai,g17:=ai,g18:=ai,g19:=ai,t80:=underlying51,a80:=isAgg51,z80:=sizeOf51,v80:=zeroValue51,i0:=ai,i2:=ai,i3:=ai,i4:=ai,i5:=ai,i9:=ai,i20:=ai,i21:=ai,i37:=ai,i46:=ai,i51:=ai,i53:=ai,i75:=ai,i80:=ai,i85:=ai,i127:=ai,i143:=ai,i145:=ai,i167:=ai,i168:=ai,i171:=ai,i173:=ai,i175:=ai,i210:=ai,i212:=ai,i232:=ai,i233:=ai,m15:=ai,m16:=ai,m17:=ai,m18:=ai,m19:=ai,c0:=ai,c2:=ai,c3:=ai,c4:=ai,c5:=ai,c9:=ai,c20:=ai,c21:=ai,c37:=ai,c46:=ai,c51:=ai,c53:=ai,c75:=ai,c80:=ai,c85:=ai,c127:=ai,c143:=ai,c145:=ai,c167:=ai,c168:=ai,c171:=ai,c173:=ai,c175:=ai,c210:=ai,c212:=ai,c213:=ai,c232:=ai,c233:=ai}
open Go.RowKit in theorem strconv_ParseInt_10_at64_ok(s:ByteArray)(j:s.size<=9223372036854775806)(v:Int)(h:Lib.parseIntB 64 s.data.toList=.ok v)(w:World):Calls prog 27 #[.string s,.int .i64 10,.int .i64 64] w fun e w'=>e=.returned (.tuple #[.int .i64 v,.nilIface])/\(w'=w\/∃t,w'=Lib.bytesWorld w 5 t):=Any.strconv_ParseInt_10_at64_ok wD s j v h w
open Go.RowKit in theorem strconv_ParseInt_10_at64_syntax(s:ByteArray)(I:s.size<=281474976710656)(h:Lib.parseIntB 64 s.data.toList=Lib.parseIntB 64 [])(j:Value)(w:World)(E:w.cell? ⟨5,0,none⟩=some j)(C:j=.nilIface\/∃z u,j=.iface z u):Calls prog 27 #[.string s,.int .i64 10,.int .i64 64] w fun e w'=> ∃N,e=.returned (.tuple #[.int .i64 (0),.iface 189 (.pointer (some ⟨N,0,none⟩))])/\w.heap.size<=N/\w'.heap[N]? =some (.cells #[.string ⟨#[80,97,114,115,101,73,110,116]⟩,.string s,j] 247 (0,0))/\Below w.heap.size w w':=Any.strconv_ParseInt_10_at64_syntax wD s I h j w E C
open Go.RowKit in theorem strconv_ParseInt_10_at64_range(s:ByteArray)(I:s.size<=281474976710656)(h:Lib.parseIntB 64 s.data.toList=.range)(j:Value)(w:World)(E:w.cell? ⟨6,0,none⟩=some j)(C:j=.nilIface\/∃z u,j=.iface z u):Calls prog 27 #[.string s,.int .i64 10,.int .i64 64] w fun e w'=> ∃N,e=.returned (.tuple #[.int .i64 (Lib.intSat 64 s.data.toList),.iface 189 (.pointer (some ⟨N,0,none⟩))])/\w.heap.size<=N/\w'.heap[N]? =some (.cells #[.string ⟨#[80,97,114,115,101,73,110,116]⟩,.string s,j] 247 (0,0))/\Below w.heap.size w w':=Any.strconv_ParseInt_10_at64_range wD s I h j w E C
def Ah:Go.Shelf.Ren:=⟨fun|138=>69|195=>109|218=>110|143=>43|219=>91|217=>124|225=>125|224=>126|267=>127|266=>165|314=>166|n=>n,fun|9=>9|3=>3|4=>4|5=>5|0=>0|46=>188|146=>254|51=>250|n=>n,fun|1=>3|n=>n⟩
theorem MC:Go.Proofs.Lays.n138 prog Ah:={mixed:=ai,f138:=func69.trans (aO some ai),f143:=func43.trans (aO some ai),f195:=func109.trans (aO some ai),f217:=func124.trans (aO some ai),f218:=func110.trans (aO some ai),f219:=func91.trans (aO some ai),f224:=func126.trans (aO some ai),f225:=func125.trans (aO some ai),f266:=func165.trans (aO some ai),f267:=func127.trans (aO some ai),f314:=func166.trans (aO some ai),t0:=underlying0,a0:=isAgg0,z0:=sizeOf0,v0:=zeroValue0,t3:=underlying3,a3:=isAgg3,z3:=sizeOf3,v3:=zeroValue3,t4:=underlying4,a4:=isAgg4,z4:=sizeOf4,v4:=zeroValue4,t5:=underlying5,a5:=isAgg5,z5:=sizeOf5,v5:=zeroValue5,t9:=underlying9,a9:=isAgg9,z9:=sizeOf9,v9:=zeroValue9,t46:=underlying188,a46:=isAgg188,z46:=sizeOf188,v46:=zeroValue188,t51:=underlying250,a51:=isAgg250,z51:=sizeOf250,v51:=zeroValue250,t146:=underlying254,a146:=isAgg254,z146:=sizeOf254,v146:=zeroValue254,g1:=ai}
open Go.RowKit Go.Lib in theorem strings_Count_one(s:ByteArray)(c:UInt8)(w:World):Calls prog 69 #[.string s,.string ⟨#[c]⟩] w fun e w'=>e=.returned (.int .i64 (Lib.countByte s.data.toList c))/\w'=w:=Any.strings_Count_one MC s c w
def zU:Go.Shelf.Ren:=⟨fun|221=>26|268=>68|138=>69|143=>43|195=>109|197=>42|218=>110|219=>91|260=>90|217=>124|225=>125|224=>126|267=>127|266=>165|314=>166|n=>n,fun|9=>9|3=>3|31=>52|4=>4|0=>0|105=>121|21=>21|5=>5|46=>188|119=>199|139=>202|138=>201|146=>254|51=>250|n=>n,fun|1=>3|3=>1|4=>2|n=>n⟩
theorem KC:Go.Proofs.Lays.n221 prog zU:={mixed:=ai,f138:=func69.trans (aO some ai),f143:=func43.trans (aO some ai),f195:=func109.trans (aO some ai),f197:=func42.trans (aO some ai),f217:=func124.trans (aO some ai),f218:=func110.trans (aO some ai),f219:=func91.trans (aO some ai),f221:=func26.trans (aO some ai),f224:=func126.trans (aO some ai),f225:=func125.trans (aO some ai),f260:=func90.trans (aO some ai),f266:=func165.trans (aO some ai),f267:=func127.trans (aO some ai),f268:=func68.trans (aO some ai),f314:=func166.trans (aO some ai),t0:=underlying0,a0:=isAgg0,z0:=sizeOf0,v0:=zeroValue0,t3:=underlying3,a3:=isAgg3,z3:=sizeOf3,v3:=zeroValue3,t4:=underlying4,a4:=isAgg4,z4:=sizeOf4,v4:=zeroValue4,t5:=underlying5,a5:=isAgg5,z5:=sizeOf5,v5:=zeroValue5,t9:=underlying9,a9:=isAgg9,z9:=sizeOf9,v9:=zeroValue9,t21:=underlying21,a21:=isAgg21,z21:=sizeOf21,v21:=zeroValue21,t31:=underlying52,a31:=isAgg52,z31:=sizeOf52,v31:=zeroValue52,t46:=underlying188,a46:=isAgg188,z46:=sizeOf188,v46:=zeroValue188,t51:=underlying250,a51:=isAgg250,z51:=sizeOf250,v51:=zeroValue250,t105:=underlying121,a105:=isAgg121,z105:=sizeOf121,v105:=zeroValue121,t119:=underlying199,a119:=isAgg199,z119:=sizeOf199,t138:=underlying201,a138:=isAgg201,z138:=sizeOf201,v138:=zeroValue201,t139:=underlying202,a139:=isAgg202,z139:=sizeOf202,v139:=zeroValue202,t146:=underlying254,a146:=isAgg254,z146:=sizeOf254,v146:=zeroValue254,g1:=ai,g3:=ai,g4:=ai}
end Go.Proofs
namespace Go.Proofs.YtideefjnlakciaaGreatDoor
open Go.RowKit Go.Proofs.Tryz
abbrev kC(e:Int):List PanicEntry:=[{v:=.iface 70 (.agg #[.int .i64 e]),recovered:=false}]
theorem ku(w:World):Calls prog 25 #[.nilIface] w fun r w'=>r=.returned (.tuple #[])/\w'=w:=by go_enter func25,ntmps25;go_wp2_with fail;go_end0;exact⟨rfl,rfl⟩
theorem gV(e:Int)(w:World)(h:nQ w):Calls prog 25 #[.iface 61 (.int .i64 e)] w fun r w'=>r=.panicked (kC e)/\Below w.heap.size w w':=by have j:=eJ (uo e w h);clear h;go_enter func25,ntmps25;go_wp2_with fail;refine j.out.mono ?_;rintro r w1 ⟨rfl,hB⟩;go_wp2_with fail;exact⟨rfl,rfl,hB⟩
theorem Lu(e pl:Int)(g:Nat)(w:World)(h:nQ w)(hp:eN w g 259 #[.int .i64 e,.int .i64 pl]):Calls prog 25 #[.iface 258 (.pointer (some ⟨g,0,none⟩))] w fun r w'=>r=.panicked (kC e)/\Below w.heap.size w w':=by have j:=eJ (MN e pl g w h hp);clear h hp;go_enter func25,ntmps25;go_wp2_with fail;refine j.out.mono ?_;rintro r w1 ⟨rfl,hB⟩;go_wp2_with fail;exact⟨rfl,rfl,hB⟩
def PL(e:Int)(w:World)(r:Ending)(w':World):Prop:=(e=0/\r=.returned (.tuple #[])\/e≠0/\r=.panicked (kC e))/\Below w.heap.size w w'
theorem s9(e:Int)(w:World)(j:nQ w):Calls prog 25 #[gv e] w (PL e w):=by
 unfold gv;split
 ·rename_i h;exact(ku w).mono fun r w' ⟨h1,h2⟩=>by subst h2;exact⟨.inl ⟨h,h1⟩,au⟩
 ·rename_i h;exact(gV e w j).mono fun r w' ⟨h1,h2⟩=>⟨.inr ⟨h,h1⟩,h2⟩
theorem jd(w:World)(g:Nat)(v:Option Addr)(b:Bool)(e:w.cell? ⟨g,10,none⟩=some (.pointer v))(h:v.isSome=b):Calls prog 94 #[.pointer (some ⟨g,0,none⟩),.bool b] w fun r w'=>r=.returned (.tuple #[])/\w'=w:=by go_enter func94,ntmps94;go_wp2_with fail;go_end0;exact⟨rfl,rfl⟩
theorem iz(w:World)(e:nQ w)(g:Nat)(v:Option Addr)(b:Bool)(s:w.cell? ⟨g,10,none⟩=some (.pointer v))(h:v.isSome= !b):Calls prog 94 #[.pointer (some ⟨g,0,none⟩),.bool b] w fun r w'=>r=.panicked (kC 6)/\Below w.heap.size w w':=by have j:=eJ (gV 6 w e);clear e;go_enter func94,ntmps94;cases v<;>cases b<;>simp at h;all_goals go_wp2_with fail;refine j.out.mono ?_;rintro r w1 ⟨rfl,hB⟩;go_wp2_with fail;exact⟨rfl,rfl,hB⟩
structure gY (w:World):Prop where
 err:nQ w
 QJ:Lib.TabIs prog w "internal/strconv.uint64pow10" .u64 Lib.pow10Tab
 Qt: ∃ev,w.cell? ⟨5,0,none⟩=some ev∧(ev=.nilIface∨∃te pe,ev=.iface te pe)
 Qg: ∃ev,w.cell? ⟨6,0,none⟩=some ev∧(ev=.nilIface∨∃te pe,ev=.iface te pe)
 wR:10≤w.heap.size
theorem gY.below {B:Nat} {w w':World} (h:gY w) (e:10≤B) (hB:Below B w w'):gY w':=by
 refine⟨(hB.cell (p:=⟨4,0,none⟩) (aN aj e)).trans h.err,var?_below hB (by kernel_rfl:prog.globalNamed "internal/strconv.uint64pow10" =some 7) ah h.QJ, ?_, ?_,aK h.wR hB.size⟩
 ·obtain⟨j,h1,h2⟩:=h.Qt
  exact⟨j,(hB.cell (p:=⟨5,0,none⟩) (aN aj e)).trans h1,h2⟩
 ·obtain⟨j,h1,h2⟩:=h.Qg
  exact⟨j,(hB.cell (p:=⟨6,0,none⟩) (aN aj e)).trans h1,h2⟩
theorem gY.next{w w':World}(h:gY w)(hB:Below w.heap.size w w'):gY w':=h.below h.wR hB
theorem ra{l:List UInt8}{v:Int}(h:Lib.atoiAll l=.ok v):-9223372036854775808<=v/\v<=9223372036854775807:=by
 unfold Lib.atoiAll at h;split at h
 ·cases h
 ·dsimp only at h;split at h
  ·cases h
  ·cases h
  ·split at h
   ·cases h
   ·split at h
    ·cases h
    ·injection h with h;split at h<;>omega
theorem JE(s:ByteArray)(w:World)(u:gY w)(hs:s.size<=281474976710656):Calls prog 128 #[.string s] w fun e w'=>((∃v,Lib.atoiAll s.data.toList=.ok v/\e=.returned (.tuple #[.int .i64 v,.nilIface]))\/((∀v,Lib.atoiAll s.data.toList≠ .ok v)/\∃k C z,e=.returned (.tuple #[.int .i64 k,.iface C z])))/\Below w.heap.size w w':=by
 rcases h:Lib.atoiAll s.data.toList with v|_|_
 ·refine(strconv_Atoi_ok s ah v h w).mono ?_;rintro e w' ⟨rfl,h2⟩;refine⟨.inl ⟨v,rfl,rfl⟩, ?_⟩;rcases h2 with rfl|⟨t,rfl⟩
  ·exact au
  ·exact Lib.bytesWorld_below w _ t
 ·obtain⟨j,h1,h2⟩:=u.Qt;refine(strconv_Atoi_syntax s hs h j w h1 h2).mono ?_;rintro e w' ⟨N,rfl,_,_,h4⟩;exact⟨.inr ⟨fun v=>ak,_,_,_,rfl⟩,h4⟩
 ·obtain⟨j,h1,h2⟩:=u.Qg;refine(strconv_Atoi_range s hs h j w h1 h2).mono ?_;rintro e w' ⟨N,rfl,_,_,h4⟩;exact⟨.inr ⟨fun v=>ak,_,_,_,rfl⟩,h4⟩
theorem jz(n:Int)(w:World)(h:gY w)(h0:-9223372036854775808<=n)(h1:n<=9223372036854775807):Calls prog 21 #[.int .i64 n] w fun e w'=>e=.returned (.string (fR n))/\Below w.heap.size w w':=by refine(strconv_Itoa n h0 h1 w h.QJ).mono ?_;rintro e w' ⟨rfl,k,os,rfl⟩;exact⟨rfl,Lib.below_grow _ _ (ar) k os⟩
def Kb(w:World)(A:Option Addr)(ws:List ByteArray):Prop:= ∀j,j<ws.length->∃b off,A=some ⟨b,off,none⟩/\w.cell? ⟨b,off+j,none⟩=some (.string (ws.getD j ⟨#[]⟩))
theorem Kb.below{B:Nat}{w w':World}{A:Option Addr}{ws:List ByteArray}(h:Kb w A ws)(hw:w.heap.size<=B)(hB:Below B w w'):Kb w' A ws:=fun j u=>by obtain⟨b,off,e,s⟩:=h j u;exact⟨b,off,e,(hB.cell (p:=⟨b,off+j,none⟩) (aN (aG _ _ s) hw)).trans s⟩
theorem wF (s : ByteArray) : ∀ l : List ByteArray, gI (l ++ [s]) = match gI l with | none => none | some xs => (lK s).map (fun k => xs ++ [k])
 | [] => by
  show gI [s] = _
  unfold gI
  cases lK s <;> rfl
 | x :: l => by
  rw [bE, gI, wF s l]
  cases e : lK x with
  | none => rw [gI, e]
  | some k =>
   rw [gI, e]
   cases gI l with
   | none => rfl
   | some xs => cases lK s <;> rfl
theorem re{s:ByteArray}(h:lK s=none)(r:List ByteArray): ∀l:List ByteArray,gI (l++s::r)=none|[]=>by show gI (s::r)=none;rw[gI,h]|x::l=>by rw[bE,gI,re h r l];cases lK x<;>rfl
theorem Ho{a b:ByteArray}(h:a≠b):(a.toList==b.toList)=false:=by rw[aV];intro e;rw[ByteArray.toList_eq,ByteArray.toList_eq] at e;exact h (Go.WideShapes.bytes_inj e)
theorem va{ws:List ByteArray}{k:Nat}(hk:k<ws.length):ws.take (k+1)=ws.take k++[ws.getD k ⟨#[]⟩]:=by rw[cE,aL,aF hk];rfl
theorem Gd {ws:List ByteArray} {k:Nat} (hk:k<ws.length):ws=ws.take k++ws.getD k ⟨#[]⟩::ws.drop (k+1):=by
 conv=>lhs;rw[←dE k ws]
 rw[cy hk,aL,aF hk]
 rfl
theorem yl{w:World}{g:Nat}{t:TypeId}{x:Value}(h:eN w g t #[x]): ∀j u,[x][j]? =some u->w.cell? ((⟨g,0,none⟩:Addr).add j)=some u:=by intro j u hu;cases j with|zero=>simp at hu;subst hu;exact h.cells1.1|succ j=>simp at hu
theorem jq{w w':World}{base size n:Nat}{e:TypeId}{v:Value}{xs:List Value}(h:w.ownsRow base e size v n xs)(hB:Below w.heap.size w w'):w'.ownsRow base e size v n xs:=by
 obtain⟨hl,h|⟨g,cap,cur,s,u,j,r⟩⟩:=h
 ·exact⟨hl,.inl h⟩
 ·exact⟨hl,.inr ⟨g,cap,cur,s,u,(hB.block g (aS.1 j).1).trans j,r⟩⟩
theorem tD(A:Option Addr)(c:Nat)(ws:List ByteArray)(n:Int)(w:World)(a4:gY w)(a3:Kb w A ws)(hl:ws.length<=100000)(hs: ∀j,(ws.getD j ⟨#[]⟩).size<=100000)(hn:-100<=n)(b6:n<=100):Calls prog 92 #[.slice A ws.length c,.int .i64 n] w fun e w'=>((eU ws n=none/\e=.panicked (kC 3))\/∃l v,eU ws n=some l/\e=.returned v/\w'.ownsRow w.heap.size 3 1 v l.length (l.map (Value.int .i64)))/\Below w.heap.size w w':=by
 obtain⟨q,hq⟩:=ab ws.length;have K:=eJ hq;have al:=eJ a4;have bf:=eJ a3;have bb:=eJ hs;have U:=eJ (gV 3);rw[hq] at hl⊢;have b5:wrap64 (-n)=-n:=by unfold wrap64;omega
 clear hq a4 a3 hs;by_cases T:(0<=n/\(q:Int)≠n)\/(q:Int)< -n
 ·have z:Hid (eU ws n=none):=eJ (by unfold eU;rw[K.out,aM T]);by_cases h0:0<=n
  ·have d0:decide (0<=n)=true:=aJ h0;have d1:((q:Int) !=n)=true:=dP.2 ah;have d2: ¬(q:Int)=n:=ah;clear T;go_enter func92,ntmps92;go_wp2_with fail;refine(U.out w al.out.err).mono ?_;rintro r w1 ⟨rfl,hB⟩;go_wp2_with fail;exact⟨rfl,.inl ⟨z.out,rfl⟩,hB⟩
  ·have d0:decide (0<=n)=false:=aH h0;have d1:decide ((q:Int)< -n)=true:=aJ ah;clear T;go_enter func92,ntmps92;go_wp2_with fail;refine(U.out w al.out.err).mono ?_;rintro r w1 ⟨rfl,hB⟩;go_wp2_with fail;exact⟨rfl,.inl ⟨z.out,rfl⟩,hB⟩
 ·have z:Hid (eU ws n=gI ws):=eJ (by unfold eU;rw[K.out,aI T]);have d1:decide ((q:Int)< -n)=false:=aH ah;rw[z.out];clear z;obtain⟨i0,hi,be,bz,a8⟩:=eR kz;have fin: ∀d0,decide (0<=n)=d0->(d0=true->(q:Int)=n)->Calls prog 92 #[.slice A q c,.int .i64 n] w fun e w'=>((gI ws=none/\e=.panicked (kC 3))\/∃l v,gI ws=some l/\e=.returned v/\w'.ownsRow w.heap.size 3 1 v l.length (l.map (Value.int .i64)))/\Below w.heap.size w w':=by
   intro d0 b8 ad;have d2:d0=true->((q:Int) !=n)=false:=fun h=>bne_eq_false_iff_eq.2 (ad h);have d3:d0=true->decide ((q:Int)=n)=true:=fun h=>aJ (ad h);clear T ad;go_enter func92,ntmps92;cases d0;all_goals
    simp only[forall_const,reduceCtorEq,false_implies,Bool.true_eq_false] at d2 d3;go_wp2_with fail;go_loopw [5,29] (fun v5 i wr=> ∃(k:Nat) (l:List Int),k<=q/\i=.int .i64 k/\Hid (gI (ws.take k)=some l)/\l.length=k/\Hid (wr.ownsRow w.heap.size 3 1 v5 k (l.map (Value.int .i64)))/\Hid (Below w.heap.size w wr)) (fun _ i _=>q-(intOf i).toNat);case atStart=>exact⟨0,[],ah,rfl,eJ rfl,rfl,eJ (bT _ _ _ _),eJ (au)⟩
    case round=>
     obtain⟨k,l,hk,rfl,ao,ac,a6,z⟩:=hrel;by_cases aa:k<q
     ·obtain⟨b,off,rfl,a9⟩:=(bf.out.below (ar) z.out) k (by rw[K.out];exact aa);obtain⟨s,hs⟩:=ab (ws.getD k ⟨#[]⟩);have bj:=bb.out k;rw[hs] at a9 bj;have a7:=eJ (al.out.next z.out);have bt:=eJ (JE s wr a7.out ah);have b2:Hid (ws.take (k+1)=ws.take k++[s]):=eJ (by rw[va (by rw[K.out];exact aa),hs]);have ap:Hid (ws=ws.take k++s::ws.drop (k+1)):=eJ (by have:=Gd (ws:=ws) (k:=k) (by rw[K.out];exact aa);rw[hs] at this;exact this);have bw:=eJ ac;clear hs ac;go_wp2_with fail;refine bt.out.mono ?_;rintro r w2 ⟨h,X⟩;have O:=eJ (z.out.trans (X.mono z.out.size));have bn:=eJ (jq a6.out X);have Z:=eJ (a7.out.next X);clear X;rcases h with ⟨v,J,rfl⟩|⟨J,b4,b3,b7,rfl⟩
      ·obtain⟨bk,bv⟩:=ra J;have a0:=eJ J;have a2:=eJ (jz v w2 Z.out bk bv);clear J;by_cases he:fR v=s
       ·have C:Hid (gI (ws.take (k+1))=some (l++[v])):=eJ (by
         have h1:lK s=some v:=by unfold lK;rw[a0.out];exact aM he
         rw[b2.out,wF,ao.out,h1];rfl)
        have bq:((fR v).toList==s.toList)=true:=by rw[he];exact beq_self_eq_true _
        clear he;go_wp2_with fail;refine a2.out.mono ?_;rintro r w3 ⟨rfl,E⟩;have I:=eJ (O.out.trans (E.mono O.out.size));have a5:=eJ ((jq bn.out E).alloc (.cells #[.int .i64 v] 3));clear E;go_wp2_with (at_builtin;go_must (refine bD _ rfl (.tmp 48) (.tmp 50) _ rfl w.heap.size 3 i0 _ 1 8 underlying33 hi be bz a8 rfl aj u5 k (l.map (Value.int .i64)) rfl (by exact a5.out) ⟨w3.heap.size,0,none⟩ 1 1 [.int .i64 v] rfl rfl (by exact yl (eN.new w3 3 #[.int .i64 v])) (by intro u hu;simp at hu;subst hu;rfl) (by simp[maxLen];omega) ah (by have:=I.out.size;simp;omega) ?_);intro v8 w8 aA am _;have bx:=eJ aA;have bi:=eJ am;clear aA am);go_roundw;case rel=>exact⟨k+1,l++[v],ah,aq,C,by rw[aT,bw.out];rfl,eJ (by simpa using bx.out),eJ ((I.out.alloc I.out.size _).grown bi.out (by have:=I.out.size;simp;omega) (fun j e=>(a5.out.lt j e).1))⟩
        case measure=>simp[intOf];omega
       ·have C:Hid (gI ws=none):=eJ (by
         have h1:lK s=none:=by unfold lK;rw[a0.out];exact aI he
         rw[ap.out];exact re h1 _ _)
        have bq:((fR v).toList==s.toList)=false:=Ho he;clear he;go_wp2_with fail;refine a2.out.mono ?_;rintro r w3 ⟨rfl,E⟩;have I:=eJ (O.out.trans (E.mono O.out.size));have bl:=eJ (Z.out.next E);clear E;go_wp2_with fail;refine(U.out w3 bl.out.err).mono ?_;rintro r w4 ⟨rfl,Y⟩;go_wp2_with fail;exact⟨rfl,.inl ⟨C.out,rfl⟩,I.out.trans (Y.mono I.out.size)⟩
      ·have C:Hid (gI ws=none):=eJ (by
        have h1:lK s=none:=by
         unfold lK;split
         ·rename_i bm bd;exact absurd bd (J bm)
         ·rfl
        rw[ap.out];exact re h1 _ _)
       clear J;go_wp2_with fail;refine(U.out w2 Z.out.err).mono ?_;rintro r w4 ⟨rfl,Y⟩;go_wp2_with fail;exact⟨rfl,.inl ⟨C.out,rfl⟩,O.out.trans (Y.mono O.out.size)⟩
     ·obtain rfl:k=q:=ah;have C:Hid (gI ws=some l):=eJ (by have:=ao.out;rw[bC (by rw[K.out];exact ar)] at this;exact this);go_wp2_with fail;go_ret;exact⟨.inr ⟨l,_,C.out,rfl,by rw[ac];exact a6.out⟩,z.out⟩
  rcases Bool.eq_false_or_eq_true (decide (0<=n)) with h0|h0
  ·exact fin true h0 (fun _=>by have:=dv h0;omega)
  ·exact fin false h0 (fun h=>by cases h)
theorem mP{w:World}{base n g i:Nat}{cp:Nat}{e:TypeId}{xs:List Value}(h:w.ownsRow base e 1 (.slice (some ⟨g,0,none⟩) n cp) n xs)(hi:i<n):w.cell? ⟨g,i,none⟩=xs[i]? :=by
 rcases h.2 with ⟨h1,_⟩|⟨g2,cap,cur,s,C,j,z,hm,hs,u⟩
 ·cases h1
 ·cases s;rw[dC w g i cur e (0,0) j,<-u,dh,aM ah];simp
theorem sP:(prog.info? 9).map (fun i=>(i.zero,i.size,i.bytes))=some (some (.string ⟨#[]⟩),1,16):=ai
theorem sF: ∀{l:List Int},(∀x∈l,-9223372036854775808<=x/\x<=9223372036854775807)->(Lib.join (l.map Lib.itoa) [32]).length<=22*l.length
 |[],_=>by simp[Lib.join]
 |[x],h=>by have:=Lib.itoa_length_le x (h x ak).1 (h x ak).2;simp[Lib.join,List.intercalate];omega
 |x::y::l,h=>by
  have j:=sF (l:=y::l) (fun z s=>h z (by simp[s]));have:=Lib.itoa_length_le x (h x ak).1 (h x ak).2;have e:Lib.join ((x::y::l).map Lib.itoa) [32]=Lib.itoa x++32::Lib.join ((y::l).map Lib.itoa) [32]:=by simp[Lib.join,List.intercalate]
  rw[e,aT,aP];simp only[aP] at j⊢;omega
theorem JC(A:Option Addr)(c:Nat)(l:List Int)(w:World)(aa:gY w)(al:kY w A l)(h0:0<l.length)(hl:l.length<=1000)(T: ∀x∈l,-9223372036854775808<=x/\x<=9223372036854775807):Calls prog 95 #[.slice A l.length c] w fun e w'=>e=.returned (.string (sw l))/\Below w.heap.size w w':=by
 obtain⟨q,hq⟩:=ab l.length;have s:=eJ hq;have a9:=eJ aa;have a0:=eJ al;have am:=eJ T;have a5:=eJ (sF T);rw[hq] at hl h0⊢;obtain⟨i0,hi,a2,a8,ap⟩:=eR sP;clear hq aa al T;go_enter func95,ntmps95;go_wp2_with fail;go_loopw [3,8] (fun v3 i wr=> ∃k:Nat,k<=q/\i=.int .i64 k/\Hid (wr.ownsRow w.heap.size 9 1 v3 k (((l.take k).map fR).map Value.string))/\Hid (Below w.heap.size w wr)) (fun _ i _=>q-(intOf i).toNat);case atStart=>exact⟨0,ah,rfl,eJ (bT _ _ _ _),eJ (au)⟩
 case round=>
  obtain⟨k,hk,rfl,ao,C⟩:=hrel;by_cases I:k<q
  ·obtain⟨b,off,rfl,aA⟩:=(a0.out.below (ar) C.out) k (by rw[s.out];exact I);obtain⟨x,h⟩:=ab (l.getD k 0);rw[h] at aA;have O:x∈l:=by rw[<-h,aL,aF (by rw[s.out];exact I)];exact cI _
   have a4:=eJ (jz x wr (a9.out.next C.out) (am.out x O).1 (am.out x O).2);have bd:Hid (((l.take (k+1)).map fR).map Value.string=((l.take k).map fR).map Value.string++[.string (fR x)]):=eJ (by rw[cE,aF (by rw[s.out];exact I)];rw[aL,aF (by rw[s.out];exact I),cB] at h;rw[h];simp);clear h O;go_wp2_with fail;refine a4.out.mono ?_;rintro r w2 ⟨rfl,K⟩;have J:=eJ (C.out.trans (K.mono C.out.size));have Z:=eJ ((jq ao.out K).alloc (.cells #[.string (fR x)] 9));clear K;go_wp2_with (at_builtin;go_must (refine bD _ rfl (.tmp 12) (.tmp 15) _ rfl w.heap.size 9 i0 _ 1 16 underlying52 hi a2 a8 ap rfl aj u3 k (((l.take k).map fR).map Value.string) rfl (by exact Z.out) ⟨w2.heap.size,0,none⟩ 1 1 [.string (fR x)] rfl rfl (by exact yl (eN.new w2 9 #[.string (fR x)])) (by intro u hu;simp at hu;subst hu;rfl) (by simp[maxLen];omega) ah (by have:=J.out.size;simp;omega) ?_);intro v8 w8 Y U _;have a7:=eJ Y;have a3:=eJ U;clear Y U);go_roundw;case rel=>exact⟨k+1,ah,aq,eJ (by rw[bd.out];simpa using a7.out),eJ ((J.out.alloc J.out.size _).grown a3.out (by have:=J.out.size;simp;omega) (fun j e=>(Z.out.lt j e).1))⟩
   case measure=>simp[intOf];omega
  ·obtain rfl:k=q:=ah;have E:=ao.out;rw[bC (by rw[s.out];exact ar)] at E;obtain⟨gk,X,cur,rfl,h1,h2,h3,h4,h5,h6⟩:=fO E h0;have bb:Hid (Calls prog 40 #[.slice (some ⟨gk,0,none⟩) k X,.string ⟨#[32]⟩] wr fun e w'=>e=.returned (.string (sw l))/\Below wr.heap.size wr w'):=eJ (by
    have hlen:(l.map fR).length=k:=by rw[aY,s.out]
    have ad:(l.map fR).map (·.data.toList)=l.map Lib.itoa:=by rw[eH];apply cw;intro z _;rfl
    have:=strings_Join gk 0 X (l.map fR) ⟨#[32]⟩ wr (fun j x h=>by have:=(mP E (i:=j) (by have:=(aQ.1 h).1;omega));rw[bB,this,bp,h];rfl) (E.lt gk rfl).2 (by rw[hlen];omega) (by rw[hlen];exact h3) (by rw[ad];have:=a5.out;rw[s.out] at this;show(Lib.join (l.map Lib.itoa) [32]).length<=_;omega);rw[hlen,ad] at this;exact this)
   clear h1 h2 h3 h4 h5 h6 E;go_wp2_with fail;refine bb.out.mono ?_;rintro r w3 ⟨rfl,ac⟩;have a6:=eJ (C.out.trans (ac.mono C.out.size));clear ac;go_wp2_with fail;go_ret;exact⟨rfl,a6.out⟩
end Go.Proofs.YtideefjnlakciaaGreatDoor
