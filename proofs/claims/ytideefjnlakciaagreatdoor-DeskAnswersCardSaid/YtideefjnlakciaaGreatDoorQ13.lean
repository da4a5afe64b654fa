/- The append of a slice that may be empty, whose numbers lie anywhere; what is wrong with what a cluster is made of; plain facts; conditions: none. -/
import Derived.Test.YtideefjnlakciaaGreatDoorQ00
import Derived.Test.YtideefjnlakciaaGreatDoorQ01
import Derived.Test.YtideefjnlakciaaGreatDoorQ12
import Derived.Test.YtideefjnlakciaaGreatDoorQ04
import Derived.Test.YtideefjnlakciaaGreatDoorQ02
import Derived.Test.YtideefjnlakciaaGreatDoorQ11
import Derived.Lib.Strings
import Derived.Lib.IndexLaws
import Derived.IntWalk
import Derived.Lib.AtoiAll
import Derived.Lib.ItoaNum
import Derived.Lib.Join
import Derived.Lib.FieldsP
set_option maxRecDepth 1000000
set_option maxHeartbeats 20000000
set_option linter.unusedVariables false
set_option linter.unusedSimpArgs false
namespace Go.Proofs.YtideefjnlakciaaGreatDoor
open Go.RowKit Go.Proofs.Tryz
section
variable {P:Program}
theorem ve(w:World){o:Oper}{a:Act}{K:Act->World->Prop}{Q:Exit->Act->World->Prop}(s x:Operand)(t:TypeId)(T:o.op=.call {callee:=.builtin .append,args:= #[s,x],argTypes:= #[t,t]})(base:Nat)(e:TypeId)(i:TypeInfo)(z:Value)(bytes:Nat)(C:P.underlying t=some (.slice e))(hi:P.info? e=some i)(U:i.zero=some z)(ad:i.size=1)(al:i.bytes=bytes)(a0:z.cells.size=1)(v:Value)(n:Nat)(xs:List Value)(hs:a.eval s=v)(I:w.ownsRow base e 1 v n xs)(A:Option Addr)(cap ln:Nat)(zs:List Int)(X:zs.length=ln)(J:a.eval x=.slice A ln cap)(hle:ln<=cap)(O:kY w A zs)(h63:n+ln<=maxLen)(ap:(n+ln)*bytes<=140737488355328)(am:base<=w.heap.size)(h: ∀v' w',w'.ownsRow base e 1 v' (n+ln) (xs++zs.map (Value.int .i64))->w.grownBy w' v.ownBlock->(v'.ownBlock=v.ownBlock\/∀k,v'.ownBlock=some k->w.heap.size<=k)->K (a.put o.dst v') w'):o.wp P a w K Q:=by
 subst X;rcases Nat.eq_zero_or_pos zs.length with h0|h0
 ·have Y:zs=[]:=bN h0;subst Y;have aA:Src P i.size t (.slice A 0 cap) 0 [] w:=by
   cases A with
    |none=>
     rcases Nat.eq_zero_or_pos cap with h1|h1
     ·subst h1;exact Src.ofNil w C 0
     ·exact Src.ofNil w C cap
    |some a3=>exact Src.ofSlice w C a3 0 cap [] ak (fun j u hu=>by simp at hu) (fun u hu=>by cases hu)
  have a2: ∃b sl E,v=.slice b sl E/\sl<=E:=by
   rcases I.2 with ⟨rfl,_⟩|⟨g,cap,cur,rfl,_,_,hn,_⟩
   ·exact⟨none,0,0,rfl,ar⟩
   ·exact⟨_,_,_,rfl,hn⟩
  obtain⟨b,sl,E,rfl,aa⟩:=a2;have Z:=run_append_nothing w t t o.type e i C hi b sl E aa (.slice A 0 cap) aA;unfold Oper.wp execOp;simp only[bh] at J;simp only[T,resolve,invoke,builtin,bZ,dW,bG,List.map_toArray,cK,List.map_nil,hs,J,Z];exact h _ _ (by simpa using I) (World.grownBy.refl w _) (.inl rfl)
 ·obtain⟨ao,ac,rfl,-⟩:=O 0 h0;have h1:=AZ O (ar) (Below.refl w.heap.size w);have:=fI (P:=P) (Q:=Q) (K:=K) w s x t T base e i z 1 bytes C hi U ad al a0 aj v n xs hs I ⟨ao,ac,none⟩ zs.length cap (zs.map (Value.int .i64)) J ak h1 (by intro u hu;obtain⟨q,_,rfl⟩:=cX.1 hu;rfl) h63 ap am h;exact this
theorem nT(w:World){ops:Array Oper}{o:Oper}{a:Act}{K:Act->World->Prop}{Q:Exit->Act->World->Prop}{E:Prop}(u:o.guard=none)(s x:Operand)(t:TypeId)(O:o.op=.call {callee:=.builtin .append,args:= #[s,x],argTypes:= #[t,t]})(base:Nat)(e:TypeId)(i:TypeInfo)(z:Value)(bytes:Nat)(U:P.underlying t=some (.slice e))(hi:P.info? e=some i)(j:i.zero=some z)(X:i.size=1)(I:i.bytes=bytes)(aa:z.cells.size=1)(v:Value)(n:Nat)(xs:List Value)(hs:a.eval s=v)(Y:w.ownsRow base e 1 v n xs)(A:Option Addr)(cap ln:Nat)(zs:List Int)(T:zs.length=ln)(ac:a.eval x=.slice A ln cap)(hle:ln<=cap)(C:kY w A zs)(h63:n+ln<=maxLen)(Z:(n+ln)*bytes<=140737488355328)(J:base<=w.heap.size)(h: ∀v' w',w'.ownsRow base e 1 v' (n+ln) (xs++zs.map (Value.int .i64))->w.grownBy w' v.ownBlock->(v'.ownBlock=v.ownBlock\/∀k,v'.ownBlock=some k->w.heap.size<=k)->K (a.put o.dst v') w'):if Region.wanted o (yielded ops a.tmps)=true then Oper.wp P o a w K Q else E:=by
 have hw:Region.wanted o (yielded ops a.tmps)=true:=by simp[Region.wanted,u]
 rw[aM hw];exact ve w s x t O base e i z bytes U hi j X I aa v n xs hs Y A cap ln zs T ac hle C h63 Z J h
end
def tM(p:Pl)(f0:Int):Prop:= ∃fy:Nat,f0=(fy:Int)/\fy<2^p.nd.toNat/\(jY fy p.nd.toNat:Int)<=p.fa
def EB(p:Pl)(f0:Int)(zs:List Int):Prop:=jx zs=false/\ny f0.toNat zs p.nd.toNat p.sk
def uT(p:Pl)(f0:Int)(zs:List Int)(e:Int):Prop:=(¬tM p f0/\e=1)\/(tM p f0/\zs.length≠p.nd.toNat/\e=7)\/(tM p f0/\zs.length=p.nd.toNat/\¬EB p f0 zs/\e=2)\/(tM p f0/\zs.length=p.nd.toNat/\EB p f0 zs/\e=0)
theorem od(p:Pl)(f0:Int)(zs:List Int): ∃e,uT p f0 zs e:=by
 by_cases h1:tM p f0
 ·by_cases h2:zs.length=p.nd.toNat
  ·by_cases h3:EB p f0 zs
   ·exact⟨0,.inr (.inr (.inr ⟨h1,h2,h3,rfl⟩))⟩
   ·exact⟨2,.inr (.inr (.inl ⟨h1,h2,h3,rfl⟩))⟩
  ·exact⟨7,.inr (.inl ⟨h1,h2,rfl⟩)⟩
 ·exact⟨1,.inl ⟨h1,rfl⟩⟩
theorem uT.fe{p:Pl}{f0:Int}{zs:List Int}(h:uT p f0 zs 0):tM p f0/\zs.length=p.nd.toNat/\EB p f0 zs:=by
 rcases h with ⟨_,h⟩|⟨_,_,h⟩|⟨_,_,_,h⟩|⟨h1,h2,h3,_⟩
 ·cases h
 ·cases h
 ·cases h
 ·exact⟨h1,h2,h3⟩
theorem qd{fy:Nat}{zs:List Int}{i:Nat}(h:fu fy i=false): ∀{n:Nat},i<n->zs.getD i 0∈fP fy zs n
 |0,hi=>absurd hi ah
 |n+1,hi=>by
  rcases bW i n with h1|h1
  ·have e:=qd (zs:=zs) h h1;cases j:fu fy n
   ·rw[qy j];exact List.mem_append_left _ e
   ·rw[pE j];exact e
  ·obtain rfl:i=n:=ah;rw[qy h];exact List.mem_append_right _ ak
theorem Jw{fy:Nat}{zs:List Int}{n:Nat}{d a b:Int}(h: ¬ny fy zs n d)(E:rW (fP fy zs n) a)(z:rM (fP fy zs n) b):d<a-b:=by unfold ny at h;simp only[Classical.not_forall] at h;obtain⟨i,j,hi,I,h1,h2,h3⟩:=h;have m1:zs.getD i 0∈fP fy zs n:=qd h1 hi;have m2:zs.getD j 0∈fP fy zs n:=qd h2 I;obtain⟨x,s,C⟩:=bJ.1 m1;obtain⟨y,e,u⟩:=bJ.1 m2;have g1:=E.2 x s;have g2:=z.2 y e;rw[aL,aF s,cB,C] at g1;rw[aL,aF e,cB,u] at g2;omega
def vM:List UInt8->List (List UInt8)|[]=>[[]]|x::l=>if x=10 then []::vM l else match vM l with|[]=>[[x]]|y::r=>(x::y)::r
theorem uN: ∀l:List UInt8,∃y r,vM l=y::r
 |[]=>⟨_,_,rfl⟩
 |x::l=>by
  unfold vM;split
  ·exact⟨_,_,rfl⟩
  ·obtain⟨y,r,h⟩:=uN l;rw[h];exact⟨_,_,rfl⟩
theorem DT(b:List UInt8): ∀a:List UInt8,vM (a++10::b)=vM a++vM b
 |[]=>by simp[vM]
 |x::a=>by
  have j:=DT b a;obtain⟨y,r,h⟩:=uN a;rw[bE];by_cases e:x=10
  ·subst e;rw[vM,aM rfl,j,vM,aM rfl];rfl
  ·rw[vM,aI e,j,vM,aI e,h];rfl
theorem Ci: ∀{l:List UInt8},(10:UInt8)∉l->vM l=[l]|[],_=>rfl|x::l,h=>by have h1: ¬x=10:=fun e=>h (by simp[e]);rw[vM,aI h1,Ci (fun e=>h (by simp[e]))]
section
variable {D:Type}(f:D->ByteArray->ByteArray×D)
def kr(d:D):List ByteArray->List UInt8|[]=>[]|s::l=>(f d s).1.data.toList++10::kr (f d s).2 l
def ni(d:D):List ByteArray->D|[]=>d|s::l=>ni (f d s).2 l
theorem uM(e:List ByteArray): ∀(xs:List ByteArray)(d:D),kr f d (xs++e)=kr f d xs++kr f (ni f d xs) e|[],d=>rfl|x::xs,d=>by rw[bE,kr,uM e xs,kr,ni];simp
end
theorem LS(a:List UInt8):Lib.trimSuffix (a++[10]) [10]=a:=by unfold Lib.trimSuffix Lib.hasSuffix;simp
theorem zC{l:List UInt8}(h:Lib.indexByte l 10=-1):vM l=[l]:=Ci (fun hm=>by obtain⟨k,hk,e⟩:=bJ.1 hm;exact Lib.indexByte_none h k (by rw[aF hk,e]))
theorem JO {l : List UInt8} {m : Nat} (h : Lib.indexByte l 10 = m) : m < l.length ∧ vM l = l.take m :: vM (l.drop (m + 1)) := by
 obtain ⟨h1, h2⟩ := Lib.indexByte_some h
 obtain ⟨hm, e⟩ := aQ.1 h1
 refine ⟨hm, ?_⟩
 have h3 : l = l.take m ++ 10 :: l.drop (m + 1) := by
  conv => lhs; rw [← dE m l, cy hm, e]
 have h4 : (10 : UInt8) ∉ l.take m := fun s => by
  obtain ⟨k, hk, j⟩ := bJ.1 s
  rw [bP] at hk
  refine h2 k ah ?_
  rw [List.getElem_take] at j
  rw [aF ah, j]
 conv => lhs; rw [h3]
 rw [DT, Ci h4]
 rfl
def vg(s:List UInt8):List ByteArray:=(vM (Lib.trimSuffix s [10])).map fun l=>⟨l.toArray⟩
end Go.Proofs.YtideefjnlakciaaGreatDoor
namespace Go.Proofs.YtideefjnlakciaaGreatDoor.Tkp
open Go.RowKit Go.Proofs.Tryz
def iF(f s n d t:Int):Int:=s+(t-f)/d*n+(t-f)%d*n/d
def lA(n d k:Int):Int:=k/n*d+(k%n*d+n-1)/n
theorem ED (x n d:Int) (hd:1≤d):x/d*n+x%d*n/d=x*n/d:=by
 have h:x*n=x%d*n+(x/d*n)*d:=by
  have:=dF x d
  calc x*n=(x%d+d*(x/d))*n:=by rw[this]
   _=x%d*n+(x/d*n)*d:=by rw[Int.add_mul,Int.mul_assoc,Int.mul_comm d]
 rw[h,Int.add_mul_ediv_right _ _ ah]
 omega
theorem oa(f s n d t:Int)(hd:1<=d):iF f s n d t=s+(t-f)*n/d:=by unfold iF;rw[Int.add_assoc,ED _ _ _ hd]
theorem rL (n d k:Int) (hn:1≤n):lA n d k=(k*d+n-1)/n:=by
 unfold lA
 have h:k*d+n-1=(k%n*d+n-1)+(k/n*d)*n:=by
  have:=dF k n
  have h2:k*d=k%n*d+(k/n*d)*n:=by
   calc k*d=(k%n+n*(k/n))*d:=by rw[this]
    _=k%n*d+(k/n*d)*n:=by rw[Int.add_mul,Int.mul_assoc,Int.mul_comm n]
  omega
 rw[h,Int.add_mul_ediv_right _ _ ah]
 omega
theorem Bo(f s n d t u:Int)(hd:1<=d)(hn:1<=n)(h:t<=u):iF f s n d t<=iF f s n d u:=by rw[oa _ _ _ _ _ hd,oa _ _ _ _ _ hd];have:(t-f)*n<=(u-f)*n:=Int.mul_le_mul_of_nonneg_right ah ah;have:=Int.ediv_le_ediv (by omega:0<d) this;omega
theorem zE(n d k:Int)(hn:1<=n)(hd:1<=d):k<=lA n d k*n/d:=by rw[rL _ _ _ hn];rw[Int.le_ediv_iff_mul_le ah];have:=dF (k*d+n-1) n;have h2:=Int.emod_lt_of_pos (k*d+n-1) (by omega:0<n);rw[Int.mul_comm] at this;have:=Int.mul_comm ((k*d+n-1)/n) n;have e:=dF (k*d+n-1) n;omega
theorem Cz(n d k e:Int)(hn:1<=n)(hd:1<=d)(he:e<lA n d k):e*n/d<k:=by rw[rL _ _ _ hn] at he;rw[Int.ediv_lt_iff_lt_mul ah];have h1:e+1<=(k*d+n-1)/n:=ah;rw[Int.le_ediv_iff_mul_le ah] at h1;rw[Int.add_mul] at h1;omega
theorem tr(n d k:Int)(hn:1<=n)(hd:1<=d)(hk:0<=k):0<=lA n d k:=by rw[rL _ _ _ hn];have:0<=k*d:=eI hk ah;exact Int.ediv_nonneg ah ah
theorem IG(n d k:Int)(hn:1<=n)(hd:1<=d)(hk:1<=k):1<=lA n d k:=by rw[rL _ _ _ hn];have:1*1<=k*d:=Int.mul_le_mul ah ah ah ah;rw[Int.le_ediv_iff_mul_le ah];omega
theorem D9(x n d:Int)(h:0<=x)(_hx':x<=4398046511104)(hn:1<=n)(j:n<=1000000)(hd:1<=d)(s:d<=1000000)(h2:n<=2*d):0<=x/d/\x/d<=x/\0<=x/d*n/\x/d*n<=2*x/\0<=x%d/\x%d<d/\0<=x%d*n/\x%d*n<=1000000000000:=by
 have a:=Int.ediv_nonneg h (by omega:0<=d);have b:=Int.emod_nonneg x (by omega:d≠0);have c:=Int.emod_lt_of_pos x (by omega:0<d);have e:=dF x d;have m1:x/d*n<=x/d*(2*d):=Int.mul_le_mul_of_nonneg_left h2 a;have m2:x/d*(2*d)=2*(d*(x/d)):=by rw[Int.mul_left_comm,Int.mul_comm (x/d) d]
 have m3:x%d*n<=1000000*1000000:=Int.mul_le_mul ah j ah ah;have m4:1*(x/d)<=d*(x/d):=Int.mul_le_mul_of_nonneg_right hd a;refine⟨a,ah,eI a ah,ah,b,c,eI b ah,ah⟩
end Go.Proofs.YtideefjnlakciaaGreatDoor.Tkp
namespace Go.Proofs.YtideefjnlakciaaGreatDoor
open Go.RowKit Go.Proofs.Tryz
def gE(f s n d:Int):Bool:=decide (0<=f/\f<=1099511627776/\-1099511627776<=s/\s<=1099511627776/\1<=n/\n<=1000000/\1<=d/\d<=1000000/\n<=2*d/\d<=2*n)
abbrev wW(f s n d:Int):Value:=.agg #[.int .i64 f,.int .i64 s,.int .i64 n,.int .i64 d]
theorem jo(f s n d:Int)(w:World):Calls prog 131 #[wW f s n d] w fun e w'=>e=.returned (.bool (gE f s n d))/\w.alloc (.cells #[.int .i64 f,.int .i64 s,.int .i64 n,.int .i64 d] 166)=w':=by go_enter func131,ntmps131;go_wp2;all_goals (go_ret;exact⟨gB (by unfold gE;symm;first|(apply aH;omega)|(apply cG.2;omega)),rfl⟩)
theorem ik{f s n d:Int}(h:gE f s n d=true):0<=f/\f<=1099511627776/\-1099511627776<=s/\s<=1099511627776/\1<=n/\n<=1000000/\1<=d/\d<=1000000/\n<=2*d/\d<=2*n:=by simpa[gE] using h
theorem oP(f s n d t:Int)(z:gE f s n d=true)(h1:f<=t)(h2:t<=1099511627776):wrap64 (wrap64 (s+wrap64 ((t-f)/d*n))+wrap64 ((wrap64 ((t-f)%d*n)).tdiv d))=Tkp.iF f s n d t/\s<=Tkp.iF f s n d t/\Tkp.iF f s n d t<=5000000000000:=by obtain⟨U,X,K,T,J,E,C,u,I,Z⟩:=ik z;obtain⟨a,b,c,e,g,h,i,j⟩:=Tkp.D9 (t-f) n d ah ah J E C u I;have Y:0<=(t-f)%d*n/d:=Int.ediv_nonneg i ah;have O:(t-f)%d*n/d<=(t-f)%d*n:=Int.ediv_le_self _ i;rw[bL ((t-f)/d*n) ⟨ah,ah⟩,bL ((t-f)%d*n) ⟨ah,ah⟩,cY i,bL ((t-f)%d*n/d) ⟨ah,ah⟩,bL (s+(t-f)/d*n) ⟨ah,ah⟩,bL (s+(t-f)/d*n+(t-f)%d*n/d) ⟨ah,ah⟩];exact⟨rfl,by unfold Tkp.iF;omega,by unfold Tkp.iF;omega⟩
def gy(f s n d t:Int):Int:=if gE f s n d=false then 1 else if t<f\/1099511627776<t then 2 else if 1099511627776<Tkp.iF f s n d t then 2 else 0
theorem Hk(f s n d t:Int)(w:World)(h:gy f s n d t=0):Calls prog 98 #[wW f s n d,.int .i64 t] w fun e w'=>e=.returned (.tuple #[.int .i64 (Tkp.iF f s n d t),.nilIface])/\Below w.heap.size w w':=by
 unfold gy at h;by_cases j:gE f s n d=false
 ·simp[j] at h
 rw[aI j] at h;by_cases h1:t<f\/1099511627776<t
 ·simp[h1] at h
 rw[aI h1] at h;by_cases h2:1099511627776<Tkp.iF f s n d t
 ·simp[h2] at h
 clear h;have j:gE f s n d=true:=by simpa using j
 obtain⟨K,Y,E,J,X,T,I,C,U,Z⟩:=ik j;obtain⟨le,z,O⟩:=oP f s n d t j ah ah;have t1:f<=t:=ah;have t2:t<=1099511627776:=ah;clear h1;have u:=eJ j;clear j;have LE:=eJ le;clear le;go_enter func98,ntmps98;go_wp2_with (go_at_call 131;refine(jo _ _ _ _ _).mono ?_;rw[u.out];rintro e w' ⟨rfl,rfl⟩);go_quiet (fail);rw[LE.out];go_wp2;go_ret2;exact⟨rfl,below_drewN (((au).alloc (ar) _).alloc ak _) _⟩
theorem Ga(f s n d t:Int)(w:World)(h:gy f s n d t≠0):Calls prog 98 #[wW f s n d,.int .i64 t] w fun e w'=>e=.returned (.tuple #[.int .i64 0,.iface 61 (.int .i64 (gy f s n d t))])/\Below w.heap.size w w':=by
 by_cases j:gE f s n d=false
 ·have he:gy f s n d t=1:=by simp[gy,j]
  rw[he];have u:=eJ j;clear j he h;go_enter func98,ntmps98;go_wp2_with (go_at_call 131;refine(jo _ _ _ _ _).mono ?_;rw[u.out];rintro e w' ⟨rfl,rfl⟩);go_ret2;exact⟨rfl,((au).alloc (ar) _).alloc ak _⟩
 have j:gE f s n d=true:=by simpa using j
 obtain⟨K,Y,E,J,X,T,I,C,U,Z⟩:=ik j;by_cases h1:t<f\/1099511627776<t
 ·have he:gy f s n d t=2:=by simp[gy,j,h1]
  rw[he];have u:=eJ j;clear j he h;rcases h1 with h1|h1
  ·go_enter func98,ntmps98;go_wp2_with (go_at_call 131;refine(jo _ _ _ _ _).mono ?_;rw[u.out];rintro e w' ⟨rfl,rfl⟩);go_ret2;exact⟨rfl,((au).alloc (ar) _).alloc ak _⟩
  ·have h0:f<=t:=ah;go_enter func98,ntmps98;go_wp2_with (go_at_call 131;refine(jo _ _ _ _ _).mono ?_;rw[u.out];rintro e w' ⟨rfl,rfl⟩);go_ret2;exact⟨rfl,((au).alloc (ar) _).alloc ak _⟩
 have t1:f<=t:=ah;have t2:t<=1099511627776:=ah;by_cases h2:1099511627776<Tkp.iF f s n d t
 ·have he:gy f s n d t=2:=by simp[gy,h2];omega
  obtain⟨le,z,O⟩:=oP f s n d t j ah ah;rw[he];clear h1 he h;have u:=eJ j;clear j;have LE:=eJ le;clear le;go_enter func98,ntmps98;go_wp2_with (go_at_call 131;refine(jo _ _ _ _ _).mono ?_;rw[u.out];rintro e w' ⟨rfl,rfl⟩);go_quiet (fail);rw[LE.out];go_wp2;go_ret2;exact⟨rfl,below_drewN (((au).alloc (ar) _).alloc ak _) _⟩
 ·exact absurd (by simp[gy,j];omega) h
theorem xz(f s n d l:Int)(E:gE f s n d=true)(h1:s<l)(h2:l<=1099511627776):wrap64 (wrap64 ((l-s)/n*d)+wrap64 ((wrap64 (wrap64 (wrap64 ((l-s)%n*d)+n)-1)).tdiv n))=Tkp.lA n d (l-s)/\1<=Tkp.lA n d (l-s)/\Tkp.lA n d (l-s)<=6000000000000:=by obtain⟨U,Y,K,T,z,I,u,C,X,J⟩:=ik E;obtain⟨a,b,c,e,g,h,i,j⟩:=Tkp.D9 (l-s) d n ah ah u C z I J;have Z:0<=((l-s)%n*d+n-1)/n:=Int.ediv_nonneg ah ah;have O:((l-s)%n*d+n-1)/n<=(l-s)%n*d+n-1:=Int.ediv_le_self _ ah;rw[bL ((l-s)/n*d) ⟨ah,ah⟩,bL ((l-s)%n*d) ⟨ah,ah⟩,bL ((l-s)%n*d+n) ⟨ah,ah⟩,bL ((l-s)%n*d+n-1) ⟨ah,ah⟩,cY ah,bL (((l-s)%n*d+n-1)/n) ⟨ah,ah⟩,bL ((l-s)/n*d+((l-s)%n*d+n-1)/n) ⟨ah,ah⟩];exact⟨rfl,Tkp.IG n d (l-s) z u ah,by unfold Tkp.lA;omega⟩
def iD(f s n d l:Int):Int:=if gE f s n d=false then 1 else if l< -1099511627776\/1099511627776<l then 2 else if l<=s then 0 else if 1099511627776<f+Tkp.lA n d (l-s) then 2 else 0
def ks(f s n d l:Int):Int:=if l<=s then f else f+Tkp.lA n d (l-s)
theorem Ml(f s n d l:Int)(w:World)(h:iD f s n d l=0):Calls prog 102 #[wW f s n d,.int .i64 l] w fun e w'=>e=.returned (.tuple #[.int .i64 (ks f s n d l),.nilIface])/\Below w.heap.size w w':=by
 unfold iD at h;by_cases j:gE f s n d=false
 ·simp[j] at h
 rw[aI j] at h;by_cases h1:l< -1099511627776\/1099511627776<l
 ·simp[h1] at h
 rw[aI h1] at h;have j:gE f s n d=true:=by simpa using j
 obtain⟨O,Z,I,K,Y,U,J,E,X,aa⟩:=ik j;have t1:-1099511627776<=l:=ah;have t2:l<=1099511627776:=ah;clear h1;by_cases h2:l<=s
 ·have u:ks f s n d l=f:=by simp[ks,h2]
  rw[u];have z:=eJ j;clear j h u;go_enter func102,ntmps102;go_wp2_with (go_at_call 131;refine(jo _ _ _ _ _).mono ?_;rw[z.out];rintro e w' ⟨rfl,rfl⟩);go_ret2;exact⟨rfl,(((au).alloc (ar) _).alloc ak _)⟩
 rw[aI h2] at h;have u:ks f s n d l=f+Tkp.lA n d (l-s):=by simp[ks,h2]
 rw[u];by_cases h3:1099511627776<f+Tkp.lA n d (l-s)
 ·simp[h3] at h
 clear h;obtain⟨le,C,T⟩:=xz f s n d l j ah ah;have z:=eJ j;clear j u;have LE:=eJ le;clear le;go_enter func102,ntmps102;go_wp2_with (go_at_call 131;refine(jo _ _ _ _ _).mono ?_;rw[z.out];rintro e w' ⟨rfl,rfl⟩);go_quiet (fail);rw[LE.out];go_wp2;go_ret2;exact⟨rfl,below_drewN (((au).alloc (ar) _).alloc ak _) _⟩
theorem J7(f s n d l:Int)(w:World)(h:iD f s n d l≠0):Calls prog 102 #[wW f s n d,.int .i64 l] w fun e w'=>e=.returned (.tuple #[.int .i64 0,.iface 61 (.int .i64 (iD f s n d l))])/\Below w.heap.size w w':=by
 by_cases j:gE f s n d=false
 ·have he:iD f s n d l=1:=by simp[iD,j]
  rw[he];have u:=eJ j;clear j he h;go_enter func102,ntmps102;go_wp2_with (go_at_call 131;refine(jo _ _ _ _ _).mono ?_;rw[u.out];rintro e w' ⟨rfl,rfl⟩);go_ret2;exact⟨rfl,((au).alloc (ar) _).alloc ak _⟩
 have j:gE f s n d=true:=by simpa using j
 obtain⟨K,Y,E,J,X,T,I,C,U,Z⟩:=ik j;by_cases h1:l< -1099511627776\/1099511627776<l
 ·have he:iD f s n d l=2:=by simp[iD,j,h1]
  rw[he];have u:=eJ j;clear j he h;rcases h1 with h1|h1
  ·go_enter func102,ntmps102;go_wp2_with (go_at_call 131;refine(jo _ _ _ _ _).mono ?_;rw[u.out];rintro e w' ⟨rfl,rfl⟩);go_ret2;exact⟨rfl,((au).alloc (ar) _).alloc ak _⟩
  ·have h0:-1099511627776<=l:=ah;go_enter func102,ntmps102;go_wp2_with (go_at_call 131;refine(jo _ _ _ _ _).mono ?_;rw[u.out];rintro e w' ⟨rfl,rfl⟩);go_ret2;exact⟨rfl,((au).alloc (ar) _).alloc ak _⟩
 have t1:-1099511627776<=l:=ah;have t2:l<=1099511627776:=ah;by_cases h2:l<=s
 ·exact absurd (by simp[iD,j,h2];omega) h
 by_cases h3:1099511627776<f+Tkp.lA n d (l-s)
 ·have he:iD f s n d l=2:=by simp[iD,j,h2,h3]
  obtain⟨le,z,O⟩:=xz f s n d l j ah ah;rw[he];clear h1 he h;have u:=eJ j;clear j;have LE:=eJ le;clear le;go_enter func102,ntmps102;go_wp2_with (go_at_call 131;refine(jo _ _ _ _ _).mono ?_;rw[u.out];rintro e w' ⟨rfl,rfl⟩);go_quiet (fail);rw[LE.out];go_wp2;go_ret2;exact⟨rfl,below_drewN (((au).alloc (ar) _).alloc ak _) _⟩
 ·exact absurd (by simp[iD,j,h2,h3];omega) h
def iY(f s n d t:Int):Int:=if gy f s n d t=0 then Tkp.iF f s n d t else 0
theorem E2(f s n d t:Int)(w:World):Calls prog 98 #[wW f s n d,.int .i64 t] w fun e w'=>e=.returned (.tuple #[.int .i64 (iY f s n d t),gv (gy f s n d t)])/\Below w.heap.size w w':=by
 by_cases h:gy f s n d t=0
 ·refine(Hk f s n d t w h).mono fun e w' ⟨he,j⟩=>⟨?_,j⟩;rw[he,iY,gv,aM h,aM h]
 ·refine(Ga f s n d t w h).mono fun e w' ⟨he,j⟩=>⟨?_,j⟩;rw[he,iY,gv,aI h,aI h]
def kj(f s n d t:Int):Int:=if iD f s n d t=0 then ks f s n d t else 0
theorem Jd(f s n d t:Int)(w:World):Calls prog 102 #[wW f s n d,.int .i64 t] w fun e w'=>e=.returned (.tuple #[.int .i64 (kj f s n d t),gv (iD f s n d t)])/\Below w.heap.size w w':=by
 by_cases h:iD f s n d t=0
 ·refine(Ml f s n d t w h).mono fun e w' ⟨he,j⟩=>⟨?_,j⟩;rw[he,kj,gv,aM h,aM h]
 ·refine(J7 f s n d t w h).mono fun e w' ⟨he,j⟩=>⟨?_,j⟩;rw[he,kj,gv,aI h,aI h]
theorem wI(f s n d l:Int):0<=kj f s n d l/\kj f s n d l<=1099511627776:=by
 unfold kj;by_cases h:iD f s n d l=0
 ·rw[aM h];unfold iD at h;by_cases e:gE f s n d=false
  ·simp[e] at h
  rw[aI e] at h;have e:gE f s n d=true:=by simpa using e
  obtain⟨I,O,C,E,u,J,j,z,K,T⟩:=ik e;by_cases h1:l< -1099511627776\/1099511627776<l
  ·simp[h1] at h
  rw[aI h1] at h;unfold ks;by_cases h2:l<=s
  ·rw[aM h2];omega
  ·rw[aI h2] at h⊢;have:=Tkp.tr n d (l-s) u j ah;by_cases h3:1099511627776<f+Tkp.lA n d (l-s)
   ·simp[h3] at h
   ·omega
 ·rw[aI h];omega
def MA(w:World)(base:Nat)(v:Value)(l:List Nat)(r:Ending)(w':World):Prop:= ∃v',r=.returned v'/\fK w' base 5 v' (pU l)/\mg w w' v v'
section
variable (base:Nat)(v:Value)(l:List Nat)(A:Option Addr)(n c:Nat)(zs:List Nat)
theorem Me(w:World)(a5:fK w base 5 v (pU l))(bn: ∀k,v.ownBlock=some k->k<w.heap.size)(bi:base<=w.heap.size)(a3:rl w A n zs)(s:zs.length=n)(a9: ∀b off,A=some ⟨b,off,none⟩->v.ownBlock≠some b)(bb: ∀z∈zs,z<9223372036854775808)(hlen:l.length+10*n<=100000)(bj: ∀z∈zs,(kU z).length<=10):Calls prog 130 #[v,.slice A n c] w (MA w base v (l++gn zs)):=by
 have hn:n<=100000:=ah;have bw:=eJ a5;have b5:=eJ bn;have bl:=eJ bi;have b8:=eJ a3;have Y:=eJ s;have bz:=eJ a9;have b3:=eJ bb;have b9:=eJ hlen;have a8:=eJ bj;obtain⟨i0,hi,a6,bd,bm⟩:=eR ry;clear a5 bn bi a3 s a9 bb hlen bj;go_enter func130,ntmps130;go_wp2_with fail;go_loopw [0,6,9] (fun b _ i wr=> ∃k:Nat,k<=n/\i=.int .i64 k/\Hid (fK wr base 5 b (pU (l++gn (zs.take k)))/\mg w wr v b)) (fun _ _ i _=>n-(intOf i).toNat);case atStart=>exact⟨0,ah,rfl,eJ ⟨by simpa[oc] using bw.out,mg.refl w v b5.out⟩⟩
 case round=>
  obtain⟨k,hk,rfl,u⟩:=hrel;by_cases X:k<n
  ·obtain⟨ad,off,rfl,c0⟩:=b8.out k X;have b6:=aG _ _ c0;obtain⟨z,s⟩:=ab (zs.getD k 0);have ca:wr.cell? ⟨ad,off+k,none⟩=some (.int .i64 (z:Nat)):=by rw[<-s,<-c0];have:=u.out.2.1.block ad b6 (fun e=>bz.out ad off rfl e.symm);unfold World.cell?;simp only[this]
   have ap:z∈zs:=by rw[<-s];simp[show k<zs.length by rw[Y.out];exact X]
   have b7:z<9223372036854775808:=b3.out z ap;have cc:(kU z).length<=10:=a8.out z ap;have bv:=eJ s;obtain⟨aA,T⟩:=ab (l++gn (zs.take k));have a4:aA.length<=l.length+10*k:=by rw[<-T,aT];have:=Ax (zs.take k) (fun x bq=>a8.out x (eh bq));rw[bP] at this;omega
   have bx:=eJ a4;rw[T] at u;have bt:=eJ T;clear c0 s ap T a4;go_wp2_with fail;obtain⟨a7,rfl⟩: ∃a7:World,a7=wr:=⟨_,rfl⟩;go_loopw [0,6] (fun b m wr=> ∃(x:Nat) (pre:List Nat),m=.int .i64 x/\x<9223372036854775808/\Hid (fK wr base 5 b (pU pre)/\mg w wr v b/\pre++kU x=aA++kU z)) (fun _ m _=>(intOf m).toNat);case atStart=>exact⟨z,aA,rfl,b7,eJ ⟨u.out.1,u.out.2,rfl⟩⟩
   case round=>
    obtain⟨x,pre,rfl,bq,j⟩:=hrel;obtain⟨ao,bf,be,-⟩:=j.out.1.shape;rw[nu] at be;subst be;have O:=eJ (show pre.length<=100010 by have h:=aO List.length j.out.2.2;simp only[aT] at h;have:=bx.out;have:=b9.out;omega);by_cases h128:x<128
    ·have cb:(x:Int)%256=(x:Int):=ah;go_wp2_with (at_builtin;go_must (refine gu _ rfl (.tmp 23) (.tmp 26) _ rfl base 5 i0 _ 1 underlying40 hi a6 bd bm rfl (.slice ao pre.length bf) (pU pre) rfl (by exact j.out.1.alloc _) wr.heap.size 0 1 (.int .u8 (x:Int)) rfl (by exact(eN.new wr 5 #[.int .u8 (x:Int)]).cells1.1) rfl (by have:=O.out;simp[maxLen,nu];omega) (by have:=O.out;simp[nu];omega) (by have:=bl.out;have:=j.out.2.1.1.size;simp;omega) ?_);intro g1 am al w3 J C I aa E;have Z:=eJ J;have U:Hid (mg w w3 v (.slice (some ⟨g1,am,none⟩) ((pU pre).length+1) al)):=eJ ((j.out.2.1.alloc _).trans ⟨C,I7 I E⟩);clear J C I aa E);go_roundw;case rel=>exact⟨k+1,ah,aq,eJ ⟨by rw[vY zs k (by rw[Y.out];exact X),bv.out,<-dn,bt.out,<-j.out.2.2,oV h128,AF];exact Z.out,U.out⟩⟩
     case measure=>simp[intOf];omega
    ·obtain⟨y,a2⟩:=ab (x%128+128);have bk:=Pc x;rw[dp] at bk;rw[a2] at bk;have b4:=eJ a2;clear a2;obtain⟨ac,K⟩:=ab (x/128);have ce:(x:Int)/2^7=(ac:Int):=by rw[<-K];push_cast;rfl
     have cd:(x:Int)/128=(ac:Int):=by rw[<-K];push_cast;rfl
     have a0:=eJ K;clear K;go_wp2_with (at_builtin;go_must (refine gu _ rfl (.tmp 17) (.tmp 21) _ rfl base 5 i0 _ 1 underlying40 hi a6 bd bm rfl (.slice ao pre.length bf) (pU pre) rfl (by exact j.out.1.alloc _) wr.heap.size 0 1 (.int .u8 (y:Int)) rfl (by exact(eN.new wr 5 #[.int .u8 (y:Int)]).cells1.1) rfl (by have:=O.out;simp[maxLen,nu];omega) (by have:=O.out;simp[nu];omega) (by have:=bl.out;have:=j.out.2.1.1.size;simp;omega) ?_);intro g1 am al w3 J C I aa E;have Z:=eJ J;have U:Hid (mg w w3 v (.slice (some ⟨g1,am,none⟩) ((pU pre).length+1) al)):=eJ ((j.out.2.1.alloc _).trans ⟨C,I7 I E⟩);clear J C I aa E);go_roundw;case rel=>exact⟨ac,pre++[y],rfl,by have:=a0.out;omega,eJ ⟨by rw[AF];exact Z.out,U.out,by rw[<-j.out.2.2,rK h128,a0.out,b4.out,dn];rfl⟩⟩
     case measure=>have:=a0.out;simp[intOf];omega
  ·obtain rfl:n=k:=ah;have b2:Hid (fK wr base 5 u0 (pU (l++gn zs))/\mg w wr v u0):=by have:=u.out;rw[bC (by rw[Y.out];omega)] at this;exact eJ this
   clear u;go_wp2_with fail;go_ret;exact⟨_,rfl,b2.out⟩
end
def sI(s:Sl):List Nat:=[s.n.toNat,s.f.toNat,s.t.toNat]
def sJ(s:Lk):List Nat:=[s.f.toNat,s.t.toNat,s.b.toNat,s.q.toNat]
def vS(s:Wn):List Nat:=[s.p.toNat,s.f.toNat,s.t.toNat]
def sK(p:Pl):List Nat:=[p.nd.toNat,p.fa.toNat,p.sk.toNat,p.ji.toNat,p.dr.toNat,p.rd.toNat]++(p.sl.length::(p.sl.map sI).flatten)++(p.lk.length::(p.lk.map sJ).flatten)++[p.fr.toNat]++(p.wn.length::(p.wn.map vS).flatten)
theorem o8{p:Pl}(h:(iO p).1=0):(0<=p.nd/\0<=p.fa/\0<=p.sk/\0<=p.ji/\0<=p.dr/\0<=p.rd/\0<=p.fr/\p.nd<=2^40/\p.fa<=2^40/\p.sk<=2^40/\p.ji<=2^40/\p.dr<=2^40/\p.rd<=2^40/\p.fr<=2^40)/\(p.sl.length<=32/\p.lk.length<=8/\p.wn.length<=32)/\(∀s∈p.sl,(0<=s.n/\0<=s.f/\0<=s.t)/\s.n<=2^40/\s.f<=2^40/\s.t<=2^40)/\(∀s∈p.lk,(0<=s.f/\0<=s.t/\0<=s.b/\0<=s.q)/\s.f<=2^40/\s.t<=2^40/\s.b<=2^40/\s.q<=2^40)/\(∀s∈p.wn,(0<=s.p/\0<=s.f/\0<=s.t)/\s.p<=2^40/\s.f<=2^40/\s.t<=2^40):=by
 unfold iO at h;by_cases h0:iK p≠0
 ·rw[aM h0] at h;exact absurd h h0
 rw[aI h0] at h;by_cases h1:(fS (oM p.sk p.rd p.nd 0 p.sl) 0).1≠0
 ·rw[aM h1] at h;exact absurd h h1
 rw[aI h1] at h;by_cases h2:(fS (p.lk.map (sH p.nd)) 0).1≠0
 ·rw[aM h2] at h;exact absurd h h2
 rw[aI h2] at h;by_cases h3:(fS (kX p.fr 0 p.wn) 0).1≠0
 ·rw[aM h3] at h;exact absurd h h3
 have h0:=dx.1 h0;have C:=mw _ 0 (dx.1 h1);have z2:=mw _ 0 (dx.1 h2);have z3:=mw _ 0 (dx.1 h3);clear h h1 h2 h3;have hd:1<=p.nd/\p.nd<=16/\0<=p.fa/\p.fa<=16/\0<=p.sk/\p.sk<=137438953472/\0<=p.ji/\p.ji<=137438953472/\0<=p.dr/\p.dr<=137438953472/\1<=p.rd/\p.rd<=137438953472/\1<=p.fr/\p.fr<=137438953472/\p.sl.length<=32/\p.lk.length<=8/\p.wn.length<=32:=by
  unfold iK at h0;split at h0
  ·cases h0
  ·split at h0
   ·cases h0
   ·split at h0
    ·cases h0
    ·omega
 have sp: ∀{f t lo hi:Int},pc f t lo hi=0->f<t/\lo<=f/\t<=hi:=by
  intro f t lo hi h;unfold pc at h;by_cases h1:t<=f
  ·rw[aM h1] at h;cases h
  ·rw[aI h1] at h;by_cases h2:f<lo
   ·rw[aM h2] at h;cases h
   ·rw[aI h2] at h;by_cases h3:hi<t
    ·rw[aM h3] at h;cases h
    ·omega
 have u:(2:Int)^40=1099511627776:=aj;have hs: ∀(k:Nat)(s:Sl),p.sl[k]? =some s->0<=s.n/\s.n<=p.nd-1/\qX p.sk 0 p.sl k<=s.f/\s.f<s.t/\s.t<=p.rd-p.sk-1:=by
  intro k s hk;have hl:=(aQ.1 hk).1;have:=C k (by rw[uQ];exact hl);rw[yo _ _ _ _ _ _ _ hk] at this;have:=bg this;unfold AD at this;split at this
  ·rename_i h;exact absurd this h
  ·rename_i h;have:=sp (dx.1 h);split at*
   ·omega
   ·omega
 have E: ∀(k:Nat)(s:Sl),p.sl[k]? =some s->0<=s.f:=by intro k;induction k with|zero=>intro s hk;have:=hs 0 s hk;rw[og] at this;omega|succ k j=>intro s hk;have hl:=(aQ.1 hk).1;have e:p.sl[k]? =some p.sl[k]:=aF ah;have a:=hs (k+1) s hk;have b:=hs k _ e;have c:=j _ e;rw[lG _ _ _ _ _ e] at a;omega
 have hw: ∀(k:Nat)(s:Wn),p.wn[k]? =some s->0<=s.p/\s.p<=5/\sj 0 p.wn k<=s.f/\s.f<s.t/\s.t<=p.fr:=by
  intro k s hk;have hl:=(aQ.1 hk).1;have:=z3 k (by rw[sr];exact hl);rw[rX _ _ _ _ _ hk] at this;have:=bg this;unfold ui at this;split at this
  ·rename_i h;exact absurd this h
  ·rename_i h;have:=sp (dx.1 h);split at*
   ·omega
   ·omega
 have z: ∀(k:Nat)(s:Wn),p.wn[k]? =some s->0<=s.f:=by intro k;induction k with|zero=>intro s hk;have:=hw 0 s hk;rw[td] at this;omega|succ k j=>intro s hk;have hl:=(aQ.1 hk).1;have e:p.wn[k]? =some p.wn[k]:=aF ah;have a:=hw (k+1) s hk;have b:=hw k _ e;have c:=j _ e;rw[th _ _ _ _ e] at a;omega
 rw[u];refine⟨ah,ah, ?_, ?_, ?_⟩
 ·intro s hm;obtain⟨k,hk,rfl⟩:=List.getElem_of_mem hm;have a:=hs k _ (aF hk);have b:=E k _ (aF hk);omega
 ·intro s hm;obtain⟨k,hk,rfl⟩:=List.getElem_of_mem hm;have:=z2 k (by simpa using hk);rw[bp,aF hk] at this;have:=bg this;generalize p.lk[k]=s at this;unfold sH at this;split at this
  ·cases this
  ·split at this
   ·cases this
   ·rename_i h1 h2;have h2:=NC (fun h=>h2 h);unfold ki at h2;simp only[Bool.or_eq_false_iff,di] at h2;split at this
    ·cases this
    ·have:(2:Int)^p.nd.toNat<=2^16:=by have h:=aX (n:=2) aj (show p.nd.toNat<=16 from ah);exact_mod_cast h
     have h16:(2:Int)^16=65536:=aj;omega
 ·intro s hm;obtain⟨k,hk,rfl⟩:=List.getElem_of_mem hm;have a:=hw k _ (aF hk);have b:=z k _ (aF hk);omega
theorem toNat_le{x:Int}(h:x<=2^40):x.toNat<=2^40:=by have e:(2:Int)^40=1099511627776:=aj;have j:(2:Nat)^40=1099511627776:=aj;omega
theorem Ch{p:Pl}(h:(iO p).1=0): ∀n∈sK p,n<=2^40:=by
 obtain⟨h1,h2,h3,h4,h5⟩:=o8 h;have e:(32:Nat)<=2^40:=aj;intro n hn;unfold sK at hn;simp only[bY,bR,cC,ec,List.mem_flatten,cX] at hn;rcases hn with ((((hn|hn)|hn)|hn)|hn)
 ·rcases hn with rfl|rfl|rfl|rfl|rfl|rfl<;>exact toNat_le ah
 ·rcases hn with rfl|⟨_,⟨s,hs,rfl⟩,hx⟩
  ·omega
  ·simp[sI] at hx;have:=h3 s hs;rcases hx with rfl|rfl|rfl<;>exact toNat_le ah
 ·rcases hn with rfl|⟨_,⟨s,hs,rfl⟩,hx⟩
  ·omega
  ·simp[sJ] at hx;have:=h4 s hs;rcases hx with rfl|rfl|rfl|rfl<;>exact toNat_le ah
 ·subst hn;exact toNat_le ah
 ·rcases hn with rfl|⟨_,⟨s,hs,rfl⟩,hx⟩
  ·omega
  ·simp[vS] at hx;have:=h5 s hs;rcases hx with rfl|rfl|rfl<;>exact toNat_le ah
theorem so(n k:Nat)(hk:1<=k)(h:n<128^k):(kU n).length<=k:=by
 induction k generalizing n with
  |zero=>omega
  |succ k e=>
   by_cases h1:n<128
   ·rw[oV h1];simp
   ·rw[rK h1,aP];by_cases j:k=0
    ·subst j;simp at h;omega
    ·have:=e (n/128) ah (by rw[Nat.pow_succ] at h;exact Nat.div_lt_of_lt_mul (by rw[Nat.mul_comm];exact h));omega
theorem qt(l:List Nat)(h: ∀n∈l,n<=2^40):(gn l).length<=6*l.length:=by induction l with|nil=>simp[oc]|cons n l e=>have h1:=so n 6 ah (cO (h n ak) aj);have h2:=e (fun m hm=>h m (by simp[hm]));rw[oS,aT,aP];omega
theorem mj{α:Type}{j:Nat}{l:List α}{f:α->List Nat}(h: ∀x,(f x).length=j):(l.map f).flatten.length=j*l.length:=by induction l with|nil=>simp|cons x l e=>simp only[cK,List.flatten_cons,aT,h,e,aP,Nat.mul_succ];omega
theorem Dz(p:Pl):(sK p).length=10+3*p.sl.length+4*p.lk.length+3*p.wn.length:=by unfold sK;simp only[aT,aP,bh,mj (j:=3) (f:=sI) (fun _=>rfl),mj (j:=4) (f:=sJ) (fun _=>rfl),mj (j:=3) (f:=vS) (fun _=>rfl)];omega
theorem yh{p:Pl}(h:(iO p).1=0):(gn (sK p)).length<=2000:=by obtain⟨_,⟨h1,h2,h3⟩,_⟩:=o8 h;have a:=qt _ (Ch h);rw[Dz] at a;omega
structure oB (w wr:World) (G:Array Value) (v:Value) (l:List Nat):Prop where
 g:eN wr w.heap.size 29 G
 q:fK wr (w.heap.size+1) 5 v (pU l)
 o: ∀k,v.ownBlock=some k→w.heap.size<k∧k<wr.heap.size
 old:Below w.heap.size w wr
section
variable {w w1 w2:World}{G:Array Value}{v v':Value}{l:List Nat}
theorem oB.below(h:oB w w1 G v l)(hB:Below w1.heap.size w1 w2):oB w w2 G v l:=⟨h.g.below hB h.g.lt,h.q.below hB (ar),fun k e=>⟨(h.o k e).1,aN (h.o k e).2 hB.size⟩,h.old.trans (hB.mono h.old.size)⟩
theorem oB.alloc(h:oB w w1 G v l)(o:Obj):oB w (w1.alloc o) G v l:=h.below ((au).alloc (ar) o)
theorem oB.put(h:oB w w1 G v l){s:List Nat}(hq:fK w2 (w.heap.size+1) 5 v' (pU s))(j:mg w1 w2 v v'):oB w w2 G v' s:=by
 have u:v.ownBlock≠some w.heap.size:=fun e=>by have:=(h.o _ e).1;omega
 have z:=h.g.lt;refine⟨h.g.grown j.1 u.symm,hq,fun k e=> ?_,⟨j.1.os.trans h.old.os,j.1.tape.trans h.old.tape,j.1.output.trans h.old.output,aK h.old.size j.1.size,fun i hi=> ?_⟩⟩
 ·obtain⟨a,b|b⟩:=j.2 k e
  ·exact⟨(h.o k b).1,a⟩
  ·exact⟨ah,a⟩
 ·rw[j.1.block i ah (fun e=>by have:=(h.o i e.symm).1;omega)];exact h.old.block i hi
end
theorem Pa{w:World}{g:Nat}{a:Int}(h:eN w g 3 #[.int .i64 a])(s:0<=a):rl w (some ⟨g,0,none⟩) 1 [a.toNat]:=by intro j e;refine⟨g,0,rfl, ?_⟩;match j,e with|0,_=>rw[h.cell 0];simp;omega
theorem PI{w:World}{g:Nat}{a b:Int}(h:eN w g 3 #[.int .i64 a,.int .i64 b])(s:0<=a)(u:0<=b):rl w (some ⟨g,0,none⟩) 2 [a.toNat,b.toNat]:=by intro j e;refine⟨g,0,rfl, ?_⟩;match j,e with|0,_=>rw[h.cell 0];simp;omega|1,_=>rw[h.cell 1];simp;omega
theorem MP{w:World}{g:Nat}{a b c:Int}(h:eN w g 3 #[.int .i64 a,.int .i64 b,.int .i64 c])(s:0<=a)(u:0<=b)(z:0<=c):rl w (some ⟨g,0,none⟩) 3 [a.toNat,b.toNat,c.toNat]:=by intro j e;refine⟨g,0,rfl, ?_⟩;match j,e with|0,_=>rw[h.cell 0];simp;omega|1,_=>rw[h.cell 1];simp;omega|2,_=>rw[h.cell 2];simp;omega
theorem PD{w:World}{g:Nat}{a b c d:Int}(h:eN w g 3 #[.int .i64 a,.int .i64 b,.int .i64 c,.int .i64 d])(s:0<=a)(u:0<=b)(z:0<=c)(hd:0<=d):rl w (some ⟨g,0,none⟩) 4 [a.toNat,b.toNat,c.toNat,d.toNat]:=by intro j e;refine⟨g,0,rfl, ?_⟩;match j,e with|0,_=>rw[h.cell 0];simp;omega|1,_=>rw[h.cell 1];simp;omega|2,_=>rw[h.cell 2];simp;omega|3,_=>rw[h.cell 3];simp;omega
theorem PX{w:World}{g:Nat}{a b c d e f i:Int}(h:eN w g 3 #[.int .i64 a,.int .i64 b,.int .i64 c,.int .i64 d,.int .i64 e,.int .i64 f,.int .i64 i])(E:0<=a)(u:0<=b)(C:0<=c)(hd:0<=d)(he:0<=e)(z:0<=f)(hi:0<=i):rl w (some ⟨g,0,none⟩) 7 [a.toNat,b.toNat,c.toNat,d.toNat,e.toNat,f.toNat,i.toNat]:=by intro j s;refine⟨g,0,rfl, ?_⟩;match j,s with|0,_=>rw[h.cell 0];simp;omega|1,_=>rw[h.cell 1];simp;omega|2,_=>rw[h.cell 2];simp;omega|3,_=>rw[h.cell 3];simp;omega|4,_=>rw[h.cell 4];simp;omega|5,_=>rw[h.cell 5];simp;omega|6,_=>rw[h.cell 6];simp;omega
def Fit(L:List Nat)(N:Nat):Prop:=(∀n∈L,n<=2^40)/\L.length<=N
theorem Fit.app{L M:List Nat}{N K:Nat}(h:Fit L N)(k:Fit M K):Fit (L++M) (N+K):=⟨fun n hn=>(bY.1 hn).elim (h.1 n) (k.1 n),by have:=h.2;have:=k.2;rw[aT];omega⟩
theorem qw{w w1:World}{G:Array Value}{v:Value}{L zs:List Nat}{N n:Nat}(h:oB w w1 G v (gn L))(s:Fit L N)(K:N<=300)(j:Fit zs n)(u:zs.length=n)(hn:n<=10)(g:Nat)(C: ∀k,v.ownBlock=some k->k<g)(I:rl w1 (some ⟨g,0,none⟩) n zs):Calls prog 130 #[v,.slice (some ⟨g,0,none⟩) n n] w1 fun r w2=> ∃v',r=.returned v'/\oB w w2 G v' (gn (L++zs)):=by
 have h6: ∀z,z<=2^40->(kU z).length<=6:=fun z j=>so z 6 ah (cO j aj);have hlen:=qt L s.1;have hl:=s.2;refine(Me (w.heap.size+1) v (gn L) (some ⟨g,0,none⟩) n n zs w1 h.q (fun k e=>(h.o k e).2) h.g.lt I u (fun b off e J=> ?_) (fun z hm=>cO (j.1 z hm) aj) ah (fun z hm=>aK (h6 z (j.1 z hm)) ah)).mono ?_
 ·cases e;exact ew _ (C _ J)
 ·rintro r w2 ⟨v',rfl,hq,E⟩;exact⟨v',rfl,by rw[xp];exact h.put hq E⟩
theorem O6{a:Nat}(e:a<=1000):Fit [a] 1:=⟨by intro n hn;simp at hn;subst hn;exact aK e aj,ak⟩
theorem PT{a:Int}{b:Nat}(e:a<=2^40)(h:b<=1000):Fit [a.toNat,b] 2:=⟨by
 intro n hn;simp at hn;rcases hn with rfl|rfl
 ·exact toNat_le e
 ·exact aK h aj,ak⟩
theorem Qq{a b c d e f:Int}{i:Nat}(h:a<=2^40)(s:b<=2^40)(u:c<=2^40)(hd:d<=2^40)(he:e<=2^40)(j:f<=2^40)(hi:i<=1000):Fit [a.toNat,b.toNat,c.toNat,d.toNat,e.toNat,f.toNat,i] 7:=⟨by
 intro n hn;simp at hn;rcases hn with rfl|rfl|rfl|rfl|rfl|rfl|rfl
 ·exact toNat_le h
 ·exact toNat_le s
 ·exact toNat_le u
 ·exact toNat_le hd
 ·exact toNat_le he
 ·exact toNat_le j
 ·exact aK hi aj,ak⟩
theorem Dq{s:Sl}(h:(0<=s.n/\0<=s.f/\0<=s.t)/\s.n<=2^40/\s.f<=2^40/\s.t<=2^40):Fit (sI s) 3:=⟨by intro n hn;simp[sI] at hn;rcases hn with rfl|rfl|rfl<;>exact toNat_le ah,by simp[sI]⟩
theorem Eh{s:Wn}(h:(0<=s.p/\0<=s.f/\0<=s.t)/\s.p<=2^40/\s.f<=2^40/\s.t<=2^40):Fit (vS s) 3:=⟨by intro n hn;simp[vS] at hn;rcases hn with rfl|rfl|rfl<;>exact toNat_le ah,by simp[vS]⟩
theorem Ej{s:Lk}(h:(0<=s.f/\0<=s.t/\0<=s.b/\0<=s.q)/\s.f<=2^40/\s.t<=2^40/\s.b<=2^40/\s.q<=2^40):Fit (sJ s) 4:=⟨by intro n hn;simp[sJ] at hn;rcases hn with rfl|rfl|rfl|rfl<;>exact toNat_le ah,by simp[sJ]⟩
theorem vk{α:Type}{f:α->List Nat}{l:List α}{j:Nat}(h: ∀s∈l,Fit (f s) j)(k:Nat):Fit ((l.take k).map f).flatten (j*k):=by induction l generalizing k with|nil=>simp[Fit]|cons s l e=>cases k with|zero=>simp[Fit]|succ k=>have h1:=h s ak;have h2:=e (fun x u=>h x (by simp[u])) k;simp only[List.take_succ_cons,cK,List.flatten_cons];have:=h1.app h2;exact⟨this.1,by have:=this.2;rw[Nat.mul_succ];omega⟩
theorem mL{α:Type}(f:α->List Nat)(l:List α)(k:Nat)(x:α)(h:l[k]? =some x):((l.take (k+1)).map f).flatten=((l.take k).map f).flatten++f x:=by obtain⟨hk,e⟩:=aQ.1 h;rw[List.take_succ_eq_append_getElem hk,e];simp
theorem Jv(p:Pl){len ll lq:Nat}(h1:p.sl.length=len)(h2:p.lk.length=ll)(h3:p.wn.length=lq):sK p=[p.nd.toNat,p.fa.toNat,p.sk.toNat,p.ji.toNat,p.dr.toNat,p.rd.toNat,(len:Int).toNat]++(p.sl.map sI).flatten++[(ll:Int).toNat]++(p.lk.map sJ).flatten++[p.fr.toNat,(lq:Int).toNat]++(p.wn.map vS).flatten:=by subst h1 h2 h3;unfold sK;simp
def qR(w:World)(p:Pl)(r:Ending)(w':World):Prop:=if (iO p).1=0 then∃v,r=.returned (.tuple #[v,.nilIface])/\fK w' (w.heap.size+1) 5 v (pU (gn (sK p)))/\(∀k,v.ownBlock=some k->w.heap.size<k/\k<w'.heap.size)/\Below w.heap.size w w' else∃v,r=.returned (.tuple #[.slice none 0 0,v])/\Cr w' v (iO p).1 (iO p).2/\Below w.heap.size w w'
section
variable (p:Pl)(A:Option Addr)(len c:Nat)(AL:Option Addr)(ll cl:Nat)(AQ:Option Addr)(lq cq:Nat)
theorem Ck(w:World)(h0:(iO p).1≠0)(s1:p.sl.length=len)(I:p.lk.length=ll)(T:p.wn.length=lq)(s2:fN w A len p.sl)(O:fA w AL ll p.lk)(K:iV w AQ lq p.wn):Calls prog 93 #[.agg (fb p.nd p.fa p.sk p.ji p.dr p.rd (.slice A len c) (.slice AL ll cl) p.fr (.slice AQ lq cq))] w (qR w p):=by
 have z:sS w (w.alloc (.cells (fb p.nd p.fa p.sk p.ji p.dr p.rd (.slice A len c) (.slice AL ll cl) p.fr (.slice AQ lq cq)) 29)) (fb p.nd p.fa p.sk p.ji p.dr p.rd (.slice A len c) (.slice AL ll cl) p.fr (.slice AQ lq cq)):=⟨eN.new w _ _,(au).alloc (ar) _⟩;have j:=eJ z;obtain⟨i0,i1,i2,i3,i4,i5,i6,i7,i8,i9⟩:=z.g.eT;have E:Hid (∀w0:World,Below w.heap.size w w0->Calls prog 129 #[.agg (fb p.nd p.fa p.sk p.ji p.dr p.rd (.slice A len c) (.slice AL ll cl) p.fr (.slice AQ lq cq))] w0 (gL w0 (iO p))):=eJ fun w0 hB=>ox p A len c AL ll cl AQ lq cq w0 s1 I T (s2.below hB) (O.below hB) (K.below hB);have J:=eJ h0;clear z s1 I T s2 O K h0;go_enter func93,ntmps93;go_wp2_with fail;refine(E.out _ j.out.old).mono ?_;rintro e w3 C;rcases C.2 with ⟨h,_⟩|⟨_,v,rfl,s⟩
 ·exact absurd h J.out
 have U:=eJ s;have X:=eJ (j.out.old.trans (C.1.mono j.out.old.size));obtain⟨t,u,rfl⟩:=s.iface;clear C s j E i0 i1 i2 i3 i4 i5 i6 i7 i8 i9;go_wp2_with fail;go_ret2;unfold qR;rw[aI J.out];exact⟨_,rfl,U.out,X.out⟩
theorem Gc(w:World)(h0:(iO p).1=0)(s1:p.sl.length=len)(bj:p.lk.length=ll)(bl:p.wn.length=lq)(s2:fN w A len p.sl)(bm:fA w AL ll p.lk)(bk:iV w AQ lq p.wn):Calls prog 93 #[.agg (fb p.nd p.fa p.sk p.ji p.dr p.rd (.slice A len c) (.slice AL ll cl) p.fr (.slice AQ lq cq))] w (qR w p):=by
 obtain⟨bz,cd,bn,bv,b9⟩:=o8 h0;have C:=eJ bz;have b8:=eJ bn;have b2:=eJ bv;have bq:=eJ b9;have n1:len<=32:=ah;have co:ll<=8:=ah;have ck:lq<=32:=ah;have bd:sS w (w.alloc (.cells (fb p.nd p.fa p.sk p.ji p.dr p.rd (.slice A len c) (.slice AL ll cl) p.fr (.slice AQ lq cq)) 29)) (fb p.nd p.fa p.sk p.ji p.dr p.rd (.slice A len c) (.slice AL ll cl) p.fr (.slice AQ lq cq)):=⟨eN.new w _ _,(au).alloc (ar) _⟩;have a7:=eJ bd;obtain⟨i0,i1,i2,i3,i4,i5,i6,i7,i8,i9⟩:=bd.g.eT;have bx:Hid (∀w0:World,Below w.heap.size w w0->Calls prog 129 #[.agg (fb p.nd p.fa p.sk p.ji p.dr p.rd (.slice A len c) (.slice AL ll cl) p.fr (.slice AQ lq cq))] w0 (gL w0 (iO p))):=eJ fun w0 hB=>ox p A len c AL ll cl AQ lq cq w0 s1 bj bl (s2.below hB) (bm.below hB) (bk.below hB);have bf:=eJ h0;have bb:=eJ s1;have a9:=eJ bj;have b6:=eJ bl;have S2:=eJ s2;have L2:=eJ bm;have ci:=eJ bk;clear bd s1 bj bl s2 bm bk h0 bz cd bn bv b9;go_enter func93,ntmps93;go_wp2_with fail;refine(bx.out _ a7.out.old).mono ?_;rintro e w3 be;rcases be.2 with ⟨-,rfl⟩|⟨h,_⟩;rotate_left
 ·exact absurd bf.out h
 have a6:=eJ (a7.out.below be.1);clear be a7 bx i0 i1 i2 i3 i4 i5 i6 i7 i8 i9;obtain⟨i0,i1,i2,i3,i4,i5,i6,i7,i8,i9⟩:=a6.out.g.eT;have bw:Hid (oB w (w3.alloc (.cells #[.int .i64 p.nd,.int .i64 p.fa,.int .i64 p.sk,.int .i64 p.ji,.int .i64 p.dr,.int .i64 p.rd,.int .i64 (len:Int)] 3)) (fb p.nd p.fa p.sk p.ji p.dr p.rd (.slice A len c) (.slice AL ll cl) p.fr (.slice AQ lq cq)) (.slice none 0 0) (gn [])):=eJ (oB.alloc ⟨a6.out.g,fK.nil _ _ _,fun k e=>by simp[Value.ownBlock] at e,a6.out.old⟩ _);go_wp2_with fail;have a8:Hid (Fit [p.nd.toNat,p.fa.toNat,p.sk.toNat,p.ji.toNat,p.dr.toNat,p.rd.toNat,(len:Int).toNat] 7):=eJ (Qq (by have:=C.out;omega) (by have:=C.out;omega) (by have:=C.out;omega) (by have:=C.out;omega) (by have:=C.out;omega) (by have:=C.out;omega) ah);refine(qw bw.out (N:=0) ⟨ak,ak⟩ ah (zs:=[p.nd.toNat,p.fa.toNat,p.sk.toNat,p.ji.toNat,p.dr.toNat,p.rd.toNat,(len:Int).toNat]) (n:=7) a8.out rfl ah w3.heap.size (fun k e=>by simp[Value.ownBlock] at e) (by exact PX (eN.new w3 _ _) (by have:=C.out;omega) (by have:=C.out;omega) (by have:=C.out;omega) (by have:=C.out;omega) (by have:=C.out;omega) (by have:=C.out;omega) ah)).mono ?_;rintro e w4 ⟨v4,rfl,u⟩;have j:=eJ u;clear u bw a6 i0 i1 i2 i3 i4 i5 i6 i7 i8 i9;obtain⟨i0,i1,i2,i3,i4,i5,i6,i7,i8,i9⟩:=j.out.g.eT;obtain⟨U,hA1⟩:=ab ([p.nd.toNat,p.fa.toNat,p.sk.toNat,p.ji.toNat,p.dr.toNat,p.rd.toNat,(len:Int).toNat]);rw[bQ,hA1] at j;have b3:Hid (Fit U 7):=eJ (by rw[<-hA1];exact a8.out);have ce:=eJ hA1;clear hA1 a8;have bt:Hid (∀k,Fit ((p.sl.take k).map sI).flatten (3*k)):=eJ (fun k=>vk (fun s hs=>Dq (b8.out s hs)) k);have b5:Hid (∀k,Fit ((p.lk.take k).map sJ).flatten (4*k)):=eJ (fun k=>vk (fun s hs=>Ej (b2.out s hs)) k);have cj:Hid (∀k,Fit ((p.wn.take k).map vS).flatten (3*k)):=eJ (fun k=>vk (fun s hs=>Eh (bq.out s hs)) k);go_wp2_with fail;go_loopw [5,37] (fun v i wr=> ∃k:Nat,k<=len/\i=.int .i64 k/\Hid (oB w wr (fb p.nd p.fa p.sk p.ji p.dr p.rd (.slice A len c) (.slice AL ll cl) p.fr (.slice AQ lq cq)) v (gn (U++((p.sl.take k).map sI).flatten)))) (fun _ i _=>len-(intOf i).toNat);case atStart=>exact⟨0,ah,rfl,by simpa using j⟩
 case round=>
  clear j i0 i1 i2 i3 i4 i5 i6 i7 i8 i9;obtain⟨k,hk,rfl,j⟩:=hrel;obtain⟨i0,i1,i2,i3,i4,i5,i6,i7,i8,i9⟩:=j.out.g.eT;by_cases J:k<len
  ·obtain⟨b,off,rfl,x,I,c0,c1,c2⟩:=(S2.out.below j.out.old) k J;have K:x∈p.sl:=cL I;have ap:=eJ I;have z:=eJ (b8.out x K);have E:=eJ ((j.out.alloc (.cells #[.int .i64 x.n,.int .i64 x.f,.int .i64 x.t] 86)).alloc (.cells #[.int .i64 x.n,.int .i64 x.f,.int .i64 x.t] 3));obtain⟨X,a0,Z,aa,ac,a4,am,Y,aA,al⟩:=(j.out.alloc (.cells #[.int .i64 x.n,.int .i64 x.f,.int .i64 x.t] 86)).g.eT;clear I K;go_wp2_with fail;refine(qw (zs:=sI x) (n:=3) E.out ((b3.out.app (bt.out k)):Fit _ _) ah (Dq z.out) rfl ah (wr.heap.size+1) (fun k e=>dm (j.out.o k e).2) (by exact MP (by simpa using eN.new (wr.alloc _) _ _) (by have:=z.out;omega) (by have:=z.out;omega) (by have:=z.out;omega))).mono ?_;rintro e w6 ⟨v6,rfl,u⟩;have a5:=eJ u;clear u E j i0 i1 i2 i3 i4 i5 i6 i7 i8 i9 X a0 Z aa ac a4 am Y aA al;go_wp2_with fail;go_roundw;case rel=>exact⟨k+1,ah,aq,eJ (by rw[mL sI _ _ _ ap.out,<-dn];exact a5.out)⟩
   case measure=>simp[intOf];omega
  ·obtain rfl:len=k:=ah;have T:Hid (oB w wr (fb p.nd p.fa p.sk p.ji p.dr p.rd (.slice A len c) (.slice AL ll cl) p.fr (.slice AQ lq cq)) u5 (gn (U++(p.sl.map sI).flatten))):=eJ (by have:=j.out;rw[bC (by rw[bb.out];omega)] at this;exact this);have O:Hid (Fit (U++(p.sl.map sI).flatten) (7+3*len)):=eJ (by have:=b3.out.app (bt.out len);rw[bC (by rw[bb.out];omega)] at this;exact this);have E:=eJ (T.out.alloc (.cells #[.int .i64 (ll:Int)] 3));clear j J hk;go_wp2_with fail;refine(qw (zs:=[(ll:Int).toNat]) (n:=1) E.out O.out ah (O6 ah) rfl ah wr.heap.size (fun k e=>(T.out.o k e).2) (by exact Pa (eN.new wr _ _) ah)).mono ?_;rintro e w7 ⟨cm,rfl,u⟩;have j:=eJ u;obtain⟨a2,hA2⟩:=ab (U++(p.sl.map sI).flatten++[(ll:Int).toNat]);rw[hA2] at j;have b7:Hid (Fit a2 104):=eJ (by rw[<-hA2];have:=(O.out.app (O6 (show(ll:Int).toNat<=1000 from ah)):Fit _ _);exact⟨this.1,by have:=this.2;omega⟩);have cb:=eJ hA2;clear u E T O hA2 i0 i1 i2 i3 i4 i5 i6 i7 i8 i9;obtain⟨i0,i1,i2,i3,i4,i5,i6,i7,i8,i9⟩:=j.out.g.eT;go_wp2_with fail;obtain⟨ad,rfl⟩: ∃ad:World,ad=wr:=⟨_,rfl⟩;go_loopw [5,62] (fun v i wr=> ∃k:Nat,k<=ll/\i=.int .i64 k/\Hid (oB w wr (fb p.nd p.fa p.sk p.ji p.dr p.rd (.slice A len c) (.slice AL ll cl) p.fr (.slice AQ lq cq)) v (gn (a2++((p.lk.take k).map sJ).flatten)))) (fun _ i _=>ll-(intOf i).toNat);case atStart=>exact⟨0,ah,rfl,by simpa using j⟩
   case round=>
    clear j i0 i1 i2 i3 i4 i5 i6 i7 i8 i9;obtain⟨k,hk,rfl,j⟩:=hrel;obtain⟨i0,i1,i2,i3,i4,i5,i6,i7,i8,i9⟩:=j.out.g.eT;by_cases J:k<ll
    ·obtain⟨b,off,rfl,x,I,c0,c1,c2,c3⟩:=(L2.out.below j.out.old) k J;have K:x∈p.lk:=cL I;have ap:=eJ I;have z:=eJ (b2.out x K);have E:=eJ ((j.out.alloc (.cells #[.int .i64 x.f,.int .i64 x.t,.int .i64 x.b,.int .i64 x.q] 88)).alloc (.cells #[.int .i64 x.f,.int .i64 x.t,.int .i64 x.b,.int .i64 x.q] 3));obtain⟨X,a0,Z,aa,ac,a4,am,Y,aA,al⟩:=(j.out.alloc (.cells #[.int .i64 x.f,.int .i64 x.t,.int .i64 x.b,.int .i64 x.q] 88)).g.eT;clear I K;go_wp2_with fail;refine(qw (zs:=sJ x) (n:=4) E.out ((b7.out.app (b5.out k)):Fit _ _) ah (Ej z.out) rfl ah (wr.heap.size+1) (fun k e=>dm (j.out.o k e).2) (by exact PD (by simpa using eN.new (wr.alloc _) _ _) (by have:=z.out;omega) (by have:=z.out;omega) (by have:=z.out;omega) (by have:=z.out;omega))).mono ?_;rintro e w6 ⟨v6,rfl,u⟩;have a5:=eJ u;clear u E j i0 i1 i2 i3 i4 i5 i6 i7 i8 i9 X a0 Z aa ac a4 am Y aA al;go_wp2_with fail;go_roundw;case rel=>exact⟨k+1,ah,aq,eJ (by rw[mL sJ _ _ _ ap.out,<-dn];exact a5.out)⟩
     case measure=>simp[intOf];omega
    ·obtain rfl:ll=k:=ah;have T:Hid (oB w wr (fb p.nd p.fa p.sk p.ji p.dr p.rd (.slice A len c) (.slice AL ll cl) p.fr (.slice AQ lq cq)) u5 (gn (a2++(p.lk.map sJ).flatten))):=eJ (by have:=j.out;rw[bC (by rw[a9.out];omega)] at this;exact this);have O:Hid (Fit (a2++(p.lk.map sJ).flatten) (104+4*ll)):=eJ (by have:=b7.out.app (b5.out ll);rw[bC (by rw[a9.out];omega)] at this;exact this);have E:=eJ (T.out.alloc (.cells #[.int .i64 p.fr,.int .i64 (lq:Int)] 3));clear j J hk;go_wp2_with fail;refine(qw (zs:=[p.fr.toNat,(lq:Int).toNat]) (n:=2) E.out O.out ah (PT (by have:=C.out;omega) ah) rfl ah wr.heap.size (fun k e=>(T.out.o k e).2) (by exact PI (eN.new wr _ _) (by have:=C.out;omega) ah)).mono ?_;rintro e w8 ⟨v8,rfl,u⟩;have j:=eJ u;obtain⟨bi,hA3⟩:=ab (a2++(p.lk.map sJ).flatten++[p.fr.toNat,(lq:Int).toNat]);rw[hA3] at j;have cc:Hid (Fit bi (104+4*ll+2)):=eJ (by rw[<-hA3];exact(O.out.app (PT (a:=p.fr) (b:=(lq:Int).toNat) (by have:=C.out;omega) ah):Fit _ _));have ca:Hid (U++(p.sl.map sI).flatten++[(ll:Int).toNat]++(p.lk.map sJ).flatten++[p.fr.toNat,(lq:Int).toNat]=bi):=eJ (by rw[<-hA3,<-cb.out]);clear u E T O hA3 i0 i1 i2 i3 i4 i5 i6 i7 i8 i9;obtain⟨i0,i1,i2,i3,i4,i5,i6,i7,i8,i9⟩:=j.out.g.eT;go_wp2_with fail;obtain⟨ad,rfl⟩: ∃ad:World,ad=wr:=⟨_,rfl⟩;go_loopw [5,89] (fun v i wr=> ∃k:Nat,k<=lq/\i=.int .i64 k/\Hid (oB w wr (fb p.nd p.fa p.sk p.ji p.dr p.rd (.slice A len c) (.slice AL ll cl) p.fr (.slice AQ lq cq)) v (gn (bi++((p.wn.take k).map vS).flatten)))) (fun _ i _=>lq-(intOf i).toNat);case atStart=>exact⟨0,ah,rfl,by simpa using j⟩
     case round=>
      clear j i0 i1 i2 i3 i4 i5 i6 i7 i8 i9;obtain⟨k,hk,rfl,j⟩:=hrel;obtain⟨i0,i1,i2,i3,i4,i5,i6,i7,i8,i9⟩:=j.out.g.eT;by_cases J:k<lq
      ·obtain⟨b,off,rfl,x,I,c0,c1,c2⟩:=(ci.out.below j.out.old) k J;have K:x∈p.wn:=cL I;have ap:=eJ I;have z:=eJ (bq.out x K);have E:=eJ ((j.out.alloc (.cells #[.int .i64 x.p,.int .i64 x.f,.int .i64 x.t] 135)).alloc (.cells #[.int .i64 x.p,.int .i64 x.f,.int .i64 x.t] 3));obtain⟨X,a0,Z,aa,ac,a4,am,Y,aA,al⟩:=(j.out.alloc (.cells #[.int .i64 x.p,.int .i64 x.f,.int .i64 x.t] 135)).g.eT;clear I K;go_wp2_with fail;refine(qw (zs:=vS x) (n:=3) E.out ((cc.out.app (cj.out k)):Fit _ _) ah (Eh z.out) rfl ah (wr.heap.size+1) (fun k e=>dm (j.out.o k e).2) (by exact MP (by simpa using eN.new (wr.alloc _) _ _) (by have:=z.out;omega) (by have:=z.out;omega) (by have:=z.out;omega))).mono ?_;rintro e w6 ⟨v6,rfl,u⟩;have a5:=eJ u;clear u E j i0 i1 i2 i3 i4 i5 i6 i7 i8 i9 X a0 Z aa ac a4 am Y aA al;go_wp2_with fail;go_roundw;case rel=>exact⟨k+1,ah,aq,eJ (by rw[mL vS _ _ _ ap.out,<-dn];exact a5.out)⟩
       case measure=>simp[intOf];omega
      ·obtain rfl:lq=k:=ah;have a3:Hid (oB w wr (fb p.nd p.fa p.sk p.ji p.dr p.rd (.slice A len c) (.slice AL ll cl) p.fr (.slice AQ lq cq)) u5 (gn (sK p))):=eJ (by have:=j.out;rw[bC (by rw[b6.out];omega),<-ca.out] at this;rw[Jv p bb.out a9.out b6.out,ce.out];exact this);obtain⟨ao,cn,b4,-⟩:=a3.out.q.shape;rw[nu] at b4;have cr:(gn (sK p)).length<=2000:=yh bf.out;have ch:Hid (qR w p (.returned (.tuple #[u5,.nilIface])) wr):=eJ (by unfold qR;rw[aM bf.out];exact⟨_,rfl,a3.out.q,a3.out.o,a3.out.old⟩);subst b4;clear a3 j J hk;go_wp2_with fail;go_ret2;exact ch.out
theorem CX(w:World)(s1:p.sl.length=len)(e:p.lk.length=ll)(s:p.wn.length=lq)(s2:fN w A len p.sl)(j:fA w AL ll p.lk)(h:iV w AQ lq p.wn):Calls prog 93 #[.agg (fb p.nd p.fa p.sk p.ji p.dr p.rd (.slice A len c) (.slice AL ll cl) p.fr (.slice AQ lq cq))] w (qR w p):=by
 by_cases h0:(iO p).1=0
 ·exact Gc p A len c AL ll cl AQ lq cq w h0 s1 e s s2 j h
 ·exact Ck p A len c AL ll cl AQ lq cq w h0 s1 e s s2 j h
end
def lK(s:ByteArray):Option Int:=match Lib.atoiAll s.data.toList with|.ok k=>if(⟨(Lib.itoa k).toArray⟩:ByteArray)=s then some k else none|_=>none
def gI:List ByteArray->Option (List Int)|[]=>some []|s::l=>match lK s with|none=>none|some k=>(gI l).map (k:: ·)
def eU(w:List ByteArray)(n:Int):Option (List Int):=if (0<=n/\(w.length:Int)≠n)\/(w.length:Int)< -n then none else gI w
theorem s7: ∀{w:List ByteArray}{l:List Int},gI w=some l->l.length=w.length|[],l,h=>by cases h;rfl|s::w,l,h=>by unfold gI at h;cases hk:lK s with|none=>rw[hk] at h;cases h|some k=>rw[hk] at h;cases hl:gI w with|none=>rw[hl] at h;cases h|some e=>rw[hl] at h;cases h;simp[s7 hl]
theorem fg{w:List ByteArray}{n:Int}{l:List Int}(h:eU w n=some l):(0<=n->(l.length:Int)=n)/\-n<=l.length:=by
 unfold eU at h;split at h
 ·cases h
 ·rename_i e;rw[s7 h];omega
def fR(n:Int):ByteArray:=⟨(Lib.itoa n).toArray⟩
def oh(e:Int):ByteArray:=⟨#[101,114,114,111,114,32]⟩++fR e
def sw(l:List Int):ByteArray:=⟨(Lib.join (l.map Lib.itoa) [32]).toArray⟩
def jO{β:Type}(s:ByteArray):List (ByteArray×β)->Option β|[]=>none|x::l=>if s=x.1 then some x.2 else jO s l
theorem lS{β:Type}{s:ByteArray}{f:β}: ∀{l:List (ByteArray×β)},jO s l=some f->∃x,x∈l/\x.1=s/\x.2=f
 |[],h=>by cases h
 |x::l,h=>by
  unfold jO at h;split at h
  ·rename_i e;cases h;exact⟨x,ak,e.symm,rfl⟩
  ·obtain⟨y,h1,h2⟩:=lS h;exact⟨y,by simp[h1],h2⟩
def Iu{β e:Type}(R:β->e->Prop):List (ByteArray×β)->List (ByteArray×e)->Prop|[],[]=>True|x::l,y::m=>(x.1=y.1/\R x.2 y.2)/\Iu R l m|_,_=>False
theorem xC{β j:Type}{R:β->j->Prop}{s:ByteArray}: ∀{l:List (ByteArray×β)}{m:List (ByteArray×j)},Iu R l m->(jO s l=none/\jO s m=none)\/∃x y,jO s l=some x/\jO s m=some y/\R x y
 |[],[],_=> .inl ⟨rfl,rfl⟩
 |[],_::_,h=>h.elim
 |_::_,[],h=>h.elim
 |x::l,y::m,⟨h1,h2⟩=>by
  unfold jO;rw[h1.1];by_cases e:s=y.1
  ·rw[aM e,aM e];exact .inr ⟨_,_,rfl,rfl,h1.2⟩
  ·rw[aI e,aI e];exact xC h2
structure Dk where
 p:Pl
 c:Option (Nat×Cl)
 r:Rn
def ld:Dk:=⟨⟨0,0,0,0,0,0,[],[],1,[]⟩,none,⟨[],[],[],[]⟩⟩
structure jM where
 o:Except Int ByteArray
 d:Dk
def fH(d:Dk)(w:List ByteArray)(n:Int)(f:List Int->jM):jM:=match eU w n with|none=>⟨.error 3,d⟩|some l=>f l
def DH(d:Dk)(f:jM):jM:=match d.c with|none=>f|some _=>⟨.error 6,d⟩
def nc(d:Dk)(f:Nat->Cl->jM):jM:=match d.c with|none=>⟨.error 6,d⟩|some x=>f x.1 x.2
def rA(e:Int)(o:ByteArray)(d:Dk):jM:=⟨if e=0 then .ok o else .error e,d⟩
def qe(d:Dk)(w:List ByteArray):jM:=fH d w 6 fun n=>DH d ⟨.ok ⟨#[112,108,97,110]⟩,{d with p:={d.p with nd:=n.getD 0 0,fa:=n.getD 1 0,sk:=n.getD 2 0,ji:=n.getD 3 0,dr:=n.getD 4 0,rd:=n.getD 5 0}}⟩
def nZ(d:Dk)(w:List ByteArray):jM:=fH d w 3 fun n=>DH d (if 32<=d.p.sl.length then⟨.error 4,d⟩ else⟨.ok (fR d.p.sl.length),{d with p:={d.p with sl:=d.p.sl++[⟨n.getD 0 0,n.getD 1 0,n.getD 2 0⟩]}}⟩)
def oe(d:Dk)(w:List ByteArray):jM:=fH d w 4 fun n=>DH d (if 8<=d.p.lk.length then⟨.error 4,d⟩ else⟨.ok (fR d.p.lk.length),{d with p:={d.p with lk:=d.p.lk++[⟨n.getD 0 0,n.getD 1 0,n.getD 2 0,n.getD 3 0⟩]}}⟩)
noncomputable def pt(p:Pl)(f0:Int)(zs:List Int):Int:=if (iO p).1≠0 then(iO p).1 else(od p f0 zs).choose
noncomputable def js(d:Dk)(w:List ByteArray):jM:=fH d w (-1) fun n=>DH d (if pt d.p (n.getD 0 0) n.tail=0 then⟨.ok ⟨#[115,116,97,114,116]⟩,{d with c:=some ((n.getD 0 0).toNat,gG d.p n.tail)}⟩ else⟨.error (pt d.p (n.getD 0 0) n.tail),d⟩)
def oy(d:Dk)(w:List ByteArray):jM:=fH d w 0 fun _=>rA (iO d.p).1 (fR (gn (sK d.p)).length) d
def oG(d:Dk)(w:List ByteArray):jM:=if w.length≠2 then⟨.error 3,d⟩ else fH d (w.take 1) 1 fun n=>nc d fun fy c=>if n.getD 0 0<0 then⟨.error 2,d⟩ else match d.p.lk[(n.getD 0 0).toNat]? with|none=>⟨.error 2,d⟩|some l=>rA (jg (w.getD 1 ⟨#[]⟩).size (c.sd (n.getD 0 0).toNat).q.length l.q) ⟨#[112,117,116]⟩ {d with c:=some (fy,mT (n.getD 0 0).toNat l (w.getD 1 ⟨#[]⟩) c)}
def MG(s:ByteArray):ByteArray:=⟨#[105,115,32]⟩++s
def kS(d:Dk)(w:List ByteArray):jM:=fH d w 2 fun n=>nc d fun fy c=>if n.getD 0 0<0\/d.p.nd<=n.getD 0 0\/n.getD 1 0<0 then⟨.error 2,d⟩ else match d.p.lk[(n.getD 1 0).toNat]? with|none=>⟨.error 2,d⟩|some l=>if kZ l.t (n.getD 0 0).toNat=false then⟨.error 2,d⟩ else match (c.pr (n.getD 1 0).toNat (n.getD 0 0).toNat).q with|[]=>⟨.error 8,d⟩|x::_=>⟨.ok (MG x),{d with c:=some (fy,lJ (n.getD 1 0).toNat (n.getD 0 0).toNat c)}⟩
def qc(d:Dk)(w:List ByteArray):jM:=fH d w 3 fun n=>nc d fun _ _=>⟨.ok ⟨#[108,111,115,101]⟩,{d with r:={d.r with ls:=d.r.ls++[⟨n.getD 0 0,n.getD 1 0,n.getD 2 0⟩]}}⟩
def pO(d:Dk)(w:List ByteArray):jM:=fH d w 3 fun n=>nc d fun _ _=>⟨.ok ⟨#[114,101,97,100]⟩,{d with r:={d.r with rg:=d.r.rg++[⟨n.getD 0 0,n.getD 1 0,n.getD 2 0⟩]}}⟩
def mW(d:Dk)(w:List ByteArray):jM:=fH d w (-1) fun n=>nc d fun _ _=>⟨.ok ⟨#[100,114,105,102,116]⟩,{d with r:={d.r with dr:=n}}⟩
def pY(d:Dk)(w:List ByteArray):jM:=fH d w (-1) fun n=>nc d fun _ _=>⟨.ok ⟨#[109,111,100,101]⟩,{d with r:={d.r with md:=n}}⟩
def kL(d:Dk)(w:List ByteArray):jM:=fH d w 0 fun _=>nc d fun fy c=>if kQ d.p fy d.r c=0 then⟨.ok (fR (gD d.p fy d.r c).rd),{d with c:=some (fy,gD d.p fy d.r c),r:=⟨[],[],[],[]⟩}⟩ else⟨.error (kQ d.p fy d.r c),{d with c:=some (fy,gD d.p fy d.r c)}⟩
def lX(d:Dk)(w:List ByteArray):jM:=fH d w 0 fun _=>nc d fun _ c=>⟨.ok (sw c.ck),d⟩
def yD(p:Pl)(fy:Nat)(c:Cl)(x:Int):Prop:= ∃a b,x=a-b/\rW (fP fy c.ck p.nd.toNat) a/\rM (fP fy c.ck p.nd.toNat) b
theorem yD.one{p:Pl}{fy:Nat}{c:Cl}{x y:Int}(h:yD p fy c x)(h2:yD p fy c y):x=y:=by obtain⟨a,b,rfl,⟨⟨j,J,rfl⟩,I⟩,⟨⟨k,hk,rfl⟩,E⟩⟩:=h;obtain⟨O,T,rfl,⟨⟨s,C,rfl⟩,u⟩,⟨⟨z,K,rfl⟩,e⟩⟩:=h2;have h1:=I s C;have h2:=u j J;have h3:=E z K;have h4:=e k hk;omega
open Classical in noncomputable def C9(p:Pl)(fy:Nat)(c:Cl):Int:=if h: ∃x,yD p fy c x then h.choose else 0
theorem yD.eq{p:Pl}{fy:Nat}{c:Cl}{x:Int}(h:yD p fy c x):x=C9 p fy c:=by have he: ∃x,yD p fy c x:=⟨x,h⟩;unfold C9;rw[dif_pos he];exact h.one he.choose_spec
noncomputable def lW(d:Dk)(w:List ByteArray):jM:=fH d w 0 fun _=>nc d fun fy c=>⟨.ok (fR (C9 d.p fy c)),d⟩
def jG(d:Dk)(w:List ByteArray):jM:=fH d w 1 fun n=>nc d fun _ c=>if n.getD 0 0<0\/d.p.nd<=n.getD 0 0 then⟨.error 2,d⟩ else⟨.ok (if(c.mm (n.getD 0 0).toNat).fz then fR ((c.mm (n.getD 0 0).toNat).m:Nat)++⟨#[32,102,114,111,122,101,110]⟩ else fR ((c.mm (n.getD 0 0).toNat).m:Nat)),d⟩
def Ae(d:Dk)(w:List ByteArray):jM:=fH d w (-1) fun n=>rA (lL n.tail (n.getD 0 0)) (fR (ly n.tail (n.getD 0 0))) d
def pH(d:Dk)(w:List ByteArray):jM:=fH d w 5 fun n=>rA (gy (n.getD 0 0) (n.getD 1 0) (n.getD 2 0) (n.getD 3 0) (n.getD 4 0)) (fR (iY (n.getD 0 0) (n.getD 1 0) (n.getD 2 0) (n.getD 3 0) (n.getD 4 0))) d
def tF(d:Dk)(w:List ByteArray):jM:=fH d w 5 fun n=>rA (iD (n.getD 0 0) (n.getD 1 0) (n.getD 2 0) (n.getD 3 0) (n.getD 4 0)) (fR (kj (n.getD 0 0) (n.getD 1 0) (n.getD 2 0) (n.getD 3 0) (n.getD 4 0))) d
def oR(d:Dk)(w:List ByteArray):jM:=fH d w 0 fun _=>⟨.ok ⟨#[99,108,101,97,114]⟩,ld⟩
def Nb:ByteArray:=⟨#[98,121,116,101,115,32,99,108,101,97,114,32,99,108,111,99,107,115,32,100,114,105,102,116,32,104,101,108,112,32,108,105,110,107,32,108,111,99,97,108,32,108,111,115,101,32,109,101,109,98,101,114,115,32,109,105,100,112,111,105,110,116,32,109,111,100,101,32,112,108,97,110,32,112,117,116,32,114,101,97,100,32,114,101,97,108,32,114,101,99,101,105,118,101,32,114,111,117,110,100,32,115,108,111,116,32,115,112,114,101,97,100,32,115,116,97,114,116]⟩
def tC(d:Dk)(w:List ByteArray):jM:=fH d w 0 fun _=>⟨.ok Nb,d⟩
noncomputable def Ct:List (ByteArray×(Dk->List ByteArray->jM)):=[(⟨#[98,121,116,101,115]⟩,oy),(⟨#[99,108,101,97,114]⟩,oR),(⟨#[99,108,111,99,107,115]⟩,lX),(⟨#[100,114,105,102,116]⟩,mW),(⟨#[104,101,108,112]⟩,tC),(⟨#[108,105,110,107]⟩,oe),(⟨#[108,111,99,97,108]⟩,pH),(⟨#[108,111,115,101]⟩,qc),(⟨#[109,101,109,98,101,114,115]⟩,jG),(⟨#[109,105,100,112,111,105,110,116]⟩,Ae),(⟨#[109,111,100,101]⟩,pY),(⟨#[112,108,97,110]⟩,qe),(⟨#[112,117,116]⟩,oG),(⟨#[114,101,97,100]⟩,pO),(⟨#[114,101,97,108]⟩,tF),(⟨#[114,101,99,101,105,118,101]⟩,kS),(⟨#[114,111,117,110,100]⟩,kL),(⟨#[115,108,111,116]⟩,nZ),(⟨#[115,112,114,101,97,100]⟩,lW),(⟨#[115,116,97,114,116]⟩,js)]
noncomputable def s5(s:ByteArray):Option (Dk->List ByteArray->jM):=jO s Ct
def On:Except Int ByteArray->ByteArray|.ok o=>o|.error e=>oh e
def kG(s:ByteArray):List ByteArray:=Lib.goFieldsP (fun x=>x==32) s
noncomputable def fh(d:Dk)(s:ByteArray):ByteArray×Dk:=match kG s with|[]=>(⟨#[111,107]⟩,d)|x::w=>match s5 x with|none=>(oh 3,d)|some f=>(On (f d w).o,(f d w).d)
noncomputable def Ql(d:Dk)(l:List ByteArray):List UInt8:=kr fh d l
noncomputable def mu(s:List UInt8):List UInt8:=if 20000<s.length then [101,114,114,111,114,32,52,10] else Ql ld (vg s)
def DR:List (ByteArray×Int):=[(⟨#[98,121,116,101,115]⟩,0),(⟨#[99,108,101,97,114]⟩,0),(⟨#[99,108,111,99,107,115]⟩,0),(⟨#[100,114,105,102,116]⟩,-1),(⟨#[104,101,108,112]⟩,0),(⟨#[108,105,110,107]⟩,4),(⟨#[108,111,99,97,108]⟩,5),(⟨#[108,111,115,101]⟩,3),(⟨#[109,101,109,98,101,114,115]⟩,1),(⟨#[109,105,100,112,111,105,110,116]⟩,-1),(⟨#[109,111,100,101]⟩,-1),(⟨#[112,108,97,110]⟩,6),(⟨#[112,117,116]⟩,2),(⟨#[114,101,97,100]⟩,3),(⟨#[114,101,97,108]⟩,5),(⟨#[114,101,99,101,105,118,101]⟩,2),(⟨#[114,111,117,110,100]⟩,0),(⟨#[115,108,111,116]⟩,3),(⟨#[115,112,114,101,97,100]⟩,0),(⟨#[115,116,97,114,116]⟩,-1)]
def Jp:ByteArray:=⟨#[112,117,116]⟩
def OW(x:ByteArray)(ws:List ByteArray):List ByteArray:=if x=Jp then ws.take 1 else ws
def wT(k:Int)(n:Nat):Bool:=(decide (0<=k)&&decide ((n:Int)=k))||(decide (k<0)&&decide (0<n))
def okW(x:ByteArray)(ws:List ByteArray):Option (List Int):=match jO x DR with|none=>none|some k=>if wT k ws.length=true then gI (OW x ws) else none
theorem jC{k:Int}{ws:List ByteArray}(hk:-1<=k):eU ws k=if wT k ws.length=true then gI ws else none:=by
 unfold eU;have:wT k ws.length=true↔¬((0<=k/\(ws.length:Int)≠k)\/(ws.length:Int)< -k):=by unfold wT;simp only[dA,cR,bI];omega
 by_cases h:wT k ws.length=true
 ·rw[aM h,aI (this.1 h)]
 ·rw[aI h,aM (by rw[this] at h;exact dx.1 h)]
theorem xZ(s:ByteArray): ∀l:List ByteArray,gI (l++[s])=(match gI l,lK s with|some a,some k=>some (a++[k])|_,_=>none)|[]=>by rw[bQ];unfold gI;cases lK s<;>rfl|x::l=>by rw[bE,gI,xZ s l,gI];cases lK x with|none=>rfl|some a=>cases gI l with|none=>cases lK s<;>rfl|some b=>cases lK s<;>rfl
theorem yN{x:ByteArray}{f:Dk->List ByteArray->jM}(h:s5 x=some f):(x=⟨#[98,121,116,101,115]⟩/\f=oy)\/(x=⟨#[99,108,101,97,114]⟩/\f=oR)\/(x=⟨#[99,108,111,99,107,115]⟩/\f=lX)\/(x=⟨#[100,114,105,102,116]⟩/\f=mW)\/(x=⟨#[104,101,108,112]⟩/\f=tC)\/(x=⟨#[108,105,110,107]⟩/\f=oe)\/(x=⟨#[108,111,99,97,108]⟩/\f=pH)\/(x=⟨#[108,111,115,101]⟩/\f=qc)\/(x=⟨#[109,101,109,98,101,114,115]⟩/\f=jG)\/(x=⟨#[109,105,100,112,111,105,110,116]⟩/\f=Ae)\/(x=⟨#[109,111,100,101]⟩/\f=pY)\/(x=⟨#[112,108,97,110]⟩/\f=qe)\/(x=⟨#[112,117,116]⟩/\f=oG)\/(x=⟨#[114,101,97,100]⟩/\f=pO)\/(x=⟨#[114,101,97,108]⟩/\f=tF)\/(x=⟨#[114,101,99,101,105,118,101]⟩/\f=kS)\/(x=⟨#[114,111,117,110,100]⟩/\f=kL)\/(x=⟨#[115,108,111,116]⟩/\f=nZ)\/(x=⟨#[115,112,114,101,97,100]⟩/\f=lW)\/(x=⟨#[115,116,97,114,116]⟩/\f=js):=by obtain⟨y,e,rfl,rfl⟩:=lS h;unfold Ct at e;simp only[bR,cC,ec] at e;rcases e with rfl|rfl|rfl|rfl|rfl|rfl|rfl|rfl|rfl|rfl|rfl|rfl|rfl|rfl|rfl|rfl|rfl|rfl|rfl|rfl<;>simp
theorem zP(ws:List ByteArray):okW ⟨#[98,121,116,101,115]⟩ ws=eU ws (0):=by rw[jC ah];kernel_rfl
theorem zL(ws:List ByteArray):okW ⟨#[99,108,101,97,114]⟩ ws=eU ws (0):=by rw[jC ah];kernel_rfl
theorem yb(ws:List ByteArray):okW ⟨#[99,108,111,99,107,115]⟩ ws=eU ws (0):=by rw[jC ah];kernel_rfl
theorem zD(ws:List ByteArray):okW ⟨#[100,114,105,102,116]⟩ ws=eU ws (-1):=by rw[jC ah];kernel_rfl
theorem DF(ws:List ByteArray):okW ⟨#[104,101,108,112]⟩ ws=eU ws (0):=by rw[jC ah];kernel_rfl
theorem Ec(ws:List ByteArray):okW ⟨#[108,105,110,107]⟩ ws=eU ws (4):=by rw[jC ah];kernel_rfl
theorem zX(ws:List ByteArray):okW ⟨#[108,111,99,97,108]⟩ ws=eU ws (5):=by rw[jC ah];kernel_rfl
theorem DS(ws:List ByteArray):okW ⟨#[108,111,115,101]⟩ ws=eU ws (3):=by rw[jC ah];kernel_rfl
theorem vX(ws:List ByteArray):okW ⟨#[109,101,109,98,101,114,115]⟩ ws=eU ws (1):=by rw[jC ah];kernel_rfl
theorem tu(ws:List ByteArray):okW ⟨#[109,105,100,112,111,105,110,116]⟩ ws=eU ws (-1):=by rw[jC ah];kernel_rfl
theorem Ds(ws:List ByteArray):okW ⟨#[109,111,100,101]⟩ ws=eU ws (-1):=by rw[jC ah];kernel_rfl
theorem Dp(ws:List ByteArray):okW ⟨#[112,108,97,110]⟩ ws=eU ws (6):=by rw[jC ah];kernel_rfl
theorem DL(ws:List ByteArray):okW ⟨#[114,101,97,100]⟩ ws=eU ws (3):=by rw[jC ah];kernel_rfl
theorem DA(ws:List ByteArray):okW ⟨#[114,101,97,108]⟩ ws=eU ws (5):=by rw[jC ah];kernel_rfl
theorem uI(ws:List ByteArray):okW ⟨#[114,101,99,101,105,118,101]⟩ ws=eU ws (2):=by rw[jC ah];kernel_rfl
theorem zw(ws:List ByteArray):okW ⟨#[114,111,117,110,100]⟩ ws=eU ws (0):=by rw[jC ah];kernel_rfl
theorem DV(ws:List ByteArray):okW ⟨#[115,108,111,116]⟩ ws=eU ws (3):=by rw[jC ah];kernel_rfl
theorem xM(ws:List ByteArray):okW ⟨#[115,112,114,101,97,100]⟩ ws=eU ws (0):=by rw[jC ah];kernel_rfl
theorem Bi(ws:List ByteArray):okW ⟨#[115,116,97,114,116]⟩ ws=eU ws (-1):=by rw[jC ah];kernel_rfl
theorem G2(ws:List ByteArray):okW ⟨#[112,117,116]⟩ ws=if wT 2 ws.length=true then gI (ws.take 1) else none:=ai
theorem DP{ws:List ByteArray}{l:List Int}(h:okW ⟨#[112,117,116]⟩ ws=some l):ws.length=2/\eU (ws.take 1) 1=some l:=by
 rw[G2] at h;split at h
 ·rename_i e;have hl:ws.length=2:=by unfold wT at e;simp at e;omega
  refine⟨hl, ?_⟩;unfold eU;rw[aI (by rw[bP,hl];omega)];exact h
 ·cases h
theorem Lz{x:ByteArray}{f:Dk->List ByteArray->jM}(e:s5 x=some f){d:Dk}{ws:List ByteArray}(h:okW x ws=none):f d ws=⟨.error 3,d⟩:=by
 rcases yN e with ⟨rfl,rfl⟩|⟨rfl,rfl⟩|⟨rfl,rfl⟩|⟨rfl,rfl⟩|⟨rfl,rfl⟩|⟨rfl,rfl⟩|⟨rfl,rfl⟩|⟨rfl,rfl⟩|⟨rfl,rfl⟩|⟨rfl,rfl⟩|⟨rfl,rfl⟩|⟨rfl,rfl⟩|⟨rfl,rfl⟩|⟨rfl,rfl⟩|⟨rfl,rfl⟩|⟨rfl,rfl⟩|⟨rfl,rfl⟩|⟨rfl,rfl⟩|⟨rfl,rfl⟩|⟨rfl,rfl⟩
 ·rw[zP] at h;unfold oy fH;rw[h]
 ·rw[zL] at h;unfold oR fH;rw[h]
 ·rw[yb] at h;unfold lX fH;rw[h]
 ·rw[zD] at h;unfold mW fH;rw[h]
 ·rw[DF] at h;unfold tC fH;rw[h]
 ·rw[Ec] at h;unfold oe fH;rw[h]
 ·rw[zX] at h;unfold pH fH;rw[h]
 ·rw[DS] at h;unfold qc fH;rw[h]
 ·rw[vX] at h;unfold jG fH;rw[h]
 ·rw[tu] at h;unfold Ae fH;rw[h]
 ·rw[Ds] at h;unfold pY fH;rw[h]
 ·rw[Dp] at h;unfold qe fH;rw[h]
 ·rw[G2] at h;unfold oG;by_cases hl:ws.length=2
  ·rw[aI ah];rw[aM (by unfold wT;rw[hl];decide)] at h;unfold fH eU;rw[aI (by rw[bP,hl];omega),h]
  ·rw[aM hl]
 ·rw[DL] at h;unfold pO fH;rw[h]
 ·rw[DA] at h;unfold tF fH;rw[h]
 ·rw[uI] at h;unfold kS fH;rw[h]
 ·rw[zw] at h;unfold kL fH;rw[h]
 ·rw[DV] at h;unfold nZ fH;rw[h]
 ·rw[xM] at h;unfold lW fH;rw[h]
 ·rw[Bi] at h;unfold js fH;rw[h]
theorem Ij{s x:ByteArray}{ws:List ByteArray}{d:Dk}(hs:kG s=x::ws)(h:okW x ws=none):fh d s=(oh 3,d):=by unfold fh;rw[hs];dsimp only;cases e:s5 x with|none=>rfl|some f=>dsimp only;rw[Lz e h];rfl
theorem Oh{x:ByteArray}{ws:List ByteArray}{l:List Int}(h:okW x ws=some l): ∃f,s5 x=some f:=by unfold okW at h;cases hk:jO x DR with|none=>rw[hk] at h;cases h|some k=>obtain⟨y,e,rfl,-⟩:=lS hk;unfold DR at e;simp only[bR,cC,ec] at e;rcases e with rfl|rfl|rfl|rfl|rfl|rfl|rfl|rfl|rfl|rfl|rfl|rfl|rfl|rfl|rfl|rfl|rfl|rfl|rfl|rfl;all_goals exact⟨_,rfl⟩
end Go.Proofs.YtideefjnlakciaaGreatDoor
