/- Small facts on memory blocks that every walk of this seat uses; no condition. -/
import Derived.Test.YtideefjnlakciaaGreatDoorQ00
import Derived.Test.YtideefjnlakciaaGreatDoorRows
import Derived.WalkKit
import Derived.WalkSpells
import Derived.WalkLawsBesides
import Derived.Deep.QuietTactic
import Derived.BigQuiet
import Derived.Laws.OwnMore
import Derived.Deep.Draws
import Derived.Laws.Rows
import Derived.Deep.OwnRows
import Derived.ArgAppend
import Derived.RegionTactic
import Derived.Deep.Upon
import Derived.Deep.AppendLies
import Derived.Deep.RegionHeld3
import Derived.Deep.Cut
import Derived.Deep.CutRange
import Derived.Deep.CutBlock
import Derived.Laws.BitsAllLaws
import Derived.Laws.BitsLemmas
import Derived.Laws.Shifts
import Derived.Laws.ShiftsVar
import Derived.Laws.ShiftsVarLaws
set_option maxRecDepth 1000000
set_option maxHeartbeats 20000000
set_option linter.unusedVariables false
set_option linter.unusedSimpArgs false
namespace Go.Proofs.YtideefjnlakciaaGreatDoor
open Go.RowKit Go.Proofs.Tryz
theorem gB{a b:Bool}(h:a=b):Ending.returned (.bool a)=.returned (.bool b):=by rw[h]
theorem lh{k:IntKind}{a b:Int}(h:a=b):Ending.returned (.int k a)=.returned (.int k b):=by rw[h]
theorem eJ{p:Prop}(h:p):Hid p:=h
def eN(w:World)(g:Nat)(t:TypeId)(cs:Array Value):Prop:=w.heap[g]? =some (.cells cs t (0,0))
section
variable {w w':World}{g:Nat}{t:TypeId}{cs:Array Value}
theorem eN.lt(h:eN w g t cs):g<w.heap.size:=by
 rcases bW g w.heap.size with e|j
 ·exact e
 ·unfold eN at h;rw[da j] at h;cases h
theorem eN.cell(h:eN w g t cs)(i:Nat):w.cell? ⟨g,i,none⟩=cs[i]? :=dC w g i cs t (0,0) h
theorem eN.frozen(h:eN w g t cs)(i:Nat):w.frozen? ⟨g,i,none⟩=false:=by unfold eN at h;simp[World.frozen?,h]
theorem eN.new(w:World)(t:TypeId)(cs:Array Value):eN (w.alloc (.cells cs t)) w.heap.size t cs:=heap_alloc_new w _
theorem eN.drew(h:eN w g t cs):eN w.drew g t cs:=h
theorem eN.drewN(h:eN w g t cs)(n:Nat):eN (w.drewN n) g t cs:=h
theorem eN.alloc(h:eN w g t cs)(o:Obj):eN (w.alloc o) g t cs:=(bu w o g h.lt).trans h
theorem eN.eS(h:eN w g t cs)(i:Nat)(u:Value):eN (w.setCell ⟨g,i,none⟩ u) g t (cs.setIfInBounds i u):=by unfold eN at h⊢;simp[World.setCell,ee,h]
theorem eN.iI(h:eN w g t cs){p:Addr}(hp:g≠p.block)(u:Value):eN (w.setCell p u) g t cs:=(aW w p u g hp).trans h
theorem eN.below{B:Nat}(h:eN w g t cs)(j:Below B w w')(e:g<B):eN w' g t cs:=(j.block g e).trans h
theorem eN.grown{row:Option Nat}(h:eN w g t cs)(j:w.grownBy w' row)(e:some g≠row):eN w' g t cs:=(j.block g h.lt e).trans h
end
theorem below_drewN{B:Nat}{a w:World}(h:Below B a w)(n:Nat):Below B a (w.drewN n):=⟨h.os,h.tape,h.output,h.size,h.block⟩
theorem fw(w:World)(row:Option Nat):w.grownBy w row:=World.grownBy.refl w row
theorem gT{a w:World}{row:Option Nat}(h:a.grownBy w row)(n:Nat):a.grownBy (w.drewN n) row:=⟨h.os,h.tape,h.output,h.size,h.block⟩
theorem iy{a w:World}{row:Option Nat}(h:a.grownBy w row):a.grownBy w.drew row:=⟨h.os,h.tape,h.output,h.size,h.block⟩
theorem jN{a w:World}{row:Option Nat}(h:a.drew.grownBy w row):a.grownBy w row:=⟨h.os,h.tape,h.output,h.size,h.block⟩
theorem gM{a w:World}{row:Option Nat}(h:a.grownBy w row)(o:Obj):a.grownBy (w.alloc o) row:=⟨h.os,h.tape,h.output,aK h.size ak,fun i hi e=>(bu w o i (aN hi h.size)).trans (h.block i hi e)⟩
theorem eQ{a w:World}{g:Nat}(h:a.grownBy w (some g)){p:Addr}(hp:p.block=g\/a.heap.size<=p.block)(u:Value):a.grownBy (w.setCell p u) (some g):=⟨h.os,h.tape,h.output,by simpa[World.setCell] using h.size,fun i hi e=>(aW w p u i (by
 rintro rfl;rcases hp with hp|hp
 ·exact e (by rw[hp])
 ·omega)).trans (h.block i hi e)⟩
theorem lV{a w:World}(h:Below a.heap.size a w)(row:Option Nat):a.grownBy w row:=⟨h.os,h.tape,h.output,h.size,fun i hi _=>h.block i hi⟩
def gv(e:Int):Value:=if e=0 then .nilIface else .iface 61 (.int .i64 e)
@[go_sem] theorem P5(e:Int)(w:World):(binOp .eql 48 (gv e) .nilIface).run prog w=.ok (.bool (e==0)) w:=by
 unfold gv;by_cases h:e=0
 ·simp[h,go_sem]
 ·simp[h,go_sem]
@[go_sem] theorem errV_neq(e:Int)(w:World):(binOp .neq 48 (gv e) .nilIface).run prog w=.ok (.bool (e !=0)) w:=by
 unfold gv;by_cases h:e=0
 ·simp[h,go_sem]
 ·simp[h,go_sem]
@[go_sem] theorem eqGuard_errV(op:BinOp)(t:TypeId)(x:Operand)(c:Value)(e:Int):eqGuard op t x (.const c) (gv e) .nilIface=pure ():=by
 unfold gv;by_cases h:e=0
 ·simp[h,go_sem]
 ·simp[h,go_sem]
theorem eN.cells1{w:World}{g:Nat}{t:TypeId}{a:Value}(h:eN w g t #[a]):w.cell? ⟨g,0,none⟩=some a/\w.frozen? ⟨g,0,none⟩=false:=⟨by simpa using h.cell 0,h.frozen 0⟩
theorem eN.fQ{w:World}{g:Nat}{t:TypeId}{a b:Value}(h:eN w g t #[a,b]):w.cell? ⟨g,0,none⟩=some a/\w.cell? ⟨g,1,none⟩=some b/\w.frozen? ⟨g,0,none⟩=false/\w.frozen? ⟨g,1,none⟩=false:=⟨by simpa using h.cell 0,by simpa using h.cell 1,h.frozen 0,h.frozen 1⟩
theorem eN.lH{w:World}{g:Nat}{t:TypeId}{a b c d:Value}(h:eN w g t #[a,b,c,d]):w.cell? ⟨g,0,none⟩=some a/\w.cell? ⟨g,1,none⟩=some b/\w.cell? ⟨g,2,none⟩=some c/\w.cell? ⟨g,3,none⟩=some d:=⟨by simpa using h.cell 0,by simpa using h.cell 1,by simpa using h.cell 2,by simpa using h.cell 3⟩
def fK(w:World)(base:Nat)(e:TypeId)(v:Value)(l:List Value):Prop:=(l=[]/\∃ao,v=.slice ao 0 0/\∀x,ao=some x->base<=x.block/\∃cur,w.heap[x.block]? =some (.cells cur e (0,0)))\/∃g off cap cur,v=.slice (some ⟨g,off,none⟩) l.length cap/\base<=g/\w.heap[g]? =some (.cells cur e (0,0))/\0<cap/\l.length<=cap/\cap<=maxLen/\cur.size=off+cap/\∀j,j<l.length->cur[off+j]? =l[j]?
theorem fK.nil(w:World)(base:Nat)(e:TypeId)(ao:Option Addr:=none):fK w base e (.slice none 0 0) []:=.inl ⟨rfl,none,rfl,fun x h=>by cases h⟩
theorem fK.s6{w:World}{base b2:Nat}{e:TypeId}{v:Value}{n:Nat}{l:List Value}(h:w.ownsRow b2 e 1 v n l)(E:base<=b2):fK w base e v l:=by
 obtain⟨hl,h|⟨g,cap,cur,s,z,u,hn,hm,hs,I⟩⟩:=h
 ·obtain⟨rfl,rfl⟩:=h;exact .inl ⟨bN ah,none,rfl,fun x h=>by cases h⟩
 ·have J:l.length=n:=ah;by_cases C:cap=0
  ·exact .inl ⟨bN ah,some ⟨g,0,none⟩,by rw[s,C];congr 1;omega,fun x h=>by cases h;exact⟨aK E z,cur,u⟩⟩
  ·refine .inr ⟨g,0,cap,cur,by rw[J];exact s,ah,u,ah,ah,hm,ah,fun j K=> ?_⟩;rw[bB,<-I,dh];rw[aM ah];simp
theorem fK.shape{w:World}{base:Nat}{e:TypeId}{v:Value}{l:List Value}(h:fK w base e v l): ∃ao c,v=.slice ao l.length c/\l.length<=c:=by
 rcases h with ⟨rfl,ao,rfl,_⟩|⟨g,off,cap,cur,rfl,_,_,_,hl,_⟩
 ·exact⟨ao,0,rfl,ar⟩
 ·exact⟨_,_,rfl,hl⟩
theorem fK.block{w:World}{base:Nat}{e:TypeId}{ao:Option Addr}{n c:Nat}{l:List Value}(h:fK w base e (.slice ao n c) l)(hn:0<n): ∃g off,ao=some ⟨g,off,none⟩/\base<=g/\g<w.heap.size/\∀j,j<n->w.cell? ⟨g,off+j,none⟩=l[j]? :=by
 rcases h with ⟨rfl,I,s,_⟩|⟨g,off,cap,cur,s,C,u,J,hl,hm,hs,E⟩
 ·cases s;omega
 ·cases s;exact⟨g,off,rfl,C,(aS.1 u).1,fun j z=>by rw[dC w g (off+j) cur e (0,0) u];exact E j z⟩
theorem fK.iP{w w':World}{base:Nat}{e:TypeId}{v:Value}{l:List Value}(h:fK w base e v l)(hk: ∀g,base<=g->g<w.heap.size->v.ownBlock=some g->w'.heap[g]? =w.heap[g]?):fK w' base e v l:=by
 rcases h with ⟨h1,ao,rfl,h3⟩|⟨g,off,cap,cur,rfl,u,s,r⟩
 ·exact .inl ⟨h1,ao,rfl,fun x j=>by obtain⟨h4,cur,h5⟩:=h3 x j;subst j;exact⟨h4,cur,(hk x.block h4 (aS.1 h5).1 rfl).trans h5⟩⟩
 ·exact .inr ⟨g,off,cap,cur,rfl,u,by rw[hk g u (aS.1 s).1 rfl];exact s,r⟩
theorem fK.below{w w':World}{base B:Nat}{e:TypeId}{v:Value}{l:List Value}(h:fK w base e v l)(hB:Below B w w')(hs:w.heap.size<=B):fK w' base e v l:=h.iP (fun g _ j _=>hB.block g ah)
theorem fK.iI{w:World}{base:Nat}{e:TypeId}{v:Value}{l:List Value}(h:fK w base e v l){p:Addr}(hp:v.ownBlock≠some p.block)(u:Value):fK (w.setCell p u) base e v l:=h.iP (fun g _ _ j=>aW w p u g (by rintro rfl;exact hp j))
theorem fK.alloc{w:World}{base:Nat}{e:TypeId}{v:Value}{l:List Value}(h:fK w base e v l)(o:Obj):fK (w.alloc o) base e v l:=h.iP (fun g _ j _=>bu w o g j)
theorem fK.drew{w:World}{base:Nat}{e:TypeId}{v:Value}{l:List Value}(h:fK w base e v l):fK w.drew base e v l:=h.iP (fun _ _ _ _=>rfl)
theorem fK.drewN{w:World}{base:Nat}{e:TypeId}{v:Value}{l:List Value}(h:fK w base e v l)(n:Nat):fK (w.drewN n) base e v l:=h.iP (fun _ _ _ _=>rfl)
theorem fK.mono{w:World}{base b2:Nat}{e:TypeId}{v:Value}{l:List Value}(h:fK w base e v l)(u:b2<=base):fK w b2 e v l:=by
 rcases h with ⟨h1,ao,h2,h3⟩|⟨g,off,cap,cur,s,h2,r⟩
 ·exact .inl ⟨h1,ao,h2,fun x j=>⟨aK u (h3 x j).1,(h3 x j).2⟩⟩
 ·exact .inr ⟨g,off,cap,cur,s,ah,r⟩
theorem fK.tail{w:World}{base:Nat}{e:TypeId}{g off n c:Nat}{x:Value}{l:List Value}(h:fK w base e (.slice (some ⟨g,off,none⟩) n c) (x::l)):fK w base e (.slice (if c=1 then some ⟨g,off,none⟩ else some ⟨g,off+1,none⟩) (n-1) (c-1)) l:=by
 rcases h with ⟨h,_⟩|⟨g',J,cap,cur,C,u,s,K,hl,hm,hs,E⟩
 ·cases h
 ·cases C;simp only[aP,dD] at*;by_cases h1:c=1
  ·rw[aM h1];have z:l.length=0:=ah;exact .inl ⟨bN z,some ⟨g,off,none⟩,by rw[z,h1],fun x h=>by cases h;exact⟨u,cur,s⟩⟩
  ·rw[aI h1];refine .inr ⟨g,off+1,c-1,cur,rfl,u,s,ah,ah,ah,ah,fun j I=> ?_⟩;have:=E (j+1) ah;rw[cf] at this;rw[<-this];congr 1;omega
section
variable {P:Program}
theorem yE(w:World)(base:Nat)(t ty e:TypeId)(i:TypeInfo)(z:Value)(bytes:Nat)(X:P.underlying t=some (.slice e))(hi:P.info? e=some i)(ac:i.zero=some z)(J:i.size=1)(am:i.bytes=bytes)(a5:z.cells.size=1)(v:Value)(l:List Value)(bi:fK w base e v l)(B o c:Nat)(u:Value)(bj:w.cell? ⟨B,o,none⟩=some u)(h1:u.oneCell'=true)(h63:l.length+1<=maxLen)(ad:(l.length+1)*bytes<=140737488355328)(a7:base<=w.heap.size): ∃g off cap w',(Builtin.append_ #[t,t] ty #[v,.slice (some ⟨B,o,none⟩) 1 c]).run P w=.ok (.slice (some ⟨g,off,none⟩) (l.length+1) cap) w'/\fK w' base e (.slice (some ⟨g,off,none⟩) (l.length+1) cap) (l++[u])/\w.grownBy w' v.ownBlock/\(v.ownBlock=some g\/w.heap.size<=g)/\base<=g/\g<w'.heap.size:=by
 have Z: ∀(g o j:Nat),(⟨g,o,none⟩:Addr).add j=⟨g,o+j,none⟩:=by intro g o j;unfold Addr.add;split<;>simp_all
 have hn: ∀j O,[u][j]? =some O->w.cell? ((⟨B,o,none⟩:Addr).add j)=some O:=by intro j O h;cases j with|zero=>simp at h;subst h;rw[Z];exact bj|succ j=>simp at h
 have a3: ∀x∈[u],x.oneCell'=true:=by intro x a0;simp at a0;subst a0;exact h1
 have grow: ∀(ao:Option Addr)(n cap:Nat),(ao=none->n=0/\cap=0)->l.length=n->cap<n+1->(∀b,ao=some b->∀j u,l[j]? =some u->w.cell? (b.add j)=some u)->v=.slice ao n cap->∃g off cap w',(Builtin.append_ #[t,t] ty #[v,.slice (some ⟨B,o,none⟩) 1 c]).run P w=.ok (.slice (some ⟨g,off,none⟩) (l.length+1) cap) w'/\fK w' base e (.slice (some ⟨g,off,none⟩) (l.length+1) cap) (l++[u])/\w.grownBy w' v.ownBlock/\(v.ownBlock=some g\/w.heap.size<=g)/\base<=g/\g<w'.heap.size:=by
  intro ao n cap bm a8 bf hold C;subst a8;have aa: ∀(v':Value)(w':World),(Builtin.append_ #[t,t] ty #[v,.slice (some ⟨B,o,none⟩) 1 c]).run P w=.ok v' w'->w'.ownsRow w.heap.size e 1 v' (l.length+1) (l++[u])->w.grownBy w' none->∃g off cap w',(Builtin.append_ #[t,t] ty #[v,.slice (some ⟨B,o,none⟩) 1 c]).run P w=.ok (.slice (some ⟨g,off,none⟩) (l.length+1) cap) w'/\fK w' base e (.slice (some ⟨g,off,none⟩) (l.length+1) cap) (l++[u])/\w.grownBy w' v.ownBlock/\(v.ownBlock=some g\/w.heap.size<=g)/\base<=g/\g<w'.heap.size:=by
   intro v' w' I a2 s;have a9:=a2;obtain⟨_,⟨_,h0⟩|⟨g,bb,cur,rfl,K,bk,_⟩⟩:=a2
   ·omega
   ·exact⟨g,0,bb,w',I,fK.s6 a9 a7,⟨s.os,s.tape,s.output,s.size,fun k hk _=>s.block k hk ak⟩,.inr K,ah,(aS.1 bk).1⟩
  cases ao with|none=>obtain⟨h0,rfl⟩:=bm rfl;obtain rfl:=bN h0;obtain⟨v',w',I,Y,T,_⟩:=run_append_own (P:=P) w w.heap.size t ty e i z 1 bytes X hi ac J am a5 aj (.slice none 0 0) 0 [] (bT w _ e 1) ⟨B,o,none⟩ 1 c [u] rfl hn a3 (by simpa using h63) (by simpa using ad) (ar);exact aa v' w' (by rw[C];exact I) (by simpa using Y) (by simpa[Value.ownBlock] using T)|some b=>obtain⟨v',w',I,Y,T⟩:=run_append_arg_grows (P:=P) w t ty e i z 1 bytes X hi ac J am a5 aj b l.length cap l ak (hold b rfl) ⟨B,o,none⟩ 1 c [u] rfl hn bf h63 ad;exact aa v' w' (by rw[C];exact I) Y T
 rcases bi with ⟨rfl,ao,C,_⟩|⟨g,off,cap,cur,C,K,s,bl,hl,hm,hs,ap⟩
 ·exact grow ao 0 0 (fun _=>⟨rfl,rfl⟩) rfl ah (by intro b _ j u h;simp at h) C
 ·by_cases al:l.length+1<=cap
  ·have aA:off+l.length<cur.size:=ah;have a6:=run_append_room_cells (P:=P) w t ty e i X hi g off l.length cap ⟨B,o,none⟩ 1 c [u] (by rw[J];rfl) hn a3 al (fun j E=>by simp at E;subst E;rw[dC w g _ cur e (0,0) s,J,Nat.mul_one,eG,Array.getElem?_eq_getElem aA];rfl) (fun j E=>by simp[World.frozen?,s]);rw[J,Nat.mul_one] at a6;have U:w.setCells g (off+l.length) [u]=w.setCell ⟨g,off+l.length,none⟩ u:=rfl;refine⟨g,off,cap,_,by rw[C];exact a6, ?_, ?_,.inl (by rw[C];rfl),K, ?_⟩
   ·refine .inr ⟨g,off,cap,cur.setIfInBounds (off+l.length) u,ak,K, ?_,bl,by simpa using al,hm,by simpa using hs, ?_⟩
    ·rw[U];simp[World.setCell,ee,s]
    ·intro j E;simp at E;rw[dB];by_cases a4:off+l.length=off+j
     ·rw[aM a4,aM aA];have:j=l.length:=ah;subst this;simp
     ·rw[aI a4,ap j ah,List.getElem?_append_left ah]
   ·rw[U,C];exact⟨rfl,rfl,rfl,by simp[World.setCell],fun k hk be=>aW w _ u k (by rintro rfl;exact be rfl)⟩
   ·rw[U];simpa[World.setCell] using (aS.1 s).1
  ·exact grow (some ⟨g,off,none⟩) l.length cap (fun h=>by cases h) rfl ah (by intro b bd j O h;cases bd;have E:j<l.length:=(aQ.1 h).1;rw[Z,dC w g _ cur e (0,0) s,ap j E];exact h) C
theorem jA(w:World){o:Oper}{a:Act}{K:Act->World->Prop}{Q:Exit->Act->World->Prop}(s x:Operand)(t:TypeId)(Z:o.op=.call {callee:=.builtin .append,args:= #[s,x],argTypes:= #[t,t]})(base:Nat)(e:TypeId)(i:TypeInfo)(z:Value)(bytes:Nat)(X:P.underlying t=some (.slice e))(hi:P.info? e=some i)(T:i.zero=some z)(aa:i.size=1)(U:i.bytes=bytes)(Y:z.cells.size=1)(v:Value)(l:List Value)(hs:a.eval s=v)(ac:fK w base e v l)(B off c:Nat)(u:Value)(O:a.eval x=.slice (some ⟨B,off,none⟩) 1 c)(E:w.cell? ⟨B,off,none⟩=some u)(h1:u.oneCell'=true)(h63:l.length+1<=maxLen)(j:(l.length+1)*bytes<=140737488355328)(J:base<=w.heap.size)(h: ∀g off cap w',fK w' base e (.slice (some ⟨g,off,none⟩) (l.length+1) cap) (l++[u])->w.grownBy w' v.ownBlock->(v.ownBlock=some g\/w.heap.size<=g)->base<=g->g<w'.heap.size->K (a.put o.dst (.slice (some ⟨g,off,none⟩) (l.length+1) cap)) w'):o.wp P a w K Q:=by obtain⟨g,I,cap,w',C,h2,h3,h4,h5,h6⟩:=yE (P:=P) w base t o.type e i z bytes X hi T aa U Y v l ac B off c u E h1 h63 j J;unfold Oper.wp execOp;simp only[Z,resolve,invoke,builtin,bZ,dW,bG,List.map_toArray,cK,List.map_nil,hs,O,C];exact h g I cap w' h2 h3 h4 h5 h6
theorem gu(w:World){ops:Array Oper}{rest:List Oper}{o:Oper}{a:Act}{Q:Exit->Act->World->Prop}(K:o.guard=none)(s x:Operand)(t:TypeId)(Z:o.op=.call {callee:=.builtin .append,args:= #[s,x],argTypes:= #[t,t]})(base:Nat)(e:TypeId)(i:TypeInfo)(z:Value)(bytes:Nat)(X:P.underlying t=some (.slice e))(hi:P.info? e=some i)(T:i.zero=some z)(aa:i.size=1)(U:i.bytes=bytes)(Y:z.cells.size=1)(v:Value)(l:List Value)(hs:a.eval s=v)(ac:fK w base e v l)(B off c:Nat)(u:Value)(O:a.eval x=.slice (some ⟨B,off,none⟩) 1 c)(C:w.cell? ⟨B,off,none⟩=some u)(h1:u.oneCell'=true)(h63:l.length+1<=maxLen)(j:(l.length+1)*bytes<=140737488355328)(J:base<=w.heap.size)(h: ∀g off cap w',fK w' base e (.slice (some ⟨g,off,none⟩) (l.length+1) cap) (l++[u])->w.grownBy w' v.ownBlock->(v.ownBlock=some g\/w.heap.size<=g)->base<=g->g<w'.heap.size->wpList P ops Q rest (a.put o.dst (.slice (some ⟨g,off,none⟩) (l.length+1) cap)) w'):wpList P ops Q (o::rest) a w:=wpList_plain K fun _ E=>jA w s x t Z base e i z bytes X hi T aa U Y v l hs ac B off c u O C h1 h63 j J fun g I cap w' h2 h3 h4 h5 h6=>E _ _ (h g I cap w' h2 h3 h4 h5 h6)
theorem wS(w:World){ops:Array Oper}{o:Oper}{a:Act}{K:Act->World->Prop}{Q:Exit->Act->World->Prop}{E:Prop}(J:o.guard=none)(s x:Operand)(t:TypeId)(Z:o.op=.call {callee:=.builtin .append,args:= #[s,x],argTypes:= #[t,t]})(base:Nat)(e:TypeId)(i:TypeInfo)(z:Value)(bytes:Nat)(X:P.underlying t=some (.slice e))(hi:P.info? e=some i)(T:i.zero=some z)(aa:i.size=1)(U:i.bytes=bytes)(Y:z.cells.size=1)(v:Value)(l:List Value)(hs:a.eval s=v)(ac:fK w base e v l)(B off c:Nat)(u:Value)(O:a.eval x=.slice (some ⟨B,off,none⟩) 1 c)(C:w.cell? ⟨B,off,none⟩=some u)(h1:u.oneCell'=true)(h63:l.length+1<=maxLen)(j:(l.length+1)*bytes<=140737488355328)(I:base<=w.heap.size)(h: ∀g off cap w',fK w' base e (.slice (some ⟨g,off,none⟩) (l.length+1) cap) (l++[u])->w.grownBy w' v.ownBlock->(v.ownBlock=some g\/w.heap.size<=g)->base<=g->g<w'.heap.size->K (a.put o.dst (.slice (some ⟨g,off,none⟩) (l.length+1) cap)) w'):if Region.wanted o (yielded ops a.tmps)=true then Oper.wp P o a w K Q else E:=by
 have hw:Region.wanted o (yielded ops a.tmps)=true:=by simp[Region.wanted,J]
 rw[aM hw];exact jA w s x t Z base e i z bytes X hi T aa U Y v l hs ac B off c u O C h1 h63 j I h
end
theorem lF{w:World}{base size n:Nat}{e:TypeId}{v:Value}{xs:List Value}(h:w.ownsRow base e size v n xs): ∀k,v.ownBlock=some k->base<=k:=by
 intro k e;obtain⟨_,⟨rfl,_⟩|⟨g,cap,cur,rfl,j,_⟩⟩:=h
 ·simp[Value.ownBlock] at e
 ·simp[Value.ownBlock] at e;omega
section
variable {P:Program}
theorem tJ(w:World)(base:Nat)(t ty e:TypeId)(i:TypeInfo)(z:Value)(size bytes:Nat)(E:P.underlying t=some (.slice e))(hi:P.info? e=some i)(K:i.zero=some z)(C:i.size=size)(T:i.bytes=bytes)(Y:z.cells.size=size)(U:0<size)(v:Value)(n:Nat)(xs:List Value)(s:w.ownsRow base e size v n xs)(a:Addr)(m c:Nat)(news:List Value)(hl:news.length=m*size)(J: ∀j u,news[j]? =some u->w.cell? (a.add j)=some u)(h1: ∀u∈news,u.oneCell'=true)(h63:n+m<=maxLen)(O:(n+m)*bytes<=140737488355328)(aa:base<=w.heap.size): ∃v' w',(Builtin.append_ #[t,t] ty #[v,.slice (some a) m c]).run P w=.ok v' w'/\w'.ownsRow base e size v' (n+m) (xs++news)/\w.grownBy w' v.ownBlock/\(v'.ownBlock=v.ownBlock\/∀k,v'.ownBlock=some k->w.heap.size<=k):=by
 obtain⟨v',w',I,h2,h3,_⟩:=run_append_own (P:=P) w base t ty e i z size bytes E hi K C T Y U v n xs s a m c news hl J h1 h63 O aa;refine⟨v',w',I,h2,h3, ?_⟩;rcases s.2 with ⟨rfl,rfl⟩|⟨g,cap,cur,rfl,a0,ad,ao,ap,al,aA⟩
 ·have am:xs=[]:=bN (by simpa using s.1);subst am;obtain⟨v2,w2,h,X,_,_⟩:=run_append_own (P:=P) w w.heap.size t ty e i z size bytes E hi K C T Y U (.slice none 0 0) 0 [] (bT w _ e size) a m c news hl J h1 h63 O (ar);rw[I] at h;cases h;exact .inr (lF X)
 ·by_cases Z:n+m<=cap
  ·have ac:n*i.size+news.length<=cur.size:=by rw[hl,al,C,<-Nat.add_mul];exact Nat.mul_le_mul_right _ Z
   have h:=run_append_room (P:=P) w t ty e i E hi g n cap cur ad a m c news (by rw[C];exact hl) J h1 Z ac;rw[I] at h;cases h;exact .inl rfl
  ·have holds: ∀j u,xs[j]? =some u->w.cell? ((⟨g,0,none⟩:Addr).add j)=some u:=s.cells (g:=g) rfl;obtain⟨v2,w2,h,X,_⟩:=run_append_arg_grows (P:=P) w t ty e i z size bytes E hi K C T Y U ⟨g,0,none⟩ n cap xs s.1 holds a m c news hl J ah h63 O;rw[I] at h;cases h;exact .inr (lF X)
theorem fI(w:World){o:Oper}{a:Act}{K:Act->World->Prop}{Q:Exit->Act->World->Prop}(s x:Operand)(t:TypeId)(ad:o.op=.call {callee:=.builtin .append,args:= #[s,x],argTypes:= #[t,t]})(base:Nat)(e:TypeId)(i:TypeInfo)(z:Value)(size bytes:Nat)(Z:P.underlying t=some (.slice e))(hi:P.info? e=some i)(U:i.zero=some z)(al:i.size=size)(Y:i.bytes=bytes)(X:z.cells.size=size)(aa:0<size)(v:Value)(n:Nat)(xs:List Value)(hs:a.eval s=v)(ac:w.ownsRow base e size v n xs)(C:Addr)(m c:Nat)(news:List Value)(T:a.eval x=.slice (some C) m c)(hl:news.length=m*size)(J: ∀j u,news[j]? =some u->w.cell? (C.add j)=some u)(h1: ∀u∈news,u.oneCell'=true)(h63:n+m<=maxLen)(E:(n+m)*bytes<=140737488355328)(O:base<=w.heap.size)(h: ∀v' w',w'.ownsRow base e size v' (n+m) (xs++news)->w.grownBy w' v.ownBlock->(v'.ownBlock=v.ownBlock\/∀k,v'.ownBlock=some k->w.heap.size<=k)->K (a.put o.dst v') w'):o.wp P a w K Q:=by obtain⟨v',w',I,h2,h3,h4⟩:=tJ (P:=P) w base t o.type e i z size bytes Z hi U al Y X aa v n xs ac C m c news hl J h1 h63 E O;unfold Oper.wp execOp;simp only[ad,resolve,invoke,builtin,bZ,dW,bG,List.map_toArray,cK,List.map_nil,hs,T,I];exact h v' w' h2 h3 h4
theorem qW(w:World){ops:Array Oper}{rest:List Oper}{o:Oper}{a:Act}{Q:Exit->Act->World->Prop}(O:o.guard=none)(s x:Operand)(t:TypeId)(ad:o.op=.call {callee:=.builtin .append,args:= #[s,x],argTypes:= #[t,t]})(base:Nat)(e:TypeId)(i:TypeInfo)(z:Value)(size bytes:Nat)(Z:P.underlying t=some (.slice e))(hi:P.info? e=some i)(U:i.zero=some z)(al:i.size=size)(Y:i.bytes=bytes)(X:z.cells.size=size)(aa:0<size)(v:Value)(n:Nat)(xs:List Value)(hs:a.eval s=v)(ac:w.ownsRow base e size v n xs)(C:Addr)(m c:Nat)(news:List Value)(T:a.eval x=.slice (some C) m c)(hl:news.length=m*size)(I: ∀j u,news[j]? =some u->w.cell? (C.add j)=some u)(h1: ∀u∈news,u.oneCell'=true)(h63:n+m<=maxLen)(E:(n+m)*bytes<=140737488355328)(K:base<=w.heap.size)(h: ∀v' w',w'.ownsRow base e size v' (n+m) (xs++news)->w.grownBy w' v.ownBlock->(v'.ownBlock=v.ownBlock\/∀k,v'.ownBlock=some k->w.heap.size<=k)->wpList P ops Q rest (a.put o.dst v') w'):wpList P ops Q (o::rest) a w:=wpList_plain O fun _ J=>fI w s x t ad base e i z size bytes Z hi U al Y X aa v n xs hs ac C m c news T hl I h1 h63 E K fun v' w' h2 h3 h4=>J _ _ (h v' w' h2 h3 h4)
end
section
variable {P:Program}
theorem qL(w:World){o:Oper}{a:Act}{K:Act->World->Prop}{Q:Exit->Act->World->Prop}(s x:Operand)(t:TypeId)(O:o.op=.call {callee:=.builtin .append,args:= #[s,x],argTypes:= #[t,t]})(base:Nat)(e:TypeId)(i:TypeInfo)(z:Value)(bytes:Nat)(C:P.underlying t=some (.slice e))(hi:P.info? e=some i)(Y:i.zero=some z)(a3:i.size=1)(ac:i.bytes=bytes)(a2:z.cells.size=1)(v:Value)(n:Nat)(xs:List Value)(hs:a.eval s=v)(I:w.ownsRow base e 1 v n xs)(b2:Nat)(T:Value)(l:List Value)(J:a.eval x=T)(al:fK w b2 e T l)(h1: ∀u∈l,u.oneCell'=true)(h63:n+l.length<=maxLen)(Z:(n+l.length)*bytes<=140737488355328)(X:base<=w.heap.size)(h: ∀v' w',w'.ownsRow base e 1 v' (n+l.length) (xs++l)->w.grownBy w' v.ownBlock->(v'.ownBlock=v.ownBlock\/∀k,v'.ownBlock=some k->w.heap.size<=k)->K (a.put o.dst v') w'):o.wp P a w K Q:=by
 rcases al with ⟨rfl,ao,rfl,_⟩|⟨g,off,cap,cur,rfl,a5,a0,a8,a4,a7,a6,ad⟩
 ·have ap:Src P i.size t (.slice ao 0 0) 0 [] w:=by cases ao with|none=>exact Src.ofNil w C 0|some aA=>exact Src.ofSlice w C aA 0 0 [] ak (fun j u hu=>by simp at hu) (fun u hu=>by cases hu)
  have U: ∃b sl E,v=.slice b sl E/\sl<=E:=by
   rcases I.2 with ⟨rfl,_⟩|⟨g,cap,cur,rfl,_,_,hn,_⟩
   ·exact⟨none,0,0,rfl,ar⟩
   ·exact⟨_,_,_,rfl,hn⟩
  obtain⟨b,sl,E,rfl,hle⟩:=U;have am:=run_append_nothing w t t o.type e i C hi b sl E hle (.slice ao 0 0) ap;unfold Oper.wp execOp;simp only[O,resolve,invoke,builtin,bZ,dW,bG,List.map_toArray,cK,List.map_nil,hs,J,am];exact h _ _ (by simpa using I) (World.grownBy.refl w _) (.inl rfl)
 ·exact fI w s x t O base e i z 1 bytes C hi Y a3 ac a2 aj v n xs hs I ⟨g,off,none⟩ l.length cap l J ah (fun j u hu=>by have aa:j<l.length:=(aQ.1 hu).1;rw[show(⟨g,off,none⟩:Addr).add j=⟨g,off+j,none⟩ by unfold Addr.add;split<;>simp_all];have h2:=ad j aa;rw[hu] at h2;unfold World.cell?;simp only[a0];simpa using h2) h1 h63 Z X h
theorem ja(w:World){ops:Array Oper}{o:Oper}{a:Act}{K:Act->World->Prop}{Q:Exit->Act->World->Prop}{E:Prop}(J:o.guard=none)(s x:Operand)(t:TypeId)(aa:o.op=.call {callee:=.builtin .append,args:= #[s,x],argTypes:= #[t,t]})(base:Nat)(e:TypeId)(i:TypeInfo)(z:Value)(bytes:Nat)(X:P.underlying t=some (.slice e))(hi:P.info? e=some i)(T:i.zero=some z)(ac:i.size=1)(U:i.bytes=bytes)(Y:z.cells.size=1)(v:Value)(n:Nat)(xs:List Value)(hs:a.eval s=v)(Z:w.ownsRow base e 1 v n xs)(b2:Nat)(j:Value)(l:List Value)(O:a.eval x=j)(ad:fK w b2 e j l)(h1: ∀u∈l,u.oneCell'=true)(h63:n+l.length<=maxLen)(C:(n+l.length)*bytes<=140737488355328)(I:base<=w.heap.size)(h: ∀v' w',w'.ownsRow base e 1 v' (n+l.length) (xs++l)->w.grownBy w' v.ownBlock->(v'.ownBlock=v.ownBlock\/∀k,v'.ownBlock=some k->w.heap.size<=k)->K (a.put o.dst v') w'):if Region.wanted o (yielded ops a.tmps)=true then Oper.wp P o a w K Q else E:=by
 have hw:Region.wanted o (yielded ops a.tmps)=true:=by simp[Region.wanted,J]
 rw[aM hw];exact qL w s x t aa base e i z bytes X hi T ac U Y v n xs hs Z b2 j l O ad h1 h63 C I h
end
theorem sX{P:Program}{ops:Array Oper}{o:Oper}{a:Act}{w:World}{K:Act->World->Prop}{Q:Exit->Act->World->Prop}{E:Prop}(J:o.guard=none)(s x:Operand)(t:TypeId)(al:o.op=.call {callee:=.builtin .append,args:= #[s,x],argTypes:= #[t,t]})(base:Nat)(e:TypeId)(i:TypeInfo)(z:Value)(size bytes:Nat)(aa:P.underlying t=some (.slice e))(hi:P.info? e=some i)(X:i.zero=some z)(am:i.size=size)(Z:i.bytes=bytes)(Y:z.cells.size=size)(ac:0<size)(v:Value)(n:Nat)(xs:List Value)(hs:a.eval s=v)(ad:w.ownsRow base e size v n xs)(C:Addr)(m c:Nat)(news:List Value)(U:a.eval x=.slice (some C) m c)(hl:news.length=m*size)(O: ∀j u,news[j]? =some u->w.cell? (C.add j)=some u)(h1: ∀u∈news,u.oneCell'=true)(h63:n+m<=maxLen)(I:(n+m)*bytes<=140737488355328)(T:base<=w.heap.size)(h: ∀v' w',w'.ownsRow base e size v' (n+m) (xs++news)->w.grownBy w' v.ownBlock->(v'.ownBlock=v.ownBlock\/∀k,v'.ownBlock=some k->w.heap.size<=k)->K (a.put o.dst v') w'):if Region.wanted o (yielded ops a.tmps)=true then Oper.wp P o a w K Q else E:=by
 have hw:Region.wanted o (yielded ops a.tmps)=true:=by simp[Region.wanted,J]
 rw[aM hw];exact fI w s x t al base e i z size bytes aa hi X am Z Y ac v n xs hs ad C m c news U hl O h1 h63 I T h
theorem ov{w:World}{base n g i:Nat}{cp:Nat}{e:TypeId}{xs:List Value}(h:w.ownsRow base e 1 (.slice (some ⟨g,0,none⟩) n cp) n xs)(hi:i<n):w.cell? ⟨g,i,none⟩=xs[i]? /\w.frozen? ⟨g,i,none⟩=false:=by
 rcases h.2 with ⟨h1,_⟩|⟨g2,cap,cur,s,C,j,z,hm,hs,u⟩
 ·cases h1
 ·cases s;have hl:=h.1;refine⟨?_,by unfold World.frozen?;simp[j]⟩;rw[dC w g i cur e (0,0) j,<-u,dh];rw[aM ah];simp
theorem qZ{W:World}{base b:Nat}(h:eN W b 9 #[])(e:base<=b):W.ownsRow base 9 1 (.slice (some ⟨b,0,none⟩) 0 0) 0 []:=⟨rfl,.inr ⟨b,0, #[],rfl,e,h,ar,by simp[maxLen],rfl,rfl⟩⟩
def wU(k:Nat):Int:=if k=0 then 0 else(((k-1)%255+1:Nat):Int)
theorem FN(k:Nat):(if wU k+1=256 then 1 else wU k+1)=wU (k+1):=by
 unfold wU;by_cases h:k=0
 ·subst h;rfl
 ·rw[aI h,aI (by omega: ¬k+1=0),dD];split<;>omega
def jg(n q:Nat)(que:Int):Int:=if 40<n then 4 else if que<=q then 12 else 0
def lu(q:List ByteArray)(d:ByteArray)(e:Int):List ByteArray:=if e=0 then q++[d] else q
def px(now la nw bag:Int)(n:Nat):Int:=if now<0\/1099511627776<now then 2 else if now<nw then 10 else if n=0\/(0<=la/\now-la<bag) then 8 else 0
def Qa(now last nw bag:Int)(went n:Nat):Int:=if now<0\/1099511627776<now then 2 else if now<nw then 10 else if went=n\/(0<went/\now<last+bag) then 8 else 0
def DC(e now nw:Int):Int:=if e=2\/e=10 then nw else now
structure lg (all:List ByteArray) (went:Nat) (last nw:Int) (q:List ByteArray) (nx la:Int):Prop where
 hw:went≤all.length
 hq:q=all.drop went
 hn:nx=wU went
 hl:la=if went=0 then-1 else last
 h0:0≤last∧last≤1099511627776
 h1:0≤nw∧nw≤1099511627776
section
variable {all:List ByteArray}{went:Nat}{last nw:Int}{q:List ByteArray}{nx la:Int}
theorem lg.start:lg [] 0 0 0 [] 0 (-1):=⟨ak,rfl,rfl,rfl,ah,ah⟩
theorem lg.len(h:lg all went last nw q nx la):q.length=all.length-went:=by rw[h.hq,List.length_drop]
theorem lg.put(h:lg all went last nw q nx la)(d:ByteArray)(e:Int):lg (lu all d e) went last nw (lu q d e) nx la:=by
 unfold lu;split
 ·exact⟨by have:=h.hw;simp;omega,by rw[h.hq,List.drop_append_of_le_length h.hw],h.hn,h.hl,h.h0,h.h1⟩
 ·exact h
theorem lg.err(h:lg all went last nw q nx la)(now bag:Int):Qa now last nw bag went all.length=px now la nw bag q.length:=by
 unfold Qa px;have hw:=h.hw;rw[h.len,h.hl];by_cases a:now<0\/1099511627776<now
 ·rw[aM a,aM a]
 ·rw[aI a,aI a];by_cases b:now<nw
  ·rw[aM b,aM b]
  ·rw[aI b,aI b];by_cases e:went=0
   ·rw[aM e];by_cases c:went=all.length
    ·rw[aM (.inl c),aM (.inl ah)]
    ·rw[aI ah,aI ah]
   ·rw[aI e];have:=h.h0;by_cases c:went=all.length\/(0<went/\now<last+bag)
    ·rw[aM c,aM ah]
    ·rw[aI c,aI ah]
theorem yi(now la nw bag:Int)(n:Nat):(px now la nw bag n=2/\(now<0\/1099511627776<now))\/(0<=now/\now<=1099511627776/\now<nw/\px now la nw bag n=10)\/(0<=now/\now<=1099511627776/\nw<=now/\(px now la nw bag n=8\/px now la nw bag n=0)):=by
 unfold px;by_cases a:now<0\/1099511627776<now
 ·rw[aM a];exact .inl ⟨rfl,a⟩
 ·rw[aI a];by_cases b:now<nw
  ·rw[aM b];exact .inr (.inl ⟨ah,ah,b,rfl⟩)
  ·rw[aI b];refine .inr (.inr ⟨ah,ah,ah, ?_⟩);split
   ·exact .inl rfl
   ·exact .inr rfl
theorem lg.none_(h:lg all went last nw q nx la){now bag:Int}:lg all went last (DC (px now la nw bag q.length) now nw) q nx la:=by
 refine⟨h.hw,h.hq,h.hn,h.hl,h.h0, ?_⟩;have:=h.h1;unfold DC;rcases yi now la nw bag q.length with ⟨h2,_⟩|⟨h1,h2,h3,h4⟩|⟨h1,h2,h3,h4|h4⟩
 ·rw[aM (.inl h2)];omega
 ·rw[aM (.inr h4)];omega
 ·rw[h4,aI aj];omega
 ·rw[h4,aI aj];omega
theorem lg.goes(h:lg all went last nw q nx la){now bag:Int}(e:px now la nw bag q.length=0): ∃d s,q=d::s/\all[went]? =some d/\went<all.length/\nx=wU went/\lg all (went+1) now now s (if nx+1=256 then 1 else nx+1) now:=by
 have hl:=h.len;have u:0<=now/\now<=1099511627776:=by
  rcases yi now la nw bag q.length with ⟨h2,_⟩|⟨h1,h2,h3,h4⟩|⟨h1,h2,h3,h4⟩
  ·rw[e] at h2;cases h2
  ·rw[e] at h4;cases h4
  ·exact⟨h1,h2⟩
 have z:q.length≠0:=by
  intro h0;unfold px at e;split at e
  ·cases e
  ·split at e
   ·cases e
   ·rw[aM (.inl h0)] at e;cases e
 have j:went<all.length:=ah;refine⟨all[went],all.drop (went+1),by rw[h.hq,cy j],aF j,j,h.hn,⟨ah,rfl,by rw[h.hn,FN],by rw[aI ah],u,u⟩⟩
end
structure fL (w w':World) (g:Nat) (vb:Option Nat):Prop where
 os:w'.os=w.os
 tape:w'.tape=w.tape
 output:w'.output=w.output
 size:w.heap.size≤w'.heap.size
 block: ∀i,i<w.heap.size→i≠g→some i≠vb→w'.heap[i]? =w.heap[i]?
section
variable {w w' w0:World}{g:Nat}{vb:Option Nat}
theorem fL.refl(w:World)(g:Nat)(vb:Option Nat):fL w w g vb:=⟨rfl,rfl,rfl,ar,fun _ _ _ _=>rfl⟩
theorem fL.fC(h:Below w.heap.size w w')(g:Nat)(vb:Option Nat):fL w w' g vb:=⟨h.os,h.tape,h.output,h.size,fun i hi _ _=>h.block i hi⟩
theorem fL.eS(h:fL w w' g vb)(i:Nat)(u:Value):fL w (w'.setCell ⟨g,i,none⟩ u) g vb:=⟨h.os,h.tape,h.output,by simpa[World.setCell] using h.size,fun k hk h1 h2=>(aW w' _ u k (fun e=>h1 e)).trans (h.block k hk h1 h2)⟩
theorem fL.drew(h:fL w w' g vb):fL w w'.drew g vb:=⟨h.os,h.tape,h.output,h.size,h.block⟩
theorem fL.drewN(h:fL w w' g vb)(n:Nat):fL w (w'.drewN n) g vb:=⟨h.os,h.tape,h.output,h.size,h.block⟩
theorem fL.alloc(h:fL w w' g vb)(o:Obj):fL w (w'.alloc o) g vb:=⟨h.os,h.tape,h.output,aK h.size ak,fun k hk h1 h2=>(bu w' o k (aN hk h.size)).trans (h.block k hk h1 h2)⟩
theorem fL.uB{w2:World}(h:fL w w' g vb)(h2:w'.grownBy w2 vb):fL w w2 g vb:=⟨h2.os.trans h.os,h2.tape.trans h.tape,h2.output.trans h.output,aK h.size h2.size,fun k hk a b=>(h2.block k (aN hk h.size) b).trans (h.block k hk a b)⟩
end
def Gr(lf lt bag que:Int)(v:Value)(nx la nw:Int):Array Value:= #[.int .i64 lf,.int .i64 lt,.int .i64 bag,.int .i64 que,v,.int .i64 nx,.int .i64 la,.int .i64 nw]
def sv(q:List ByteArray):List Value:=q.map Value.string
theorem jL(q:List ByteArray):(sv q).length=q.length:=by simp[sv]
theorem tS(q:List ByteArray)(d:ByteArray):sv (q++[d])=sv q++[.string d]:=by simp[sv]
theorem eN.qb{w:World}{g:Nat}{t:TypeId}{a0 a1 a2 a3 a4 a5 e j:Value}(h:eN w g t #[a0,a1,a2,a3,a4,a5,e,j]):w.cell? ⟨g,0,none⟩=some a0/\w.cell? ⟨g,1,none⟩=some a1/\w.cell? ⟨g,2,none⟩=some a2/\w.cell? ⟨g,3,none⟩=some a3/\w.cell? ⟨g,4,none⟩=some a4/\w.cell? ⟨g,5,none⟩=some a5/\w.cell? ⟨g,6,none⟩=some e/\w.cell? ⟨g,7,none⟩=some j:=⟨by simpa using h.cell 0,by simpa using h.cell 1,by simpa using h.cell 2,by simpa using h.cell 3,by simpa using h.cell 4,by simpa using h.cell 5,by simpa using h.cell 6,by simpa using h.cell 7⟩
def Own(w w':World)(v v':Value):Prop:= ∀k,v'.ownBlock=some k->k<w'.heap.size/\(v.ownBlock=some k\/w.heap.size<=k)
def kO(w:World)(base g:Nat)(lf lt bag que:Int)(v:Value)(nx la nw:Int)(q:List ByteArray)(w':World):Prop:= ∃v',eN w' g 264 (Gr lf lt bag que v' nx la nw)/\fK w' base 9 v' (sv q)/\fL w w' g v.ownBlock/\Own w w' v v'
theorem fL.nD{w w':World}{g:Nat}{vb:Option Nat}(h:fL w w' g vb){p:Addr}(hp:w.heap.size<=p.block)(u:Value):fL w (w'.setCell p u) g vb:=⟨h.os,h.tape,h.output,by simpa[World.setCell] using h.size,fun k hk h1 h2=>(aW w' p u k (by rintro rfl;omega)).trans (h.block k hk h1 h2)⟩
theorem kO.iP{w w':World}{base g:Nat}{lf lt bag que:Int}{v:Value}{nx la nw:Int}{q:List ByteArray}(j:eN w' g 264 (Gr lf lt bag que v nx la nw))(s:fK w' base 9 v (sv q))(hk:fL w w' g v.ownBlock)(h: ∀k,v.ownBlock=some k->k<w.heap.size):kO w base g lf lt bag que v nx la nw q w':=⟨v,j,s,hk,fun k e=>⟨aN (h k e) hk.size,.inl e⟩⟩
theorem zp{w:World}{v:Value}(h: ∀k,v.ownBlock=some k->k<w.heap.size):v.ownBlock≠some w.heap.size:=fun e=>ew _ (h _ e)
theorem kO.same{w w':World}{base g:Nat}{lf lt bag que:Int}{v:Value}{nx la nw:Int}{q:List ByteArray}(h:eN w g 264 (Gr lf lt bag que v nx la nw))(s:fK w base 9 v (sv q))(j: ∀k,v.ownBlock=some k->k<w.heap.size)(hB:Below w.heap.size w w'):kO w base g lf lt bag que v nx la nw q w':=⟨v,h.below hB h.lt,s.below hB (ar),fL.fC hB _ _,fun k e=>⟨aN (j k e) hB.size,.inl e⟩⟩
theorem rJ:(prog.info? 9).map (fun i=>(i.zero,i.size,i.bytes))=some (some (.string ⟨#[]⟩),1,16):=ai
theorem lY{t:TypeId}{z:Value}{a b:Nat}(h:(prog.info? t).map (fun i=>(i.zero,i.size,i.bytes))=some (some z,a,b)): ∃i,prog.info? t=some i/\i.zero=some z/\i.size=a/\i.bytes=b:=by cases e:prog.info? t with|none=>rw[e] at h;cases h|some i=>rw[e] at h;simp at h;exact⟨i,rfl,h.1,h.2.1,h.2.2⟩
theorem yp{lf lt:Int}(bag que:Int)(w:World)(h1:1<=bag)(h2:bag<=1099511627776)(h3:1<=que)(h4:que<=16):Calls prog 146 #[.agg #[.int .i64 lf,.int .i64 lt,.int .i64 bag,.int .i64 que]] w fun e w'=> ∃g,e=.returned (.tuple #[.pointer (some ⟨g,0,none⟩),gv 0])/\Below w.heap.size w w'/\w.heap.size<=g/\eN w' g 264 (Gr lf lt bag que (.slice none 0 0) 0 (-1) 0):=by have d1:decide (bag<1)=false:=ag;have d2:decide (1099511627776<bag)=false:=ag;have d3:decide (que<1)=false:=ag;have d4:decide (16<que)=false:=ag;have hB:=eJ ((Below.refl w.heap.size w).alloc (ar) (.cells #[.int .i64 lf,.int .i64 lt,.int .i64 bag,.int .i64 que] 88));clear h1 h2 h3 h4;go_enter func146,ntmps146;go_wp2_with fail;go_ret2;exact⟨w.heap.size+1,by simp<;>rfl,hB.out.alloc ak _,ah,by have h:=eN.new (w.alloc (.cells #[.int .i64 lf,.int .i64 lt,.int .i64 bag,.int .i64 que] 88)) 264 (Gr lf lt bag que (.slice none 0 0) 0 (-1) 0);rw[bX] at h;exact h⟩
theorem sN(q:List ByteArray)(d:ByteArray):lu q d 0=q++[d]:=by unfold lu;rw[aM rfl]
theorem qo(q:List ByteArray)(d:ByteArray){e:Int}(h:e≠0):lu q d e=q:=by unfold lu;rw[aI h]
section
variable {lf lt:Int}(g base:Nat)(bag que:Int)(v:Value)(nx la nw:Int)(q:List ByteArray)
theorem Hr(w:World)(d:ByteArray)(e:Int)(he:Hid (jg d.size q.length que=e))(s:eN w g 264 (Gr lf lt bag que v nx la nw))(u:fK w base 9 v (sv q))(z: ∀k,v.ownBlock=some k->k<w.heap.size)(X:v.ownBlock≠some g)(T:base<=w.heap.size)(hd:d.size<=maxLen)(hq:q.length<=1000):Calls prog 138 #[.pointer (some ⟨g,0,none⟩),.string d] w fun r w'=>r=.returned (gv e)/\kO w base g lf lt bag que v nx la nw (lu q d e) w':=by
 have j:=he.out;unfold jg at j;unfold maxLen at hd;by_cases h1:40<d.size
 ·have d1:decide ((40:Int)<(d.size:Int))=true:=aJ ah;rw[aM h1] at j;subst j;have K:=eJ (kO.same s u z (au));clear h1 he s u z hd hq;go_enter func138,ntmps138;go_wp2_with fail;go_ret;exact⟨rfl,by rw[qo _ _ aj];exact K.out⟩
 ·have d1:decide ((40:Int)<(d.size:Int))=false:=aH ah;rw[aI h1] at j;obtain⟨ao,c,J,I⟩:=u.shape;obtain⟨c0,c1,c2,c3,c4,c5,a9,bb⟩:=s.qb;rw[jL] at J I;by_cases h2:que<=q.length
  ·have d2:decide (que<=(q.length:Int))=true:=aJ h2;rw[aM h2] at j;subst j;have K:=eJ (fun w' hB=>kO.same (w':=w') s u z hB);subst J;clear h1 h2 he s u z hd hq I;go_enter func138,ntmps138;go_wp2_with fail;go_quiet (fail);go_wp2_with fail;go_ret;exact⟨rfl,by rw[qo _ _ aj];exact K.out _ (below_drewN (au) _)⟩
  ·have d2:decide (que<=(q.length:Int))=false:=aH h2;rw[aI h2] at j;subst j;subst J;have Z:=eJ s;have a4:=eJ u;have bf:=eJ z;have ad:=eJ X;have a5:=eJ T;have U:=eJ hq;obtain⟨i0,hi,ap,aA,a2⟩:=lY rJ;clear h1 h2 he s u z hd I T hq X;go_enter func138,ntmps138;go_wp2_with fail;go_quiet (fail);go_wp2_with (at_builtin;go_must (refine gu _ rfl (.tmp 25) (.tmp 27) _ rfl base 9 i0 _ 16 underlying52 hi ap aA a2 rfl (.slice ao q.length c) (sv q) rfl (by exact(a4.out.drewN _).alloc _) w.heap.size 0 1 (.string d) rfl (by exact(eN.new (w.drewN _) 9 #[.string d]).cells1.1) rfl (by have:=U.out;simp[maxLen,jL];omega) (by have:=U.out;simp[jL];omega) (by have:=a5.out;simp;omega) ?_);intro g1 a8 a0 w3 O E ac a7 aa;have a6:=eJ O;have C:=eJ (((Z.out.drewN _).alloc _).grown E (fun e=>ad.out e.symm));have am:=eJ ((((fL.refl w g (Value.slice ao q.length c).ownBlock).drewN _).alloc _).uB E);have Y:=eJ ac;have al:=eJ aa;have bd:=C.out.frozen 4;obtain⟨_,_,_,_,be,_,_,_⟩:=C.out.qb;clear O E ac a7 aa);go_ret;have a3:(Value.slice (some ⟨g1,a8,none⟩) ((sv q).length+1) a0).ownBlock≠some g:=by
    intro e;simp[Value.ownBlock] at e;subst e;rcases Y.out with h|h
    ·exact ad.out h
    ·have:=Z.out.lt;simp at h;omega
   refine⟨rfl,_,C.out.eS 4 _, ?_,am.out.eS 4 _, ?_⟩
   ·rw[sN,tS];exact fK.iI (p:=⟨g,4,none⟩) a6.out a3 _
   ·intro k e;simp[Value.ownBlock] at e;subst e;refine⟨by simpa[World.setCell] using al.out, ?_⟩;rcases Y.out with h|h
    ·exact .inl h
    ·right;simp at h;omega
theorem Ca{w w':World}{j:Nat}{v v':Value}(h:v'.ownBlock=some j)(u:j<w'.heap.size)(s:v.ownBlock=some j:=by rfl):Own w w' v v':=by intro k e;rw[h] at e;cases e;exact⟨u,.inl s⟩
theorem qh{w:World}{base e off n c:Nat}{q:List ByteArray}{d:ByteArray}(h:fK w base 9 (.slice (some ⟨e,off,none⟩) (n+1) c) (sv (d::q))):w.cell? ⟨e,off,none⟩=some (.string d):=by obtain⟨g',o',s,_,_,j⟩:=h.block ah;cases s;have:=j 0 ah;simpa[sv] using this
theorem kI(tmps:Array Value)(w:World)(g:Nat)(a b v:Value)(h2:tmps[4]? =some (.pointer (some ⟨g,0,none⟩)))(h3:tmps[5]? =some v)(j:eN w g 305 #[a,b]):(results f200 tmps).run prog w=.ok (.tuple #[.agg #[a,b],v]) w:=by obtain⟨h,e,_⟩:=j.fQ;simp[results,results200,go_sem,h2,h3,h,e]
theorem EW(w:World)(now:Int)(e:Int)(he:Hid (px now la nw bag q.length=e))(h0:e≠0)(j:eN w g 264 (Gr lf lt bag que v nx la nw))(s:fK w base 9 v (sv q))(u: ∀k,v.ownBlock=some k->k<w.heap.size)(z:v.ownBlock≠some g)(E:-1<=la/\la<=1099511627776)(hq:q.length<=1000):Calls prog 200 #[.pointer (some ⟨g,0,none⟩),.int .i64 now] w fun r w'=>r=.returned (.tuple #[.agg #[.int .i64 0,.string ⟨#[]⟩],gv e])/\kO w base g lf lt bag que v nx la (DC e now nw) q w':=by
 have h:=he.out;unfold px at h;have I:=eJ (eN.new w 305 #[.int .i64 0,.string ⟨#[]⟩]);have O:=eJ ((Below.refl w.heap.size w).alloc (ar) (.cells #[.int .i64 0,.string ⟨#[]⟩] 305));have T:=eJ (fun w' hB=>kO.same (w':=w') j s u hB);by_cases h1:now<0
 ·have d1:decide (now<0)=true:=aJ h1;rw[aM (.inl h1)] at h;subst h;clear h1 he j s u z hq E;go_enter func200,ntmps200;go_wp2_with fail;exact aR (kI _ _ w.heap.size _ _ _ rfl rfl I.out) rfl ⟨rfl,T.out _ O.out⟩
 ·have d1:decide (now<0)=false:=aH h1;by_cases h2:1099511627776<now
  ·have d2:decide (1099511627776<now)=true:=aJ h2;rw[aM (.inr h2)] at h;subst h;clear h1 h2 he j s u z hq E;go_enter func200,ntmps200;go_wp2_with fail;exact aR (kI _ _ w.heap.size _ _ _ rfl rfl I.out) rfl ⟨rfl,T.out _ O.out⟩
  ·have d2:decide (1099511627776<now)=false:=aH h2;rw[aI ah] at h;obtain⟨c0,c1,c2,c3,c4,c5,al,ap⟩:=(j.alloc (.cells #[.int .i64 0,.string ⟨#[]⟩] 305)).qb;by_cases h3:now<nw
   ·have d3:decide (now<nw)=true:=aJ h3;rw[aM h3] at h;subst h;clear h1 h2 h3 he j s u z hq E;go_enter func200,ntmps200;go_wp2_with fail;exact aR (kI _ _ w.heap.size _ _ _ rfl rfl I.out) rfl ⟨rfl,T.out _ O.out⟩
   ·have d3:decide (now<nw)=false:=aH h3;rw[aI h3] at h;obtain⟨ao,c,Y,K⟩:=s.shape;rw[jL] at Y K;have ad:e=8/\(q.length=0\/(0<=la/\now-la<bag)):=by
     split at h
     ·exact⟨h.symm, ‹_›⟩
     ·exact absurd h.symm h0
    obtain⟨rfl,U⟩:=ad;have ac:=eJ ((j.alloc (.cells #[.int .i64 0,.string ⟨#[]⟩] 305)).eS 7 (.int .i64 now));have Z:=eJ ((s.alloc (.cells #[.int .i64 0,.string ⟨#[]⟩] 305)).iI (p:=⟨g,7,none⟩) z (.int .i64 now));have aa:=eJ (((fL.refl w g v.ownBlock).alloc (.cells #[.int .i64 0,.string ⟨#[]⟩] 305)).eS 7 (.int .i64 now));have C:=eJ u;have J:=eJ j.lt;have X:=eJ (I.out.iI (p:=⟨g,7,none⟩) (by have:=j.lt;exact cW this) (.int .i64 now));have aA:=(j.alloc (.cells #[.int .i64 0,.string ⟨#[]⟩] 305)).frozen 7;subst Y;by_cases h4:q.length=0
    ·have d4:((q.length:Int)==0)=true:=by rw[h4];rfl
     clear h1 h2 h3 he j s u z hq E U h K h4;go_enter func200,ntmps200;go_wp2_with fail;go_quiet (fail);go_wp2_with fail;exact aR (kI _ _ w.heap.size _ _ _ rfl rfl (((X.out.drewN _).eS 0 _).eS 1 _)) rfl ⟨rfl,kO.iP (((ac.out.drewN _).iI (p:=⟨w.heap.size,0,none⟩) (bH J.out) _).iI (p:=⟨w.heap.size,1,none⟩) (bH J.out) _) (((Z.out.drewN _).iI (p:=⟨w.heap.size,0,none⟩) (zp C.out) _).iI (p:=⟨w.heap.size,1,none⟩) (zp C.out) _) (((aa.out.drewN _).nD (p:=⟨w.heap.size,0,none⟩) (ar) _).nD (p:=⟨w.heap.size,1,none⟩) (ar) _) C.out⟩
    ·have d4:((q.length:Int)==0)=false:=by rw[aV];omega
     have d5:decide (0<=la)=true:=aJ ah;have d6:decide (now-la<bag)=true:=aJ ah;have am:0<=now/\now<=1099511627776:=ah;clear h1 h2 h3 he j s u z hq U h K h4;go_enter func200,ntmps200;go_wp2_with fail;go_quiet (fail);go_wp2_with fail;exact aR (kI _ _ w.heap.size _ _ _ rfl rfl (((X.out.drewN _).eS 0 _).eS 1 _)) rfl ⟨rfl,kO.iP (((ac.out.drewN _).iI (p:=⟨w.heap.size,0,none⟩) (bH J.out) _).iI (p:=⟨w.heap.size,1,none⟩) (bH J.out) _) (((Z.out.drewN _).iI (p:=⟨w.heap.size,0,none⟩) (zp C.out) _).iI (p:=⟨w.heap.size,1,none⟩) (zp C.out) _) (((aa.out.drewN _).nD (p:=⟨w.heap.size,0,none⟩) (ar) _).nD (p:=⟨w.heap.size,1,none⟩) (ar) _) C.out⟩
end
def GC(most:Int)(v:Value)(lost:Int):Array Value:= #[.int .i64 most,v,.int .i64 lost]
theorem eN.c3{w:World}{g:Nat}{t:TypeId}{a b c:Value}(h:eN w g t #[a,b,c]):w.cell? ⟨g,0,none⟩=some a/\w.cell? ⟨g,1,none⟩=some b/\w.cell? ⟨g,2,none⟩=some c:=⟨by simpa using h.cell 0,by simpa using h.cell 1,by simpa using h.cell 2⟩
section
variable (g base:Nat)
theorem EU(most:Int)(w:World)(h1:1<=most)(h2:most<=16):Calls prog 147 #[.int .i64 most] w fun e w'=>e=.returned (.tuple #[.pointer (some ⟨w.heap.size,0,none⟩),gv 0])/\w.alloc (.cells (GC most (.slice none 0 0) 0) 266)=w':=by have d1:decide (most<1)=false:=aH ah;have d2:decide (16<most)=false:=aH ah;clear h1 h2;go_enter func147,ntmps147;go_wp2_with fail;go_ret2;exact⟨rfl,rfl⟩
variable (most:Int)(v:Value)(lost:Int)(q:List ByteArray)
def nH(w:World)(base g:Nat)(most:Int)(v:Value)(lost:Int)(q:List ByteArray)(w':World):Prop:= ∃v',eN w' g 266 (GC most v' lost)/\fK w' base 9 v' (sv q)/\fL w w' g v.ownBlock/\Own w w' v v'
theorem nH.same{w w':World}{base g:Nat}{most:Int}{v:Value}{lost:Int}{q:List ByteArray}(h:eN w g 266 (GC most v lost))(s:fK w base 9 v (sv q))(j: ∀k,v.ownBlock=some k->k<w.heap.size)(hB:Below w.heap.size w w'):nH w base g most v lost q w':=⟨v,h.below hB h.lt,s.below hB (ar),fL.fC hB _ _,fun k e=>⟨aN (j k e) hB.size,.inl e⟩⟩
theorem Gv(w:World)(d:ByteArray)(e:Int)(he:Hid (jg d.size q.length most=e))(j:eN w g 266 (GC most v lost))(u:fK w base 9 v (sv q))(z: ∀k,v.ownBlock=some k->k<w.heap.size)(C:v.ownBlock≠some g)(Y:base<=w.heap.size)(hd:d.size<=maxLen)(hq:q.length<=1000)(bf:0<=lost)(be:lost<=1000000000000):Calls prog 207 #[.pointer (some ⟨g,0,none⟩),.string d] w fun r w'=>r=.returned (gv e)/\nH w base g most v (if e=12 then lost+1 else lost) (lu q d e) w':=by
 have s:=he.out;unfold jg at s;unfold maxLen at hd;by_cases h1:40<d.size
 ·have d1:decide ((40:Int)<(d.size:Int))=true:=aJ ah;rw[aM h1] at s;subst s;have a9:=eJ (nH.same j u z (au));clear h1 he j u z hd hq;rw[aI aj];go_enter func207,ntmps207;go_wp2_with fail;go_ret;exact⟨rfl,by rw[qo _ _ aj];exact a9.out⟩
 ·have d1:decide ((40:Int)<(d.size:Int))=false:=aH ah;rw[aI h1] at s;obtain⟨ao,c,T,O⟩:=u.shape;obtain⟨c0,c1,c2⟩:=j.c3;rw[jL] at T O;have f2:=j.frozen 2;by_cases h2:most<=(q.length:Int)
  ·have d2:decide (most<=(q.length:Int))=true:=aJ h2;rw[aM h2] at s;subst s;rw[aM rfl,qo _ _ aj];have E:=eJ j;have U:=eJ u;have al:=eJ z;have I:=eJ C;subst T;clear h1 h2 he j u z hd hq O C;go_enter func207,ntmps207;go_wp2_with fail;go_quiet (fail);go_wp2_with fail;go_ret;refine⟨rfl,_,(E.out.drewN _).eS 2 _,fK.iI (p:=⟨g,2,none⟩) (U.out.drewN _) I.out _,((fL.refl _ _ _).drewN _).eS 2 _,fun k e=>⟨by simpa[World.setCell] using al.out k e,.inl e⟩⟩
  ·have d2:decide (most<=(q.length:Int))=false:=aH h2;rw[aI h2] at s;subst s;subst T;rw[aI aj];have E:=eJ j;have U:=eJ u;have al:=eJ z;have I:=eJ C;have a5:=eJ Y;have Z:=eJ hq;obtain⟨i0,hi,aA,a0,a3⟩:=lY rJ;clear h1 h2 he j u z hd O Y hq C f2;go_enter func207,ntmps207;go_wp2_with fail;go_quiet (fail);go_wp2_with (at_builtin;go_must (refine gu _ rfl (.tmp 31) (.tmp 33) _ rfl base 9 i0 _ 16 underlying52 hi aA a0 a3 rfl (.slice ao q.length c) (sv q) rfl (by exact(U.out.drewN _).alloc _) w.heap.size 0 1 (.string d) rfl (by exact(eN.new (w.drewN _) 9 #[.string d]).cells1.1) rfl (by have:=Z.out;simp[maxLen,jL];omega) (by have:=Z.out;simp[jL];omega) (by have:=a5.out;simp;omega) ?_);intro g1 a8 a2 w3 X K ad a7 ac;have a6:=eJ X;have J:=eJ (((E.out.drewN _).alloc _).grown K (fun e=>I.out e.symm));have ap:=eJ ((((fL.refl w g (Value.slice ao q.length c).ownBlock).drewN _).alloc _).uB K);have aa:=eJ ad;have am:=eJ ac;have bb:=J.out.frozen 1;obtain⟨_,bd,_⟩:=J.out.c3;clear X K ad a7 ac);go_ret;have a4:(Value.slice (some ⟨g1,a8,none⟩) ((sv q).length+1) a2).ownBlock≠some g:=by
    intro e;simp[Value.ownBlock] at e;subst e;rcases aa.out with h|h
    ·exact I.out h
    ·have:=E.out.lt;simp at h;omega
   refine⟨rfl,_,J.out.eS 1 _, ?_,ap.out.eS 1 _, ?_⟩
   ·rw[sN,tS];exact fK.iI (p:=⟨g,1,none⟩) a6.out a4 _
   ·intro k e;simp[Value.ownBlock] at e;subst e;refine⟨by simpa[World.setCell] using am.out, ?_⟩;rcases aa.out with h|h
    ·exact .inl h
    ·right;simp at h;omega
theorem BY(w:World)(j:eN w g 266 (GC most v lost))(h:fK w base 9 v (sv [])):Calls prog 139 #[.pointer (some ⟨g,0,none⟩)] w fun r w'=>r=.returned (.tuple #[.string ⟨#[]⟩,gv 8])/\w'=w:=by obtain⟨ao,c,s,e⟩:=h.shape;obtain⟨c0,c1,c2⟩:=j.c3;rw[jL] at s e;subst s;clear j h e;go_enter func139,ntmps139;go_wp2_with fail;go_ret2;exact⟨rfl,rfl⟩
theorem BF(w:World)(d:ByteArray)(u:eN w g 266 (GC most v lost))(j:fK w base 9 v (sv (d::q)))(E: ∀k,v.ownBlock=some k->k<w.heap.size)(C:v.ownBlock≠some g)(hq:q.length<=1000):Calls prog 139 #[.pointer (some ⟨g,0,none⟩)] w fun r w'=>r=.returned (.tuple #[.string d,gv 0])/\nH w base g most v lost q w':=by
 obtain⟨ao,c,K,I⟩:=j.shape;obtain⟨c0,c1,c2⟩:=u.c3;simp only[jL,aP] at K I;subst K;obtain⟨s,off,rfl,al,J,Y⟩:=j.block ah;have am:=qh j;have T:s≠g:=fun e=>C (by rw[e];rfl);have d4:((q.length:Int)+1==0)=false:=by rw[aV];omega
 have f1:=u.frozen 1;have ac:=eJ u;have O:=eJ j;have aA:=eJ E;have ap:=eJ C;have ad:=eJ J;have Z:=eJ T;clear u j E C al Y J T;go_enter func139,ntmps139;go_upto_region 5 with fail;obtain⟨h,z⟩: ∃h:Option Addr,h=if c=1 then some ⟨s,off,none⟩ else some ⟨s,off+1,none⟩:=⟨_,rfl⟩;rw[<-z];have U:Hid ((Value.slice h q.length (c-1)).ownBlock=some s):=eJ (by rw[z];split<;>rfl);have aa:Hid (fK w base 9 (.slice h q.length (c-1)) (sv q)):=eJ (by rw[z];exact O.out.tail);have X:Hid ((Value.slice h q.length (c-1)).ownBlock≠some g):=eJ (by rw[U.out];intro e;exact Z.out (bg e));clear z I O;go_wp2_with fail;go_ret2;exact⟨rfl,.slice h q.length (c-1),ac.out.eS 1 _,fK.iI (p:=⟨g,1,none⟩) aa.out X.out _,(fL.refl _ _ _).eS 1 _,Ca U.out (by simpa[World.setCell] using ad.out)⟩
end
theorem kR(a:Nat)(e:a<9223372036854775808):(BitVec.ofInt 64 (a:Int)).toNat=a:=by rw[BitVec.ofInt_natCast,BitVec.toNat_ofNat];exact Nat.mod_eq_of_lt ah
theorem pZ(a b:Nat)(e:a<9223372036854775808)(h:b<9223372036854775808):bits .and .i64 (a:Int) (b:Int)=((a&&&b:Nat):Int):=by have j:a&&&b<2^63:=Nat.and_lt_two_pow _ ah;show IntKind.i64.wrap ((BitVec.ofInt 64 (a:Int)&&&BitVec.ofInt 64 (b:Int)).toNat:Int)=_;rw[BitVec.toNat_and,kR a e,kR b h,ep];omega
theorem ri(a b:Nat)(e:a<9223372036854775808)(h:b<9223372036854775808):bits .or .i64 (a:Int) (b:Int)=((a|||b:Nat):Int):=by have j:a|||b<2^63:=dM ah ah;show IntKind.i64.wrap ((BitVec.ofInt 64 (a:Int)|||BitVec.ofInt 64 (b:Int)).toNat:Int)=_;rw[BitVec.toNat_or,kR a e,kR b h,ep];omega
theorem tt(a b:Nat)(e:a<9223372036854775808)(h:b<9223372036854775808):bits .xor .i64 (a:Int) (b:Int)=((a^^^b:Nat):Int):=by have j:a^^^b<2^63:=dX ah ah;show IntKind.i64.wrap ((BitVec.ofInt 64 (a:Int)^^^BitVec.ofInt 64 (b:Int)).toNat:Int)=_;rw[BitVec.toNat_xor,kR a e,kR b h,ep];omega
def yz(a b:Nat):Nat:=a^^^(a&&&b)
theorem ud(a b i:Nat):(yz a b).testBit i=(a.testBit i&& !b.testBit i):=by unfold yz;rw[Nat.testBit_xor,Nat.testBit_and];cases a.testBit i<;>cases b.testBit i<;>rfl
theorem Iw(a b n:Nat)(h:a<2^n):yz a b<2^n:=by apply Nat.lt_pow_two_of_testBit;intro i hi;rw[ud,dY (aN h (aX ah hi))];rfl
theorem we(a b:Nat)(j:a<9223372036854775808)(s:b<9223372036854775808):bits .andNot .i64 (a:Int) (b:Int)=((yz a b:Nat):Int):=by
 have u:yz a b<2^63:=Iw _ _ _ ah;show IntKind.i64.wrap ((BitVec.ofInt 64 (a:Int)&&&~~~ BitVec.ofInt 64 (b:Int)).toNat:Int)=_;have e:(BitVec.ofInt 64 (a:Int)&&&~~~ BitVec.ofInt 64 (b:Int)).toNat=yz a b:=by
  apply du;intro i;rw[ud,BitVec.testBit_toNat,BitVec.getLsbD_and,BitVec.getLsbD_not,<-BitVec.testBit_toNat,<-BitVec.testBit_toNat,kR a j,kR b s];by_cases h:i<64
  ·simp[h]
  ·have:a.testBit i=false:=dY (aN (show a<2^63 from ah) (aX ah ah));simp[this]
 rw[e,ep];omega
theorem iL(k:Nat)(h:k<17):wrap64 ((2:Int)^k)=((2^k:Nat):Int):=by have h1:(2:Nat)^k<=2^16:=aX ah ah;have h2:((2:Int)^k)=((2^k:Nat):Int):=ak;rw[h2];generalize(2:Nat)^k=x at h1;unfold wrap64;omega
theorem l8(m k:Nat)(hm:m<65536):bits .and .i64 ((m:Int)/2^k) 1=if m.testBit k then 1 else 0:=by have e:((m:Int)/2^k)=((m/2^k:Nat):Int):=ak;have h:=pZ (m/2^k) 1 (cO (Nat.div_le_self _ _) ah) ah;rw[e];rw[show((1:Nat):Int)=1 from rfl] at h;rw[h,Nat.and_one_is_mod,Nat.testBit_eq_decide_div_mod_eq];have:=ef (m/2^k);rcases this with h|h<;>simp[h]
abbrev jn(id n m:Nat)(fe bad:Int)(fz:Bool):Array Value:= #[.int .i64 id,.int .i64 n,.int .i64 m,.int .i64 fe,.int .i64 bad,.bool fz]
def kK(m fr mm:Nat):Bool:=decide (mm|||2^fr=m|||2^fr)&&mm.testBit fr
def gW(m fr mm:Nat):Int:=if kK m fr mm then 1 else 2
theorem vI(m k:Nat)(hm:m<65536)(hk:k<17):bits .or .i64 (m:Int) (wrap64 (2^k))=((m|||2^k:Nat):Int):=by have h1:(2:Nat)^k<=2^16:=aX ah ah;rw[iL k hk,ri m (2^k) ah ah]
theorem LJ(m k:Nat)(hm:m<65536)(hk:k<17):bits .andNot .i64 (m:Int) (wrap64 (2^k))=((yz m (2^k):Nat):Int):=by have h1:(2:Nat)^k<=2^16:=aX ah ah;rw[iL k hk,we m (2^k) ah ah]
theorem Bx(m fr mm:Nat)(hm:m<65536)(s:mm<65536)(j:fr<17)(h: ¬bits .or .i64 (mm:Int) (wrap64 (2^fr))=bits .or .i64 (m:Int) (wrap64 (2^fr))):kK m fr mm=false:=by rw[vI _ _ hm j,vI _ _ s j] at h;have u: ¬(mm|||2^fr=m|||2^fr):=fun e=>h (by rw[e]);simp[kK,u]
theorem Cp(m fr mm:Nat)(j:mm<65536)(h:(bits .and .i64 ((mm:Int)/2^fr) 1==0)=true):kK m fr mm=false:=by
 rw[l8 _ _ j] at h;cases e:mm.testBit fr
 ·simp[kK,e]
 ·simp[e] at h
theorem CP(m fr mm:Nat)(hm:m<65536)(e:mm<65536)(u:fr<17)(h:bits .or .i64 (mm:Int) (wrap64 (2^fr))=bits .or .i64 (m:Int) (wrap64 (2^fr)))(j:(bits .and .i64 ((mm:Int)/2^fr) 1==0)=false):kK m fr mm=true:=by
 rw[vI _ _ hm u,vI _ _ e u] at h;have h:=Int.ofNat.inj h;rw[l8 _ _ e] at j;cases s:mm.testBit fr
 ·simp[s] at j
 ·simp[kK,s,h]
theorem EV(g id n m:Nat)(fe bad:Int)(fz:Bool)(fr mm:Nat)(w:World)(h:eN w g 261 (jn id n m fe bad fz))(hn:n<=16)(Y:fr<n)(hm:m<65536)(s:mm<65536):Calls prog 205 #[.pointer (some ⟨g,0,none⟩),.int .i64 fr,.int .i64 mm] w fun e w'=>e=.returned (.int .i64 (gW m fr mm))/\∃k,w'=w.drewN k:=by
 have X:=h.lt;have O:=h.cell 0;have E:=h.cell 1;have z:=h.cell 2;have I:=h.cell 3;have T:=h.cell 4;have U:=h.cell 5;simp at O E z I T U;have g1:decide ((fr:Int)<0)=false:=ak;have g2:decide (n<=fr)=false:=ag;clear h;go_enter func205,ntmps205;go_wp2;refine wp_region_quiet_lit ai ai ?_;repeat (any_goals (first|go_big_quiet_step (fail)|quiet_step (fail)|(refine wpQuiet_step (fun K u=> ?_);go_simp;split<;>(refine u _ ?_;clear u K))))
 all_goals (refine wpQuiet_nil ?_;intro _ J;obtain⟨nq,C⟩:=J;subst C)
 all_goals go_wp2
 ·have j:=Cp m fr mm s ‹_›;go_ret;exact⟨by rw[gW,j];rfl,_,rfl⟩
 ·have j:=CP m fr mm hm s ah ‹_› ‹_›;go_ret;exact⟨by rw[gW,j];rfl,_,rfl⟩
 ·have j:=Bx m fr mm hm s ah ‹_›;go_ret;exact⟨by rw[gW,j];rfl,_,rfl⟩
def BO(id n m:Nat)(fe bad:Int)(fz:Bool)(fr:Nat)(e:Int):Array Value:=if fz then jn id n m fe bad fz else if e=1 then jn id n (m|||2^fr) (fe+1) bad fz else if e=2 then jn id n (yz m (2^fr)) fe (bad+1) fz else jn id n (yz m (2^fr)) fe bad fz
theorem IE(g id n m:Nat)(fe bad:Int)(fz:Bool)(fr:Nat)(j:Int)(w:World)(h:eN w g 261 (jn id n m fe bad fz))(hn:n<=16)(U:fr<n)(hi:id≠fr)(hm:m<65536)(h0:0<=j)(h2:j<=2)(g0:0<=fe)(g1:fe<=1000000000000)(b0:0<=bad)(b1:bad<=1000000000000):Calls prog 208 #[.pointer (some ⟨g,0,none⟩),.int .i64 fr,.int .i64 j] w fun e w'=>e=.returned (.tuple #[])/\eN w' g 261 (BO id n m fe bad fz fr j)/\w.grownBy w' (some g):=by
 have T:=h.lt;have E:=h.cell 0;have C:=h.cell 1;have z:=h.cell 2;have I:=h.cell 3;have J:=h.cell 4;have K:=h.cell 5;simp at E C z I J K;have f2:=h.frozen 2;have f3:=h.frozen 3;have f4:=h.frozen 4;have i1:decide ((fr:Int)<0)=false:=ak;have i2:decide (n<=fr)=false:=ag;have i3:((fr:Int)==(id:Int))=false:=ag;have i4:decide (j<0)=false:=ag;have i5:decide (2<j)=false:=ag;have s:=eJ h;clear h;have O:=eJ (vI m fr hm ah);have u:=eJ (LJ m fr hm ah);cases fz
 ·by_cases w1:j=1
  ·subst w1;go_enter func208,ntmps208;go_wp2;go_region;go_wp2;refine aR (eE rfl _ _ _) rfl ⟨rfl, ?_, ?_⟩
   ·rw[O.out];exact((s.out.eS 3 _).eS 2 _).drew
   ·repeat (first|exact fw _ _|refine iy ?_|refine gT ?_ _|refine gM ?_ _|refine eQ ?_ ak _)
  ·by_cases w2:j=2
   ·subst w2;go_enter func208,ntmps208;go_wp2;go_region;go_wp2;go_end0;refine⟨rfl, ?_, ?_⟩
    ·rw[u.out];exact((s.out.eS 4 _).eS 2 _).drew
    ·repeat (first|exact fw _ _|refine iy ?_|refine gT ?_ _|refine gM ?_ _|refine eQ ?_ ak _)
   ·obtain rfl:j=0:=ah;go_enter func208,ntmps208;go_wp2;go_region;go_wp2;go_end0;refine⟨rfl, ?_, ?_⟩
    ·rw[u.out];exact(s.out.eS 2 _).drew
    ·repeat (first|exact fw _ _|refine iy ?_|refine gT ?_ _|refine gM ?_ _|refine eQ ?_ ak _)
 ·go_enter func208,ntmps208;go_wp2;refine aR (eE rfl _ _ _) rfl ⟨rfl, ?_, ?_⟩
  ·exact s.out
  ·exact fw _ _
def oY(id n m:Nat)(fe bad:Int)(fz:Bool):Array Value:=if fz then jn id n m fe bad fz else if fe<=bad then jn id n m fe bad true else jn id n m 1 0 fz
def fs(fe bad:Int)(fz:Bool):Bool:= !fz&&decide (bad<fe)
def gR(m:Nat)(fe bad:Int)(fz:Bool):Int:=if fs fe bad fz then(m:Int) else 0
theorem It(g id n m:Nat)(fe bad:Int)(fz:Bool)(w:World)(j:eN w g 261 (jn id n m fe bad fz)):Calls prog 175 #[.pointer (some ⟨g,0,none⟩)] w fun e w'=>e=.returned (.tuple #[.int .i64 (gR m fe bad fz),.bool (fs fe bad fz)])/\eN w' g 261 (oY id n m fe bad fz)/\w.grownBy w' (some g):=by
 have K:=j.lt;have C:=j.cell 0;have z:=j.cell 1;have u:=j.cell 2;have E:=j.cell 3;have I:=j.cell 4;have J:=j.cell 5;simp at C z u E I J;have f2:=j.frozen 2;have f3:=j.frozen 3;have f4:=j.frozen 4;have f5:=j.frozen 5;have s:=eJ j;clear j;cases fz
 ·by_cases h:fe<=bad
  ·rw[show gR m fe bad false=0 by simp[gR,fs];omega,show fs fe bad false=false by simp[fs];omega,show oY id n m fe bad false=jn id n m fe bad true by simp[oY,h]];go_enter func175,ntmps175;go_wp2;go_quiet (fail);go_wp2;go_ret2;refine⟨rfl, ?_, ?_⟩
   ·exact(s.out.drewN _).eS 5 _
   ·repeat (first|exact fw _ _|refine iy ?_|refine gT ?_ _|refine gM ?_ _|refine eQ ?_ ak _)
  ·rw[show gR m fe bad false=m by simp[gR,fs];omega,show fs fe bad false=true by simp[fs];omega,show oY id n m fe bad false=jn id n m 1 0 false by simp[oY,h]];go_enter func175,ntmps175;go_wp2;go_quiet (fail);go_wp2;go_ret2;refine⟨rfl, ?_, ?_⟩
   ·exact((s.out.drewN _).eS 3 _).eS 4 _
   ·repeat (first|exact fw _ _|refine iy ?_|refine gT ?_ _|refine gM ?_ _|refine eQ ?_ ak _)
 ·rw[show gR m fe bad true=0 by simp[gR,fs],show fs fe bad true=false by simp[fs],show oY id n m fe bad true=jn id n m fe bad true by simp[oY]];go_enter func175,ntmps175;go_wp2;go_ret2;exact⟨rfl,s.out,fw _ _⟩
theorem F4(g id n m:Nat)(fe bad:Int)(fz:Bool)(w:World)(h:eN w g 261 (jn id n m fe bad fz)):Calls prog 133 #[.pointer (some ⟨g,0,none⟩)] w fun e w'=>e=.returned (.bool fz)/\w'=w:=by have s:=h.lt;have j:=h.cell 5;simp at j;clear h;go_enter func133,ntmps133;go_wp2;go_ret;exact⟨rfl,rfl⟩
theorem Cq(g id n m:Nat)(fe bad:Int)(fz:Bool)(w:World)(h:eN w g 261 (jn id n m fe bad fz)):Calls prog 132 #[.pointer (some ⟨g,0,none⟩)] w fun e w'=>e=.returned (.int .i64 m)/\w'=w:=by have s:=h.lt;have j:=h.cell 2;simp at j;clear h;go_enter func132,ntmps132;go_wp2;go_ret;exact⟨rfl,rfl⟩
theorem OL(id n:Nat)(w:World)(h:id<n)(hn:n<=16):Calls prog 145 #[.int .i64 id,.int .i64 n] w fun e w'=>e=.returned (.tuple #[.pointer (some ⟨w.heap.size,0,none⟩),.nilIface])/\w.alloc (.cells (jn id n (2^n-1) 1 0 false) 261)=w':=by
 have hp:wrap64 (wrap64 (2^n)-1)=((2^n-1:Nat):Int):=by have h1:(2:Nat)^n<=2^16:=aX ah ah;have h2:0<(2:Nat)^n:=cQ n;rw[iL n ah];generalize(2:Nat)^n=x at h1 h2;unfold wrap64;omega
 have j:=eJ hp;clear hp;go_enter func145,ntmps145;go_wp2;go_ret2;exact⟨rfl,by rw[j.out]⟩
def ij(n lo hi:Int):Bool:=decide (lo<=n)&&decide (n<=hi)
theorem qi(n lo hi:Int)(w:World):Calls prog 31 #[.int .i64 n,.int .i64 lo,.int .i64 hi] w fun e w'=>e=.returned (.bool (ij n lo hi))/\w=w':=by go_enter func31,ntmps31;go_wp2;all_goals (go_ret;exact⟨gB (by simp only[ij];simp[*]<;>omega),rfl⟩)
theorem fE(n lo hi:Int)(v:Bool)(h:ij n lo hi=v)(w:World):Calls prog 31 #[.int .i64 n,.int .i64 lo,.int .i64 hi] w fun e w'=>e=.returned (.bool v)/\w=w':=by subst h;exact qi n lo hi w
theorem NV{n:Int}(h:ij n (-1099511627776) 1099511627776=true):-1099511627776<=n/\n<=1099511627776:=by simpa[ij] using h
def pC(a b:Int):Bool:=decide (a≠0/\((b=0/\a<=127)\/(b≠0/\1<=(a-b)%255/\(a-b)%255<=127)))
theorem Es(a b:Int)(h:0<=a)(s:a<=255)(u:0<=b)(j:b<=255)(w:World):Calls prog 215 #[.int .i64 a,.int .i64 b] w fun e w'=>e=.returned (.bool (pC a b))/\w'=w:=by go_enter func215,ntmps215;go_wp2;all_goals (go_ret;exact⟨gB (by simp_all [pC]<;>omega),rfl⟩)
theorem zO(a b:Int)(z:0<=a)(s:a<=255)(u:0<=b)(j:b<=255)(v:Bool)(h:pC a b=v)(w:World):Calls prog 215 #[.int .i64 a,.int .i64 b] w fun e w'=>e=.returned (.bool v)/\w'=w:=by subst h;exact Es a b z s u j w
def gS(s nw:Int):Bool:=decide (0<=s/\s<=255)&&(decide (nw<0)||pC s nw)
def jV(s nw c0 c1:Int):Array Value:=bif gS s nw then #[.int .i64 s,.int .i64 (c0+1),.int .i64 c1] else #[.int .i64 nw,.int .i64 c0,.int .i64 (c1+1)]
theorem GY(g:Nat)(s nw c0 c1:Int)(d:ByteArray)(w:World)(j:eN w g 275 #[.int .i64 nw,.int .i64 c0,.int .i64 c1])(hn:-1<=nw)(O:nw<=255)(U:0<=c0)(K:c0<=1000000000000)(J:0<=c1)(I:c1<=1000000000000):Calls prog 206 #[.pointer (some ⟨g,0,none⟩),.agg #[.int .i64 s,.string d]] w fun e w'=>e=.returned (.bool (gS s nw))/\eN w' g 275 (jV s nw c0 c1)/\w.grownBy w' (some g):=by
 have T:=j.lt;have E:=j.cell 0;have z:=j.cell 1;have u:=j.cell 2;have f0:=j.frozen 0;have f1:=j.frozen 1;have f2:=j.frozen 2;simp at E z u;by_cases a1:s<0
 ·have h:gS s nw=false:=by simp[gS];omega
  have g1:decide (s<0)=true:=ag;have H:=eJ h;clear h;go_enter func206,ntmps206;go_wp2;go_quiet (fail);go_wp2;go_region;go_wp2;go_ret;refine⟨gB H.out.symm, ?_, ?_⟩
  ·rw[jV,H.out];exact(((j.alloc _).drewN _).eS 2 _).drew
  ·repeat (first|exact fw _ _|refine iy ?_|refine gT ?_ _|refine gM ?_ _|refine eQ ?_ ak _)
 have g1:decide (s<0)=false:=ag;by_cases a2:255<s
 ·have h:gS s nw=false:=by simp[gS];omega
  have g2:decide (255<s)=true:=ag;have H:=eJ h;clear h;go_enter func206,ntmps206;go_wp2;go_quiet (fail);go_wp2;go_region;go_wp2;go_ret;refine⟨gB H.out.symm, ?_, ?_⟩
  ·rw[jV,H.out];exact(((j.alloc _).drewN _).eS 2 _).drew
  ·repeat (first|exact fw _ _|refine iy ?_|refine gT ?_ _|refine gM ?_ _|refine eQ ?_ ak _)
 have g2:decide (255<s)=false:=ag;by_cases a3:nw<0
 ·have h:gS s nw=true:=by simp[gS];omega
  have g3:decide (0<=nw)=false:=ag;have H:=eJ h;clear h;go_enter func206,ntmps206;go_wp2;go_quiet (fail);go_wp2;go_region;go_wp2;go_ret;refine⟨gB H.out.symm, ?_, ?_⟩
  ·rw[jV,H.out];exact((((j.alloc _).drewN _).eS 0 _).eS 1 _).drew
  ·repeat (first|exact fw _ _|refine iy ?_|refine gT ?_ _|refine gM ?_ _|refine eQ ?_ ak _)
 have g3:decide (0<=nw)=true:=ag;by_cases a4:pC s nw=true
 ·have h:gS s nw=true:=by simp[gS,a4];omega
  have c:=zO s nw ah ah ah ah _ a4;have H:=eJ h;clear h;clear a4;have C:=eJ c;clear c;go_enter func206,ntmps206;go_wp2;go_quiet ((go_at_call 215;exact bc (C.out _)));go_wp2;go_region;go_wp2;go_ret;refine⟨gB H.out.symm, ?_, ?_⟩
  ·rw[jV,H.out];exact((((j.alloc _).drewN _).eS 0 _).eS 1 _).drew
  ·repeat (first|exact fw _ _|refine iy ?_|refine gT ?_ _|refine gM ?_ _|refine eQ ?_ ak _)
 ·have a4:pC s nw=false:=by simpa using a4
  have h:gS s nw=false:=by simp[gS,a4];omega
  have c:=zO s nw ah ah ah ah _ a4;have H:=eJ h;clear h;clear a4;have C:=eJ c;clear c;go_enter func206,ntmps206;go_wp2;go_quiet ((go_at_call 215;exact bc (C.out _)));go_wp2;go_region;go_wp2;go_ret;refine⟨gB H.out.symm, ?_, ?_⟩
  ·rw[jV,H.out];exact(((j.alloc _).drewN _).eS 2 _).drew
  ·repeat (first|exact fw _ _|refine iy ?_|refine gT ?_ _|refine gM ?_ _|refine eQ ?_ ak _)
inductive Ob where
 |none
 |mem (g id n m:Nat) (fe bad:Int) (fz:Bool)
 |nK (g:Nat) (nw c0 c1:Int)
 |snd (g:Nat) (v:Value) (lf lt bag que nx la nw:Int) (q:List ByteArray)
 |prt (g:Nat) (v:Value) (most lost:Int) (q:List ByteArray)
 |arr (t:TypeId) (v:Value) (l:List Value)
 |eW (g:Nat) (t:TypeId) (cs:Array Value)
def Ob.eX:Ob->List Nat|.none=>[]|.mem g _ _ _ _ _ _=>[g]|.nK g _ _ _=>[g]|.snd g v _ _ _ _ _ _ _ _=>g::v.ownBlock.toList|.prt g v _ _ _=>g::v.ownBlock.toList|.arr _ v _=>v.ownBlock.toList|.eW g _ _=>[g]
def Ob.At(w:World)(base:Nat):Ob->Prop|.none=>True|.mem g id n m fe bad fz=>eN w g 261 (jn id n m fe bad fz)|.nK g nw c0 c1=>eN w g 275 #[.int .i64 nw,.int .i64 c0,.int .i64 c1]|.snd g v lf lt bag que nx la nw q=>eN w g 264 (Gr lf lt bag que v nx la nw)/\fK w base 9 v (sv q)/\v.ownBlock≠some g|.prt g v most lost q=>eN w g 266 (GC most v lost)/\fK w base 9 v (sv q)/\v.ownBlock≠some g|.arr t v l=>fK w base t v l|.eW g t cs=>eN w g t cs
structure ka (w w':World) (F:List Nat):Prop where
 os:w'.os=w.os
 tape:w'.tape=w.tape
 output:w'.output=w.output
 size:w.heap.size≤w'.heap.size
 block: ∀i,i<w.heap.size→i∉F→w'.heap[i]? =w.heap[i]?
theorem fL.KN{w w':World}{g:Nat}{vb:Option Nat}(h:fL w w' g vb):ka w w' (g::vb.toList):=⟨h.os,h.tape,h.output,h.size,fun i hi hn=>h.block i hi (fun e=>hn (by simp[e])) (fun e=>hn (by simp[<-e]))⟩
theorem nU{w w':World}{g:Nat}(h:w.grownBy w' (some g)):ka w w' [g]:=⟨h.os,h.tape,h.output,h.size,fun i hi hn=>h.block i hi (by simpa using hn)⟩
theorem xH{w w':World}{vb:Option Nat}(h:w.grownBy w' vb):ka w w' vb.toList:=⟨h.os,h.tape,h.output,h.size,fun i hi hn=>h.block i hi (by rintro rfl;simp at hn)⟩
theorem sY{w w':World}(h:Below w.heap.size w w')(F:List Nat):ka w w' F:=⟨h.os,h.tape,h.output,h.size,fun i hi _=>h.block i hi⟩
theorem ka.below{w0 w w':World}{F:List Nat}{B:Nat}(h:Below B w0 w)(hs:B<=w.heap.size)(hk:ka w w' F)(hF: ∀k,k∈F->B<=k):Below B w0 w':=⟨hk.os.trans h.os,hk.tape.trans h.tape,hk.output.trans h.output,aK h.size hk.size,fun k j=>(hk.block k ah (fun e=>by have:=hF k e;omega)).trans (h.block k j)⟩
theorem Ob.At.iP{w w':World}{base:Nat}{o:Ob}(h:o.At w base)(hk: ∀k,k<w.heap.size->k∈o.eX->w'.heap[k]? =w.heap[k]?):o.At w' base:=by have eW: ∀{g:Nat}{t:TypeId}{cs:Array Value},eN w g t cs->g∈o.eX->eN w' g t cs:=fun j hm=>(hk _ j.lt hm).trans j;have que: ∀{t:TypeId}{v:Value}{l:List Value},fK w base t v l->(∀k,v.ownBlock=some k->k∈o.eX)->fK w' base t v l:=fun hq hm=>hq.iP (fun g _ s e=>hk g s (hm g e));cases o with|none=>trivial|mem=>exact eW h (by simp[Ob.eX])|nK=>exact eW h (by simp[Ob.eX])|snd=>exact⟨eW h.1 (by simp[Ob.eX]),que h.2.1 (by intro k e;simp[Ob.eX,e]),h.2.2⟩|prt=>exact⟨eW h.1 (by simp[Ob.eX]),que h.2.1 (by intro k e;simp[Ob.eX,e]),h.2.2⟩|arr=>exact que h (by intro k e;simp[Ob.eX,e])|eW=>exact eW h (by simp[Ob.eX])
inductive Ix where
 |im|jb|memA|mem (i:Nat)|sndA|snd (k:Nat)|takA|takR (k:Nat)|nK (k i:Nat)|prtA|prtR (k:Nat)|prt (k i:Nat)|loc (j:Nat)
 deriving DecidableEq
structure fx (w:World) (base:Nat) (S:Ix→Ob):Prop where
 at_: ∀x,(S x).At w base
 own: ∀x k,k∈(S x).eX→base≤k∧k<w.heap.size
 sep: ∀x y k,k∈(S x).eX→k∈(S y).eX→x=y
def iv(S:Ix->Ob)(x:Ix)(o:Ob):Ix->Ob:=fun y=>if y=x then o else S y
section
variable {w w':World}{base:Nat}{S:Ix->Ob}
@[simp] theorem fq(x:Ix)(o:Ob):iv S x o x=o:=by simp[iv]
theorem putO_ne{x y:Ix}(o:Ob)(h:y≠x):iv S x o y=S y:=by simp[iv,h]
theorem fx.same(h:fx w base S)(hs:w.heap.size<=w'.heap.size)(hk: ∀i,i<w.heap.size->w'.heap[i]? =w.heap[i]?):fx w' base S:=⟨fun x=>(h.at_ x).iP (fun k e _=>hk k e),fun x k hm=>⟨(h.own x k hm).1,aN (h.own x k hm).2 hs⟩,h.sep⟩
theorem fx.below(h:fx w base S)(hB:Below w.heap.size w w'):fx w' base S:=h.same hB.size hB.block
theorem fx.alloc(h:fx w base S)(o:Obj):fx (w.alloc o) base S:=h.same ak (fun i hi=>bu w o i hi)
theorem fx.drewN(h:fx w base S)(n:Nat):fx (w.drewN n) base S:=h.same (ar) (fun _ _=>rfl)
theorem fx.drew(h:fx w base S):fx w.drew base S:=h.same (ar) (fun _ _=>rfl)
theorem fx.uW(h:fx w base S)(x:Ix)(o:Ob)(hk:ka w w' (S x).eX)(J:o.At w' base)(C: ∀k,k∈o.eX->k<w'.heap.size/\(k∈(S x).eX\/w.heap.size<=k))(K:base<=w.heap.size):fx w' base (iv S x o):=by
 refine⟨fun y=> ?_,fun y k hm=> ?_,fun y z k s j=> ?_⟩
 ·by_cases e:y=x
  ·subst e;rw[fq];exact J
  ·rw[putO_ne _ e];exact(h.at_ y).iP (fun k I hm=>hk.block k I (fun E=>e (h.sep y x k hm E)))
 ·by_cases e:y=x
  ·subst e;rw[fq] at hm;obtain⟨h1,h2⟩:=C k hm;rcases h2 with h2|h2
   ·exact⟨(h.own y k h2).1,h1⟩
   ·exact⟨ah,h1⟩
  ·rw[putO_ne _ e] at hm;exact⟨(h.own y k hm).1,aN (h.own y k hm).2 hk.size⟩
 ·by_cases e:y=x
  ·by_cases u:z=x
   ·rw[e,u]
   ·subst e;rw[fq] at s;rw[putO_ne _ u] at j;rcases(C k s).2 with h2|h2
    ·exact h.sep y z k h2 j
    ·have:=(h.own z k j).2;omega
  ·by_cases u:z=x
   ·subst u;rw[fq] at j;rw[putO_ne _ e] at s;rcases(C k j).2 with h2|h2
    ·exact h.sep y z k s h2
    ·have:=(h.own y k s).2;omega
   ·rw[putO_ne _ e] at s;rw[putO_ne _ u] at j;exact h.sep y z k s j
theorem fx.add(h:fx w base S)(x:Ix)(o:Ob)(hB:Below w.heap.size w w')(j:o.At w' base)(e: ∀k,k∈o.eX->k<w'.heap.size/\w.heap.size<=k)(s:base<=w.heap.size):fx w' base (iv S x o):=h.uW x o (sY hB _) j (fun k hm=>⟨(e k hm).1,.inr (e k hm).2⟩) s
theorem fx.nb(h:fx w base S)(x:Ix){g:Nat}{t:TypeId}{cs:Array Value}(e:S x=.eW g t cs)(i:Nat)(u:Value)(s:base<=w.heap.size):fx (w.setCell ⟨g,i,none⟩ u) base (iv S x (.eW g t (cs.setIfInBounds i u))):=by
 have j:eN w g t cs:=by have:=h.at_ x;rw[e] at this;exact this
 refine h.uW x _ ?_ (j.eS i u) (fun k hm=> ?_) s
 ·rw[e];exact⟨rfl,rfl,rfl,by simp[World.setCell],fun k hk hn=>aW w _ u k (by simpa[Ob.eX] using hn)⟩
 ·rw[e];simp only[Ob.eX,bO] at hm;subst hm;exact⟨by simpa[World.setCell] using j.lt,.inl (by simp[Ob.eX])⟩
theorem wC{w w':World}{g:Nat}{v v':Value}(h:g<w'.heap.size)(j:Own w w' v v'): ∀k,k∈g::v'.ownBlock.toList->k<w'.heap.size/\(k∈g::v.ownBlock.toList\/w.heap.size<=k):=by
 intro k hm;simp only[bR,Option.mem_toList] at hm⊢;rcases hm with rfl|hm
 ·exact⟨h,.inl (.inl rfl)⟩
 ·obtain⟨h1,h2⟩:=j k hm;exact⟨h1,h2.elim (fun e=> .inl (.inr e)) .inr⟩
theorem yO{w w':World}{g:Nat}{v v':Value}(u:g<w.heap.size)(j:v.ownBlock≠some g)(s:Own w w' v v'):v'.ownBlock≠some g:=by
 intro e;rcases(s g e).2 with h|h
 ·exact j h
 ·omega
end
structure Wn where
 p:Int
 f:Int
 t:Int
end Go.Proofs.YtideefjnlakciaaGreatDoor
