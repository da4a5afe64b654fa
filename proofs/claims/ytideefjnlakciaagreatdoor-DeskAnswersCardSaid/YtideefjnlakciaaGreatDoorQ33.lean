/- The contracts of the commands of the document's house: lose, read; conditions: the house and the numbers lie in memory. -/
import Derived.Test.YtideefjnlakciaaGreatDoorQ00
import Derived.Test.YtideefjnlakciaaGreatDoorQ20
import Derived.Test.YtideefjnlakciaaGreatDoorQ32
import Derived.Test.YtideefjnlakciaaGreatDoorQ23
import Derived.Test.YtideefjnlakciaaGreatDoorQ31
import Derived.Test.YtideefjnlakciaaGreatDoorQ01
import Derived.Test.YtideefjnlakciaaGreatDoorQ13
import Derived.Test.YtideefjnlakciaaGreatDoorQ21
import Derived.Test.YtideefjnlakciaaGreatDoorQ24
import Derived.Test.YtideefjnlakciaaGreatDoorQ26
import Derived.Test.YtideefjnlakciaaGreatDoorQ19
import Derived.Deep.RegionHeld3
import Derived.WideKeyRuns
import Derived.MapKept
import Derived.Carry
import Derived.Lib.FieldsP
set_option maxRecDepth 1000000
set_option maxHeartbeats 20000000
set_option linter.unusedVariables false
set_option linter.unusedSimpArgs false
namespace Go.Proofs.YtideefjnlakciaaGreatDoor
open Go.RowKit Go.Proofs.Tryz
section
variable {m k:Nat}{w0 w w1:World}{g:Nat}{d:Dk}{L:Lh}{v:Value}{l:List Int}
theorem Gh:(prog.info? 106).map (fun i=>(i.zero,i.size,i.bytes))=some (some (.agg #[.int .i64 0,.int .i64 0,.int .i64 0]),3,24):=ai
theorem Gz:(prog.info? 108).map (fun i=>(i.zero,i.size,i.bytes))=some (some (.agg #[.int .i64 0,.int .i64 0,.int .i64 0]),3,24):=ai
theorem Kt(h:jF m k w0 w w1 g d L v l)(A:Option Addr)(ws:List ByteArray)(c:Nat)(hn:eU ws 3=some l):Calls prog 15 #[.pointer (some ⟨g,0,none⟩),.string ⟨#[108,111,115,101]⟩,.slice A ws.length c,v] w1 (mx m w0 w g L (qc d ws)):=by
 obtain⟨s,x1,u,gk,cp,rfl,rfl,a2,n1,a9,cc,ap⟩:=xS h.own ((fg hn).1 ah);cases hd:d.c with
  |none=>have ac:=eJ (h.bad (x:=qc d ws) ((eL hn).trans (fZ hd)) aj ⟨#[]⟩ (au));exact(lU ak (h.none_ hd) _ _).mono (by rintro r w2 ⟨rfl,rfl⟩;exact ac.out)
  |some y=>
   obtain⟨gc,M,bs,b5,hM,bq,ao,hG,bj,b3,bb⟩:=h.dk.DK (fy:=y.1) (c:=y.2) hd h.hB h.lt;have jk:=h.some_ ao;have aA:Hid (qc d ws=⟨.ok ⟨#[108,111,115,101]⟩,{d with r:={d.r with ls:=d.r.ls++[⟨s,x1,u⟩]}}⟩):=eJ ((eL hn).trans (fF hd));clear bj b3 bb hG hM bq;have a0: ¬mD g L gk:=fun hF=>by have:=(h.dk.lo hF).2;omega
   obtain⟨U,al,aa⟩:=h.hs.app 2 ah 11 (d':={d with r:={d.r with ls:=d.r.ls++[⟨s,x1,u⟩]}}) (vals:=[.int .i64 s,.int .i64 x1,.int .i64 u]) (fun j ce b7=>by obtain rfl|rfl|rfl|rfl|rfl:j=0\/j=1\/j=3\/j=4\/j=5:=ah;all_goals exact⟨rfl,rfl⟩) ⟨vf _ _,by show(d.r.ls++_).length=_;rw[aT];rfl⟩ (fun _=>rfl) rfl (.inr ⟨ah,rfl⟩) (.cells #[.int .i64 s,.int .i64 x1,.int .i64 u] 106);have T:w1.cell? ⟨g,11,none⟩=some (L.v 2):=h.hs.eW.cell 11;have C: ∀W,eN W g 60 (lB d L)->W.cell? ⟨g,11,none⟩=some (L.v 2):=fun W bv=>bv.cell 11;obtain⟨q,hq⟩:=ab (iR d 2);obtain⟨X,a3⟩:=ab (ju d 2);obtain⟨O,Y⟩:=ab (L.v 2);rw[hq,a3,Y] at U aa;rw[Y] at al T C;have b6:q<=6000:=by have:d.r.ls.length=q:=hq;have:=h.ok.ls;have:=h.hk;omega
   have be:=eJ U;have bd:=eJ aa;have bz:=eJ al;have b8:=eJ C;have b2:=eJ (xk (eN.new w1.drew 106 #[.int .i64 s,.int .i64 x1,.int .i64 u]));have a5:Hid (q+1<=maxLen/\(q+1)*24<=140737488355328):=eJ (by simp[maxLen];omega);have bk:Hid (w0.heap.size<=(w1.drew.alloc (.cells #[.int .i64 s,.int .i64 x1,.int .i64 u] 106)).heap.size):=eJ (by have:=h.hs.low.size;simp;omega);obtain⟨i0,hi,bx,bw,bi⟩:=eR Gh;obtain⟨E,a8⟩: ∃E:World->Prop,(fun W=>W.cell? ⟨g,11,none⟩=some O/\W.cell? ⟨gk,0,none⟩=some (.int .i64 s)/\W.cell? ⟨gk,1,none⟩=some (.int .i64 x1)/\W.cell? ⟨gk,2,none⟩=some (.int .i64 u))=E:=⟨_,rfl⟩;have K:=eJ a8.symm;have Z:Hid (∀W:World,W.heap[gk]? =w1.heap[gk]? ->W.cell? ⟨gk,0,none⟩=some (.int .i64 s)/\W.cell? ⟨gk,1,none⟩=some (.int .i64 x1)/\W.cell? ⟨gk,2,none⟩=some (.int .i64 u)):=eJ (fun W hq=>⟨(fj hq 0).trans a2,(fj hq 1).trans n1,(fj hq 2).trans a9⟩);have bt:Hid (E w1.drew):=eJ (by rw[K.out];exact⟨T,Z.out _ rfl⟩);have bf:Hid (E (w1.drew.alloc (.cells #[.int .i64 s,.int .i64 x1,.int .i64 u] 106))):=eJ (by rw[K.out];exact⟨C _ (h.hs.eW.drew.alloc _),Z.out _ (bu _ _ _ ap)⟩);have bn:Hid (∀I,(w1.drew.alloc (.cells #[.int .i64 s,.int .i64 x1,.int .i64 u] 106)).grownBy I O.ownBlock->E I/\I.cell? ⟨g,11,none⟩=some O/\I.frozen? ⟨g,11,none⟩=false):=eJ (fun I J=>by obtain⟨h1,h2⟩:=bz.out I J;rw[K.out];exact⟨⟨C _ h1,Z.out _ (h2 gk ap a0)⟩,C _ h1,h1.frozen 11⟩);have ac:=eJ (fun W (bm:iW m w0 w1 g L W {d with r:={d.r with ls:=d.r.ls++[⟨s,x1,u⟩]}})=>mx.fe aA.out ((iW.after h.hB bm).mono (aU m)));clear h hn U aa al C hq a3 Y a8 aA a0 ao;go_enter func15,ntmps15;go_wp2_with fail;refine wp_region_noPanic ?_;refine fU (S:=E) (L:=19) ai ?_;clear T a2 n1 a9 jk;try simp only[ba,aP,bh,Nat.reduceAdd]
   refine il (fuel:=5) ai (fun _ _ _ _ h=>h) bt.out [0,1,2,3,4,5,6,7,8,9,10,11,12,13,14] ai ?_;iterate 15
    refine⟨_, ?_,rfl,.inl ⟨by rfl, ?_⟩, ?_⟩;rotate_left
    ·(intro w9 a4;rw[K.out] at a4;obtain⟨b9,b4,ch,cb⟩:=a4;go_simp<;>with_reducible rfl)
    try simp only[Act.put,ax,aE,aD,aB,ay,az]
   unfold ou;refine eK (i:=15) ai rfl (fun z e=> ?_);try simp only[aB,ay,az]
   go_simp;refine e.out _ _ (fun _=>bf.out) ?_;clear e z;try simp only[Act.put,ax,aE,aD]
   refine eK (i:=16) ai rfl (fun z e=> ?_);try simp only[aB,ay,az]
   rw[aM (by rfl)];refine fI _ (.tmp 276) (.tmp 287) 57 rfl w0.heap.size 106 i0 _ 3 24 underlying57 hi bx bw bi rfl aj O q X rfl (by exact be.out) ⟨w1.heap.size,0,none⟩ 1 1 [.int .i64 s,.int .i64 x1,.int .i64 u] rfl rfl (by exact b2.out) (Fo s x1 u) a5.out.1 a5.out.2 (by exact bk.out) ?_;intro v8 w8 am J a7;obtain⟨cd,ca,rfl,-⟩:=gK am;have bl:=eJ (bd.out w8 _ am J a7);obtain⟨a6,T,f11⟩:=bn.out w8 J;have ad:=eJ a6;clear am J a7 a6;refine e.out _ _ (fun _=>ad.out) ?_;clear e z;try simp only[Act.put,ax,aE,aD]
   refine eK (i:=17) ai rfl (fun z e=> ?_);try simp only[aB,ay,az]
   go_simp;refine e.out _ _ (fun _=>ad.out) ?_;clear e z;try simp only[Act.put,ax,aE,aD]
   refine eK (i:=18) ai rfl (fun z e=> ?_);try simp only[aB,ay,az]
   go_simp;refine e.out _ _ (fun _=>ad.out) ?_;clear e z;try simp only[Act.put,ax,aE,aD]
   refine eK (i:=19) ai rfl (fun z e=> ?_);try simp only[aB,ay,az]
   go_simp;refine e.out _ _ (fun h9=>absurd h9 aj) ?_;clear e z;try simp only[Act.put,ax,aE,aD]
   refine fT ai ?_ _;refine NoPanic.normal ?_;go_wp2_with fail;go_ret2;exact ac.out _ bl.out
theorem LW(h:jF m k w0 w w1 g d L v l)(A:Option Addr)(ws:List ByteArray)(c:Nat)(hn:eU ws 3=some l):Calls prog 15 #[.pointer (some ⟨g,0,none⟩),.string ⟨#[114,101,97,100]⟩,.slice A ws.length c,v] w1 (mx m w0 w g L (pO d ws)):=by
 obtain⟨s,x1,u,gk,cp,rfl,rfl,a0,n1,a8,cb,ao⟩:=xS h.own ((fg hn).1 ah);cases hd:d.c with
  |none=>have aa:=eJ (h.bad (x:=pO d ws) ((eL hn).trans (fZ hd)) aj ⟨#[]⟩ (au));exact(lU ak (h.none_ hd) _ _).mono (by rintro r w2 ⟨rfl,rfl⟩;exact aa.out)
  |some y=>
   obtain⟨gc,M,bs,b4,hM,bn,am,hG,bi,b2,a9⟩:=h.dk.DK (fy:=y.1) (c:=y.2) hd h.hB h.lt;have jk:=h.some_ am;have ap:Hid (pO d ws=⟨.ok ⟨#[114,101,97,100]⟩,{d with r:={d.r with rg:=d.r.rg++[⟨s,x1,u⟩]}}⟩):=eJ ((eL hn).trans (fF hd));clear bi b2 a9 hG hM bn;have aA: ¬mD g L gk:=fun hF=>by have:=(h.dk.lo hF).2;omega
   obtain⟨T,ad,Z⟩:=h.hs.app 3 ah 12 (d':={d with r:={d.r with rg:=d.r.rg++[⟨s,x1,u⟩]}}) (vals:=[.int .i64 s,.int .i64 x1,.int .i64 u]) (fun j cd b6=>by obtain rfl|rfl|rfl|rfl|rfl:j=0\/j=1\/j=2\/j=4\/j=5:=ah;all_goals exact⟨rfl,rfl⟩) ⟨vZ _ _,by show(d.r.rg++_).length=_;rw[aT];rfl⟩ (fun _=>rfl) rfl (.inr ⟨ah,rfl⟩) (.cells #[.int .i64 s,.int .i64 x1,.int .i64 u] 108);have c12:w1.cell? ⟨g,12,none⟩=some (L.v 3):=h.hs.eW.cell 12;have C: ∀W,eN W g 60 (lB d L)->W.cell? ⟨g,12,none⟩=some (L.v 3):=fun W bt=>bt.cell 12;obtain⟨q,hq⟩:=ab (iR d 3);obtain⟨X,a2⟩:=ab (ju d 3);obtain⟨O,U⟩:=ab (L.v 3);rw[hq,a2,U] at T Z;rw[U] at ad c12 C;have b5:q<=6000:=by have:d.r.rg.length=q:=hq;have:=h.ok.rg;have:=h.hk;omega
   have bd:=eJ T;have bb:=eJ Z;have bx:=eJ ad;have b7:=eJ C;have bz:=eJ (xk (eN.new w1.drew 108 #[.int .i64 s,.int .i64 x1,.int .i64 u]));have a4:Hid (q+1<=maxLen/\(q+1)*24<=140737488355328):=eJ (by simp[maxLen];omega);have bj:Hid (w0.heap.size<=(w1.drew.alloc (.cells #[.int .i64 s,.int .i64 x1,.int .i64 u] 108)).heap.size):=eJ (by have:=h.hs.low.size;simp;omega);obtain⟨i0,hi,bw,bv,bf⟩:=eR Gz;obtain⟨E,a7⟩: ∃E:World->Prop,(fun W=>W.cell? ⟨g,12,none⟩=some O/\W.cell? ⟨gk,0,none⟩=some (.int .i64 s)/\W.cell? ⟨gk,1,none⟩=some (.int .i64 x1)/\W.cell? ⟨gk,2,none⟩=some (.int .i64 u))=E:=⟨_,rfl⟩;have K:=eJ a7.symm;have Y:Hid (∀W:World,W.heap[gk]? =w1.heap[gk]? ->W.cell? ⟨gk,0,none⟩=some (.int .i64 s)/\W.cell? ⟨gk,1,none⟩=some (.int .i64 x1)/\W.cell? ⟨gk,2,none⟩=some (.int .i64 u)):=eJ (fun W hq=>⟨(fj hq 0).trans a0,(fj hq 1).trans n1,(fj hq 2).trans a8⟩);have bq:Hid (E w1.drew):=eJ (by rw[K.out];exact⟨c12,Y.out _ rfl⟩);have be:Hid (E (w1.drew.alloc (.cells #[.int .i64 s,.int .i64 x1,.int .i64 u] 108))):=eJ (by rw[K.out];exact⟨C _ (h.hs.eW.drew.alloc _),Y.out _ (bu _ _ _ ao)⟩);have bm:Hid (∀I,(w1.drew.alloc (.cells #[.int .i64 s,.int .i64 x1,.int .i64 u] 108)).grownBy I O.ownBlock->E I/\I.cell? ⟨g,12,none⟩=some O/\I.frozen? ⟨g,12,none⟩=false):=eJ (fun I J=>by obtain⟨h1,h2⟩:=bx.out I J;rw[K.out];exact⟨⟨C _ h1,Y.out _ (h2 gk ao aA)⟩,C _ h1,h1.frozen 12⟩);have aa:=eJ (fun W (bl:iW m w0 w1 g L W {d with r:={d.r with rg:=d.r.rg++[⟨s,x1,u⟩]}})=>mx.fe ap.out ((iW.after h.hB bl).mono (aU m)));clear h hn T Z ad C hq a2 U a7 ap aA am;go_enter func15,ntmps15;go_wp2_with fail;refine wp_region_noPanic ?_;refine fU (S:=E) (L:=19) ai ?_;clear c12 a0 n1 a8 jk;try simp only[ba,aP,bh,Nat.reduceAdd]
   refine il (fuel:=5) ai (fun _ _ _ _ h=>h) bq.out [0,1,2,3,4,5,6,7,8,9,10,11,12,13,14] ai ?_;iterate 15
    refine⟨_, ?_,rfl,.inl ⟨by rfl, ?_⟩, ?_⟩;rotate_left
    ·(intro w9 a3;rw[K.out] at a3;obtain⟨b8,b3,ch,ca⟩:=a3;go_simp<;>with_reducible rfl)
    try simp only[Act.put,ax,aE,aD,aB,ay,az]
   unfold ou;refine eK (i:=15) ai rfl (fun z e=> ?_);try simp only[aB,ay,az]
   go_simp;refine e.out _ _ (fun _=>be.out) ?_;clear e z;try simp only[Act.put,ax,aE,aD]
   refine eK (i:=16) ai rfl (fun z e=> ?_);try simp only[aB,ay,az]
   rw[aM (by rfl)];refine fI _ (.tmp 297) (.tmp 308) 58 rfl w0.heap.size 108 i0 _ 3 24 underlying58 hi bw bv bf rfl aj O q X rfl (by exact bd.out) ⟨w1.heap.size,0,none⟩ 1 1 [.int .i64 s,.int .i64 x1,.int .i64 u] rfl rfl (by exact bz.out) (Fo s x1 u) a4.out.1 a4.out.2 (by exact bj.out) ?_;intro v8 w8 al J a6;obtain⟨cc,b9,rfl,-⟩:=gK al;have bk:=eJ (bb.out w8 _ al J a6);obtain⟨a5,ce,f11⟩:=bm.out w8 J;have ac:=eJ a5;clear al J a6 a5;refine e.out _ _ (fun _=>ac.out) ?_;clear e z;try simp only[Act.put,ax,aE,aD]
   refine eK (i:=17) ai rfl (fun z e=> ?_);try simp only[aB,ay,az]
   go_simp;refine e.out _ _ (fun _=>ac.out) ?_;clear e z;try simp only[Act.put,ax,aE,aD]
   refine eK (i:=18) ai rfl (fun z e=> ?_);try simp only[aB,ay,az]
   go_simp;refine e.out _ _ (fun _=>ac.out) ?_;clear e z;try simp only[Act.put,ax,aE,aD]
   refine eK (i:=19) ai rfl (fun z e=> ?_);try simp only[aB,ay,az]
   go_simp;refine e.out _ _ (fun h9=>absurd h9 aj) ?_;clear e z;try simp only[Act.put,ax,aE,aD]
   refine fT ai ?_ _;refine NoPanic.normal ?_;go_wp2_with fail;go_ret2;exact aa.out _ bk.out
end
section
variable {w0 w:World}{g k:Nat}{d:Dk}{L:Ly}{A:Option Addr}{ws:List ByteArray}
theorem P4(x y z u:Int): ∀v∈[Value.int .i64 x,.int .i64 y,.int .i64 z,.int .i64 u],v.oneCell'=true:=by intro v e;simp only[bR,cC,ec] at e;rcases e with rfl|rfl|rfl|rfl<;>rfl
theorem M3{w:World}{b:Nat}{t:TypeId}{x y z r:Value}(h:eN w b t #[x,y,z,r]): ∀(j:Nat)(u:Value),[x,y,z,r][j]? =some u->w.cell? ((⟨b,0,none⟩:Addr).add j)=some u:=by
 intro j u hu;have e:((⟨b,0,none⟩:Addr).add j)=⟨b,j,none⟩:=by unfold Addr.add;split<;>simp_all
 rw[e,h.cell j];match j,hu with|0,hu=>exact hu|1,hu=>exact hu|2,hu=>exact hu|3,hu=>exact hu
theorem EL:(prog.info? 88).map (fun i=>(i.zero,i.size,i.bytes))=some (some (.agg #[.int .i64 0,.int .i64 0,.int .i64 0,.int .i64 0]),4,32):=ai
theorem Kw(h:iu w0 w g d L k A ws)(c:Nat):Calls prog 52 #[.pointer (some ⟨g,0,none⟩),.slice A ws.length c] w (qG w0 w g L (oe d ws)):=by
 have bl:=eJ (h.jb (4) ah ah c);have H:=eJ h;clear h;go_enter func52,ntmps52;go_wp2_with fail;refine bl.out.mono ?_;rintro r w1 ⟨⟨hn,rfl⟩|⟨l,v,hn,rfl,X⟩,a8⟩;case inl=>have ac:=eJ (H.out.bad (x:=oe d ws) (fJ hn) a8);go_wp2_with fail;exact⟨rfl,ac.out⟩
 obtain⟨z,x1,u,s,gk,cp,rfl,rfl,bk,n1,bw,bi,c0,bn⟩:=Nh X ((fg hn).1 ah);have J:=eJ a8;have a7:=eJ hn;have de:=eJ X;clear a8 hn X;cases hd:d.c with
  |some y=>obtain⟨a,b,jk,-⟩:=H.out.lx J.out hd;have a3:=eJ (iz w1 (H.out.jK J.out).err g _ false jk rfl);have al:Hid (oe d ws=⟨.error 6,d⟩):=eJ ((eL a7.out).trans (ma hd));clear jk;go_wp2_with fail;refine a3.out.mono ?_;rintro r w2 ⟨rfl,bz⟩;have ac:=eJ (H.out.bad al.out (J.out.trans (bz.mono J.out.size)));go_wp2_with fail;exact⟨rfl,ac.out⟩
  |none=>
   have a3:=eJ (jd w1 g none false (H.out.noCell J.out hd) rfl);have Y:=eJ (H.out.dk.below J.out);have c6:gk≠g:=by have:=H.out.dk.eW.lt;omega
   have a0:=Y.out.eW.cell 7;have f7:=Y.out.eW.frozen 7;simp at a0;go_wp2_with fail;refine a3.out.mono ?_;rintro r w2 ⟨rfl,rfl⟩;clear a3 bl;obtain⟨cj,am⟩:=ab (L.v 1);obtain⟨m,hm⟩:=ab d.p.lk.length;have ch:m<=8:=by have:=H.out.ok.lk;omega
   have a2:w2.ownsRow w0.heap.size 88 4 cj m (zv d.p.lk):=by have:=Y.out.own 1 ah;rw[am] at this;rw[<-hm];exact this
   obtain⟨T,O,cv,-⟩:=gK a2;subst cv;rw[am] at a0;have aa:=eJ am;by_cases ao:8<=m
   ·have al:Hid (oe d ws=⟨.error 4,d⟩):=eJ ((eL a7.out).trans ((jI hd).trans (aM (by rw[hm];exact ao))));have d1:decide ((8:Int)<=(m:Int))=true:=aJ ah;have b5:=eJ (gV 4 w2 (H.out.jK J.out).err);clear a2 hm am ao;go_wp2_with fail;refine b5.out.mono ?_;rintro r w3 ⟨rfl,b7⟩;have ac:=eJ (H.out.bad al.out (J.out.trans (b7.mono J.out.size)));go_wp2_with fail;exact⟨rfl,ac.out⟩
   have al:Hid (oe d ws=⟨.ok (fR m),{d with p:={d.p with lk:=d.p.lk++[⟨z,x1,u,s⟩]}}⟩):=eJ ((eL a7.out).trans ((jI hd).trans ((aI (by rw[hm];exact ao)).trans (by rw[hm];rfl))));have d1:decide ((8:Int)<=(m:Int))=false:=aH ah;have cr:=eJ (aK H.out.dk.low.size J.out.size);have ca:=eJ ((jq a2 (below_drewN (au) 1):w2.drew.ownsRow w0.heap.size 88 4 (.slice T m O) m (zv d.p.lk)).alloc (.cells #[.int .i64 z,.int .i64 x1,.int .i64 u,.int .i64 s] 88));have b8:=eJ (M3 (eN.new w2.drew 88 #[.int .i64 z,.int .i64 x1,.int .i64 u,.int .i64 s]));have bq:Hid (m+1<=maxLen/\(m+1)*32<=140737488355328):=eJ (by simp[maxLen];omega);have ci:Hid (w0.heap.size<=(w2.drew.alloc (.cells #[.int .i64 z,.int .i64 x1,.int .i64 u,.int .i64 s] 88)).heap.size):=eJ (by have:=cr.out;simp;omega);obtain⟨i0,hi,b6,cx,ce⟩:=eR EL;have ap:Hid (∀C,(w2.drew.alloc (.cells #[.int .i64 z,.int .i64 x1,.int .i64 u,.int .i64 s] 88)).grownBy C (Value.slice T m O).ownBlock->C.cell? ⟨g,7,none⟩=some (.slice T m O)/\C.frozen? ⟨g,7,none⟩=false/\eN C g 37 (ic d L)):=eJ (fun C I=>by have ad:eN C g 37 (ic d L):=(Y.out.eW.drew.alloc _).grown I (fun e=>Y.out.off 1 ah (by rw[aa.out];exact e.symm));have Z:=ad.cell 7;simp at Z;rw[aa.out] at Z;exact⟨Z,ad.frozen 7,ad⟩);have bb:(w2.alloc (.cells #[.int .i64 z,.int .i64 x1,.int .i64 u,.int .i64 s] 88)).cell? ⟨g,7,none⟩=some (.slice T m O):=by have Z:=(Y.out.eW.alloc (.cells #[.int .i64 z,.int .i64 x1,.int .i64 u,.int .i64 s] 88)).cell 7;simp at Z;rw[aa.out] at Z;exact Z
   have bx:Hid (∀(C:World)(v8:Value),C.ownsRow w0.heap.size 88 4 v8 (m+1) (zv d.p.lk++[.int .i64 z,.int .i64 x1,.int .i64 u,.int .i64 s])->(w2.drew.alloc (.cells #[.int .i64 z,.int .i64 x1,.int .i64 u,.int .i64 s] 88)).grownBy C (Value.slice T m O).ownBlock->(v8.ownBlock=(Value.slice T m O).ownBlock\/∀q,v8.ownBlock=some q->(w2.drew.alloc (.cells #[.int .i64 z,.int .i64 x1,.int .i64 u,.int .i64 s] 88)).heap.size<=q)->iN w0 w g L (C.setCell ⟨g,7,none⟩ v8) {d with p:={d.p with lk:=d.p.lk++[⟨z,x1,u,s⟩]}}):=eJ (fun C v8 b2 I ck=>by have bf:Below w2.heap.size w2 (w2.drew.alloc (.cells #[.int .i64 z,.int .i64 x1,.int .i64 u,.int .i64 s] 88)):=(below_drewN (au) 1).alloc (ar) _;have cc:=Y.out.below bf;have ad:eN (C.setCell ⟨g,7,none⟩ v8) g 37 (ic {d with p:={d.p with lk:=d.p.lk++[⟨z,x1,u,s⟩]}} {L with v:=eV L.v 1 v8}):=(ap.out C I).2.2.eS 7 v8;have cb: ∀j,j<6->j≠1->ju {d with p:={d.p with lk:=d.p.lk++[⟨z,x1,u,s⟩]}} j=ju d j/\iR {d with p:={d.p with lk:=d.p.lk++[⟨z,x1,u,s⟩]}} j=iR d j:=(fun j c7 cS=>by obtain rfl|rfl|rfl|rfl|rfl:j=0\/j=2\/j=3\/j=4\/j=5:=ah;all_goals exact⟨rfl,rfl⟩);refine iN.after J.out (iN.after bf (cc.row 1 ah v8 (by rw[aa.out];exact I) (by rw[aa.out];exact ck) (eQ (fw _ _) (.inl rfl) _) ?_ ad cb rfl (.inl hd)));have bt:zv (d.p.lk++[(⟨z,x1,u,s⟩:Lk)])=zv d.p.lk++[.int .i64 z,.int .i64 x1,.int .i64 u,.int .i64 s]:=wh _ _;show C.ownsRow w0.heap.size 88 4 v8 (d.p.lk++[(⟨z,x1,u,s⟩:Lk)]).length (zv (d.p.lk++[(⟨z,x1,u,s⟩:Lk)]));rw[bt,aT,hm];exact b2);have cu:Hid (∀W d2,iN w0 w g L W d2->Calls prog 21 #[.int .i64 m] W fun e w'=>e=.returned (.string (fR m))/\Below W.heap.size W w'):=eJ (fun W d2 h=>by obtain⟨L2,h2,-⟩:=h;exact jz m W (H.out.tR.below H.out.tR.wR h2.low) ah ah);have bt:wrap64 (((m:Int)+1)-1)=m:=by unfold wrap64;omega
   have dg:wrap64 (m:Int)=m:=by unfold wrap64;omega
   have c4:wrap64 ((((m+1:Nat)):Int)-1)=m:=by unfold wrap64;omega
   have b9:Hid (∀q,(Value.slice T m O).ownBlock=some q->q≠gk):=eJ (fun q e=>by have h1:=H.out.dk.lo (i:=q) (.inr (.inl ⟨1,ah,by rw[aa.out];exact e⟩));omega);obtain⟨U,be⟩: ∃U:World->Prop,(fun W=>W.cell? ⟨g,7,none⟩=some (.slice T m O)/\W.cell? ⟨gk,0,none⟩=some (.int .i64 z)/\W.cell? ⟨gk,1,none⟩=some (.int .i64 x1)/\W.cell? ⟨gk,2,none⟩=some (.int .i64 u)/\W.cell? ⟨gk,3,none⟩=some (.int .i64 s))=U:=⟨_,rfl⟩;have aA:Hid (U=fun W=>W.cell? ⟨g,7,none⟩=some (.slice T m O)/\W.cell? ⟨gk,0,none⟩=some (.int .i64 z)/\W.cell? ⟨gk,1,none⟩=some (.int .i64 x1)/\W.cell? ⟨gk,2,none⟩=some (.int .i64 u)/\W.cell? ⟨gk,3,none⟩=some (.int .i64 s)):=eJ be.symm;have a5:Hid (∀W:World,W.heap[gk]? =w2.heap[gk]? ->W.cell? ⟨gk,0,none⟩=some (.int .i64 z)/\W.cell? ⟨gk,1,none⟩=some (.int .i64 x1)/\W.cell? ⟨gk,2,none⟩=some (.int .i64 u)/\W.cell? ⟨gk,3,none⟩=some (.int .i64 s)):=eJ (fun W hq=>⟨(bo (a:=⟨gk,0,none⟩) hq).trans bk,(bo (a:=⟨gk,1,none⟩) hq).trans n1,(bo (a:=⟨gk,2,none⟩) hq).trans bw,(bo (a:=⟨gk,3,none⟩) hq).trans bi⟩);have bm:Hid (U w2.drew):=eJ (by rw[aA.out];exact⟨a0,a5.out _ rfl⟩);have co:Hid (U (w2.drew.alloc (.cells #[.int .i64 z,.int .i64 x1,.int .i64 u,.int .i64 s] 88))):=eJ (by rw[aA.out];exact⟨bb,a5.out _ (bu _ _ _ bn)⟩);have ct:Hid (∀C,(w2.drew.alloc (.cells #[.int .i64 z,.int .i64 x1,.int .i64 u,.int .i64 s] 88)).grownBy C (Value.slice T m O).ownBlock->U C):=eJ (fun C I=>by rw[aA.out];exact⟨(ap.out C I).1,a5.out _ ((I.block gk ag (fun e=>b9.out gk e.symm rfl)).trans (bu _ _ _ bn))⟩);clear a2 hm am ao ch be bb;go_wp2_with fail;refine wp_region_noPanic ?_;refine fU (S:=U) (L:=24) ai ?_;clear a0 bk n1 bw bi;have a6:=bm.out;try simp only[ba,aP,bh,Nat.reduceAdd]
   refine il (fuel:=6) ai (fun _ _ _ _ h=>h) an [0,1,2,3,4,5,6,7,8,9,10,11,12,13,14,15,16,17,18] ai ?_;iterate 19
    refine⟨_, ?_,rfl,.inl ⟨by rfl, ?_⟩, ?_⟩;rotate_left
    ·(intro w9 a9;rw[aA.out] at a9;obtain⟨cA,dd,dl,cV,c9⟩:=a9;go_simp<;>with_reducible rfl)
    try simp only[Act.put,ax,aE,aD,aB,ay,az]
   unfold ou;clear a6;have a6:=bm.out;refine eK (i:=19) ai rfl (fun K E=> ?_);try simp only[aB,ay,az]
   go_simp;refine E.out _ _ (fun _=>co.out) ?_;clear E K a6;try simp only[Act.put,ax,aE,aD]
   refine eK (i:=20) ai rfl (fun K E=> ?_);try simp only[aB,ay,az]
   rw[aM (by rfl)];refine fI _ (.tmp 24) (.tmp 38) 26 rfl w0.heap.size 88 i0 _ 4 32 underlying26 hi b6 cx ce rfl aj (.slice T m O) m (zv d.p.lk) rfl (by exact ca.out) ⟨w2.heap.size,0,none⟩ 1 1 [.int .i64 z,.int .i64 x1,.int .i64 u,.int .i64 s] rfl rfl (by exact b8.out) (P4 z x1 u s) bq.out.1 bq.out.2 (by exact ci.out) ?_;intro v8 w8 X I bd;obtain⟨c3,c5,rfl,-⟩:=gK X;have cm:=eJ X;have cn:=eJ I;have cd:=eJ bd;have a4:=eJ (ct.out w8 I);have c8:=(ap.out w8 I).1;have f11:=(ap.out w8 I).2.1;clear X I bd;refine E.out _ _ (fun _=>a4.out) ?_;clear E K;try simp only[Act.put,ax,aE,aD]
   refine eK (i:=21) ai rfl (fun K E=> ?_);try simp only[aB,ay,az]
   go_simp;refine E.out _ _ (fun _=>a4.out) ?_;clear E K;try simp only[Act.put,ax,aE,aD]
   refine eK (i:=22) ai rfl (fun K E=> ?_);try simp only[aB,ay,az]
   go_simp;refine E.out _ _ (fun _=>a4.out) ?_;clear E K;try simp only[Act.put,ax,aE,aD]
   refine eK (i:=23) ai rfl (fun K E=> ?_);try simp only[aB,ay,az]
   go_simp;refine E.out _ _ (fun _=>a4.out) ?_;clear E K;try simp only[Act.put,ax,aE,aD]
   refine eK (i:=24) ai rfl (fun K E=> ?_);try simp only[aB,ay,az]
   go_simp;refine E.out _ _ (fun h9=>absurd h9 aj) ?_;clear E K;try simp only[Act.put,ax,aE,aD]
   refine fT ai ?_ _;refine NoPanic.normal ?_;all_goals have bj:=eJ (bx.out _ _ cm.out cn.out cd.out);have b3:=eJ (cu.out _ _ bj.out);go_wp2_with fail;refine b3.out.mono ?_;rintro r w9 ⟨rfl,bv⟩;have b4:=eJ bv;clear bv;go_wp2_with fail;go_ret;rw[al.out];exact⟨rfl,bj.out.below b4.out⟩
end
section
variable {m k:Nat}{w0 w w1:World}{g:Nat}{d:Dk}{L:Lh}{v:Value}{l:List Int}
theorem Mr(h:jF m k w0 w w1 g d L v l)(A:Option Addr)(ws:List ByteArray)(c:Nat)(hn:eU ws 4=some l):Calls prog 15 #[.pointer (some ⟨g,0,none⟩),.string ⟨#[108,105,110,107]⟩,.slice A ws.length c,v] w1 (mx m w0 w g L (oe d ws)):=by
 obtain⟨u,x1,C,z,gk,cp,rfl,rfl,a6,n1,bj,ca,cn,a4⟩:=Nh h.own ((fg hn).1 ah);cases hd:d.c with
  |some y=>obtain⟨gc,M,bs,cc,-,-,bk,-⟩:=h.dk.DK (fy:=y.1) (c:=y.2) hd h.hB h.lt;have U:=eJ (h.bad (x:=oe d ws) ((eL hn).trans (ma hd)) aj ⟨#[]⟩ (au));exact(ug ak (h.some_ bk) _ _).mono (by rintro r w2 ⟨rfl,rfl⟩;exact U.out)
  |none=>
   have jk:=h.none_ hd;have a5: ¬mD g L gk:=fun hF=>by have:=(h.dk.lo hF).2;omega
   obtain⟨q,hq⟩:=ab (iR d 1);have cd:q<=8:=by have:d.p.lk.length=q:=hq;have:=h.ok.lk;omega
   have ao:=h.hs.own 1 ah;obtain⟨cj,I⟩:=ab (L.v 1);have bb:w1.cell? ⟨g,7,none⟩=some (L.v 1):=h.hs.eW.cell 7;rw[hq,I] at ao;rw[I] at bb;obtain⟨aa,ac,rfl,-⟩:=gK ao;by_cases al:8<=q
   ·have Z:Hid (oe d ws=⟨.error 4,d⟩):=eJ ((eL hn).trans ((jI hd).trans (aM (by show 8<=iR d 1;rw[hq];exact al))));have d1:decide ((8:Int)<=(q:Int))=true:=aJ ah;have U:=eJ (h.bad Z.out aj ⟨#[]⟩ (au));clear h hn al hq I ao;go_enter func15,ntmps15;go_wp2_with fail;go_ret2;exact U.out
   have Z:Hid (oe d ws=⟨.ok (fR q),{d with p:={d.p with lk:=d.p.lk++[⟨u,x1,C,z⟩]}}⟩):=eJ ((eL hn).trans ((jI hd).trans ((aI (by show¬8<=iR d 1;rw[hq];exact al)).trans (by show(⟨.ok (fR (iR d 1:Nat)),_⟩:jM)=_;rw[hq];rfl))));have d1:decide ((8:Int)<=(q:Int))=false:=aH ah;have T:pA m w0 w1 g d L:=h.hs;obtain⟨ap,a2,a0⟩:=T.app 1 ah 7 (d':={d with p:={d.p with lk:=d.p.lk++[⟨u,x1,C,z⟩]}}) (vals:=[.int .i64 u,.int .i64 x1,.int .i64 C,.int .i64 z]) (fun j cr ch=>by obtain rfl|rfl|rfl|rfl|rfl:j=0\/j=2\/j=3\/j=4\/j=5:=ah;all_goals exact⟨rfl,rfl⟩) ⟨wh _ _,by show(d.p.lk++_).length=_;rw[aT];rfl⟩ (fun _=>rfl) rfl (.inl hd) (.cells #[.int .i64 u,.int .i64 x1,.int .i64 C,.int .i64 z] 88);have J: ∀W,eN W g 60 (lB d L)->W.cell? ⟨g,7,none⟩=some (L.v 1):=fun W b4=>b4.cell 7;obtain⟨X,a8⟩:=ab (ju d 1);rw[hq,a8,I] at ap a0;rw[I] at a2 J;have bm:=eJ ap;have bl:=eJ a0;have b7:=eJ a2;have b8:=eJ (M3 (eN.new w1.drew 88 #[.int .i64 u,.int .i64 x1,.int .i64 C,.int .i64 z]));have bd:Hid (q+1<=maxLen/\(q+1)*32<=140737488355328):=eJ (by simp[maxLen];omega);have bt:Hid (w0.heap.size<=(w1.drew.alloc (.cells #[.int .i64 u,.int .i64 x1,.int .i64 C,.int .i64 z] 88)).heap.size):=eJ (by have:=T.low.size;simp;omega);obtain⟨i0,hi,b6,b5,bq⟩:=eR EL;obtain⟨K,bi⟩: ∃K:World->Prop,(fun W=>W.cell? ⟨g,7,none⟩=some (.slice aa q ac)/\W.cell? ⟨gk,0,none⟩=some (.int .i64 u)/\W.cell? ⟨gk,1,none⟩=some (.int .i64 x1)/\W.cell? ⟨gk,2,none⟩=some (.int .i64 C)/\W.cell? ⟨gk,3,none⟩=some (.int .i64 z))=K:=⟨_,rfl⟩;have ad:=eJ bi.symm;have aA:Hid (∀W:World,W.heap[gk]? =w1.heap[gk]? ->W.cell? ⟨gk,0,none⟩=some (.int .i64 u)/\W.cell? ⟨gk,1,none⟩=some (.int .i64 x1)/\W.cell? ⟨gk,2,none⟩=some (.int .i64 C)/\W.cell? ⟨gk,3,none⟩=some (.int .i64 z)):=eJ (fun W hq=>⟨(fj hq 0).trans a6,(fj hq 1).trans n1,(fj hq 2).trans bj,(fj hq 3).trans ca⟩);have b2:Hid (K w1.drew):=eJ (by rw[ad.out];exact⟨J _ T.eW.drew,aA.out _ rfl⟩);have bn:Hid (K (w1.drew.alloc (.cells #[.int .i64 u,.int .i64 x1,.int .i64 C,.int .i64 z] 88))):=eJ (by rw[ad.out];exact⟨J _ (T.eW.drew.alloc _),aA.out _ (bu _ _ _ a4)⟩);have bx:Hid (∀O,(w1.drew.alloc (.cells #[.int .i64 u,.int .i64 x1,.int .i64 C,.int .i64 z] 88)).grownBy O (Value.slice aa q ac).ownBlock->K O/\O.cell? ⟨g,7,none⟩=some (.slice aa q ac)/\O.frozen? ⟨g,7,none⟩=false):=eJ (fun O Y=>by obtain⟨h1,h2⟩:=b7.out O Y;rw[ad.out];exact⟨⟨J _ h1,aA.out _ (h2 _ a4 a5)⟩,J _ h1,h1.frozen 7⟩);have bz:Hid (∀W d2 n,n=W.heap.size->iW m w0 w1 g L W d2->Calls prog 16 #[.slice (some ⟨n,0,none⟩) 1 1] (W.alloc (.cells #[.int .i64 q] 3)) fun e w'=>e=.returned (.string (fR q))/\Below W.heap.size W w'):=eJ (fun W d2 n e ⟨L2,h2,_⟩=>by subst e;exact qN q W (h.tR.below h.tR.wR h2.low) ah ah);have U:=eJ (fun W (bw:iW m w0 w1 g L W {d with p:={d.p with lk:=d.p.lk++[⟨u,x1,C,z⟩]}})=>mx.fe Z.out ((iW.after h.hB bw).mono (aU m)));have cu:wrap64 (((q:Int)+1)-1)=q:=by unfold wrap64;omega
   have cx:wrap64 (q:Int)=q:=by unfold wrap64;omega
   have cv:wrap64 ((((q+1:Nat)):Int)-1)=q:=by unfold wrap64;omega
   have ce:w1.heap.size=w1.heap.size:=rfl;clear h hn ap a0 a2 hq a8 I bi Z a5 ao T al J;go_enter func15,ntmps15;go_wp2_with fail;refine wp_region_noPanic ?_;refine fU (S:=K) (L:=24) ai ?_;clear bb a6 n1 bj jk;try simp only[ba,aP,bh,Nat.reduceAdd]
   refine il (fuel:=6) ai (fun _ _ _ _ h=>h) b2.out [0,1,2,3,4,5,6,7,8,9,10,11,12,13,14,15,16,17,18] ai ?_;iterate 19
    refine⟨_, ?_,rfl,.inl ⟨by rfl, ?_⟩, ?_⟩;rotate_left
    ·(intro w9 a9;rw[ad.out] at a9;obtain⟨ci,cb,cS,cm,cA⟩:=a9;go_simp<;>with_reducible rfl)
    try simp only[Act.put,ax,aE,aD,aB,ay,az]
   unfold ou;refine eK (i:=19) ai rfl (fun E s=> ?_);try simp only[aB,ay,az]
   go_simp;refine s.out _ _ (fun _=>bn.out) ?_;clear s E;try simp only[Act.put,ax,aE,aD]
   refine eK (i:=20) ai rfl (fun E s=> ?_);try simp only[aB,ay,az]
   rw[aM (by rfl)];refine fI _ (.tmp 160) (.tmp 174) 26 rfl w0.heap.size 88 i0 _ 4 32 underlying26 hi b6 b5 bq rfl aj (.slice aa q ac) q X rfl (by exact bm.out) ⟨w1.heap.size,0,none⟩ 1 1 [.int .i64 u,.int .i64 x1,.int .i64 C,.int .i64 z] rfl rfl (by exact b8.out) (P4 u x1 C z) bd.out.1 bd.out.2 (by exact bt.out) ?_;intro v8 w8 a3 Y bf;obtain⟨co,ck,rfl,-⟩:=gK a3;have a7:=eJ (bl.out w8 _ a3 Y bf);obtain⟨be,ct,f11⟩:=bx.out w8 Y;have am:=eJ be;have b3:=eJ (bz.out _ _ w8.heap.size (by simp[World.setCell]) a7.out);clear a3 Y bf be;refine s.out _ _ (fun _=>am.out) ?_;clear s E;try simp only[Act.put,ax,aE,aD]
   refine eK (i:=21) ai rfl (fun E s=> ?_);try simp only[aB,ay,az]
   go_simp;refine s.out _ _ (fun _=>am.out) ?_;clear s E;try simp only[Act.put,ax,aE,aD]
   refine eK (i:=22) ai rfl (fun E s=> ?_);try simp only[aB,ay,az]
   go_simp;refine s.out _ _ (fun _=>am.out) ?_;clear s E;try simp only[Act.put,ax,aE,aD]
   refine eK (i:=23) ai rfl (fun E s=> ?_);try simp only[aB,ay,az]
   go_simp;refine s.out _ _ (fun _=>am.out) ?_;clear s E;try simp only[Act.put,ax,aE,aD]
   refine eK (i:=24) ai rfl (fun E s=> ?_);try simp only[aB,ay,az]
   go_simp;refine s.out _ _ (fun h9=>absurd h9 aj) ?_;clear s E;try simp only[Act.put,ax,aE,aD]
   refine fT ai ?_ _;refine NoPanic.normal ?_;go_wp2_with fail;refine b3.out.mono ?_;rintro r w9 ⟨rfl,b9⟩;have bv:=eJ (U.out _ (a7.out.below b9));go_wp2_with fail;go_ret2;exact bv.out
end
section
variable {w0 w:World}{g k:Nat}{d:Dk}{L:Ly}{A:Option Addr}{ws:List ByteArray}
theorem O7:(prog.info? 86).map (fun i=>(i.zero,i.size,i.bytes))=some (some (.agg #[.int .i64 0,.int .i64 0,.int .i64 0]),3,24):=ai
theorem KQ(h:iu w0 w g d L k A ws)(c:Nat):Calls prog 64 #[.pointer (some ⟨g,0,none⟩),.slice A ws.length c] w (qG w0 w g L (nZ d ws)):=by
 have bj:=eJ (h.jb (3) ah ah c);have H:=eJ h;clear h;go_enter func64,ntmps64;go_wp2_with fail;refine bj.out.mono ?_;rintro r w1 ⟨⟨hn,rfl⟩|⟨l,v,hn,rfl,U⟩,a7⟩;case inl=>have aa:=eJ (H.out.bad (x:=nZ d ws) (fJ hn) a7);go_wp2_with fail;exact⟨rfl,aa.out⟩
 obtain⟨u,x1,s,gk,cp,rfl,rfl,bi,n1,bt,cS,bl⟩:=xS U ((fg hn).1 ah);have I:=eJ a7;have a6:=eJ hn;have c8:=eJ U;clear a7 hn U;cases hd:d.c with
  |some y=>obtain⟨a,b,jk,-⟩:=H.out.lx I.out hd;have a2:=eJ (iz w1 (H.out.jK I.out).err g _ false jk rfl);have ad:Hid (nZ d ws=⟨.error 6,d⟩):=eJ ((eL a6.out).trans (ma hd));clear jk;go_wp2_with fail;refine a2.out.mono ?_;rintro r w2 ⟨rfl,bw⟩;have aa:=eJ (H.out.bad ad.out (I.out.trans (bw.mono I.out.size)));go_wp2_with fail;exact⟨rfl,aa.out⟩
  |none=>
   have a2:=eJ (jd w1 g none false (H.out.noCell I.out hd) rfl);have X:=eJ (H.out.dk.below I.out);have c4:gk≠g:=by have:=H.out.dk.eW.lt;omega
   have aA:=X.out.eW.cell 6;have f6:=X.out.eW.frozen 6;simp at aA;go_wp2_with fail;refine a2.out.mono ?_;rintro r w2 ⟨rfl,rfl⟩;clear a2 bj;obtain⟨ch,al⟩:=ab (L.v 0);obtain⟨m,hm⟩:=ab d.p.sl.length;have cd:m<=32:=by have:=H.out.ok.sl;omega
   have a0:w2.ownsRow w0.heap.size 86 3 ch m (AB d.p.sl):=by have:=X.out.own 0 ah;rw[al] at this;rw[<-hm];exact this
   obtain⟨O,K,ct,-⟩:=gK a0;subst ct;rw[al] at aA;have Z:=eJ al;by_cases am:32<=m
   ·have ad:Hid (nZ d ws=⟨.error 4,d⟩):=eJ ((eL a6.out).trans ((jI hd).trans (aM (by rw[hm];exact am))));have d1:decide ((32:Int)<=(m:Int))=true:=aJ ah;have b3:=eJ (gV 4 w2 (H.out.jK I.out).err);clear a0 hm al am;go_wp2_with fail;refine b3.out.mono ?_;rintro r w3 ⟨rfl,b5⟩;have aa:=eJ (H.out.bad ad.out (I.out.trans (b5.mono I.out.size)));go_wp2_with fail;exact⟨rfl,aa.out⟩
   have ad:Hid (nZ d ws=⟨.ok (fR m),{d with p:={d.p with sl:=d.p.sl++[⟨u,x1,s⟩]}}⟩):=eJ ((eL a6.out).trans ((jI hd).trans ((aI (by rw[hm];exact am)).trans (by rw[hm];rfl))));have d1:decide ((32:Int)<=(m:Int))=false:=aH ah;have cn:=eJ (aK H.out.dk.low.size I.out.size);have b8:=eJ ((jq a0 (below_drewN (au) 1):w2.drew.ownsRow w0.heap.size 86 3 (.slice O m K) m (AB d.p.sl)).alloc (.cells #[.int .i64 u,.int .i64 x1,.int .i64 s] 86));have b6:=eJ (xk (eN.new w2.drew 86 #[.int .i64 u,.int .i64 x1,.int .i64 s]));have bm:Hid (m+1<=maxLen/\(m+1)*24<=140737488355328):=eJ (by simp[maxLen];omega);have ce:Hid (w0.heap.size<=(w2.drew.alloc (.cells #[.int .i64 u,.int .i64 x1,.int .i64 s] 86)).heap.size):=eJ (by have:=cn.out;simp;omega);obtain⟨i0,hi,b4,cu,cc⟩:=eR O7;have ao:Hid (∀z,(w2.drew.alloc (.cells #[.int .i64 u,.int .i64 x1,.int .i64 s] 86)).grownBy z (Value.slice O m K).ownBlock->z.cell? ⟨g,6,none⟩=some (.slice O m K)/\z.frozen? ⟨g,6,none⟩=false/\eN z g 37 (ic d L)):=eJ (fun z E=>by have ac:eN z g 37 (ic d L):=(X.out.eW.drew.alloc _).grown E (fun e=>X.out.off 0 ah (by rw[Z.out];exact e.symm));have Y:=ac.cell 6;simp at Y;rw[Z.out] at Y;exact⟨Y,ac.frozen 6,ac⟩);have a9:(w2.alloc (.cells #[.int .i64 u,.int .i64 x1,.int .i64 s] 86)).cell? ⟨g,6,none⟩=some (.slice O m K):=by have Y:=(X.out.eW.alloc (.cells #[.int .i64 u,.int .i64 x1,.int .i64 s] 86)).cell 6;simp at Y;rw[Z.out] at Y;exact Y
   have bv:Hid (∀(z:World)(v8:Value),z.ownsRow w0.heap.size 86 3 v8 (m+1) (AB d.p.sl++[.int .i64 u,.int .i64 x1,.int .i64 s])->(w2.drew.alloc (.cells #[.int .i64 u,.int .i64 x1,.int .i64 s] 86)).grownBy z (Value.slice O m K).ownBlock->(v8.ownBlock=(Value.slice O m K).ownBlock\/∀q,v8.ownBlock=some q->(w2.drew.alloc (.cells #[.int .i64 u,.int .i64 x1,.int .i64 s] 86)).heap.size<=q)->iN w0 w g L (z.setCell ⟨g,6,none⟩ v8) {d with p:={d.p with sl:=d.p.sl++[⟨u,x1,s⟩]}}):=eJ (fun z v8 bx E ci=>by have be:Below w2.heap.size w2 (w2.drew.alloc (.cells #[.int .i64 u,.int .i64 x1,.int .i64 s] 86)):=(below_drewN (au) 1).alloc (ar) _;have ca:=X.out.below be;have ac:eN (z.setCell ⟨g,6,none⟩ v8) g 37 (ic {d with p:={d.p with sl:=d.p.sl++[⟨u,x1,s⟩]}} {L with v:=eV L.v 0 v8}):=(ao.out z E).2.2.eS 6 v8;have b9: ∀j,j<6->j≠0->ju {d with p:={d.p with sl:=d.p.sl++[⟨u,x1,s⟩]}} j=ju d j/\iR {d with p:={d.p with sl:=d.p.sl++[⟨u,x1,s⟩]}} j=iR d j:=(fun j c5 cx=>by obtain rfl|rfl|rfl|rfl|rfl:j=1\/j=2\/j=3\/j=4\/j=5:=ah;all_goals exact⟨rfl,rfl⟩);refine iN.after I.out (iN.after be (ca.row 0 ah v8 (by rw[Z.out];exact E) (by rw[Z.out];exact ci) (eQ (fw _ _) (.inl rfl) _) ?_ ac b9 rfl (.inl hd)));have bn:AB (d.p.sl++[(⟨u,x1,s⟩:Sl)])=AB d.p.sl++[.int .i64 u,.int .i64 x1,.int .i64 s]:=uP _ _;show z.ownsRow w0.heap.size 86 3 v8 (d.p.sl++[(⟨u,x1,s⟩:Sl)]).length (AB (d.p.sl++[(⟨u,x1,s⟩:Sl)]));rw[bn,aT,hm];exact bx);have cr:Hid (∀W d2,iN w0 w g L W d2->Calls prog 21 #[.int .i64 m] W fun e w'=>e=.returned (.string (fR m))/\Below W.heap.size W w'):=eJ (fun W d2 h=>by obtain⟨L2,h2,-⟩:=h;exact jz m W (H.out.tR.below H.out.tR.wR h2.low) ah ah);have bn:wrap64 (((m:Int)+1)-1)=m:=by unfold wrap64;omega
   have c9:wrap64 (m:Int)=m:=by unfold wrap64;omega
   have c0:wrap64 ((((m+1:Nat)):Int)-1)=m:=by unfold wrap64;omega
   have b7:Hid (∀q,(Value.slice O m K).ownBlock=some q->q≠gk):=eJ (fun q e=>by have h1:=H.out.dk.lo (i:=q) (.inr (.inl ⟨0,ah,by rw[Z.out];exact e⟩));omega);obtain⟨T,bd⟩: ∃T:World->Prop,(fun W=>W.cell? ⟨g,6,none⟩=some (.slice O m K)/\W.cell? ⟨gk,0,none⟩=some (.int .i64 u)/\W.cell? ⟨gk,1,none⟩=some (.int .i64 x1)/\W.cell? ⟨gk,2,none⟩=some (.int .i64 s))=T:=⟨_,rfl⟩;have ap:Hid (T=fun W=>W.cell? ⟨g,6,none⟩=some (.slice O m K)/\W.cell? ⟨gk,0,none⟩=some (.int .i64 u)/\W.cell? ⟨gk,1,none⟩=some (.int .i64 x1)/\W.cell? ⟨gk,2,none⟩=some (.int .i64 s)):=eJ bd.symm;have a4:Hid (∀W:World,W.heap[gk]? =w2.heap[gk]? ->W.cell? ⟨gk,0,none⟩=some (.int .i64 u)/\W.cell? ⟨gk,1,none⟩=some (.int .i64 x1)/\W.cell? ⟨gk,2,none⟩=some (.int .i64 s)):=eJ (fun W hq=>⟨(bo (a:=⟨gk,0,none⟩) hq).trans bi,(bo (a:=⟨gk,1,none⟩) hq).trans n1,(bo (a:=⟨gk,2,none⟩) hq).trans bt⟩);have bk:Hid (T w2.drew):=eJ (by rw[ap.out];exact⟨aA,a4.out _ rfl⟩);have cm:Hid (T (w2.drew.alloc (.cells #[.int .i64 u,.int .i64 x1,.int .i64 s] 86))):=eJ (by rw[ap.out];exact⟨a9,a4.out _ (bu _ _ _ bl)⟩);have co:Hid (∀z,(w2.drew.alloc (.cells #[.int .i64 u,.int .i64 x1,.int .i64 s] 86)).grownBy z (Value.slice O m K).ownBlock->T z):=eJ (fun z E=>by rw[ap.out];exact⟨(ao.out z E).1,a4.out _ ((E.block gk ag (fun e=>b7.out gk e.symm rfl)).trans (bu _ _ _ bl))⟩);clear a0 hm al am cd bd a9;go_wp2_with fail;refine wp_region_noPanic ?_;refine fU (S:=T) (L:=22) ai ?_;clear aA bi n1 bt;have a5:=bk.out;try simp only[ba,aP,bh,Nat.reduceAdd]
   refine il (fuel:=6) ai (fun _ _ _ _ h=>h) an [0,1,2,3,4,5,6,7,8,9,10,11,12,13,14,15,16] ai ?_;iterate 17
    refine⟨_, ?_,rfl,.inl ⟨by rfl, ?_⟩, ?_⟩;rotate_left
    ·(intro w9 a8;rw[ap.out] at a8;obtain⟨cv,c7,dd,cA⟩:=a8;go_simp<;>with_reducible rfl)
    try simp only[Act.put,ax,aE,aD,aB,ay,az]
   unfold ou;clear a5;have a5:=bk.out;refine eK (i:=17) ai rfl (fun J C=> ?_);try simp only[aB,ay,az]
   go_simp;refine C.out _ _ (fun _=>cm.out) ?_;clear C J a5;try simp only[Act.put,ax,aE,aD]
   refine eK (i:=18) ai rfl (fun J C=> ?_);try simp only[aB,ay,az]
   rw[aM (by rfl)];refine fI _ (.tmp 24) (.tmp 36) 25 rfl w0.heap.size 86 i0 _ 3 24 underlying25 hi b4 cu cc rfl aj (.slice O m K) m (AB d.p.sl) rfl (by exact b8.out) ⟨w2.heap.size,0,none⟩ 1 1 [.int .i64 u,.int .i64 x1,.int .i64 s] rfl rfl (by exact b6.out) (Fo u x1 s) bm.out.1 bm.out.2 (by exact ce.out) ?_;intro v8 w8 U E bb;obtain⟨cV,c3,rfl,-⟩:=gK U;have cj:=eJ U;have ck:=eJ E;have cb:=eJ bb;have a3:=eJ (co.out w8 E);have c6:=(ao.out w8 E).1;have f11:=(ao.out w8 E).2.1;clear U E bb;refine C.out _ _ (fun _=>a3.out) ?_;clear C J;try simp only[Act.put,ax,aE,aD]
   refine eK (i:=19) ai rfl (fun J C=> ?_);try simp only[aB,ay,az]
   go_simp;refine C.out _ _ (fun _=>a3.out) ?_;clear C J;try simp only[Act.put,ax,aE,aD]
   refine eK (i:=20) ai rfl (fun J C=> ?_);try simp only[aB,ay,az]
   go_simp;refine C.out _ _ (fun _=>a3.out) ?_;clear C J;try simp only[Act.put,ax,aE,aD]
   refine eK (i:=21) ai rfl (fun J C=> ?_);try simp only[aB,ay,az]
   go_simp;refine C.out _ _ (fun _=>a3.out) ?_;clear C J;try simp only[Act.put,ax,aE,aD]
   refine eK (i:=22) ai rfl (fun J C=> ?_);try simp only[aB,ay,az]
   go_simp;refine C.out _ _ (fun h9=>absurd h9 aj) ?_;clear C J;try simp only[Act.put,ax,aE,aD]
   refine fT ai ?_ _;refine NoPanic.normal ?_;all_goals have bf:=eJ (bv.out _ _ cj.out ck.out cb.out);have bz:=eJ (cr.out _ _ bf.out);go_wp2_with fail;refine bz.out.mono ?_;rintro r w9 ⟨rfl,bq⟩;have b2:=eJ bq;clear bq;go_wp2_with fail;go_ret;rw[ad.out];exact⟨rfl,bf.out.below b2.out⟩
end
section
variable {m k:Nat}{w0 w w1:World}{g:Nat}{d:Dk}{L:Lh}{v:Value}{l:List Int}
theorem KF(h:jF m k w0 w w1 g d L v l)(A:Option Addr)(ws:List ByteArray)(c:Nat)(hn:eU ws 3=some l):Calls prog 15 #[.pointer (some ⟨g,0,none⟩),.string ⟨#[115,108,111,116]⟩,.slice A ws.length c,v] w1 (mx m w0 w g L (nZ d ws)):=by
 obtain⟨u,x1,z,gk,cp,rfl,rfl,bw,n1,cd,cu,ch⟩:=xS h.own ((fg hn).1 ah);cases hd:d.c with
  |some y=>obtain⟨gc,M,bs,ci,-,-,bk,-⟩:=h.dk.DK (fy:=y.1) (c:=y.2) hd h.hB h.lt;have T:=eJ (h.bad (x:=nZ d ws) ((eL hn).trans (ma hd)) aj ⟨#[]⟩ (au));exact(ug ak (h.some_ bk) _ _).mono (by rintro r w2 ⟨rfl,rfl⟩;exact T.out)
  |none=>
   have jk:=h.none_ hd;have bq: ¬mD g L gk:=fun hF=>by have:=(h.dk.lo hF).2;omega
   obtain⟨q,hq⟩:=ab (iR d 0);have cj:q<=32:=by have:d.p.sl.length=q:=hq;have:=h.ok.sl;omega
   have ao:=h.hs.own 0 ah;obtain⟨co,E⟩:=ab (L.v 0);have a6:w1.cell? ⟨g,6,none⟩=some (L.v 0):=h.hs.eW.cell 6;rw[hq,E] at ao;rw[E] at a6;obtain⟨Z,aa,rfl,-⟩:=gK ao;by_cases al:32<=q
   ·have Y:Hid (nZ d ws=⟨.error 4,d⟩):=eJ ((eL hn).trans ((jI hd).trans (aM (by show 32<=iR d 0;rw[hq];exact al))));have d1:decide ((32:Int)<=(q:Int))=true:=aJ ah;have T:=eJ (h.bad Y.out aj ⟨#[]⟩ (au));clear h hn al hq E ao;go_enter func15,ntmps15;go_wp2_with fail;go_ret2;exact T.out
   obtain⟨w3,ac⟩:=ab ((w1.alloc (.cells #[.int .i64 u,.int .i64 x1,.int .i64 z] 86)).drew);have bi:Below w1.heap.size w1 w3:=by rw[<-ac];exact below_drewN ((Below.refl w1.heap.size w1).alloc (ar) _) 1
   have a5:eN w3 w1.heap.size 86 #[.int .i64 u,.int .i64 x1,.int .i64 z]:=by rw[<-ac];exact(eN.new w1 86 #[.int .i64 u,.int .i64 x1,.int .i64 z]).drew
   have bj:=a5.lt;have bn:=eJ ac;have aA:=eJ a5;clear ac;have Y:Hid (nZ d ws=⟨.ok (fR q),{d with p:={d.p with sl:=d.p.sl++[⟨u,x1,z⟩]}}⟩):=eJ ((eL hn).trans ((jI hd).trans ((aI (by show¬32<=iR d 0;rw[hq];exact al)).trans (by show(⟨.ok (fR (iR d 0:Nat)),_⟩:jM)=_;rw[hq];rfl))));have d1:decide ((32:Int)<=(q:Int))=false:=aH ah;have O:pA m w0 w3 g d L:=h.hs.below bi;obtain⟨ap,a3,a2⟩:=O.app 0 ah 6 (d':={d with p:={d.p with sl:=d.p.sl++[⟨u,x1,z⟩]}}) (vals:=[.int .i64 u,.int .i64 x1,.int .i64 z]) (fun j cx cm=>by obtain rfl|rfl|rfl|rfl|rfl:j=1\/j=2\/j=3\/j=4\/j=5:=ah;all_goals exact⟨rfl,rfl⟩) ⟨uP _ _,by show(d.p.sl++_).length=_;rw[aT];rfl⟩ (fun _=>rfl) rfl (.inl hd) (.cells #[.int .i64 u,.int .i64 x1,.int .i64 z] 86);have I: ∀W,eN W g 60 (lB d L)->W.cell? ⟨g,6,none⟩=some (L.v 0):=fun W b7=>b7.cell 6;obtain⟨X,a8⟩:=ab (ju d 0);rw[hq,a8,E] at ap a2;rw[E] at a3 I;have bm:=eJ ap;have bl:=eJ a2;have ca:=eJ a3;have cb:=eJ (xk (eN.new w3.drew 86 #[.int .i64 u,.int .i64 x1,.int .i64 z]));have bb:Hid (q+1<=maxLen/\(q+1)*24<=140737488355328):=eJ (by simp[maxLen];omega);have bx:Hid (w0.heap.size<=(w3.drew.alloc (.cells #[.int .i64 u,.int .i64 x1,.int .i64 z] 86)).heap.size):=eJ (by have:=O.low.size;simp;omega);obtain⟨i0,hi,b9,b8,bv⟩:=eR O7;obtain⟨J,bf⟩: ∃J:World->Prop,(fun W=>W.cell? ⟨g,6,none⟩=some (.slice Z q aa)/\W.cell? ⟨w1.heap.size,0,none⟩=some (.int .i64 u)/\W.cell? ⟨w1.heap.size,1,none⟩=some (.int .i64 x1)/\W.cell? ⟨w1.heap.size,2,none⟩=some (.int .i64 z))=J:=⟨_,rfl⟩;have ad:=eJ bf.symm;have a0:Hid (∀W:World,W.heap[w1.heap.size]? =w3.heap[w1.heap.size]? ->W.cell? ⟨w1.heap.size,0,none⟩=some (.int .i64 u)/\W.cell? ⟨w1.heap.size,1,none⟩=some (.int .i64 x1)/\W.cell? ⟨w1.heap.size,2,none⟩=some (.int .i64 z)):=eJ (fun W hq=>⟨(fj hq 0).trans (aA.out.cell 0),(fj hq 1).trans (aA.out.cell 1),(fj hq 2).trans (aA.out.cell 2)⟩);have b5:Hid (J w3.drew):=eJ (by rw[ad.out];exact⟨I _ O.eW.drew,a0.out _ rfl⟩);have bt:Hid (J (w3.drew.alloc (.cells #[.int .i64 u,.int .i64 x1,.int .i64 z] 86))):=eJ (by rw[ad.out];exact⟨I _ (O.eW.drew.alloc _),a0.out _ (bu _ _ _ bj)⟩);have b3:Hid (∀K,(w3.drew.alloc (.cells #[.int .i64 u,.int .i64 x1,.int .i64 z] 86)).grownBy K (Value.slice Z q aa).ownBlock->J K/\K.cell? ⟨g,6,none⟩=some (.slice Z q aa)/\K.frozen? ⟨g,6,none⟩=false):=eJ (fun K U=>by obtain⟨h1,h2⟩:=ca.out K U;rw[ad.out];exact⟨⟨I _ h1,a0.out _ (h2 _ bj (fun hF=>by have:=((h.hs).lo hF).2;omega))⟩,I _ h1,h1.frozen 6⟩);have b4:Hid (∀W d2 n,n=W.heap.size->iW m w0 w3 g L W d2->Calls prog 16 #[.slice (some ⟨n,0,none⟩) 1 1] (W.alloc (.cells #[.int .i64 q] 3)) fun e w'=>e=.returned (.string (fR q))/\Below W.heap.size W w'):=eJ (fun W d2 n e ⟨L2,h2,_⟩=>by subst e;exact qN q W (h.tR.below h.tR.wR h2.low) ah ah);have T:=eJ (fun W (b2:iW m w0 w3 g L W {d with p:={d.p with sl:=d.p.sl++[⟨u,x1,z⟩]}})=>mx.fe Y.out ((iW.after h.hB (iW.after bi b2)).mono (aU m)));have cS:wrap64 (((q:Int)+1)-1)=q:=by unfold wrap64;omega
   have c0:wrap64 (q:Int)=q:=by unfold wrap64;omega
   have cV:wrap64 ((((q+1:Nat)):Int)-1)=q:=by unfold wrap64;omega
   have ck:w3.heap.size=w3.heap.size:=rfl;clear h hn ap a2 a3 hq a8 E bf Y bq ao O al I;go_enter func15,ntmps15;go_wp2_with fail;go_region;rw[bn.out];go_wp2_with fail;refine wp_region_noPanic ?_;refine fU (S:=J) (L:=12) ai ?_;clear a6 bw n1 cd jk;try simp only[ba,aP,bh,Nat.reduceAdd]
   refine il (fuel:=6) ai (fun _ _ _ _ h=>h) b5.out [0,1,2,3,4,5,6] ai ?_;iterate 7
    refine⟨_, ?_,rfl,.inl ⟨by rfl, ?_⟩, ?_⟩;rotate_left
    ·(intro w9 a9;rw[ad.out] at a9;obtain⟨cn,ce,c3,ct⟩:=a9;go_simp<;>with_reducible rfl)
    try simp only[Act.put,ax,aE,aD,aB,ay,az]
   unfold ou;refine eK (i:=7) ai rfl (fun C s=> ?_);try simp only[aB,ay,az]
   go_simp;refine s.out _ _ (fun _=>bt.out) ?_;clear s C;try simp only[Act.put,ax,aE,aD]
   refine eK (i:=8) ai rfl (fun C s=> ?_);try simp only[aB,ay,az]
   rw[aM (by rfl)];refine fI _ (.tmp 130) (.tmp 132) 25 rfl w0.heap.size 86 i0 _ 3 24 underlying25 hi b9 b8 bv rfl aj (.slice Z q aa) q X rfl (by exact bm.out) ⟨w3.heap.size,0,none⟩ 1 1 [.int .i64 u,.int .i64 x1,.int .i64 z] rfl rfl (by exact cb.out) (Fo u x1 z) bb.out.1 bb.out.2 (by exact bx.out) ?_;intro v8 w8 a4 U be;obtain⟨cv,cr,rfl,-⟩:=gK a4;have a7:=eJ (bl.out w8 _ a4 U be);obtain⟨bd,cA,f11⟩:=b3.out w8 U;have am:=eJ bd;have b6:=eJ (b4.out _ _ w8.heap.size (by simp[World.setCell]) a7.out);clear a4 U be bd;refine s.out _ _ (fun _=>am.out) ?_;clear s C;try simp only[Act.put,ax,aE,aD]
   refine eK (i:=9) ai rfl (fun C s=> ?_);try simp only[aB,ay,az]
   go_simp;refine s.out _ _ (fun _=>am.out) ?_;clear s C;try simp only[Act.put,ax,aE,aD]
   refine eK (i:=10) ai rfl (fun C s=> ?_);try simp only[aB,ay,az]
   go_simp;refine s.out _ _ (fun _=>am.out) ?_;clear s C;try simp only[Act.put,ax,aE,aD]
   refine eK (i:=11) ai rfl (fun C s=> ?_);try simp only[aB,ay,az]
   go_simp;refine s.out _ _ (fun _=>am.out) ?_;clear s C;try simp only[Act.put,ax,aE,aD]
   refine eK (i:=12) ai rfl (fun C s=> ?_);try simp only[aB,ay,az]
   go_simp;refine s.out _ _ (fun h9=>absurd h9 aj) ?_;clear s C;try simp only[Act.put,ax,aE,aD]
   refine fT ai ?_ _;refine NoPanic.normal ?_;go_wp2_with fail;refine b6.out.mono ?_;rintro r w9 ⟨rfl,cc⟩;have bz:=eJ (T.out _ (a7.out.below cc));go_wp2_with fail;go_ret2;exact bz.out
end
section
theorem FB(p:Pl)(zs:List Int):jH p (gG p zs):=fun i=>by unfold gG;have:=cQ p.nd.toNat;show 2^p.nd.toNat-1<_;omega
attribute [local irreducible] gG
section
variable {m k:Nat}{w0 w w1:World}{g:Nat}{d:Dk}{L:Lh}{v:Value}{l:List Int}
theorem Il(h:jF m k w0 w w1 g d L v l)(A:Option Addr)(ws:List ByteArray)(c:Nat)(b8:ws.length<=50000)(hn:eU ws (-1)=some l):Calls prog 15 #[.pointer (some ⟨g,0,none⟩),.string ⟨#[115,116,97,114,116]⟩,.slice A ws.length c,v] w1 (mx m w0 w g L (js d ws)):=by
 have a7:=(fg hn).2;obtain⟨gk,cp,rfl,hle,cd,bl,U⟩:=jf h.own ah;match l,a7,hn,h,hle,U with
  |u::t,_,hn,h,hle,U=>
   have bb:=U 0 u rfl;have bt:Hid (kY w1 (if cp=1 then some ⟨gk,0,none⟩ else some ⟨gk,1,none⟩) t):=eJ (fun j X=>by rw[aI (by rw[aP] at hle;omega)];refine⟨gk,1,rfl, ?_⟩;have:=U (j+1) (t.getD j 0) (by rw[cf,aF X,aL,aF X];rfl);rw[dO 1 j];exact this);have b5:t.length<=50000:=by have h1:=kT hn;rw[aP] at h1;omega
   obtain⟨q,hq⟩:=ab t.length;have bi:(u::t).length=q+1:=by simp[hq]
   rw[bi] at hle⊢;cases hd:d.c with
    |some y=>obtain⟨gc,M,bs,b7,-,-,bj,-⟩:=h.dk.DK (fy:=y.1) (c:=y.2) hd h.hB h.lt;have b4:=eJ (h.bad (x:=js d ws) ((eL hn).trans (ma hd)) aj ⟨#[]⟩ (au));exact(ug ak (h.some_ bj) _ _).mono (by rintro r w2 ⟨rfl,rfl⟩;exact b4.out)
    |none=>
     have jk:=h.none_ hd;obtain⟨Y,cs,AL,cl,a3,aA,s2,ap,-⟩:=qk (w:=w1) h.ok.wn (fun j X=>h.hs.own j ah);have a6: ∀W,iV W none d.p.wn.length d.p.wn:=fun W=>by rw[h.ok.wn];exact fun j X=>by simp at X
     have a0:d.p.wn.length=0:=by rw[h.ok.wn];rfl
     have al:js d ws=(if pt d.p u t=0 then(⟨.ok ⟨#[115,116,97,114,116]⟩,{d with c:=some (u.toNat,gG d.p t)}⟩:jM) else⟨.error (pt d.p u t),d⟩):=(eL hn).trans (jI hd);have a4:Hid (∀W,Below w1.heap.size w1 W->Calls prog 30 #[.agg (fb d.p.nd d.p.fa d.p.sk d.p.ji d.p.dr d.p.rd (.slice Y d.p.sl.length cs) (.slice AL d.p.lk.length cl) d.p.fr (.slice none 0 0)),.int .i64 u,.slice (if cp=1 then some ⟨gk,0,none⟩ else some ⟨gk,1,none⟩) q (cp-1)] W fun r w'=> ∃J e pl,r=.returned (.tuple #[.pointer J,.agg #[.int .i64 e,.int .i64 pl]])/\Below W.heap.size W w'/\((e≠0/\js d ws=⟨.error e,d⟩)\/(e=0/\∃gc d',J=some ⟨gc,0,none⟩/\js d ws=⟨.ok ⟨#[115,116,97,114,116]⟩,d'⟩/\∀s,Below w1.heap.size w1 s->w'.heap.size<=s.heap.size->(∀i,W.heap.size<=i->i<w'.heap.size->s.heap[i]? =w'.heap[i]?)->iW m w0 w g L (s.setCell ⟨g,10,none⟩ (.pointer (some ⟨gc,0,none⟩))) d'))):=eJ (fun W hB=>by
      by_cases ac:iO d.p=(0,-1)
      ·have a2:pt d.p u t=(od d.p u t).choose:=by unfold pt;rw[aI (by rw[ac];simp)]
       have:=KJ d.p Y cs AL cl none 0 u (if cp=1 then some ⟨gk,0,none⟩ else some ⟨gk,1,none⟩) q (cp-1) W ac (s2.below hB) (ap.below hB) (a6 W) (h.KX hB) t hq (bt.out.below (ar) hB) ah ah _ (od d.p u t).choose_spec;rw[a0,<-a2] at this;refine this.mono ?_;rintro r w' (⟨he,rfl,O⟩|⟨he,fy,a,bk,rfl,O,am⟩)
       ·exact⟨none,_,_,rfl,O,.inl ⟨he,by rw[al,aI he]⟩⟩
       ·refine⟨_,0,_,rfl,O,.inr ⟨rfl,a.g,_,rfl,by rw[al,aM he],fun s h6 h7 h8=> ?_⟩⟩;rw[<-a3,<-aA] at am;rw[bk,bU];have bx:=h.hB.trans (hB.mono h.hB.size);exact h.dk.start hd (h.hB.trans (h6.mono h.hB.size)) (a:=⟨W.heap.size,a,0⟩) (cT _) (FB d.p t) bx.size (aK O.size h7) ⟨am.gJ.pV h7 (fun i hi ⟨x,C⟩=>h8 i (am.gJ.own x i C).1 hi),am.rel⟩
      ·have h1:(iO d.p).1≠0:=fun e=>ac (Prod.ext e (rC e));have a2:pt d.p u t=(iO d.p).1:=by unfold pt;rw[aM h1]
       have:=My d.p Y cs AL cl none 0 u (if cp=1 then some ⟨gk,0,none⟩ else some ⟨gk,1,none⟩) q (cp-1) W ac (s2.below hB) (ap.below hB) (a6 W) (h.KX hB);rw[a0] at this;refine this.mono ?_;rintro r w' ⟨rfl,O⟩;exact⟨none,_,_,rfl,O,.inl ⟨h1,by rw[al,a2,aI h1]⟩⟩)
     have Z:Hid (∀W,Below w1.heap.size w1 W->(W.cell? ⟨g,0,none⟩=some (.int .i64 d.p.nd)/\W.cell? ⟨g,1,none⟩=some (.int .i64 d.p.fa)/\W.cell? ⟨g,2,none⟩=some (.int .i64 d.p.sk)/\W.cell? ⟨g,3,none⟩=some (.int .i64 d.p.ji)/\W.cell? ⟨g,4,none⟩=some (.int .i64 d.p.dr)/\W.cell? ⟨g,5,none⟩=some (.int .i64 d.p.rd)/\W.cell? ⟨g,6,none⟩=some (.slice Y d.p.sl.length cs)/\W.cell? ⟨g,7,none⟩=some (.slice AL d.p.lk.length cl)/\W.cell? ⟨g,8,none⟩=some (.int .i64 d.p.fr)/\W.cell? ⟨g,9,none⟩=some (.slice none 0 0))/\W.cell? ⟨gk,0,none⟩=some (.int .i64 u)):=eJ (fun W hB=>by
      have hk:=(h.hs.below hB).eW;refine⟨⟨hk.cell 0,hk.cell 1,hk.cell 2,hk.cell 3,hk.cell 4,hk.cell 5, ?_, ?_,hk.cell 8,hk.cell 9⟩,(hB.cell (p:=⟨gk,0,none⟩) bl).trans bb⟩
      ·rw[<-a3];exact hk.cell 6
      ·rw[<-aA];exact hk.cell 7)
     have bn:Hid (∀W,Below w1.heap.size w1 W->W.cell? ⟨g,10,none⟩=some (.pointer none)/\W.frozen? ⟨g,10,none⟩=false):=eJ (fun W hB=>⟨(hB.cell (p:=⟨g,10,none⟩) h.hs.eW.lt).trans jk,(h.hs.below hB).eW.frozen 10⟩);have bq:=eJ (fun W e (hB:Below w1.heap.size w1 W) (C:js d ws=⟨.error e,d⟩) (he:e≠0)=>h.bad C he ⟨#[]⟩ hB);have b1:(1:Int)<=((q+1:Nat):Int):=ah;have b2:((q+1:Nat):Int)<=(cp:Int):=ah;have b6:(1:Int)<=(q:Int)+1:=ah;have ca:(q:Int)+1<=(cp:Int):=ah;have b9:1<=q+1:=ah;clear h hn U bi hq al s2 ap a6 a0 a3 aA b5 a7;have bz:=Z.out _ (below_drewN (Below.refl w1.heap.size w1) 1);have ad:Below w1.heap.size w1 (w1.alloc (.cells #[.int .i64 0,.int .i64 0] 90)).drew:=below_drewN ((au).alloc (ar) _) 1;have b3:=Z.out _ ad;have be:eN (w1.alloc (.cells #[.int .i64 0,.int .i64 0] 90)).drew w1.heap.size 90 #[.int .i64 0,.int .i64 0]:=(eN.new w1 _ _).drew;by_cases bm:cp=1;all_goals
      simp only[bm,eF,if_false] at a4;go_enter func15,ntmps15;go_wp2_with fail;go_region_held3 (fun W=>(W.cell? ⟨g,0,none⟩=some (.int .i64 d.p.nd)/\W.cell? ⟨g,1,none⟩=some (.int .i64 d.p.fa)/\W.cell? ⟨g,2,none⟩=some (.int .i64 d.p.sk)/\W.cell? ⟨g,3,none⟩=some (.int .i64 d.p.ji)/\W.cell? ⟨g,4,none⟩=some (.int .i64 d.p.dr)/\W.cell? ⟨g,5,none⟩=some (.int .i64 d.p.rd)/\W.cell? ⟨g,6,none⟩=some (.slice Y d.p.sl.length cs)/\W.cell? ⟨g,7,none⟩=some (.slice AL d.p.lk.length cl)/\W.cell? ⟨g,8,none⟩=some (.int .i64 d.p.fr)/\W.cell? ⟨g,9,none⟩=some (.slice none 0 0))/\W.cell? ⟨gk,0,none⟩=some (.int .i64 u)) (first|exact bz|exact b3|exact Z.out _ E.out|exact Z.out _ (E.out.alloc E.out.size _)|exact Z.out _ ((E.out.setCell (ar) _).setCell (ar) _)) (first|(go_at_call 30;(refine(a4.out (w1.drewN 1) (below_drewN (au) 1)).mono ?_);rintro r w5 ⟨J,e,pl,rfl,T,aa⟩;have E:=eJ ((below_drewN (Below.refl w1.heap.size w1) 1).trans T);have ao:=eJ aa;clear T aa)|(go_at_call 30;go_must (refine(a4.out _ ad).mono ?_);rintro r w5 ⟨J,e,pl,rfl,T,aa⟩;have E:=eJ (ad.trans (T.mono ad.size));have ao:=eJ aa;have K:=be.below T be.lt;have bv:=eJ K;have a8:=K.cell 0;have y1:=K.cell 1;have z0:=K.frozen 0;have cc:=K.frozen 1;clear T aa K));all_goals
       first
        |
         (
          obtain⟨s,z⟩:=ab (w5.alloc (.cells #[.int .i64 e,.int .i64 pl] 90));have I:Below w1.heap.size w1 s:=by rw[<-z];exact E.out.alloc E.out.size _
          have a8:s.cell? ⟨w5.heap.size,0,none⟩=some (.int .i64 e):=by rw[<-z];exact(eN.new w5 90 #[.int .i64 e,.int .i64 pl]).cell 0
          have h7:w5.heap.size<=s.heap.size:=by rw[<-z];simp
          have h8: ∀i,i<w5.heap.size->s.heap[i]? =w5.heap[i]? :=fun i hi=>by rw[<-z];exact bu _ _ _ hi
          have bf:=eJ (ao.out.imp_right (fun⟨h0,gc,d',h1,h2,h3⟩=>(⟨h0,gc,d',h1,h2,h3 s I h7 (fun i _ hi=>h8 i hi)⟩:e=0/\∃(gc:Nat) (d':Dk),J=some (⟨gc,0,none⟩:Addr)/\js d ws=(⟨.ok ⟨#[115,116,97,114,116]⟩,d'⟩:jM)/\iW m w0 w g L (s.setCell ⟨g,10,none⟩ (.pointer (some ⟨gc,0,none⟩))) d')));rw[z])
        |
         (
          obtain⟨s,z⟩:=ab ((w5.setCell ⟨w1.heap.size,0,none⟩ (.int .i64 e)).setCell ⟨w1.heap.size,1,none⟩ (.int .i64 pl));have I:Below w1.heap.size w1 s:=by rw[<-z];exact(E.out.setCell (ar) _).setCell (ar) _
          have a8:s.cell? ⟨w1.heap.size,0,none⟩=some (.int .i64 e):=by rw[<-z];exact((bv.out.eS 0 (.int .i64 e)).eS 1 (.int .i64 pl)).cell 0
          have h7:w5.heap.size<=s.heap.size:=by rw[<-z];simp[World.setCell]
          have h8: ∀i,w1.heap.size<i->s.heap[i]? =w5.heap[i]? :=fun i hi=>by have a9:i≠w1.heap.size:=ah;rw[<-z,aW _ _ _ _ a9,aW _ _ _ _ a9]
          have bf:=eJ (ao.out.imp_right (fun⟨h0,gc,d',h1,h2,h3⟩=>(⟨h0,gc,d',h1,h2,h3 s I h7 (fun i hi _=>h8 i (by simp at hi;omega))⟩:e=0/\∃(gc:Nat) (d':Dk),J=some (⟨gc,0,none⟩:Addr)/\js d ws=(⟨.ok ⟨#[115,116,97,114,116]⟩,d'⟩:jM)/\iW m w0 w g L (s.setCell ⟨g,10,none⟩ (.pointer (some ⟨gc,0,none⟩))) d')));rw[z])
       have bw:=eJ I;obtain⟨m10,cb⟩:=bn.out s I;clear z I h7 h8 bb jk ao;rcases bf.out with ⟨he,C⟩|⟨rfl,gc,d',rfl,C,bd⟩
       ·have d1:(e !=0)=true:=by simpa using he
        have a5:=eJ (bq.out s.drew e (below_drewN bw.out 1) C he);clear C he;go_wp2_with fail;go_region;go_wp2_with fail;go_ret2;exact a5.out
       ·have a5:=eJ (mx.fe C (bd.mono (aU m)));clear C bd;go_wp2_with fail;go_ret2;exact a5.out
end
end
section
attribute [local irreducible] gD kQ
section
variable {w0 w:World}{g k:Nat}{d:Dk}{L:Ly}{A:Option Addr}{ws:List ByteArray}
theorem Ps{W:World}{G:Nat}{t:TypeId}{a0 a1 a2 a3 a4 a5 C u z a9 E O a12 K J e j s I:Value}(h:eN W G t #[a0,a1,a2,a3,a4,a5,C,u,z,a9,E,O,a12,K,J]):eN (((((W.setCell ⟨G,11,none⟩ e).setCell ⟨G,12,none⟩ j).setCell ⟨G,13,none⟩ s).setCell ⟨G,14,none⟩ I)) G t #[a0,a1,a2,a3,a4,a5,C,u,z,a9,E,e,j,s,I]:=by have h0:eN (W.setCell ⟨G,11,none⟩ e) G t #[a0,a1,a2,a3,a4,a5,C,u,z,a9,E,e,a12,K,J]:=h.eS 11 e;have h1:eN ((W.setCell ⟨G,11,none⟩ e).setCell ⟨G,12,none⟩ j) G t #[a0,a1,a2,a3,a4,a5,C,u,z,a9,E,e,j,K,J]:=h0.eS 12 j;have h2:eN (((W.setCell ⟨G,11,none⟩ e).setCell ⟨G,12,none⟩ j).setCell ⟨G,13,none⟩ s) G t #[a0,a1,a2,a3,a4,a5,C,u,z,a9,E,e,j,s,J]:=h1.eS 13 s;have h3:eN ((((W.setCell ⟨G,11,none⟩ e).setCell ⟨G,12,none⟩ j).setCell ⟨G,13,none⟩ s).setCell ⟨G,14,none⟩ I) G t #[a0,a1,a2,a3,a4,a5,C,u,z,a9,E,e,j,s,I]:=h2.eS 14 I;exact h3
theorem IJ{W:World}{G:Nat}{e h j s:Value}:W.grownBy ((((W.setCell ⟨G,11,none⟩ e).setCell ⟨G,12,none⟩ h).setCell ⟨G,13,none⟩ j).setCell ⟨G,14,none⟩ s) (some G):=by have h0:W.grownBy (W.setCell ⟨G,11,none⟩ e) (some G):=eQ (fw W (some G)) (.inl rfl) e;have h1:W.grownBy ((W.setCell ⟨G,11,none⟩ e).setCell ⟨G,12,none⟩ h) (some G):=eQ (h0) (.inl rfl) h;have h2:W.grownBy (((W.setCell ⟨G,11,none⟩ e).setCell ⟨G,12,none⟩ h).setCell ⟨G,13,none⟩ j) (some G):=eQ (h1) (.inl rfl) j;have h3:W.grownBy ((((W.setCell ⟨G,11,none⟩ e).setCell ⟨G,12,none⟩ h).setCell ⟨G,13,none⟩ j).setCell ⟨G,14,none⟩ s) (some G):=eQ (h2) (.inl rfl) s;exact h3
theorem ix{W h:World}{b:Nat}(e:h.heap[b]? =W.heap[b]?)(o:Nat):h.cell? ⟨b,o,none⟩=W.cell? ⟨b,o,none⟩:=bo (a:=⟨b,o,none⟩) e
theorem CE{W u:World}{s:Option Addr}{n:Nat}{l:List Sl}(h:fN W s n l)(hk: ∀x,s=some x->u.heap[x.block]? =W.heap[x.block]?):fN u s n l:=fun j E=>by obtain⟨b,off,z,x,C,c0,c1,c2⟩:=h j E;have e:=hk _ z;exact⟨b,off,z,x,C,(ix e _).trans c0,(ix e _).trans c1,(ix e _).trans c2⟩
theorem BM{W u:World}{s:Option Addr}{n:Nat}{l:List Lk}(h:fA W s n l)(hk: ∀x,s=some x->u.heap[x.block]? =W.heap[x.block]?):fA u s n l:=fun j E=>by obtain⟨b,off,z,x,C,c0,c1,c2,c3⟩:=h j E;have e:=hk _ z;exact⟨b,off,z,x,C,(ix e _).trans c0,(ix e _).trans c1,(ix e _).trans c2,(ix e _).trans c3⟩
theorem Gk{W u:World}{s:Option Addr}{l:List Ls}(h:jD W s l)(hk: ∀x,s=some x->u.heap[x.block]? =W.heap[x.block]?):jD u s l:=fun j x C=>by obtain⟨b,off,z,c0,c1,c2⟩:=h j x C;have e:=hk _ z;exact⟨b,off,z,(ix e _).trans c0,(ix e _).trans c1,(ix e _).trans c2⟩
theorem FE{W u:World}{s:Option Addr}{l:List Rg}(h:Ce W s l)(hk: ∀x,s=some x->u.heap[x.block]? =W.heap[x.block]?):Ce u s l:=fun j x C=>by obtain⟨b,off,z,c0,c1,c2⟩:=h j x C;have e:=hk _ z;exact⟨b,off,z,(ix e _).trans c0,(ix e _).trans c1,(ix e _).trans c2⟩
theorem Ap{W u:World}{s:Option Addr}{l:List Int}(h:kY W s l)(hk: ∀x,s=some x->u.heap[x.block]? =W.heap[x.block]?):kY u s l:=fun j C=>by obtain⟨b,off,z,c0⟩:=h j C;have e:=hk _ z;exact⟨b,off,z,(ix e _).trans c0⟩
theorem nI.D7{W:World}(h:nI w0 W g d L): ∃s c1 j c2 u c3 e c4,L.v 2=.slice s d.r.ls.length c1/\L.v 3=.slice j d.r.rg.length c2/\L.v 4=.slice u d.r.dr.length c3/\L.v 5=.slice e d.r.md.length c4/\jD W s d.r.ls/\Ce W j d.r.rg/\kY W u d.r.dr/\kY W e d.r.md:=by obtain⟨s,c1,z,h1,-⟩:=Am (h.own 2 ah) rfl;obtain⟨j,c2,C,h2,-⟩:=Aw (h.own 3 ah) rfl;obtain⟨u,c3,E,-,h3,-⟩:=rS (h.own 4 ah) rfl;obtain⟨e,c4,I,-,h4,-⟩:=rS (h.own 5 ah) rfl;exact⟨s,c1,j,c2,u,c3,e,c4,z,C,E,I,h1,h2,h3,h4⟩
theorem nI.qs{W:World}(h:nI w0 W g d L){j n cp:Nat}{s:Option Addr}(u:j<6)(e:L.v j=.slice s n cp): ∀x,s=some x->x.block<W.heap.size/\¬py L.S x.block:=fun x z=>by
 subst z;have h1:(L.v j).ownBlock=some x.block:=by rw[e];rfl
 exact⟨(h.lo (.inr (.inl ⟨j,u,h1⟩))).2,h.nj j _ u h1⟩
theorem nI.No(h:nI w0 w g d L)(z:gY w0)(s:gC k d)(hk:k<=6000){y:Nat×Cl}(hd:d.c=some y){a:Ad}{b:Nat}(ap:L.S=shape a (eO d.p) d.p ⟨L.v 0,L.v 1,.slice none 0 0⟩ y.1 y.2)(be:w0.heap.size<=b)(a2:b<=w.heap.size)(U:fW w b a (eO d.p) d.p ⟨L.v 0,L.v 1,.slice none 0 0⟩ y.1 y.2):Calls prog 104 #[.pointer (some ⟨a.g,0,none⟩),.agg #[L.v 2,L.v 3,L.v 4,L.v 5]] w fun e w'=>e=.returned (gv (kQ d.p y.1 d.r y.2))/\iG w b a (eO d.p) d.p ⟨L.v 0,L.v 1,.slice none 0 0⟩ y.1 y.2 w' (gD d.p y.1 d.r y.2):=by
 obtain⟨aA,a6,bk,al,bj,bb⟩:=s.im y hd;obtain⟨a4,cs,AL,cl,Y,K,s2,am,-⟩:=h.ua s.wn;obtain⟨a7,c1,a0,c2,ao,c3,a5,c4,Z,aa,ac,C,h1,h2,h3,h4⟩:=h.D7;have E:=h.qs ah Y;have X:=h.qs ah K;have I:=h.qs ah Z;have ad:=h.qs ah aa;have J:=h.qs ah ac;have T:=h.qs ah C;rw[ap] at E X I ad J T;have b1:=s.ls;have b2:=s.rg;have a9:=s.dr;have bf:=s.md;have same: ∀{O:Option Addr},(∀x,O=some x->x.block<w.heap.size/\¬py (shape a (eO d.p) d.p ⟨L.v 0,L.v 1,.slice none 0 0⟩ y.1 y.2) x.block)->∀(W:World)(S:Ix->Ob),Lp w (fun i=>i<w.heap.size/\¬py (shape a (eO d.p) d.p ⟨L.v 0,L.v 1,.slice none 0 0⟩ y.1 y.2) i) W S->∀x,O=some x->W.heap[x.block]? =w.heap[x.block]? :=fun s W S j x u=>(j.2 x.block (s x u)).2.2;rw[Z,aa,ac,C];refine JP w (Lp.cls w (fun i=>i<w.heap.size/\¬py (shape a (eO d.p) d.p ⟨L.v 0,L.v 1,.slice none 0 0⟩ y.1 y.2) i)) a4 AL cs cl Y K U (gl.of aA) a6 ah ah al (fun W S j=>CE s2 (same E W S j)) (fun W S j=>BM am (same X W S j)) ⟨ar,fun i hi=>⟨hi.1,hi.2,rfl⟩⟩ a2 (fun W S j=> ?_) a7 c1 d.r (fun W S j=>Gk h1 (same I W S j)) ah a0 c2 (fun W S j=>FE h2 (same ad W S j)) ah ao c3 (fun W S j=>Ap h3 (same J W S j)) ah a5 c4 (fun W S j=>Ap h4 (same T W S j)) ah;have bi:=z.wR;have bd:=h.low.size;have a8:4<w.heap.size:=ah;have a3: ¬py (shape a (eO d.p) d.p ⟨L.v 0,L.v 1,.slice none 0 0⟩ y.1 y.2) 4:=fun ⟨x,u⟩=>by have:=(U.own x _ u).1;omega
 have e:=(j.2 4 ⟨a8,a3⟩).2.2;exact(bo (a:=⟨4,0,none⟩) e).trans (z.below z.wR h.low).err
theorem Eo(h:iu w0 w g d L k A ws)(c:Nat):Calls prog 63 #[.pointer (some ⟨g,0,none⟩),.slice A ws.length c] w (qG w0 w g L (kL d ws)):=by
 have b9:=eJ (h.jb (0) ah ah c);have H:=eJ h;clear h;go_enter func63,ntmps63;go_wp2_with fail;refine b9.out.mono ?_;rintro r w1 ⟨⟨hn,rfl⟩|⟨l,v,hn,rfl,a9⟩,bl⟩;case inl=>have T:=eJ (H.out.bad (x:=kL d ws) (fJ hn) bl);go_wp2_with fail;exact⟨rfl,T.out⟩
 obtain⟨d6,cv,rfl,-⟩:=gK a9;have K:=eJ bl;have d5:=eJ a9;have b3:=eJ hn;clear bl a9 hn;cases hd:d.c with
  |none=>have bn:=eJ (iz w1 (H.out.jK K.out).err g none true (H.out.noCell K.out hd) rfl);have dl:Hid (kL d ws=⟨.error 6,d⟩):=eJ ((eL b3.out).trans (fZ hd));go_wp2_with fail;refine bn.out.mono ?_;rintro r w2 ⟨rfl,cr⟩;have T:=eJ (H.out.bad dl.out (K.out.trans (cr.mono K.out.size)));go_wp2_with fail;exact⟨rfl,T.out⟩
  |some y=>
   obtain⟨a,b,jk,bd,ap,a6,a8,b8⟩:=H.out.lx K.out hd;have bn:=eJ (jd w1 g _ true jk rfl);have s:=eJ (H.out.dk.below K.out);obtain⟨bv,ch,d2,cA,c8,co⟩:=H.out.ok.im y hd;have hp:=gl.of bv;have cd:=s.out.eW.cell 11;have f11:=s.out.eW.frozen 11;have c12:=s.out.eW.cell 12;have f12:=s.out.eW.frozen 12;have ce:=s.out.eW.cell 13;have f13:=s.out.eW.frozen 13;have cm:=s.out.eW.cell 14;have f14:=s.out.eW.frozen 14;simp at cd c12 ce cm;have cc:g<w1.heap.size:=s.out.eW.lt;obtain⟨ci,ac,bw,ad,cj,Z,ck,aa,bq,bi,bt,bj,-⟩:=s.out.D7;obtain⟨E,bf⟩:=ab (kQ d.p y.1 d.r y.2);have U:Hid (∀n,Calls prog 104 #[.pointer (some ⟨a.g,0,none⟩),.agg #[L.v 2,L.v 3,L.v 4,L.v 5]] (w1.drewN n) fun e w'=>e=.returned (gv E)/\iG w1 b a (eO d.p) d.p ⟨L.v 0,L.v 1,.slice none 0 0⟩ y.1 y.2 w' (gD d.p y.1 d.r y.2)):=eJ (fun n=>by have hB:=below_drewN (Below.refl w1.heap.size w1) n;have:=(s.out.below hB).No H.out.tR H.out.ok H.out.hk hd ap a6 a8 (b8.below hB);rw[bf] at this;exact this.mono (fun e w' ⟨he,ao⟩=>⟨he,iG.trans (.fC hB) rfl ao⟩));have bz:=sA hp ch y.1 d.r;have cn:=tW d.p y.1 d.r y.2;have d3:=H.out.hk;have bm: ¬py (shape a (eO d.p) d.p ⟨L.v 0,L.v 1,.slice none 0 0⟩ y.1 y.2) g:=by rw[<-ap];exact H.out.dk.l9
   have a3:Hid (∀(w5:World),iG w1 b a (eO d.p) d.p ⟨L.v 0,L.v 1,.slice none 0 0⟩ y.1 y.2 w5 (gD d.p y.1 d.r y.2)->iN w0 w g L w5 {d with c:=some (y.1,gD d.p y.1 d.r y.2)}/\eN w5 g 37 (ic d L)/\gY w5/\iN w0 w g L ((((w5.setCell ⟨g,11,none⟩ (.slice none 0 0)).setCell ⟨g,12,none⟩ (.slice none 0 0)).setCell ⟨g,13,none⟩ (.slice none 0 0)).setCell ⟨g,14,none⟩ (.slice none 0 0)) {d with c:=some (y.1,gD d.p y.1 d.r y.2),r:=⟨[],[],[],[]⟩}/\gY ((((w5.setCell ⟨g,11,none⟩ (.slice none 0 0)).setCell ⟨g,12,none⟩ (.slice none 0 0)).setCell ⟨g,13,none⟩ (.slice none 0 0)).setCell ⟨g,14,none⟩ (.slice none 0 0))/\Calls prog 105 #[.pointer (some ⟨a.g,0,none⟩)] ((((w5.setCell ⟨g,11,none⟩ (.slice none 0 0)).setCell ⟨g,12,none⟩ (.slice none 0 0)).setCell ⟨g,13,none⟩ (.slice none 0 0)).setCell ⟨g,14,none⟩ (.slice none 0 0)) fun e w'=>e=.returned (.int .i64 (gD d.p y.1 d.r y.2).rd)/\w'=((((w5.setCell ⟨g,11,none⟩ (.slice none 0 0)).setCell ⟨g,12,none⟩ (.slice none 0 0)).setCell ⟨g,13,none⟩ (.slice none 0 0)).setCell ⟨g,14,none⟩ (.slice none 0 0))):=eJ (fun w5 ao=>by
    have h0:=s.out.BK (fy:=y.1) (c:=y.2) hd ap bd a6 a8 ao;have h1:=iN.after K.out h0;obtain⟨b5,c6,ct,hk⟩:=ao;have dd:=hk.block g cc bm;have c5: ¬py (shape b5 (eO d.p) d.p ⟨L.v 0,L.v 1,.slice none 0 0⟩ y.1 (gD d.p y.1 d.r y.2)) g:=hk.not cc bm;have ca:eN w5 g 37 (ic d L):=dd.trans s.out.eW;obtain⟨I,h2,h3⟩:=h1;have a0:=H.out.tR.below H.out.tR.wR h2.low;have dg:ic {d with c:=some (y.1,gD d.p y.1 d.r y.2)} I=ic d L:=by have:=h2.eW.symm.trans ca;injection this with this;injection this
    have be: ∀i:Nat,(ic {d with c:=some (y.1,gD d.p y.1 d.r y.2)} I)[i]? =(ic d L)[i]? :=fun i=>by rw[dg]
    have v0:I.v 0=L.v 0:=by have:=be 6;simpa using this
    have v1:I.v 1=L.v 1:=by have:=be 7;simpa using this
    have d4:I.cv=L.cv:=by have:=be 10;simpa using this
    have c0:eN ((((w5.setCell ⟨g,11,none⟩ (.slice none 0 0)).setCell ⟨g,12,none⟩ (.slice none 0 0)).setCell ⟨g,13,none⟩ (.slice none 0 0)).setCell ⟨g,14,none⟩ (.slice none 0 0)) g 37 (ic {{d with c:=some (y.1,gD d.p y.1 d.r y.2)} with r:=⟨[],[],[],[]⟩} {I with v:=fun j=>if j<2 then I.v j else .slice none 0 0}):=Ps h2.eW;have h4:=h2.reset IJ rfl c0;obtain⟨c4,h5,h6⟩:=h4;have de:fW ((((w5.setCell ⟨g,11,none⟩ (.slice none 0 0)).setCell ⟨g,12,none⟩ (.slice none 0 0)).setCell ⟨g,13,none⟩ (.slice none 0 0)).setCell ⟨g,14,none⟩ (.slice none 0 0)) b b5 (eO d.p) d.p ⟨L.v 0,L.v 1,.slice none 0 0⟩ y.1 (gD d.p y.1 d.r y.2):=ct.pV (by simp[World.setCell]) (fun i hi ds=>by have c3:i≠g:=fun e=>c5 (by rw[<-e];exact ds);exact(IJ (G:=g)).block i hi (fun e=>c3 (by cases e;rfl)));have b7:=CQ de;rw[c6] at b7;exact⟨⟨I,h2,h3⟩,ca,a0,⟨c4,h5,h3.trans h6⟩,H.out.tR.below H.out.tR.wR h5.low,b7⟩)
   have c7:0<=(gD d.p y.1 d.r y.2).rd:=bz.rd;have d0:(gD d.p y.1 d.r y.2).rd<=6001:=ah;have a2:Hid (kL d ws=if kQ d.p y.1 d.r y.2=0 then⟨.ok (fR (gD d.p y.1 d.r y.2).rd),{d with c:=some (y.1,gD d.p y.1 d.r y.2),r:=⟨[],[],[],[]⟩}⟩ else⟨.error (kQ d.p y.1 d.r y.2),{d with c:=some (y.1,gD d.p y.1 d.r y.2)}⟩):=eJ ((eL b3.out).trans (fF hd));rw[bf] at a2;generalize cV:gD d.p y.1 d.r y.2=PF at a2 a3 U c7 d0;obtain⟨O,b2⟩: ∃O:World->Prop,(fun W=>W.cell? ⟨g,10,none⟩=some (.pointer (some ⟨a.g,0,none⟩))/\W.cell? ⟨g,11,none⟩=some (.slice ci d.r.ls.length ac)/\W.cell? ⟨g,12,none⟩=some (.slice bw d.r.rg.length ad)/\W.cell? ⟨g,13,none⟩=some (.slice cj d.r.dr.length Z)/\W.cell? ⟨g,14,none⟩=some (.slice ck d.r.md.length aa))=O:=⟨_,rfl⟩;have Y:Hid (O=fun W=>W.cell? ⟨g,10,none⟩=some (.pointer (some ⟨a.g,0,none⟩))/\W.cell? ⟨g,11,none⟩=some (.slice ci d.r.ls.length ac)/\W.cell? ⟨g,12,none⟩=some (.slice bw d.r.rg.length ad)/\W.cell? ⟨g,13,none⟩=some (.slice cj d.r.dr.length Z)/\W.cell? ⟨g,14,none⟩=some (.slice ck d.r.md.length aa)):=eJ b2.symm;have b4:Hid (∀W,eN W g 37 (ic d L)->O W/\W.frozen? ⟨g,11,none⟩=false/\W.frozen? ⟨g,12,none⟩=false/\W.frozen? ⟨g,13,none⟩=false/\W.frozen? ⟨g,14,none⟩=false):=eJ (fun W C=>by have bk:=C.cell 10;have a5:=C.cell 11;have aA:=C.cell 12;have am:=C.cell 13;have a4:=C.cell 14;simp at bk a5 aA am a4;rw[bq] at a5;rw[bi] at aA;rw[bt] at am;rw[bj] at a4;rw[Y.out];exact⟨⟨by rw[bk,bd],a5,aA,am,a4⟩,C.frozen 11,C.frozen 12,C.frozen 13,C.frozen 14⟩);have cb:Hid (O w1.drew):=eJ (b4.out _ s.out.eW.drew).1;rw[bq,bi,bt,bj] at U;clear bd ap a6 a8 b8 bv ch d2 cA c8 co hp bm bz cn bq bi bt bj b2 jk cd c12 ce cm f11 f12 f13 f14 b9 cV bf;go_wp2_with fail;refine bn.out.mono ?_;rintro r w2 ⟨rfl,rfl⟩;by_cases he:E=0
   ·subst he;have c9:gv 0=.nilIface:=rfl;rw[c9] at U;go_wp2_with fail;refine fU (S:=O) (L:=8) ai ?_;have bb:=cb.out;try simp only[ba,aP,bh,Nat.reduceAdd]
    refine eY (i:=0) (v:= ?va0) rfl ai ai ai ai (fun _ _ _ h=>h) (Or.inl ⟨by rfl, ?ya0⟩) an ?ra0;case ya0=>(intro w9 _;go_simp<;>with_reducible rfl)
    try simp only[Act.put,ax,aE,aD,aB,ay,az]
    refine eY (i:=1) (v:= ?va1) rfl ai ai ai ai (fun _ _ _ h=>h) (Or.inl ⟨by rfl, ?ya1⟩) an ?ra1;case ya1=>(intro w9 _;go_simp<;>with_reducible rfl)
    try simp only[Act.put,ax,aE,aD,aB,ay,az]
    refine eY (i:=2) (v:= ?va2) rfl ai ai ai ai (fun _ _ _ h=>h) (Or.inl ⟨by rfl, ?ya2⟩) an ?ra2;case ya2=>(intro w9 _;go_simp<;>with_reducible rfl)
    try simp only[Act.put,ax,aE,aD,aB,ay,az]
    refine eP (i:=3) (v:= ?va3) rfl ai ai ai ai (fun _ _ _ h=>h) (Or.inl ⟨by rfl, ?ya3⟩) an ?ra3;case ya3=>(intro w9 u;rw[Y.out] at u;obtain⟨a7,ac,ad,Z,aa⟩:=u;go_simp<;>with_reducible rfl)
    try simp only[Act.put,ax,aE,aD,aB,ay,az]
    refine eY (i:=4) (v:= ?va4) rfl ai ai ai ai (fun _ _ _ h=>h) (Or.inl ⟨by rfl, ?ya4⟩) an ?ra4;case ya4=>(intro w9 _;go_simp<;>with_reducible rfl)
    try simp only[Act.put,ax,aE,aD,aB,ay,az]
    refine eY (i:=5) (v:= ?va5) rfl ai ai ai ai (fun _ _ _ h=>h) (Or.inl ⟨by rfl, ?ya5⟩) an ?ra5;case ya5=>(intro w9 _;go_simp<;>with_reducible rfl)
    try simp only[Act.put,ax,aE,aD,aB,ay,az]
    refine eY (i:=6) (v:= ?va6) rfl ai ai ai ai (fun _ _ _ h=>h) (Or.inl ⟨by rfl, ?ya6⟩) an ?ra6;case ya6=>(intro w9 _;go_simp<;>with_reducible rfl)
    try simp only[Act.put,ax,aE,aD,aB,ay,az]
    refine eP (i:=7) (v:= ?va7) rfl ai ai ai ai (fun _ _ _ h=>h) (Or.inl ⟨by rfl, ?ya7⟩) an ?ra7;case ya7=>(intro w9 u;rw[Y.out] at u;obtain⟨a7,ac,ad,Z,aa⟩:=u;go_simp<;>with_reducible rfl)
    try simp only[Act.put,ax,aE,aD,aB,ay,az]
    clear bb;refine eK (i:=8) ai rfl (fun X z=> ?_);try simp only[aB,ay,az]
    go_simp;refine(U.out 1).mono ?_;rintro r w5 ⟨rfl,al⟩;have J:=eJ (a3.out w5 al);clear al;try go_simp
    refine z.out _ _ (fun h9=>absurd h9 aj) ?_;clear z X;try simp only[Act.put,ax,aE,aD]
    refine eK (i:=9) ai rfl (fun X z=> ?_);try simp only[aB,ay,az]
    go_simp;refine(ku _).mono ?_;rintro r w6 ⟨rfl,rfl⟩;try go_simp
    refine z.out _ _ (fun h9=>absurd h9 aj) ?_;clear z X;try simp only[Act.put,ax,aE,aD]
    refine fT ai ?_ _;obtain⟨a0,g11,g12,g13,g14⟩:=b4.out _ J.out.2.1;rw[Y.out] at a0;obtain⟨bk,a5,aA,am,a4⟩:=a0;have cu:=eJ J.out.2.2.2.2.2;have dt:=eJ (jz PF.rd _ J.out.2.2.2.2.1 ah ah);have cS:=eJ J.out.2.2.2.1;clear J a3 U;go_wp2_with fail;refine cu.out.mono ?_;rintro r w7 ⟨rfl,rfl⟩;go_wp2_with fail;refine dt.out.mono ?_;rintro r w8 ⟨rfl,bx⟩;have T:Hid (qG w0 w g L (kL d ws) (.returned (.string (fR PF.rd))) w8):=eJ (by rw[a2.out];exact⟨rfl,cS.out.below bx⟩);clear bx;go_wp2_with fail;go_ret;exact T.out
   ·have b6:gv E=.iface 61 (.int .i64 E):=by unfold gv;rw[aI he]
    have cx:=eJ he;rw[b6] at U;clear he b6;go_wp2_with fail;refine fU (S:=O) (L:=8) ai ?_;have bb:=cb.out;try simp only[ba,aP,bh,Nat.reduceAdd]
    refine eY (i:=0) (v:= ?vb0) rfl ai ai ai ai (fun _ _ _ h=>h) (Or.inl ⟨by rfl, ?yb0⟩) an ?rb0;case yb0=>(intro w9 _;go_simp<;>with_reducible rfl)
    try simp only[Act.put,ax,aE,aD,aB,ay,az]
    refine eY (i:=1) (v:= ?vb1) rfl ai ai ai ai (fun _ _ _ h=>h) (Or.inl ⟨by rfl, ?yb1⟩) an ?rb1;case yb1=>(intro w9 _;go_simp<;>with_reducible rfl)
    try simp only[Act.put,ax,aE,aD,aB,ay,az]
    refine eY (i:=2) (v:= ?vb2) rfl ai ai ai ai (fun _ _ _ h=>h) (Or.inl ⟨by rfl, ?yb2⟩) an ?rb2;case yb2=>(intro w9 _;go_simp<;>with_reducible rfl)
    try simp only[Act.put,ax,aE,aD,aB,ay,az]
    refine eP (i:=3) (v:= ?vb3) rfl ai ai ai ai (fun _ _ _ h=>h) (Or.inl ⟨by rfl, ?yb3⟩) an ?rb3;case yb3=>(intro w9 u;rw[Y.out] at u;obtain⟨a7,ac,ad,Z,aa⟩:=u;go_simp<;>with_reducible rfl)
    try simp only[Act.put,ax,aE,aD,aB,ay,az]
    refine eY (i:=4) (v:= ?vb4) rfl ai ai ai ai (fun _ _ _ h=>h) (Or.inl ⟨by rfl, ?yb4⟩) an ?rb4;case yb4=>(intro w9 _;go_simp<;>with_reducible rfl)
    try simp only[Act.put,ax,aE,aD,aB,ay,az]
    refine eY (i:=5) (v:= ?vb5) rfl ai ai ai ai (fun _ _ _ h=>h) (Or.inl ⟨by rfl, ?yb5⟩) an ?rb5;case yb5=>(intro w9 _;go_simp<;>with_reducible rfl)
    try simp only[Act.put,ax,aE,aD,aB,ay,az]
    refine eY (i:=6) (v:= ?vb6) rfl ai ai ai ai (fun _ _ _ h=>h) (Or.inl ⟨by rfl, ?yb6⟩) an ?rb6;case yb6=>(intro w9 _;go_simp<;>with_reducible rfl)
    try simp only[Act.put,ax,aE,aD,aB,ay,az]
    refine eP (i:=7) (v:= ?vb7) rfl ai ai ai ai (fun _ _ _ h=>h) (Or.inl ⟨by rfl, ?yb7⟩) an ?rb7;case yb7=>(intro w9 u;rw[Y.out] at u;obtain⟨a7,ac,ad,Z,aa⟩:=u;go_simp<;>with_reducible rfl)
    try simp only[Act.put,ax,aE,aD,aB,ay,az]
    clear bb;refine eK (i:=8) ai rfl (fun X z=> ?_);try simp only[aB,ay,az]
    go_simp;refine(U.out 1).mono ?_;rintro r w5 ⟨rfl,al⟩;have J:=eJ (a3.out w5 al);clear al;try go_simp
    refine z.out _ _ (fun h9=>absurd h9 aj) ?_;clear z X;try simp only[Act.put,ax,aE,aD]
    refine eK (i:=9) ai rfl (fun X z=> ?_);try simp only[aB,ay,az]
    go_simp;refine(gV E _ J.out.2.2.1.err).mono ?_;rintro r w6 ⟨rfl,d1⟩;have T:Hid (qG w0 w g L (kL d ws) (.panicked (kC E)) w6):=eJ (by rw[a2.out,aI cx.out];exact⟨rfl,J.out.1.below d1⟩);exact⟨rfl,T.out⟩
end
end
section
variable {m k:Nat}{w0 w w1:World}{g:Nat}{d:Dk}{L:Lh}{v:Value}{l:List Int}
theorem jH.No{p:Pl}{c:Cl}(hp:gl p)(h:jH p c)(fy:Nat)(r:Rn):jH p (gD p fy r c):=by
 unfold gD;repeat' split
 all_goals first|exact h|exact fun i=>h.IF hp fy r p.sl.length i
theorem H6(h:jF m k w0 w w1 g d L v l)(A:Option Addr)(ws:List ByteArray)(c:Nat)(hn:eU ws 0=some l):Calls prog 15 #[.pointer (some ⟨g,0,none⟩),.string ⟨#[114,111,117,110,100]⟩,.slice A ws.length c,v] w1 (mx m w0 w g L (kL d ws)):=by
 obtain⟨c7,cv,rfl,-⟩:=gK h.own;cases hd:d.c with
  |none=>have z:=eJ (h.bad (x:=kL d ws) ((eL hn).trans (fZ hd)) aj ⟨#[]⟩ (au));exact(lU ak (h.none_ hd) _ _).mono (by rintro r w2 ⟨rfl,rfl⟩;exact z.out)
  |some y=>
   obtain⟨gc,M,bs,b4,hM,a6,bj,hG,bt,bd,bq⟩:=h.dk.DK (fy:=y.1) (c:=y.2) hd h.hB h.lt;have jk:=h.some_ bj;obtain⟨be,a8,cr,bk,b3,b7⟩:=h.ok.im y hd;have hp:=gl.of be;have c6:=hp.n1;have de:=hp.n16;have cS:=h.hk;have cu:=h.hm;obtain⟨c3,cs,AL,cl,ap,al,s2,bl,-⟩:=qk (w:=b4) h.ok.wn bt;obtain⟨O,T,bb,h1,cn⟩:=Am (h.hs.own 2 ah) rfl;obtain⟨u,Y,bn,h2,ci⟩:=Aw (h.hs.own 3 ah) rfl;obtain⟨U,I,b5,-,h3,cm⟩:=rS (h.hs.own 4 ah) rfl;obtain⟨X,K,a4,-,h4,cj⟩:=rS (h.hs.own 5 ah) rfl;have off: ∀(j n cp:Nat)(a0:Option Addr),j<6->L.v j=.slice a0 n cp->∀x,a0=some x->x.block∈bs:=fun j n cp a0 bx e x b9=>by
    subst b9;have h9:(L.v j).ownBlock=some x.block:=by rw[e];rfl
    exact bd _ (h.hs.lo (.inr (.inl ⟨j,bx,h9⟩))).2 (h.dk.nj j _ bx h9)
   have a7:=bd g h.hs.eW.lt h.dk.l9;have b1:=h.ok.ls;have b2:=h.ok.rg;have c4:=h.ok.dr;have c0:=h.ok.md;obtain⟨E,a2⟩:=ab (kQ d.p y.1 d.r y.2);have ao:=sA hp a8 y.1 d.r;have b6:=tW d.p y.1 d.r y.2;have a5:=jH.No hp a6 y.1 d.r;have cV:gc≠g:=by obtain⟨a,rfl,-,-,-,h9⟩:=hG;intro e;exact(h9 g a7).2.1 ⟨.im,by rw[<-e];simp[eM,GO.eW]⟩
   have C:kL d ws=if kQ d.p y.1 d.r y.2=0 then⟨.ok (fR (gD d.p y.1 d.r y.2).rd),{d with c:=some (y.1,gD d.p y.1 d.r y.2),r:=⟨[],[],[],[]⟩}⟩ else⟨.error (kQ d.p y.1 d.r y.2),{d with c:=some (y.1,gD d.p y.1 d.r y.2)}⟩:=(eL hn).trans (fF hd);have ad:=hG.below (below_drewN (Below.refl w1.heap.size w1) 1);rw[ap,al] at ad;have Z:=EP w1.drew b4 ad hp a8 ah a6 ah ah bk b3 s2 bl (ar) (h.KX (below_drewN (au) 1)) d.r O T h1 (off 2 _ _ _ ah bb) ah u Y h2 ah U I h3 ah X K h4 (fun _=>off 5 _ _ _ ah a4) ah;rw[<-ap,<-al,a2] at Z;rw[a2] at C;generalize cb:gD d.p y.1 d.r y.2=PF at C Z ao b6 a5;have cx:=ao.rd;have c9:PF.rd<=6001:=ah;have aA:Hid (∀W,eN W g 60 (lB d L)->W.cell? ⟨g,11,none⟩=some (.slice O d.r.ls.length T)/\W.cell? ⟨g,12,none⟩=some (.slice u d.r.rg.length Y)/\W.cell? ⟨g,13,none⟩=some (.slice U d.r.dr.length I)/\W.cell? ⟨g,14,none⟩=some (.slice X d.r.md.length K)):=eJ (fun W ac=>by
    refine⟨?_, ?_, ?_, ?_⟩
    ·exact(ac.cell 11).trans (aO some bb)
    ·exact(ac.cell 12).trans (aO some bn)
    ·exact(ac.cell 13).trans (aO some b5)
    ·exact(ac.cell 14).trans (aO some a4))
   have bz:=aA.out w1.drew h.hs.eW.drew;have b8:Hid (Calls prog 34 #[.pointer (some ⟨gc,0,none⟩),.slice O d.r.ls.length T,.slice u d.r.rg.length Y,.slice U d.r.dr.length I,.slice X d.r.md.length K] w1.drew fun e w5=>e=.returned (.int .i64 E)/\Hid (w5.cell? ⟨g,11,none⟩=some (.slice O d.r.ls.length T)/\w5.cell? ⟨g,12,none⟩=some (.slice u d.r.rg.length Y)/\w5.cell? ⟨g,13,none⟩=some (.slice U d.r.dr.length I)/\w5.cell? ⟨g,14,none⟩=some (.slice X d.r.md.length K))/\Hid (E≠0->mx m w0 w g L (kL d ws) (.returned (.tuple #[.string ⟨#[]⟩,.int .i64 E])) w5)/\Hid (E=0->(w5.frozen? ⟨g,11,none⟩=false/\w5.frozen? ⟨g,12,none⟩=false/\w5.frozen? ⟨g,13,none⟩=false/\w5.frozen? ⟨g,14,none⟩=false)/\w5.cell? ⟨gc,7+9,none⟩=some (.int .i64 PF.rd)/\gY ((((w5.setCell ⟨g,11,none⟩ (.slice none 0 0)).setCell ⟨g,12,none⟩ (.slice none 0 0)).setCell ⟨g,13,none⟩ (.slice none 0 0)).setCell ⟨g,14,none⟩ (.slice none 0 0))/\∀W s,Below (((((w5.setCell ⟨g,11,none⟩ (.slice none 0 0)).setCell ⟨g,12,none⟩ (.slice none 0 0)).setCell ⟨g,13,none⟩ (.slice none 0 0)).setCell ⟨g,14,none⟩ (.slice none 0 0))).heap.size ((((w5.setCell ⟨g,11,none⟩ (.slice none 0 0)).setCell ⟨g,12,none⟩ (.slice none 0 0)).setCell ⟨g,13,none⟩ (.slice none 0 0)).setCell ⟨g,14,none⟩ (.slice none 0 0)) W->s=fR PF.rd->mx m w0 w g L (kL d ws) (.returned (.tuple #[.string s,.int .i64 0])) W)):=eJ (Z.mono (fun e w5 ⟨he,a9⟩=>by
    have bv:=bq w5 PF M (m+1) ah a5 a9;have J:eN w5 g 60 (lB d L):=(a9.heap a7).trans h.hs.eW;refine⟨he,eJ (aA.out w5 J),eJ (fun h0=> ?_),eJ (fun h0=> ?_)⟩
    ·rw[C,aI h0];exact⟨⟨_,_,rfl,rfl,h0⟩,bv⟩
    ·obtain⟨bm,t1,t2⟩:=bv;have cc:eN ((((w5.setCell ⟨g,11,none⟩ (.slice none 0 0)).setCell ⟨g,12,none⟩ (.slice none 0 0)).setCell ⟨g,13,none⟩ (.slice none 0 0)).setCell ⟨g,14,none⟩ (.slice none 0 0)) g 60 (lB {{d with c:=some (y.1,PF)} with r:=⟨[],[],[],[]⟩} {bm with v:=fun j=>if j<2 then bm.v j else .slice none 0 0}):=Ps t1.eW;obtain⟨cd,t3,t4⟩:=t1.reset IJ rfl cc;obtain⟨ck,cA,ct,tm,pm,ca⟩:=a9.cells;obtain⟨-,-,-,-,-,-,-,-,-,-,-,-,-,bw⟩:=gg ca;refine⟨⟨J.frozen 11,J.frozen 12,J.frozen 13,J.frozen 14⟩,bw,h.tR.below h.tR.wR t3.low,fun W s hB hs=> ?_⟩;subst hs;rw[C,aM h0];exact⟨⟨_,_,rfl,rfl,rfl⟩,iW.below ⟨cd,t3,t2.trans t4⟩ hB⟩))
   clear bt bd bq a6 hG ad Z be a8 cr bk b3 b7 hp h hn ap al bb bn b5 a4 s2 bl h1 h2 h3 h4 cn ci cm cj off a7 C cb a2 a5 ao bj aA;go_enter func15,ntmps15;go_wp2_with fail;go_region_held3 (fun W=>W.cell? ⟨g,11,none⟩=some (.slice O d.r.ls.length T)/\W.cell? ⟨g,12,none⟩=some (.slice u d.r.rg.length Y)/\W.cell? ⟨g,13,none⟩=some (.slice U d.r.dr.length I)/\W.cell? ⟨g,14,none⟩=some (.slice X d.r.md.length K)) (first|exact bz|exact aa.out) (first|(go_at_call 34;go_must (refine b8.out.mono ?_);rintro r w5 ⟨rfl,aa,am,a3⟩));all_goals
    clear bz;by_cases he:E=0
    ·obtain⟨⟨f11,f12,f13,f14⟩,bw,bi,bf⟩:=a3.out he;obtain⟨c5,c12,dd,c8⟩:=aa.out;have co:=eJ (Pg PF.rd ((((w5.setCell ⟨g,11,none⟩ (.slice none 0 0)).setCell ⟨g,12,none⟩ (.slice none 0 0)).setCell ⟨g,13,none⟩ (.slice none 0 0)).setCell ⟨g,14,none⟩ (.slice none 0 0)) w5.heap.size (by simp[World.setCell]) bi ah ah);have z:=eJ bf;subst he;clear bi bf am a3 aa;go_wp2_with fail;refine co.out.mono ?_;rintro r w6 ⟨rfl,ce⟩;have ch:=eJ (z.out _ _ ce rfl);go_wp2_with fail;go_ret2;exact ch.out
    ·have z:=eJ (am.out he);have d1:(E !=0)=true:=by simpa using he
     clear am a3 aa he;go_wp2_with fail;go_ret2;exact z.out
end
theorem Od(a b:ByteArray):(a==b)=decide (a=b):=by
 by_cases h:a=b
 ·subst h;rw[aJ rfl];show(a.data==a.data)=true;simp
 ·rw[aH h];obtain⟨a⟩:=a;obtain⟨b⟩:=b;show(a==b)=false;simp;intro e;exact h (by rw[e])
def nt:List (ByteArray×Value)->Nat->List MapEntry|[],_=>[]|x::l,i=>{key:=.string x.1,val:=x.2,born:=i}::nt l (i+1)
theorem ti(x:ByteArray×Value): ∀(l:List (ByteArray×Value))(i:Nat),nt (l++[x]) i=nt l i++[{key:=.string x.1,val:=x.2,born:=i+l.length}]|[],i=>rfl|y::l,i=>by rw[bE,nt,ti x l (i+1),nt,aP,show i+1+l.length=i+(l.length+1) from ah];rfl
def fo(w:World)(l:List (ByteArray×Value)):World:=w.alloc (.map (nt l 0).toArray l.length)
def mF(s:ByteArray):List (ByteArray×Value)->Nat->Option (Nat×Value)|[],_=>none|x::l,i=>if s=x.1 then some (i,x.2) else mF s l (i+1)
theorem Be(s:ByteArray): ∀(l:List (ByteArray×Value))(i j:Nat),Instr.findNow .string (.string s) (nt l j) i=some (mF s l i)
 |[],i,j=>rfl
 |x::l,i,j=>by
  have e:=Be s l (i+1) (j+1);unfold nt Instr.findNow mF;simp only[Instr.sameNow];rw[Od];by_cases h:s=x.1
  ·rw[aJ h,aM h]
  ·rw[aH h,aI h];exact e
theorem rR(w:World)(s:ByteArray)(l:List (ByteArray×Value)):(Instr.findKey 9 (.string s) (nt l 0)).run prog w=.ok (mF s l 0) w:=by unfold Instr.findKey;simp only[bZ,bK underlying9,bG,Be];rfl
theorem L3(em:Bool)(n:Nat)(w:World)(s:ByteArray):(Instr.checkKey em (n+1) 9 (.string s)).run prog w=.ok () w:=by simp[Instr.checkKey,bK underlying9]
theorem qz(em:Bool)(w:World)(s:ByteArray):(Instr.checkKey em 10000 9 (.string s)).run prog w=.ok () w:=L3 em 9999 w s
theorem yM(w:World)(l:List (ByteArray×Value)):(fo w l).heap[w.heap.size]? =some (.map (nt l 0).toArray l.length):=heap_alloc_new w _
theorem wa(w:World)(l:List (ByteArray×Value)):(getObj w.heap.size).run prog (fo w l)=.ok (.map (nt l 0).toArray l.length) (fo w l):=by simp[getObj,Sem.run,yM]
theorem Az(w:World)(l:List (ByteArray×Value))(o:Obj):(setObj w.heap.size o).run prog (fo w l)=.ok () {fo w l with heap:=(fo w l).heap.setIfInBounds w.heap.size o}:=by simp[setObj,Sem.run,yM]
theorem iE(w:World)(l:List (ByteArray×Value))(k:ByteArray)(v:Value)(hk:mF k l 0=none):(Instr.mapUpdate 129 (.map (some w.heap.size)) (.string k) v).run prog (fo w l)=.ok () (fo w (l++[(k,v)])):=by
 unfold Instr.mapUpdate;simp only[bZ,bK underlying129,bG,wa,qz,eu,rR,hk];have e:(nt l 0).toArray.push {key:=.string k,val:=v,born:=l.length}=(nt (l++[(k,v)]) 0).toArray:=by rw[ti];simp
 rw[e];rw[Az w l];have h:(fo w l).heap.setIfInBounds w.heap.size (.map (nt (l++[(k,v)]) 0).toArray (l.length+1))=(fo w (l++[(k,v)])).heap:=by show(w.heap.push _).setIfInBounds w.heap.size _=w.heap.push _;apply Array.ext';rw[ek,Array.toList_push,Array.toList_push,<-dT,List.set_append_right _ _ (ar)];simp
 rw[h];rfl
theorem IB(w:World)(l:List (ByteArray×Value))(s:ByteArray):(Instr.lookup 129 (.map (some w.heap.size)) (.string s) false).run prog (fo w l)=.ok (((mF s l 0).map (·.2)).getD .nilFunc) (fo w l):=by unfold Instr.lookup;simp only[bZ,bK underlying129,bG,wa,qz,eu,dW,rR];cases mF s l 0 with|none=>simp[show∀W:World,(zeroValue 75).run prog W=.ok .nilFunc W from fun W=>ai]|some x=>simp
def jJ(g:Nat):List (ByteArray×Value):=[(⟨#[98,121,116,101,115]⟩,.func (.func 47) #[.pointer (some ⟨g,0,none⟩)] #[]),(⟨#[99,108,101,97,114]⟩,.func (.func 48) #[.pointer (some ⟨g,0,none⟩)] #[]),(⟨#[99,108,111,99,107,115]⟩,.func (.func 49) #[.pointer (some ⟨g,0,none⟩)] #[]),(⟨#[100,114,105,102,116]⟩,.func (.func 50) #[.pointer (some ⟨g,0,none⟩)] #[]),(⟨#[104,101,108,112]⟩,.func (.func 51) #[.pointer (some ⟨g,0,none⟩)] #[]),(⟨#[108,105,110,107]⟩,.func (.func 52) #[.pointer (some ⟨g,0,none⟩)] #[]),(⟨#[108,111,99,97,108]⟩,.func (.func 53) #[.pointer (some ⟨g,0,none⟩)] #[]),(⟨#[108,111,115,101]⟩,.func (.func 54) #[.pointer (some ⟨g,0,none⟩)] #[]),(⟨#[109,101,109,98,101,114,115]⟩,.func (.func 55) #[.pointer (some ⟨g,0,none⟩)] #[]),(⟨#[109,105,100,112,111,105,110,116]⟩,.func (.func 56) #[.pointer (some ⟨g,0,none⟩)] #[]),(⟨#[109,111,100,101]⟩,.func (.func 57) #[.pointer (some ⟨g,0,none⟩)] #[]),(⟨#[112,108,97,110]⟩,.func (.func 58) #[.pointer (some ⟨g,0,none⟩)] #[]),(⟨#[112,117,116]⟩,.func (.func 59) #[.pointer (some ⟨g,0,none⟩)] #[]),(⟨#[114,101,97,100]⟩,.func (.func 60) #[.pointer (some ⟨g,0,none⟩)] #[]),(⟨#[114,101,97,108]⟩,.func (.func 61) #[.pointer (some ⟨g,0,none⟩)] #[]),(⟨#[114,101,99,101,105,118,101]⟩,.func (.func 62) #[.pointer (some ⟨g,0,none⟩)] #[]),(⟨#[114,111,117,110,100]⟩,.func (.func 63) #[.pointer (some ⟨g,0,none⟩)] #[]),(⟨#[115,108,111,116]⟩,.func (.func 64) #[.pointer (some ⟨g,0,none⟩)] #[]),(⟨#[115,112,114,101,97,100]⟩,.func (.func 65) #[.pointer (some ⟨g,0,none⟩)] #[]),(⟨#[115,116,97,114,116]⟩,.func (.func 66) #[.pointer (some ⟨g,0,none⟩)] #[])]
def xV(g:Nat)(s:ByteArray):Value:=((mF s (jJ g) 0).map (·.2)).getD .nilFunc
theorem yn(s:ByteArray): ∀(l:List (ByteArray×Value))(i:Nat),(mF s l i).map (·.2)=jO s l
 |[],_=>rfl
 |x::l,i=>by
  unfold mF jO;split
  ·rfl
  ·exact yn s l (i+1)
theorem xA(g:Nat)(s:ByteArray):xV g s=(jO s (jJ g)).getD .nilFunc:=by unfold xV;rw[yn]
def Qd(g:Nat):List (ByteArray×Value):=(jJ g).take 0
def QV(g:Nat):List (ByteArray×Value):=(jJ g).take 1
def Qp(g:Nat):List (ByteArray×Value):=(jJ g).take 2
def Qn(g:Nat):List (ByteArray×Value):=(jJ g).take 3
def QN(g:Nat):List (ByteArray×Value):=(jJ g).take 4
def QR(g:Nat):List (ByteArray×Value):=(jJ g).take 5
def Qo(g:Nat):List (ByteArray×Value):=(jJ g).take 6
def QP(g:Nat):List (ByteArray×Value):=(jJ g).take 7
def Qr(g:Nat):List (ByteArray×Value):=(jJ g).take 8
def QY(g:Nat):List (ByteArray×Value):=(jJ g).take 9
def NH(g:Nat):List (ByteArray×Value):=(jJ g).take 10
def Nz(g:Nat):List (ByteArray×Value):=(jJ g).take 11
def Nk(g:Nat):List (ByteArray×Value):=(jJ g).take 12
def OK(g:Nat):List (ByteArray×Value):=(jJ g).take 13
def N5(g:Nat):List (ByteArray×Value):=(jJ g).take 14
def Ny(g:Nat):List (ByteArray×Value):=(jJ g).take 15
def OE(g:Nat):List (ByteArray×Value):=(jJ g).take 16
def Ov(g:Nat):List (ByteArray×Value):=(jJ g).take 17
def OQ(g:Nat):List (ByteArray×Value):=(jJ g).take 18
def NF(g:Nat):List (ByteArray×Value):=(jJ g).take 19
def Ks(g:Nat):List (ByteArray×Value):=(jJ g).take 20
theorem I8(g:Nat)(s:ByteArray)(w:World):Calls prog 24 #[.pointer (some ⟨g,0,none⟩),.string s] w fun e w'=>e=.returned (xV g s)/\Below w.heap.size w w':=by have j:(Instr.makeMap 129 none).run prog w=.ok (.map (some w.heap.size)) (fo w (Qd g)):=run_makeMap _ _;have m0:(Instr.mapUpdate 129 (.map (some w.heap.size)) (.string ⟨#[98,121,116,101,115]⟩) (.func (.func 47) #[.pointer (some ⟨g,0,none⟩)] #[])).run prog (fo w (Qd g))=.ok () (fo w (QV g)):=iE w (Qd g) _ _ rfl;have m1:(Instr.mapUpdate 129 (.map (some w.heap.size)) (.string ⟨#[99,108,101,97,114]⟩) (.func (.func 48) #[.pointer (some ⟨g,0,none⟩)] #[])).run prog (fo w (QV g))=.ok () (fo w (Qp g)):=iE w (QV g) _ _ rfl;have m2:(Instr.mapUpdate 129 (.map (some w.heap.size)) (.string ⟨#[99,108,111,99,107,115]⟩) (.func (.func 49) #[.pointer (some ⟨g,0,none⟩)] #[])).run prog (fo w (Qp g))=.ok () (fo w (Qn g)):=iE w (Qp g) _ _ rfl;have m3:(Instr.mapUpdate 129 (.map (some w.heap.size)) (.string ⟨#[100,114,105,102,116]⟩) (.func (.func 50) #[.pointer (some ⟨g,0,none⟩)] #[])).run prog (fo w (Qn g))=.ok () (fo w (QN g)):=iE w (Qn g) _ _ rfl;have m4:(Instr.mapUpdate 129 (.map (some w.heap.size)) (.string ⟨#[104,101,108,112]⟩) (.func (.func 51) #[.pointer (some ⟨g,0,none⟩)] #[])).run prog (fo w (QN g))=.ok () (fo w (QR g)):=iE w (QN g) _ _ rfl;have m5:(Instr.mapUpdate 129 (.map (some w.heap.size)) (.string ⟨#[108,105,110,107]⟩) (.func (.func 52) #[.pointer (some ⟨g,0,none⟩)] #[])).run prog (fo w (QR g))=.ok () (fo w (Qo g)):=iE w (QR g) _ _ rfl;have m6:(Instr.mapUpdate 129 (.map (some w.heap.size)) (.string ⟨#[108,111,99,97,108]⟩) (.func (.func 53) #[.pointer (some ⟨g,0,none⟩)] #[])).run prog (fo w (Qo g))=.ok () (fo w (QP g)):=iE w (Qo g) _ _ rfl;have m7:(Instr.mapUpdate 129 (.map (some w.heap.size)) (.string ⟨#[108,111,115,101]⟩) (.func (.func 54) #[.pointer (some ⟨g,0,none⟩)] #[])).run prog (fo w (QP g))=.ok () (fo w (Qr g)):=iE w (QP g) _ _ rfl;have m8:(Instr.mapUpdate 129 (.map (some w.heap.size)) (.string ⟨#[109,101,109,98,101,114,115]⟩) (.func (.func 55) #[.pointer (some ⟨g,0,none⟩)] #[])).run prog (fo w (Qr g))=.ok () (fo w (QY g)):=iE w (Qr g) _ _ rfl;have m9:(Instr.mapUpdate 129 (.map (some w.heap.size)) (.string ⟨#[109,105,100,112,111,105,110,116]⟩) (.func (.func 56) #[.pointer (some ⟨g,0,none⟩)] #[])).run prog (fo w (QY g))=.ok () (fo w (NH g)):=iE w (QY g) _ _ rfl;have m10:(Instr.mapUpdate 129 (.map (some w.heap.size)) (.string ⟨#[109,111,100,101]⟩) (.func (.func 57) #[.pointer (some ⟨g,0,none⟩)] #[])).run prog (fo w (NH g))=.ok () (fo w (Nz g)):=iE w (NH g) _ _ rfl;have m11:(Instr.mapUpdate 129 (.map (some w.heap.size)) (.string ⟨#[112,108,97,110]⟩) (.func (.func 58) #[.pointer (some ⟨g,0,none⟩)] #[])).run prog (fo w (Nz g))=.ok () (fo w (Nk g)):=iE w (Nz g) _ _ rfl;have m12:(Instr.mapUpdate 129 (.map (some w.heap.size)) (.string ⟨#[112,117,116]⟩) (.func (.func 59) #[.pointer (some ⟨g,0,none⟩)] #[])).run prog (fo w (Nk g))=.ok () (fo w (OK g)):=iE w (Nk g) _ _ rfl;have m13:(Instr.mapUpdate 129 (.map (some w.heap.size)) (.string ⟨#[114,101,97,100]⟩) (.func (.func 60) #[.pointer (some ⟨g,0,none⟩)] #[])).run prog (fo w (OK g))=.ok () (fo w (N5 g)):=iE w (OK g) _ _ rfl;have m14:(Instr.mapUpdate 129 (.map (some w.heap.size)) (.string ⟨#[114,101,97,108]⟩) (.func (.func 61) #[.pointer (some ⟨g,0,none⟩)] #[])).run prog (fo w (N5 g))=.ok () (fo w (Ny g)):=iE w (N5 g) _ _ rfl;have m15:(Instr.mapUpdate 129 (.map (some w.heap.size)) (.string ⟨#[114,101,99,101,105,118,101]⟩) (.func (.func 62) #[.pointer (some ⟨g,0,none⟩)] #[])).run prog (fo w (Ny g))=.ok () (fo w (OE g)):=iE w (Ny g) _ _ rfl;have m16:(Instr.mapUpdate 129 (.map (some w.heap.size)) (.string ⟨#[114,111,117,110,100]⟩) (.func (.func 63) #[.pointer (some ⟨g,0,none⟩)] #[])).run prog (fo w (OE g))=.ok () (fo w (Ov g)):=iE w (OE g) _ _ rfl;have m17:(Instr.mapUpdate 129 (.map (some w.heap.size)) (.string ⟨#[115,108,111,116]⟩) (.func (.func 64) #[.pointer (some ⟨g,0,none⟩)] #[])).run prog (fo w (Ov g))=.ok () (fo w (OQ g)):=iE w (Ov g) _ _ rfl;have m18:(Instr.mapUpdate 129 (.map (some w.heap.size)) (.string ⟨#[115,112,114,101,97,100]⟩) (.func (.func 65) #[.pointer (some ⟨g,0,none⟩)] #[])).run prog (fo w (OQ g))=.ok () (fo w (NF g)):=iE w (OQ g) _ _ rfl;have m19:(Instr.mapUpdate 129 (.map (some w.heap.size)) (.string ⟨#[115,116,97,114,116]⟩) (.func (.func 66) #[.pointer (some ⟨g,0,none⟩)] #[])).run prog (fo w (NF g))=.ok () (fo w (Ks g)):=iE w (NF g) _ _ rfl;have hl:(Instr.lookup 129 (.map (some w.heap.size)) (.string s) false).run prog (fo w (Ks g))=.ok (xV g s) (fo w (Ks g)):=IB w _ s;have h:Hid (Below w.heap.size w (fo w (Ks g))):=eJ ((au).alloc (ar) _);go_enter func24,ntmps24;go_wp2_with fail;go_ret;exact⟨rfl,h.out⟩
section
variable {m k:Nat}{w0 w w1:World}{g:Nat}{d:Dk}{L:Lh}{v:Value}{l:List Int}
theorem EG(h:jF m k w0 w w1 g d L v l){x:ByteArray}{f:Dk->List ByteArray->jM}(s:s5 x=some f)(A:Option Addr)(ws:List ByteArray)(c:Nat)(hw:Kb w1 A ws)(e: ∀a,A=some a->¬L.S.F a.block)(z: ∀j,(ws.getD j ⟨#[]⟩).size<=100000)(u:ws.length<=2000)(hn:okW x ws=some l):Calls prog 15 #[.pointer (some ⟨g,0,none⟩),.string x,.slice A ws.length c,v] w1 (mx m w0 w g L (f d ws)):=by
 rcases yN s with ⟨rfl,rfl⟩|⟨rfl,rfl⟩|⟨rfl,rfl⟩|⟨rfl,rfl⟩|⟨rfl,rfl⟩|⟨rfl,rfl⟩|⟨rfl,rfl⟩|⟨rfl,rfl⟩|⟨rfl,rfl⟩|⟨rfl,rfl⟩|⟨rfl,rfl⟩|⟨rfl,rfl⟩|⟨rfl,rfl⟩|⟨rfl,rfl⟩|⟨rfl,rfl⟩|⟨rfl,rfl⟩|⟨rfl,rfl⟩|⟨rfl,rfl⟩|⟨rfl,rfl⟩|⟨rfl,rfl⟩
 ·exact H5 h A ws c ((zP ws).symm.trans hn)
 ·exact JF h A ws c ((zL ws).symm.trans hn)
 ·exact Ey h A ws c ((yb ws).symm.trans hn)
 ·exact Hv h A ws c ((zD ws).symm.trans hn)
 ·exact LP h A ws c ((DF ws).symm.trans hn)
 ·exact Mr h A ws c ((Ec ws).symm.trans hn)
 ·exact II h A ws c ((zX ws).symm.trans hn)
 ·exact Kt h A ws c ((DS ws).symm.trans hn)
 ·exact B6 h A ws c ((vX ws).symm.trans hn)
 ·exact AJ h A ws c u ((tu ws).symm.trans hn)
 ·exact Lc h A ws c ((Ds ws).symm.trans hn)
 ·exact KE h A ws c ((Dp ws).symm.trans hn)
 ·exact Nw h A ws c hw e (z 1) (DP hn).1 (DP hn).2
 ·exact LW h A ws c ((DL ws).symm.trans hn)
 ·exact KW h A ws c ((DA ws).symm.trans hn)
 ·exact CH h A ws c ((uI ws).symm.trans hn)
 ·exact H6 h A ws c ((zw ws).symm.trans hn)
 ·exact KF h A ws c ((DV ws).symm.trans hn)
 ·exact FZ h A ws c ((xM ws).symm.trans hn)
 ·exact Il h A ws c ah ((Bi ws).symm.trans hn)
end
theorem nS(w:World)(l:List (ByteArray×Value))(k:ByteArray)(v:Value)(hk:mF k l 0=none):(Instr.mapUpdate 54 (.map (some w.heap.size)) (.string k) v).run prog (fo w l)=.ok () (fo w (l++[(k,v)])):=by
 unfold Instr.mapUpdate;simp only[bZ,bK underlying54,bG,wa,qz,eu,rR,hk];have e:(nt l 0).toArray.push {key:=.string k,val:=v,born:=l.length}=(nt (l++[(k,v)]) 0).toArray:=by rw[ti];simp
 rw[e];rw[Az w l];have h:(fo w l).heap.setIfInBounds w.heap.size (.map (nt (l++[(k,v)]) 0).toArray (l.length+1))=(fo w (l++[(k,v)])).heap:=by show(w.heap.push _).setIfInBounds w.heap.size _=w.heap.push _;apply Array.ext';rw[ek,Array.toList_push,Array.toList_push,<-dT,List.set_append_right _ _ (ar)];simp
 rw[h];rfl
def ie:List (ByteArray×Value):=DR.map fun x=>(x.1,.int .i64 x.2)
theorem ym(s:ByteArray): ∀(l:List (ByteArray×Int))(i:Nat),(mF s (l.map fun x=>(x.1,Value.int .i64 x.2)) i).map (·.2)=(jO s l).map (Value.int .i64 ·)
 |[],_=>rfl
 |x::l,i=>by
  rw[cK];unfold mF jO;dsimp only;split
  ·rfl
  ·exact ym s l (i+1)
theorem PE(w:World)(b:Nat)(h:w.heap[b]? =some (.map (nt ie 0).toArray ie.length))(s:ByteArray):(Instr.lookup 54 (.map (some b)) (.string s) true).run prog w=.ok (.tuple #[.int .i64 ((jO s DR).getD 0),.bool (jO s DR).isSome]) w:=by
 have j:(getObj b).run prog w=.ok (.map (nt ie 0).toArray ie.length) w:=by simp[getObj,Sem.run,h]
 unfold Instr.lookup;simp only[bZ,bK underlying54,bG,j,qz,eu,dW,rR];have hm:=ym s DR 0;cases hl:jO s DR with
  |none=>
   rw[hl] at hm;have:mF s ie 0=none:=by cases e:mF s ie 0 with|none=>rfl|some y=>unfold ie at e;rw[e] at hm;cases hm
   rw[this];simp[show∀W:World,(zeroValue 3).run prog W=.ok (.int .i64 0) W from fun W=>ai]
  |some k=>rw[hl] at hm;cases e:mF s ie 0 with|none=>unfold ie at e;rw[e] at hm;cases hm|some y=>unfold ie at e;rw[e] at hm;simp at hm;simp[hm]
theorem xF{c x:UInt8}(e: ¬x=c): ∀b:List UInt8,∃y r,kc c (b++[x])=r++[y++[x]]
 |[]=>⟨[],[],by simp[kc,e]⟩
 |z::b=>by
  obtain⟨y,r,h⟩:=xF e b;rw[bE,kc,h];by_cases j:z=c
  ·rw[aM j];exact⟨y,[]::r,rfl⟩
  ·rw[aI j];cases r with|nil=>exact⟨z::y,[],rfl⟩|cons u r=>exact⟨y,(z::u)::r,rfl⟩
def ux(s:ByteArray):List ByteArray:=if 1<(ig 10 s).length/\(ig 10 s).getLast? =some ⟨#[]⟩ then(ig 10 s).dropLast else ig 10 s
theorem DJ(s:ByteArray):ux s=vg s.data.toList:=by
 unfold ux vg ig;rw[D2];generalize s.data.toList=l;rcases List.eq_nil_or_concat l with rfl|⟨a,x,rfl⟩
 ·rw[aI (by simp[kc])];rfl
 ·rw[show a.concat x=a++[x] from ak];by_cases e:x=10
  ·subst e;have h:kc 10 (a++[10])=kc 10 a++[[]]:=rF [] a;obtain⟨y,r,u⟩:=lN (c:=10) a;rw[LS,h,aM ⟨by rw[u];simp,ak⟩];simp
  ·have j:Lib.trimSuffix (a++[x]) [10]=a++[x]:=by
    unfold Lib.trimSuffix;rw[aI];intro h;unfold Lib.hasSuffix at h;have h2:[10]<:+a++[x]:=by simpa[List.isSuffixOf_iff_suffix] using h
    obtain⟨t,j⟩:=h2;have:=(List.append_inj' j rfl).2;simp at this;exact e this.symm
   obtain⟨y,r,h⟩:=xF e a;rw[j,aI];rintro⟨-,h2⟩;rw[h] at h2;simp at h2
def tK(x:ByteArray):Bool:=decide (x≠⟨#[]⟩)
theorem Ld(s:ByteArray):(ig 32 s).filter tK=kG s:=by rw[tB];unfold ig qH;rw[List.filter_map];congr 1;apply List.filter_congr;intro l _;show tK ⟨l.toArray⟩= !l.isEmpty;cases l with|nil=>rfl|cons x l=>show decide _=true;apply aJ;intro e;have:=aO (fun b:ByteArray=>b.data.size) e;simp at this
theorem zb{l:List ByteArray}{k:Nat}(hk:k<l.length):(l.take (k+1)).filter tK=(l.take k).filter tK++(if l[k]=⟨#[]⟩ then [] else [l[k]]):=by
 rw[cE,aF hk,List.filter_append];congr 1;by_cases h:l[k]=⟨#[]⟩
 ·rw[aM h];simp[tK,h]
 ·rw[aI h];simp[tK,h]
theorem nX(p:Nat->Bool)(s:ByteArray): ∀(f pos:Nat)(st:Option Nat)(acc:List (Nat×Nat)),(Lib.spansFromP p s f pos st acc).1.length<=acc.length+f
 |0,_,_,acc=>by unfold Lib.spansFromP;simp
 |f+1,pos,st,acc=>by
  unfold Lib.spansFromP;split
  ·split
   ·split
    ·rename_i a;have:=nX p s f (pos+(Utf8.decode s pos).2) none (acc++[(a,pos)]);simp at this⊢;omega
    ·have:=nX p s f (pos+(Utf8.decode s pos).2) none acc;omega
   ·split
    ·rename_i a;have:=nX p s f (pos+(Utf8.decode s pos).2) (some a) acc;omega
    ·have:=nX p s f (pos+(Utf8.decode s pos).2) (some pos) acc;omega
  ·simp
def mz(s:ByteArray):List ByteArray:=Lib.goFieldsP (fun x=>x==32) s
theorem xI(s:ByteArray):(mz s).length<=s.size+1:=by
 unfold mz Lib.goFieldsP Lib.spansOfP;rw[aY];have h:=nX (fun x=>x==32) s s.size 0 none [];unfold Lib.closeSpans;split
 ·simp at h⊢;omega
 ·simp at h;omega
theorem rf(s:ByteArray): ∀x∈mz s,x.size<=s.size:=fun x e=>by unfold mz Lib.goFieldsP at e;obtain⟨y,_,rfl⟩:=cX.1 e;rw[ByteArray.size_extract];omega
theorem Fb(x:Nat)(w:World):Calls prog 23 #[.int .i32 (x:Int)] w fun e w'=>e=.returned (.bool (x==32))/\w'=w:=by
 have h:((x:Int)==32)=(x==32):=by rw[dL,dy,dy];omega
 go_enter func23,ntmps23;go_wp2_with fail;go_ret;exact⟨gB (by first|exact h|(rw[<-h];rfl)|simp),rfl⟩
theorem Gs(s:ByteArray)(w:World)(hs:s.size<=1000000):Calls prog 22 #[.string s,.func (.func 23) #[] #[]] w fun e w'=> ∃A,e=.returned (.slice (some ⟨A,0,none⟩) (mz s).length (mz s).length)/\w.heap.size<=A/\w'.ownsRow w.heap.size 9 1 (.slice (some ⟨A,0,none⟩) (mz s).length (mz s).length) (mz s).length ((mz s).map Value.string)/\Below w.heap.size w w':=strings_FieldsFunc_runes 23 #[] (enters_of func23 ai rfl) (fun x=>x==32) s w ah (fun W x _ _=>(Fb x W).mono (fun e w' ⟨h1,h2⟩=>⟨h1,0,by rw[h2];rfl⟩))
end Go.Proofs.YtideefjnlakciaaGreatDoor
