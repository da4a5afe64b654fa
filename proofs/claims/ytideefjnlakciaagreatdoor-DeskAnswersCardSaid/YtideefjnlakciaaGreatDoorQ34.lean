/- The contracts of a desk's commands read; conditions: the desk and the words lie in memory. -/
import Derived.Test.YtideefjnlakciaaGreatDoorQ00
import Derived.Test.YtideefjnlakciaaGreatDoorQ20
import Derived.Test.YtideefjnlakciaaGreatDoorQ32
import Derived.Test.YtideefjnlakciaaGreatDoorQ26
import Derived.Test.YtideefjnlakciaaGreatDoorQ33
import Derived.Test.YtideefjnlakciaaGreatDoorQ21
import Derived.Test.YtideefjnlakciaaGreatDoorQ17
import Derived.Test.YtideefjnlakciaaGreatDoorQ01
import Derived.Test.YtideefjnlakciaaGreatDoorQ13
import Derived.Test.YtideefjnlakciaaGreatDoorQ19
import Derived.Defers
import Derived.Recover
import Derived.Lib.OthersKept
import Derived.RangeFuncKeeps
import Derived.RangeFuncLeaves
import Derived.Shelf.Abstract
import Derived.OwnWalkIn
import Derived.TacticsInMore
import Derived.LoopNIn
import Derived.LoopIn
import Derived.Shelf.Strings.BuilderK
set_option maxRecDepth 1000000
set_option maxHeartbeats 20000000
set_option linter.unusedVariables false
set_option linter.unusedSimpArgs false
namespace Go.Proofs.YtideefjnlakciaaGreatDoor
open Go.RowKit Go.Proofs.Tryz
section
variable {w0 w:World}{g k:Nat}{d:Dk}{L:Ly}{A:Option Addr}{ws:List ByteArray}
theorem KB(h:iu w0 w g d L k A ws)(c:Nat):Calls prog 60 #[.pointer (some ⟨g,0,none⟩),.slice A ws.length c] w (qG w0 w g L (pO d ws)):=by
 have a9:=eJ (h.jb (3) ah ah c);have H:=eJ h;clear h;go_enter func60,ntmps60;go_wp2_with fail;refine a9.out.mono ?_;rintro r w1 ⟨⟨hn,rfl⟩|⟨l,v,hn,rfl,X⟩,aA⟩;case inl=>have a0:=eJ (H.out.bad (x:=pO d ws) (fJ hn) aA);go_wp2_with fail;exact⟨rfl,a0.out⟩
 obtain⟨s,x1,u,gk,cp,rfl,rfl,a5,n1,bj,cu,a3⟩:=xS X ((fg hn).1 ah);have K:=eJ aA;have bb:=eJ hn;have co:=eJ X;clear aA hn X;cases hd:d.c with
  |none=>have ad:=eJ (iz w1 (H.out.jK K.out).err g none true (H.out.noCell K.out hd) rfl);have ao:Hid (pO d ws=⟨.error 6,d⟩):=eJ ((eL bb.out).trans (fZ hd));go_wp2_with fail;refine ad.out.mono ?_;rintro r w2 ⟨rfl,bz⟩;have a0:=eJ (H.out.bad ao.out (K.out.trans (bz.mono K.out.size)));go_wp2_with fail;exact⟨rfl,a0.out⟩
  |some y=>
   obtain⟨a,b,jk,bl,b4,b2,ca,b6⟩:=H.out.lx K.out hd;have ad:=eJ (jd w1 g _ true jk rfl);have U:=eJ (H.out.dk.below K.out);have ao:Hid (pO d ws=⟨.ok ⟨#[114,101,97,100]⟩,{d with r:={d.r with rg:=d.r.rg++[⟨s,x1,u⟩]}}⟩):=eJ ((eL bb.out).trans (fF hd));have cx:gk≠g:=by have:=H.out.dk.eW.lt;omega
   have c12:=U.out.eW.cell 12;have f12:=U.out.eW.frozen 12;simp at c12;clear jk bl b4 b2 ca b6;go_wp2_with fail;refine ad.out.mono ?_;rintro r w2 ⟨rfl,rfl⟩;clear ad a9;obtain⟨I,aa⟩:=ab (L.v 3);rw[aa] at c12;have Y:=eJ aa;obtain⟨m,hm⟩:=ab d.r.rg.length;have cm:m<=6000:=by have:=H.out.ok.rg;have:=H.out.hk;omega
   have a8:w2.ownsRow w0.heap.size 174 3 I m (Bu d.r.rg):=by have:=U.out.own 3 ah;rw[aa] at this;rw[<-hm];exact this
   have b3:=eJ (aK H.out.dk.low.size K.out.size);have bn:=eJ ((jq a8 (below_drewN (au) 1):w2.drew.ownsRow w0.heap.size 174 3 I m (Bu d.r.rg)).alloc (.cells #[.int .i64 s,.int .i64 x1,.int .i64 u] 174));have ch:=eJ (xk (eN.new w2.drew 174 #[.int .i64 s,.int .i64 x1,.int .i64 u]));have be:Hid (m+1<=maxLen/\(m+1)*24<=140737488355328):=eJ (by simp[maxLen];omega);have b7:Hid (w0.heap.size<=(w2.drew.alloc (.cells #[.int .i64 s,.int .i64 x1,.int .i64 u] 174)).heap.size):=eJ (by have:=b3.out;simp;omega);obtain⟨i0,hi,cd,cc,bx⟩:=eR F3;have am:Hid (∀z,(w2.drew.alloc (.cells #[.int .i64 s,.int .i64 x1,.int .i64 u] 174)).grownBy z I.ownBlock->z.cell? ⟨g,12,none⟩=some I/\z.frozen? ⟨g,12,none⟩=false/\eN z g 37 (ic d L)):=eJ (fun z E=>by have Z:eN z g 37 (ic d L):=(U.out.eW.drew.alloc _).grown E (fun e=>U.out.off 3 ah (by rw[Y.out];exact e.symm));have O:=Z.cell 12;simp at O;rw[Y.out] at O;exact⟨O,Z.frozen 12,Z⟩);have a7:(w2.alloc (.cells #[.int .i64 s,.int .i64 x1,.int .i64 u] 174)).cell? ⟨g,12,none⟩=some I:=by have O:=(U.out.eW.alloc (.cells #[.int .i64 s,.int .i64 x1,.int .i64 u] 174)).cell 12;simp at O;rw[Y.out] at O;exact O
   have bm:Hid (∀(z:World)(v8:Value),z.ownsRow w0.heap.size 174 3 v8 (m+1) (Bu d.r.rg++[.int .i64 s,.int .i64 x1,.int .i64 u])->(w2.drew.alloc (.cells #[.int .i64 s,.int .i64 x1,.int .i64 u] 174)).grownBy z I.ownBlock->(v8.ownBlock=I.ownBlock\/∀q,v8.ownBlock=some q->(w2.drew.alloc (.cells #[.int .i64 s,.int .i64 x1,.int .i64 u] 174)).heap.size<=q)->iN w0 w g L (z.setCell ⟨g,12,none⟩ v8) {d with r:={d.r with rg:=d.r.rg++[⟨s,x1,u⟩]}}):=eJ (fun z v8 b5 E bk=>by have a4:Below w2.heap.size w2 (w2.drew.alloc (.cells #[.int .i64 s,.int .i64 x1,.int .i64 u] 174)):=(below_drewN (au) 1).alloc (ar) _;have b8:=U.out.below a4;have Z:eN (z.setCell ⟨g,12,none⟩ v8) g 37 (ic {d with r:={d.r with rg:=d.r.rg++[⟨s,x1,u⟩]}} {L with v:=eV L.v 3 v8}):=(am.out z E).2.2.eS 12 v8;have bt: ∀j,j<6->j≠3->ju {d with r:={d.r with rg:=d.r.rg++[⟨s,x1,u⟩]}} j=ju d j/\iR {d with r:={d.r with rg:=d.r.rg++[⟨s,x1,u⟩]}} j=iR d j:=(fun j cA ck=>by obtain rfl|rfl|rfl|rfl|rfl:j=0\/j=1\/j=2\/j=4\/j=5:=ah;all_goals exact⟨rfl,rfl⟩);refine iN.after K.out (iN.after a4 (b8.row 3 ah v8 (by rw[Y.out];exact E) (by rw[Y.out];exact bk) (eQ (fw _ _) (.inl rfl) _) ?_ Z bt rfl (.inr ⟨ah,rfl⟩)));have ce:Bu (d.r.rg++[(⟨s,x1,u⟩:Rg)])=Bu d.r.rg++[.int .i64 s,.int .i64 x1,.int .i64 u]:=vZ _ _;show z.ownsRow w0.heap.size 174 3 v8 (d.r.rg++[(⟨s,x1,u⟩:Rg)]).length (Bu (d.r.rg++[(⟨s,x1,u⟩:Rg)]));rw[ce,aT,hm];exact b5);have ci:Hid (∀q,I.ownBlock=some q->q≠gk):=eJ (fun q e=>by have h1:=H.out.dk.lo (i:=q) (.inr (.inl ⟨3,ah,by rw[Y.out];exact e⟩));omega);obtain⟨T,bi⟩: ∃T:World->Prop,(fun W=>W.cell? ⟨g,12,none⟩=some I/\W.cell? ⟨gk,0,none⟩=some (.int .i64 s)/\W.cell? ⟨gk,1,none⟩=some (.int .i64 x1)/\W.cell? ⟨gk,2,none⟩=some (.int .i64 u))=T:=⟨_,rfl⟩;have ac:Hid (T=fun W=>W.cell? ⟨g,12,none⟩=some I/\W.cell? ⟨gk,0,none⟩=some (.int .i64 s)/\W.cell? ⟨gk,1,none⟩=some (.int .i64 x1)/\W.cell? ⟨gk,2,none⟩=some (.int .i64 u)):=eJ bi.symm;have ap:Hid (∀W:World,W.heap[gk]? =w2.heap[gk]? ->W.cell? ⟨gk,0,none⟩=some (.int .i64 s)/\W.cell? ⟨gk,1,none⟩=some (.int .i64 x1)/\W.cell? ⟨gk,2,none⟩=some (.int .i64 u)):=eJ (fun W hq=>⟨(bo (a:=⟨gk,0,none⟩) hq).trans a5,(bo (a:=⟨gk,1,none⟩) hq).trans n1,(bo (a:=⟨gk,2,none⟩) hq).trans bj⟩);have bd:Hid (T w2.drew):=eJ (by rw[ac.out];exact⟨c12,ap.out _ rfl⟩);have bw:Hid (T (w2.drew.alloc (.cells #[.int .i64 s,.int .i64 x1,.int .i64 u] 174))):=eJ (by rw[ac.out];exact⟨a7,ap.out _ (bu _ _ _ a3)⟩);have b9:Hid (∀z,(w2.drew.alloc (.cells #[.int .i64 s,.int .i64 x1,.int .i64 u] 174)).grownBy z I.ownBlock->T z):=eJ (fun z E=>by rw[ac.out];exact⟨(am.out z E).1,ap.out _ ((E.block gk ag (fun e=>ci.out gk e.symm rfl)).trans (bu _ _ _ a3))⟩);clear a8 hm aa bi a7;go_wp2_with fail;refine wp_region_noPanic ?_;refine fU (S:=T) (L:=21) ai ?_;clear c12 a5 n1 bj;have a2:=bd.out;try simp only[ba,aP,bh,Nat.reduceAdd]
   refine il (fuel:=6) ai (fun _ _ _ _ h=>h) an [0,1,2,3,4,5,6,7,8,9,10,11,12,13,14,15] ai ?_;iterate 16
    refine⟨_, ?_,rfl,.inl ⟨by rfl, ?_⟩, ?_⟩;rotate_left
    ·(intro w9 a6;rw[ac.out] at a6;obtain⟨cn,cj,cV,ct⟩:=a6;go_simp<;>with_reducible rfl)
    try simp only[Act.put,ax,aE,aD,aB,ay,az]
   unfold ou;clear a2;have a2:=bd.out;refine eK (i:=16) ai rfl (fun J C=> ?_);try simp only[aB,ay,az]
   go_simp;refine C.out _ _ (fun _=>bw.out) ?_;clear C J a2;try simp only[Act.put,ax,aE,aD]
   refine eK (i:=17) ai rfl (fun J C=> ?_);try simp only[aB,ay,az]
   rw[aM (by rfl)];refine fI _ (.tmp 15) (.tmp 26) 32 rfl w0.heap.size 174 i0 _ 3 24 underlying32 hi cd cc bx rfl aj I m (Bu d.r.rg) rfl (by exact bn.out) ⟨w2.heap.size,0,none⟩ 1 1 [.int .i64 s,.int .i64 x1,.int .i64 u] rfl rfl (by exact ch.out) (Fo s x1 u) be.out.1 be.out.2 (by exact b7.out) ?_;intro v8 w8 X E bf;obtain⟨cv,cr,rfl,-⟩:=gK X;have bq:=eJ X;have bv:=eJ E;have cb:=eJ bf;have al:=eJ (b9.out w8 E);have cS:=(am.out w8 E).1;have f11:=(am.out w8 E).2.1;clear X E bf;refine C.out _ _ (fun _=>al.out) ?_;clear C J;try simp only[Act.put,ax,aE,aD]
   refine eK (i:=18) ai rfl (fun J C=> ?_);try simp only[aB,ay,az]
   go_simp;refine C.out _ _ (fun _=>al.out) ?_;clear C J;try simp only[Act.put,ax,aE,aD]
   refine eK (i:=19) ai rfl (fun J C=> ?_);try simp only[aB,ay,az]
   go_simp;refine C.out _ _ (fun _=>al.out) ?_;clear C J;try simp only[Act.put,ax,aE,aD]
   refine eK (i:=20) ai rfl (fun J C=> ?_);try simp only[aB,ay,az]
   go_simp;refine C.out _ _ (fun _=>al.out) ?_;clear C J;try simp only[Act.put,ax,aE,aD]
   refine eK (i:=21) ai rfl (fun J C=> ?_);try simp only[aB,ay,az]
   go_simp;refine C.out _ _ (fun h9=>absurd h9 aj) ?_;clear C J;try simp only[Act.put,ax,aE,aD]
   refine fT ai ?_ _;refine NoPanic.normal ?_;go_wp2_with fail;go_ret;rw[ao.out];exact⟨rfl,bm.out _ _ bq.out bv.out cb.out⟩
end
section
variable {w0 w:World}{g k:Nat}{d:Dk}{L:Ly}{A:Option Addr}{ws:List ByteArray}
theorem BR(h:iu w0 w g d L k A ws)(c:Nat):Calls prog 55 #[.pointer (some ⟨g,0,none⟩),.slice A ws.length c] w (qG w0 w g L (jG d ws)):=by
 have bb:=eJ (h.jb (1) ah ah c);have H:=eJ h;clear h;go_enter func55,ntmps55;go_wp2_with fail;refine bb.out.mono ?_;rintro r w1 ⟨⟨hn,rfl⟩|⟨l,v,hn,rfl,ac⟩,Y⟩;case inl=>have z:=eJ (H.out.bad (x:=jG d ws) (fJ hn) Y);go_wp2_with fail;exact⟨rfl,z.out⟩
 obtain⟨s,gk,cp,rfl,rfl,a9,bk,a6⟩:=Db ac ((fg hn).1 ah);have j:=eJ Y;have Z:=eJ hn;have bj:=eJ ac;clear Y hn ac;cases hd:d.c with
  |none=>have O:=eJ (iz w1 (H.out.jK j.out).err g none true (H.out.noCell j.out hd) rfl);have C:Hid (jG d ws=⟨.error 6,d⟩):=eJ ((eL Z.out).trans (fZ hd));go_wp2_with fail;refine O.out.mono ?_;rintro r w2 ⟨rfl,a7⟩;have z:=eJ (H.out.bad C.out (j.out.trans (a7.mono j.out.size)));go_wp2_with fail;exact⟨rfl,z.out⟩
  |some y=>
   obtain⟨a,b,jk,al,a0,aA,a2,J⟩:=H.out.lx j.out hd;have O:=eJ (jd w1 g _ true jk rfl);have bd:=eJ (H.out.dk.below j.out);obtain⟨X,ad,a5,am,a4,ap⟩:=H.out.ok.im y hd;have hp:=gl.of X;have bm:=hp.n16;have K:Hid (∀W,Below w1.heap.size w1 W->W.cell? ⟨g,10,none⟩=some (.pointer (some ⟨a.g,0,none⟩))/\W.cell? ⟨gk,0,none⟩=some (.int .i64 s)):=eJ (fun W hB=>⟨(hB.cell (p:=⟨g,10,none⟩) bd.out.eW.lt).trans jk,(hB.cell (p:=⟨gk,0,none⟩) a6).trans a9⟩);by_cases T:s<0\/d.p.nd<=s
   ·have C:Hid (jG d ws=⟨.error 2,d⟩):=eJ ((eL Z.out).trans ((fF hd).trans (aM T)));have U:Hid (∀W,Below w1.heap.size w1 W->Calls prog 99 #[.pointer (some ⟨a.g,0,none⟩),.int .i64 s] W fun e w'=>e=.returned (.tuple #[.int .i64 0,.bool false,gv 2])/\Below w1.heap.size w1 w'):=eJ (fun W hB=>by
     have ao:=J.below hB;by_cases h0:s<0
     ·exact(Au ao s h0).mono (fun e w' ⟨h1,h2⟩=>⟨h1,by rw[h2];exact hB⟩)
     ·exact(AO ao s ah ah).mono (fun e w' ⟨h1,h2⟩=>⟨h1,by rw[h2];exact hB⟩))
    clear al a0 aA a2 J X ad a5 am a4 ap hp T;go_wp2_with fail;refine O.out.mono ?_;rintro r w2 ⟨rfl,rfl⟩;go_wp2_with fail;go_region_held3 (fun w'=>w'.cell? ⟨g,10,none⟩=some (.pointer (some ⟨a.g,0,none⟩))/\w'.cell? ⟨gk,0,none⟩=some (.int .i64 s)) (first|exact K.out _ (below_drewN (au) 1)|exact K.out _ E.out) (first|(go_at_call 99;go_must (refine(U.out _ (below_drewN (au) 1)).mono ?_);rintro r w5 ⟨rfl,I⟩;have E:=eJ I;clear I));all_goals have u:=eJ (j.out.trans (E.out.mono j.out.size));have aa:=eJ (gV 2 w5 (H.out.jK u.out).err);have be:gv 2=.iface 61 (.int .i64 2):=rfl;rw[be];go_wp2_with fail;refine aa.out.mono ?_;rintro r w6 ⟨rfl,bf⟩;have z:=eJ (H.out.bad C.out (u.out.trans (bf.mono u.out.size)));go_wp2_with fail;exact⟨rfl,z.out⟩
   ·obtain⟨i,rfl⟩:=aZ (show 0<=s from ah);have C:Hid (jG d ws=⟨.ok (if(y.2.mm i).fz then fR ((y.2.mm i).m:Nat)++⟨#[32,102,114,111,122,101,110]⟩ else fR ((y.2.mm i).m:Nat)),d⟩):=eJ ((eL Z.out).trans ((fF hd).trans (aI T)));obtain⟨M,hM⟩:=ab ((y.2.mm i).m);obtain⟨F,hF⟩:=ab ((y.2.mm i).fz);have bl:M<65536:=by rw[<-hM];exact(ad.mm i).1
    have U:Hid (∀W,Below w1.heap.size w1 W->Calls prog 99 #[.pointer (some ⟨a.g,0,none⟩),.int .i64 (i:Nat)] W fun e w'=>e=.returned (.tuple #[.int .i64 (M:Nat),.bool F,.nilIface])/\Below w1.heap.size w1 w'):=eJ (fun W hB=>by have:=CS (J.below hB) hp i ah;rw[hM,hF] at this;exact this.mono (fun e w' ⟨h1,h2⟩=>⟨h1,hB.trans (h2.mono hB.size)⟩));rw[hM,hF] at C;clear al a0 aA a2 J X ad a5 am a4 ap hp T hM hF;go_wp2_with fail;refine O.out.mono ?_;rintro r w2 ⟨rfl,rfl⟩;go_wp2_with fail;go_region_held3 (fun w'=>w'.cell? ⟨g,10,none⟩=some (.pointer (some ⟨a.g,0,none⟩))/\w'.cell? ⟨gk,0,none⟩=some (.int .i64 (i:Nat))) (first|exact K.out _ (below_drewN (au) 1)|exact K.out _ E.out) (first|(go_at_call 99;go_must (refine(U.out _ (below_drewN (au) 1)).mono ?_);rintro r w5 ⟨rfl,I⟩;have E:=eJ I;clear I));all_goals
     have u:=eJ (j.out.trans (E.out.mono j.out.size));have aa:=eJ (ku w5);have a8:=eJ (jz (M:Nat) w5 (H.out.jK u.out) ah ah);have bi: ¬9223372036854775807<(fR (M:Nat)).size+7:=by have:=lO (M:Nat) ah ah;omega
     cases F;all_goals go_wp2_with fail;refine aa.out.mono ?_;rintro r w6 ⟨rfl,rfl⟩;go_wp2_with fail;refine a8.out.mono ?_;rintro r w7 ⟨rfl,a3⟩;have z:=eJ (H.out.tQ C.out (u.out.trans (a3.mono u.out.size)));clear a3;go_wp2_with fail;go_ret;exact z.out
end
section
variable {w0 w:World}{g k:Nat}{d:Dk}{L:Ly}{A:Option Addr}{ws:List ByteArray}
theorem BH(h:iu w0 w g d L k A ws)(c:Nat):Calls prog 62 #[.pointer (some ⟨g,0,none⟩),.slice A ws.length c] w (qG w0 w g L (kS d ws)):=by
 have b5:=eJ (h.jb (2) ah ah c);have H:=eJ h;clear h;go_enter func62,ntmps62;go_wp2_with fail;refine b5.out.mono ?_;rintro r w1 ⟨⟨hn,rfl⟩|⟨l,v,hn,rfl,ap⟩,Y⟩;case inl=>have u:=eJ (H.out.bad (x:=kS d ws) (fJ hn) Y);go_wp2_with fail;exact⟨rfl,u.out⟩
 obtain⟨j,x1,gk,cp,rfl,rfl,bz,n1,ce,bn⟩:=M7 ap ((fg hn).1 ah);have C:=eJ Y;have bf:=eJ hn;have cd:=eJ ap;clear Y hn ap;cases hd:d.c with
  |none=>have ac:=eJ (iz w1 (H.out.jK C.out).err g none true (H.out.noCell C.out hd) rfl);have K:Hid (kS d ws=⟨.error 6,d⟩):=eJ ((eL bf.out).trans (fZ hd));go_wp2_with fail;refine ac.out.mono ?_;rintro r w2 ⟨rfl,bv⟩;have u:=eJ (H.out.bad K.out (C.out.trans (bv.mono C.out.size)));go_wp2_with fail;exact⟨rfl,u.out⟩
  |some y=>
   obtain⟨a,b,jk,a2,U,a7,Z,X⟩:=H.out.lx C.out hd;have ac:=eJ (jd w1 g _ true jk rfl);have al:=eJ (H.out.dk.below C.out);obtain⟨a8,bl,cb,bm,ca,a4⟩:=H.out.ok.im y hd;have hp:=gl.of a8;have ck:=hp.n16;obtain⟨ch,cs,AL,cl,b9,a6,-,a3,-⟩:=al.out.ua H.out.ok.wn;have b8:g<w1.heap.size:=al.out.eW.lt;have bb:Hid (∀W:World,W.heap[g]? =w1.heap[g]? ->W.heap[gk]? =w1.heap[gk]? ->W.cell? ⟨g,10,none⟩=some (.pointer (some ⟨a.g,0,none⟩))/\W.cell? ⟨gk,0,none⟩=some (.int .i64 j)/\W.cell? ⟨gk,1,none⟩=some (.int .i64 x1)):=eJ (fun(W:World) h1 h2=>⟨(bo (a:=⟨g,10,none⟩) h1).trans jk,(bo (a:=⟨gk,0,none⟩) h2).trans bz,(bo (a:=⟨gk,1,none⟩) h2).trans n1⟩);have be: ¬py (shape a (eO d.p) d.p ⟨L.v 0,L.v 1,.slice none 0 0⟩ y.1 y.2) g:=by rw[<-U];exact H.out.dk.l9
   have bi: ¬py (shape a (eO d.p) d.p ⟨L.v 0,L.v 1,.slice none 0 0⟩ y.1 y.2) gk:=by rw[<-U];intro bq;have:=(H.out.dk.lo (.inr (.inr bq))).2;omega
   have bt:Hid (∀(W:World)(c':Cl),iG w1 b a (eO d.p) d.p ⟨L.v 0,L.v 1,.slice none 0 0⟩ y.1 y.2 W c'->iN w0 w g L W {d with c:=some (y.1,c')}/\W.heap[g]? =w1.heap[g]? /\W.heap[gk]? =w1.heap[gk]? /\gY W):=eJ (fun W c' z=>by have h1:=iN.after C.out (al.out.BK (fy:=y.1) (c:=y.2) hd U a2 a7 Z z);obtain⟨ci,_,_,hk⟩:=z;refine⟨h1,hk.block g b8 be,hk.block gk bn bi, ?_⟩;obtain⟨L2,h2,-⟩:=h1;exact H.out.tR.below H.out.tR.wR h2.low);have bd:Hid (∃(E:Int) (s:ByteArray) (c':Cl),kS d ws=⟨if E=0 then .ok (MG s) else .error E,{d with c:=some (y.1,c')}⟩/\s.size<=1000/\(E=0\/E=2\/E=8)/\∀W:World,(∃n,W=w1.drewN n)->Calls prog 103 #[.pointer (some ⟨a.g,0,none⟩),.int .i64 j,.int .i64 x1] W fun e w'=>e=.returned (.tuple #[.string s,gv E])/\iG w1 b a (eO d.p) d.p ⟨L.v 0,L.v 1,.slice none 0 0⟩ y.1 y.2 w' c'):=eJ (by
    have b3:kS d ws=(if j<0\/d.p.nd<=j\/x1<0 then(⟨.error 2,d⟩:jM) else match d.p.lk[x1.toNat]? with|none=>⟨.error 2,d⟩|some l=>if kZ l.t j.toNat=false then⟨.error 2,d⟩ else match (y.2.pr x1.toNat j.toNat).q with|[]=>⟨.error 8,d⟩|x::_=>⟨.ok (MG x),{d with c:=some (y.1,lJ x1.toNat j.toNat y.2)}⟩):=(eL bf.out).trans (fF hd);have T:{d with c:=some (y.1,y.2)}=d:=by have:d.c=some (y.1,y.2):=hd;cases d;simp only at this;rw[this]
    have bj: ∀n,(j<0\/d.p.nd<=j\/x1<0\/(d.p.lk.length:Int)<=x1)->Calls prog 103 #[.pointer (some ⟨a.g,0,none⟩),.int .i64 j,.int .i64 x1] (w1.drewN n) fun e w'=>e=.returned (.tuple #[.string ⟨#[]⟩,gv 2])/\iG w1 b a (eO d.p) d.p ⟨L.v 0,L.v 1,.slice none 0 0⟩ y.1 y.2 w' y.2:=fun n bx=>by have hB:=below_drewN (Below.refl w1.heap.size w1) n;exact(Et (X.below hB) hp j x1 bx).mono (fun e w' ⟨h1,h2⟩=>⟨h1,by subst h2;exact iG.refl X hB⟩)
    rw[b3];by_cases h0:j<0\/d.p.nd<=j\/x1<0
    ·rw[aM h0];exact⟨2,⟨#[]⟩,y.2,by rw[T];rfl,aj,.inr (.inl rfl),fun W ⟨n,e⟩=>by subst e;exact bj n ah⟩
    rw[aI h0];cases hl:d.p.lk[x1.toNat]? with
     |none=>have:d.p.lk.length<=x1.toNat:=dq.1 hl;exact⟨2,⟨#[]⟩,y.2,by rw[T];rfl,aj,.inr (.inl rfl),fun W ⟨n,e⟩=>by subst e;exact bj n ah⟩
     |some l=>
      obtain⟨i,rfl⟩:=aZ (show 0<=j from ah);obtain⟨O,rfl⟩:=aZ (show 0<=x1 from ah);simp only[bU] at hl⊢;have aa: ∀n,_:=fun n=>Gl (w1.drewN n) AL cl a6 (X.below (below_drewN (Below.refl w1.heap.size w1) n)) hp bl (a3.below (below_drewN (Below.refl w1.heap.size w1) n)) Z O i l hl ah;have am: ∀n w' c',iG (w1.drewN n) b a (eO d.p) d.p ⟨L.v 0,L.v 1,.slice none 0 0⟩ y.1 y.2 w' c'->iG w1 b a (eO d.p) d.p ⟨L.v 0,L.v 1,.slice none 0 0⟩ y.1 y.2 w' c':=fun n w' c' h=>iG.trans (.fC (below_drewN (Below.refl w1.heap.size w1) n)) rfl h;by_cases J:kZ l.t i=false
      ·rw[aM J];refine⟨2,⟨#[]⟩,y.2,by rw[T];rfl,aj,.inr (.inl rfl),fun W ⟨n,e⟩=> ?_⟩;subst e;refine(aa n).mono ?_;rintro e w' (⟨_,he,z⟩|⟨h,_⟩|⟨h,_⟩)
       ·exact⟨he,am n _ _ z⟩
       ·rw[J] at h;cases h
       ·rw[J] at h;cases h
      ·rw[aI J];cases hq:(y.2.pr O i).q with
        |nil=>
         refine⟨8,⟨#[]⟩,y.2,by rw[T];rfl,aj,.inr (.inr rfl),fun W ⟨n,e⟩=> ?_⟩;subst e;refine(aa n).mono ?_;rintro e w' (⟨h,_⟩|⟨_,_,he,z⟩|⟨_,s,q,h,_⟩)
         ·exact absurd h J
         ·exact⟨he,am n _ _ z⟩
         ·rw[hq] at h;cases h
        |cons s q=>
         refine⟨0,s,lJ O i y.2,rfl, ?_,.inl rfl,fun W ⟨n,e⟩=> ?_⟩
         ·have:=a4 O i s (by rw[hq];simp);omega
         ·subst e;refine(aa n).mono ?_;rintro e w' (⟨h,_⟩|⟨_,h,_⟩|⟨_,s2,cj,h,he,z⟩)
          ·exact absurd h J
          ·rw[hq] at h;cases h
          ·rw[hq] at h;cases h;exact⟨he,am n _ _ z⟩)
   obtain⟨E,s,c',a5,hs,b7,a9⟩:=bd.out;have K:=eJ a5;have b2:=eJ a9;clear bd a5 a9 a2 U a7 Z X a8 bl cb bm ca a4 hp b9 a6 a3 be bi;go_wp2_with fail;refine ac.out.mono ?_;rintro r w2 ⟨rfl,rfl⟩;have cc: ¬9223372036854775807<3+s.size:=ah;go_wp2_with fail;go_region_held3 (fun w'=>w'.cell? ⟨g,10,none⟩=some (.pointer (some ⟨a.g,0,none⟩))/\w'.cell? ⟨gk,0,none⟩=some (.int .i64 j)/\w'.cell? ⟨gk,1,none⟩=some (.int .i64 x1)) (first|exact bb.out _ rfl rfl|exact bb.out _ I.out.2.1 I.out.2.2.1) (first|(go_at_call 103;go_must (refine(b2.out _ ⟨1,rfl⟩).mono ?_);rintro r w5 ⟨rfl,bk⟩;have I:=eJ (bt.out w5 c' bk);clear bk));all_goals
    have b4:=eJ (ku w5);have bw:=eJ (gV 2 w5 I.out.2.2.2.err);have b6:=eJ (gV 8 w5 I.out.2.2.2.err);have ao:gv 0=.nilIface:=rfl;have ad:gv 2=.iface 61 (.int .i64 2):=rfl;have aA:gv 8=.iface 61 (.int .i64 8):=rfl;rcases b7 with rfl|rfl|rfl
    ·have u:Hid (qG w0 w g L (kS d ws) (.returned (.string (MG s))) w5):=eJ (by rw[K.out];exact⟨rfl,I.out.1⟩);rw[ao];clear ad aA;go_wp2_with fail;refine b4.out.mono ?_;rintro r w6 ⟨rfl,rfl⟩;go_wp2_with fail;go_ret;exact u.out
    ·rw[ad];clear ao aA;go_wp2_with fail;refine bw.out.mono ?_;rintro r w6 ⟨rfl,a0⟩;have u:Hid (qG w0 w g L (kS d ws) (.panicked (kC 2)) w6):=eJ (by rw[K.out];exact⟨rfl,I.out.1.below a0⟩);go_wp2_with fail;exact⟨rfl,u.out⟩
    ·rw[aA];clear ao ad;go_wp2_with fail;refine b6.out.mono ?_;rintro r w6 ⟨rfl,a0⟩;have u:Hid (qG w0 w g L (kS d ws) (.panicked (kC 8)) w6):=eJ (by rw[K.out];exact⟨rfl,I.out.1.below a0⟩);go_wp2_with fail;exact⟨rfl,u.out⟩
end
section
variable {w0 w:World}{g k:Nat}{d:Dk}{L:Ly}{A:Option Addr}{ws:List ByteArray}
theorem NL(h:iu w0 w g d L k A ws)(c:Nat)(aA:ws.length<=c):Calls prog 59 #[.pointer (some ⟨g,0,none⟩),.slice A ws.length c] w (qG w0 w g L (oG d ws)):=by
 by_cases hw:ws.length=2;case neg=>have H:=eJ h;have T:Hid (oG d ws=⟨.error 3,d⟩):=eJ (aM hw);have cm:=eJ (gV 3 w h.K0.err);obtain⟨q,hq⟩:=ab ws.length;rw[hq] at hw⊢;have d1:((q:Int) !=2)=true:=dP.2 ah;have d2:decide ((q:Int)=2)=false:=aH ah;have d3: ¬(q:Int)=2:=ah;clear h hq aA hw;go_enter func59,ntmps59;go_wp2_with fail;refine cm.out.mono ?_;rintro r w2 ⟨rfl,a4⟩;have C:=eJ (H.out.bad T.out a4);go_wp2_with fail;exact⟨rfl,C.out⟩
 obtain⟨z,s1,rfl⟩:=PZ hw;have bx:=eJ (tD A c [z] 1 w h.K0 (fun j cn=>by
  obtain rfl:j=0:=by simpa using cn
  exact h.at_ 0 ak) ak (fun j=>by match j with|0=>exact h.wz 0|j+1=>exact cT _) ah ah)
 have H:=eJ h;obtain⟨u,K,rfl,Y⟩:=h.at_ 1 ak;have Y:w.cell? ⟨u,K+1,none⟩=some (.string s1):=Y;have b9:u<w.heap.size:=aG _ _ Y;have c3:s1.size<=100000:=h.wz 1;have cx:(1:Int)<=(c:Int):=by simp at aA;omega
 have cV:1<=c:=by simp at aA;omega
 have cS:Hid (∀f:List Int->jM,fH d ([z,s1].take 1) 1 f=fH d [z] 1 f):=eJ (fun f=>rfl);clear h hw aA;go_enter func59,ntmps59;go_wp2_with fail;refine bx.out.mono ?_;rintro r w1 ⟨⟨hn,rfl⟩|⟨l,v,hn,rfl,a8⟩,am⟩;case inl=>have C:=eJ (H.out.bad (x:=oG d [z,s1]) ((aI ak).trans (fJ hn)) am);go_wp2_with fail;exact⟨rfl,C.out⟩
 obtain⟨s,gk,cp,rfl,rfl,bm,c0,cc⟩:=Db a8 ((fg hn).1 ah);have J:=eJ am;have cA:=eJ a8;have bz:=eJ (show∀f:List Int->jM,fH d ([z,s1].take 1) 1 f=f [s] from fun f=>eL hn);have b7:=(am.cell (p:=⟨u,K+1,none⟩) b9).trans Y;clear am hn a8 Y bx;cases hd:d.c with
  |none=>have a7:=eJ (iz w1 (H.out.jK J.out).err g none true (H.out.noCell J.out hd) rfl);have T:Hid (oG d [z,s1]=⟨.error 6,d⟩):=eJ ((aI ak).trans ((bz.out _).trans (fZ hd)));go_wp2_with fail;refine a7.out.mono ?_;rintro r w2 ⟨rfl,a4⟩;have C:=eJ (H.out.bad T.out (J.out.trans (a4.mono J.out.size)));go_wp2_with fail;exact⟨rfl,C.out⟩
  |some y=>
   obtain⟨a,b,jk,bb,U,bi,a6,ad⟩:=H.out.lx J.out hd;have a7:=eJ (jd w1 g _ true jk rfl);have b3:=eJ (H.out.dk.below J.out);obtain⟨bl,b8,cv,cb,co,cd⟩:=H.out.ok.im y hd;have hp:=gl.of bl;have ck:g<w1.heap.size:=b3.out.eW.lt;have ci:u<w1.heap.size:=aN b9 J.out.size;have a5:Hid (∀W:World,W.heap[g]? =w1.heap[g]? ->W.heap[gk]? =w1.heap[gk]? ->W.heap[u]? =w1.heap[u]? ->W.cell? ⟨g,10,none⟩=some (.pointer (some ⟨a.g,0,none⟩))/\W.cell? ⟨gk,0,none⟩=some (.int .i64 s)/\W.cell? ⟨u,K+1,none⟩=some (.string s1)):=eJ (fun W h1 h2 h3=>⟨(bo (a:=⟨g,10,none⟩) h1).trans jk,(bo (a:=⟨gk,0,none⟩) h2).trans bm,(bo (a:=⟨u,K+1,none⟩) h3).trans b7⟩);have bw: ¬py (shape a (eO d.p) d.p ⟨L.v 0,L.v 1,.slice none 0 0⟩ y.1 y.2) g:=by rw[<-U];exact H.out.dk.l9
   have b2: ¬py (shape a (eO d.p) d.p ⟨L.v 0,L.v 1,.slice none 0 0⟩ y.1 y.2) gk:=by rw[<-U];intro a3;have:=(H.out.dk.lo (.inr (.inr a3))).2;omega
   have bv: ¬py (shape a (eO d.p) d.p ⟨L.v 0,L.v 1,.slice none 0 0⟩ y.1 y.2) u:=by rw[<-U];intro a3;exact H.out.ao _ rfl (.inr (.inr a3))
   have bf:Hid (∀(W:World)(c':Cl),iG w1 b a (eO d.p) d.p ⟨L.v 0,L.v 1,.slice none 0 0⟩ y.1 y.2 W c'->iN w0 w g L W {d with c:=some (y.1,c')}/\W.heap[g]? =w1.heap[g]? /\W.heap[gk]? =w1.heap[gk]? /\W.heap[u]? =w1.heap[u]? /\gY W):=eJ (fun W c' aa=>by have h1:=iN.after J.out (b3.out.BK (fy:=y.1) (c:=y.2) hd U bb bi a6 aa);obtain⟨c4,_,_,hk⟩:=aa;refine⟨h1,hk.block g ck bw,hk.block gk cc b2,hk.block u ci bv, ?_⟩;obtain⟨L2,h2,-⟩:=h1;exact H.out.tR.below H.out.tR.wR h2.low);have bt:Hid (∃(E:Int) (c':Cl),oG d [z,s1]=⟨if E=0 then .ok ⟨#[112,117,116]⟩ else .error E,{d with c:=some (y.1,c')}⟩/\(E=0\/E=2\/E=4\/E=12)/\∀W:World,(∃n,W=w1.drewN n)->Calls prog 101 #[.pointer (some ⟨a.g,0,none⟩),.int .i64 s,.string s1] W fun e w'=>e=.returned (gv E)/\iG w1 b a (eO d.p) d.p ⟨L.v 0,L.v 1,.slice none 0 0⟩ y.1 y.2 w' c'):=eJ (by
    have ch:oG d [z,s1]=(if s<0 then(⟨.error 2,d⟩:jM) else match d.p.lk[s.toNat]? with|none=>⟨.error 2,d⟩|some l=>rA (jg s1.size (y.2.sd s.toNat).q.length l.q) ⟨#[112,117,116]⟩ {d with c:=some (y.1,mT s.toNat l s1 y.2)}):=(aI ak).trans ((bz.out _).trans (fF hd));have bj:{d with c:=some (y.1,y.2)}=d:=by have:d.c=some (y.1,y.2):=hd;cases d;simp only at this;rw[this]
    have b4: ∀n,(s<0\/(d.p.lk.length:Int)<=s)->Calls prog 101 #[.pointer (some ⟨a.g,0,none⟩),.int .i64 s,.string s1] (w1.drewN n) fun e w'=>e=.returned (gv 2)/\iG w1 b a (eO d.p) d.p ⟨L.v 0,L.v 1,.slice none 0 0⟩ y.1 y.2 w' y.2:=fun n ce=>by have hB:=below_drewN (Below.refl w1.heap.size w1) n;exact(J5 (ad.below hB) hp s ce s1).mono (fun e w' ⟨h1,h2⟩=>⟨h1,by subst h2;exact iG.refl ad hB⟩)
    rw[ch];by_cases h0:s<0
    ·rw[aM h0];exact⟨2,y.2,by rw[bj];rfl,.inr (.inl rfl),fun W ⟨n,e⟩=>by subst e;exact b4 n ah⟩
    rw[aI h0];cases hl:d.p.lk[s.toNat]? with
     |none=>have:d.p.lk.length<=s.toNat:=dq.1 hl;exact⟨2,y.2,by rw[bj];rfl,.inr (.inl rfl),fun W ⟨n,e⟩=>by subst e;exact b4 n ah⟩
     |some l=>
      obtain⟨a2,rfl⟩:=aZ (show 0<=s from ah);simp only[bU] at hl⊢;refine⟨jg s1.size (y.2.sd a2).q.length l.q,mT a2 l s1 y.2, ?_, ?_,fun W ⟨n,e⟩=> ?_⟩
      ·unfold rA;rfl
      ·unfold jg;split
       ·exact .inr (.inr (.inl rfl))
       ·split
        ·exact .inr (.inr (.inr rfl))
        ·exact .inl rfl
      ·subst e;have hB:=below_drewN (Below.refl w1.heap.size w1) n;refine(HU (w1.drewN n) (ad.below hB) hp b8 a6 a2 l hl s1 (by simp[maxLen];omega)).mono (fun e w' ⟨he,aa⟩=>⟨he,iG.trans (.fC hB) rfl aa⟩))
   obtain⟨E,c',be,ap,bq⟩:=bt.out;have T:=eJ be;have al:=eJ bq;clear bt be bq bb U bi a6 ad bl b8 cv cb co cd hp bw b2 bv;go_wp2_with fail;refine a7.out.mono ?_;rintro r w2 ⟨rfl,rfl⟩;go_wp2_with fail;rcases ap with rfl|ap
   ·have cr:gv 0=.nilIface:=rfl;rw[cr] at al;go_region_held3 (fun w'=>w'.cell? ⟨g,10,none⟩=some (.pointer (some ⟨a.g,0,none⟩))/\w'.cell? ⟨gk,0,none⟩=some (.int .i64 s)/\w'.cell? ⟨u,K+1,none⟩=some (.string s1)) (first|exact a5.out _ rfl rfl rfl|exact a5.out _ O.out.2.1 O.out.2.2.1 O.out.2.2.2.1) (first|(go_at_call 101;go_must (refine(al.out _ ⟨1,rfl⟩).mono ?_);rintro r w5 ⟨rfl,Z⟩;have O:=eJ (bf.out w5 c' Z);clear Z)|(go_at_call 25;go_must (refine(ku _).mono ?_);rintro r w6 ⟨rfl,rfl⟩));all_goals have C:Hid (qG w0 w g L (oG d [z,s1]) (.returned (.string ⟨#[112,117,116]⟩)) w6):=eJ (by rw[T.out];exact⟨rfl,O.out.1⟩);go_wp2_with fail;go_ret;exact C.out
   ·have he:gv E=.iface 61 (.int .i64 E):=by rcases ap with rfl|rfl|rfl<;>rfl
    have bk:E≠0:=ah;have ca:=eJ bk;rw[he] at al;clear he ap bk;obtain⟨X,b6⟩: ∃X:World->Prop,(fun W=>W.cell? ⟨g,10,none⟩=some (.pointer (some ⟨a.g,0,none⟩))/\W.cell? ⟨gk,0,none⟩=some (.int .i64 s)/\W.cell? ⟨u,K+1,none⟩=some (.string s1))=X:=⟨_,rfl⟩;have ac:Hid (X=fun W=>W.cell? ⟨g,10,none⟩=some (.pointer (some ⟨a.g,0,none⟩))/\W.cell? ⟨gk,0,none⟩=some (.int .i64 s)/\W.cell? ⟨u,K+1,none⟩=some (.string s1)):=eJ b6.symm;have cj:Hid (X w2.drew):=eJ (by rw[ac.out];exact a5.out _ rfl rfl rfl);refine fU (S:=X) (L:=10) ai ?_;clear jk bm b7 b6;have ct:=cj.out;try simp only[ba,aP,bh,Nat.reduceAdd]
    refine eY (i:=0) (v:= ?va0) rfl ai ai ai ai (fun _ _ _ h=>h) (Or.inl ⟨by rfl, ?ya0⟩) an ?ra0;case ya0=>(intro w9 _;go_simp<;>with_reducible rfl)
    try simp only[Act.put,ax,aE,aD,aB,ay,az]
    refine eY (i:=1) (v:= ?va1) rfl ai ai ai ai (fun _ _ _ h=>h) (Or.inl ⟨by rfl, ?ya1⟩) an ?ra1;case ya1=>(intro w9 _;go_simp<;>with_reducible rfl)
    try simp only[Act.put,ax,aE,aD,aB,ay,az]
    refine eY (i:=2) (v:= ?va2) rfl ai ai ai ai (fun _ _ _ h=>h) (Or.inl ⟨by rfl, ?ya2⟩) an ?ra2;case ya2=>(intro w9 _;go_simp<;>with_reducible rfl)
    try simp only[Act.put,ax,aE,aD,aB,ay,az]
    refine eP (i:=3) (v:= ?va3) rfl ai ai ai ai (fun _ _ _ h=>h) (Or.inl ⟨by rfl, ?ya3⟩) an ?ra3;case ya3=>(intro w9 I;rw[ac.out] at I;obtain⟨bn,a9,b5⟩:=I;go_simp<;>with_reducible rfl)
    try simp only[Act.put,ax,aE,aD,aB,ay,az]
    refine eY (i:=4) (v:= ?va4) rfl ai ai ai ai (fun _ _ _ h=>h) (Or.inl ⟨by rfl, ?ya4⟩) an ?ra4;case ya4=>(intro w9 _;go_simp<;>with_reducible rfl)
    try simp only[Act.put,ax,aE,aD,aB,ay,az]
    refine eY (i:=5) (v:= ?va5) rfl ai ai ai ai (fun _ _ _ h=>h) (Or.inl ⟨by rfl, ?ya5⟩) an ?ra5;case ya5=>(intro w9 _;go_simp<;>with_reducible rfl)
    try simp only[Act.put,ax,aE,aD,aB,ay,az]
    refine eP (i:=6) (v:= ?va6) rfl ai ai ai ai (fun _ _ _ h=>h) (Or.inl ⟨by rfl, ?ya6⟩) an ?ra6;case ya6=>(intro w9 I;rw[ac.out] at I;obtain⟨bn,a9,b5⟩:=I;go_simp<;>with_reducible rfl)
    try simp only[Act.put,ax,aE,aD,aB,ay,az]
    refine eY (i:=7) (v:= ?va7) rfl ai ai ai ai (fun _ _ _ h=>h) (Or.inl ⟨by rfl, ?ya7⟩) an ?ra7;case ya7=>(intro w9 _;go_simp<;>with_reducible rfl)
    try simp only[Act.put,ax,aE,aD,aB,ay,az]
    refine eY (i:=8) (v:= ?va8) rfl ai ai ai ai (fun _ _ _ h=>h) (Or.inl ⟨by rfl, ?ya8⟩) an ?ra8;case ya8=>(intro w9 _;go_simp<;>with_reducible rfl)
    try simp only[Act.put,ax,aE,aD,aB,ay,az]
    refine eP (i:=9) (v:= ?va9) rfl ai ai ai ai (fun _ _ _ h=>h) (Or.inl ⟨by rfl, ?ya9⟩) an ?ra9;case ya9=>(intro w9 I;rw[ac.out] at I;obtain⟨bn,a9,b5⟩:=I;go_simp<;>with_reducible rfl)
    try simp only[Act.put,ax,aE,aD,aB,ay,az]
    clear ct;refine eK (i:=10) ai rfl (fun bd a0=> ?_);try simp only[aB,ay,az]
    go_simp;refine(al.out _ ⟨1,rfl⟩).mono ?_;rintro r w5 ⟨rfl,Z⟩;have O:=eJ (bf.out w5 c' Z);clear Z;try go_simp
    refine a0.out _ _ (fun h9=>absurd h9 aj) ?_;clear a0 bd;try simp only[Act.put,ax,aE,aD]
    refine eK (i:=11) ai rfl (fun bd a0=> ?_);try simp only[aB,ay,az]
    go_simp;refine(gV E _ O.out.2.2.2.2.err).mono ?_;rintro r w6 ⟨rfl,cu⟩;have C:Hid (qG w0 w g L (oG d [z,s1]) (.panicked (kC E)) w6):=eJ (by rw[T.out,aI ca.out];exact⟨rfl,O.out.1.below cu⟩);exact⟨rfl,C.out⟩
end
section
attribute [local irreducible] gG
section
variable {w0 w:World}{g k:Nat}{d:Dk}{L:Ly}{A:Option Addr}{ws:List ByteArray}
theorem Ha(h:iu w0 w g d L k A ws)(c:Nat):Calls prog 66 #[.pointer (some ⟨g,0,none⟩),.slice A ws.length c] w (qG w0 w g L (js d ws)):=by
 have cd:=eJ (h.jb (-1) ah ah c);have H:=eJ h;clear h;go_enter func66,ntmps66;go_wp2_with fail;refine cd.out.mono ?_;rintro r w1 ⟨⟨hn,rfl⟩|⟨l,v,hn,rfl,bb⟩,bi⟩;case inl=>have O:=eJ (H.out.bad (x:=js d ws) (fJ hn) bi);go_wp2_with fail;exact⟨rfl,O.out⟩
 have bt:=(fg hn).2;obtain⟨gk,cp,rfl,hle,cn,b9,ao⟩:=jf bb ah;match l,bt,hn,bb,hle,ao with
  |z::t,_,hn,bb,hle,ao=>
   have cc:=ao 0 z rfl;have aA:Hid (kY w1 (if cp=1 then some ⟨gk,0,none⟩ else some ⟨gk,1,none⟩) t):=eJ (fun j a9=>by rw[aI (by rw[aP] at hle;omega)];refine⟨gk,1,rfl, ?_⟩;have:=ao (j+1) (t.getD j 0) (by rw[cf,aF a9,aL,aF a9];rfl);rw[dO 1 j];exact this);have bl:t.length<=50000:=by have h1:=kT hn;have h2:=H.out.wl;rw[aP] at h1;omega
   have I:=eJ bi;have b4:=eJ hn;obtain⟨q,hq⟩:=ab t.length;have b5:(z::t).length=q+1:=by simp[hq]
   rw[b5] at hle⊢;clear bi hn bb ao b5 bt;have b1:(1:Int)<=((q+1:Nat):Int):=ah;have b2:((q+1:Nat):Int)<=(cp:Int):=ah;have ci:(1:Int)<=(q:Int)+1:=ah;have cm:(q:Int)+1<=(cp:Int):=ah;have ck:1<=q+1:=ah;cases hd:d.c with
    |some y=>obtain⟨a,b,jk,-⟩:=H.out.lx I.out hd;have a2:=eJ (iz w1 (H.out.jK I.out).err g _ false jk rfl);have X:Hid (js d ws=⟨.error 6,d⟩):=eJ ((eL b4.out).trans (ma hd));clear jk;go_wp2_with fail;refine a2.out.mono ?_;rintro r w2 ⟨rfl,cb⟩;have O:=eJ (H.out.bad X.out (I.out.trans (cb.mono I.out.size)));go_wp2_with fail;exact⟨rfl,O.out⟩
    |none=>
     have a2:=eJ (jd w1 g none false (H.out.noCell I.out hd) rfl);have u:=eJ (H.out.dk.below I.out);obtain⟨K,cs,AL,cl,a4,ap,s2,aa,bn⟩:=u.out.ua H.out.ok.wn;have ac:iV w1 none d.p.wn.length d.p.wn:=by rw[H.out.ok.wn];exact fun j a9=>by simp at a9
     have ad:d.p.wn.length=0:=by rw[H.out.ok.wn];rfl
     have c0:=u.out.eW.cell 0;have f0:=u.out.eW.frozen 0;have c1:=u.out.eW.cell 1;have f1:=u.out.eW.frozen 1;have c2:=u.out.eW.cell 2;have f2:=u.out.eW.frozen 2;have c3:=u.out.eW.cell 3;have f3:=u.out.eW.frozen 3;have c4:=u.out.eW.cell 4;have f4:=u.out.eW.frozen 4;have c5:=u.out.eW.cell 5;have f5:=u.out.eW.frozen 5;have be:=u.out.eW.cell 6;have f6:=u.out.eW.frozen 6;have bj:=u.out.eW.cell 7;have f7:=u.out.eW.frozen 7;have b3:=u.out.eW.cell 8;have f8:=u.out.eW.frozen 8;have c9:=u.out.eW.cell 9;have f9:=u.out.eW.frozen 9;have jk:=u.out.eW.cell 10;have f10:=u.out.eW.frozen 10;simp at c0 c1 c2 c3 c4 c5 be bj b3 c9 jk;rw[a4] at be;rw[ap] at bj;have C:g<w1.heap.size:=u.out.eW.lt;have al:Hid (∀s,Below w1.heap.size w1 s->s.cell? ⟨g,0,none⟩=some (.int .i64 d.p.nd)/\s.cell? ⟨g,1,none⟩=some (.int .i64 d.p.fa)/\s.cell? ⟨g,2,none⟩=some (.int .i64 d.p.sk)/\s.cell? ⟨g,3,none⟩=some (.int .i64 d.p.ji)/\s.cell? ⟨g,4,none⟩=some (.int .i64 d.p.dr)/\s.cell? ⟨g,5,none⟩=some (.int .i64 d.p.rd)/\s.cell? ⟨g,6,none⟩=some (.slice K d.p.sl.length cs)/\s.cell? ⟨g,7,none⟩=some (.slice AL d.p.lk.length cl)/\s.cell? ⟨g,8,none⟩=some (.int .i64 d.p.fr)/\s.cell? ⟨g,9,none⟩=some (.slice none 0 0)/\s.cell? ⟨gk,0,none⟩=some (.int .i64 z)):=eJ (fun s hB=>⟨(hB.cell (p:=⟨g,0,none⟩) C).trans c0,(hB.cell (p:=⟨g,1,none⟩) C).trans c1,(hB.cell (p:=⟨g,2,none⟩) C).trans c2,(hB.cell (p:=⟨g,3,none⟩) C).trans c3,(hB.cell (p:=⟨g,4,none⟩) C).trans c4,(hB.cell (p:=⟨g,5,none⟩) C).trans c5,(hB.cell (p:=⟨g,6,none⟩) C).trans be,(hB.cell (p:=⟨g,7,none⟩) C).trans bj,(hB.cell (p:=⟨g,8,none⟩) C).trans b3,(hB.cell (p:=⟨g,9,none⟩) C).trans c9,(hB.cell (p:=⟨gk,0,none⟩) b9).trans cc⟩);have Y:Hid (js d ws=if pt d.p z t=0 then⟨.ok ⟨#[115,116,97,114,116]⟩,{d with c:=some (z.toNat,gG d.p t)}⟩ else⟨.error (pt d.p z t),d⟩):=eJ ((eL b4.out).trans (jI hd));have ce:=f10;by_cases J:iO d.p=(0,-1);case neg=>
      obtain⟨bd,bw⟩:=Bk (f0:=z) (zs:=t) J;have X:Hid (js d ws=⟨.error (iO d.p).1,d⟩):=eJ (by rw[Y.out,bd,aI bw]);have am:Hid (∀B cz W,Below w1.heap.size w1 W->Calls prog 107 #[.agg (fb d.p.nd d.p.fa d.p.sk d.p.ji d.p.dr d.p.rd (.slice K d.p.sl.length cs) (.slice AL d.p.lk.length cl) d.p.fr (.slice none 0 0)),.int .i64 z,.slice B q cz] W fun e w'=> ∃v,e=.returned (.tuple #[.pointer none,v])/\Cr w' v (iO d.p).1 (iO d.p).2/\Below w1.heap.size w1 w'):=eJ (fun B cz W hB=>by
       have:=MO d.p K cs AL cl none 0 z B q cz W J (s2.below hB) (aa.below hB) (ac.below hB);rw[ad] at this;refine this.mono ?_;rintro e w' ⟨v,he,a6|⟨_,a6⟩,a8⟩
       ·exact absurd a6.1 (fun e=>J (Prod.ext e a6.2.1))
       ·exact⟨v,he,a6,hB.trans (a8.mono hB.size)⟩)
      clear aA J bd bw s2 aa bn ac ad a4 ap Y f0 f1 f2 f3 f4 f5 f6 f7 f8 f9 f10 jk hq bl;go_wp2_with fail;refine a2.out.mono ?_;rintro r w2 ⟨rfl,rfl⟩;by_cases a7:cp=1;all_goals go_wp2_with fail;go_region_held3 (fun s=>s.cell? ⟨g,0,none⟩=some (.int .i64 d.p.nd)/\s.cell? ⟨g,1,none⟩=some (.int .i64 d.p.fa)/\s.cell? ⟨g,2,none⟩=some (.int .i64 d.p.sk)/\s.cell? ⟨g,3,none⟩=some (.int .i64 d.p.ji)/\s.cell? ⟨g,4,none⟩=some (.int .i64 d.p.dr)/\s.cell? ⟨g,5,none⟩=some (.int .i64 d.p.rd)/\s.cell? ⟨g,6,none⟩=some (.slice K d.p.sl.length cs)/\s.cell? ⟨g,7,none⟩=some (.slice AL d.p.lk.length cl)/\s.cell? ⟨g,8,none⟩=some (.int .i64 d.p.fr)/\s.cell? ⟨g,9,none⟩=some (.slice none 0 0)/\s.cell? ⟨gk,0,none⟩=some (.int .i64 z)) (first|exact al.out _ (below_drewN (au) 1)|exact al.out _ T.out) (first|(go_at_call 107;go_must (refine(am.out _ _ _ (below_drewN (au) 1)).mono ?_);rintro r w5 ⟨v5,rfl,bx,U⟩;have T:=eJ U;have bv:=eJ bx;clear U bx));all_goals have Z:=eJ (I.out.trans (T.out.mono I.out.size));have a3:=eJ (Ak bv.out (H.out.jK Z.out).err);obtain⟨co,cj,rfl⟩:=bv.out.iface;go_wp2_with fail;refine a3.out.mono ?_;rintro r w6 ⟨rfl,bm⟩;have O:=eJ (H.out.bad X.out (Z.out.trans (bm.mono Z.out.size)));go_wp2_with fail;exact⟨rfl,O.out⟩
     have a0:=Ed (f0:=z) (zs:=t) J;obtain⟨E,bk⟩:=ab (pt d.p z t);rw[bk] at a0 Y;by_cases he:E=0;case neg=>
      have X:Hid (js d ws=⟨.error E,d⟩):=eJ (by rw[Y.out,aI he]);have b7:gv E=.iface 61 (.int .i64 E):=by unfold gv;rw[aI he]
      have am:Hid (∀W,Below w1.heap.size w1 W->Calls prog 107 #[.agg (fb d.p.nd d.p.fa d.p.sk d.p.ji d.p.dr d.p.rd (.slice K d.p.sl.length cs) (.slice AL d.p.lk.length cl) d.p.fr (.slice none 0 0)),.int .i64 z,.slice (if cp=1 then some ⟨gk,0,none⟩ else some ⟨gk,1,none⟩) q (cp-1)] W fun e w'=>e=.returned (.tuple #[.pointer none,.iface 61 (.int .i64 E)])/\Below w1.heap.size w1 w'):=eJ (fun W hB=>by have:=KI d.p K cs AL cl none 0 z (if cp=1 then some ⟨gk,0,none⟩ else some ⟨gk,1,none⟩) q (cp-1) W J (s2.below hB) (aa.below hB) (ac.below hB) t hq (aA.out.below (ar) hB) ah ah E a0 he;rw[ad,b7] at this;exact this.mono (fun e w' ⟨h1,h2⟩=>⟨h1,hB.trans (h2.mono hB.size)⟩));clear aA J s2 aa bn ac ad a4 ap Y f0 f1 f2 f3 f4 f5 f6 f7 f8 f9 f10 jk hq bl bk a0 he b7;go_wp2_with fail;refine a2.out.mono ?_;rintro r w2 ⟨rfl,rfl⟩;by_cases a7:cp=1;all_goals simp only[a7,eF,if_false] at am;go_wp2_with fail;go_region_held3 (fun s=>s.cell? ⟨g,0,none⟩=some (.int .i64 d.p.nd)/\s.cell? ⟨g,1,none⟩=some (.int .i64 d.p.fa)/\s.cell? ⟨g,2,none⟩=some (.int .i64 d.p.sk)/\s.cell? ⟨g,3,none⟩=some (.int .i64 d.p.ji)/\s.cell? ⟨g,4,none⟩=some (.int .i64 d.p.dr)/\s.cell? ⟨g,5,none⟩=some (.int .i64 d.p.rd)/\s.cell? ⟨g,6,none⟩=some (.slice K d.p.sl.length cs)/\s.cell? ⟨g,7,none⟩=some (.slice AL d.p.lk.length cl)/\s.cell? ⟨g,8,none⟩=some (.int .i64 d.p.fr)/\s.cell? ⟨g,9,none⟩=some (.slice none 0 0)/\s.cell? ⟨gk,0,none⟩=some (.int .i64 z)) (first|exact al.out _ (below_drewN (au) 1)|exact al.out _ T.out) (first|(go_at_call 107;go_must (refine(am.out _ (below_drewN (au) 1)).mono ?_);rintro r w5 ⟨rfl,U⟩;have T:=eJ U;clear U));all_goals have Z:=eJ (I.out.trans (T.out.mono I.out.size));have a3:=eJ (gV E w5 (H.out.jK Z.out).err);go_wp2_with fail;refine a3.out.mono ?_;rintro r w6 ⟨rfl,bm⟩;have O:=eJ (H.out.bad X.out (Z.out.trans (bm.mono Z.out.size)));go_wp2_with fail;exact⟨rfl,O.out⟩
     subst he;obtain⟨⟨fy,rfl,bq,b8⟩,hlen,bf⟩:=a0.fe;have hp:=gl.of J;have bd:=hp.n1;have a7:cp≠1:=ah;have X:Hid (js d ws=⟨.ok ⟨#[115,116,97,114,116]⟩,{d with c:=some (fy,gG d.p t)}⟩):=eJ (by rw[Y.out,aM rfl];rfl);have am:Hid (∀W,Below w1.heap.size w1 W->Calls prog 107 #[.agg (fb d.p.nd d.p.fa d.p.sk d.p.ji d.p.dr d.p.rd (.slice K d.p.sl.length cs) (.slice AL d.p.lk.length cl) d.p.fr (.slice none 0 0)),.int .i64 (fy:Nat),.slice (some ⟨gk,1,none⟩) q (cp-1)] W fun e w'=> ∃a:Ad,e=.returned (.tuple #[.pointer (some ⟨a.g,0,none⟩),.nilIface])/\Below w1.heap.size w1 w'/\iN w0 w g L (w'.setCell ⟨g,10,none⟩ (fk a.g)) {d with c:=some (fy,gG d.p t)}):=eJ (fun W hB=>by have hi:=aA.out.below (ar) hB;rw[aI a7] at hi;have:=MF W d.p K cs AL cl none 0 J (s2.below hB) (aa.below hB) (ac.below hB) fy bq b8 gk 1 (cp-1) t hi ah hlen (AY bf.1) bf.2;rw[ad,<-hlen,hq] at this;refine this.mono ?_;rintro e w' ⟨a,he,a8,bz⟩;refine⟨a,he,hB.trans (a8.mono hB.size), ?_⟩;rw[<-a4,<-ap] at bz;exact iN.after I.out (u.out.start hd (hB.trans (a8.mono hB.size)) hB.size bz));have ca:Hid (∀W,Below w1.heap.size w1 W->W.cell? ⟨g,10,none⟩=some L.cv/\W.frozen? ⟨g,10,none⟩=false):=eJ (fun W hB=>⟨(hB.cell (p:=⟨g,10,none⟩) C).trans jk,(hB.frozen (p:=⟨g,10,none⟩) C).trans f10⟩);clear aA J s2 aa bn ac ad a4 ap Y f0 f1 f2 f3 f4 f5 f6 f7 f8 f9 f10 ce jk hq bl bk a0 b8 bq hlen bf hp bd;go_wp2_with fail;refine a2.out.mono ?_;rintro r w2 ⟨rfl,rfl⟩;go_wp2_with fail;go_region_held3 (fun s=>s.cell? ⟨g,0,none⟩=some (.int .i64 d.p.nd)/\s.cell? ⟨g,1,none⟩=some (.int .i64 d.p.fa)/\s.cell? ⟨g,2,none⟩=some (.int .i64 d.p.sk)/\s.cell? ⟨g,3,none⟩=some (.int .i64 d.p.ji)/\s.cell? ⟨g,4,none⟩=some (.int .i64 d.p.dr)/\s.cell? ⟨g,5,none⟩=some (.int .i64 d.p.rd)/\s.cell? ⟨g,6,none⟩=some (.slice K d.p.sl.length cs)/\s.cell? ⟨g,7,none⟩=some (.slice AL d.p.lk.length cl)/\s.cell? ⟨g,8,none⟩=some (.int .i64 d.p.fr)/\s.cell? ⟨g,9,none⟩=some (.slice none 0 0)/\s.cell? ⟨gk,0,none⟩=some (.int .i64 (fy:Nat))) (first|exact al.out _ (below_drewN (au) 1)|exact al.out _ T.out) (first|(go_at_call 107;go_must (refine(am.out _ (below_drewN (au) 1)).mono ?_);rintro r w5 ⟨a5,rfl,U,b6⟩;have T:=eJ U;have ch:=eJ b6;clear U b6));all_goals have a3:=eJ (ku w5);obtain⟨g10,cr⟩:=ca.out w5 T.out;have O:Hid (qG w0 w g L (js d ws) (.returned (.string ⟨#[115,116,97,114,116]⟩)) (w5.setCell ⟨g,10,none⟩ (fk a5.g))):=eJ (by rw[X.out];exact⟨rfl,ch.out⟩);go_wp2_with fail;refine a3.out.mono ?_;rintro r w6 ⟨rfl,rfl⟩;go_wp2_with fail;go_ret;exact O.out
end
end
def PV(g:Nat)(v:Value)(f:Dk->List ByteArray->jM):Prop:= ∃fn,v=.func (.func fn) #[.pointer (some ⟨g,0,none⟩)] #[]/\(∀args w,(callFunc fn args).run prog w=.ok (.enter fn args) w)/\∀(w0 w:World)(d:Dk)(L:Ly)(k:Nat)(A:Option Addr)(ws:List ByteArray)(c:Nat),iu w0 w g d L k A ws->ws.length<=c->Calls prog fn #[.pointer (some ⟨g,0,none⟩),.slice A ws.length c] w (qG w0 w g L (f d ws))
theorem Ez(g:Nat):Iu (PV g) (jJ g) Ct:=by unfold jJ Ct;refine⟨⟨rfl,_,rfl,enters_of func47 ai rfl,fun w0 w d L k A ws c h _=>JX h c⟩, ?_⟩;refine⟨⟨rfl,_,rfl,enters_of func48 ai rfl,fun w0 w d L k A ws c h _=>Hy h c⟩, ?_⟩;refine⟨⟨rfl,_,rfl,enters_of func49 ai rfl,fun w0 w d L k A ws c h _=>El h c⟩, ?_⟩;refine⟨⟨rfl,_,rfl,enters_of func50 ai rfl,fun w0 w d L k A ws c h _=>G5 h c⟩, ?_⟩;refine⟨⟨rfl,_,rfl,enters_of func51 ai rfl,fun w0 w d L k A ws c h _=>KH h c⟩, ?_⟩;refine⟨⟨rfl,_,rfl,enters_of func52 ai rfl,fun w0 w d L k A ws c h _=>Kw h c⟩, ?_⟩;refine⟨⟨rfl,_,rfl,enters_of func53 ai rfl,fun w0 w d L k A ws c h _=>J9 h c⟩, ?_⟩;refine⟨⟨rfl,_,rfl,enters_of func54 ai rfl,fun w0 w d L k A ws c h _=>MI h c⟩, ?_⟩;refine⟨⟨rfl,_,rfl,enters_of func55 ai rfl,fun w0 w d L k A ws c h _=>BR h c⟩, ?_⟩;refine⟨⟨rfl,_,rfl,enters_of func56 ai rfl,fun w0 w d L k A ws c h _=>Aq h c⟩, ?_⟩;refine⟨⟨rfl,_,rfl,enters_of func57 ai rfl,fun w0 w d L k A ws c h _=>Kq h c⟩, ?_⟩;refine⟨⟨rfl,_,rfl,enters_of func58 ai rfl,fun w0 w d L k A ws c h _=>Hg h c⟩, ?_⟩;refine⟨⟨rfl,_,rfl,enters_of func59 ai rfl,fun w0 w d L k A ws c h e=>NL h c e⟩, ?_⟩;refine⟨⟨rfl,_,rfl,enters_of func60 ai rfl,fun w0 w d L k A ws c h _=>KB h c⟩, ?_⟩;refine⟨⟨rfl,_,rfl,enters_of func61 ai rfl,fun w0 w d L k A ws c h _=>L4 h c⟩, ?_⟩;refine⟨⟨rfl,_,rfl,enters_of func62 ai rfl,fun w0 w d L k A ws c h _=>BH h c⟩, ?_⟩;refine⟨⟨rfl,_,rfl,enters_of func63 ai rfl,fun w0 w d L k A ws c h _=>Eo h c⟩, ?_⟩;refine⟨⟨rfl,_,rfl,enters_of func64 ai rfl,fun w0 w d L k A ws c h _=>KQ h c⟩, ?_⟩;refine⟨⟨rfl,_,rfl,enters_of func65 ai rfl,fun w0 w d L k A ws c h _=>EX h c⟩, ?_⟩;exact⟨⟨rfl,_,rfl,enters_of func66 ai rfl,fun w0 w d L k A ws c h _=>Ha h c⟩,trivial⟩
theorem Mx(g:Nat)(s:ByteArray):(s5 s=none/\xV g s=.nilFunc)\/∃f,s5 s=some f/\PV g (xV g s) f:=by
 rcases xC (s:=s) (Ez g) with ⟨h1,h2⟩|⟨x,y,h1,h2,h3⟩
 ·exact .inl ⟨h2,by rw[xA,h1];rfl⟩
 ·exact .inr ⟨y,h2,by rw[xA,h1];exact h3⟩
def nL(e:Int):Prop:=0<=e/\e<=100
theorem ir{c:Prop}[Decidable c]{a b:Int}(h:nL a)(e:nL b):nL (if c then a else b):=by split<;>assumption
theorem D1:nL 0:=by unfold nL;omega
theorem Of:nL 1:=by unfold nL;omega
theorem BP:nL 2:=by unfold nL;omega
theorem Qc:nL 4:=by unfold nL;omega
theorem QD:nL 6:=by unfold nL;omega
theorem P9:nL 7:=by unfold nL;omega
theorem Qv:nL 10:=by unfold nL;omega
theorem QU:nL 12:=by unfold nL;omega
theorem Q0:nL 13:=by unfold nL;omega
theorem qu: ∀{l:List Int}{k:Nat},(∀x∈l,nL x)->nL (fS l k).1
 |[],_,_=>D1
 |x::l,k,h=>by
  unfold fS;split
  ·exact qu (fun y e=>h y (by simp[e]))
  ·exact h x ak
theorem I3(f t lo hi:Int):nL (pc f t lo hi):=ir Of (ir Qv (ir BP D1))
theorem Dc(sk rd nd:Int): ∀(l:List Sl)(lo:Int),∀x∈oM sk rd nd lo l,nL x
 |[],_,x,h=>by simp[oM] at h
 |s::l,lo,x,h=>by
  unfold oM at h;rcases bR.1 h with rfl|h
  ·exact ir (I3 _ _ _ _) (ir P9 D1)
  ·exact Dc sk rd nd l _ x h
theorem D6(fr:Int): ∀(l:List Wn)(lo:Int),∀x∈kX fr lo l,nL x
 |[],_,x,h=>by simp[kX] at h
 |s::l,lo,x,h=>by
  unfold kX at h;rcases bR.1 h with rfl|h
  ·exact ir (I3 _ _ _ _) (ir P9 D1)
  ·exact D6 fr l _ x h
theorem Ib(p:Pl):nL (iO p).1:=by
 have h:nL (iK p):=ir Of (ir BP (ir Qc (ir Q0 D1)));have h1:=qu (k:=0) (Dc p.sk p.rd p.nd p.sl 0);have h2:nL (fS (p.lk.map (sH p.nd)) 0).1:=qu (fun x e=>by obtain⟨l,_,rfl⟩:=cX.1 e;exact ir P9 (ir Of (ir BP D1)));have h3:=qu (k:=0) (D6 p.fr p.wn 0);unfold iO;split
 ·exact h
 ·split
  ·exact h1
  ·split
   ·exact h2
   ·split
    ·exact h3
    ·exact D1
theorem Lq(p:Pl)(f0:Int)(zs:List Int):nL (pt p f0 zs):=by
 by_cases h:iO p=(0,-1)
 ·rcases Ed (f0:=f0) (zs:=zs) h with ⟨_,e⟩|⟨_,_,e⟩|⟨_,_,_,e⟩|⟨_,_,_,e⟩<;>rw[e]
  ·exact Of
  ·exact P9
  ·exact BP
  ·exact D1
 ·rw[(Bk h).1];exact Ib p
theorem Mf(l:List Int)(f:Int):nL (lL l f):=ir Of (ir BP D1)
theorem E4(f s n d t:Int):nL (gy f s n d t):=ir Of (ir BP (ir BP D1))
theorem Ja(f s n d t:Int):nL (iD f s n d t):=ir Of (ir BP (ir D1 (ir BP D1)))
theorem JT(p:Pl)(fy:Nat)(r:Rn)(c:Cl):nL (kQ p fy r c):=ir QD D1
theorem LM(n q:Nat)(u:Int):nL (jg n q u):=ir Qc (ir QU D1)
def Gx(x:jM):Prop:= ∀e,x.o=.error e->nL e
section
variable {d:Dk}{w:List ByteArray}
theorem kP{o:ByteArray}{d':Dk}:Gx ⟨.ok o,d'⟩:=fun e h=>by cases h
theorem kB{e:Int}{d':Dk}(h:nL e):Gx ⟨.error e,d'⟩:=fun s j=>by cases j;exact h
theorem oH{c:Prop}[Decidable c]{a b:jM}(h:Gx a)(e:Gx b):Gx (if c then a else b):=by split<;>assumption
theorem uV{e:Int}{o:ByteArray}{d':Dk}(h:nL e):Gx (rA e o d'):=by
 unfold rA;intro s j;dsimp only at j;split at j
 ·cases j
 ·cases j;exact h
theorem Q5:nL 3:=by unfold nL;omega
theorem Rj:nL 8:=by unfold nL;omega
theorem gQ{n:Int}{f:List Int->jM}(h: ∀l,Gx (f l)):Gx (fH d w n f):=by
 unfold fH;split
 ·exact kB Q5
 ·exact h _
theorem yI{x:jM}(h:Gx x):Gx (DH d x):=by
 unfold DH;split
 ·exact h
 ·exact kB QD
theorem lZ{x:Nat->Cl->jM}(h: ∀fy c,Gx (x fy c)):Gx (nc d x):=by
 unfold nc;split
 ·exact kB QD
 ·exact h _ _
theorem yQ{s:ByteArray}{f:Dk->List ByteArray->jM}(h:s5 s=some f):Gx (f d w):=by
 obtain⟨x,e,-,rfl⟩:=lS h;unfold Ct at e;simp only[bR,cC,ec] at e;rcases e with rfl|rfl|rfl|rfl|rfl|rfl|rfl|rfl|rfl|rfl|rfl|rfl|rfl|rfl|rfl|rfl|rfl|rfl|rfl|rfl
 ·exact gQ fun _=>uV (Ib _)
 ·exact gQ fun _=>kP
 ·exact gQ fun _=>lZ fun _ _=>kP
 ·exact gQ fun _=>lZ fun _ _=>kP
 ·exact gQ fun _=>kP
 ·exact gQ fun _=>yI (oH (kB Qc) kP)
 ·exact gQ fun _=>uV (E4 _ _ _ _ _)
 ·exact gQ fun _=>lZ fun _ _=>kP
 ·exact gQ fun _=>lZ fun _ _=>oH (kB BP) kP
 ·exact gQ fun _=>uV (Mf _ _)
 ·exact gQ fun _=>lZ fun _ _=>kP
 ·exact gQ fun _=>yI kP
 ·refine oH (kB Q5) (gQ fun _=>lZ fun _ _=>oH (kB BP) ?_);split
  ·exact kB BP
  ·exact uV (LM _ _ _)
 ·exact gQ fun _=>lZ fun _ _=>kP
 ·exact gQ fun _=>uV (Ja _ _ _ _ _)
 ·refine gQ fun _=>lZ fun _ _=>oH (kB BP) ?_;split
  ·exact kB BP
  ·refine oH (kB BP) ?_;split
   ·exact kB Rj
   ·exact kP
 ·exact gQ fun _=>lZ fun _ _=>oH kP (kB (JT _ _ _ _))
 ·exact gQ fun _=>yI (oH (kB Qc) kP)
 ·exact gQ fun _=>lZ fun _ _=>kP
 ·exact gQ fun _=>yI (oH kP (kB (Lq _ _ _)))
end
section
variable {w0 w:World}{g k:Nat}{d:Dk}{L:Ly}
theorem iN.iI{w3 w4:World}{h:Nat}{d':Dk}(K:nI w0 w3 g d L)(hw:w0.heap.size<=w.heap.size)(hB:Below w.heap.size w w3)(J:w.heap.size<=h)(E:h<w3.heap.size)(hn: ¬nO g L h)(I:iN w0 w3 g L w4 d')(v:Value):iN w0 w g L (w4.setCell ⟨h,0,none⟩ v) d'/\w4.heap[h]? =w3.heap[h]? :=by
 obtain⟨L',h1,h2⟩:=I;have C: ¬nO g L' h:=fun s=>(h2.gJ h s).elim hn (fun e=>ah);have j:ko w w4 g L L':=(ko.fC hB).trans h2;have hs: ∀i,i≠h->(w4.setCell ⟨h,0,none⟩ v).heap[i]? =w4.heap[i]? :=fun i hi=>aW w4 _ v i hi;have hk:ko w (w4.setCell ⟨h,0,none⟩ v) g L L':=⟨j.os,j.tape,j.output,by simpa[World.setCell] using j.size,fun i hi s=>(hs i ah).trans (j.block i hi s),j.gJ⟩;have u:(w4.setCell ⟨h,0,none⟩ v).heap.size=w4.heap.size:=by simp[World.setCell]
 have z:Below w0.heap.size w0 (w4.setCell ⟨h,0,none⟩ v):=⟨h1.low.os,h1.low.tape,h1.low.output,by rw[u];exact h1.low.size,fun i hi=>(hs i (fun e=>ah)).trans (h1.low.block i hi)⟩;exact⟨⟨L',h1.same (by rw[u];exact ar) z (fun i _ s=>hs i (fun e=>C (by rw[<-e];exact s))),hk⟩,h2.block h E hn⟩
theorem Ir(bt:gY w0)(ca:nI w0 w g d L)(bn:gC k d)(hk:k<=6000)(s:ByteArray)(hs:s.size<=40000):Calls prog 11 #[.pointer (some ⟨g,0,none⟩),.string s] w fun e w'=>e=.returned (.string (fh d s).1)/\iN w0 w g L w' (fh d s).2:=by
 obtain⟨w1,aA⟩:=ab (w.alloc (.cells #[.string ⟨#[]⟩] 9));have b7:Below w.heap.size w w1:=by rw[<-aA];exact(au).alloc (ar) _
 have bv:eN w1 w.heap.size 9 #[.string ⟨#[]⟩]:=by rw[<-aA];exact eN.new w _ _
 have cm:=eJ aA;have a4:=eJ b7;have b9:=eJ bv;have O:=eJ ca;have cx:=eJ bn;have aa:=eJ bt;have cn:=eJ hk;have a5:=eJ (Gs s w1 ah);have bq:=eJ (xI s);have bz:=eJ (rf s);have Z:Hid (kG s=mz s):=eJ rfl;generalize mz s=ws at a5 bq bz Z;have c3: ∀(fn:Fn)(first cap:Array Value)(w:World),(Instr.makeFunc fn first cap).run prog w=.ok (.func fn first cap) w:=fun _ _ _ _=>rfl;clear aA b7 bv ca bn bt hk;go_enter_defers func11,ntmps11;go_wp2_with fail;rw[cm.out];refine a5.out.mono ?_;rintro r w2 ⟨u,rfl,c5,bw,a3⟩;have a7:=eJ (a4.out.trans (a3.mono a4.out.size));have ap:=eJ (b9.out.below a3 b9.out.lt);have a6:=eJ bw;have cc:=ap.out.cells1;clear a3 bw a5;cases ws with
  |nil=>have I:Hid (fh d s=(⟨#[111,107]⟩,d)):=eJ (by unfold fh;rw[Z.out]);have b6:=ap.out.eS 0 (.string ⟨#[111,107]⟩);have h:=b6.cell 0;simp at h;have a8:Hid (iN w0 w g L (w2.setCell ⟨w.heap.size,0,none⟩ (.string ⟨#[111,107]⟩)) d):=eJ (O.out.to (a7.out.setCell (ar) _));clear b6;go_wp2_with fail;refine leaves_cons (f:=20) (args:= #[.pointer (some ⟨w.heap.size,0,none⟩)]) ak (by simp[go_sem]) ?_;refine(uS ⟨w.heap.size,0,none⟩ _).mono ?_;rintro e a2 bi ⟨rfl,rfl,rfl⟩;refine⟨.string ⟨#[111,107]⟩,by simp[results,results11,go_sem,h], ?_⟩;rw[I.out];exact⟨rfl,a8.out⟩
  |cons x ws=>
   have c4:=Z;have cb:w2.cell? ⟨u,0,none⟩=some (.string x):=by have:=mP a6.out (i:=0) ak;exact this
   have bk:=eJ (I8 g x w2);obtain⟨n,hn⟩:=ab ws.length;have hlen:(x::ws).length=n+1:=by simp[hn]
   rw[hlen] at a6⊢;have b1:(1:Int)<=((n+1:Nat):Int):=ah;have c7:(1:Int)<=(n:Int)+1:=ah;have c0:1<=n+1:=ah;have d1:(((n+1:Nat):Int)==0)=false:=aV.2 ah;have d2:((n:Int)+1==0)=false:=aV.2 ah;have d3: ¬((n:Int)+1=0):=ah;have cu:=O.out.low.size;have c6: ∀W:World,(binOp .eql 75 .nilFunc .nilFunc).run prog W=.ok (.bool true) W:=fun W=>ai;have de: ∀(W:World)(fn:Nat)(v:Value),(binOp .eql 75 (.func (.func fn) #[v] #[]) .nilFunc).run prog W=.ok (.bool false) W:=fun W fn v=>ai;go_wp2_with fail;refine bk.out.mono ?_;rintro r w3 ⟨rfl,am⟩;have ad:=eJ (a7.out.trans (am.mono a7.out.size));have X:=eJ (ap.out.below am ap.out.lt);have a0:=eJ (O.out.below ad.out);have bm:=eJ (aa.out.below aa.out.wR a0.out.low);have be:=jq a6.out am;have c9:u<w3.heap.size:=(be.lt u rfl).2;have cS:=X.out.lt;have bx: ¬nO g L w.heap.size:=fun bf=>by have:=(O.out.lo bf).2;omega
   have cj:=eJ bx;have cv: ¬nO g L u:=fun bf=>by have:=(O.out.lo bf).2;have:=a4.out.size;omega
   have bl:Hid (∀j y,ws[j]? =some y->w3.cell? ⟨u,j+1,none⟩=some (.string y)):=eJ (fun j y ac=>by have T:=(aQ.1 ac).1;rw[mP be (i:=j+1) ah,cK,cf,bp,ac];rfl);have c8:=X.out.cells1;clear am be cb cc bk bx;rcases Mx g x with ⟨h1,h2⟩|⟨f,h1,fn,h2,cV,b5⟩
   ·have I:Hid (fh d s=(oh 3,d)):=eJ (by unfold fh;rw[Z.out];dsimp only;rw[h1]);have ce:=eJ (gV 3 w3 bm.out.err);rw[h2];clear h1 h2;go_wp2_with fail;refine ce.out.mono ?_;rintro r w4 ⟨rfl,ao⟩;have b8:=eJ (ad.out.trans (ao.mono ad.out.size));have E:=eJ (X.out.below ao X.out.lt);have a9:=eJ (bm.out.next ao);clear ao;go_wp2_with fail;refine leaves_cons (f:=20) (args:= #[.pointer (some ⟨w.heap.size,0,none⟩)]) ak (by simp[go_sem]) ?_;refine(tl w.heap.size ⟨#[]⟩ 3 [] w4 a9.out E.out ah ah).mono ?_;rintro e a2 bi ⟨rfl,rfl,w5,Y,rfl⟩;have J:=(E.out.below Y E.out.lt).eS 0 (.string (oh 3));have h:=J.cell 0;simp at h;refine⟨.string (oh 3),by simp[results,results11,go_sem,h], ?_⟩;rw[I.out];exact⟨rfl,O.out.to ((b8.out.trans (Y.mono b8.out.size)).setCell (ar) _)⟩
   ·have I:Hid (fh d s=(On (f d ws).o,(f d ws).d)):=eJ (by unfold fh;rw[Z.out];dsimp only;rw[h1]);have cd:=eJ (yQ (d:=d) (w:=ws) h1);rw[h2];have b2:Hid (∀U,(∀j y,ws[j]? =some y->∃b off,U=some ⟨b,off,none⟩/\w3.cell? ⟨b,off+j,none⟩=some (.string y))->(∀z,U=some z->z.block=u)->Calls prog fn #[.pointer (some ⟨g,0,none⟩),.slice U n n] w3 (qG w0 w3 g L (f d ws))):=eJ (fun U ch ct=>by have hl:=bq.out;rw[hlen] at hl;have:=b5 w0 w3 d L k U ws n ⟨aa.out,a0.out,cx.out,cn.out,ah,fun j=>by rw[aL];cases T:ws[j]? with|none=>exact cT _|some y=>have:=bz.out y (cF _ (cL T));show y.size<=100000;omega,fun j T=>by obtain⟨b,off,e,ck⟩:=ch j ws[j] (aF T);exact⟨b,off,e,by rw[ck,aL,aF T];rfl⟩,fun z al=>by rw[ct z al];exact cv⟩ ah;rw[hn] at this;exact this);clear h1 h2 b5;have bd:Hid (∀(w4:World)(d':Dk)(v:Value),iN w0 w3 g L w4 d'->iN w0 w g L (w4.setCell ⟨w.heap.size,0,none⟩ v) d'/\eN w4 w.heap.size 9 #[.string ⟨#[]⟩]/\gY w4):=eJ (fun w4 d' v C=>by obtain⟨h1,h2⟩:=iN.iI a0.out cu ad.out (ar) cS cj.out C v;obtain⟨L',h3,_⟩:=C;exact⟨h1,h2.trans X.out,aa.out.below aa.out.wR h3.low⟩);have b4:Hid (Calls prog fn #[.pointer (some ⟨g,0,none⟩),.slice (if n=0 then some ⟨u,0,none⟩ else some ⟨u,1,none⟩) n n] w3 (qG w0 w3 g L (f d ws))):=eJ (b2.out _ (fun j y ac=>by have T:=(aQ.1 ac).1;rw[aI ah];exact⟨u,1,rfl,by rw[dO 1 j];exact bl.out j y ac⟩) (fun z al=>by split at al<;>cases al<;>rfl));clear b2 bl;obtain⟨ci,bj⟩:=ab ((f d ws).o);rw[bj] at I;have b3:=eJ bj;clear bj;by_cases cr:n=0;all_goals simp only[cr,eF,if_false] at b4;go_wp2_with fail;refine b4.out.mono ?_;intro r w4 hp;obtain⟨bb,C⟩:=hp;rw[b3.out] at bb;cases ci with|ok o=>obtain rfl:r=.returned (.string o):=bb;obtain⟨h1,h2,-⟩:=bd.out w4 (f d ws).d (.string o) C;have a8:=eJ h1;have dd:=h2.cells1;have J:=h2.eS 0 (.string o);have h:=J.cell 0;simp at h;clear C h1 h2 J;go_wp2_with fail;refine leaves_cons (f:=20) (args:= #[.pointer (some ⟨w.heap.size,0,none⟩)]) ak (by simp[go_sem]) ?_;refine(uS ⟨w.heap.size,0,none⟩ _).mono ?_;rintro e a2 bi ⟨rfl,rfl,rfl⟩;refine⟨.string o,by simp[results,results11,go_sem,h], ?_⟩;rw[I.out];exact⟨rfl,a8.out⟩|error K=>obtain rfl:r=.panicked (kC K):=bb;have co:=cd.out K b3.out;obtain⟨dg,dk⟩:=co;obtain⟨-,h2,h3⟩:=bd.out w4 (f d ws).d (.string ⟨#[]⟩) C;have E:=eJ h2;have a9:=eJ h3;have cA:=eJ C;clear C h2 h3;go_wp2_with fail;refine leaves_cons (f:=20) (args:= #[.pointer (some ⟨w.heap.size,0,none⟩)]) ak (by simp[go_sem]) ?_;refine(tl w.heap.size ⟨#[]⟩ K [] w4 a9.out E.out ah ah).mono ?_;rintro e a2 bi ⟨rfl,rfl,w5,Y,rfl⟩;have J:=(E.out.below Y E.out.lt).eS 0 (.string (oh K));have h:=J.cell 0;simp at h;refine⟨.string (oh K),by simp[results,results11,go_sem,h], ?_⟩;rw[I.out];exact⟨rfl,(bd.out w5 (f d ws).d (.string (oh K)) (cA.out.below Y)).1⟩
end
section
variable {w0 w w':World}{base g b:Nat}{d:Dk}{L:Ly}
def Qx(e:TypeId):Ob->Prop|.arr t _ _=>t≠e|.eW _ t _=>t≠e|_=>True
theorem FU{o:Ob}(h:o.At w base)(s:Qx 5 o){i:Nat}(hi:i∈o.eX): ∃c t,w.heap[i]? =some (.cells c t (0,0))/\t≠5:=by
 have que: ∀{t:TypeId}{v:Value}{l:List Value},fK w base t v l->t≠5->v.ownBlock=some i->∃c t,w.heap[i]? =some (.cells c t (0,0))/\t≠5:=by
  intro t v l hq u e;rcases hq with ⟨_,ao,rfl,h3⟩|⟨g,off,cap,cur,rfl,z,j,r⟩
  ·cases ao with|none=>cases e|some x=>cases e;obtain⟨_,cur,j⟩:=h3 x rfl;exact⟨cur,t,j,u⟩
  ·cases e;exact⟨cur,t,j,u⟩
 cases o with
  |none=>simp[Ob.eX] at hi
  |mem=>simp only[Ob.eX,bO] at hi;subst hi;exact⟨_,_,h,aj⟩
  |nK=>simp only[Ob.eX,bO] at hi;subst hi;exact⟨_,_,h,aj⟩
  |snd=>
   simp only[Ob.eX,bR,Option.mem_toList] at hi;rcases hi with rfl|hi
   ·exact⟨_,_,h.1,aj⟩
   ·exact que h.2.1 aj hi
  |prt=>
   simp only[Ob.eX,bR,Option.mem_toList] at hi;rcases hi with rfl|hi
   ·exact⟨_,_,h.1,aj⟩
   ·exact que h.2.1 aj hi
  |arr=>exact que h s (by simpa[Ob.eX] using hi)
  |eW=>simp only[Ob.eX,bO] at hi;subst hi;exact⟨_,_,h,s⟩
theorem IN(a:Ad)(n:Cn)(p:Pl)(P:lz)(fy:Nat)(c:Cl)(x:Ix):Qx 5 (shape a n p P fy c x):=by
 cases x;case mem i=>dsimp only[shape];split<;>trivial
 case snd k=>
  dsimp only[shape];split
  ·split<;>trivial
  ·trivial
 case nK k i=>dsimp only[shape];split<;>trivial
 case prt k i=>dsimp only[shape];split<;>trivial
 case loc j=>trivial
 all_goals dsimp only[shape,Qx];decide
theorem nI.typed(h:nI w0 w g d L){i:Nat}(C:nO g L i): ∃c t,w.heap[i]? =some (.cells c t (0,0))/\t≠5:=by
 rcases C with rfl|⟨j,hj,e⟩|⟨x,hx⟩
 ·exact⟨_,_,h.eW,aj⟩
 ·obtain⟨_,⟨u,_⟩|⟨b,cap,cur,u,I,z,_⟩⟩:=h.own j hj
  ·rw[u] at e;cases e
  ·rw[u] at e;cases e;refine⟨cur,_,z, ?_⟩;obtain rfl|rfl|rfl|rfl|rfl|rfl:j=0\/j=1\/j=2\/j=3\/j=4\/j=5:=ah;all_goals decide
 ·obtain⟨b0,h1,h2,E⟩:=h.gJ;refine FU (E.at_ x) ?_ hx;have s:=h.im;unfold uA at s;cases hd:d.c with|none=>rw[hd] at s;rw[s.2];trivial|some y=>rw[hd] at s;obtain⟨a,_,h4⟩:=s;rw[h4];exact IN a _ _ _ _ _ x
theorem nI.others(h:nI w0 w g d L)(hk:Lib.OthersKept 5 (some b) w w')(hl:Below w0.heap.size w0 w')(hs:w.heap.size<=w'.heap.size)(s: ¬nO g L b):nI w0 w' g d L:=h.same hs hl (fun i _ j=>by obtain⟨c,t,h1,h2⟩:=h.typed j;exact(hk i _ h1 (fun e=>s (by cases e;exact j)) (fun c' fz e=>h2 (by cases e;rfl))).trans h1.symm)
end
section
variable {α:Type}{F:Fence}{n:Nat}{P:Program}
def Jm(F:Fence)(n:Nat)(P:Program)(gf:Nat)(lb:Array Value)(encs:α->Array Value)(sb:Nat)(K:Nat->Prop)(xs:List α)(w:World):Prop:= ∀(l:Nat)(h:List α->World->Prop)(W:World),Below w.heap.size w W->(∀s W v,h s W->h s (W.setCell ⟨sb,0,none⟩ v))->(∀s x W1,h s W1->(∃r,xs=s++x::r)->YieldAt F (n-1) P l (encs x) W1 fun e j=>e=.returned (.bool true)/\h (s++[x]) j/\∀i,K i->j.heap[i]? =W1.heap[i]?)->h [] W->CallsIn F n P gf (#[.func (.yield l) #[] #[]]++lb) W fun e j=>(∃v,e=.returned v)/\h xs j
theorem wX{g:Operand}{u:Array Tmp}{assign body:Code}{Q:Exit->Act->World->Prop}{a:Act}{w:World}(a7:F.round=none)(h1:1<=n){gf:Nat}{lb:Array Value}(a6:a.eval g=.func (.func gf) #[] lb)(hF:F.fn gf)(Y: ∀args w,(callFunc gf args).run P w=.ok (.enter gf args) w){encs:α->Array Value}(al: ∀x,(encs x).size=u.size){sb:Nat}(a8:sb<w.heap.size){K:Nat->Prop}(U: ∀i,K i->i<w.heap.size){xs:List α}(aa:Jm F (n-1) P gf lb encs sb K xs w)(j:List α->World->Prop)(X: ∀s W o,j s W->j s (W.alloc o))(z: ∀s W o,j s W->(∃o':Obj,W.heap[w.heap.size+1]? =some o'/\o'.isCells=false)->j s (W.putObj (w.heap.size+1) o))(Z: ∀s W v,j s W->j s (W.setCell ⟨sb,0,none⟩ v))(h0:j [] w)(T:α->Act)(ac: ∀(l:Nat)(x:α)(W:World)(K:Act->World->Prop),K (T x) W->assign.wpIn (F.inRound l) (n-1-1) P (Exit.then K (fun _ _ _=>False)) {tmps:=(u.zip (encs x)).foldl (fun t (p,v)=>t.setIfInBounds p v) a.tmps,defers:=[]} W)(aA: ∀(l:Nat)(s:List α)(x:α)(W:World),j s W->(∃r,xs=s++x::r)->(∀i,i=w.heap.size\/i=w.heap.size+1->∃o:Obj,W.heap[i]? =some o/\o.isCells=false)->body.wpIn (F.inRound l) (n-1-1) P (fun e _ I=>e=.normal/\(∀i,K i\/i=w.heap.size\/i=w.heap.size+1->I.heap[i]? =W.heap[i]?)/\j (s++[x]) I) (T x) W)(ad: ∀(D:Nat)(W:World),w.heap.size<=D->j xs W->W.heap[D]? =some (.deferred (some []))->Q .normal {a with defers:={target:=.collected D,args:= #[]}::a.defers} W):(Code.rangeFunc g u assign body).wpIn F n P Q a w:=by
 refine wpIn_rangeFunc fun fn ao=> ?_;rw[a7];let M:LoopState->Option Code->Loop:=fun st a4=>{state:=st,pending:=a4,fn,tmps:=a.tmps,params:=u,assign,body,defers:=w.heap.size};let W1:=(w.alloc (.deferred (some []))).alloc (.loop (M .ready none));have a2:W1.heap[w.heap.size+1]? =some (.loop (M .ready none)):=by have:=World.alloc_heap_new (w.alloc (.deferred (some []))) (.loop (M .ready none));rwa[bX] at this
 have a5:W1.heap[w.heap.size]? =some (.deferred (some [])):=(bu _ _ _ ak).trans (World.alloc_heap_new w _);have hB:Below w.heap.size w W1:=((Below.refl _ w).alloc (ar) _).alloc ak _;refine⟨w.heap.size+1,[{target:=.collected w.heap.size,args:= #[]}],W1,{target:=.fn (.func gf) lb,args:= #[.func (.yield (w.heap.size+1)) #[] #[]]},W1,gf, #[.func (.yield (w.heap.size+1)) #[] #[]]++lb,W1,run_enterLoop_outer _ _ _ _ _,by simp only[resolve,a6];simp[go_sem],fun f' O=>by simp[Target.leads] at O;subst O;exact hF,by simp[invoke,go_sem,Y],fun _=>h1, ?_⟩;have J: ∀(W:World)(v:Value)(i:Nat),i≠sb->(W.setCell ⟨sb,0,none⟩ v).heap[i]? =W.heap[i]? :=fun W v i hi=>aW W _ v i hi;refine(aa (w.heap.size+1) (fun s W=>j s W/\W.heap[w.heap.size+1]? =some (.loop (M .ready none))/\W.heap[w.heap.size]? =some (.deferred (some []))) W1 hB (fun s W v h=>⟨Z s W v h.1,(J W v _ ah).trans h.2.1,(J W v _ ah).trans h.2.2⟩) ?_ ⟨X _ _ _ (X _ _ _ h0),a2,a5⟩).mono ?_
 ·rintro s x W ⟨hi,hl,hk⟩ hlen;have a0:w.heap.size+1<W.heap.size:=(aS.1 hl).1;refine⟨fn,_,assign,body,run_yield hl (al x),roundIn_of_wpIn ao (ac _ x W _ ⟨_,run_beginRound hl rfl, ?_⟩)⟩;have b1:(W.putObj (w.heap.size+1) (.loop (M .busy none))).heap[w.heap.size+1]? =some (.loop (M .busy none)):=World.putObj_heap_same a0;have b2:(W.putObj (w.heap.size+1) (.loop (M .busy none))).heap[w.heap.size]? =some (.deferred (some [])):=(World.putObj_heap_other ah).trans hk;refine wpIn_mono (aA _ s x _ (z _ _ _ hi ⟨_,hl,rfl⟩) hlen (fun i hi=>by
   rcases hi with rfl|rfl
   ·exact⟨_,b2,rfl⟩
   ·exact⟨_,b1,rfl⟩)) ?_
  rintro e a3 W3 ⟨rfl,E,ap⟩;have C:=(E _ (.inr (.inr rfl))).trans b1;have am:=(E _ (.inr (.inl rfl))).trans b2;exact⟨_,_,run_endRound none C,rfl,⟨z _ _ _ ap ⟨_,C,rfl⟩,World.putObj_heap_same (aS.1 C).1,(World.putObj_heap_other ah).trans am⟩,fun i hi=>((World.putObj_heap_other (by have:=U i hi;omega)).trans (E i (.inl hi))).trans (World.putObj_heap_other (by have:=U i hi;omega))⟩
 ·rintro e W2 ⟨⟨v,rfl⟩,hi,hl,hk⟩;exact⟨none,_,run_endLoop hl (by simp[M]),ad _ _ (ar) (z _ _ _ hi ⟨_,hl,rfl⟩) ((World.putObj_heap_other ah).trans hk)⟩
end
section
open Go.Shelf
attribute [local go_sem] Oper.semAt_some
def M9(b:Nat)(w:World):Nat:=match w.cell? ⟨b,0,none⟩ with|some (.string s)=>s.size|_=>0
theorem zG(r:ByteArray)(a b:Nat)(e:b<=r.size):(r.extract a b).data.toList=(r.data.toList.drop a).take (b-a):=by rw[dZ,eo,dI]
theorem Mz(r:ByteArray)(m:Nat)(hm:m<=r.size):(⟨(r.data.toList.take m).toArray⟩:ByteArray)=r.extract 0 m:=by apply ByteArray.ext;apply Array.ext';rw[zG r 0 m hm];simp
theorem KZ(r:ByteArray)(m:Nat):r.data.toList.drop m=(r.extract m r.size).data.toList:=by rw[zG r m r.size (ar)];rw[bC];simp
def lv(s:ByteArray):List ByteArray:=(vM s.data.toList).map fun l=>⟨l.toArray⟩
theorem Ff(n:Nat)(hn:1<=n)(b:Nat)(s:ByteArray)(hs:s.size<=1000000)(w:World)(h0:eN w b 9 #[.string s])(h1:eN w (b+1) 9 #[.string ⟨#[10]⟩])(h2:eN w (b+2) 3 #[.int .i64 0]):Jm Fence.wide n prog 41 #[.pointer (some ⟨b+1,0,none⟩),.pointer (some ⟨b,0,none⟩),.pointer (some ⟨b+2,0,none⟩)] (fun x:ByteArray=> #[.string x]) b (fun i=>i=b\/i=b+1\/i=b+2) (lv s) w:=by
 intro l a2 W hB ap Z al;have g0:=h0.below hB h0.lt;have g1:=h1.below hB h1.lt;have g2:=h2.below hB h2.lt;clear h0 h1 h2 hB;have c1:=g1.cells1;refine callsIn_of_wp func41 rfl trivial ?_ rfl;simp only[ntmps41,ba,aP,bh,Nat.reduceAdd,Nat.reduceSub,cN,cM,db,cU,bQ,bE];gi_wp2;gi_loopw [7] (fun a3 wr=> ∃(pre:List ByteArray) (r:ByteArray),Hid (lv s=pre++lv r)/\r.size<=s.size/\eN wr b 9 #[.string r]/\eN wr (b+1) 9 #[.string ⟨#[10]⟩]/\eN wr (b+2) 3 #[.int .i64 0]/\Hid (a2 pre wr)) (fun _ wr=>M9 b wr);case atStart=>exact⟨[],s,eJ rfl,ar,g0,g1,g2,eJ al⟩
 case round=>
  obtain⟨pre,r,C,a4,T,O,E,U⟩:=hrel;clear c1 g0 g1 g2 al;have c0:=T.cells1;have c1:=O.cells1;have c2:=E.cells1;obtain⟨x,j⟩:=ab (Lib.indexByte r.data.toList 10);have J:=eJ (strings_Index_one r 10 wr);rw[j] at J;by_cases ao:x=-1
  ·subst ao;have h:lv r=[r]:=by unfold lv;rw[zC j];simp
   have Y:=eJ h;obtain⟨fn,tmps,assign,body,am,u⟩:=Z pre r wr U.out ⟨[],by rw[C.out,h]⟩;have K:=eJ u;clear h j Z u T O E;gi_wp2_with (refine⟨trivial,(df.2 J.out).mono ?_⟩;rintro e w2 ⟨rfl,rfl⟩);refine K.out.mono ?_;rintro e W3 ⟨rfl,z,-⟩;gi_wp2;go_end0;exact⟨⟨_,rfl⟩,by rw[C.out,Y.out];exact z⟩
  ·obtain⟨m,rfl⟩: ∃m:Nat,x=m:=aZ (by have:=Lib.indexByte_ge r.data.toList 10;rw[j] at this;omega);obtain⟨hm,aa⟩:=JO j;have a5:m<r.size:=by simpa using hm
   have h:lv r=r.extract 0 m::lv (r.extract (m+1) r.size):=by unfold lv;rw[aa,cK,Mz r m ah,KZ]
   have Y:=eJ h;obtain⟨fn,tmps,assign,body,am,u⟩:=Z pre (r.extract 0 m) wr U.out ⟨_,by rw[C.out,h]⟩;have K:=eJ u;have d1:decide ((m:Int)<0)=false:=aH ah;have a6:wrap64 (m:Int)=m:=by unfold wrap64;omega
   have a7:wrap64 ((m:Int)+1)=m+1:=by unfold wrap64;omega
   clear h j aa hm u ao;gi_wp2_with (refine⟨trivial,(df.2 J.out).mono ?_⟩;rintro e w2 ⟨rfl,rfl⟩);refine K.out.mono ?_;rintro e W3 ⟨rfl,z,I⟩;have X:eN W3 b 9 #[.string r]:=(I b (.inl rfl)).trans T;have ad:eN W3 (b+1) 9 #[.string ⟨#[10]⟩]:=(I (b+1) (.inr (.inl rfl))).trans O;have ac:eN W3 (b+2) 3 #[.int .i64 0]:=(I (b+2) (.inr (.inr rfl))).trans E;have aA:=eJ z;have a0:=eJ c0.1;clear c0 c1 c2 T O E U J K am z I;have c0:=X.cells1;have c1:=ad.cells1;have c2:=ac.cells1;gi_wp2;go_roundw;case rel=>exact⟨pre++[r.extract 0 m],r.extract (m+1) r.size,eJ (by rw[C.out,Y.out];simp),by rw[ByteArray.size_extract];omega,by simpa using X.eS 0 _,ad.iI ak _,ac.iI ak _,eJ (ap _ _ _ aA.out)⟩
   case measure=>
    have h1:(W3.setCell ⟨b,0,none⟩ (.string (r.extract (m+1) r.size))).cell? ⟨b,0,none⟩=some (.string (r.extract (m+1) r.size)):=by have:=(X.eS 0 (.string (r.extract (m+1) r.size))).cell 0;simpa using this
    unfold M9;rw[h1,a0.out];dsimp only;rw[ByteArray.size_extract];omega
theorem za(s p:ByteArray)(w:World):Calls prog 17 #[.string s,.string p,.int .i64 0] w fun e w'=>e=.returned (.func (.func 41) #[] #[.pointer (some ⟨w.heap.size+1,0,none⟩),.pointer (some ⟨w.heap.size,0,none⟩),.pointer (some ⟨w.heap.size+2,0,none⟩)])/\w'=((w.alloc (.cells #[.string s] 9)).alloc (.cells #[.string p] 9)).alloc (.cells #[.int .i64 0] 3):=by go_enter func17,ntmps17;go_wp2_with fail;go_ret;exact⟨rfl,rfl⟩
theorem FY(s p:ByteArray)(w:World):Calls prog 8 #[.string s,.string p] w fun e w'=>e=.returned (.func (.func 41) #[] #[.pointer (some ⟨w.heap.size+1,0,none⟩),.pointer (some ⟨w.heap.size,0,none⟩),.pointer (some ⟨w.heap.size+2,0,none⟩)])/\w'=((w.alloc (.cells #[.string s] 9)).alloc (.cells #[.string p] 9)).alloc (.cells #[.int .i64 0] 3):=by have h:=eJ (za s p w);go_enter func8,ntmps8;go_wp2_with fail;refine h.out.mono ?_;rintro e w2 ⟨rfl,rfl⟩;go_wp2_with fail;go_ret;exact⟨rfl,rfl⟩
end
def jt(l:List ByteArray):Nat:=(l.map fun s=>s.size+1).sum
theorem E8(l:List ByteArray)(s:ByteArray):jt (l++[s])=jt l+(s.size+1):=by simp[jt]
theorem pI(l m:List ByteArray):jt (l++m)=jt l+jt m:=by simp[jt]
theorem DU: ∀l:List UInt8,((vM l).map fun s=>s.length+1).sum=l.length+1
 |[]=>rfl
 |x::l=>by
  have e:=DU l;obtain⟨y,r,h⟩:=uN l;unfold vM;rw[h] at e⊢;split
  ·simp at e⊢;omega
  ·simp at e⊢;omega
theorem uC(s:ByteArray):jt (lv s)=s.size+1:=by unfold jt lv;rw[eH];have:=DU s.data.toList;rw[show(s.size:Nat)=s.data.toList.length from ak];rw[<-this];rfl
theorem FD{D:Type}(f:D->ByteArray->ByteArray×D)(d:D)(l:List ByteArray)(s:ByteArray):kr f d (l++[s])=kr f d l++((f (ni f d l) s).1.data.toList++[10]):=by rw[uM];simp[kr]
theorem yg{D:Type}(f:D->ByteArray->ByteArray×D): ∀(l:List ByteArray)(d:D)(s:ByteArray),ni f d (l++[s])=(f (ni f d l) s).2|[],d,s=>rfl|x::l,d,s=>by rw[bE,ni,yg f l];rfl
theorem rQ: ∀(l:List ByteArray)(d:Dk)(k:Nat),gC k d->gC (k+jt l) (ni fh d l)
 |[],d,k,h=>h.mono ah
 |s::l,d,k,h=>by
  have h1:gC (k+(s.size+1)) (fh d s).2:=by
   unfold fh;split
   ·exact h.mono ah
   ·rename_i x ws hw;split
    ·exact h.mono ah
    ·rename_i f e;have hl:=xI s;have j:(kG s).length<=s.size+1:=hl;rw[hw,aP] at j;exact(NI h e).mono ah
  have:=rQ l _ _ h1;rw[ni];exact this.mono (by simp[jt];omega)
theorem uF{W e:World}{B b:Nat}{bs:List Value}(h:Lib.IsBuilderF 42 5 B b bs W)(C:e.heap[b]? =W.heap[b]?)(E: ∀(i:Nat)(c:Array Value)(fz:Nat×Nat),W.heap[i]? =some (Obj.cells c 5 fz)->e.heap[i]? =W.heap[i]?):Lib.IsBuilderF 42 5 B b bs e:=by
 have one: ∀p,Lib.BuilderAtF 42 5 B b p bs W->Lib.BuilderAtF 42 5 B b p bs e:=by
  rintro p ⟨h1,v,h2,⟨h3,h4⟩,h5⟩;refine⟨h1,v,C.trans h2,⟨h3, ?_⟩,h5⟩;rcases h4 with h4|⟨g,cap,cur,fz,s,z,j,u⟩
  ·exact .inl h4
  ·exact .inr ⟨g,cap,cur,fz,s,z,(E g cur fz j).trans j,u⟩
 exact h.imp (one _) (one _)
section
variable {w0 W W2 W3:World}{g b hi k:Nat}{d d':Dk}{acc:List UInt8}
def lR(w0:World)(g b hi:Nat)(d:Dk)(acc:List UInt8)(W:World):Prop:= ∃L,nI w0 W g d L/\(∀i,g<i->i<hi->¬nO g L i)/\Lib.IsBuilderF 42 5 w0.heap.size b (Lib.byteCells acc) W/\b<W.heap.size/\(∃cs,eN W (b+1) 9 cs)/\(∃cs,eN W (b+2) 9 cs)/\(∃cs,eN W (b+3) 3 cs)
theorem lR.iP(h:lR w0 g b hi d acc W)(hl:Below w0.heap.size w0 W2)(hs:W.heap.size<=W2.heap.size)(J:g<b)(I:b<hi)(hk: ∀(i:Nat)(c:Array Value)(t:TypeId)(fz:Nat×Nat),W.heap[i]? =some (Obj.cells c t fz)->W2.heap[i]? =some (Obj.cells c t fz)):lR w0 g b hi d acc W2:=by
 obtain⟨L,h1,h2,h3,h4,⟨c1,E⟩,⟨c2,C⟩,⟨c3,z⟩⟩:=h;refine⟨L,h1.same hs hl (fun i _ u=> ?_),h2,uF h3 ?_ (fun i c fz s=>(hk i c _ fz s).trans s.symm),ah,⟨c1,hk _ _ _ _ E⟩,⟨c2,hk _ _ _ _ C⟩,⟨c3,hk _ _ _ _ z⟩⟩
 ·obtain⟨c,t,e,_⟩:=h1.typed u;exact(hk i _ _ _ e).trans e.symm
 ·rcases h3 with ⟨_,v,j,_⟩|⟨_,v,j,_⟩
  ·exact(hk _ _ _ _ j).trans j.symm
  ·exact(hk _ _ _ _ j).trans j.symm
theorem lR.alloc(h:lR w0 g b hi d acc W)(j:g<b)(s:b<hi)(o:Obj):lR w0 g b hi d acc (W.alloc o):=by
 have hl:Below w0.heap.size w0 W:=by obtain⟨L,h1,_⟩:=h;exact h1.low
 exact h.iP (hl.alloc hl.size _) ak j s (fun i c t fz e=>(bu W o i (aS.1 e).1).trans e)
theorem lR.put(h:lR w0 g b hi d acc W)(I:g<b)(E:b<hi){q:Nat}(hq:g<q)(J: ∃o':Obj,W.heap[q]? =some o'/\o'.isCells=false)(o:Obj):lR w0 g b hi d acc (W.putObj q o):=by
 obtain⟨o',u,z⟩:=J;have j:Below w0.heap.size w0 W/\w0.heap.size<=g:=by obtain⟨L,h1,_⟩:=h;exact⟨h1.low,h1.gb⟩
 have hs: ∀i,i≠q->(W.putObj q o).heap[i]? =W.heap[i]? :=fun i hi=>World.putObj_heap_other hi;have s:=grownBy_putObj' W q o;refine h.iP ⟨s.os.trans j.1.os,s.tape.trans j.1.tape,s.output.trans j.1.output,aK j.1.size s.size,fun i hi=>(hs i ah).trans (j.1.block i hi)⟩ s.size I E (fun i c t fz e=> ?_);refine(hs i (fun C=> ?_)).trans e;subst C;rw[u] at e;cases e;cases z
theorem lR.box(h:lR w0 g b hi d acc W)(J:g<b)(I:b+3<hi)(v:Value):lR w0 g b hi d acc (W.setCell ⟨b+1,0,none⟩ v):=by
 obtain⟨L,h1,h2,h3,h4,⟨c1,s⟩,⟨c2,E⟩,⟨c3,C⟩⟩:=h;have hs: ∀i,i≠b+1->(W.setCell ⟨b+1,0,none⟩ v).heap[i]? =W.heap[i]? :=fun i hi=>aW W _ v i hi;have j:(W.setCell ⟨b+1,0,none⟩ v).heap.size=W.heap.size:=by simp[World.setCell]
 have K:=h1.gb;refine⟨L,h1.same (by rw[j];exact ar) ⟨h1.low.os,h1.low.tape,h1.low.output,by rw[j];exact h1.low.size,fun i hi=>(hs i ah).trans (h1.low.block i hi)⟩ (fun i _ u=>hs i (fun e=>h2 (b+1) ah ah (by rw[<-e];exact u))),h2,uF h3 (hs b ah) (fun i c fz z=>hs i (fun e=> ?_)),by rw[j];exact h4,⟨_,s.eS 0 v⟩,⟨c2,E.iI ak _⟩,⟨c3,C.iI ak _⟩⟩;subst e;have:=s.symm.trans z;injection this with this;injection this with _ e;exact absurd e aj
theorem lR.line(h:lR w0 g b hi d acc W)(E:gY w0)(T:g<b)(U:b+3<hi)(X:hi<=W.heap.size){k:Nat}(C:gC k d)(hk:k<=6000)(s:ByteArray)(hs:s.size<=40000):Calls prog 11 #[.pointer (some ⟨g,0,none⟩),.string s] W fun e w'=>e=.returned (.string (fh d s).1)/\lR w0 g b hi (fh d s).2 acc w'/\(∀i,g<i->i<hi->w'.heap[i]? =W.heap[i]?)/\W.heap.size<=w'.heap.size:=by
 obtain⟨L,h1,h2,h3,h4,⟨c1,O⟩,⟨c2,K⟩,⟨c3,J⟩⟩:=h;refine(Ir E h1 C hk s hs).mono ?_;rintro e w' ⟨he,L',g1,g2⟩;have hp: ∀i,g<i->i<hi->w'.heap[i]? =W.heap[i]? :=fun i h5 h6=>g2.block i ah (h2 i h5 h6);refine⟨he,⟨L',g1,fun i h5 h6 u=> ?_,uF h3 (hp b T ah) (fun i c fz z=> ?_),aN h4 g2.size,⟨c1,(hp _ ah ah).trans O⟩,⟨c2,(hp _ ah ah).trans K⟩,⟨c3,(hp _ ah ah).trans J⟩⟩,hp,g2.size⟩
 ·rcases g2.gJ i u with h7|h7
  ·exact h2 i h5 h6 h7
  ·omega
 ·refine g2.block i (aS.1 z).1 (fun u=> ?_);obtain⟨c',t,j,I⟩:=h1.typed u;rw[z] at j;injection j with j;injection j with _ j _;exact I j.symm
theorem lR.write(h:lR w0 g b hi d acc W2)(J:g<b)(T:b+3<hi)(s:ByteArray)(O:Lib.BuilderAtF 42 5 w0.heap.size b (.pointer (some ⟨b,0,none⟩)) (Lib.byteCells acc++Lib.strCells s) W3)(hB:Below w0.heap.size W2 W3)(u:Lib.OthersKept 5 (some b) W2 W3):lR w0 g b hi d (acc++s.data.toList) W3:=by
 obtain⟨L,h1,h2,h3,h4,⟨c1,I⟩,⟨c2,C⟩,⟨c3,z⟩⟩:=h;have j: ∀i t cs,eN W2 i t cs->i≠b->t≠5->eN W3 i t cs:=fun i t cs E hi K=>u i _ E (fun e=>hi (by cases e;rfl)) (fun c fz e=>K (by cases e;rfl));refine⟨L,h1.others u (h1.low.trans hB) hB.size (h2 b J ah),h2,.inr ?_,aN h4 hB.size,⟨c1,j _ _ _ I ah aj⟩,⟨c2,j _ _ _ C ah aj⟩,⟨c3,j _ _ _ z ah aj⟩⟩;have e:Lib.byteCells (acc++s.data.toList)=Lib.byteCells acc++Lib.strCells s:=by unfold Lib.byteCells Lib.strCells;rw[dz]
 rw[e];exact O
end
end Go.Proofs.YtideefjnlakciaaGreatDoor
