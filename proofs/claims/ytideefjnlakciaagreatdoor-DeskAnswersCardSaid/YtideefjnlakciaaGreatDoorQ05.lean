/- Contracts of a cluster: mode, Spread; conditions: what they read lies in memory. -/
import Derived.Test.YtideefjnlakciaaGreatDoorQ00
import Derived.Test.YtideefjnlakciaaGreatDoorQ04
import Derived.Test.YtideefjnlakciaaGreatDoorQ01
import Derived.Test.YtideefjnlakciaaGreatDoorQ03
import Derived.BigRegion
import Derived.Laws.BytesArg
set_option maxRecDepth 1000000
set_option maxHeartbeats 20000000
set_option linter.unusedVariables false
set_option linter.unusedSimpArgs false
namespace Go.Proofs.YtideefjnlakciaaGreatDoor
open Go.RowKit Go.Proofs.Tryz
section
attribute [local irreducible] fu
section
variable (g:Nat)(nd fa sk ji dr R:Int)(S L:Value)(fr:Int)(Q:Value)(mm sd tk pr:Value)(rd:Int)
theorem I4(fy i:Nat)(ck:Value)(x y z:Value)(A:Option Addr)(c:Nat)(md:List Int)(w:World)(I:eN w g 210 (wL nd fa sk ji dr R S L fr Q fy ck mm sd tk pr rd))(U:fy<65536)(hi:i<=20)(E:kY w A md)(T:md.length<=9223372036854775807):Calls prog 176 #[.pointer (some ⟨g,0,none⟩),.int .i64 i,.agg #[x,y,z,.slice A md.length c]] w fun e w'=>e=.returned (.int .i64 (pg fy md i))/\Below w.heap.size w w':=by
 have j:=eJ (uj g nd fa sk ji dr R S L fr Q mm sd tk pr rd fy i ck (w.alloc (.cells #[x,y,z,.slice A md.length c] 35)) (I.alloc _) U hi);have C:=eJ (E.below (ar) ((Below.refl w.heap.size w).alloc (ar) (.cells #[x,y,z,.slice A md.length c] 35)));have s:=eJ ((Below.refl w.heap.size w).alloc (ar) (.cells #[x,y,z,.slice A md.length c] 35));clear I E;obtain⟨n,hn⟩:=ab md.length;have J:=eJ hn;obtain⟨v,h⟩:=ab (pg fy md i);have O:=eJ h;obtain⟨b,u⟩:=ab (fu fy i);rw[u] at j;rw[hn] at T j s C⊢;rw[h];unfold pg at h;rw[u,hn] at h;clear hn u O;by_cases h1:b=true
 ·subst h1;by_cases h2:i<n
  ·obtain⟨b2,off,rfl,K⟩:=C.out i (by rw[J.out];exact h2);rw[aM ⟨rfl,h2⟩] at h;rw[h] at K;have d1:decide ((i:Int)<(n:Int))=true:=aJ ah;clear h;go_enter func176,ntmps176;go_wp2_with (fail);refine j.out.mono ?_;rintro e w2 ⟨rfl,rfl⟩;go_wp2_with (fail);go_ret;exact⟨rfl,s.out⟩
  ·rw[aI ah] at h;subst h;have d1:decide ((i:Int)<(n:Int))=false:=aH ah;go_enter func176,ntmps176;go_wp2_with (fail);refine j.out.mono ?_;rintro e w2 ⟨rfl,rfl⟩;go_wp2_with (fail);go_ret;exact⟨rfl,s.out⟩
 ·have h1:b=false:=by simpa using h1
  subst h1;rw[aI ak] at h;subst h;go_enter func176,ntmps176;go_wp2_with (fail);refine j.out.mono ?_;rintro e w2 ⟨rfl,rfl⟩;go_wp2_with (fail);go_ret;exact⟨rfl,s.out⟩
end
theorem uG{w:World}{base n:Nat}{v:Value}{zs:List Int}(h:w.ownsRow base 3 1 v n (zs.map (Value.int .i64)))(s:zs.length=n): ∃A c,v=.slice A n c/\kY w A zs:=by
 rcases h.2 with ⟨rfl,h0⟩|⟨g,c,cur,rfl,_,_,_,_,_,_⟩
 ·subst h0;exact⟨none,0,rfl,fun j e=>ah⟩
 ·exact⟨_,c,rfl,fun j e=>⟨g,0,rfl,by rw[bB];exact su h ah⟩⟩
def fP(fy:Nat)(zs:List Int):Nat->List Int|0=>[]|k+1=>if fu fy k=true then fP fy zs k else fP fy zs k++[zs.getD k 0]
theorem rN(fy:Nat)(zs:List Int)(k:Nat):(fP fy zs k).length<=k:=by
 induction k with
  |zero=>simp[fP]
  |succ k e=>
   unfold fP;split
   ·omega
   ·rw[aT,ed];omega
theorem qy{fy:Nat}{zs:List Int}{k:Nat}(h:fu fy k=false):fP fy zs (k+1)=fP fy zs k++[zs.getD k 0]:=by conv=>lhs;unfold fP;rw[aI (by rw[h];decide)]
theorem pE{fy:Nat}{zs:List Int}{k:Nat}(h:fu fy k=true):fP fy zs (k+1)=fP fy zs k:=by conv=>lhs;unfold fP;rw[aM h]
theorem vw{fy:Nat}{zs:List Int}{P:Int->Prop}{k:Nat}(e: ∀j,j<k->P (zs.getD j 0)): ∀x∈fP fy zs k,P x:=by
 induction k with
  |zero=>simp[fP]
  |succ k s=>
   unfold fP;split
   ·exact s (fun j u=>e j ah)
   ·intro x z;rcases bY.1 z with h|h
    ·exact s (fun j u=>e j ah) x h
    ·simp at h;subst h;exact e k ah
theorem ke{l:List Int}{j:Nat}(h:j<l.length):l.getD j 0∈l:=by rw[aL,aF h];exact cI h
section
variable (g:Nat)(nd fa sk ji dr R:Int)(S L:Value)(fr:Int)(Q:Value)(mm sd tk pr:Value)(rd:Int)
theorem pS(fy:Nat)(A:Option Addr)(c:Nat)(zs:List Int)(w:World)(C:eN w g 210 (wL nd fa sk ji dr R S L fr Q fy (.slice A zs.length c) mm sd tk pr rd))(bd:fy<65536)(Z:kY w A zs)(a6:zs.length<=16)(h0:0<(fP fy zs zs.length).length)(U: ∀j,j<zs.length->-1000000000000000<=zs.getD j 0/\zs.getD j 0<=1000000000000000):Calls prog 106 #[.pointer (some ⟨g,0,none⟩)] w fun e w'=>(∃a b,e=.returned (.int .i64 (a-b))/\rW (fP fy zs zs.length) a/\rM (fP fy zs zs.length) b)/\Below w.heap.size w w':=by
 have ac:=C.cell 11;simp at ac;have a3:=eJ Z;have J:=eJ C;have bf:=eJ U;have z:=eJ h0;clear C Z U h0;obtain⟨n,hn⟩:=ab zs.length;have aa:=eJ hn;rw[hn] at a6 ac J z⊢;clear hn;obtain⟨i0,hi,ap,aA,a2⟩:=eR kz;go_enter func106,ntmps106;go_wp2_with fail;go_loopw [3,11] (fun v3 i wr=> ∃k:Nat,k<=n/\i=.int .i64 k/\Hid (wr.ownsRow w.heap.size 3 1 v3 (fP fy zs k).length ((fP fy zs k).map (Value.int .i64)))/\Hid (Below w.heap.size w wr)) (fun _ i _=>n-(intOf i).toNat);case atStart=>exact⟨0,ah,rfl,eJ (bT _ _ _ _),eJ (au)⟩
 case round=>
  obtain⟨k,hk,rfl,s,h⟩:=hrel;by_cases a9:k<n
  ·obtain⟨b,off,rfl,h0⟩:=(a3.out.below (ar) h.out) k (by rw[aa.out];exact a9);obtain⟨x,K⟩:=ab (zs.getD k 0);rw[K] at h0;have ao:=eJ K;clear K;have X:=eJ (uj g nd fa sk ji dr R S L fr Q mm sd tk pr rd fy k (.slice (some ⟨b,off,none⟩) n c) wr (J.out.below h.out J.out.lt) bd ah);obtain⟨y,O⟩:=ab (fu fy k);rw[O] at X;have ad:=eJ O;clear O;go_wp2_with fail;refine X.out.mono ?_;rintro e w2 ⟨rfl,rfl⟩;cases y
   ·obtain⟨m,hm⟩:=ab ((fP fy zs k).length);have a4:=rN fy zs k;have E:Hid (fP fy zs (k+1)=fP fy zs k++[x]):=eJ (by rw[qy ad.out,ao.out]);rw[hm] at s a4;have be:=eJ hm;clear hm;have am:=eJ (jr s.out ((Below.refl w2.heap.size w2).alloc (ar) (.cells #[.int .i64 x] 3)));go_wp2_with (at_builtin;go_must (refine bD _ rfl (.tmp 20) (.tmp 22) _ rfl w.heap.size 3 i0 _ 1 8 underlying33 hi ap aA a2 rfl aj u3 m ((fP fy zs k).map (Value.int .i64)) rfl (by exact am.out) ⟨w2.heap.size,0,none⟩ 1 1 [.int .i64 x] rfl rfl (by exact vu (eN.new w2 3 #[.int .i64 x])) (by intro u hu;simp at hu;subst hu;rfl) (by simp[maxLen];omega) ah (by have:=h.out.size;simp;omega) ?_);intro v8 w8 al Y _;have bb:=eJ al;have a7:=eJ Y;clear al Y);go_roundw;case rel=>exact⟨k+1,ah,aq,eJ (by rw[E.out];simpa[be.out] using bb.out),eJ ((h.out.alloc h.out.size _).grown a7.out (by have:=h.out.size;simp;omega) (fun j e=>(am.out.lt j e).1))⟩
    case measure=>simp[intOf];omega
   ·have E:Hid (fP fy zs (k+1)=fP fy zs k):=eJ (pE ad.out);go_wp2_with fail;go_roundw;case rel=>exact⟨k+1,ah,aq,eJ (by rw[E.out];exact s.out),h⟩
    case measure=>simp[intOf];omega
  ·obtain rfl:k=n:=ah;obtain⟨a8,c2,rfl,a0⟩:=uG s.out rfl;have hle:=rN fy zs k;have T:=eJ (Cx a8 c2 (fP fy zs k) wr a0 z.out ah (fun j I=>vw (P:=fun x=> -1000000000000000<=x/\x<=1000000000000000) (fun j I=>bf.out j (by rw[aa.out];exact I)) _ (ke I)));generalize(fP fy zs k).length=q at T s z;go_wp2_with fail;refine T.out.mono ?_;rintro e w2 ⟨a,b,rfl,h1,h2,rfl⟩;have H1:=eJ h1;have a5:=eJ h2;clear h1 h2;go_wp2_with fail;go_ret;exact⟨⟨a,b,rfl,H1.out,a5.out⟩,h.out⟩
end
end
section
variable {lf lt:Int}(g base:Nat)(bag que:Int)(v:Value)(nx la nw:Int)(q:List ByteArray)
theorem Ip(w:World)(now:Int)(d:ByteArray)(he:Hid (px now la nw bag (q.length+1)=0))(K:eN w g 264 (Gr lf lt bag que v nx la nw))(X:fK w base 9 v (sv (d::q)))(bv: ∀k,v.ownBlock=some k->k<w.heap.size)(Z:v.ownBlock≠some g)(c6:-1<=la/\la<=1099511627776)(dk:0<=nx/\nx<=255)(hq:q.length<=1000):Calls prog 200 #[.pointer (some ⟨g,0,none⟩),.int .i64 now] w fun r w'=>r=.returned (.tuple #[.agg #[.int .i64 nx,.string d],gv 0])/\kO w base g lf lt bag que v (if nx+1=256 then 1 else nx+1) now now q w':=by
 have u:=he.out;unfold px at u;obtain⟨ap,ac⟩: ∃ap:Int,(if nx+1=256 then 1 else nx+1)=ap:=⟨_,rfl⟩;rw[ac];have aa:=eJ ac;clear ac;have h12: ¬(now<0\/1099511627776<now):=by intro h;rw[aM h] at u;cases u
 rw[aI h12] at u;have h3: ¬now<nw:=by intro h;rw[aM h] at u;cases u
 rw[aI h3] at u;have h4: ¬(0<=la/\now-la<bag):=by intro h;rw[aM (.inr h)] at u;cases u
 have d1:decide (now<0)=false:=aH ah;have d2:decide (1099511627776<now)=false:=aH ah;have d3:decide (now<nw)=false:=aH h3;have d4:((q.length:Int)+1==0)=false:=by rw[aV];omega
 have c7:0<=now/\now<=1099511627776:=ah;have bz:=eJ (eN.new w 305 #[.int .i64 0,.string ⟨#[]⟩]);obtain⟨c0,c1,c2,c3,c4,c5,b5,bq⟩:=(K.alloc (.cells #[.int .i64 0,.string ⟨#[]⟩] 305)).qb;obtain⟨ao,c,b6,O⟩:=X.shape;simp only[jL,aP] at b6 O;subst b6;obtain⟨j,off,rfl,cn,cb,cc⟩:=X.block ah;have ch:w.cell? ⟨j,off,none⟩=some (.string d):=(show w.cell? ⟨j,off,none⟩=_ from cc 0 ah).trans (by simp[sv]);have b9:j≠g:=fun e=>Z (by rw[e];rfl);obtain⟨W1,I⟩:=ae ((w.alloc (.cells #[.int .i64 0,.string ⟨#[]⟩] 305)).setCell ⟨g,7,none⟩ (.int .i64 now));have be:eN W1 g 264 (Gr lf lt bag que (.slice (some ⟨j,off,none⟩) (q.length+1) c) nx la now):=by rw[I];exact(K.alloc _).eS 7 _
 have b4:eN W1 w.heap.size 305 #[.int .i64 0,.string ⟨#[]⟩]:=by rw[I];exact bz.out.iI (p:=⟨g,7,none⟩) (cW K.lt) _
 have a7:fK W1 base 9 (.slice (some ⟨j,off,none⟩) (q.length+1) c) (sv (d::q)):=by rw[I];exact(X.alloc _).iI (p:=⟨g,7,none⟩) Z _
 have cd:fL w W1 g (some j):=by rw[I];exact((fL.refl w g _).alloc _).eS 7 _
 have bn:W1.cell? ⟨j,off,none⟩=some (.string d):=qh a7;have cu:=(K.alloc (.cells #[.int .i64 0,.string ⟨#[]⟩] 305)).frozen 7;have b8:=eJ be;have ce:=eJ b4;have bw:=eJ a7;have b2:=eJ cd;have s:=eJ K.lt;have ct:=eJ b9;have bb:=eJ cb;have c9:=eJ bv;have cA:=eJ Z;have bx:=eJ O;clear u h12 h3 he K X O cn cc ch cb b9 bv Z bz b4 a7 cd;obtain⟨bm,bj,bf,a6,bl,bk,bi,bd⟩:=be.qb;clear be;go_enter func200,ntmps200;go_wp2_with fail;rw[<-I];clear I c0 c1 c2 c3 c4 c5 b5 bq cu;go_upto_region 6 with fail;go_cut [55] from 29 to 55 (fun v E=>v=.bool false/\∃n,E=W1.drewN n);case first=>
  by_cases T:0<=la
  ·have d5:decide (0<=la)=true:=aJ T;have d6:decide (now-la<bag)=false:=aH ah;clear h4 T;go_quiet (fail);go_wp2_with fail;go_meet;case rel=>exact⟨rfl,_,rfl⟩
  ·have d5:decide (0<=la)=false:=aH T;clear h4 T;go_quiet (fail);go_wp2_with fail;go_meet;case rel=>exact⟨rfl,_,rfl⟩
 case rest=>
  obtain⟨rfl,nq,rfl⟩:=hcut;clear h4 d1 d2 d3 d4;go_upto_region 8 with fail;go_cut [6] from 58 to 68 (fun p E=> ∃gx,p=.pointer (some ⟨gx,0,none⟩)/\Hid (w.heap.size<gx)/\Hid (eN E gx 305 #[.int .i64 nx,.string d])/\Hid (eN E g 264 (Gr lf lt bag que (.slice (some ⟨j,off,none⟩) (q.length+1) c) nx la now))/\Hid (eN E w.heap.size 305 #[.int .i64 0,.string ⟨#[]⟩])/\Hid (fK E base 9 (.slice (some ⟨j,off,none⟩) (q.length+1) c) (sv (d::q)))/\Hid (fL w E g (some j)));case first=>have b3:=eJ (b2.out.drewN nq);have al:=eJ (b8.out.drewN nq);have a8:=eJ (ce.out.drewN nq);have ad:=eJ (bw.out.drewN nq);obtain⟨W2,ca⟩:=ae (W1.drewN nq);rw[<-ca] at b3 al a8 ad⊢;clear ca b8 ce bw b2 bm bj bf a6 bl bk bi bd bn;obtain⟨bm,bj,bf,a6,bl,bk,bi,bd⟩:=al.out.qb;have dg:=qh ad.out;obtain⟨a0,a1,a2,a3,a4,a5,c8,cV⟩:=(al.out.alloc (.cells #[.int .i64 0,.string ⟨#[]⟩] 305)).qb;have cv:=qh (ad.out.alloc (.cells #[.int .i64 0,.string ⟨#[]⟩] 305));obtain⟨ck,cj,ci,cm⟩:=(eN.new W2 305 #[.int .i64 0,.string ⟨#[]⟩]).fQ;go_region;go_wp2_with fail;go_meet;case rel=>exact⟨W2.heap.size,rfl,eJ a8.out.lt,eJ (eN.new W2 _ _).drew,eJ (al.out.alloc _).drew,eJ (a8.out.alloc _).drew,eJ (ad.out.alloc _).drew,eJ (b3.out.alloc _).drew⟩
  case rest=>
   obtain⟨gx,rfl,co,cr,J,a9,bt,U⟩:=hcut;obtain⟨c0,c1,c2,c3,c4,c5,b5,bq⟩:=J.out.qb;obtain⟨ck,cj,ci,cm⟩:=cr.out.fQ;have f4:=J.out.frozen 4;have f5:=J.out.frozen 5;have f6:=J.out.frozen 6;have O:=bx.out;have ac:=co.out;have dd:=s.out;have cx:g≠gx:=ah;have dt:g≠w.heap.size:=ah;have dl:w.heap.size≠gx:=ah;obtain⟨cS,n1,ds,de⟩:=a9.out.fQ;clear bm bj bf a6 bl bk bi bd bn;go_upto_region 10 with fail;obtain⟨z,Y⟩: ∃z:Option Addr,z=if c=1 then some ⟨j,off,none⟩ else some ⟨j,off+1,none⟩:=⟨_,rfl⟩;rw[<-Y];have b7:Hid (fK wc base 9 (.slice z q.length (c-1)) (sv q)):=eJ (by rw[Y];exact bt.out.tail);have am:Hid ((Value.slice z q.length (c-1)).ownBlock=some j):=eJ (by rw[Y];split<;>rfl);clear Y O bx bt;have C:Hid ((Value.slice z q.length (c-1)).ownBlock≠some g):=eJ (by rw[am.out];intro e;exact ct.out (bg e));have aA:Hid ((Value.slice z q.length (c-1)).ownBlock≠some w.heap.size):=eJ (by rw[am.out];intro e;have:=bg e;have:=bb.out;omega);by_cases h256:nx+1=256
   ·have d7:(nx+1==256)=true:=by rw[h256];rfl
    obtain rfl:1=ap:=by rw[<-aa.out,aM h256]
    clear h256 aa;go_wp2_with fail;exact aR (kI _ _ w.heap.size _ _ _ rfl rfl ((((((a9.out.iI (p:=⟨g,4,none⟩) (cW s.out) _).iI (p:=⟨g,6,none⟩) (cW s.out) _).iI (p:=⟨g,5,none⟩) (cW s.out) _).iI (p:=⟨g,5,none⟩) (cW s.out) _).eS 0 _).eS 1 _)) rfl ⟨rfl,.slice z q.length (c-1),((((((J.out.eS 4 _).eS 6 _).eS 5 _).eS 5 _).iI (p:=⟨w.heap.size,0,none⟩) (bH s.out) _).iI (p:=⟨w.heap.size,1,none⟩) (bH s.out) _),((((((b7.out.iI (p:=⟨g,4,none⟩) C.out _).iI (p:=⟨g,6,none⟩) C.out _).iI (p:=⟨g,5,none⟩) C.out _).iI (p:=⟨g,5,none⟩) C.out _).iI (p:=⟨w.heap.size,0,none⟩) aA.out _).iI (p:=⟨w.heap.size,1,none⟩) aA.out _),((((((U.out.eS 4 _).eS 6 _).eS 5 _).eS 5 _).nD (p:=⟨w.heap.size,0,none⟩) (ar) _).nD (p:=⟨w.heap.size,1,none⟩) (ar) _),Ca am.out (by simpa[World.setCell] using aN bb.out U.out.size)⟩
   ·have d7:(nx+1==256)=false:=by rw[aV];exact h256
    obtain rfl:nx+1=ap:=by rw[<-aa.out,aI h256]
    clear h256 aa;go_wp2_with fail;exact aR (kI _ _ w.heap.size _ _ _ rfl rfl (((((a9.out.iI (p:=⟨g,4,none⟩) (cW s.out) _).iI (p:=⟨g,6,none⟩) (cW s.out) _).iI (p:=⟨g,5,none⟩) (cW s.out) _).eS 0 _).eS 1 _)) rfl ⟨rfl,.slice z q.length (c-1),(((((J.out.eS 4 _).eS 6 _).eS 5 _).iI (p:=⟨w.heap.size,0,none⟩) (bH s.out) _).iI (p:=⟨w.heap.size,1,none⟩) (bH s.out) _),(((((b7.out.iI (p:=⟨g,4,none⟩) C.out _).iI (p:=⟨g,6,none⟩) C.out _).iI (p:=⟨g,5,none⟩) C.out _).iI (p:=⟨w.heap.size,0,none⟩) aA.out _).iI (p:=⟨w.heap.size,1,none⟩) aA.out _),(((((U.out.eS 4 _).eS 6 _).eS 5 _).nD (p:=⟨w.heap.size,0,none⟩) (ar) _).nD (p:=⟨w.heap.size,1,none⟩) (ar) _),Ca am.out (by simpa[World.setCell] using aN bb.out U.out.size)⟩
end
structure Ad where
 g:Nat
 ck:Value
 mm:Value
 sd:Value
 tk:Value
 pr:Value
 gm:Nat→Nat
 gs:Nat→Nat
 vs:Nat→Value
 rt:Nat→Value
 gt:Nat→Nat→Nat
 rp:Nat→Value
 gp:Nat→Nat→Nat
 vp:Nat→Nat→Value
structure Cn where
 nm:Nat
 ns:Nat
 na:Nat
 nk:Nat→Nat
def eO(p:Pl):Cn:=⟨p.nd.toNat,p.lk.length,p.lk.length,fun k=>if k<p.lk.length then p.nd.toNat else 0⟩
abbrev fk(g:Nat):Value:=.pointer (some ⟨g,0,none⟩)
structure lz where
 s:Value
 l:Value
 q:Value
def shape(a:Ad)(n:Cn)(p:Pl)(P:lz)(fy:Nat)(c:Cl):Ix->Ob|.im=> .eW a.g 210 (wL p.nd p.fa p.sk p.ji p.dr p.rd P.s P.l p.fr P.q fy a.ck a.mm a.sd a.tk a.pr c.rd)|.jb=> .arr 3 a.ck (c.ck.map (Value.int .i64))|.memA=> .arr 211 a.mm ((List.range n.nm).map fun i=>fk (a.gm i))|.mem i=>if i<n.nm then .mem (a.gm i) i p.nd.toNat (c.mm i).m (c.mm i).gd (c.mm i).bd (c.mm i).fz else .none|.sndA=> .arr 217 a.sd ((List.range n.ns).map fun k=>fk (a.gs k))|.snd k=>if k<n.ns then(match p.lk[k]? with|none=> .none|some l=> .snd (a.gs k) (a.vs k) l.f l.t l.b l.q (c.sd k).nx (c.sd k).la (c.sd k).nw (c.sd k).q) else .none|.takA=> .arr 229 a.tk ((List.range n.na).map a.rt)|.takR k=> .arr 232 (a.rt k) ((List.range (n.nk k)).map fun i=>fk (a.gt k i))|.nK k i=>if i<n.nk k then .nK (a.gt k i) (c.tk k i).nw (c.tk k i).c0 (c.tk k i).c1 else .none|.prtA=> .arr 220 a.pr ((List.range n.na).map a.rp)|.prtR k=> .arr 219 (a.rp k) ((List.range (n.nk k)).map fun i=>fk (a.gp k i))|.prt k i=>if i<n.nk k then .prt (a.gp k i) (a.vp k i) 16 (c.pr k i).lost (c.pr k i).q else .none|.loc _=> .none
abbrev fW(w:World)(base:Nat)(a:Ad)(n:Cn)(p:Pl)(P:lz)(fy:Nat)(c:Cl):Prop:=fx w base (shape a n p P fy c)
def py(S:Ix->Ob)(k:Nat):Prop:= ∃x,k∈(S x).eX
structure fV (w w':World) (S S':Ix→Ob):Prop where
 os:w'.os=w.os
 tape:w'.tape=w.tape
 output:w'.output=w.output
 size:w.heap.size≤w'.heap.size
 block: ∀i,i<w.heap.size→¬py S i→w'.heap[i]? =w.heap[i]?
 gJ: ∀k,py S' k→py S k∨w.heap.size≤k
section
variable {w w' w2:World}{base:Nat}{S S' S2:Ix->Ob}
theorem fV.trans(h:fV w w' S S')(h2:fV w' w2 S' S2):fV w w2 S S2:=⟨h2.os.trans h.os,h2.tape.trans h.tape,h2.output.trans h.output,aK h.size h2.size,fun i hi hn=>(h2.block i (aN hi h.size) (fun j=>(h.gJ i j).elim hn (fun e=>ah))).trans (h.block i hi hn),fun k j=>(h2.gJ k j).elim (h.gJ k) (fun e=> .inr (aK h.size e))⟩
theorem fV.fC(hB:Below w.heap.size w w'):fV w w' S S:=⟨hB.os,hB.tape,hB.output,hB.size,fun i hi _=>hB.block i hi,fun _ h=> .inl h⟩
theorem fV.below(h:fV w w' S S')(hB:Below w'.heap.size w' w2):fV w w2 S S':=h.trans (.fC hB)
theorem fV.drewN(h:fV w w' S S')(n:Nat):fV w (w'.drewN n) S S':=h.below (below_drewN (au) n)
theorem fV.CO(x:Ix)(o:Ob)(hk:ka w w' (S x).eX)(s: ∀k,k∈o.eX->k∈(S x).eX\/w.heap.size<=k):fV w w' S (iv S x o):=by
 refine⟨hk.os,hk.tape,hk.output,hk.size,fun i hi hn=>hk.block i hi (fun hm=>hn ⟨x,hm⟩), ?_⟩;rintro k ⟨y,j⟩;by_cases e:y=x
 ·subst e;rw[fq] at j;exact(s k j).imp (fun h=>⟨_,h⟩) id
 ·rw[putO_ne _ e] at j;exact .inl ⟨y,j⟩
theorem fV.eW{g:Nat}{t:TypeId}{cs:Array Value}(h:fV w w' S S')(e:eN w g t cs)(hn: ¬py S g):eN w' g t cs:=(h.block g e.lt hn).trans e
theorem fV.not(h:fV w w' S S'){g:Nat}(s:g<w.heap.size)(hn: ¬py S g): ¬py S' g:=fun j=>(h.gJ g j).elim hn (fun e=>ah)
theorem fx.ky(h:fx w base S){g:Nat}(j:w.heap.size<=g): ¬py S g:=fun ⟨x,e⟩=>by have:=(h.own x g e).2;omega
theorem fx.step(h:fx w base S)(x:Ix)(o:Ob)(hk:ka w w' (S x).eX)(j:o.At w' base)(e: ∀k,k∈o.eX->k<w'.heap.size/\(k∈(S x).eX\/w.heap.size<=k))(s:base<=w.heap.size):fx w' base (iv S x o)/\fV w w' S (iv S x o):=⟨h.uW x o hk j e s,.CO x o hk (fun k hm=>(e k hm).2)⟩
theorem fx.Pu(h:fx w base S)(x:Ix){g id n m:Nat}{fe bad:Int}{fz:Bool}(s:S x=.mem g id n m fe bad fz)(e j m':Nat)(good' bad':Int)(fz':Bool)(u:eN w' g 261 (jn e j m' good' bad' fz'))(z:w.grownBy w' (some g))(C:base<=w.heap.size):fx w' base (iv S x (.mem g e j m' good' bad' fz'))/\fV w w' S (iv S x (.mem g e j m' good' bad' fz')):=h.step x _ (by rw[s];exact nU z) u (fun k hm=>by rw[s];simp only[Ob.eX,bO] at hm⊢;subst hm;exact⟨u.lt,.inl rfl⟩) C
theorem fx.PQ(h:fx w base S)(x:Ix){g:Nat}{nw c0 c1:Int}(u:S x=.nK g nw c0 c1)(s j e:Int)(z:eN w' g 275 #[.int .i64 s,.int .i64 j,.int .i64 e])(C:w.grownBy w' (some g))(E:base<=w.heap.size):fx w' base (iv S x (.nK g s j e))/\fV w w' S (iv S x (.nK g s j e)):=h.step x _ (by rw[u];exact nU C) z (fun k hm=>by rw[u];simp only[Ob.eX,bO] at hm⊢;subst hm;exact⟨z.lt,.inl rfl⟩) E
theorem fx.Pm(h:fx w base S)(x:Ix){g:Nat}{v:Value}{lf lt bag que nx la nw u j z:Int}{q e:List ByteArray}(s:S x=.snd g v lf lt bag que nx la nw q)(hp:kO w base g lf lt bag que v u j z e w')(J:base<=w.heap.size): ∃v',fx w' base (iv S x (.snd g v' lf lt bag que u j z e))/\fV w w' S (iv S x (.snd g v' lf lt bag que u j z e)):=by have h1:=h.at_ x;rw[s] at h1;obtain⟨v',C,I,hk,E⟩:=hp;exact⟨v',h.step x _ (by rw[s];exact hk.KN) ⟨C,I,yO h1.1.lt h1.2.2 E⟩ (by rw[s];exact wC C.lt E) J⟩
theorem fx.PN(h:fx w base S)(x:Ix){g:Nat}{v:Value}{most lost s:Int}{q e:List ByteArray}(j:S x=.prt g v most lost q)(hp:nH w base g most v s e w')(E:base<=w.heap.size): ∃v',fx w' base (iv S x (.prt g v' most s e))/\fV w w' S (iv S x (.prt g v' most s e)):=by have h1:=h.at_ x;rw[j] at h1;obtain⟨v',u,C,hk,z⟩:=hp;exact⟨v',h.step x _ (by rw[j];exact hk.KN) ⟨u,C,yO h1.1.lt h1.2.2 z⟩ (by rw[j];exact wC u.lt z) E⟩
end
section
variable {a:Ad}{n:Cn}{p:Pl}{P:lz}{fy:Nat}{c:Cl}
theorem EK {i:Nat} (hi:i<n.nm) (x:Mm):iv (shape a n p P fy c) (.mem i) (.mem (a.gm i) i p.nd.toNat x.m x.gd x.bd x.fz)=shape a n p P fy {c with mm:=eV c.mm i x}:=by
 funext y
 cases y with
 |mem j=>
  by_cases e:j=i
  ·subst e;simp[shape,eV,hi]
  ·rw[putO_ne _ (by simpa using e)];simp[shape,eV,e]
 |_=>rw[putO_ne _ ak];rfl
theorem FF{k i:Nat}(hi:i<n.nk k)(x:Tk):iv (shape a n p P fy c) (.nK k i) (.nK (a.gt k i) x.nw x.c0 x.c1)=shape a n p P fy {c with tk:=fM c.tk k i x}:=by
 funext y;cases y with
  |nK h j=>
   by_cases e:h=k/\j=i
   ·obtain⟨rfl,rfl⟩:=e;simp[shape,fM,hi]
   ·rw[putO_ne _ (by simpa using e)];simp[shape,fM,e]
  |_=>rw[putO_ne _ ak];rfl
theorem FK{k i:Nat}(hi:i<n.nk k)(v:Value)(x:Pr):iv (shape a n p P fy c) (.prt k i) (.prt (a.gp k i) v 16 x.lost x.q)=shape {a with vp:=fM a.vp k i v} n p P fy {c with pr:=fM c.pr k i x}:=by
 funext y;cases y with
  |prt h j=>
   by_cases e:h=k/\j=i
   ·obtain⟨rfl,rfl⟩:=e;simp[shape,fM,hi]
   ·rw[putO_ne _ (by simpa using e)];simp[shape,fM,e]
  |_=>rw[putO_ne _ ak];rfl
theorem En{k:Nat}{l:Lk}(hi:k<n.ns)(hl:p.lk[k]? =some l)(v:Value)(x:Sd):iv (shape a n p P fy c) (.snd k) (.snd (a.gs k) v l.f l.t l.b l.q x.nx x.la x.nw x.q)=shape {a with vs:=eV a.vs k v} n p P fy {c with sd:=eV c.sd k x}:=by
 funext y;cases y with
  |snd j=>
   by_cases e:j=k
   ·subst e;simp[shape,eV,hi,hl]
   ·rw[putO_ne _ (by simpa using e)];simp[shape,eV,e]
  |_=>rw[putO_ne _ ak];rfl
variable {w:World}{base:Nat}
theorem mh{f:Nat->Value}{t:TypeId}{v:Value}{m i:Nat}(h:fK w base t v ((List.range m).map f))(hi:i<m): ∃b off cp,v=.slice (some ⟨b,off,none⟩) m cp/\w.cell? ⟨b,off+i,none⟩=some (f i):=by obtain⟨ao,cp,rfl,_⟩:=h.shape;simp only[aY,br] at h⊢;obtain⟨b,off,rfl,_,_,e⟩:=h.block ah;exact⟨b,off,cp,rfl,by rw[e i hi];simp[hi]⟩
theorem fx.gA(h:fW w base a n p P fy c):eN w a.g 210 (wL p.nd p.fa p.sk p.ji p.dr p.rd P.s P.l p.fr P.q fy a.ck a.mm a.sd a.tk a.pr c.rd):=h.at_ .im
theorem fx.NG(h:fW w base a n p P fy c){i:Nat}(hi:i<n.nm):eN w (a.gm i) 261 (jn i p.nd.toNat (c.mm i).m (c.mm i).gd (c.mm i).bd (c.mm i).fz):=by have:=h.at_ (.mem i);simpa[shape,hi,Ob.At] using this
theorem fx.N7(h:fW w base a n p P fy c){k i:Nat}(hi:i<n.nk k):eN w (a.gt k i) 275 #[.int .i64 (c.tk k i).nw,.int .i64 (c.tk k i).c0,.int .i64 (c.tk k i).c1]:=by have:=h.at_ (.nK k i);simpa[shape,hi,Ob.At] using this
theorem fx.ER(h:fW w base a n p P fy c){k i:Nat}(hi:i<n.nk k):eN w (a.gp k i) 266 (GC 16 (a.vp k i) (c.pr k i).lost)/\fK w base 9 (a.vp k i) (sv (c.pr k i).q)/\(a.vp k i).ownBlock≠some (a.gp k i)/\∀b,(a.vp k i).ownBlock=some b->b<w.heap.size:=by have h1:=h.at_ (.prt k i);have h2:=h.own (.prt k i);simp only[shape,hi,Ob.At,eF] at h1;exact⟨h1.1,h1.2.1,h1.2.2,fun b e=>(h2 b (by simp[shape,hi,Ob.eX,e])).2⟩
theorem fx.Pd(h:fW w base a n p P fy c){k:Nat}{l:Lk}(hi:k<n.ns)(hl:p.lk[k]? =some l):eN w (a.gs k) 264 (Gr l.f l.t l.b l.q (a.vs k) (c.sd k).nx (c.sd k).la (c.sd k).nw)/\fK w base 9 (a.vs k) (sv (c.sd k).q)/\(a.vs k).ownBlock≠some (a.gs k)/\∀b,(a.vs k).ownBlock=some b->b<w.heap.size:=by have h1:=h.at_ (.snd k);have h2:=h.own (.snd k);simp only[shape,hi,hl,Ob.At,eF] at h1;exact⟨h1.1,h1.2.1,h1.2.2,fun b e=>(h2 b (by simp[shape,hi,hl,Ob.eX,e])).2⟩
theorem fx.LH(h:fW w base a n p P fy c){G M:Nat}(hG:a.g=G)(hM:n.nm=M){i:Nat}(hi:i<M): ∃b off cp,w.cell? ⟨G,12,none⟩=some (.slice (some ⟨b,off,none⟩) M cp)/\w.cell? ⟨b,off+i,none⟩=some (.pointer (some ⟨a.gm i,0,none⟩)):=by subst hM;obtain⟨b,off,cp,e,j⟩:=mh (h.at_ .memA) hi;have:=(gA h).cell 12;simp at this;rw[e,hG] at this;exact⟨b,off,cp,this,j⟩
theorem fx.Pb(h:fW w base a n p P fy c){G M:Nat}(hG:a.g=G)(hM:n.ns=M){k:Nat}(hi:k<M): ∃b off cp,w.cell? ⟨G,13,none⟩=some (.slice (some ⟨b,off,none⟩) M cp)/\w.cell? ⟨b,off+k,none⟩=some (.pointer (some ⟨a.gs k,0,none⟩)):=by subst hM;obtain⟨b,off,cp,e,j⟩:=mh (h.at_ .sndA) hi;have:=(gA h).cell 13;simp at this;rw[e,hG] at this;exact⟨b,off,cp,this,j⟩
theorem fx.QZ(h:fW w base a n p P fy c){G M M2:Nat}(hG:a.g=G){k i:Nat}(hM:n.na=M)(s:n.nk k=M2)(hk:k<M)(hi:i<M2): ∃b off cp b2 off2 cp2,w.cell? ⟨G,15,none⟩=some (.slice (some ⟨b,off,none⟩) M cp)/\w.cell? ⟨b,off+k,none⟩=some (.slice (some ⟨b2,off2,none⟩) M2 cp2)/\w.cell? ⟨b2,off2+i,none⟩=some (.pointer (some ⟨a.gp k i,0,none⟩)):=by subst hM s;obtain⟨b,off,cp,e,j⟩:=mh (h.at_ .prtA) hk;obtain⟨b2,off2,cp2,u,z⟩:=mh (h.at_ (.prtR k)) hi;have:=(gA h).cell 15;simp at this;rw[e,hG] at this;rw[u] at j;exact⟨b,off,cp,b2,off2,cp2,this,j,z⟩
theorem yr{f:Nat->Value}{t:TypeId}{v:Value}{m i b off cp:Nat}(h:fK w base t v ((List.range m).map f))(e:v=.slice (some ⟨b,off,none⟩) m cp)(hi:i<m):w.cell? ⟨b,off+i,none⟩=some (f i):=by obtain⟨b2,off2,cp2,j,s⟩:=mh h hi;rw[e] at j;cases j;exact s
theorem DN{f:Nat->Value}{t:TypeId}{v:Value}{m:Nat}(h:fK w base t v ((List.range m).map f))(hi:0<m): ∃b off cp,v=.slice (some ⟨b,off,none⟩) m cp:=by obtain⟨b,off,cp,e,_⟩:=mh h hi;exact⟨b,off,cp,e⟩
theorem fx.QE(h:fW w base a n p P fy c){M M2 k:Nat}(hM:n.na=M)(j:n.nk k=M2)(hk:0<M)(hi:0<M2): ∃b off cp b2 off2 cp2,a.tk=.slice (some ⟨b,off,none⟩) M cp/\a.rt k=.slice (some ⟨b2,off2,none⟩) M2 cp2:=by subst hM j;obtain⟨b,off,cp,e⟩:=DN (h.at_ .takA) hk;obtain⟨b2,off2,cp2,s⟩:=DN (h.at_ (.takR k)) hi;exact⟨b,off,cp,b2,off2,cp2,e,s⟩
theorem fx.Po(h:fW w base a n p P fy c){G M M2 k i b off cp b2 off2 cp2:Nat}(hG:a.g=G)(hM:n.na=M)(s:n.nk k=M2)(hk:k<M)(hi:i<M2)(e:a.tk=.slice (some ⟨b,off,none⟩) M cp)(j:a.rt k=.slice (some ⟨b2,off2,none⟩) M2 cp2):w.cell? ⟨G,14,none⟩=some (.slice (some ⟨b,off,none⟩) M cp)/\w.cell? ⟨b,off+k,none⟩=some (.slice (some ⟨b2,off2,none⟩) M2 cp2)/\w.cell? ⟨b2,off2+i,none⟩=some (.pointer (some ⟨a.gt k i,0,none⟩)):=by subst hM s;have h1:=yr (h.at_ .takA) e hk;have h2:=yr (h.at_ (.takR k)) j hi;have h3:=(gA h).cell 14;simp at h3;rw[e,hG] at h3;rw[j] at h1;exact⟨h3,h1,h2⟩
theorem fx.QH(h:fW w base a n p P fy c){M M2 k:Nat}(hM:n.na=M)(j:n.nk k=M2)(hk:0<M)(hi:0<M2): ∃b off cp b2 off2 cp2,a.pr=.slice (some ⟨b,off,none⟩) M cp/\a.rp k=.slice (some ⟨b2,off2,none⟩) M2 cp2:=by subst hM j;obtain⟨b,off,cp,e⟩:=DN (h.at_ .prtA) hk;obtain⟨b2,off2,cp2,s⟩:=DN (h.at_ (.prtR k)) hi;exact⟨b,off,cp,b2,off2,cp2,e,s⟩
theorem fx.PY(h:fW w base a n p P fy c){G M M2 k i b off cp b2 off2 cp2:Nat}(hG:a.g=G)(hM:n.na=M)(s:n.nk k=M2)(hk:k<M)(hi:i<M2)(e:a.pr=.slice (some ⟨b,off,none⟩) M cp)(j:a.rp k=.slice (some ⟨b2,off2,none⟩) M2 cp2):w.cell? ⟨G,15,none⟩=some (.slice (some ⟨b,off,none⟩) M cp)/\w.cell? ⟨b,off+k,none⟩=some (.slice (some ⟨b2,off2,none⟩) M2 cp2)/\w.cell? ⟨b2,off2+i,none⟩=some (.pointer (some ⟨a.gp k i,0,none⟩)):=by subst hM s;have h1:=yr (h.at_ .prtA) e hk;have h2:=yr (h.at_ (.prtR k)) j hi;have h3:=(gA h).cell 15;simp at h3;rw[e,hG] at h3;rw[j] at h1;exact⟨h3,h1,h2⟩
end
section
variable {a:Ad}{n:Cn}{p:Pl}{P:lz}{fy:Nat}{c:Cl}{w:World}{base:Nat}
theorem fx.ru(h:fW w base a n p P fy c){G:Nat}(hG:a.g=G):w.cell? ⟨G,0,none⟩=some (.int .i64 p.nd)/\w.cell? ⟨G,1,none⟩=some (.int .i64 p.fa)/\w.cell? ⟨G,2,none⟩=some (.int .i64 p.sk)/\w.cell? ⟨G,3,none⟩=some (.int .i64 p.ji)/\w.cell? ⟨G,4,none⟩=some (.int .i64 p.dr)/\w.cell? ⟨G,5,none⟩=some (.int .i64 p.rd)/\w.cell? ⟨G,6,none⟩=some P.s/\w.cell? ⟨G,7,none⟩=some P.l/\w.cell? ⟨G,16,none⟩=some (.int .i64 c.rd):=by subst hG;have e:=gA h;have z:=e.cell 0;have u:=e.cell 1;have j:=e.cell 2;have C:=e.cell 3;have E:=e.cell 4;have J:=e.cell 5;have I:=e.cell 6;have O:=e.cell 7;have K:=e.cell 16;simp at z u j C E J I O K;exact⟨z,u,j,C,E,J,I,O,K⟩
end
theorem fj{w w':World}{b:Nat}(h:w'.heap[b]? =w.heap[b]?)(o:Nat):w'.cell? ⟨b,o,none⟩=w.cell? ⟨b,o,none⟩:=by unfold World.cell?;simp only[h]
def iG(w:World)(base:Nat)(a:Ad)(n:Cn)(p:Pl)(P:lz)(fy:Nat)(c:Cl)(w':World)(c':Cl):Prop:= ∃e:Ad,e.g=a.g/\fW w' base e n p P fy c'/\fV w w' (shape a n p P fy c) (shape e n p P fy c')
section
variable {a a1:Ad}{n:Cn}{p:Pl}{P:lz}{fy:Nat}{c c1 c2:Cl}{w w' w2:World}{base:Nat}
theorem iG.refl(h:fW w base a n p P fy c)(hB:Below w.heap.size w w'):iG w base a n p P fy c w' c:=⟨a,rfl,h.below hB,.fC hB⟩
theorem iG.below(h:iG w base a n p P fy c w' c1)(hB:Below w'.heap.size w' w2):iG w base a n p P fy c w2 c1:=by obtain⟨j,e,h1,hk⟩:=h;exact⟨j,e,h1.below hB,hk.below hB⟩
theorem iG.trans(hk:fV w w' (shape a n p P fy c) (shape a1 n p P fy c1))(e:a1.g=a.g)(h:iG w' base a1 n p P fy c1 w2 c2):iG w base a n p P fy c w2 c2:=by obtain⟨u,j,h1,s⟩:=h;exact⟨u,j.trans e,h1,hk.trans s⟩
theorem fx.QT(h:fW w base a n p P fy c){k i:Nat}(hi:i<n.nk k)(x:Int)(e:eN w' (a.gt k i) 275 (jV x (c.tk k i).nw (c.tk k i).c0 (c.tk k i).c1))(s:w.grownBy w' (some (a.gt k i)))(j:base<=w.heap.size):fW w' base a n p P fy {c with tk:=fM c.tk k i ((c.tk k i).take x)}/\fV w w' (shape a n p P fy c) (shape a n p P fy {c with tk:=fM c.tk k i ((c.tk k i).take x)}):=by
 rw[Tk.MQ] at e;have u:shape a n p P fy c (.nK k i)=.nK (a.gt k i) (c.tk k i).nw (c.tk k i).c0 (c.tk k i).c1:=by simp[shape,hi]
 have:=h.PQ (.nK k i) u _ _ _ e s j;rw[FF hi] at this;exact this
theorem fx.put(h:fW w base a n p P fy c){k i:Nat}(hi:i<n.nk k)(x:Pr)(hp:nH w base (a.gp k i) 16 (a.vp k i) x.lost x.q w')(e:base<=w.heap.size): ∃v,fW w' base {a with vp:=fM a.vp k i v} n p P fy {c with pr:=fM c.pr k i x}/\fV w w' (shape a n p P fy c) (shape {a with vp:=fM a.vp k i v} n p P fy {c with pr:=fM c.pr k i x}):=by
 have j:shape a n p P fy c (.prt k i)=.prt (a.gp k i) (a.vp k i) 16 (c.pr k i).lost (c.pr k i).q:=by simp[shape,hi]
 obtain⟨v,this⟩:=h.PN (.prt k i) j hp e;rw[FK hi] at this;exact⟨v,this⟩
theorem fx.Oz(h:fW w base a n p P fy c){k:Nat}{l:Lk}(hi:k<n.ns)(hl:p.lk[k]? =some l)(x:Sd)(hp:kO w base (a.gs k) l.f l.t l.b l.q (a.vs k) x.nx x.la x.nw x.q w')(e:base<=w.heap.size): ∃v,fW w' base {a with vs:=eV a.vs k v} n p P fy {c with sd:=eV c.sd k x}/\fV w w' (shape a n p P fy c) (shape {a with vs:=eV a.vs k v} n p P fy {c with sd:=eV c.sd k x}):=by
 have j:shape a n p P fy c (.snd k)=.snd (a.gs k) (a.vs k) l.f l.t l.b l.q (c.sd k).nx (c.sd k).la (c.sd k).nw (c.sd k).q:=by simp[shape,hi,hl]
 obtain⟨v,this⟩:=h.Pm (.snd k) j hp e;rw[En hi hl] at this;exact⟨v,this⟩
theorem fx.M0(h:fW w base a n p P fy c){i:Nat}(hi:i<n.nm)(x:Mm)(u:eN w' (a.gm i) 261 (jn i p.nd.toNat x.m x.gd x.bd x.fz))(j:w.grownBy w' (some (a.gm i)))(e:base<=w.heap.size):fW w' base a n p P fy {c with mm:=eV c.mm i x}/\fV w w' (shape a n p P fy c) (shape a n p P fy {c with mm:=eV c.mm i x}):=by
 have s:shape a n p P fy c (.mem i)=.mem (a.gm i) i p.nd.toNat (c.mm i).m (c.mm i).gd (c.mm i).bd (c.mm i).fz:=by simp[shape,hi]
 have:=h.Pu (.mem i) s i p.nd.toNat x.m x.gd x.bd x.fz u j e;rw[EK hi] at this;exact this
end
structure gl (p:Pl):Prop where
 n1:1≤p.nd
 n16:p.nd≤16
 f0:0≤p.fa
 f3:3*p.fa+1≤p.nd
 sk:0≤p.sk∧p.sk≤137438953472
 ji:0≤p.ji∧p.ji≤137438953472
 dr:0≤p.dr∧p.dr≤137438953472
 rd:1≤p.rd∧p.rd≤137438953472
 sl:p.sl.length≤32
 lk:p.lk.length≤8
 Rc:p.sk/2+2*p.ji+1+2*p.dr≤p.sk
 slot: ∀(k:Nat) (s:Sl),p.sl[k]? =some s→0≤s.n∧s.n<p.nd∧0≤s.f∧s.f≤137438953472
 link: ∀(k:Nat) (l:Lk),p.lk[k]? =some l→0≤l.f∧l.f<p.nd∧0<l.t∧l.t<2^p.nd.toNat∧l.t.toNat.testBit l.f.toNat=false∧1≤l.b∧l.b≤137438953472∧1≤l.q∧l.q≤16
theorem OO{sk rd nd lo:Int}{s:Sl}(h:AD sk rd nd lo s=0):s.f<s.t/\lo<=s.f/\s.t<=rd-sk-1/\0<=s.n/\s.n<nd:=by
 unfold AD at h;split at h
 ·rename_i h1;exact absurd h h1
 ·rename_i h1;have h2:pc s.f s.t lo (rd-sk-1)=0:=by simpa using h1
  unfold pc at h2;repeat' split at h2
  all_goals first|(exact absurd h2 aj)|skip
  split at h
  ·exact absurd h aj
  ·omega
theorem LA{sk rd nd:Int}(z:0<=sk){l:List Sl}: ∀{lo:Int},0<=lo->(∀j,j<l.length->(oM sk rd nd lo l)[j]? =some 0)->∀(k:Nat)(s:Sl),l[k]? =some s->0<=s.n/\s.n<nd/\0<=s.f/\s.f<=rd:=by induction l with|nil=>intro lo _ _ k s h;simp at h|cons x l e=>intro lo E h k s hk;have h0:=h 0 ak;simp[oM] at h0;have C:=OO h0;cases k with|zero=>simp at hk;subst hk;omega|succ k=>exact e (lo:=x.t+sk+1) ah (fun j u=>by simpa[oM] using h (j+1) ag) k s (by simpa using hk)
theorem gl.of{p:Pl}(h:iO p=(0,-1)):gl p:=by
 unfold iO at h;split at h
 ·rename_i h1;exact absurd (aO Prod.fst h) h1
 ·rename_i h1;have h1:iK p=0:=by simpa using h1
  split at h
  ·rename_i h2;exact absurd (aO Prod.fst h) h2
  ·rename_i h2;split at h
   ·rename_i h3;exact absurd (aO Prod.fst h) h3
   ·rename_i h3;have hs:=mw _ _ (by simpa using h2);have hl:=mw _ _ (by simpa using h3);rw[uQ] at hs;rw[aY] at hl;clear h h2 h3;unfold iK at h1;repeat' split at h1
    all_goals first|(exact absurd h1 aj)|skip
    refine⟨ah,ah,ah,ah,ah,ah,ah,ah,ah,ah,ah,fun k s hk=> ?_,fun k l hk=> ?_⟩
    ·have:=LA ah (dV 0) hs k s hk;omega
    ·have e:k<p.lk.length:=(aQ.1 hk).1;have:=hl k e;rw[bp,hk] at this;simp at this;unfold sH at this;repeat' split at this
     all_goals first|(exact absurd this aj)|skip
     rename_i a1 a2 a3;unfold ki at a2;simp at a2;exact⟨ah,ah,ah,a2.1.2,a2.2,ah,ah,ah,ah⟩
structure gH (p:Pl) (N:Nat) (c:Cl):Prop where
 len:c.ck.length=p.nd.toNat
 ck: ∀j,-274877906944≤c.ck.getD j 0∧c.ck.getD j 0≤274877906944
 rd:0≤c.rd
 mm: ∀i,(c.mm i).m<65536∧0≤(c.mm i).gd∧(c.mm i).gd≤N∧0≤(c.mm i).bd∧(c.mm i).bd≤N
 sd: ∀k,0≤(c.sd k).nx∧(c.sd k).nx≤255∧-1≤(c.sd k).la∧(c.sd k).la≤1099511627776∧(c.sd k).q.length≤16∧∀d∈(c.sd k).q,d.size≤40
 tk: ∀k i,-1≤(c.tk k i).nw∧(c.tk k i).nw≤255∧0≤(c.tk k i).c0∧(c.tk k i).c0≤N∧0≤(c.tk k i).c1∧(c.tk k i).c1≤N
 pr: ∀k i,0≤(c.pr k i).lost∧(c.pr k i).lost≤N∧(c.pr k i).q.length≤16
section
variable {p:Pl}{N:Nat}{c:Cl}
theorem gH.mono(h:gH p N c){M:Nat}(hM:N<=M):gH p M c:=⟨h.len,h.ck,h.rd,fun i=>by have:=h.mm i;omega,h.sd,fun k i=>by have:=h.tk k i;omega,fun k i=>by have:=h.pr k i;omega⟩
theorem Kj{m fr:Nat}(hm:m<65536)(e:fr<16):m|||2^fr<65536:=by have:(2:Nat)^fr<2^16:=Nat.pow_lt_pow_right ah e;exact dM (n:=16) hm this
theorem A6{m x:Nat}(hm:m<65536)(e:x<65536):m^^^x<65536:=dX (n:=16) hm e
theorem Hl{m x:Nat}(hm:m<65536):yz m x<65536:=by unfold yz;exact A6 hm (cO Nat.and_le_left hm)
theorem Mm.MJ{s:Mm}{fr:Nat}{e:Int}(h:s.m<65536/\0<=s.gd/\s.gd<=N/\0<=s.bd/\s.bd<=N)(j:fr<16):(s.mi fr e).m<65536/\0<=(s.mi fr e).gd/\(s.mi fr e).gd<=(N+1:Nat)/\0<=(s.mi fr e).bd/\(s.mi fr e).bd<=(N+1:Nat):=by
 unfold Mm.mi;have h1:=Kj h.1 j;have h2:=Hl (x:=2^fr) h.1;split
 ·omega
 ·split
  ·exact⟨h1,by dsimp only;omega,by dsimp only;omega,by dsimp only;omega,by dsimp only;omega⟩
  ·split<;>exact⟨h2,by dsimp only;omega,by dsimp only;omega,by dsimp only;omega,by dsimp only;omega⟩
theorem Mm.yB{s:Mm}(h:s.m<65536/\0<=s.gd/\s.gd<=N/\0<=s.bd/\s.bd<=N):s.send.m<65536/\0<=s.send.gd/\s.send.gd<=(N+1:Nat)/\0<=s.send.bd/\s.send.bd<=(N+1:Nat):=by
 unfold Mm.send;split
 ·omega
 ·split<;>exact⟨h.1,by dsimp only;omega,by dsimp only;omega,by dsimp only;omega,by dsimp only;omega⟩
theorem Hu{x nw:Int}(h:gS x nw=true):0<=x/\x<=255:=by unfold gS at h;simp at h;exact h.1
theorem Tk.Ki{s:Tk}{x:Int}(h:-1<=s.nw/\s.nw<=255/\0<=s.c0/\s.c0<=N/\0<=s.c1/\s.c1<=N):-1<=(s.take x).nw/\(s.take x).nw<=255/\0<=(s.take x).c0/\(s.take x).c0<=(N+1:Nat)/\0<=(s.take x).c1/\(s.take x).c1<=(N+1:Nat):=by
 unfold Tk.take;cases e:gS x s.nw
 ·dsimp only[cond];omega
 ·have:=Hu e;dsimp only[cond];omega
theorem Pr.Ns{s:Pr}{d:ByteArray}(h:0<=s.lost/\s.lost<=N/\s.q.length<=16):0<=(s.put d).lost/\(s.put d).lost<=(N+1:Nat)/\(s.put d).q.length<=16:=by
 unfold Pr.put lu jg;dsimp only;refine⟨?_, ?_, ?_⟩
 ·split<;>omega
 ·split<;>omega
 ·repeat' split
  all_goals first|omega|(rename_i h1;exact absurd h1 aj)|(rw[aT,ed];omega)
theorem gH.Di(h:gH p N c)(i:Nat){x:Mm}(e:x.m<65536/\0<=x.gd/\x.gd<=(N+1:Nat)/\0<=x.bd/\x.bd<=(N+1:Nat)):gH p (N+1) {c with mm:=eV c.mm i x}:={(h.mono (aU N)) with mm:=fun j=>by dsimp only[eV];split;exact e;exact(h.mono (aU N)).mm j}
theorem gH.Pv(h:gH p N c)(k i:Nat){x:Tk}(e:-1<=x.nw/\x.nw<=255/\0<=x.c0/\x.c0<=(N+1:Nat)/\0<=x.c1/\x.c1<=(N+1:Nat)):gH p (N+1) {c with tk:=fM c.tk k i x}:={(h.mono (aU N)) with tk:=fun a b=>by dsimp only[fM];split;exact e;exact(h.mono (aU N)).tk a b}
theorem gH.M4(h:gH p N c)(k i:Nat){x:Pr}(e:0<=x.lost/\x.lost<=(N+1:Nat)/\x.q.length<=16):gH p (N+1) {c with pr:=fM c.pr k i x}:={(h.mono (aU N)) with pr:=fun a b=>by dsimp only[fM];split;exact e;exact(h.mono (aU N)).pr a b}
theorem gH.Ic(h:gH p N c)(k:Nat){x:Sd}(e:0<=x.nx/\x.nx<=255/\-1<=x.la/\x.la<=1099511627776/\x.q.length<=16/\∀d∈x.q,d.size<=40):gH p N {c with sd:=eV c.sd k x}:={h with sd:=fun j=>by dsimp only[eV];split;exact e;exact h.sd j}
theorem gH.chan(h:gH p N c)(tn:Nat)(f:mB):gH p (N+2) (iC p tn f c):=by
 unfold iC;split
 ·exact h.mono ah
 ·split
  ·exact h.mono ah
  ·split
   ·have h1:=h.Pv f.lk.toNat tn (Tk.Ki (x:=f.sq) (h.tk f.lk.toNat tn));split
    ·exact h1.M4 f.lk.toNat tn (Pr.Ns (d:=f.d) (by exact h1.pr f.lk.toNat tn))
    ·exact h1.mono ah
   ·exact h.mono ah
end
structure MW (K:World→(Ix→Ob)→Prop):Prop where
 step: ∀{w w':World} {S S':Ix→Ob},K w S→fV w w' S S'→K w' S'
theorem MW.KM{K:World->(Ix->Ob)->Prop}(h:MW K){w w':World}{S:Ix->Ob}(h0:K w S)(hB:Below w.heap.size w w'):K w' S:=h.step h0 (.fC hB)
def Lp(w1:World)(bs:Nat->Prop)(w:World)(S:Ix->Ob):Prop:=w1.heap.size<=w.heap.size/\∀k,bs k->k<w1.heap.size/\¬py S k/\w.heap[k]? =w1.heap[k]?
theorem Lp.cls(w1:World)(bs:Nat->Prop):MW (Lp w1 bs):=⟨fun {w w' S S'} h hk=>⟨aK h.1 hk.size,fun k e=>by obtain⟨h1,h2,h3⟩:=h.2 k e;exact⟨h1,hk.not (aN h1 h.1) h2,(hk.block k (aN h1 h.1) h2).trans h3⟩⟩⟩
theorem oE{P:Program}{f:FuncId}{args:Array Value}{w:World}{n:Nat}{v:Value}(h:Calls P f args (w.drewN n) fun e w'=>e=.returned v/\w.drewN n=w'):Calls P f args (w.drewN n) fun e j=>e=.returned v/\∃m,j=w.drewN m:=h.mono fun _ _ ⟨he,hm⟩=>⟨he,n,hm.symm⟩
abbrev Q6:Value:=.agg #[.int .i64 0,.int .i64 0,.int .i64 0,.int .i64 0,.int .i64 0,.string ⟨#[]⟩]
def Cg(w:World)(e:Ending)(w':World):Prop:=e=.returned (.tuple #[Q6,.iface 61 (.int .i64 3)])/\Below w.heap.size w w'
theorem eN.gN{w:World}{g:Nat}{t:TypeId}{a b c d e f:Value}(h:eN w g t #[a,b,c,d,e,f]):w.cell? ⟨g,0,none⟩=some a/\w.cell? ⟨g,1,none⟩=some b/\w.cell? ⟨g,2,none⟩=some c/\w.cell? ⟨g,3,none⟩=some d/\w.cell? ⟨g,4,none⟩=some e/\w.cell? ⟨g,5,none⟩=some f/\w.frozen? ⟨g,0,none⟩=false/\w.frozen? ⟨g,1,none⟩=false/\w.frozen? ⟨g,2,none⟩=false/\w.frozen? ⟨g,3,none⟩=false/\w.frozen? ⟨g,4,none⟩=false/\w.frozen? ⟨g,5,none⟩=false:=⟨by simpa using h.cell 0,by simpa using h.cell 1,by simpa using h.cell 2,by simpa using h.cell 3,by simpa using h.cell 4,by simpa using h.cell 5,h.frozen 0,h.frozen 1,h.frozen 2,h.frozen 3,h.frozen 4,h.frozen 5⟩
theorem gh.below{w W:World}{A:Option Addr}{n:Nat}{bs:List Nat}(h:gh w A n bs)(hB:Below w.heap.size w W):gh W A n bs:=by intro j s;obtain⟨b,off,u,e⟩:=h j s;exact⟨b,off,u,by rw[<-e];exact hB.cell (aG _ _ e)⟩
theorem oK(x y:Nat)(h:x<256)(e:y<256):bits .or .i64 ((x:Int)*256) (y:Int)=((x*256+y:Nat):Int):=by rw[show((x:Int)*256)=((x*256:Nat):Int) from ah,ri _ _ ah ah];have:=Nat.shiftLeft_add_eq_or_of_lt (show y<2^8 from e) x;rw[Nat.shiftLeft_eq] at this;rw[<-this]
theorem L0(b off m c:Nat)(bs:List Nat)(x y:Nat)(w:World)(hm:5<=m)(a3:m+2<=c)(a4:c<=9223372036854775807)(hl:bs.length=m)(J: ∀x∈bs,x<256)(hB:gh w (some ⟨b,off,none⟩) bs.length bs)(j:w.cell? ⟨b,off+m,none⟩=some (.int .u8 x))(u:w.cell? ⟨b,off+(m+1),none⟩=some (.int .u8 y))(x1:x<256)(y1:y<256)(hs:iZ bs≠x*256+y):Calls prog 204 #[.slice (some ⟨b,off,none⟩) (m+2) c] w (Cg w):=by
 obtain⟨z,C⟩: ∃z:Nat,z=x*256+y:=⟨_,rfl⟩;have al:=oK x y x1 y1;rw[<-C] at al hs;obtain⟨k,hk⟩: ∃k:Nat,k=iZ bs:=⟨_,rfl⟩;rw[<-hk] at hs;have aA:((k:Int) !=(z:Int))=true:=ag;have Y:=eJ (show∀W:World,gh W (some ⟨b,off,none⟩) m bs->Calls prog 202 #[.slice (some ⟨b,off,none⟩) m c] W fun e w'=>e=.returned (.int .i64 k)/\W=w' by intro W h;rw[hk];subst hl;exact qC _ _ bs W h J ah);have ad:=eJ (show gh w (some ⟨b,off,none⟩) m bs from hl▸hB);clear hB hk C hs J hl;have h1:decide ((m:Int)<5)=false:=ag;have h2:((m+2:Nat):Int)-2=(m:Int):=ah;go_enter func204,ntmps204;go_wp2;generalize h:(World.alloc _ _)=W;obtain⟨E,hB⟩:eN W w.heap.size 269 #[.int .i64 0,.int .i64 0,.int .i64 0,.int .i64 0,.int .i64 0,.string ⟨#[]⟩]/\Below w.heap.size w W:=by subst h;exact⟨(eN.new w _ _),((au).alloc (ar) _)⟩
 have a5:W.cell? ⟨b,off+m,none⟩=some (.int .u8 x):=by rw[<-j];exact hB.cell (aG _ _ j)
 have a0:W.cell? ⟨b,off+(m+1),none⟩=some (.int .u8 y):=by rw[<-u];exact hB.cell (aG _ _ u)
 have I:gh W (some ⟨b,off,none⟩) m bs:=ad.out.below hB;have U:=eJ I;have ac:=eJ hB;have Z:=eJ E;clear h E I hB j u;go_quiet ((go_at_call 202;exact oE (Y.out _ (by exact U.out))));generalize h:(World.drewN _ _)=W2;obtain⟨K,s⟩:eN W2 w.heap.size 269 #[.int .i64 0,.int .i64 0,.int .i64 0,.int .i64 0,.int .i64 0,.string ⟨#[]⟩]/\Below w.heap.size w W2:=by subst h;exact⟨Z.out.drewN _,below_drewN ac.out _⟩
 clear h;obtain⟨aa,X,am,O,ap,T,f0,f1,f2,f3,f4,f5⟩:=K.gN;have ao:=eJ s;have a2:=s.size;clear s K;go_wp2;exact aR (v:=.tuple #[.agg #[.int .i64 0,.int .i64 0,.int .i64 0,.int .i64 0,.int .i64 0,.string ⟨#[]⟩],.iface 61 (.int .i64 3)]) (by simp[results,results204,go_sem,aa,X,am,O,ap,T]) rfl ⟨rfl,((((((ao.out.setCell (ar) _).setCell (ar) _).setCell (ar) _).setCell (ar) _).setCell (ar) _).setCell (ar) _)⟩
def hZ(w:World)(ok:Bool)(v:Value)(e:Ending)(w':World):Prop:=if ok then e=.returned (.tuple #[v,.nilIface])/\Below w.heap.size w w' else Cg w e w'
theorem Q8{m e:Nat}(h:m=7+e)(j:e<256):((m:Int) !=wrap64 (7+wrap64 (e:Int)))=false:=by rw[bL (e:Int) ⟨ah,ah⟩,bL (7+(e:Int)) ⟨ah,ah⟩];simp;omega
theorem Ri{m e:Nat}(h: ¬m=7+e)(j:e<256):((m:Int) !=wrap64 (7+wrap64 (e:Int)))=true:=by rw[bL (e:Int) ⟨ah,ah⟩,bL (7+(e:Int)) ⟨ah,ah⟩];simp;omega
theorem hZ.fe{w w':World}{v:Value}{e:Ending}(h:e=.returned (.tuple #[v,.nilIface]))(hB:Below w.heap.size w w'):hZ w true v e w':=by unfold hZ;rw[aM rfl];exact⟨h,hB⟩
theorem hZ.bad{w w':World}{v:Value}(hB:Below w.heap.size w w'):hZ w false v (.returned (.tuple #[Q6,.iface 61 (.int .i64 3)])) w':=by unfold hZ;rw[aI aj];exact⟨rfl,hB⟩
theorem jZ(tmps:Array Value)(w:World)(g:Nat)(a b c d e f v:Value)(h2:tmps[2]? =some (.pointer (some ⟨g,0,none⟩)))(h3:tmps[3]? =some v)(E:eN w g 269 #[a,b,c,d,e,f]):(results f204 tmps).run prog w=.ok (.tuple #[.agg #[a,b,c,d,e,f],v]) w:=by obtain⟨s,j,h,u,z,C,_⟩:=E.gN;simp[results,results204,go_sem,h2,h3,s,j,h,u,z,C]
end Go.Proofs.YtideefjnlakciaaGreatDoor
