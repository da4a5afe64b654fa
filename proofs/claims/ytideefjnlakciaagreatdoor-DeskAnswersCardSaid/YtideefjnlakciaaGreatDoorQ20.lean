/- What the document's session calls of the library: strings.Split at one byte, Number, Told; conditions: what start-up lays. -/
import Derived.Test.YtideefjnlakciaaGreatDoorQ00
import Derived.Test.YtideefjnlakciaaGreatDoorQ19
import Derived.Test.YtideefjnlakciaaGreatDoorQ17
import Derived.Test.YtideefjnlakciaaGreatDoorQ13
import Derived.Test.YtideefjnlakciaaGreatDoorQ01
import Derived.Lib.AtoiAllCases
import Derived.Deep.RegionHeld3
set_option maxRecDepth 1000000
set_option maxHeartbeats 20000000
set_option linter.unusedVariables false
set_option linter.unusedSimpArgs false
namespace Go.Proofs.YtideefjnlakciaaGreatDoor
open Go.RowKit Go.Proofs.Tryz
theorem zh(c:UInt8)(s:ByteArray)(w:World)(hs:s.size<=1000000):Calls prog 26 #[.string s,.string ⟨#[c]⟩,.int .i64 0,.int .i64 (-1)] w fun e w'=>e=.returned (.slice (some ⟨w.heap.size,0,none⟩) (ig c s).length (ig c s).length)/\w'=w.alloc (.cells ((ig c s).map Value.string).toArray 9):=by
 have hlen:(ig c s).length=Lib.countByte s.data.toList c+1:=by unfold ig;rw[aY,pN];rfl
 have j:Lib.countB s ⟨#[c]⟩=Lib.countByte s.data.toList c:=Lib.count_one c s.data.toList;have u:Lib.countByte s.data.toList c<=s.size:=by have:=List.count_le_length (a:=c) (l:=s.data.toList);rw[show s.data.toList.length=s.size from ak] at this;exact this
 have h:=Any.strings_genSplit_core KC ai s ⟨#[c]⟩ 0 (-1) (Lib.countByte s.data.toList c+1) w ah (ar) (cT _) (fun x c' _=>by have:=strings_Index_one x c (w.alloc (.cells c' 9));rw[show Lib.indexB x ⟨#[c]⟩=Lib.indexByte x.data.toList c from Lib.index_one _ _];exact this) (by rw[j];exact strings_Count_one s c w) aj aj (by rw[j,aM aj];omega);rw[dD,GA,<-hlen] at h;have e:Lib.cellsOf (ig c s) (ig c s).length=((ig c s).map Value.string).toArray:=Lib.cellsOf_full _;rw[e] at h;exact h
theorem xr(c:UInt8)(s:ByteArray)(w:World)(hs:s.size<=1000000):Calls prog 13 #[.string s,.string ⟨#[c]⟩] w fun e w'=>e=.returned (.slice (some ⟨w.heap.size,0,none⟩) (ig c s).length (ig c s).length)/\w'=w.alloc (.cells ((ig c s).map Value.string).toArray 9):=by have h:=eJ (zh c s w hs);go_enter func13,ntmps13;go_wp2_with fail;refine h.out.mono ?_;rintro e w1 ⟨rfl,rfl⟩;go_wp2_with fail;go_ret;exact⟨rfl,rfl⟩
theorem GX: ∀(l:List UInt8)(acc:Nat),Lib.parseUintM 18446744073709551615 acc l=Lib.parseUint10 acc l
 |[],acc=>rfl
 |c::r,acc=>by
  unfold Lib.parseUintM Lib.parseUint10;split
  ·split
   ·rfl
   ·have:=GX r (acc*10+(c.toNat-48));split
    ·rw[aM ah]
    ·rw[aI ah];exact this
  ·rfl
theorem GM(l:List UInt8):Lib.parseIntB 64 l=Lib.atoiAll l:=by
 have h: ∀l,Lib.parseUintB 64 l=Lib.parseMag l:=fun l=>by
  unfold Lib.parseUintB Lib.parseMag;split
  ·rfl
  ·exact GX l 0
 unfold Lib.parseIntB Lib.atoiAll;cases l with|nil=>rfl|cons c r=>dsimp only;rw[h];rfl
theorem Ge(s:ByteArray)(w:World)(u:gY w)(hs:s.size<=281474976710656):Calls prog 27 #[.string s,.int .i64 10,.int .i64 64] w fun e w'=>((∃v,Lib.atoiAll s.data.toList=.ok v/\e=.returned (.tuple #[.int .i64 v,.nilIface]))\/((∀v,Lib.atoiAll s.data.toList≠ .ok v)/\∃k z C,e=.returned (.tuple #[.int .i64 k,.iface z C])))/\Below w.heap.size w w':=by
 rcases h:Lib.atoiAll s.data.toList with v|_|_
 ·refine(strconv_ParseInt_10_at64_ok s ah v ((GM _).trans h) w).mono ?_;rintro e w' ⟨rfl,h2⟩;refine⟨.inl ⟨v,rfl,rfl⟩, ?_⟩;rcases h2 with rfl|⟨t,rfl⟩
  ·exact au
  ·exact Lib.bytesWorld_below w _ t
 ·obtain⟨j,h1,h2⟩:=u.Qt;refine(strconv_ParseInt_10_at64_syntax s hs ((GM _).trans h) j w h1 h2).mono ?_;rintro e w' ⟨N,rfl,_,_,h4⟩;exact⟨.inr ⟨fun v=>ak,_,_,_,rfl⟩,h4⟩
 ·obtain⟨j,h1,h2⟩:=u.Qg;refine(strconv_ParseInt_10_at64_range s hs ((GM _).trans h) j w h1 h2).mono ?_;rintro e w' ⟨N,rfl,_,_,h4⟩;exact⟨.inr ⟨fun v=>ak,_,_,_,rfl⟩,h4⟩
theorem CF(n:Int)(w:World)(h:gY w)(h0:-9223372036854775808<=n)(h1:n<=9223372036854775807):Calls prog 28 #[.int .i64 n,.int .i64 10] w fun e w'=>e=.returned (.string (fR n))/\Below w.heap.size w w':=by refine(strconv_FormatInt_10 n h0 h1 w h.QJ).mono ?_;rintro e w' ⟨rfl,k,os,rfl⟩;exact⟨rfl,Lib.below_grow _ _ (ar) k os⟩
theorem CY(s:ByteArray)(w:World)(J:gY w)(hs:s.size<=1000000):Calls prog 14 #[.string s] w fun e w'=>(∃k:Int,∃b:Bool,e=.returned (.tuple #[.int .i64 k,.bool b])/\lK s=if b then some k else none)/\Below w.heap.size w w':=by
 have Y:=eJ (Ge s w J ah);have U:=eJ J;clear J hs;go_enter func14,ntmps14;go_wp2_with fail;refine Y.out.mono ?_;rintro e w1 ⟨⟨v,j,rfl⟩|⟨j,k,aa,Z,rfl⟩,u⟩
 ·have I:=ra j;have X:=eJ (CF v w1 (U.out.next u) I.1 I.2);have C:=eJ j;have z:=eJ u;clear j I u;go_wp2_with fail;refine X.out.mono ?_;rintro e w2 ⟨rfl,K⟩;have O:=eJ (z.out.trans (K.mono z.out.size));clear K;by_cases he:fR v=s
  ·have T:((fR v).toList==s.toList)=true:=by rw[he];exact beq_self_eq_true _
   have E:=eJ he;clear he;go_wp2_with fail;refine aR (v:=.tuple #[.int .i64 v,.bool true]) (by simp[results,results14,go_sem]) rfl ⟨⟨v,true,rfl, ?_⟩,O.out⟩;unfold lK;rw[C.out];dsimp only;rw[aM (show(⟨(Lib.itoa v).toArray⟩:ByteArray)=s from E.out)];rfl
  ·have T:((fR v).toList==s.toList)=false:=Ho he;have E:=eJ he;clear he;go_wp2_with fail;refine aR (v:=.tuple #[.int .i64 0,.bool false]) (by simp[results,results14,go_sem]) rfl ⟨⟨0,false,rfl, ?_⟩,O.out⟩;unfold lK;rw[C.out];dsimp only;rw[aI (show¬(⟨(Lib.itoa v).toArray⟩:ByteArray)=s from E.out)];rfl
 ·have C:=eJ j;have z:=eJ u;clear j u;go_wp2_with fail;refine aR (v:=.tuple #[.int .i64 0,.bool false]) (by simp[results,results14,go_sem]) rfl ⟨⟨0,false,rfl, ?_⟩,z.out⟩;unfold lK;rcases h:Lib.atoiAll s.data.toList with v|_|_
  ·exact absurd h (C.out v)
  ·rfl
  ·rfl
theorem Bg(A:Option Addr)(c:Nat)(l:List Int)(w:World)(ao:gY w)(ac:kY w A l)(h0:0<l.length)(hl:l.length<=1000)(O: ∀x∈l,-9223372036854775808<=x/\x<=9223372036854775807):Calls prog 16 #[.slice A l.length c] w fun e w'=>e=.returned (.string (sw l))/\Below w.heap.size w w':=by
 obtain⟨q,hq⟩:=ab l.length;have s:=eJ hq;have a4:=eJ ao;have a5:=eJ ac;have U:=eJ O;have bb:=eJ (sF O);rw[hq] at hl h0⊢;obtain⟨i0,hi,a3,a2,a0⟩:=eR sP;clear hq ao ac O;go_enter func16,ntmps16;go_wp2_with fail;go_loopw [3,8] (fun v3 i wr=> ∃k:Nat,k<=q/\i=.int .i64 k/\Hid (wr.ownsRow w.heap.size 9 1 v3 k (((l.take k).map fR).map Value.string))/\Hid (Below w.heap.size w wr)) (fun _ i _=>q-(intOf i).toNat);case atStart=>exact⟨0,ah,rfl,eJ (bT _ _ _ _),eJ (au)⟩
 case round=>
  obtain⟨k,hk,rfl,al,C⟩:=hrel;by_cases I:k<q
  ·obtain⟨b,off,rfl,a8⟩:=(a5.out.below (ar) C.out) k (by rw[s.out];exact I);obtain⟨x,h⟩:=ab (l.getD k 0);rw[h] at a8;have T:x∈l:=by rw[<-h,aL,aF (by rw[s.out];exact I)];exact cI _
   have a9:=eJ (jz x wr (a4.out.next C.out) (U.out x T).1 (U.out x T).2);have a7:Hid (((l.take (k+1)).map fR).map Value.string=((l.take k).map fR).map Value.string++[.string (fR x)]):=eJ (by rw[cE,aF (by rw[s.out];exact I)];rw[aL,aF (by rw[s.out];exact I),cB] at h;rw[h];simp);clear h T;go_wp2_with fail;refine a9.out.mono ?_;rintro r w2 ⟨rfl,K⟩;have J:=eJ (C.out.trans (K.mono C.out.size));have X:=eJ ((jq al.out K).alloc (.cells #[.string (fR x)] 9));clear K;go_wp2_with (at_builtin;go_must (refine bD _ rfl (.tmp 12) (.tmp 15) _ rfl w.heap.size 9 i0 _ 1 16 underlying52 hi a3 a2 a0 rfl aj u3 k (((l.take k).map fR).map Value.string) rfl (by exact X.out) ⟨w2.heap.size,0,none⟩ 1 1 [.string (fR x)] rfl rfl (by exact yl (eN.new w2 9 #[.string (fR x)])) (by intro u hu;simp at hu;subst hu;rfl) (by simp[maxLen];omega) ah (by have:=J.out.size;simp;omega) ?_);intro v8 w8 am aa _;have aA:=eJ am;have a6:=eJ aa;clear am aa);go_roundw;case rel=>exact⟨k+1,ah,aq,eJ (by rw[a7.out];simpa using aA.out),eJ ((J.out.alloc J.out.size _).grown a6.out (by have:=J.out.size;simp;omega) (fun j e=>(X.out.lt j e).1))⟩
   case measure=>simp[intOf];omega
  ·obtain rfl:k=q:=ah;have E:=al.out;rw[bC (by rw[s.out];exact ar)] at E;obtain⟨gk,Y,cur,rfl,h1,h2,h3,h4,h5,h6⟩:=fO E h0;have ap:Hid (Calls prog 40 #[.slice (some ⟨gk,0,none⟩) k Y,.string ⟨#[32]⟩] wr fun e w'=>e=.returned (.string (sw l))/\Below wr.heap.size wr w'):=eJ (by
    have hlen:(l.map fR).length=k:=by rw[aY,s.out]
    have Z:(l.map fR).map (·.data.toList)=l.map Lib.itoa:=by rw[eH];apply cw;intro z _;rfl
    have:=strings_Join gk 0 Y (l.map fR) ⟨#[32]⟩ wr (fun j x h=>by have:=(mP E (i:=j) (by have:=(aQ.1 h).1;omega));rw[bB,this,bp,h];rfl) (E.lt gk rfl).2 (by rw[hlen];omega) (by rw[hlen];exact h3) (by rw[Z];have:=bb.out;rw[s.out] at this;show(Lib.join (l.map Lib.itoa) [32]).length<=_;omega);rw[hlen,Z] at this;exact this)
   clear h1 h2 h3 h4 h5 h6 E;go_wp2_with fail;refine ap.out.mono ?_;rintro r w3 ⟨rfl,ad⟩;have bd:=eJ (C.out.trans (ad.mono C.out.size));clear ad;go_wp2_with fail;go_ret;exact⟨rfl,bd.out⟩
def tY(c:Cl):Prop:= ∀k i,∀d∈(c.pr k i).q,d.size<=40
def Kf(c:Cl):Prop:= ∀k,∀d∈(c.sd k).q,d.size<=40
section
variable {p:Pl}{c:Cl}
theorem tY.congr{c':Cl}(h:tY c)(e:c'.pr=c.pr):tY c':=fun k i=>by rw[e];exact h k i
theorem Kf.congr{c':Cl}(h:Kf c)(e:c'.sd=c.sd):Kf c':=fun k=>by rw[e];exact h k
theorem Lb(h:tY c){tn:Nat}{f:mB}(e:f.d.size<=40):tY (iC p tn f c):=by
 unfold iC;split
 ·exact h
 ·split
  ·exact h
  ·split
   ·intro k i;dsimp only;split
    ·unfold fM;split
     ·intro d hd;have hd:d∈lu (c.pr f.lk.toNat tn).q f.d (jg f.d.size (c.pr f.lk.toNat tn).q.length 16):=hd;unfold lu at hd;split at hd
      ·rcases bY.1 hd with h1|h1
       ·exact h _ _ d h1
       ·simp at h1;subst h1;exact e
      ·exact h _ _ d hd
     ·exact h k i
    ·exact h k i
   ·exact h
theorem JS{tn:Nat}{f:mB}:(iC p tn f c).sd=c.sd:=by
 unfold iC;split
 ·rfl
 ·split
  ·rfl
  ·split<;>rfl
theorem Dh(h:tY c){tn:Nat}{fr:Option mB}{b:Bool}(e: ∀f,fr=some f->f.d.size<=40):tY (nB p tn fr b c)/\(nB p tn fr b c).sd=c.sd:=by
 unfold nB;split
 ·exact⟨h,rfl⟩
 ·rename_i f;split
  ·exact⟨Lb h (e f rfl),JS⟩
  ·exact⟨h,rfl⟩
theorem JU(h:tY c){from_ tn slot:Nat}{fr:Option mB}{ls:List Ls}(e: ∀f,fr=some f->f.d.size<=40):tY (je p from_ tn slot fr ls c)/\(je p from_ tn slot fr ls c).sd=c.sd:=by have h1:=Dh (p:=p) (tn:=tn) (b:=jc fr ls slot 0 tn) h e;have h2:=Dh (p:=p) (tn:=tn) (b:=jc fr ls slot 1 tn) h1.1 e;exact⟨h2.1.congr rfl,h2.2.trans h1.2⟩
theorem s8(h:tY c){node slot:Nat}{fr:Option mB}{ls:List Ls}(j: ∀f,fr=some f->f.d.size<=40): ∀k,tY (ff p node slot fr ls c k)/\(ff p node slot fr ls c k).sd=c.sd
 |0=>⟨h,rfl⟩
 |k+1=>by
  have e:=s8 h (node:=node) (slot:=slot) (ls:=ls) j k;unfold ff;split
  ·exact e
  ·have h2:=JU (p:=p) (from_:=node) (tn:=k) (slot:=slot) (ls:=ls) e.1 j;exact⟨h2.1,h2.2.trans e.2⟩
theorem vP{now node:Int}: ∀(l:List Lk)(k:Nat)(c:Cl),Kf c->Kf (eZ now node l k c).1/\(eZ now node l k c).1.pr=c.pr/\(eZ now node l k c).2.2.2.size<=40
 |[],_,c,h=>⟨h,rfl,by unfold eZ;show ByteArray.size ⟨#[]⟩<=40;decide⟩
 |l::ls,k,c,h=>by
  unfold eZ;split
  ·split
   ·refine⟨fun q d hd=> ?_,rfl, ?_⟩
    ·dsimp only[eV] at hd;split at hd
     ·exact h k d (List.mem_of_mem_tail hd)
     ·exact h q d hd
    ·dsimp only;cases hq:(c.sd k).q with|nil=>decide|cons x q=>exact h k x (by rw[hq];simp)
   ·refine vP ls (k+1) _ (fun q d hd=> ?_);dsimp only[eV] at hd;split at hd
    ·exact h k d hd
    ·exact h q d hd
  ·exact vP ls (k+1) c h
theorem KP(h:tY c)(hs:Kf c)(fa:Nat)(r:Rn)(i:Nat):tY (jh p fa r i c)/\Kf (jh p fa r i c):=by
 unfold jh;split
 ·exact⟨h,hs⟩
 ·dsimp only;split
  ·rename_i s _ _;have h1:=vP (now:=c.rd*p.rd+s.f) (node:=s.n) p.lk 0 {c with mm:=eV c.mm s.n.toNat (c.mm s.n.toNat).send} hs;have h2:=fun (fr:Option mB) (j: ∀f,fr=some f->f.d.size<=40)=>s8 (p:=p) (node:=s.n.toNat) (slot:=i) (ls:=r.ls) (c:=(eZ (c.rd*p.rd+s.f) s.n p.lk 0 {c with mm:=eV c.mm s.n.toNat (c.mm s.n.toNat).send}).1) (h.congr h1.2.1) (fr:=fr) j p.nd.toNat;exact⟨(h2 _ (fun f e=>by cases e;exact h1.2.2)).1,h1.1.congr (h2 _ (fun f e=>by cases e;exact h1.2.2)).2⟩
  ·rename_i s _ _;have h2:=s8 (p:=p) (node:=s.n.toNat) (slot:=i) (ls:=r.ls) (c:={c with mm:=eV c.mm s.n.toNat (c.mm s.n.toNat).send}) (h.congr rfl) (fr:=none) (fun f e=>by cases e) p.nd.toNat;exact⟨h2.1,hs.congr h2.2⟩
theorem Bb(h:tY c)(hs:Kf c)(fa:Nat)(r:Rn): ∀k,tY (gZ p fa r c k)/\Kf (gZ p fa r c k)|0=>⟨h,hs⟩|k+1=>by have e:=Bb h hs fa r k;exact KP e.1 e.2 fa r k
theorem KL(h:tY c)(hs:Kf c)(fa:Nat)(r:Rn):tY (gD p fa r c):=by
 unfold gD;split
 ·exact h
 ·exact(Bb h hs fa r _).1.congr rfl
theorem Lr(h:tY c)(k:Nat)(l:Lk)(d:ByteArray):tY (mT k l d c):=h.congr rfl
theorem Hf(h:tY c)(k i:Nat):tY (lJ k i c):=fun a b d hd=>by
 have hd:d∈(fM c.pr k i {c.pr k i with q:=(c.pr k i).q.tail} a b).q:=hd;unfold fM at hd;split at hd
 ·exact h k i d (List.mem_of_mem_tail hd)
 ·exact h a b d hd
theorem Mo(zs:List Int):tY (gG p zs):=fun k i d hd=>by have:d∈([]:List ByteArray):=hd;cases this
end
section
attribute [local irreducible] gD gG mT lJ iO
structure gC (k:Nat) (d:Dk):Prop where
 wn:d.p.wn=[]
 sl:d.p.sl.length≤32
 lk:d.p.lk.length≤8
 ls:d.r.ls.length≤k
 rg:d.r.rg.length≤k
 dr:d.r.dr.length≤k
 md:d.r.md.length≤k
 im: ∀x,d.c=some x→iO d.p=(0,-1)∧gH d.p (1+2592*k) x.2∧x.2.rd≤k∧x.1<65536∧(jY x.1 d.p.nd.toNat:Int)≤d.p.fa∧tY x.2
theorem uZ:gC 0 ld:=⟨rfl,by simp[ld],by simp[ld],by simp[ld],by simp[ld],by simp[ld],by simp[ld],fun x h=>by simp[ld] at h⟩
section
variable {k m:Nat}{d:Dk}{w:List ByteArray}
theorem gC.mono(h:gC k d)(hk:k<=m):gC m d:=by have:=h.ls;have:=h.rg;have:=h.dr;have:=h.md;refine⟨h.wn,h.sl,h.lk,ah,ah,ah,ah,fun x e=> ?_⟩;obtain⟨h1,h2,h3,h4,h5⟩:=h.im x e;exact⟨h1,h2.mono ah,ah,h4,h5⟩
theorem kg{n:Int}{f:List Int->jM}(h:gC k d)(e: ∀l,eU w n=some l->gC k (f l).d):gC k (fH d w n f).d:=by
 unfold fH;split
 ·exact h
 ·rename_i l hl;exact e l hl
theorem zl{f:jM}(h:gC k d)(j:d.c=none->gC k f.d):gC k (DH d f).d:=by
 unfold DH;split
 ·rename_i e;exact j e
 ·exact h
theorem oC{f:Nat->Cl->jM}(h:gC k d)(j: ∀x,d.c=some x->gC k (f x.1 x.2).d):gC k (nc d f).d:=by
 unfold nc;split
 ·exact h
 ·rename_i x e;exact j x e
theorem gC.Om(h:gC k d)(j:d.c=none){p:Pl}(hw:p.wn=[])(h1:p.sl.length<=32)(h2:p.lk.length<=8):gC k {d with p:=p}:=⟨hw,h1,h2,h.ls,h.rg,h.dr,h.md,fun x e=>by rw[j] at e;cases e⟩
theorem gC.BK(h:gC k d){x:Nat×Cl}(e:d.c=some x){c:Cl}(j:gH d.p (1+2592*k) c)(u:c.rd<=k)(z:tY c):gC k {d with c:=some (x.1,c)}:=⟨h.wn,h.sl,h.lk,h.ls,h.rg,h.dr,h.md,fun y s=>by obtain⟨h1,h2,h3,h4,h5,h6⟩:=h.im x e;cases s;exact⟨h1,j,u,h4,h5,z⟩⟩
theorem gC.rn(h:gC k d){r:Rn}(h1:r.ls.length<=k)(h2:r.rg.length<=k)(h3:r.dr.length<=k)(h4:r.md.length<=k):gC k {d with r:=r}:=⟨h.wn,h.sl,h.lk,h1,h2,h3,h4,h.im⟩
theorem EA{p:Pl}{f0:Int}{zs:List Int}(h:pt p f0 zs=0):iO p=(0,-1)/\uT p f0 zs 0:=by
 unfold pt at h;split at h
 ·rename_i h1;exact absurd h h1
 ·rename_i h1;have h1:(iO p).1=0:=by simpa using h1
  refine⟨Prod.ext h1 (rC h1), ?_⟩;have:=(od p f0 zs).choose_spec;rw[h] at this;exact this
theorem Ed{p:Pl}{f0:Int}{zs:List Int}(h:iO p=(0,-1)):uT p f0 zs (pt p f0 zs):=by unfold pt;rw[h,aI aj];exact(od p f0 zs).choose_spec
theorem Bk{p:Pl}{f0:Int}{zs:List Int}(h:iO p≠(0,-1)):pt p f0 zs=(iO p).1/\(iO p).1≠0:=by have h1:(iO p).1≠0:=fun e=>h (Prod.ext e (rC e));unfold pt;rw[aM h1];exact⟨rfl,h1⟩
theorem AY{zs:List Int}(h:jx zs=false)(j:Nat):-274877906944<=zs.getD j 0/\zs.getD j 0<=274877906944:=by
 by_cases e:j<zs.length
 ·exact C6 h e
 ·rw[aL,bS ah];simp
theorem LR(h:gC k d):gC k (qe d w).d:=kg h fun _ _=>zl h fun e=>h.Om e h.wn h.sl h.lk
theorem LQ(h:gC k d):gC k (nZ d w).d:=kg h fun _ _=>zl h fun e=>by
 split
 ·exact h
 ·exact h.Om e h.wn ag h.lk
theorem Lf(h:gC k d):gC k (oe d w).d:=kg h fun _ _=>zl h fun e=>by
 split
 ·exact h
 ·exact h.Om e h.wn h.sl ag
theorem PK{p:Pl}(hp:gl p){fy:Nat}(h:fy<2^p.nd.toNat):fy<65536:=by have h16:=hp.n16;have:(2:Nat)^p.nd.toNat<=2^16:=aX ah ah;omega
theorem E3(h:gC k d):gC k (js d w).d:=kg h fun n _=>zl h fun E=>by
 split
 ·rename_i he;obtain⟨h1,h2⟩:=EA he;obtain⟨⟨fy,C,s,j⟩,e,u,I⟩:=h2.fe;have hp:=gl.of h1;have hs:=G4 hp e (AY u);refine⟨h.wn,h.sl,h.lk,h.ls,h.rg,h.dr,h.md,fun x z=> ?_⟩;cases z;rw[C];exact⟨h1,hs.mono ah,by unfold gG;show(0:Int)<=k;omega,PK hp s,j,Mo _⟩
 ·exact h
theorem LK(h:gC k d):gC k (oG d w).d:=by
 unfold oG;split
 ·exact h
 ·refine kg h fun n _=>oC h fun x e=> ?_;split
  ·exact h
  ·split
   ·exact h
   ·rename_i l hl;obtain⟨h1,h2,h3,_,_,h6⟩:=h.im x e;exact h.BK e (J0 (gl.of h1) h2 hl _) (by unfold mT;exact h3) (Lr h6 _ _ _)
theorem GG(h:gC k d):gC (k+1) (kS d w).d:=kg (h.mono ah) fun n _=>oC (h.mono ah) fun x e=>by
 split
 ·exact h.mono ah
 ·split
  ·exact h.mono ah
  ·split
   ·exact h.mono ah
   ·split
    ·exact h.mono ah
    ·obtain⟨h1,h2,h3,_,_,h6⟩:=h.im x e;exact(h.mono ah).BK e ((EZ h2 _ _).mono ah) (by unfold lJ;show x.2.rd<=_;omega) (Hf h6 _ _)
theorem Mc(h:gC k d):gC (k+1) (qc d w).d:=kg (h.mono ah) fun n _=>oC (h.mono ah) fun x e=>(h.mono ah).rn (by simp;exact h.ls) (aK h.rg ah) (aK h.dr ah) (aK h.md ah)
theorem LG(h:gC k d):gC (k+1) (pO d w).d:=kg (h.mono ah) fun n _=>oC (h.mono ah) fun x e=>(h.mono ah).rn (aK h.ls ah) (by simp;exact h.rg) (aK h.dr ah) (aK h.md ah)
theorem kT{n:Int}{l:List Int}(h:eU w n=some l):l.length=w.length:=by
 unfold eU at h;split at h
 ·cases h
 ·exact s7 h
theorem Jc(h:gC k d):gC (k+w.length) (mW d w).d:=kg (h.mono ah) fun n hn=>oC (h.mono ah) fun x e=>(h.mono ah).rn (aK h.ls ah) (aK h.rg ah) (by show n.length<=_;rw[kT hn];omega) (aK h.md ah)
theorem LL(h:gC k d):gC (k+w.length) (pY d w).d:=kg (h.mono ah) fun n hn=>oC (h.mono ah) fun x e=>(h.mono ah).rn (aK h.ls ah) (aK h.rg ah) (aK h.dr ah) (by show n.length<=_;rw[kT hn];omega)
theorem tW(p:Pl)(fy:Nat)(r:Rn)(c:Cl):(gD p fy r c).rd<=c.rd+1:=by
 unfold gD;split
 ·omega
 ·exact dV _
theorem JR(h:gC k d):gC (k+1) (kL d w).d:=kg (h.mono ah) fun n _=>oC (h.mono ah) fun x e=>by
 obtain⟨h1,h2,h3,_,_,h6⟩:=h.im x e;have h4:=tW d.p x.1 d.r x.2;have h5:=(h.mono (show k<=k+1 from ah)).BK e ((sA (gl.of h1) h2 x.1 d.r).mono ah) ah (KL h6 (fun k=>(h2.sd k).2.2.2.2.2) x.1 d.r);split
 ·exact h5.rn ak ak ak ak
 ·exact h5
theorem GN(h:gC k d):gC k (oR d w).d:=kg h fun _ _=>uZ.mono ah
theorem JA(h:gC k d){n:Int}{f:List Int->jM}(e: ∀l,(f l).d=d):gC k (fH d w n f).d:=kg h fun l _=>by rw[e];exact h
theorem NI(h:gC k d){s:ByteArray}{f:Dk->List ByteArray->jM}(C:s5 s=some f):gC (k+1+w.length) (f d w).d:=by
 have h1:=h.mono (show k<=k+1+w.length from ah);have hm: ∀{d':Dk},gC (k+1) d'->gC (k+1+w.length) d':=fun h=>h.mono ah;have u: ∀{d':Dk},gC (k+w.length) d'->gC (k+1+w.length) d':=fun h=>h.mono ah;have hs: ∀{n:Int}{g:List Int->jM},(∀l,(g l).d=d)->gC (k+1+w.length) (fH d w n g).d:=fun h=>JA h1 h;have e: ∀{g:Nat->Cl->jM},(∀fy c,(g fy c).d=d)->(nc d g).d=d:=fun z=>by
  unfold nc;split
  ·rfl
  ·exact z _ _
 obtain⟨x,j,-,rfl⟩:=lS C;unfold Ct at j;simp only[bR,cC,ec] at j;rcases j with rfl|rfl|rfl|rfl|rfl|rfl|rfl|rfl|rfl|rfl|rfl|rfl|rfl|rfl|rfl|rfl|rfl|rfl|rfl|rfl
 ·exact hs fun _=>rfl
 ·exact GN h1
 ·exact hs fun _=>e fun _ _=>rfl
 ·exact u (Jc h)
 ·exact hs fun _=>rfl
 ·exact Lf h1
 ·exact hs fun _=>rfl
 ·exact hm (Mc h)
 ·exact hs fun _=>e fun _ _=>by split<;>rfl
 ·exact hs fun _=>rfl
 ·exact u (LL h)
 ·exact LR h1
 ·exact LK h1
 ·exact hm (LG h)
 ·exact hs fun _=>rfl
 ·exact hm (GG h)
 ·exact hm (JR h)
 ·exact LQ h1
 ·exact hs fun _=>e fun _ _=>rfl
 ·exact E3 h1
end
end
def QO(x:Except Int ByteArray)(r:Ending):Prop:=match x with|.ok o=>r=.returned (.string o)|.error e=>r=.panicked (kC e)
def qG(w0 w:World)(g:Nat)(L:Ly)(x:jM)(r:Ending)(w':World):Prop:=QO x.o r/\iN w0 w g L w' x.d
structure iu (w0 w:World) (g:Nat) (d:Dk) (L:Ly) (k:Nat) (A:Option Addr) (ws:List ByteArray):Prop where
 tR:gY w0
 dk:nI w0 w g d L
 ok:gC k d
 hk:k≤6000
 wl:ws.length≤50000
 wz: ∀j,(ws.getD j ⟨#[]⟩).size≤100000
 at_:Kb w A ws
 ao: ∀x,A=some x→¬nO g L x.block
section
variable {w0 w w1:World}{g k:Nat}{d:Dk}{L:Ly}{A:Option Addr}{ws:List ByteArray}{n:Int}{f:List Int->jM}{l:List Int}
theorem fJ(h:eU ws n=none):fH d ws n f=⟨.error 3,d⟩:=by unfold fH;rw[h]
theorem eL(h:eU ws n=some l):fH d ws n f=f l:=by unfold fH;rw[h]
theorem jI{x:jM}(h:d.c=none):DH d x=x:=by unfold DH;rw[h]
theorem ma{x:jM}{y:Nat×Cl}(h:d.c=some y):DH d x=⟨.error 6,d⟩:=by unfold DH;rw[h]
theorem fZ{x:Nat->Cl->jM}(h:d.c=none):nc d x=⟨.error 6,d⟩:=by unfold nc;rw[h]
theorem fF{x:Nat->Cl->jM}{y:Nat×Cl}(h:d.c=some y):nc d x=x y.1 y.2:=by unfold nc;rw[h]
theorem iu.K0(h:iu w0 w g d L k A ws):gY w:=h.tR.below h.tR.wR h.dk.low
theorem iu.jK(h:iu w0 w g d L k A ws)(hB:Below w.heap.size w w1):gY w1:=h.K0.next hB
theorem iu.jb(h:iu w0 w g d L k A ws)(n:Int)(h1:-100<=n)(h2:n<=100)(c:Nat):Calls prog 92 #[.slice A ws.length c,.int .i64 n] w fun e w'=>((eU ws n=none/\e=.panicked (kC 3))\/∃l v,eU ws n=some l/\e=.returned v/\w'.ownsRow w.heap.size 3 1 v l.length (l.map (Value.int .i64)))/\Below w.heap.size w w':=tD A c ws n w h.K0 h.at_ (by have:=h.wl;omega) h.wz h1 h2
theorem iu.bad(h:iu w0 w g d L k A ws){x:jM}{e:Int}(j:x=⟨.error e,d⟩)(hB:Below w.heap.size w w1):qG w0 w g L x (.panicked (kC e)) w1:=by subst j;exact⟨rfl,h.dk.to hB⟩
theorem iu.tQ(h:iu w0 w g d L k A ws){x:jM}{o:ByteArray}(e:x=⟨.ok o,d⟩)(hB:Below w.heap.size w w1):qG w0 w g L x (.returned (.string o)) w1:=by subst e;exact⟨rfl,h.dk.to hB⟩
theorem iu.noCell(h:iu w0 w g d L k A ws)(hB:Below w.heap.size w w1)(hd:d.c=none):w1.cell? ⟨g,10,none⟩=some (.pointer none):=by have h1:=(h.dk.below hB).eW.cell 10;have h2:=h.dk.im;unfold uA at h2;rw[hd] at h2;rw[h1];show some L.cv=_;rw[h2.1]
theorem iu.lx(h:iu w0 w g d L k A ws)(hB:Below w.heap.size w w1){y:Nat×Cl}(hd:d.c=some y): ∃a b,w1.cell? ⟨g,10,none⟩=some (.pointer (some ⟨a.g,0,none⟩))/\L.cv=fk a.g/\L.S=shape a (eO d.p) d.p ⟨L.v 0,L.v 1,.slice none 0 0⟩ y.1 y.2/\w0.heap.size<=b/\b<=w1.heap.size/\fW w1 b a (eO d.p) d.p ⟨L.v 0,L.v 1,.slice none 0 0⟩ y.1 y.2:=by have e:=h.dk.below hB;have h1:=e.eW.cell 10;have h2:=h.dk.im;unfold uA at h2;rw[hd] at h2;obtain⟨a,h3,h4⟩:=h2;obtain⟨b,h5,h6,h7⟩:=e.gJ;rw[h4] at h7;refine⟨a,b, ?_,h3,h4,h5,h6,h7⟩;rw[h1];show some L.cv=_;rw[h3]
theorem jf{W:World}{b:Nat}{v:Value}(h:W.ownsRow b 3 1 v l.length (l.map (Value.int .i64)))(h0:0<l.length): ∃gk cp,v=.slice (some ⟨gk,0,none⟩) l.length cp/\l.length<=cp/\b<=gk/\gk<W.heap.size/\∀i x,l[i]? =some x->W.cell? ⟨gk,i,none⟩=some (.int .i64 x):=by obtain⟨gk,cp,cur,rfl,h1,h2,h3,h4,h5,h6⟩:=fO h h0;refine⟨gk,cp,rfl,h3,h1,(aS.1 h2).1,fun i x e=> ?_⟩;rw[mP h (aQ.1 e).1,bp,e];rfl
theorem Db{W:World}{b:Nat}{v:Value}(h:W.ownsRow b 3 1 v l.length (l.map (Value.int .i64)))(hl:(l.length:Int)=1): ∃x gk cp,l=[x]/\v=.slice (some ⟨gk,0,none⟩) 1 cp/\W.cell? ⟨gk,0,none⟩=some (.int .i64 x)/\b<=gk/\gk<W.heap.size:=by obtain⟨gk,cp,rfl,_,h1,h2,h3⟩:=jf h ah;match l,hl,h3 with|[x],_,h3=>exact⟨x,gk,cp,rfl,rfl,h3 0 x rfl,h1,h2⟩
theorem M7{W:World}{b:Nat}{v:Value}(h:W.ownsRow b 3 1 v l.length (l.map (Value.int .i64)))(hl:(l.length:Int)=2): ∃x y gk cp,l=[x,y]/\v=.slice (some ⟨gk,0,none⟩) 2 cp/\W.cell? ⟨gk,0,none⟩=some (.int .i64 x)/\W.cell? ⟨gk,1,none⟩=some (.int .i64 y)/\b<=gk/\gk<W.heap.size:=by obtain⟨gk,cp,rfl,_,h1,h2,h3⟩:=jf h ah;match l,hl,h3 with|[x,y],_,h3=>exact⟨x,y,gk,cp,rfl,rfl,h3 0 x rfl,h3 1 y rfl,h1,h2⟩
theorem xS{W:World}{b:Nat}{v:Value}(h:W.ownsRow b 3 1 v l.length (l.map (Value.int .i64)))(hl:(l.length:Int)=3): ∃x y z gk cp,l=[x,y,z]/\v=.slice (some ⟨gk,0,none⟩) 3 cp/\W.cell? ⟨gk,0,none⟩=some (.int .i64 x)/\W.cell? ⟨gk,1,none⟩=some (.int .i64 y)/\W.cell? ⟨gk,2,none⟩=some (.int .i64 z)/\b<=gk/\gk<W.heap.size:=by obtain⟨gk,cp,rfl,_,h1,h2,h3⟩:=jf h ah;match l,hl,h3 with|[x,y,z],_,h3=>exact⟨x,y,z,gk,cp,rfl,rfl,h3 0 x rfl,h3 1 y rfl,h3 2 z rfl,h1,h2⟩
theorem Nh{W:World}{b:Nat}{v:Value}(h:W.ownsRow b 3 1 v l.length (l.map (Value.int .i64)))(hl:(l.length:Int)=4): ∃x y z u gk cp,l=[x,y,z,u]/\v=.slice (some ⟨gk,0,none⟩) 4 cp/\W.cell? ⟨gk,0,none⟩=some (.int .i64 x)/\W.cell? ⟨gk,1,none⟩=some (.int .i64 y)/\W.cell? ⟨gk,2,none⟩=some (.int .i64 z)/\W.cell? ⟨gk,3,none⟩=some (.int .i64 u)/\b<=gk/\gk<W.heap.size:=by obtain⟨gk,cp,rfl,_,h1,h2,h3⟩:=jf h ah;match l,hl,h3 with|[x,y,z,u],_,h3=>exact⟨x,y,z,u,gk,cp,rfl,rfl,h3 0 x rfl,h3 1 y rfl,h3 2 z rfl,h3 3 u rfl,h1,h2⟩
theorem Dy{W:World}{b:Nat}{v:Value}(h:W.ownsRow b 3 1 v l.length (l.map (Value.int .i64)))(hl:(l.length:Int)=5): ∃x y z u t gk cp,l=[x,y,z,u,t]/\v=.slice (some ⟨gk,0,none⟩) 5 cp/\W.cell? ⟨gk,0,none⟩=some (.int .i64 x)/\W.cell? ⟨gk,1,none⟩=some (.int .i64 y)/\W.cell? ⟨gk,2,none⟩=some (.int .i64 z)/\W.cell? ⟨gk,3,none⟩=some (.int .i64 u)/\W.cell? ⟨gk,4,none⟩=some (.int .i64 t)/\b<=gk/\gk<W.heap.size:=by obtain⟨gk,cp,rfl,_,h1,h2,h3⟩:=jf h ah;match l,hl,h3 with|[x,y,z,u,t],_,h3=>exact⟨x,y,z,u,t,gk,cp,rfl,rfl,h3 0 x rfl,h3 1 y rfl,h3 2 z rfl,h3 3 u rfl,h3 4 t rfl,h1,h2⟩
theorem MS{W:World}{b:Nat}{v:Value}(h:W.ownsRow b 3 1 v l.length (l.map (Value.int .i64)))(hl:(l.length:Int)=6): ∃x y z u t s gk cp,l=[x,y,z,u,t,s]/\v=.slice (some ⟨gk,0,none⟩) 6 cp/\W.cell? ⟨gk,0,none⟩=some (.int .i64 x)/\W.cell? ⟨gk,1,none⟩=some (.int .i64 y)/\W.cell? ⟨gk,2,none⟩=some (.int .i64 z)/\W.cell? ⟨gk,3,none⟩=some (.int .i64 u)/\W.cell? ⟨gk,4,none⟩=some (.int .i64 t)/\W.cell? ⟨gk,5,none⟩=some (.int .i64 s)/\b<=gk/\gk<W.heap.size:=by obtain⟨gk,cp,rfl,_,h1,h2,h3⟩:=jf h ah;match l,hl,h3 with|[x,y,z,u,t,s],_,h3=>exact⟨x,y,z,u,t,s,gk,cp,rfl,rfl,h3 0 x rfl,h3 1 y rfl,h3 2 z rfl,h3 3 u rfl,h3 4 t rfl,h3 5 s rfl,h1,h2⟩
theorem rY{w:World}{base b2 size n:Nat}{e:TypeId}{v:Value}{xs:List Value}(h:w.ownsRow base e size v n xs)(u:b2<=base):w.ownsRow b2 e size v n xs:=by
 obtain⟨hl,h|⟨g,cap,cur,s,j,r⟩⟩:=h
 ·exact⟨hl,.inl h⟩
 ·exact⟨hl,.inr ⟨g,cap,cur,s,aK u j,r⟩⟩
end
section
variable {w0 w:World}{g k:Nat}{d:Dk}{L:Ly}{A:Option Addr}{ws:List ByteArray}
theorem Ak{W:World}{v:Value}{e pl:Int}(j:Cr W v e pl)(h:nQ W):Calls prog 25 #[v] W fun r w'=>r=.panicked (kC e)/\Below W.heap.size W w':=by
 rcases j with ⟨_,rfl⟩|⟨G,rfl,s⟩
 ·exact gV e W h
 ·exact Lu e pl G W h s
theorem pG{e:Int}{o:ByteArray}(h:e=0):rA e o d=⟨.ok o,d⟩:=by unfold rA;rw[aM h]
theorem sy{e:Int}{o:ByteArray}(h:e≠0):rA e o d=⟨.error e,d⟩:=by unfold rA;rw[aI h]
theorem BG{s:ByteArray}{x:Int}(h:lK s=some x):-9223372036854775808<=x/\x<=9223372036854775807:=by
 unfold lK at h;split at h
 ·rename_i k hk;split at h
  ·cases h;exact ra hk
  ·cases h
 ·cases h
theorem pR: ∀{ws:List ByteArray}{l:List Int},gI ws=some l->∀x∈l,-9223372036854775808<=x/\x<=9223372036854775807
 |[],l,h,x,e=>by cases h;cases e
 |s::ws,l,h,x,e=>by
  unfold gI at h;cases hk:lK s with
   |none=>rw[hk] at h;cases h
   |some k=>
    rw[hk] at h;cases hl:gI ws with
     |none=>rw[hl] at h;cases h
     |some j=>
      rw[hl] at h;cases h;rcases bR.1 e with rfl|e
      ·exact BG hk
      ·exact pR hl x e
theorem vC{n:Int}{l:List Int}(h:eU ws n=some l): ∀x∈l,-9223372036854775808<=x/\x<=9223372036854775807:=by
 unfold eU at h;split at h
 ·cases h
 ·exact pR h
theorem nI.ua(h:nI w0 w g d L)(hw:d.p.wn=[]): ∃e cs AL cl,L.v 0=.slice e d.p.sl.length cs/\L.v 1=.slice AL d.p.lk.length cl/\fN w e d.p.sl.length d.p.sl/\fA w AL d.p.lk.length d.p.lk/\iV w none 0 d.p.wn:=by obtain⟨e,cs,u,h1,-⟩:=ye (h.own 0 ah) rfl;obtain⟨AL,cl,s,h2,-⟩:=xD (h.own 1 ah) rfl;exact⟨e,cs,AL,cl,u,s,h1,h2,fun j z=>ah⟩
theorem JX(h:iu w0 w g d L k A ws)(c:Nat):Calls prog 47 #[.pointer (some ⟨g,0,none⟩),.slice A ws.length c] w (qG w0 w g L (oy d ws)):=by
 have ad:=eJ (h.jb (0) ah ah c);have H:=eJ h;clear h;go_enter func47,ntmps47;go_wp2_with fail;refine ad.out.mono ?_;rintro r w1 ⟨⟨hn,rfl⟩|⟨l,v,hn,rfl,a4⟩,E⟩;case inl=>have z:=eJ (H.out.bad (x:=oy d ws) (fJ hn) E);go_wp2_with fail;exact⟨rfl,z.out⟩
 have I:=eJ E;have Z:=eJ hn;have j:=eJ (H.out.dk.below E);obtain⟨aA,cs,AL,cl,al,am,s2,ap,aa⟩:=j.out.ua H.out.ok.wn;have T:=eJ (CX d.p aA d.p.sl.length cs AL d.p.lk.length cl none 0 0 w1 rfl rfl (by rw[H.out.ok.wn];rfl) s2 ap aa);have c0:=j.out.eW.cell 0;have f0:=j.out.eW.frozen 0;have c1:=j.out.eW.cell 1;have f1:=j.out.eW.frozen 1;have c2:=j.out.eW.cell 2;have f2:=j.out.eW.frozen 2;have c3:=j.out.eW.cell 3;have f3:=j.out.eW.frozen 3;have c4:=j.out.eW.cell 4;have f4:=j.out.eW.frozen 4;have c5:=j.out.eW.cell 5;have f5:=j.out.eW.frozen 5;have X:=j.out.eW.cell 6;have f6:=j.out.eW.frozen 6;have Y:=j.out.eW.cell 7;have f7:=j.out.eW.frozen 7;have a3:=j.out.eW.cell 8;have f8:=j.out.eW.frozen 8;have c9:=j.out.eW.cell 9;have f9:=j.out.eW.frozen 9;simp at c0 c1 c2 c3 c4 c5 X Y a3 c9;rw[al] at X;rw[am] at Y;clear E hn a4 ad s2 ap aa al am;go_wp2_with fail;refine T.out.mono ?_;intro r w2 hp;unfold qR at hp;split at hp
 ·rename_i h0;obtain⟨v2,rfl,J,-,u⟩:=hp;obtain⟨ao,cp,e,-⟩:=J.shape;have hlen:(pU (gn (sK d.p))).length=(gn (sK d.p)).length:=by simp[pU]
  rw[hlen] at e;subst e;have U:(gn (sK d.p)).length<=maxLen:=by
   rcases J with ⟨a0,_⟩|⟨_,_,_,_,_,_,_,_,h5,h6,_⟩
   ·rw[<-hlen,a0];simp
   ·rw[hlen] at h5;omega
  have s:=eJ (I.out.trans (u.mono I.out.size));have C:Hid (oy d ws=⟨.ok (fR (gn (sK d.p)).length),d⟩):=eJ ((eL Z.out).trans (pG h0));obtain⟨m,hm⟩:=ab ((gn (sK d.p)).length);rw[hm] at C U⊢;have K:=eJ (ku w2);have a5:=eJ (jz m w2 (H.out.jK s.out) ah (by simp[maxLen] at U;omega));clear h0 J u hlen hm U T;go_wp2_with fail;refine K.out.mono ?_;rintro r w3 ⟨rfl,rfl⟩;go_wp2_with fail;refine a5.out.mono ?_;rintro r w4 ⟨rfl,ac⟩;have z:=eJ (H.out.tQ C.out (s.out.trans (ac.mono s.out.size)));clear ac;go_wp2_with fail;go_ret;exact z.out
 ·rename_i h0;obtain⟨v2,rfl,O,u⟩:=hp;have s:=eJ (I.out.trans (u.mono I.out.size));have C:Hid (oy d ws=⟨.error (iO d.p).1,d⟩):=eJ ((eL Z.out).trans (sy h0));have K:=eJ (Ak O (H.out.jK s.out).err);obtain⟨a7,a6,rfl⟩:=O.iface;clear h0 O u T;go_wp2_with fail;refine K.out.mono ?_;rintro r w3 ⟨rfl,a2⟩;have z:=eJ (H.out.bad C.out (s.out.trans (a2.mono s.out.size)));go_wp2_with fail;exact⟨rfl,z.out⟩
theorem Aq(h:iu w0 w g d L k A ws)(c:Nat):Calls prog 56 #[.pointer (some ⟨g,0,none⟩),.slice A ws.length c] w (qG w0 w g L (Ae d ws)):=by
 have ac:=eJ (h.jb (-1) ah ah c);have H:=eJ h;clear h;go_enter func56,ntmps56;go_wp2_with fail;refine ac.out.mono ?_;rintro r w1 ⟨⟨hn,rfl⟩|⟨l,v,hn,rfl,I⟩,O⟩;case inl=>have z:=eJ (H.out.bad (x:=Ae d ws) (fJ hn) O);go_wp2_with fail;exact⟨rfl,z.out⟩
 have al:=(fg hn).2;obtain⟨gk,cp,rfl,hle,bj,bb,u⟩:=jf I ah;match l,al,hn,I,hle,u with
  |e::t,_,hn,I,hle,u=>
   have a4:=u 0 e rfl;have a5:Hid (kY w1 (if cp=1 then some ⟨gk,0,none⟩ else some ⟨gk,1,none⟩) t):=eJ (fun j am=>by rw[aI (by rw[aP] at hle;omega)];refine⟨gk,1,rfl, ?_⟩;have:=u (j+1) (t.getD j 0) (by rw[cf,aF am,aL,aF am];rfl);rw[dO 1 j];exact this);have a8:=vC hn e ak;have a0:t.length<=50000:=by have h1:=kT hn;have h2:=H.out.wl;rw[aP] at h1;omega
   have J:=eJ (fun W (hB:Below w1.heap.size w1 W)=>Ee (if cp=1 then some ⟨gk,0,none⟩ else some ⟨gk,1,none⟩) (cp-1) t e W (a5.out.below (ar) hB) ah a8.2);have C:=eJ O;have a2:=eJ hn;obtain⟨q,hq⟩:=ab t.length;have ao:(e::t).length=q+1:=by simp[hq]
   rw[ao] at hle⊢;rw[hq] at J a0;have K:Hid (Ae d ws=rA (lL t e) (fR (ly t e)) d):=eJ (eL a2.out);obtain⟨E,aa⟩:=ab (lL t e);obtain⟨V,U⟩:=ab (ly t e);have a9:=si t e;rw[aa,U] at K J;rw[U] at a9;have Z:Hid (∀W,Below w1.heap.size w1 W->W.cell? ⟨gk,0,none⟩=some (.int .i64 e)):=eJ (fun W hB=>(hB.cell (p:=⟨gk,0,none⟩) bb).trans a4);have b1:(1:Int)<=((q+1:Nat):Int):=ah;have b2:((q+1:Nat):Int)<=(cp:Int):=ah;have bi:(1:Int)<=(q:Int)+1:=ah;have be:(q:Int)+1<=(cp:Int):=ah;have bf:1<=q+1:=ah;clear O hn I ac u ao hq aa U al;by_cases a3:cp=1;all_goals
    simp only[a3,eF,if_false] at J;go_wp2_with fail;go_region_held3 (fun w'=>w'.cell? ⟨gk,0,none⟩=some (.int .i64 e)) (first|exact Z.out _ (below_drewN (au) 1)|exact Z.out _ Y.out) (first|(go_at_call 100;go_must (refine(J.out _ (below_drewN (au) 1)).mono ?_);rintro r w5 ⟨rfl,ap⟩;have Y:=eJ ((below_drewN (Below.refl w1.heap.size w1) 1).trans ap);clear ap));all_goals
     by_cases he:E=0
     ·subst he;have T:=eJ (K.out.trans (pG rfl));have s:=eJ (C.out.trans (Y.out.mono C.out.size));have X:=eJ (ku w5);have bd:=eJ (jz V w5 (H.out.jK s.out) ah ah);have aA:gv 0=.nilIface:=rfl;rw[aA];go_wp2_with fail;refine X.out.mono ?_;rintro r w6 ⟨rfl,rfl⟩;go_wp2_with fail;refine bd.out.mono ?_;rintro r w7 ⟨rfl,ad⟩;have z:=eJ (H.out.tQ T.out (s.out.trans (ad.mono s.out.size)));clear ad;go_wp2_with fail;go_ret;exact z.out
     ·have T:=eJ (K.out.trans (sy he));have s:=eJ (C.out.trans (Y.out.mono C.out.size));have X:=eJ (s9 E w5 (H.out.jK s.out).err);have a6:=eJ he;clear he;go_wp2_with fail;refine X.out.mono ?_;rintro r w6 ⟨⟨h0,-⟩|⟨-,rfl⟩,a7⟩
      ·exact absurd h0 a6.out
      have z:=eJ (H.out.bad T.out (s.out.trans (a7.mono s.out.size)));go_wp2_with fail;exact⟨rfl,z.out⟩
end
def QF:Except Int ByteArray->ByteArray->Int->Prop|.ok o,s,e=>e=0/\s=o|.error x,_,e=>e=x/\x≠0
def mx(m:Nat)(w0 w:World)(g:Nat)(L:Lh)(x:jM)(r:Ending)(w':World):Prop:=(∃s e,r=.returned (.tuple #[.string s,.int .i64 e])/\QF x.o s e)/\iW (m+1) w0 w g L w' x.d
structure jF (m k:Nat) (w0 w w1:World) (g:Nat) (d:Dk) (L:Lh) (v:Value) (l:List Int):Prop where
 tR:gY w0
 fin:nP w0
 dk:pA m w0 w g d L
 ok:gC k d
 hk:k≤6000
 hm:m≤900
 hB:Below w.heap.size w w1
 lt:w.heap.size<w1.heap.size
 own:w1.ownsRow w.heap.size 3 1 v l.length (l.map (Value.int .i64))
 Rq: ∀x∈l,-9223372036854775808≤x∧x≤9223372036854775807
section
variable {m k:Nat}{w0 w w1 W:World}{g:Nat}{d d':Dk}{L:Lh}{v:Value}{l:List Int}{x:jM}
theorem jF.to(h:jF m k w0 w w1 g d L v l)(hB:Below w1.heap.size w1 W):iW (m+1) w0 w g L W d:=(h.dk.to (h.hB.trans (hB.mono h.hB.size))).mono (aU m)
theorem jF.bad(h:jF m k w0 w w1 g d L v l){e:Int}(j:x=⟨.error e,d⟩)(he:e≠0)(s:ByteArray)(hB:Below w1.heap.size w1 W):mx m w0 w g L x (.returned (.tuple #[.string s,.int .i64 e])) W:=by subst j;exact⟨⟨s,e,rfl,rfl,he⟩,h.to hB⟩
theorem mx.fe{o:ByteArray}(e:x=⟨.ok o,d'⟩)(h:iW (m+1) w0 w g L W d'):mx m w0 w g L x (.returned (.tuple #[.string o,.int .i64 0])) W:=by subst e;exact⟨⟨o,0,rfl,rfl,rfl⟩,h⟩
theorem mx.rA{e:Int}{o:ByteArray}(j:x=rA e o d')(h:iW (m+1) w0 w g L W d'):mx m w0 w g L x (.returned (.tuple #[.string o,.int .i64 e])) W:=by
 subst j;unfold Go.Proofs.YtideefjnlakciaaGreatDoor.rA;by_cases he:e=0
 ·rw[aM he];exact⟨⟨o,e,rfl,he,rfl⟩,h⟩
 ·rw[aI he];exact⟨⟨o,e,rfl,rfl,he⟩,h⟩
theorem jF.hs(h:jF m k w0 w w1 g d L v l):pA m w0 w1 g d L:=h.dk.below h.hB
theorem jF.jK(h:jF m k w0 w w1 g d L v l)(hB:Below w1.heap.size w1 W):gY W:=(h.tR.below h.tR.wR h.hs.low).next hB
theorem jF.KX(h:jF m k w0 w w1 g d L v l)(hB:Below w1.heap.size w1 W):nP W:=(h.fin.below (h.hs.low)).below hB
theorem jF.jk(h:jF m k w0 w w1 g d L v l):w1.cell? ⟨g,10,none⟩=some L.cv:=h.hs.eW.cell 10
theorem jF.none_(h:jF m k w0 w w1 g d L v l)(hd:d.c=none):w1.cell? ⟨g,10,none⟩=some (.pointer none):=by have h1:=h.hs.eW.cell 10;have h2:=h.dk.im;unfold vo at h2;rw[hd] at h2;rw[h1];show some L.cv=_;rw[h2.1]
theorem jF.some_(h:jF m k w0 w w1 g d L v l){gc:Nat}(e:L.cv=fk gc):w1.cell? ⟨g,10,none⟩=some (.pointer (some ⟨gc,0,none⟩)):=by rw[h.hs.eW.cell 10];show some L.cv=_;rw[e]
theorem qk{w:World}{b:Nat}(hw:d.p.wn=[])(h: ∀j,j<2->w.ownsRow b (Gy j) (Af j) (L.v j) (iR d j) (ju d j)): ∃e cs AL cl,L.v 0=.slice e d.p.sl.length cs/\L.v 1=.slice AL d.p.lk.length cl/\fN w e d.p.sl.length d.p.sl/\fA w AL d.p.lk.length d.p.lk/\iV w none 0 d.p.wn:=by obtain⟨e,cs,u,h1,-⟩:=ye (h 0 ah) rfl;obtain⟨AL,cl,s,h2,-⟩:=xD (h 1 ah) rfl;exact⟨e,cs,AL,cl,u,s,h1,h2,fun j z=>ah⟩
theorem pA.app(h:pA m w0 w g d L)(s:Nat)(E:s<6)(cell:Nat){vals:List Value}(X: ∀j,j<6->j≠s->ju d' j=ju d j/\iR d' j=iR d j)(K:ju d' s=ju d s++vals/\iR d' s=iR d s+1)(hC: ∀v8,(lB d L).setIfInBounds cell v8=lB d' {L with v:=eV L.v s v8})(U:d'.c=d.c)(hp:d.c=none\/(2<=s/\d'.p=d.p))(o:Obj):(w.drew.alloc o).ownsRow w0.heap.size (Gy s) (Af s) (L.v s) (iR d s) (ju d s)/\(∀u,(w.drew.alloc o).grownBy u (L.v s).ownBlock->eN u g 60 (lB d L)/\∀i,i<w.heap.size->¬mD g L i->u.heap[i]? =w.heap[i]?)/\∀u v8,u.ownsRow w0.heap.size (Gy s) (Af s) v8 (iR d s+1) (ju d s++vals)->(w.drew.alloc o).grownBy u (L.v s).ownBlock->(v8.ownBlock=(L.v s).ownBlock\/∀q,v8.ownBlock=some q->(w.drew.alloc o).heap.size<=q)->iW m w0 w g L (u.setCell ⟨g,cell,none⟩ v8) d':=by
 have C:Below w.heap.size w (w.drew.alloc o):=(below_drewN (au) 1).alloc (ar) _;have I:=h.below C;have J: ∀u,(w.drew.alloc o).grownBy u (L.v s).ownBlock->eN u g 60 (lB d L):=fun u z=>I.eW.grown z (fun e=>h.off s E e.symm);refine⟨I.own s E,fun u z=>⟨J u z,fun i h1 h2=>(z.block i (aN h1 C.size) (fun e=>h2 (.inr (.inl ⟨s,E,e.symm⟩)))).trans (C.block i h1)⟩,fun u v8 O z T=> ?_⟩;refine iW.after C (I.row s E v8 z T (eQ (fw _ _) (.inl rfl) _) ?_ ?_ X U hp)
 ·rw[K.1,K.2];exact O
 ·rw[<-hC];exact(J u z).eS cell v8
theorem qN(x:Int)(W:World)(s:gY W)(h0:-9223372036854775808<=x)(h1:x<=9223372036854775807):Calls prog 16 #[.slice (some ⟨W.heap.size,0,none⟩) 1 1] (W.alloc (.cells #[.int .i64 x] 3)) fun e w'=>e=.returned (.string (fR x))/\Below W.heap.size W w':=by
 have h:Below W.heap.size W (W.alloc (.cells #[.int .i64 x] 3)):=(au).alloc (ar) _;refine(Bg (some ⟨W.heap.size,0,none⟩) 1 [x] _ (s.next h) (fun j u=>⟨W.heap.size,0,rfl, ?_⟩) ak ak (by simpa using ⟨h0,h1⟩)).mono (fun e w' he=>⟨he.1.trans (by simp[sw,fR,Lib.join]),h.trans (he.2.mono h.size)⟩);obtain rfl:j=0:=by simpa using u
 exact(eN.new W 3 #[.int .i64 x]).cell 0
theorem Pg(x:Int)(W:World)(n:Nat)(e:n=W.heap.size)(h:gY W)(h0:-9223372036854775808<=x)(h1:x<=9223372036854775807):Calls prog 16 #[.slice (some ⟨n,0,none⟩) 1 1] (W.alloc (.cells #[.int .i64 x] 3)) fun e w'=>e=.returned (.string (fR x))/\Below W.heap.size W w':=by subst e;exact qN x W h h0 h1
end
theorem lU{w:World}{g:Nat}{s:ByteArray}(hs:s=⟨#[112,117,116]⟩\/s=⟨#[114,101,99,101,105,118,101]⟩\/s=⟨#[108,111,115,101]⟩\/s=⟨#[114,101,97,100]⟩\/s=⟨#[100,114,105,102,116]⟩\/s=⟨#[109,111,100,101]⟩\/s=⟨#[114,111,117,110,100]⟩\/s=⟨#[99,108,111,99,107,115]⟩\/s=⟨#[115,112,114,101,97,100]⟩\/s=⟨#[109,101,109,98,101,114,115]⟩)(jk:w.cell? ⟨g,10,none⟩=some (.pointer none))(u v:Value):Calls prog 15 #[.pointer (some ⟨g,0,none⟩),.string s,u,v] w fun e w'=>e=.returned (.tuple #[.string ⟨#[]⟩,.int .i64 6])/\w'=w:=by rcases hs with rfl|rfl|rfl|rfl|rfl|rfl|rfl|rfl|rfl|rfl;all_goals go_enter func15,ntmps15;go_wp2_with fail;go_ret2;exact⟨rfl,rfl⟩
theorem ug{w:World}{g:Nat}{q:Nat}{s:ByteArray}(hs:s=⟨#[112,108,97,110]⟩\/s=⟨#[115,108,111,116]⟩\/s=⟨#[108,105,110,107]⟩\/s=⟨#[115,116,97,114,116]⟩)(jk:w.cell? ⟨g,10,none⟩=some (.pointer (some ⟨q,0,none⟩)))(u v:Value):Calls prog 15 #[.pointer (some ⟨g,0,none⟩),.string s,u,v] w fun e w'=>e=.returned (.tuple #[.string ⟨#[]⟩,.int .i64 6])/\w'=w:=by rcases hs with rfl|rfl|rfl|rfl;all_goals go_enter func15,ntmps15;go_wp2_with fail;go_ret2;exact⟨rfl,rfl⟩
section
variable {w0 w:World}{g k:Nat}{d:Dk}{L:Ly}{A:Option Addr}{ws:List ByteArray}
theorem G5(h:iu w0 w g d L k A ws)(c:Nat):Calls prog 50 #[.pointer (some ⟨g,0,none⟩),.slice A ws.length c] w (qG w0 w g L (mW d ws)):=by
 have ac:=eJ (h.jb (-1) ah ah c);have H:=eJ h;clear h;go_enter func50,ntmps50;go_wp2_with fail;refine ac.out.mono ?_;rintro r w1 ⟨⟨hn,rfl⟩|⟨l,v,hn,rfl,E⟩,C⟩;case inl=>have J:=eJ (H.out.bad (x:=mW d ws) (fJ hn) C);go_wp2_with fail;exact⟨rfl,J.out⟩
 obtain⟨am,cv,rfl,-⟩:=gK E;have s:=eJ C;have O:=eJ E;have K:=eJ hn;clear C E hn;cases hd:d.c with|none=>have u:=eJ (iz w1 (H.out.jK s.out).err g none true (H.out.noCell s.out hd) rfl);have z:Hid (mW d ws=⟨.error 6,d⟩):=eJ ((eL K.out).trans (fZ hd));go_wp2_with fail;refine u.out.mono ?_;rintro r w2 ⟨rfl,T⟩;have J:=eJ (H.out.bad z.out (s.out.trans (T.mono s.out.size)));go_wp2_with fail;exact⟨rfl,J.out⟩|some y=>obtain⟨a,b,jk,U,aa,Z,X,ad⟩:=H.out.lx s.out hd;have u:=eJ (jd w1 g _ true jk rfl);have I:=eJ (H.out.dk.below s.out);have z:Hid (mW d ws=⟨.ok ⟨#[100,114,105,102,116]⟩,{d with r:={d.r with dr:=l}}⟩):=eJ ((eL K.out).trans (fF hd));have Y:=I.out.eW.cell 13;have f13:=I.out.eW.frozen 13;simp at Y;clear jk U aa Z X ad;go_wp2_with fail;refine u.out.mono ?_;rintro r w2 ⟨rfl,rfl⟩;go_wp2_with fail;go_ret;rw[z.out];exact⟨rfl,H.out.dk.row 4 ah _ (lV s.out _) (.inr fun b e=>(lF O.out b e)) (eQ (fw _ _) (.inl rfl) _) (rY O.out H.out.dk.low.size) (I.out.eW.eS 13 _) (fun j ao al=>by obtain rfl|rfl|rfl|rfl|rfl:j=0\/j=1\/j=2\/j=3\/j=5:=ah;all_goals exact⟨rfl,rfl⟩) rfl (.inr ⟨ah,rfl⟩)⟩
theorem Kq(h:iu w0 w g d L k A ws)(c:Nat):Calls prog 57 #[.pointer (some ⟨g,0,none⟩),.slice A ws.length c] w (qG w0 w g L (pY d ws)):=by
 have ac:=eJ (h.jb (-1) ah ah c);have H:=eJ h;clear h;go_enter func57,ntmps57;go_wp2_with fail;refine ac.out.mono ?_;rintro r w1 ⟨⟨hn,rfl⟩|⟨l,v,hn,rfl,E⟩,C⟩;case inl=>have J:=eJ (H.out.bad (x:=pY d ws) (fJ hn) C);go_wp2_with fail;exact⟨rfl,J.out⟩
 obtain⟨am,cv,rfl,-⟩:=gK E;have s:=eJ C;have O:=eJ E;have K:=eJ hn;clear C E hn;cases hd:d.c with|none=>have u:=eJ (iz w1 (H.out.jK s.out).err g none true (H.out.noCell s.out hd) rfl);have z:Hid (pY d ws=⟨.error 6,d⟩):=eJ ((eL K.out).trans (fZ hd));go_wp2_with fail;refine u.out.mono ?_;rintro r w2 ⟨rfl,T⟩;have J:=eJ (H.out.bad z.out (s.out.trans (T.mono s.out.size)));go_wp2_with fail;exact⟨rfl,J.out⟩|some y=>obtain⟨a,b,jk,U,Z,Y,X,ad⟩:=H.out.lx s.out hd;have u:=eJ (jd w1 g _ true jk rfl);have I:=eJ (H.out.dk.below s.out);have z:Hid (pY d ws=⟨.ok ⟨#[109,111,100,101]⟩,{d with r:={d.r with md:=l}}⟩):=eJ ((eL K.out).trans (fF hd));have aa:=I.out.eW.cell 14;have f14:=I.out.eW.frozen 14;simp at aa;clear jk U Z Y X ad;go_wp2_with fail;refine u.out.mono ?_;rintro r w2 ⟨rfl,rfl⟩;go_wp2_with fail;go_ret;rw[z.out];exact⟨rfl,H.out.dk.row 5 ah _ (lV s.out _) (.inr fun b e=>(lF O.out b e)) (eQ (fw _ _) (.inl rfl) _) (rY O.out H.out.dk.low.size) (I.out.eW.eS 14 _) (fun j ao al=>by obtain rfl|rfl|rfl|rfl|rfl:j=0\/j=1\/j=2\/j=3\/j=4:=ah;all_goals exact⟨rfl,rfl⟩) rfl (.inr ⟨ah,rfl⟩)⟩
theorem KH(h:iu w0 w g d L k A ws)(c:Nat):Calls prog 51 #[.pointer (some ⟨g,0,none⟩),.slice A ws.length c] w (qG w0 w g L (tC d ws)):=by
 have s:=eJ (h.jb (0) ah ah c);have H:=eJ h;clear h;go_enter func51,ntmps51;go_wp2_with fail;refine s.out.mono ?_;rintro r w1 ⟨⟨hn,rfl⟩|⟨l,v,hn,rfl,u⟩,j⟩;case inl=>have e:=eJ (H.out.bad (x:=tC d ws) (fJ hn) j);go_wp2_with fail;exact⟨rfl,e.out⟩
 have e:=eJ (H.out.tQ (x:=tC d ws) (o:=Nb) (eL hn) j);go_wp2_with fail;go_ret;exact e.out
theorem M5{W:World}{G:Nat}{t:TypeId}{a0 a1 a2 a3 a4 a5 Z Y U a9 T K a12 I C b0 b1 b2 e j s u b7 z E J O X aa ac:Value}(h:eN W G t #[a0,a1,a2,a3,a4,a5,Z,Y,U,a9,T,K,a12,I,C]):eN ((((((((((((((((W.setCell ⟨G,0,none⟩ b0).setCell ⟨G,1,none⟩ b1).setCell ⟨G,2,none⟩ b2).setCell ⟨G,3,none⟩ e).setCell ⟨G,4,none⟩ j).setCell ⟨G,5,none⟩ s).setCell ⟨G,6,none⟩ u).setCell ⟨G,7,none⟩ b7).setCell ⟨G,8,none⟩ z).setCell ⟨G,9,none⟩ E).setCell ⟨G,10,none⟩ J).setCell ⟨G,11,none⟩ O).setCell ⟨G,12,none⟩ X).setCell ⟨G,13,none⟩ aa).setCell ⟨G,14,none⟩ ac)) G t #[b0,b1,b2,e,j,s,u,b7,z,E,J,O,X,aa,ac]:=by have h0:eN (W.setCell ⟨G,0,none⟩ b0) G t #[b0,a1,a2,a3,a4,a5,Z,Y,U,a9,T,K,a12,I,C]:=h.eS 0 b0;have h1:eN ((W.setCell ⟨G,0,none⟩ b0).setCell ⟨G,1,none⟩ b1) G t #[b0,b1,a2,a3,a4,a5,Z,Y,U,a9,T,K,a12,I,C]:=h0.eS 1 b1;have h2:eN (((W.setCell ⟨G,0,none⟩ b0).setCell ⟨G,1,none⟩ b1).setCell ⟨G,2,none⟩ b2) G t #[b0,b1,b2,a3,a4,a5,Z,Y,U,a9,T,K,a12,I,C]:=h1.eS 2 b2;have h3:eN ((((W.setCell ⟨G,0,none⟩ b0).setCell ⟨G,1,none⟩ b1).setCell ⟨G,2,none⟩ b2).setCell ⟨G,3,none⟩ e) G t #[b0,b1,b2,e,a4,a5,Z,Y,U,a9,T,K,a12,I,C]:=h2.eS 3 e;have h4:eN (((((W.setCell ⟨G,0,none⟩ b0).setCell ⟨G,1,none⟩ b1).setCell ⟨G,2,none⟩ b2).setCell ⟨G,3,none⟩ e).setCell ⟨G,4,none⟩ j) G t #[b0,b1,b2,e,j,a5,Z,Y,U,a9,T,K,a12,I,C]:=h3.eS 4 j;have h5:eN ((((((W.setCell ⟨G,0,none⟩ b0).setCell ⟨G,1,none⟩ b1).setCell ⟨G,2,none⟩ b2).setCell ⟨G,3,none⟩ e).setCell ⟨G,4,none⟩ j).setCell ⟨G,5,none⟩ s) G t #[b0,b1,b2,e,j,s,Z,Y,U,a9,T,K,a12,I,C]:=h4.eS 5 s;have h6:eN (((((((W.setCell ⟨G,0,none⟩ b0).setCell ⟨G,1,none⟩ b1).setCell ⟨G,2,none⟩ b2).setCell ⟨G,3,none⟩ e).setCell ⟨G,4,none⟩ j).setCell ⟨G,5,none⟩ s).setCell ⟨G,6,none⟩ u) G t #[b0,b1,b2,e,j,s,u,Y,U,a9,T,K,a12,I,C]:=h5.eS 6 u;have h7:eN ((((((((W.setCell ⟨G,0,none⟩ b0).setCell ⟨G,1,none⟩ b1).setCell ⟨G,2,none⟩ b2).setCell ⟨G,3,none⟩ e).setCell ⟨G,4,none⟩ j).setCell ⟨G,5,none⟩ s).setCell ⟨G,6,none⟩ u).setCell ⟨G,7,none⟩ b7) G t #[b0,b1,b2,e,j,s,u,b7,U,a9,T,K,a12,I,C]:=h6.eS 7 b7;have h8:eN (((((((((W.setCell ⟨G,0,none⟩ b0).setCell ⟨G,1,none⟩ b1).setCell ⟨G,2,none⟩ b2).setCell ⟨G,3,none⟩ e).setCell ⟨G,4,none⟩ j).setCell ⟨G,5,none⟩ s).setCell ⟨G,6,none⟩ u).setCell ⟨G,7,none⟩ b7).setCell ⟨G,8,none⟩ z) G t #[b0,b1,b2,e,j,s,u,b7,z,a9,T,K,a12,I,C]:=h7.eS 8 z;have h9:eN ((((((((((W.setCell ⟨G,0,none⟩ b0).setCell ⟨G,1,none⟩ b1).setCell ⟨G,2,none⟩ b2).setCell ⟨G,3,none⟩ e).setCell ⟨G,4,none⟩ j).setCell ⟨G,5,none⟩ s).setCell ⟨G,6,none⟩ u).setCell ⟨G,7,none⟩ b7).setCell ⟨G,8,none⟩ z).setCell ⟨G,9,none⟩ E) G t #[b0,b1,b2,e,j,s,u,b7,z,E,T,K,a12,I,C]:=h8.eS 9 E;have h10:eN (((((((((((W.setCell ⟨G,0,none⟩ b0).setCell ⟨G,1,none⟩ b1).setCell ⟨G,2,none⟩ b2).setCell ⟨G,3,none⟩ e).setCell ⟨G,4,none⟩ j).setCell ⟨G,5,none⟩ s).setCell ⟨G,6,none⟩ u).setCell ⟨G,7,none⟩ b7).setCell ⟨G,8,none⟩ z).setCell ⟨G,9,none⟩ E).setCell ⟨G,10,none⟩ J) G t #[b0,b1,b2,e,j,s,u,b7,z,E,J,K,a12,I,C]:=h9.eS 10 J;have h11:eN ((((((((((((W.setCell ⟨G,0,none⟩ b0).setCell ⟨G,1,none⟩ b1).setCell ⟨G,2,none⟩ b2).setCell ⟨G,3,none⟩ e).setCell ⟨G,4,none⟩ j).setCell ⟨G,5,none⟩ s).setCell ⟨G,6,none⟩ u).setCell ⟨G,7,none⟩ b7).setCell ⟨G,8,none⟩ z).setCell ⟨G,9,none⟩ E).setCell ⟨G,10,none⟩ J).setCell ⟨G,11,none⟩ O) G t #[b0,b1,b2,e,j,s,u,b7,z,E,J,O,a12,I,C]:=h10.eS 11 O;have h12:eN (((((((((((((W.setCell ⟨G,0,none⟩ b0).setCell ⟨G,1,none⟩ b1).setCell ⟨G,2,none⟩ b2).setCell ⟨G,3,none⟩ e).setCell ⟨G,4,none⟩ j).setCell ⟨G,5,none⟩ s).setCell ⟨G,6,none⟩ u).setCell ⟨G,7,none⟩ b7).setCell ⟨G,8,none⟩ z).setCell ⟨G,9,none⟩ E).setCell ⟨G,10,none⟩ J).setCell ⟨G,11,none⟩ O).setCell ⟨G,12,none⟩ X) G t #[b0,b1,b2,e,j,s,u,b7,z,E,J,O,X,I,C]:=h11.eS 12 X;have h13:eN ((((((((((((((W.setCell ⟨G,0,none⟩ b0).setCell ⟨G,1,none⟩ b1).setCell ⟨G,2,none⟩ b2).setCell ⟨G,3,none⟩ e).setCell ⟨G,4,none⟩ j).setCell ⟨G,5,none⟩ s).setCell ⟨G,6,none⟩ u).setCell ⟨G,7,none⟩ b7).setCell ⟨G,8,none⟩ z).setCell ⟨G,9,none⟩ E).setCell ⟨G,10,none⟩ J).setCell ⟨G,11,none⟩ O).setCell ⟨G,12,none⟩ X).setCell ⟨G,13,none⟩ aa) G t #[b0,b1,b2,e,j,s,u,b7,z,E,J,O,X,aa,C]:=h12.eS 13 aa;have h14:eN (((((((((((((((W.setCell ⟨G,0,none⟩ b0).setCell ⟨G,1,none⟩ b1).setCell ⟨G,2,none⟩ b2).setCell ⟨G,3,none⟩ e).setCell ⟨G,4,none⟩ j).setCell ⟨G,5,none⟩ s).setCell ⟨G,6,none⟩ u).setCell ⟨G,7,none⟩ b7).setCell ⟨G,8,none⟩ z).setCell ⟨G,9,none⟩ E).setCell ⟨G,10,none⟩ J).setCell ⟨G,11,none⟩ O).setCell ⟨G,12,none⟩ X).setCell ⟨G,13,none⟩ aa).setCell ⟨G,14,none⟩ ac) G t #[b0,b1,b2,e,j,s,u,b7,z,E,J,O,X,aa,ac]:=h13.eS 14 ac;exact h14
theorem GF{W:World}{G:Nat}{b0 b1 b2 e h j s b7 u z C E I J K:Value}:W.grownBy (((((((((((((((W.setCell ⟨G,0,none⟩ b0).setCell ⟨G,1,none⟩ b1).setCell ⟨G,2,none⟩ b2).setCell ⟨G,3,none⟩ e).setCell ⟨G,4,none⟩ h).setCell ⟨G,5,none⟩ j).setCell ⟨G,6,none⟩ s).setCell ⟨G,7,none⟩ b7).setCell ⟨G,8,none⟩ u).setCell ⟨G,9,none⟩ z).setCell ⟨G,10,none⟩ C).setCell ⟨G,11,none⟩ E).setCell ⟨G,12,none⟩ I).setCell ⟨G,13,none⟩ J).setCell ⟨G,14,none⟩ K) (some G):=by have h0:W.grownBy (W.setCell ⟨G,0,none⟩ b0) (some G):=eQ (fw W (some G)) (.inl rfl) b0;have h1:W.grownBy ((W.setCell ⟨G,0,none⟩ b0).setCell ⟨G,1,none⟩ b1) (some G):=eQ (h0) (.inl rfl) b1;have h2:W.grownBy (((W.setCell ⟨G,0,none⟩ b0).setCell ⟨G,1,none⟩ b1).setCell ⟨G,2,none⟩ b2) (some G):=eQ (h1) (.inl rfl) b2;have h3:W.grownBy ((((W.setCell ⟨G,0,none⟩ b0).setCell ⟨G,1,none⟩ b1).setCell ⟨G,2,none⟩ b2).setCell ⟨G,3,none⟩ e) (some G):=eQ (h2) (.inl rfl) e;have h4:W.grownBy (((((W.setCell ⟨G,0,none⟩ b0).setCell ⟨G,1,none⟩ b1).setCell ⟨G,2,none⟩ b2).setCell ⟨G,3,none⟩ e).setCell ⟨G,4,none⟩ h) (some G):=eQ (h3) (.inl rfl) h;have h5:W.grownBy ((((((W.setCell ⟨G,0,none⟩ b0).setCell ⟨G,1,none⟩ b1).setCell ⟨G,2,none⟩ b2).setCell ⟨G,3,none⟩ e).setCell ⟨G,4,none⟩ h).setCell ⟨G,5,none⟩ j) (some G):=eQ (h4) (.inl rfl) j;have h6:W.grownBy (((((((W.setCell ⟨G,0,none⟩ b0).setCell ⟨G,1,none⟩ b1).setCell ⟨G,2,none⟩ b2).setCell ⟨G,3,none⟩ e).setCell ⟨G,4,none⟩ h).setCell ⟨G,5,none⟩ j).setCell ⟨G,6,none⟩ s) (some G):=eQ (h5) (.inl rfl) s;have h7:W.grownBy ((((((((W.setCell ⟨G,0,none⟩ b0).setCell ⟨G,1,none⟩ b1).setCell ⟨G,2,none⟩ b2).setCell ⟨G,3,none⟩ e).setCell ⟨G,4,none⟩ h).setCell ⟨G,5,none⟩ j).setCell ⟨G,6,none⟩ s).setCell ⟨G,7,none⟩ b7) (some G):=eQ (h6) (.inl rfl) b7;have h8:W.grownBy (((((((((W.setCell ⟨G,0,none⟩ b0).setCell ⟨G,1,none⟩ b1).setCell ⟨G,2,none⟩ b2).setCell ⟨G,3,none⟩ e).setCell ⟨G,4,none⟩ h).setCell ⟨G,5,none⟩ j).setCell ⟨G,6,none⟩ s).setCell ⟨G,7,none⟩ b7).setCell ⟨G,8,none⟩ u) (some G):=eQ (h7) (.inl rfl) u;have h9:W.grownBy ((((((((((W.setCell ⟨G,0,none⟩ b0).setCell ⟨G,1,none⟩ b1).setCell ⟨G,2,none⟩ b2).setCell ⟨G,3,none⟩ e).setCell ⟨G,4,none⟩ h).setCell ⟨G,5,none⟩ j).setCell ⟨G,6,none⟩ s).setCell ⟨G,7,none⟩ b7).setCell ⟨G,8,none⟩ u).setCell ⟨G,9,none⟩ z) (some G):=eQ (h8) (.inl rfl) z;have h10:W.grownBy (((((((((((W.setCell ⟨G,0,none⟩ b0).setCell ⟨G,1,none⟩ b1).setCell ⟨G,2,none⟩ b2).setCell ⟨G,3,none⟩ e).setCell ⟨G,4,none⟩ h).setCell ⟨G,5,none⟩ j).setCell ⟨G,6,none⟩ s).setCell ⟨G,7,none⟩ b7).setCell ⟨G,8,none⟩ u).setCell ⟨G,9,none⟩ z).setCell ⟨G,10,none⟩ C) (some G):=eQ (h9) (.inl rfl) C;have h11:W.grownBy ((((((((((((W.setCell ⟨G,0,none⟩ b0).setCell ⟨G,1,none⟩ b1).setCell ⟨G,2,none⟩ b2).setCell ⟨G,3,none⟩ e).setCell ⟨G,4,none⟩ h).setCell ⟨G,5,none⟩ j).setCell ⟨G,6,none⟩ s).setCell ⟨G,7,none⟩ b7).setCell ⟨G,8,none⟩ u).setCell ⟨G,9,none⟩ z).setCell ⟨G,10,none⟩ C).setCell ⟨G,11,none⟩ E) (some G):=eQ (h10) (.inl rfl) E;have h12:W.grownBy (((((((((((((W.setCell ⟨G,0,none⟩ b0).setCell ⟨G,1,none⟩ b1).setCell ⟨G,2,none⟩ b2).setCell ⟨G,3,none⟩ e).setCell ⟨G,4,none⟩ h).setCell ⟨G,5,none⟩ j).setCell ⟨G,6,none⟩ s).setCell ⟨G,7,none⟩ b7).setCell ⟨G,8,none⟩ u).setCell ⟨G,9,none⟩ z).setCell ⟨G,10,none⟩ C).setCell ⟨G,11,none⟩ E).setCell ⟨G,12,none⟩ I) (some G):=eQ (h11) (.inl rfl) I;have h13:W.grownBy ((((((((((((((W.setCell ⟨G,0,none⟩ b0).setCell ⟨G,1,none⟩ b1).setCell ⟨G,2,none⟩ b2).setCell ⟨G,3,none⟩ e).setCell ⟨G,4,none⟩ h).setCell ⟨G,5,none⟩ j).setCell ⟨G,6,none⟩ s).setCell ⟨G,7,none⟩ b7).setCell ⟨G,8,none⟩ u).setCell ⟨G,9,none⟩ z).setCell ⟨G,10,none⟩ C).setCell ⟨G,11,none⟩ E).setCell ⟨G,12,none⟩ I).setCell ⟨G,13,none⟩ J) (some G):=eQ (h12) (.inl rfl) J;have h14:W.grownBy (((((((((((((((W.setCell ⟨G,0,none⟩ b0).setCell ⟨G,1,none⟩ b1).setCell ⟨G,2,none⟩ b2).setCell ⟨G,3,none⟩ e).setCell ⟨G,4,none⟩ h).setCell ⟨G,5,none⟩ j).setCell ⟨G,6,none⟩ s).setCell ⟨G,7,none⟩ b7).setCell ⟨G,8,none⟩ u).setCell ⟨G,9,none⟩ z).setCell ⟨G,10,none⟩ C).setCell ⟨G,11,none⟩ E).setCell ⟨G,12,none⟩ I).setCell ⟨G,13,none⟩ J).setCell ⟨G,14,none⟩ K) (some G):=eQ (h13) (.inl rfl) K;exact h14
theorem xE(w:World):Calls prog 7 #[] w fun e w'=>e=.returned (.agg #[.int .i64 0,.int .i64 0,.int .i64 0,.int .i64 0,.int .i64 0,.int .i64 0,.slice none 0 0,.slice none 0 0,.int .i64 1,.slice none 0 0,.pointer none,.slice none 0 0,.slice none 0 0,.slice none 0 0,.slice none 0 0])/\Below w.heap.size w w':=by go_enter func7,ntmps7;go_wp2_with fail;refine aR (v:=.agg #[.int .i64 0,.int .i64 0,.int .i64 0,.int .i64 0,.int .i64 0,.int .i64 0,.slice none 0 0,.slice none 0 0,.int .i64 1,.slice none 0 0,.pointer none,.slice none 0 0,.slice none 0 0,.slice none 0 0,.slice none 0 0]) (by simp[results,results7,go_sem]) rfl ⟨rfl, ?_⟩;exact(au).alloc (ar) _
theorem Hy(h:iu w0 w g d L k A ws)(c:Nat):Calls prog 48 #[.pointer (some ⟨g,0,none⟩),.slice A ws.length c] w (qG w0 w g L (oR d ws)):=by
 have z:=eJ (h.jb (0) ah ah c);have H:=eJ h;clear h;go_enter func48,ntmps48;go_wp2_with fail;refine z.out.mono ?_;rintro r w1 ⟨⟨hn,rfl⟩|⟨l,v,hn,rfl,O⟩,j⟩;case inl=>have U:=eJ (H.out.bad (x:=oR d ws) (fJ hn) j);go_wp2_with fail;exact⟨rfl,U.out⟩
 have C:=eJ (xE w1);go_wp2_with fail;refine C.out.mono ?_;rintro r w2 ⟨rfl,s⟩;have u:=eJ (j.trans (s.mono j.size));have I:Hid (oR d ws=⟨.ok ⟨#[99,108,101,97,114]⟩,ld⟩):=eJ (eL hn);have e:=eJ (H.out.dk.below u.out);clear j s O hn z;have c0:=e.out.eW.cell 0;have f0:=e.out.eW.frozen 0;have c1:=e.out.eW.cell 1;have f1:=e.out.eW.frozen 1;have c2:=e.out.eW.cell 2;have f2:=e.out.eW.frozen 2;have c3:=e.out.eW.cell 3;have f3:=e.out.eW.frozen 3;have c4:=e.out.eW.cell 4;have f4:=e.out.eW.frozen 4;have c5:=e.out.eW.cell 5;have f5:=e.out.eW.frozen 5;have T:=e.out.eW.cell 6;have f6:=e.out.eW.frozen 6;have E:=e.out.eW.cell 7;have f7:=e.out.eW.frozen 7;have J:=e.out.eW.cell 8;have f8:=e.out.eW.frozen 8;have c9:=e.out.eW.cell 9;have f9:=e.out.eW.frozen 9;have jk:=e.out.eW.cell 10;have f10:=e.out.eW.frozen 10;have Y:=e.out.eW.cell 11;have f11:=e.out.eW.frozen 11;have c12:=e.out.eW.cell 12;have f12:=e.out.eW.frozen 12;have X:=e.out.eW.cell 13;have f13:=e.out.eW.frozen 13;have K:=e.out.eW.cell 14;have f14:=e.out.eW.frozen 14;simp at c0 c1 c2 c3 c4 c5 T E J c9 jk Y c12 X K;go_wp2_with fail;go_ret;rw[I.out];exact⟨rfl,iN.after u.out (e.out.clear GF (M5 e.out.eW))⟩
end
section
variable {m k:Nat}{w0 w w1:World}{g:Nat}{d:Dk}{L:Lh}{v:Value}{l:List Int}
theorem LP(h:jF m k w0 w w1 g d L v l)(A:Option Addr)(ws:List ByteArray)(c:Nat)(hn:eU ws 0=some l):Calls prog 15 #[.pointer (some ⟨g,0,none⟩),.string ⟨#[104,101,108,112]⟩,.slice A ws.length c,v] w1 (mx m w0 w g L (tC d ws)):=by obtain⟨j,cv,rfl,-⟩:=gK h.own;have e:=eJ (mx.fe (x:=tC d ws) (eL hn) (h.to (au)));have jk:=h.jk;clear h hn;go_enter func15,ntmps15;go_wp2_with fail;go_ret2;exact e.out
theorem JF(h:jF m k w0 w w1 g d L v l)(A:Option Addr)(ws:List ByteArray)(c:Nat)(hn:eU ws 0=some l):Calls prog 15 #[.pointer (some ⟨g,0,none⟩),.string ⟨#[99,108,101,97,114]⟩,.slice A ws.length c,v] w1 (mx m w0 w g L (oR d ws)):=by obtain⟨K,cv,rfl,-⟩:=gK h.own;have s:Hid (oR d ws=⟨.ok ⟨#[99,108,101,97,114]⟩,ld⟩):=eJ (eL hn);have H:=eJ h;have e:=eJ h.hs;have J:=eJ h.own;clear h hn;have c0:=e.out.eW.cell 0;have f0:=e.out.eW.frozen 0;have c1:=e.out.eW.cell 1;have f1:=e.out.eW.frozen 1;have c2:=e.out.eW.cell 2;have f2:=e.out.eW.frozen 2;have c3:=e.out.eW.cell 3;have f3:=e.out.eW.frozen 3;have c4:=e.out.eW.cell 4;have f4:=e.out.eW.frozen 4;have c5:=e.out.eW.cell 5;have f5:=e.out.eW.frozen 5;have C:=e.out.eW.cell 6;have f6:=e.out.eW.frozen 6;have j:=e.out.eW.cell 7;have f7:=e.out.eW.frozen 7;have u:=e.out.eW.cell 8;have f8:=e.out.eW.frozen 8;have c9:=e.out.eW.cell 9;have f9:=e.out.eW.frozen 9;have jk:=e.out.eW.cell 10;have f10:=e.out.eW.frozen 10;have I:=e.out.eW.cell 11;have f11:=e.out.eW.frozen 11;have c12:=e.out.eW.cell 12;have f12:=e.out.eW.frozen 12;have E:=e.out.eW.cell 13;have f13:=e.out.eW.frozen 13;have z:=e.out.eW.cell 14;have f14:=e.out.eW.frozen 14;simp at c0 c1 c2 c3 c4 c5 C j u c9 jk I c12 E z;go_enter func15,ntmps15;go_wp2_with fail;go_ret2;exact mx.fe s.out (((iW.after H.out.hB (e.out.clear GF (M5 e.out.eW)))).mono (aw))
theorem Hv(h:jF m k w0 w w1 g d L v l)(A:Option Addr)(ws:List ByteArray)(c:Nat)(hn:eU ws (-1)=some l):Calls prog 15 #[.pointer (some ⟨g,0,none⟩),.string ⟨#[100,114,105,102,116]⟩,.slice A ws.length c,v] w1 (mx m w0 w g L (mW d ws)):=by obtain⟨Y,cv,rfl,-⟩:=gK h.own;cases hd:d.c with|none=>have O:=eJ (h.bad (x:=mW d ws) ((eL hn).trans (fZ hd)) aj ⟨#[]⟩ (au));exact(lU ak (h.none_ hd) _ _).mono (by rintro r w2 ⟨rfl,rfl⟩;exact O.out)|some y=>obtain⟨gc,M,bs,X,hM,I,z,hG,K,C,J⟩:=h.dk.DK (fy:=y.1) (c:=y.2) hd h.hB h.lt;have jk:=h.some_ z;have E:Hid (mW d ws=⟨.ok ⟨#[100,114,105,102,116]⟩,{d with r:={d.r with dr:=l}}⟩):=eJ ((eL hn).trans (fF hd));clear K C J hG hM I;have H:=eJ h;have s:=eJ h.hs;have u:=eJ h.own;clear h hn;have T:=s.out.eW.cell 13;have f13:=s.out.eW.frozen 13;simp at T;go_enter func15,ntmps15;go_wp2_with fail;go_ret2;refine mx.fe E.out (iW.mono (m:=m) ?_ (aw));exact H.out.dk.row 4 ah _ (lV H.out.hB _) (.inr fun b e=>(lF u.out b e)) (eQ (fw _ _) (.inl rfl) _) (rY u.out H.out.dk.low.size) (s.out.eW.eS 13 _) (fun j U Z=>by obtain rfl|rfl|rfl|rfl|rfl:j=0\/j=1\/j=2\/j=3\/j=5:=ah;all_goals exact⟨rfl,rfl⟩) rfl (.inr ⟨ah,rfl⟩)
theorem Lc(h:jF m k w0 w w1 g d L v l)(A:Option Addr)(ws:List ByteArray)(c:Nat)(hn:eU ws (-1)=some l):Calls prog 15 #[.pointer (some ⟨g,0,none⟩),.string ⟨#[109,111,100,101]⟩,.slice A ws.length c,v] w1 (mx m w0 w g L (pY d ws)):=by obtain⟨Y,cv,rfl,-⟩:=gK h.own;cases hd:d.c with|none=>have T:=eJ (h.bad (x:=pY d ws) ((eL hn).trans (fZ hd)) aj ⟨#[]⟩ (au));exact(lU ak (h.none_ hd) _ _).mono (by rintro r w2 ⟨rfl,rfl⟩;exact T.out)|some y=>obtain⟨gc,M,bs,X,hM,I,z,hG,O,C,K⟩:=h.dk.DK (fy:=y.1) (c:=y.2) hd h.hB h.lt;have jk:=h.some_ z;have E:Hid (pY d ws=⟨.ok ⟨#[109,111,100,101]⟩,{d with r:={d.r with md:=l}}⟩):=eJ ((eL hn).trans (fF hd));clear O C K hG hM I;have H:=eJ h;have s:=eJ h.hs;have u:=eJ h.own;clear h hn;have J:=s.out.eW.cell 14;have f14:=s.out.eW.frozen 14;simp at J;go_enter func15,ntmps15;go_wp2_with fail;go_ret2;refine mx.fe E.out (iW.mono (m:=m) ?_ (aw));exact H.out.dk.row 5 ah _ (lV H.out.hB _) (.inr fun b e=>(lF u.out b e)) (eQ (fw _ _) (.inl rfl) _) (rY u.out H.out.dk.low.size) (s.out.eW.eS 14 _) (fun j U Z=>by obtain rfl|rfl|rfl|rfl|rfl:j=0\/j=1\/j=2\/j=3\/j=4:=ah;all_goals exact⟨rfl,rfl⟩) rfl (.inr ⟨ah,rfl⟩)
end
theorem jS(f s n d:Int)(w:World):Calls prog 87 #[wW f s n d] w fun e w'=>e=.returned (.bool (gE f s n d))/\w.alloc (.cells #[.int .i64 f,.int .i64 s,.int .i64 n,.int .i64 d] 118)=w':=by
 by_cases hd:1<=d/\d<=1000000
 ·by_cases hn:1<=n/\n<=1000000
  ·obtain⟨d0,d1⟩:=hd;obtain⟨h,n1⟩:=hn;go_enter func87,ntmps87;go_wp2_with (go_at_call 31;refine(qi _ _ _ _).mono ?_;rintro e w' ⟨rfl,rfl⟩);all_goals (go_ret;exact⟨gB (by simp only[ij,cR,bI] at*;unfold gE;symm;first|(apply aH;omega)|(apply aJ;omega)|(apply cG.2;omega)),rfl⟩)
  ·have hq:ij n 1 1000000=false:=by simp[ij];omega
   go_enter func87,ntmps87;go_wp2_with (go_at_call 31;refine(qi _ _ _ _).mono ?_;rintro e w' ⟨rfl,rfl⟩);all_goals (go_ret;exact⟨gB (by simp only[ij,cR,bI,dH,di] at*;unfold gE;symm;first|(apply aH;omega)|(apply aJ;omega)|(apply cG.2;omega)),rfl⟩)
 ·have hq:ij d 1 1000000=false:=by simp[ij];omega
  go_enter func87,ntmps87;go_wp2_with (go_at_call 31;refine(qi _ _ _ _).mono ?_;rintro e w' ⟨rfl,rfl⟩);all_goals (go_ret;exact⟨gB (by simp only[ij,cR,bI,dH,di] at*;unfold gE;symm;first|(apply aH;omega)|(apply aJ;omega)|(apply cG.2;omega)),rfl⟩)
theorem lT(f s n d t:Int)(w:World)(h:gE f s n d=true)(h1:f<=t)(h2:t<=1099511627776):Calls prog 88 #[wW f s n d,.int .i64 t] w fun e w'=>e=.returned (.int .i64 (Tkp.iF f s n d t))/\Below w.heap.size w w':=by obtain⟨X,K,T,u,z,J,O,U,I,j⟩:=ik h;obtain⟨le,E,C⟩:=oP f s n d t h h1 h2;clear h;have LE:=eJ le;clear le;go_enter func88,ntmps88;go_wp2;go_quiet (fail);go_wp2;go_quiet (fail);rw[LE.out];go_wp2;go_ret;exact⟨rfl,below_drewN (below_drewN ((au).alloc (ar) _) _) _⟩
theorem CM(f s n d t:Int)(w:World):Calls prog 38 #[wW f s n d,.int .i64 t] w fun e w'=>e=.returned (.tuple #[.int .i64 (iY f s n d t),.int .i64 (gy f s n d t)])/\Below w.heap.size w w':=by
 have K:Below w.heap.size w (w.alloc (.cells #[.int .i64 f,.int .i64 s,.int .i64 n,.int .i64 d] 118)):=(au).alloc (ar) _;have n1:=eN.new w 118 #[.int .i64 f,.int .i64 s,.int .i64 n,.int .i64 d];have C:=eJ K;have O:=eJ n1;clear K n1;by_cases h:gE f s n d=false
 ·rw[show iY f s n d t=0 by simp[iY,gy,h],show gy f s n d t=1 by simp[gy,h]];have u:=eJ h;clear h;go_enter func38,ntmps38;go_wp2_with fail;refine(jS _ _ _ _ _).mono ?_;rw[u.out];rintro e w' ⟨rfl,rfl⟩;go_wp2_with fail;go_ret2;exact⟨rfl,C.out.alloc ak _⟩
 have h:gE f s n d=true:=by simpa using h
 have u:=eJ h;by_cases h1:ij t f 1099511627776=false
 ·have z:t<f\/1099511627776<t:=by simp[ij] at h1;omega
  rw[show iY f s n d t=0 by simp[iY,gy,h,z],show gy f s n d t=2 by simp[gy,h,z]];have H1:=eJ h1;clear h1 h z;go_enter func38,ntmps38;go_wp2_with fail;refine(jS _ _ _ _ _).mono ?_;rw[u.out];rintro e w' ⟨rfl,rfl⟩;go_wp2_with fail;refine(fE _ _ _ _ H1.out _).mono ?_;rintro e w' ⟨rfl,rfl⟩;go_wp2_with fail;go_ret2;exact⟨rfl,C.out.alloc ak _⟩
 have h1:ij t f 1099511627776=true:=by simpa using h1
 have z:f<=t/\t<=1099511627776:=by simpa[ij] using h1
 obtain⟨t1,t2⟩:=z;have H1:=eJ h1;clear h1;by_cases h2:1099511627776<Tkp.iF f s n d t
 ·have he:gy f s n d t=2:=by simp[gy,h,h2]
  rw[show iY f s n d t=0 by simp[iY,he],he];clear h he;go_enter func38,ntmps38;go_wp2_with fail;refine(jS _ _ _ _ _).mono ?_;rw[u.out];rintro e w' ⟨rfl,rfl⟩;go_wp2_with fail;refine(fE _ _ _ _ H1.out _).mono ?_;rintro e w' ⟨rfl,rfl⟩;go_wp2_with fail;refine(lT _ _ _ _ _ _ u.out t1 t2).mono ?_;rintro e w2 ⟨rfl,j⟩;have E:=eJ ((C.out.alloc ak _).trans (j.mono af));clear j;go_wp2_with fail;go_ret2;exact⟨rfl,E.out⟩
 ·have he:gy f s n d t=0:=by simp[gy,h,h2];omega
  rw[show iY f s n d t=Tkp.iF f s n d t by simp[iY,he],he];clear h he;have J:=O.out.alloc (.cells #[.int .i64 f,.int .i64 s,.int .i64 n,.int .i64 d] 118);have I:=eJ J;clear J;go_enter func38,ntmps38;go_wp2_with fail;refine(jS _ _ _ _ _).mono ?_;rw[u.out];rintro e w' ⟨rfl,rfl⟩;go_wp2_with fail;refine(fE _ _ _ _ H1.out _).mono ?_;rintro e w' ⟨rfl,rfl⟩;go_wp2_with fail;refine(lT _ _ _ _ _ _ u.out t1 t2).mono ?_;rintro e w2 ⟨rfl,j⟩;obtain⟨i0,i1,i2,i3⟩:=(I.out.below j I.out.lt).lH;have E:=eJ ((C.out.alloc ak _).trans (j.mono af));clear j;go_wp2_with fail;refine(lT _ _ _ _ _ _ u.out t1 t2).mono ?_;rintro e w3 ⟨rfl,j⟩;have T:=eJ (E.out.trans (j.mono E.out.size));clear j;go_wp2_with fail;go_ret2;exact⟨rfl,T.out⟩
end Go.Proofs.YtideefjnlakciaaGreatDoor
