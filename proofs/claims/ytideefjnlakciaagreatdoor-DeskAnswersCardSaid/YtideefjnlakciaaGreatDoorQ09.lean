/- The contract of frame.Decode at any seven bytes or more; condition: the bytes lie in memory. -/
import Derived.Test.YtideefjnlakciaaGreatDoorQ00
import Derived.Test.YtideefjnlakciaaGreatDoorQ06
import Derived.Test.YtideefjnlakciaaGreatDoorQ07
import Derived.Test.YtideefjnlakciaaGreatDoorQ08
import Derived.Test.YtideefjnlakciaaGreatDoorQ04
import Derived.Test.YtideefjnlakciaaGreatDoorQ05
import Derived.BigQuiet
import Derived.Lib.SliceRun
import Derived.Deep.RegionHeld3
set_option maxRecDepth 1000000
set_option maxHeartbeats 20000000
set_option linter.unusedVariables false
set_option linter.unusedSimpArgs false
namespace Go.Proofs.YtideefjnlakciaaGreatDoor
open Go.RowKit Go.Proofs.Tryz
abbrev Na(r:mB):Value:=FX r.nd r.sl r.mb r.lk r.sq r.d
theorem uD{w:World}{b off n:Nat}{l:List Nat}(h:gh w (some ⟨b,off,none⟩) n l)(j:Nat)(s:j<n):w.cell? ⟨b,off+j,none⟩=some (.int .u8 (l.getD j 0:Nat)):=by obtain⟨C,z,e,u⟩:=h j s;cases e;exact u
theorem fX{l:List Nat}(hl: ∀x∈l,x<256)(j:Nat):l.getD j 0<256:=by rw[List.getD];cases h:l[j]? with|none=>simp|some v=>exact hl v (cL h)
theorem BN{w:World}{b off n m:Nat}{l:List Nat}(h:gh w (some ⟨b,off,none⟩) n l)(hm:m<=n):gh w (some ⟨b,off,none⟩) m (l.take m):=by intro j e;refine⟨b,off,rfl, ?_⟩;rw[uD h j ah];simp[List.getD,dQ e]
theorem IX(l:List Nat)(k i:Nat)(hi:i<k):(((l.drop 7).take k).map fun(x:Nat)=>(x:Int)).getD i 0=((l.getD (7+i) 0:Nat):Int):=by simp only[List.getD,bp,dQ hi,List.getElem?_drop];cases l[7+i]? <;>rfl
theorem hZ.NJ{w w':World}{v:Value}{e:Ending}(h:Cg w e w'):hZ w false v e w':=by unfold hZ;rw[aI aj];exact h
theorem Le(l:List Nat)(b off c:Nat)(w:World)(hl: ∀x∈l,x<256)(h7:7<=l.length)(aa:l.length<=c)(E:c<=9223372036854775807)(hB:gh w (some ⟨b,off,none⟩) l.length l):Calls prog 204 #[.slice (some ⟨b,off,none⟩) l.length c] w (hZ w (qj l) (Na (wO l))):=by
 obtain⟨m,hm⟩:=ae (l.length-2);have hlen:l.length=m+2:=ah;have e:=fun j X=>uD hB j X;have z:(l.take m).length=m:=by rw[bP];omega
 have C:gh w (some ⟨b,off,none⟩) (l.take m).length (l.take m):=by rw[z];exact BN hB ah
 have I: ∀x∈l.take m,x<256:=fun x s=>hl x (eh s);have s:=e m ah;have J:=e (m+1) ah;by_cases hs:iZ (l.take m)=l.getD m 0*256+l.getD (m+1) 0
 ·have K:qj l=CJ l:=by unfold qj;rw[hlen,show m+2-2=m from ah,show m+2-1=m+1 from ah,aJ (by omega:7<=m+2),aJ hs];rfl
  rw[K];have T:((((l.drop 7).take (m-7)).map fun(x:Nat)=>(x:Int))).length=m-7:=by rw[aY,bP,List.length_drop];omega
  have O: ∀i,i<m-7->w.cell? ⟨b,off+7+i,none⟩=some (.int .u8 ((((l.drop 7).take (m-7)).map fun(x:Nat)=>(x:Int)).getD i 0)):=by intro i hi;rw[IX l _ i hi,<-e (7+i) ah,Nat.add_assoc]
  have Z: ∀r,Calls prog 204 #[.slice (some ⟨b,off,none⟩) (m+2) c] w r->Calls prog 204 #[.slice (some ⟨b,off,none⟩) l.length c] w r:=by intro r Y;rw[hlen];exact Y
  apply Z;by_cases h4:l.getD 4 0=0
  ·have u:((l.getD 4 0:Nat):Int)-1<0:=ah;refine L7 (l.getD 0 0) (l.getD 1 0) (l.getD 2 0) (l.getD 3 0) (l.getD 4 0) (l.getD 5 0) (l.getD 6 0) b off m c (l.take m) (l.getD m 0) (l.getD (m+1) 0) w ah ah E z I C s J (fX hl _) (fX hl _) hs (e 0 ah) (e 1 ah) (e 2 ah) (e 3 ah) (e 4 ah) (fX hl _) (fX hl _) (fX hl _) (fX hl _) (fX hl _) _ rfl (fun _=>e 5 ah) (fun _=>e 6 ah) (fX hl _) (fX hl _) _ T O _ ?_ u _ ?_
   ·show(if _ then _ else _)=_;rw[aM u];unfold CJ;rw[aM h4,hlen];congr 1;exact cG.2 ah
   ·show(if _ then _ else _)=_;rw[aM u];unfold wO;rw[aM h4]
  ·have u: ¬((l.getD 4 0:Nat):Int)-1<0:=ah;have Ek:0<=((l.getD 4 0:Nat):Int)-1:=ah;have hG:(if((l.getD 4 0:Nat):Int)-1<0 then decide (m=5)&&tz (l.getD 0 0) (l.getD 1 0) (l.getD 2 0*256+l.getD 3 0:Nat) (((l.getD 4 0:Nat):Int)-1) 0 0 else decide (m=7+l.getD 6 0)&&tz (l.getD 0 0) (l.getD 1 0) (l.getD 2 0*256+l.getD 3 0:Nat) (((l.getD 4 0:Nat):Int)-1) (l.getD 5 0:Nat) (m-7))=CJ l:=by rw[aI u];unfold CJ;rw[aI h4,hlen,show m+2-9=m-7 from ah];congr 1;exact cG.2 ah
   have U:(if((l.getD 4 0:Nat):Int)-1<0 then FX (l.getD 0 0) (l.getD 1 0) (l.getD 2 0*256+l.getD 3 0:Nat) (((l.getD 4 0:Nat):Int)-1) 0 ⟨#[]⟩ else FX (l.getD 0 0) (l.getD 1 0) (l.getD 2 0*256+l.getD 3 0:Nat) (((l.getD 4 0:Nat):Int)-1) (l.getD 5 0:Nat) (strOfNums (((l.drop 7).take (m-7)).map fun(x:Nat)=>(x:Int))))=Na (wO l):=by rw[aI u];unfold wO;rw[aI h4,hlen,show m+2-9=m-7 from ah];rfl
   by_cases h6:m=7+l.getD 6 0
   ·exact Je (l.getD 0 0) (l.getD 1 0) (l.getD 2 0) (l.getD 3 0) (l.getD 4 0) (l.getD 5 0) (l.getD 6 0) b off m c (l.take m) (l.getD m 0) (l.getD (m+1) 0) w ah ah E z I C s J (fX hl _) (fX hl _) hs (e 0 ah) (e 1 ah) (e 2 ah) (e 3 ah) (e 4 ah) (fX hl _) (fX hl _) (fX hl _) (fX hl _) (fX hl _) _ rfl (fun _=>e 5 ah) (fun _=>e 6 ah) (fX hl _) (fX hl _) _ T O _ hG Ek h6 _ U
   ·exact GU (l.getD 0 0) (l.getD 1 0) (l.getD 2 0) (l.getD 3 0) (l.getD 4 0) (l.getD 5 0) (l.getD 6 0) b off m c (l.take m) (l.getD m 0) (l.getD (m+1) 0) w ah ah E z I C s J (fX hl _) (fX hl _) hs (e 0 ah) (e 1 ah) (e 2 ah) (e 3 ah) (e 4 ah) (fX hl _) (fX hl _) (fX hl _) (fX hl _) (fX hl _) _ rfl (fun _=>e 5 ah) (fun _=>e 6 ah) (fX hl _) (fX hl _) _ T O _ hG Ek h6 _ U
 ·have K:qj l=false:=by unfold qj;rw[hlen,show m+2-2=m from ah,show m+2-1=m+1 from ah,aH hs];simp
  rw[K,hlen];exact(L0 b off m c (l.take m) (l.getD m 0) (l.getD (m+1) 0) w ah ah E z I C s J (fX hl _) (fX hl _) hs).mono fun _ _ h=>hZ.NJ h
section
attribute [local irreducible] jl gS gW Tk.take Pr.put Mm.mi
theorem Fs(w:World):(binOp .eql 40 (.slice none 0 0) (.slice none 0 0)).run prog w=.ok (.bool true) w:=by rw[Go.Lib.run_eql_slice_nil w _ _ _ 0 0 0 0 underlying40];rfl
theorem Bw(w:World)(x:Addr)(m cap:Nat):(binOp .eql 40 (.slice (some x) m cap) (.slice none 0 0)).run prog w=.ok (.bool false) w:=by rw[Go.Lib.run_eql_slice_nil w _ _ _ m cap 0 0 underlying40];rfl
attribute [local go_sem] Fs Bw
def AU(w:World)(S:Ix->Ob)(v:Value):Option mB->Prop|none=>v=.slice none 0 0|some f=> ∃b off cap l,v=.slice (some ⟨b,off,none⟩) (List.length l) cap/\gh w (some ⟨b,off,none⟩) (List.length l) l/\(∀x∈l,x<256)/\7<=List.length l/\List.length l<=cap/\cap<=9223372036854775807/\qj l=true/\wO l=f/\b<w.heap.size/\¬py S b
structure OZ (p:Pl) (from_ slot:Nat) (f:mB):Prop where
 nd:f.nd=from_
 sl:f.sl=slot
 mb: ∃m:Nat,f.mb=m∧m<65536
 lk:f.lk<0∨∃(k:Nat) (l:Lk),f.lk=k∧p.lk[k]? =some l
 d:f.d.size≤40
theorem AU.kept{w w':World}{S S':Ix->Ob}{v:Value}{fr:Option mB}(h:AU w S v fr)(hk:fV w w' S S'):AU w' S' v fr:=by cases fr with|none=>exact h|some f=>obtain⟨b,off,cap,l,h1,h2,h3,h4,h5,h6,h7,h8,h9,h10⟩:=h;refine⟨b,off,cap,l,h1,fun j s=> ?_,h3,h4,h5,h6,h7,h8,aN h9 hk.size,hk.not h9 h10⟩;obtain⟨b2,z,e,u⟩:=h2 j s;cases e;exact⟨b,off,rfl,(fj (hk.block b h9 h10) _).trans u⟩
def fG(p:Pl)(tn slot:Nat)(fr:Option mB)(ls:List Ls)(c:Cl):Nat->Cl|0=>c|k+1=>nB p tn fr (jc fr ls slot k tn) (fG p tn slot fr ls c k)
def iX(fr:Option mB)(ls:List Ls)(slot tn:Nat):Nat->Bool|0=>false|k+1=>iX fr ls slot tn k||jc fr ls slot k tn
theorem Jg(p:Pl)(tn:Nat)(f:mB)(c:Cl):(iC p tn f c).mm=c.mm:=by
 unfold iC;split
 ·rfl
 ·split
  ·rfl
  ·split<;>rfl
theorem mS(p:Pl)(tn slot:Nat)(fr:Option mB)(ls:List Ls)(c:Cl): ∀k,(fG p tn slot fr ls c k).mm=c.mm
 |0=>rfl
 |k+1=>by
  unfold fG nB;rw[<-mS p tn slot fr ls c k];split
  ·rfl
  ·split
   ·exact Jg _ _ _ _
   ·rfl
theorem mN{p:Pl}{N:Nat}{c:Cl}(h:gH p N c)(tn slot:Nat)(fr:Option mB)(ls:List Ls): ∀k,gH p (N+2*k) (fG p tn slot fr ls c k)
 |0=>h
 |k+1=>by
  have e:=mN h tn slot fr ls k;unfold fG nB;split
  ·exact e.mono ah
  ·split
   ·exact(e.chan tn _).mono ah
   ·exact e.mono ah
theorem Dj {fr : Option mB} {ls : List Ls} {slot k tn : Nat} (h : jc fr ls slot k tn = false) (p : Pl) (c : Cl) : fG p tn slot fr ls c (k + 1) = fG p tn slot fr ls c k ∧ iX fr ls slot tn (k + 1) = iX fr ls slot tn k := by
 constructor
 ·conv => lhs; unfold fG nB
  rw [h]
  cases fr <;> rfl
 ·conv => lhs; unfold iX
  rw [h, Bool.or_false]
theorem Js {f:mB} {ls:List Ls} {slot k tn:Nat} (h:jl ls slot k tn=false) (p:Pl) (c:Cl):fG p tn slot (some f) ls c (k+1)=iC p tn f (fG p tn slot (some f) ls c k)∧iX (some f) ls slot tn (k+1)=true:=by
 have e:jc (some f) ls slot k tn=true:=by unfold jc;rw[h];rfl
 constructor
 ·conv=>lhs;unfold fG nB
  rw[e];rfl
 ·conv=>lhs;unfold iX
  rw[e,Bool.or_true]
theorem xN{f:mB}{ls:List Ls}{slot k tn:Nat}(h:jl ls slot k tn=true):jc (some f) ls slot k tn=false:=by unfold jc;rw[h];rfl
theorem D5(m from_:Nat)(fr:Option mB)(b:Bool):0<=jj m from_ fr b/\jj m from_ fr b<=2:=by
 unfold jj;split
 ·omega
 ·split
  ·unfold gW;split<;>omega
  ·omega
theorem nN(p:Pl)(from_ tn slot:Nat)(fr:Option mB)(ls:List Ls)(c:Cl):je p from_ tn slot fr ls c={fG p tn slot fr ls c 2 with mm:=eV (fG p tn slot fr ls c 2).mm tn (((fG p tn slot fr ls c 2).mm tn).mi from_ (jj (c.mm tn).m from_ fr (iX fr ls slot tn 2)))}:=by
 have e:iX fr ls slot tn 2=(jc fr ls slot 0 tn||jc fr ls slot 1 tn):=by show(false||jc fr ls slot 0 tn||jc fr ls slot 1 tn)=_;rw[Bool.false_or]
 rw[e,mS];rfl
theorem Ek{W w0:World}{A:Option Addr}{n B:Nat}{ws:List Lk}(h:fA w0 A n ws)(hw:w0.heap.size<=B)(hB:Below B w0 W):fA W A n ws:=fun j u=>by obtain⟨b,off,e,x,h1,h2,h3,h4,h5⟩:=h j u;have s:b<B:=aN (aG _ _ h2) hw;exact⟨b,off,e,x,h1,(hB.cell (p:=⟨b,_,none⟩) s).trans h2,(hB.cell (p:=⟨b,_,none⟩) s).trans h3,(hB.cell (p:=⟨b,_,none⟩) s).trans h4,(hB.cell (p:=⟨b,_,none⟩) s).trans h5⟩
theorem yW{w w':World}{r:Option Nat}(h:w.drew.grownBy w' r):w.grownBy w' r:=⟨h.os,h.tape,h.output,h.size,h.block⟩
theorem Bd(p:Pl)(tn:Nat){f:mB}(c:Cl)(h:f.lk<0):iC p tn f c=c:=by unfold iC;rw[aM h]
theorem AG(p:Pl)(tn:Nat){f:mB}(c:Cl){k:Nat}{l:Lk}(h:f.lk=k)(hl:p.lk[k]? =some l)(e:kZ l.t tn=false):iC p tn f c=c:=by unfold iC;rw[aI ah,h,bU,hl];simp[e]
theorem Ab(p:Pl)(tn:Nat){f:mB}(c:Cl){k:Nat}{l:Lk}(h:f.lk=k)(hl:p.lk[k]? =some l)(e:kZ l.t tn=true):iC p tn f c={c with tk:=fM c.tk k tn ((c.tk k tn).take f.sq),pr:=if gS f.sq (c.tk k tn).nw then fM c.pr k tn ((c.pr k tn).put f.d) else c.pr}:=by unfold iC;rw[aI ah,h,bU,hl];simp only[e,eF]
theorem EH{base:Nat}{a:Ad}{p:Pl}{P:lz}{fy:Nat}{c:Cl}{N:Nat}(w:World){K:World->(Ix->Ob)->Prop}(dd:MW K)(AL:Option Addr)(cl:Nat)(f6:P.l=.slice AL p.lk.length cl)(h:fW w base a (eO p) p P fy c)(hp:gl p)(g6:gH p N c)(k3:N<=900000000000)(fp: ∀W S,K W S->fA W AL p.lk.length p.lk)(e9:K w (shape a (eO p) p P fy c))(kN:base<=w.heap.size)(A:Option Addr)(cp:Nat)(ls:List Ls)(g4: ∀W S,K W S->jD W A ls)(go:ls.length<=9223372036854775807)(y1 a7 a8:Value)(from_ tn slot:Nat)(k8:(from_:Int)<p.nd)(kA:(tn:Int)<p.nd)(kf:tn≠from_)(j1:slot<=100)(fr:Option mB)(bv:Value)(hz:AU w (shape a (eO p) p P fy c) bv fr)(hw: ∀f,fr=some f->OZ p from_ slot f):Calls prog 179 #[.pointer (some ⟨a.g,0,none⟩),.int .i64 from_,.int .i64 tn,.int .i64 slot,bv,.agg #[.slice A ls.length cp,y1,a7,a8]] w fun e w'=>e=.returned (.tuple #[])/\iG w base a (eO p) p P fy c w' (je p from_ tn slot fr ls c):=by
 have d2:=eJ (eN.new w 35 #[.slice A ls.length cp,y1,a7,a8]);have b3:=(Below.refl w.heap.size w).alloc (ar) (.cells #[.slice A ls.length cp,y1,a7,a8] 35);have bw:=eJ (fV.fC (S:=shape a (eO p) p P fy c) b3);have jv:=eJ (h.ky (aC w.heap.size));obtain⟨G,hG⟩:=ab a.g;rw[hG];have cr:(w.alloc (.cells #[.slice A ls.length cp,y1,a7,a8] 35)).heap.size=w.heap.size+1:=ak;have cA:=eJ (h.below b3);have es:=eJ dd;have d9:=eJ (dd.step e9 bw.out);have b4:=eJ g4;have hA:=eJ fp;have c9:=eJ (hz.kept bw.out);have j8:=eJ hw;have k6:=eJ hp;have et:=eJ g6;have ht:=eJ f6;have ce:=eJ hG;have k4:=hp.n16;have kD:=hp.n1;obtain⟨nd,hW⟩: ∃nd,p.nd.toNat=nd:=⟨_,rfl⟩;have I:tn<nd:=ah;have a0:Hid ((eO p).nm=nd):=eJ hW;clear h e9 dd g4 fp hz hw hp g6 f6 hG;obtain⟨L,d4⟩:=ab ls.length;have ge:=eJ d4;rw[d4] at go d2 b3 bw cr cA d9 c9⊢;clear d4;obtain⟨w1,e1⟩:=ab (w.alloc (.cells #[.slice A L cp,y1,a7,a8] 35));rw[e1] at d2 b3 bw cr cA d9 c9;have he:=eJ e1;have j0:base<=w1.heap.size:=ah;have hT:=eJ (iG.refl cA.out (Below.refl w1.heap.size w1));have j6:=eJ (cA.out);have ip:=eJ cr;clear e1 cr b3 j6;go_enter func179,ntmps179;go_wp2_with fail;go_loopw [12,16] (fun d8 i wr=> ∃k:Nat,k<=2/\i=.int .i64 k/\d8=.int .i64 (jj (c.mm tn).m from_ fr (iX fr ls slot tn k))/\Hid (eN wr w.heap.size 35 #[.slice A L cp,y1,a7,a8])/\Hid (iG w1 base a (eO p) p P fy c wr (fG p tn slot fr ls c k))) (fun _ i _=>2-(intOf i).toNat);case atStart=>exact⟨0,ah,rfl,by unfold iX jj;cases fr<;>rfl,by rw[he.out];exact d2,by rw[he.out];exact hT⟩
 case round=>
  obtain⟨k,hk,rfl,rfl,a2,c7⟩:=hrel;obtain⟨z,U,bl,Y⟩:=c7.out;have f2:base<=wr.heap.size:=aK j0 Y.size;have cb:=eJ (Y.not (by rw[ip.out];exact av) jv.out);by_cases k5:k<2
  ·have iM:=a2.out.cell 0;simp at iM;have hf:=eJ (es.out.step d9.out Y);have ho:=eJ (c9.out.kept Y);cases fr with
    |none=>
     obtain rfl:bv=.slice none 0 0:=ho.out;clear bl Y;go_wp2_with fail;go_roundw;case rel=>exact⟨k+1,ah,aq,by rfl,a2,c7⟩
     case measure=>simp[intOf];omega
    |some f=>
     obtain⟨gb,hV,cap,l,rfl,gi,hL,h7,hb,ft,gr,gs,f5,hM⟩:=ho.out;have j2:=eJ (j8.out f rfl);obtain⟨b,eg⟩:=ab (jl ls slot k tn);have e8:=eJ (J4 A cp ls slot k tn wr ((b4.out _ _ hf.out)) (by rw[ge.out];exact go) j1 ah ah);rw[ge.out,eg] at e8;have ev:=eJ eg;have e5:=eJ gi;have is:=eJ hL;have E:=eJ h7;have f9:=eJ hb;have kp:=eJ ft;have hS:=eJ gr;have i9:=eJ gs;have k2:=eJ hM;have kq:=eJ f5;have hn:=eJ bl;have ei:=eJ Y;clear eg gi hL h7 hb ft gr gs hM f5 bl Y;obtain⟨m,hm⟩:=ab l.length;have ac:=eJ hm;rw[hm];rw[hm] at e5 E f9;clear hm;go_wp2_with fail;refine e8.out.mono ?_;rintro e w2 ⟨rfl,b7⟩;have bz:=eJ b7;clear b7;cases b
     ·have f8:=eJ (Le l gb hV cap w2 is.out (by rw[ac.out];exact E.out) (by rw[ac.out];exact f9.out) kp.out (by rw[ac.out];exact e5.out.below bz.out));rw[ac.out] at f8;go_wp2_with fail;refine f8.out.mono ?_;intro e w3 hd;unfold hZ at hd;rw[hS.out,aM rfl,i9.out] at hd;obtain⟨rfl,hE⟩:=hd;have dl:=eJ (bz.out.trans (hE.mono bz.out.size));clear hE;obtain⟨kE,kw,kx,C,u,fd⟩:=f;obtain⟨cS,hg,⟨mb,fc,j4⟩,e3,ii⟩:=j2.out;dsimp only at cS hg fc e3 ii;subst cS hg fc;have de:=eN.new w3 269 #[.int .i64 from_,.int .i64 slot,.int .i64 mb,.int .i64 C,.int .i64 u,.string fd];obtain⟨i0,i1,i2,i3,i4,i5,v0,v1,v2,v3,v4,v5⟩:=de.gN;have hc:=eJ de;clear de;have hU:=eJ e3;clear e3;have dt:=eJ (dl.out.alloc dl.out.size (.cells #[.int .i64 from_,.int .i64 slot,.int .i64 mb,.int .i64 C,.int .i64 u,.string fd] 269));have ch:=eJ (hn.out.below dt.out);obtain⟨ds,ez,hJ,d6,bk⟩:=ch.out.LH (U.trans ce.out) a0.out I;obtain⟨gm,Z⟩: ∃gm,z.gm tn=gm:=⟨_,rfl⟩;rw[Z] at bk;have g0:=mS p tn slot (some ⟨from_,slot,mb,C,u,fd⟩) ls c k;have hl:Hid (∀w0,eN w0 gm 261 (jn tn p.nd.toNat ((fG p tn slot (some ⟨from_,slot,mb,C,u,fd⟩) ls c k).mm tn).m ((fG p tn slot (some ⟨from_,slot,mb,C,u,fd⟩) ls c k).mm tn).gd ((fG p tn slot (some ⟨from_,slot,mb,C,u,fd⟩) ls c k).mm tn).bd ((fG p tn slot (some ⟨from_,slot,mb,C,u,fd⟩) ls c k).mm tn).fz)->Calls prog 205 #[.pointer (some ⟨gm,0,none⟩),.int .i64 from_,.int .i64 mb] w0 fun e w'=>e=.returned (.int .i64 (gW (c.mm tn).m from_ mb))/\∃q,w'=w0.drewN q):=eJ (fun w0 a6=>by rw[g0] at a6;exact EV gm tn p.nd.toNat _ _ _ _ from_ mb w0 a6 ah ah (et.out.mm tn).1 j4);have b9:=eJ (ch.out.NG (i:=tn) (by rw[a0.out];exact I));rw[Z] at b9;clear g0 Z;go_wp2_with fail;go_region_held3 (fun w'=>w'.cell? ⟨G,12,none⟩=some (.slice (some ⟨ds,ez,none⟩) nd hJ)/\w'.cell? ⟨ds,ez+tn,none⟩=some (.pointer (some ⟨gm,0,none⟩))/\w'.cell? ⟨w3.heap.size,2,none⟩=some (.int .i64 mb)) (exact⟨d6,bk,i2⟩) (first|(go_at_call 205;go_must (refine(hl.out _ (by first|exact b9.out|exact b9.out.drew)).mono ?_);rintro e w5 ⟨rfl,q,rfl⟩));go_wp2_with fail;have X:=eJ (ch.out.drewN (1+q));have bx:=eJ (hc.out.drewN (1+q));have b6:=eJ (below_drewN dt.out (1+q));have c4:=eJ (hn.out.ky dl.out.size);clear i0 i1 i2 i3 i4 i5 v0 v1 v2 v3 v4 v5 d6 bk ch hc dt b9 hl;generalize(World.drewN _ _)=W5 at X bx b6⊢;have hx:=eJ (es.out.KM hf.out b6.out);have be:=eJ (ei.out.below b6.out);have b8:=eJ (a2.out.below b6.out a2.out.lt);have d7:=Js (f:=⟨from_,slot,mb,C,u,fd⟩) ev.out p c;have co:=eJ d7.1;have cu:=eJ d7.2;clear d7;obtain⟨i0,i1,i2,i3,i4,i5,_⟩:=bx.out.gN;rcases hU.out with f7|⟨j,hY,kn,ci⟩
      ·have d1:decide ((0:Int)<=C)=false:=aH ah;have ad:=eJ (Bd p tn (f:=⟨from_,slot,mb,C,u,fd⟩) (fG p tn slot (some ⟨from_,slot,mb,C,u,fd⟩) ls c k) f7);clear f7;go_quiet (fail);go_wp2_with fail;go_roundw;case rel=>exact⟨k+1,ah,aq,by rw[cu.out];rfl,eJ (b8.out.drewN _),eJ (by rw[co.out,ad.out];exact⟨z,U,X.out.drewN _,be.out.drewN _⟩)⟩
       case measure=>simp[intOf];omega
      ·subst kn;have bn:j<p.lk.length:=(aQ.1 ci).1;obtain⟨nl,bm⟩:=ab p.lk.length;have er:=eJ ci;have d3:=eJ (mN et.out tn slot (some ⟨from_,slot,mb,(j:Int),u,fd⟩) ls k);have d1:decide ((0:Int)<=(j:Int))=true:=aJ ah;have b5:=(X.out.ru (U.trans ce.out)).2.2.2.2.2.2.2.1;obtain⟨cv,ol,el,cn,dg,_,kt,_⟩:=(hA.out _ _ hx.out) j bn;obtain rfl:cn=hY:=by rw[ci] at dg;cases dg;rfl
       rw[ht.out,el,bm] at b5;rw[bm] at bn;have hD:(eO p).na=nl:=bm;have gf:(eO p).nk j=nd:=by show(if j<p.lk.length then p.nd.toNat else 0)=nd;rw[aM ah];exact a0.out
       have a3:=eJ hD;have J:=eJ gf;have hP:=eJ b5;have i7:=eJ kt;have hH:=eJ el;have f1:=eJ bm;clear hD gf bm ci dg el;obtain⟨kb,hr⟩:=ab (kZ cn.t tn);have g3:=eJ hr;unfold kZ at hr;cases kb
       ·have ad:=eJ (AG p tn (f:=⟨from_,slot,mb,(j:Int),u,fd⟩) (fG p tn slot (some ⟨from_,slot,mb,(j:Int),u,fd⟩) ls c k) rfl er.out g3.out);go_quiet (fail);go_wp2_with fail;go_roundw;case rel=>exact⟨k+1,ah,aq,by rw[cu.out];rfl,eJ (b8.out.drewN _),eJ (by rw[co.out,ad.out];exact⟨z,U,X.out.drewN _,be.out.drewN _⟩)⟩
        case measure=>simp[intOf];omega
       ·have ad:=eJ (Ab p tn (f:=⟨from_,slot,mb,(j:Int),u,fd⟩) (fG p tn slot (some ⟨from_,slot,mb,(j:Int),u,fd⟩) ls c k) rfl er.out g3.out);have hK:=eJ (aK f2 b6.out.size);obtain⟨cc,cj,g9,c6,cd,hC,aa,al⟩:=X.out.QE a3.out J.out ah ah;have bj:=eJ (U.trans ce.out);obtain⟨hI,gq,dk⟩:=X.out.Po bj.out a3.out J.out bn I aa al;have hQ:=eJ aa;have it:=eJ al;clear aa al;obtain⟨gt,cV⟩: ∃gt,z.gt j tn=gt:=⟨_,rfl⟩;rw[cV] at dk;have ct:=eJ (X.out.N7 (k:=j) (i:=tn) (by rw[J.out];exact I));rw[cV] at ct;have d5:=eJ cV;clear cV;have c3:=eJ I;have e0:=eJ bn;have O:=d3.out.tk j tn;obtain⟨s,e2⟩:=ab ((fG p tn slot (some ⟨from_,slot,mb,(j:Int),u,fd⟩) ls c k));have eb:=eJ e2;rw[e2] at ct O X be ad d3;rw[e2] at c4 cb;obtain⟨tb,ea⟩:=ab (gS u (s.tk j tn).nw);have cx:Hid (∀v0,eN v0 gt 275 #[.int .i64 (s.tk j tn).nw,.int .i64 (s.tk j tn).c0,.int .i64 (s.tk j tn).c1]->Calls prog 206 #[.pointer (some ⟨gt,0,none⟩),.agg #[.int .i64 u,.string fd]] v0 fun e w'=>e=.returned (.bool tb)/\eN w' gt 275 (jV u (s.tk j tn).nw (s.tk j tn).c0 (s.tk j tn).c1)/\v0.grownBy w' (some gt)):=eJ (fun v0 a6=>by rw[<-ea];exact GY gt u _ _ _ fd v0 a6 O.1 O.2.1 O.2.2.1 ah O.2.2.2.2.1 ah);have hs:=eJ ea;have iQ:Hid (∀W,eN W gt 275 (jV u (s.tk j tn).nw (s.tk j tn).c0 (s.tk j tn).c1)->W5.grownBy W (some gt)->(fW W base z (eO p) p P fy {s with tk:=fM s.tk j tn ((s.tk j tn).take u)}/\fV W5 W (shape z (eO p) p P fy s) (shape z (eO p) p P fy {s with tk:=fM s.tk j tn ((s.tk j tn).take u)})/\K W (shape z (eO p) p P fy {s with tk:=fM s.tk j tn ((s.tk j tn).take u)}))/\W.cell? ⟨G,7,none⟩=some (.slice (some ⟨cv,ol,none⟩) nl cl)/\W.cell? ⟨cv,ol+j*4+1,none⟩=some (.int .i64 cn.t)/\W.cell? ⟨G,14,none⟩=some (.slice (some ⟨cc,cj,none⟩) nl g9)/\W.cell? ⟨cc,cj+j,none⟩=some (.slice (some ⟨c6,cd,none⟩) nd hC)/\W.cell? ⟨c6,cd+tn,none⟩=some (.pointer (some ⟨gt,0,none⟩))/\W.cell? ⟨w3.heap.size,3,none⟩=some (.int .i64 (j:Int))/\W.cell? ⟨w3.heap.size,4,none⟩=some (.int .i64 u)/\W.cell? ⟨w3.heap.size,5,none⟩=some (.string fd)):=eJ (fun W a6 j7=>by have T:=X.out.QT (k:=j) (i:=tn) (by rw[J.out];exact c3.out) u (by rw[d5.out];exact a6) (by rw[d5.out];exact j7) hK.out;have B:=es.out.step (by have:=hx.out;rw[eb.out] at this;exact this) T.2;have fl:=(T.1.ru bj.out).2.2.2.2.2.2.2.1;rw[ht.out,hH.out,f1.out] at fl;obtain⟨k0,o',g5,k7,f3,_,j3,_⟩:=(hA.out _ _ B) j (by rw[f1.out];exact e0.out);rw[hH.out] at g5;cases g5;rw[er.out] at f3;cases f3;obtain⟨t1,t2,t3⟩:=T.1.Po bj.out a3.out J.out e0.out c3.out hQ.out it.out;rw[d5.out] at t3;obtain⟨_,_,_,a9,cm,aA,_⟩:=(T.2.eW bx.out c4.out).gN;exact⟨⟨T.1,T.2,B⟩,fl,j3,t1,t2,t3,a9,cm,aA⟩);clear O ea;have b5:=hP.out;have kt:=i7.out;go_region_held3 (fun w'=>w'.cell? ⟨G,7,none⟩=some (.slice (some ⟨cv,ol,none⟩) nl cl)/\w'.cell? ⟨cv,ol+j*4+1,none⟩=some (.int .i64 cn.t)/\w'.cell? ⟨G,14,none⟩=some (.slice (some ⟨cc,cj,none⟩) nl g9)/\w'.cell? ⟨cc,cj+j,none⟩=some (.slice (some ⟨c6,cd,none⟩) nd hC)/\w'.cell? ⟨c6,cd+tn,none⟩=some (.pointer (some ⟨gt,0,none⟩))/\w'.cell? ⟨w3.heap.size,3,none⟩=some (.int .i64 (j:Int))/\w'.cell? ⟨w3.heap.size,4,none⟩=some (.int .i64 u)/\w'.cell? ⟨w3.heap.size,5,none⟩=some (.string fd)) (first|exact ⟨b5,kt,hI,gq,dk,i3,i4,i5⟩|exact gz.out) (first|(go_at_call 206;go_must (refine(cx.out _ (by first|exact ct.out|exact ct.out.drew)).mono ?_);rintro e w7 ⟨rfl,hN,e7⟩;have E:=eJ (iQ.out w7 hN (yW e7));have gz:=eJ E.out.2;clear hN e7));clear b5 kt hI gq dk i0 i1 i2 i3 i4 i5;cases tb
        ·go_wp2_with fail;go_roundw;case rel=>exact⟨k+1,ah,aq,by rw[cu.out];rfl,eJ (E.out.1.2.1.eW b8.out cb.out),eJ (by rw[co.out,eb.out,ad.out,hs.out];exact⟨z,U,E.out.1.1,be.out.trans E.out.1.2.1⟩)⟩
         case measure=>simp[intOf];omega
        ·clear gz;have ck:=eJ E.out.1.1;have a4:=eJ E.out.1.2.1;have k1:=eJ E.out.1.2.2;have hj:=eJ (a4.out.eW bx.out c4.out);have jp:=eJ (a4.out.not bx.out.lt c4.out);have hh:=eJ (aK hK.out a4.out.size);have km:=eJ (a4.out.eW b8.out cb.out);have iA:=eJ (a4.out.not b8.out.lt cb.out);clear E;obtain⟨bt,bi,cq,a5,ap,e4,aa,al⟩:=ck.out.QH a3.out J.out ah ah;obtain⟨ha,g8,eq⟩:=ck.out.PY bj.out a3.out J.out bn I aa al;have i6:=eJ aa;have hX:=eJ al;clear aa al;obtain⟨gp,c5⟩: ∃gp,z.gp j tn=gp:=⟨_,rfl⟩;rw[c5] at eq;have ao:=eJ (ck.out.ER (k:=j) (i:=tn) (by rw[J.out];exact I));rw[c5] at ao;have hy:=eJ c5;clear c5;obtain⟨vp,ex⟩: ∃vp,z.vp j tn=vp:=⟨_,rfl⟩;rw[ex] at ao;have io:=eJ ex;clear ex;obtain⟨_,_,_,a9,cm,aA,_⟩:=hj.out.gN;have O:=d3.out.pr j tn;obtain⟨fn,gw⟩:=ab (jg fd.size (s.pr j tn).q.length 16);have d0:=eJ gw;clear gw;have ih:Hid (∀v0,v0.heap=w7.heap->v0.os=w7.os->v0.tape=w7.tape->v0.output=w7.output->Calls prog 207 #[.pointer (some ⟨gp,0,none⟩),.string fd] v0 fun r w'=>r=.returned (gv fn)/\nH w7 base gp 16 vp ((s.pr j tn).put fd).lost ((s.pr j tn).put fd).q w'):=eJ (fun v0 am iB hR hu=>by
          have ib:eN v0 gp 266 (GC 16 vp (s.pr j tn).lost):=by have:=ao.out.1;unfold eN at this⊢;rw[am];exact this
          have hO:fK v0 base 9 vp (sv (s.pr j tn).q):=ao.out.2.1.iP (fun g _ _ _=>by rw[am]);refine(Gv gp base 16 vp (s.pr j tn).lost (s.pr j tn).q v0 fd fn d0 ib hO (fun k e=>by rw[am];exact ao.out.2.2.2 k e) ao.out.2.2.1 (by rw[am];exact hh.out) (by simp[maxLen];omega) ah O.1 ah).mono ?_;rintro r w' ⟨cS,v',iS,kk,bf,i8⟩;refine⟨cS,v', ?_, ?_,⟨bf.os.trans iB,bf.tape.trans hR,bf.output.trans hu,by rw[<-am];exact bf.size,fun i hi h1 h2=>by rw[<-am] at hi⊢;exact bf.block i hi h1 h2⟩,fun k e=>by rw[<-am];exact i8 k e⟩
          ·unfold Pr.put;rw[d0.out];exact iS
          ·unfold Pr.put;rw[d0.out];exact kk)
         have iT:Hid (∀W,nH w7 base gp 16 vp ((s.pr j tn).put fd).lost ((s.pr j tn).put fd).q W->((∃v,fW W base {z with vp:=fM z.vp j tn v} (eO p) p P fy {s with tk:=fM s.tk j tn ((s.tk j tn).take u),pr:=fM s.pr j tn ((s.pr j tn).put fd)}/\fV w7 W (shape z (eO p) p P fy {s with tk:=fM s.tk j tn ((s.tk j tn).take u)}) (shape {z with vp:=fM z.vp j tn v} (eO p) p P fy {s with tk:=fM s.tk j tn ((s.tk j tn).take u),pr:=fM s.pr j tn ((s.pr j tn).put fd)})))/\W.cell? ⟨G,15,none⟩=some (.slice (some ⟨bt,bi,none⟩) nl cq)/\W.cell? ⟨bt,bi+j,none⟩=some (.slice (some ⟨a5,ap,none⟩) nd e4)/\W.cell? ⟨a5,ap+tn,none⟩=some (.pointer (some ⟨gp,0,none⟩))/\W.cell? ⟨w3.heap.size,3,none⟩=some (.int .i64 (j:Int))/\W.cell? ⟨w3.heap.size,5,none⟩=some (.string fd)):=eJ (fun W hq=>by
          obtain⟨v,bb,bq⟩:=ck.out.put (k:=j) (i:=tn) (by rw[J.out];exact c3.out) ((s.pr j tn).put fd) (by rw[hy.out,io.out];exact hq) hh.out;obtain⟨t1,t2,t3⟩:=bb.PY (b:=bt) (off:=bi) (cp:=cq) (b2:=a5) (off2:=ap) (cp2:=e4) bj.out a3.out J.out e0.out c3.out i6.out hX.out;have j5:W.cell? ⟨a5,ap+tn,none⟩=some (.pointer (some ⟨gp,0,none⟩)):=by rw[<-hy.out];exact t3
          obtain⟨_,_,_,a9,cm,aA,_⟩:=(bq.eW hj.out jp.out).gN;exact⟨⟨v,bb,bq⟩,t1,t2,j5,a9,aA⟩)
         clear O;go_wp2_with fail;go_region_held3 (fun w'=>w'.cell? ⟨G,15,none⟩=some (.slice (some ⟨bt,bi,none⟩) nl cq)/\w'.cell? ⟨bt,bi+j,none⟩=some (.slice (some ⟨a5,ap,none⟩) nd e4)/\w'.cell? ⟨a5,ap+tn,none⟩=some (.pointer (some ⟨gp,0,none⟩))/\w'.cell? ⟨w3.heap.size,3,none⟩=some (.int .i64 (j:Int))/\w'.cell? ⟨w3.heap.size,5,none⟩=some (.string fd)) (first|exact ⟨ha,g8,eq,a9,aA⟩|exact g7.out) (first|(go_at_call 207;go_must (refine(ih.out _ (by rfl) (by rfl) (by rfl) (by rfl)).mono ?_);rintro e w8 ⟨rfl,f4⟩;have c8:=eJ (iT.out w8 f4);have g7:=eJ c8.out.2;clear f4));obtain⟨v8,bb,bq⟩:=c8.out.1;have j9:=eJ bb;have gc:=eJ bq;clear bb bq c8 g7 ha g8 eq a9 cm aA;go_wp2_with fail;go_roundw;case rel=>exact⟨k+1,ah,aq,by rw[cu.out];rfl,eJ (gc.out.eW km.out iA.out),eJ (by rw[co.out,eb.out,ad.out,hs.out];exact⟨{z with vp:=fM z.vp j tn v8},U,j9.out,(be.out.trans a4.out).trans gc.out⟩)⟩
         case measure=>simp[intOf];omega
     ·go_wp2_with fail;go_roundw;case rel=>exact⟨k+1,ah,aq,by rw[(Dj (xN ev.out) p c).2],eJ (a2.out.below bz.out a2.out.lt),eJ (by rw[(Dj (xN ev.out) p c).1];exact c7.out.below bz.out)⟩
      case measure=>simp[intOf];omega
  ·obtain rfl:k=2:=ah;have b4:=eJ bl;obtain⟨ds,ez,hJ,d6,bk⟩:=b4.out.LH (U.trans ce.out) a0.out I;obtain⟨gm,Z⟩: ∃gm,z.gm tn=gm:=⟨_,rfl⟩;rw[Z] at bk;have ca:=(mN et.out tn slot fr ls 2).mm tn;have ac:=eJ (b4.out.NG (i:=tn) (by rw[a0.out];exact I));rw[Z] at ac;have hv:=eJ Z;have em:=D5 (c.mm tn).m from_ fr (iX fr ls slot tn 2);have en:=eJ (IE gm tn p.nd.toNat _ _ _ _ from_ (jj (c.mm tn).m from_ fr (iX fr ls slot tn 2)) wr ac.out ah ah kf ca.1 em.1 em.2 ca.2.1 ah ca.2.2.2.1 ah);rw[Mm.PO] at en;have ei:=eJ Y;have hB:=eJ (nN p from_ tn slot fr ls c);generalize jj (c.mm tn).m from_ fr (iX fr ls slot tn 2)=d8 at en hB;clear bl Y ca em Z;go_wp2_with fail;refine en.out.mono ?_;rintro e w2 ⟨rfl,b7,e6⟩;have T:=b4.out.M0 (i:=tn) (by rw[a0.out];exact I) (((fG p tn slot fr ls c 2).mm tn).mi from_ d8) (by rw[hv.out];exact b7) (by rw[hv.out];exact e6) f2;have cx:=eJ T;clear T b7 e6;go_wp2_with fail;go_end0;exact⟨rfl,by rw[hB.out];exact iG.trans bw.out rfl ⟨z,U,cx.out.1,ei.out.trans cx.out.2⟩⟩
end
end Go.Proofs.YtideefjnlakciaaGreatDoor
