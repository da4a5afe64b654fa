/- The contract of the method Real of metronomeref.Clock: halving finds the first time; no condition. -/
import Derived.Test.YtideefjnlakciaaGreatDoorQ00
import Derived.Test.YtideefjnlakciaaGreatDoorQ20
import Derived.Test.YtideefjnlakciaaGreatDoorQ04
import Derived.Test.YtideefjnlakciaaGreatDoorQ19
import Derived.Test.YtideefjnlakciaaGreatDoorQ01
import Derived.Test.YtideefjnlakciaaGreatDoorQ10
import Derived.Deep.RegionHeld3
import Derived.Deep.Upon
import Derived.Deep.AppendLies
set_option maxRecDepth 1000000
set_option maxHeartbeats 20000000
set_option linter.unusedVariables false
set_option linter.unusedSimpArgs false
namespace Go.Proofs.YtideefjnlakciaaGreatDoor
open Go.RowKit Go.Proofs.Tryz
theorem G7{a b c d:Int}(h:a=c)(k:b=d):Ending.returned (.tuple #[.int .i64 a,.int .i64 b])=.returned (.tuple #[.int .i64 c,.int .i64 d]):=by rw[h,k]
theorem qV(f s n d l:Int)(u:gE f s n d=true):f<=ks f s n d l/\l<=Tkp.iF f s n d (ks f s n d l)/\∀t,f<=t->t<ks f s n d l->Tkp.iF f s n d t<l:=by
 obtain⟨I,O,C,E,j,J,e,z,K,T⟩:=ik u;unfold ks;by_cases h:l<=s
 ·rw[aM h];refine⟨ah, ?_,fun t h1 h2=>ah⟩;rw[Tkp.oa _ _ _ _ _ e];simp;omega
 ·rw[aI h];have hw:=Tkp.tr n d (l-s) j e ah;refine⟨ah, ?_,fun t h1 h2=> ?_⟩
  ·rw[Tkp.oa _ _ _ _ _ e,show f+Tkp.lA n d (l-s)-f=Tkp.lA n d (l-s) from ah];have:=Tkp.zE n d (l-s) j e;omega
  ·rw[Tkp.oa _ _ _ _ _ e];have:=Tkp.Cz n d (l-s) (t-f) j e ah;omega
theorem vd(f s n d l t:Int)(e:gE f s n d=true)(h1:f<=t)(h2:l<=Tkp.iF f s n d t):ks f s n d l<=t:=by
 obtain⟨_,_,h⟩:=qV f s n d l e;rcases Int.lt_or_le t (ks f s n d l) with h3|h3
 ·have:=h t h1 h3;omega
 ·exact h3
theorem Al(f s n d l t:Int)(e:gE f s n d=true)(_h1:f<=t)(h2:Tkp.iF f s n d t<l):t<ks f s n d l:=by
 obtain⟨E,K,z,C,j,I,h,u,J,O⟩:=ik e;obtain⟨h3,h4,_⟩:=qV f s n d l e;rcases Int.lt_or_le t (ks f s n d l) with h5|h5
 ·exact h5
 ·have:=Tkp.Bo f s n d _ _ h j h5;omega
theorem GS(f s n d l:Int)(j:gE f s n d=true)(h1:-1099511627776<=l)(h2:l<=1099511627776):iD f s n d l=if Tkp.iF f s n d 1099511627776<l then 2 else 0:=by
 obtain⟨J,u,C,I,T,K,E,z,O,U⟩:=ik j;unfold iD;rw[aI (by simp[j]),aI ah];by_cases h:Tkp.iF f s n d 1099511627776<l
 ·rw[aM h];have e:=Al f s n d l _ j u h;unfold ks at e;by_cases h3:l<=s
  ·rw[aM h3] at e;omega
  ·rw[aI h3] at e⊢;rw[aM e]
 ·rw[aI h];have e:=vd f s n d l 1099511627776 j u ah;unfold ks at e;by_cases h3:l<=s
  ·rw[aM h3]
  ·rw[aI h3] at e⊢;rw[aI ah]
structure Qm (w W:World) (f s n d l lo hi:Int):Prop where
 b:eN w W.heap.size 118 #[.int .i64 f,.int .i64 s,.int .i64 n,.int .i64 d]
 o:Below W.heap.size W w
 h1:f≤lo
 h2:lo≤hi
 h3:hi≤1099511627776
 h4:lo≤ks f s n d l
 h5:ks f s n d l≤hi
theorem Fh(f s n d l:Int)(w:World):Calls prog 39 #[wW f s n d,.int .i64 l] w fun e w'=>e=.returned (.tuple #[.int .i64 (kj f s n d l),.int .i64 (iD f s n d l)])/\Below w.heap.size w w':=by
 have ad:Below w.heap.size w (w.alloc (.cells #[.int .i64 f,.int .i64 s,.int .i64 n,.int .i64 d] 118)):=(au).alloc (ar) _;have n1:=eN.new w 118 #[.int .i64 f,.int .i64 s,.int .i64 n,.int .i64 d];have I:=eJ ad;have a0:=eJ n1;clear ad n1;by_cases h:gE f s n d=false
 ·rw[show kj f s n d l=0 by simp[kj,iD,h],show iD f s n d l=1 by simp[iD,h]];have j:=eJ h;clear h;go_enter func39,ntmps39;go_wp2_with fail;refine(jS _ _ _ _ _).mono ?_;rw[j.out];rintro e w' ⟨rfl,rfl⟩;go_wp2_with fail;go_ret2;exact⟨rfl,I.out.alloc ak _⟩
 have h:gE f s n d=true:=by simpa using h
 have j:=eJ h;by_cases h1:ij l (-1099511627776) 1099511627776=false
 ·have U:l< -1099511627776\/1099511627776<l:=by simp[ij] at h1;omega
  rw[show kj f s n d l=0 by simp[kj,iD,h,U],show iD f s n d l=2 by simp[iD,h,U]];have H1:=eJ h1;clear h1 h U;go_enter func39,ntmps39;go_wp2_with fail;refine(jS _ _ _ _ _).mono ?_;rw[j.out];rintro e w' ⟨rfl,rfl⟩;go_wp2_with fail;refine(fE _ _ _ _ H1.out _).mono ?_;rintro e w' ⟨rfl,rfl⟩;go_wp2_with fail;go_ret2;exact⟨rfl,I.out.alloc ak _⟩
 have h1:ij l (-1099511627776) 1099511627776=true:=by simpa using h1
 obtain⟨t1,t2⟩:=NV h1;have H1:=eJ h1;clear h1;obtain⟨a3,O,a6,bd,a8,bb,a7,a5,a4,be⟩:=ik h;have ao:=a0.out.alloc (.cells #[.int .i64 f,.int .i64 s,.int .i64 n,.int .i64 d] 118);have ac:=eJ ao;clear ao;have u:=GS f s n d l h t1 t2;by_cases h2:Tkp.iF f s n d 1099511627776<l
 ·rw[aM h2] at u;rw[show kj f s n d l=0 by simp[kj,u],u];clear h u;go_enter func39,ntmps39;go_wp2_with fail;refine(jS _ _ _ _ _).mono ?_;rw[j.out];rintro e w' ⟨rfl,rfl⟩;go_wp2_with fail;refine(fE _ _ _ _ H1.out _).mono ?_;rintro e w' ⟨rfl,rfl⟩;go_wp2_with fail;refine(lT _ _ _ _ _ _ j.out O ah).mono ?_;rintro e w2 ⟨rfl,C⟩;have X:=eJ ((I.out.alloc ak _).trans (C.mono af));clear C;go_wp2_with fail;go_ret2;exact⟨rfl,X.out⟩
 ·rw[aI h2] at u;rw[show kj f s n d l=ks f s n d l by simp[kj,u],u];have hle:=vd f s n d l 1099511627776 h O ah;have a9:=(qV f s n d l h).1;clear h u;go_enter func39,ntmps39;go_wp2_with fail;refine(jS _ _ _ _ _).mono ?_;rw[j.out];rintro e w' ⟨rfl,rfl⟩;go_wp2_with fail;refine(fE _ _ _ _ H1.out _).mono ?_;rintro e w' ⟨rfl,rfl⟩;go_wp2_with fail;refine(lT _ _ _ _ _ _ j.out O ah).mono ?_;rintro e w2 ⟨rfl,C⟩;have X:=eJ ((I.out.alloc ak _).trans (C.mono af));have am:=eJ (ac.out.below C ac.out.lt);clear C;obtain⟨i0,i1,i2,i3⟩:=am.out.lH;go_wp2_with fail;clear i0 i1 i2 i3;go_loopw [6,7] (fun aa Z wr=> ∃lo hi:Int,aa=.int .i64 lo/\Z=.int .i64 hi/\Qm wr w f s n d l lo hi) (fun aa Z _=>(intOf Z-intOf aa).toNat);case atStart=>exact⟨f,1099511627776,rfl,rfl,⟨am.out,X.out,ah,ah,ah,ah,ah⟩⟩
  case round=>
   obtain⟨lo,hi,rfl,rfl,aA⟩:=hrel;obtain⟨T,al,g1,g2,g3,g4,g5⟩:=aA;obtain⟨i0,i1,i2,i3⟩:=T.lH;have J:=eJ T;have E:=eJ al;clear T al;by_cases a2:lo<hi
   ·by_cases hm:Tkp.iF f s n d ((lo+hi)/2)<l
    ·have hq:=Al f s n d l ((lo+hi)/2) j.out ah hm;go_wp2_with fail;refine(lT _ _ _ _ _ _ j.out ah ah).mono ?_;rintro e w4 ⟨rfl,z⟩;have K:=eJ (J.out.below z J.out.lt);have Y:=eJ (E.out.trans (z.mono E.out.size));clear z;go_wp2_with fail;go_roundw;case rel=>exact⟨_,_,rfl,rfl,⟨K.out,Y.out,ah,ah,ah,ah,ah⟩⟩
     case measure=>simp[intOf];omega
    ·have hq:=vd f s n d l ((lo+hi)/2) j.out ah ah;go_wp2_with fail;refine(lT _ _ _ _ _ _ j.out ah ah).mono ?_;rintro e w4 ⟨rfl,z⟩;have K:=eJ (J.out.below z J.out.lt);have Y:=eJ (E.out.trans (z.mono E.out.size));clear z;go_wp2_with fail;go_roundw;case rel=>exact⟨_,_,rfl,rfl,⟨K.out,Y.out,ah,ah,ah,ah,ah⟩⟩
     case measure=>simp[intOf];omega
   ·have ap:ks f s n d l=lo:=ah;have ap:=eJ ap;go_wp2_with fail;go_ret2;exact⟨G7 rfl rfl,E.out⟩
section
variable {w0 w:World}{g k:Nat}{d:Dk}{L:Ly}{A:Option Addr}{ws:List ByteArray}
theorem sV(f s n d t:Int):-1099511627776<=iY f s n d t/\iY f s n d t<=5000000000000:=by
 unfold iY;split
 ·rename_i h;unfold gy at h;split at h
  ·cases h
  ·rename_i h1;split at h
   ·cases h
   ·rename_i h2;have j:gE f s n d=true:=by cases e:gE f s n d;exact absurd e h1;rfl
    have h3:=oP f s n d t j ah ah;have h4:=ik j;omega
 ·omega
theorem uk{W:World}{gk cp:Nat}{E x1 C s:Int}(J:W.cell? ⟨gk,0,none⟩=some (.int .i64 E))(n1:W.cell? ⟨gk,1,none⟩=some (.int .i64 x1))(O:W.cell? ⟨gk,2,none⟩=some (.int .i64 C))(K:W.cell? ⟨gk,3,none⟩=some (.int .i64 s)):Calls prog 97 #[.slice (some ⟨gk,0,none⟩) 5 cp] W fun e w'=>e=.returned (wW E x1 C s)/\Below W.heap.size W w':=by
 have u:gk<W.heap.size:=aG _ _ J;have aa:Hid (∀(o:Unit) j,Below W.heap.size W j->j.cell? ⟨gk,0,none⟩=some (.int .i64 E)/\j.cell? ⟨gk,1,none⟩=some (.int .i64 x1)/\j.cell? ⟨gk,2,none⟩=some (.int .i64 C)/\j.cell? ⟨gk,3,none⟩=some (.int .i64 s)):=eJ (fun _ j hB=>⟨(hB.cell (p:=⟨gk,0,none⟩) u).trans J,(hB.cell (p:=⟨gk,1,none⟩) u).trans n1,(hB.cell (p:=⟨gk,2,none⟩) u).trans O,(hB.cell (p:=⟨gk,3,none⟩) u).trans K⟩);obtain⟨W1,z⟩:=ab (W.alloc (.cells #[.int .i64 0,.int .i64 0,.int .i64 0,.int .i64 0] 166));have I:Below W.heap.size W W1:=by rw[<-z];exact(au).alloc (ar) _
 have h:eN W1 W.heap.size 166 #[.int .i64 0,.int .i64 0,.int .i64 0,.int .i64 0]:=by rw[<-z];exact eN.new W _ _
 have ac:=eJ z;have X:=eJ I;have ad:=eJ h;obtain⟨m0,m1,m2,m3⟩:=aa.out () W1 I;obtain⟨T,Y,Z,U⟩:=h.lH;have f0:=h.frozen 0;have f1:=h.frozen 1;have f2:=h.frozen 2;have f3:=h.frozen 3;have al:gk≠W.heap.size:=ah;clear z I h J n1 O K;go_enter func97,ntmps97;go_wp2_with fail;rw[ac.out];go_region;all_goals go_wp2_with fail;refine aR (v:=wW E x1 C s) (by simp[results,results97,go_sem,T,Y,Z,U]) rfl ⟨rfl, ?_⟩;exact below_drewN ((((X.out.setCell (ar) _).setCell (ar) _).setCell (ar) _).setCell (ar) _) 1
theorem J9(h:iu w0 w g d L k A ws)(c:Nat):Calls prog 53 #[.pointer (some ⟨g,0,none⟩),.slice A ws.length c] w (qG w0 w g L (pH d ws)):=by
 have a0:=eJ (h.jb (5) ah ah c);have H:=eJ h;clear h;go_enter func53,ntmps53;go_wp2_with fail;refine a0.out.mono ?_;rintro r w1 ⟨⟨hn,rfl⟩|⟨l,v,hn,rfl,K⟩,T⟩;case inl=>have J:=eJ (H.out.bad (x:=pH d ws) (fJ hn) T);go_wp2_with fail;exact⟨rfl,J.out⟩
 obtain⟨z,x1,u,s,j,gk,cp,rfl,rfl,a7,n1,bb,a2,a6,bi,I⟩:=Dy K ((fg hn).1 ah);have al:=eJ T;have bd:=eJ hn;have bf:=eJ K;clear T hn K;have U:Hid (pH d ws=rA (gy z x1 u s j) (fR (iY z x1 u s j)) d):=eJ (eL bd.out);have X:Hid (∀W,Below w1.heap.size w1 W->W.cell? ⟨gk,4,none⟩=some (.int .i64 j)):=eJ (fun W hB=>(hB.cell (p:=⟨gk,4,none⟩) I).trans a6);have be:Hid (∀W,Below w1.heap.size w1 W->Calls prog 97 #[.slice (some ⟨gk,0,none⟩) 5 cp] W fun e w'=>e=.returned (wW z x1 u s)/\Below w1.heap.size w1 w'):=eJ (fun W hB=>(uk ((hB.cell (p:=⟨gk,0,none⟩) I).trans a7) ((hB.cell (p:=⟨gk,1,none⟩) I).trans n1) ((hB.cell (p:=⟨gk,2,none⟩) I).trans bb) ((hB.cell (p:=⟨gk,3,none⟩) I).trans a2)).mono (fun e w' ⟨h1,h2⟩=>⟨h1,hB.trans (h2.mono hB.size)⟩));have ap:Hid (∀W,Below w1.heap.size w1 W->Calls prog 98 #[wW z x1 u s,.int .i64 j] W fun e w'=>e=.returned (.tuple #[.int .i64 (iY z x1 u s j),gv (gy z x1 u s j)])/\Below w1.heap.size w1 w'):=eJ (fun W hB=>(E2 z x1 u s j W).mono (fun e w' ⟨h1,h2⟩=>⟨h1,hB.trans (h2.mono hB.size)⟩));have a9:=sV z x1 u s j;obtain⟨E,aA⟩:=ab (gy z x1 u s j);obtain⟨V,Y⟩:=ab (iY z x1 u s j);rw[aA,Y] at U ap;rw[Y] at a9;clear aA Y a0;go_wp2_with fail;go_region_held3 (fun w'=>w'.cell? ⟨gk,4,none⟩=some (.int .i64 j)) (first|exact X.out _ (below_drewN (au) 1)|exact X.out _ ac.out|exact X.out _ am.out) (first|(go_at_call 97;go_must (refine(be.out _ (below_drewN (au) 1)).mono ?_);rintro r w4 ⟨rfl,ad⟩;have am:=eJ ad;clear ad)|(go_at_call 98;go_must (refine(ap.out _ am.out).mono ?_);rintro r w5 ⟨rfl,ao⟩;have ac:=eJ ao;clear ao));all_goals
  have C:=eJ (al.out.trans (ac.out.mono al.out.size));by_cases he:E=0
  ·subst he;have Z:=eJ (U.out.trans (pG rfl));have O:=eJ (ku w5);have a3:=eJ (jz V w5 (H.out.jK C.out) ah ah);have a4:gv 0=.nilIface:=rfl;rw[a4];go_wp2_with fail;refine O.out.mono ?_;rintro r w6 ⟨rfl,rfl⟩;go_wp2_with fail;refine a3.out.mono ?_;rintro r w7 ⟨rfl,aa⟩;have J:=eJ (H.out.tQ Z.out (C.out.trans (aa.mono C.out.size)));clear aa;go_wp2_with fail;go_ret;exact J.out
  ·have Z:=eJ (U.out.trans (sy he));have O:=eJ (s9 E w5 (H.out.jK C.out).err);have a8:=eJ he;clear he;go_wp2_with fail;refine O.out.mono ?_;rintro r w6 ⟨⟨h0,-⟩|⟨-,rfl⟩,a5⟩
   ·exact absurd h0 a8.out
   have J:=eJ (H.out.bad Z.out (C.out.trans (a5.mono C.out.size)));go_wp2_with fail;exact⟨rfl,J.out⟩
theorem L4(h:iu w0 w g d L k A ws)(c:Nat):Calls prog 61 #[.pointer (some ⟨g,0,none⟩),.slice A ws.length c] w (qG w0 w g L (tF d ws)):=by
 have a0:=eJ (h.jb (5) ah ah c);have H:=eJ h;clear h;go_enter func61,ntmps61;go_wp2_with fail;refine a0.out.mono ?_;rintro r w1 ⟨⟨hn,rfl⟩|⟨l,v,hn,rfl,K⟩,T⟩;case inl=>have J:=eJ (H.out.bad (x:=tF d ws) (fJ hn) T);go_wp2_with fail;exact⟨rfl,J.out⟩
 obtain⟨z,x1,u,s,j,gk,cp,rfl,rfl,a7,n1,bb,a2,a6,bi,I⟩:=Dy K ((fg hn).1 ah);have al:=eJ T;have bd:=eJ hn;have bf:=eJ K;clear T hn K;have U:Hid (tF d ws=rA (iD z x1 u s j) (fR (kj z x1 u s j)) d):=eJ (eL bd.out);have X:Hid (∀W,Below w1.heap.size w1 W->W.cell? ⟨gk,4,none⟩=some (.int .i64 j)):=eJ (fun W hB=>(hB.cell (p:=⟨gk,4,none⟩) I).trans a6);have be:Hid (∀W,Below w1.heap.size w1 W->Calls prog 97 #[.slice (some ⟨gk,0,none⟩) 5 cp] W fun e w'=>e=.returned (wW z x1 u s)/\Below w1.heap.size w1 w'):=eJ (fun W hB=>(uk ((hB.cell (p:=⟨gk,0,none⟩) I).trans a7) ((hB.cell (p:=⟨gk,1,none⟩) I).trans n1) ((hB.cell (p:=⟨gk,2,none⟩) I).trans bb) ((hB.cell (p:=⟨gk,3,none⟩) I).trans a2)).mono (fun e w' ⟨h1,h2⟩=>⟨h1,hB.trans (h2.mono hB.size)⟩));have ap:Hid (∀W,Below w1.heap.size w1 W->Calls prog 102 #[wW z x1 u s,.int .i64 j] W fun e w'=>e=.returned (.tuple #[.int .i64 (kj z x1 u s j),gv (iD z x1 u s j)])/\Below w1.heap.size w1 w'):=eJ (fun W hB=>(Jd z x1 u s j W).mono (fun e w' ⟨h1,h2⟩=>⟨h1,hB.trans (h2.mono hB.size)⟩));have a9:=wI z x1 u s j;obtain⟨E,aA⟩:=ab (iD z x1 u s j);obtain⟨V,Y⟩:=ab (kj z x1 u s j);rw[aA,Y] at U ap;rw[Y] at a9;clear aA Y a0;go_wp2_with fail;go_region_held3 (fun w'=>w'.cell? ⟨gk,4,none⟩=some (.int .i64 j)) (first|exact X.out _ (below_drewN (au) 1)|exact X.out _ ac.out|exact X.out _ am.out) (first|(go_at_call 97;go_must (refine(be.out _ (below_drewN (au) 1)).mono ?_);rintro r w4 ⟨rfl,ad⟩;have am:=eJ ad;clear ad)|(go_at_call 102;go_must (refine(ap.out _ am.out).mono ?_);rintro r w5 ⟨rfl,ao⟩;have ac:=eJ ao;clear ao));all_goals
  have C:=eJ (al.out.trans (ac.out.mono al.out.size));by_cases he:E=0
  ·subst he;have Z:=eJ (U.out.trans (pG rfl));have O:=eJ (ku w5);have a3:=eJ (jz V w5 (H.out.jK C.out) ah ah);have a4:gv 0=.nilIface:=rfl;rw[a4];go_wp2_with fail;refine O.out.mono ?_;rintro r w6 ⟨rfl,rfl⟩;go_wp2_with fail;refine a3.out.mono ?_;rintro r w7 ⟨rfl,aa⟩;have J:=eJ (H.out.tQ Z.out (C.out.trans (aa.mono C.out.size)));clear aa;go_wp2_with fail;go_ret;exact J.out
  ·have Z:=eJ (U.out.trans (sy he));have O:=eJ (s9 E w5 (H.out.jK C.out).err);have a8:=eJ he;clear he;go_wp2_with fail;refine O.out.mono ?_;rintro r w6 ⟨⟨h0,-⟩|⟨-,rfl⟩,a5⟩
   ·exact absurd h0 a8.out
   have J:=eJ (H.out.bad Z.out (C.out.trans (a5.mono C.out.size)));go_wp2_with fail;exact⟨rfl,J.out⟩
end
section
variable {m k:Nat}{w0 w w1:World}{g:Nat}{d:Dk}{L:Lh}{v:Value}{l:List Int}
theorem II(h:jF m k w0 w w1 g d L v l)(A:Option Addr)(ws:List ByteArray)(c:Nat)(hn:eU ws 5=some l):Calls prog 15 #[.pointer (some ⟨g,0,none⟩),.string ⟨#[108,111,99,97,108]⟩,.slice A ws.length c,v] w1 (mx m w0 w g L (pH d ws)):=by obtain⟨z,x1,s,j,u,gk,cp,rfl,rfl,X,n1,aa,T,U,a0,C⟩:=Dy h.own ((fg hn).1 ah);have J:Hid (pH d ws=rA (gy z x1 s j u) (fR (iY z x1 s j u)) d):=eJ (eL hn);have K:Hid (∀W,Below w1.heap.size w1 W->Calls prog 38 #[wW z x1 s j,.int .i64 u] W fun e w'=>e=.returned (.tuple #[.int .i64 (iY z x1 s j u),.int .i64 (gy z x1 s j u)])/\Below w1.heap.size w1 w'):=eJ (fun W hB=>(CM z x1 s j u W).mono (fun e w' ⟨h1,h2⟩=>⟨h1,hB.trans (h2.mono hB.size)⟩));have Z:=sV z x1 s j u;obtain⟨E,ad⟩:=ab (gy z x1 s j u);obtain⟨V,O⟩:=ab (iY z x1 s j u);rw[ad,O] at J K;rw[O] at Z;unfold wW at K;have ac:Hid (∀W,Below w1.heap.size w1 W->W.cell? ⟨gk,0,none⟩=some (.int .i64 z)/\W.cell? ⟨gk,1,none⟩=some (.int .i64 x1)/\W.cell? ⟨gk,2,none⟩=some (.int .i64 s)/\W.cell? ⟨gk,3,none⟩=some (.int .i64 j)/\W.cell? ⟨gk,4,none⟩=some (.int .i64 u)):=eJ (fun W hB=>⟨(hB.cell (p:=⟨gk,0,none⟩) C).trans X,(hB.cell (p:=⟨gk,1,none⟩) C).trans n1,(hB.cell (p:=⟨gk,2,none⟩) C).trans aa,(hB.cell (p:=⟨gk,3,none⟩) C).trans T,(hB.cell (p:=⟨gk,4,none⟩) C).trans U⟩);have ap:=eJ (fun W (hB:Below w1.heap.size w1 W)=>qN V W (h.jK hB) ah ah);have al:=eJ (fun W (hB:Below w1.heap.size w1 W)=>mx.rA J.out (h.to hB));have jk:=h.jk;clear ad O h hn J Z;go_enter func15,ntmps15;go_wp2_with fail;go_region_held3 (fun W=>W.cell? ⟨gk,0,none⟩=some (.int .i64 z)/\W.cell? ⟨gk,1,none⟩=some (.int .i64 x1)/\W.cell? ⟨gk,2,none⟩=some (.int .i64 s)/\W.cell? ⟨gk,3,none⟩=some (.int .i64 j)/\W.cell? ⟨gk,4,none⟩=some (.int .i64 u)) (first|exact ac.out _ (below_drewN (au) 1)|exact ac.out _ I.out) (first|(go_at_call 38;go_must (refine(K.out _ (below_drewN (au) 1)).mono ?_);rintro r w5 ⟨rfl,Y⟩;have I:=eJ Y;clear Y));all_goals have aA:=eJ (ap.out _ I.out);clear X n1 aa T U;go_wp2_with fail;refine aA.out.mono ?_;rintro r w6 ⟨rfl,am⟩;have ao:=eJ (al.out _ (I.out.trans (am.mono I.out.size)));go_wp2_with fail;go_ret2;exact ao.out
theorem KW(h:jF m k w0 w w1 g d L v l)(A:Option Addr)(ws:List ByteArray)(c:Nat)(hn:eU ws 5=some l):Calls prog 15 #[.pointer (some ⟨g,0,none⟩),.string ⟨#[114,101,97,108]⟩,.slice A ws.length c,v] w1 (mx m w0 w g L (tF d ws)):=by obtain⟨z,x1,s,j,u,gk,cp,rfl,rfl,X,n1,aa,T,U,a0,C⟩:=Dy h.own ((fg hn).1 ah);have J:Hid (tF d ws=rA (iD z x1 s j u) (fR (kj z x1 s j u)) d):=eJ (eL hn);have K:Hid (∀W,Below w1.heap.size w1 W->Calls prog 39 #[wW z x1 s j,.int .i64 u] W fun e w'=>e=.returned (.tuple #[.int .i64 (kj z x1 s j u),.int .i64 (iD z x1 s j u)])/\Below w1.heap.size w1 w'):=eJ (fun W hB=>(Fh z x1 s j u W).mono (fun e w' ⟨h1,h2⟩=>⟨h1,hB.trans (h2.mono hB.size)⟩));have Z:=wI z x1 s j u;obtain⟨E,ad⟩:=ab (iD z x1 s j u);obtain⟨V,O⟩:=ab (kj z x1 s j u);rw[ad,O] at J K;rw[O] at Z;unfold wW at K;have ac:Hid (∀W,Below w1.heap.size w1 W->W.cell? ⟨gk,0,none⟩=some (.int .i64 z)/\W.cell? ⟨gk,1,none⟩=some (.int .i64 x1)/\W.cell? ⟨gk,2,none⟩=some (.int .i64 s)/\W.cell? ⟨gk,3,none⟩=some (.int .i64 j)/\W.cell? ⟨gk,4,none⟩=some (.int .i64 u)):=eJ (fun W hB=>⟨(hB.cell (p:=⟨gk,0,none⟩) C).trans X,(hB.cell (p:=⟨gk,1,none⟩) C).trans n1,(hB.cell (p:=⟨gk,2,none⟩) C).trans aa,(hB.cell (p:=⟨gk,3,none⟩) C).trans T,(hB.cell (p:=⟨gk,4,none⟩) C).trans U⟩);have ap:=eJ (fun W (hB:Below w1.heap.size w1 W)=>qN V W (h.jK hB) ah ah);have al:=eJ (fun W (hB:Below w1.heap.size w1 W)=>mx.rA J.out (h.to hB));have jk:=h.jk;clear ad O h hn J Z;go_enter func15,ntmps15;go_wp2_with fail;go_region_held3 (fun W=>W.cell? ⟨gk,0,none⟩=some (.int .i64 z)/\W.cell? ⟨gk,1,none⟩=some (.int .i64 x1)/\W.cell? ⟨gk,2,none⟩=some (.int .i64 s)/\W.cell? ⟨gk,3,none⟩=some (.int .i64 j)/\W.cell? ⟨gk,4,none⟩=some (.int .i64 u)) (first|exact ac.out _ (below_drewN (au) 1)|exact ac.out _ I.out) (first|(go_at_call 39;go_must (refine(K.out _ (below_drewN (au) 1)).mono ?_);rintro r w5 ⟨rfl,Y⟩;have I:=eJ Y;clear Y));all_goals have aA:=eJ (ap.out _ I.out);clear X n1 aa T U;go_wp2_with fail;refine aA.out.mono ?_;rintro r w6 ⟨rfl,am⟩;have ao:=eJ (al.out _ (I.out.trans (am.mono I.out.size)));go_wp2_with fail;go_ret2;exact ao.out
end
section
variable {m k:Nat}{w0 w w1:World}{g:Nat}{d:Dk}{L:Lh}{v:Value}{l:List Int}
theorem AJ(h:jF m k w0 w w1 g d L v l)(A:Option Addr)(ws:List ByteArray)(c:Nat)(a2:ws.length<=2000)(hn:eU ws (-1)=some l):Calls prog 15 #[.pointer (some ⟨g,0,none⟩),.string ⟨#[109,105,100,112,111,105,110,116]⟩,.slice A ws.length c,v] w1 (mx m w0 w g L (Ae d ws)):=by
 have J:=(fg hn).2;obtain⟨gk,cp,rfl,hle,a4,aa,s⟩:=jf h.own ah;match l,J,hn,h,hle,s with
  |e::t,_,hn,h,hle,s=>
   have O:=s 0 e rfl;have ao:Hid (kY w1 (if cp=1 then some ⟨gk,0,none⟩ else some ⟨gk,1,none⟩) t):=eJ (fun j Y=>by rw[aI (by rw[aP] at hle;omega)];refine⟨gk,1,rfl, ?_⟩;have:=s (j+1) (t.getD j 0) (by rw[cf,aF Y,aL,aF Y];rfl);rw[dO 1 j];exact this);have a0:t.length<=2000:=by have h1:=kT hn;rw[aP] at h1;omega
   have z:=eJ (fun W (hB:Below w1.heap.size w1 W)=>AI (if cp=1 then some ⟨gk,0,none⟩ else some ⟨gk,1,none⟩) (cp-1) t e W (ao.out.below (ar) hB) ah);obtain⟨q,hq⟩:=ab t.length;have K:(e::t).length=q+1:=by simp[hq]
   rw[K] at hle⊢;rw[hq] at z a0;have C:Hid (Ae d ws=rA (lL t e) (fR (ly t e)) d):=eJ (eL hn);obtain⟨E,Z⟩:=ab (lL t e);obtain⟨V,I⟩:=ab (ly t e);have X:=si t e;rw[Z,I] at C z;rw[I] at X;have U:Hid (∀W,Below w1.heap.size w1 W->W.cell? ⟨gk,0,none⟩=some (.int .i64 e)):=eJ (fun W hB=>(hB.cell (p:=⟨gk,0,none⟩) aa).trans O);have am:=eJ (fun W (hB:Below w1.heap.size w1 W)=>qN V W (h.jK hB) ah ah);have ac:=eJ (fun W (hB:Below w1.heap.size w1 W)=>mx.rA C.out (h.to hB));have jk:=h.jk;have b1:(1:Int)<=((q+1:Nat):Int):=ah;have b2:((q+1:Nat):Int)<=(cp:Int):=ah;have a6:(1:Int)<=(q:Int)+1:=ah;have a5:(q:Int)+1<=(cp:Int):=ah;have a3:1<=q+1:=ah;clear hn h s K hq Z I J C X;by_cases ap:cp=1;all_goals simp only[ap,eF,if_false] at z;go_enter func15,ntmps15;go_wp2_with fail;go_region_held3 (fun w'=>w'.cell? ⟨gk,0,none⟩=some (.int .i64 e)) (first|exact U.out _ (below_drewN (au) 1)|exact U.out _ u.out) (first|(go_at_call 37;go_must (refine(z.out _ (below_drewN (au) 1)).mono ?_);rintro r w5 ⟨rfl,T⟩;have u:=eJ ((below_drewN (Below.refl w1.heap.size w1) 1).trans T);clear T));all_goals have aA:=eJ (am.out _ u.out);clear O;go_wp2_with fail;refine aA.out.mono ?_;rintro r w6 ⟨rfl,ad⟩;have al:=eJ (ac.out _ (u.out.trans (ad.mono u.out.size)));go_wp2_with fail;go_ret2;exact al.out
end
section
variable {w0 w:World}{g k:Nat}{d:Dk}{L:Ly}{A:Option Addr}{ws:List ByteArray}
theorem xR{l:List Int}{x:Int}(h:x∈l): ∃j,l.getD j 0=x:=by obtain⟨j,s,e⟩:=bJ.1 h;exact⟨j,by rw[aL,aF s];exact e⟩
theorem El(h:iu w0 w g d L k A ws)(c:Nat):Calls prog 49 #[.pointer (some ⟨g,0,none⟩),.slice A ws.length c] w (qG w0 w g L (lX d ws)):=by
 have a7:=eJ (h.jb (0) ah ah c);have H:=eJ h;clear h;go_enter func49,ntmps49;go_wp2_with fail;refine a7.out.mono ?_;rintro r w1 ⟨⟨hn,rfl⟩|⟨l,v,hn,rfl,I⟩,J⟩;case inl=>have z:=eJ (H.out.bad (x:=lX d ws) (fJ hn) J);go_wp2_with fail;exact⟨rfl,z.out⟩
 obtain⟨bf,cv,rfl,-⟩:=gK I;have s:=eJ J;have bd:=eJ I;have Z:=eJ hn;clear J I hn;cases hd:d.c with|none=>have E:=eJ (iz w1 (H.out.jK s.out).err g none true (H.out.noCell s.out hd) rfl);have K:Hid (lX d ws=⟨.error 6,d⟩):=eJ ((eL Z.out).trans (fZ hd));go_wp2_with fail;refine E.out.mono ?_;rintro r w2 ⟨rfl,aA⟩;have z:=eJ (H.out.bad K.out (s.out.trans (aA.mono s.out.size)));go_wp2_with fail;exact⟨rfl,z.out⟩|some y=>obtain⟨a,b,jk,aa,am,a0,ao,X⟩:=H.out.lx s.out hd;have E:=eJ (jd w1 g _ true jk rfl);have be:=eJ (H.out.dk.below s.out);obtain⟨O,u,a2,al,ad,a8⟩:=H.out.ok.im y hd;have hp:=gl.of O;have bj:=hp.n1;have bi:=hp.n16;have ap:=eJ (BJ X hp u.len);have K:Hid (lX d ws=⟨.ok (sw y.2.ck),d⟩):=eJ ((eL Z.out).trans (fF hd));have a5:Hid (∀W A cp,Below w1.heap.size w1 W->kY W A y.2.ck->Calls prog 95 #[.slice A d.p.nd.toNat cp] W fun e w'=>e=.returned (.string (sw y.2.ck))/\Below W.heap.size W w'):=eJ (fun W A cp hB ac=>by have:=JC A cp y.2.ck W ((H.out.jK s.out).next hB) ac (by rw[u.len];omega) (by rw[u.len];omega) (fun x a9=>by obtain⟨j,rfl⟩:=xR a9;have:=u.ck j;omega);rw[u.len] at this;exact this);have bb:=jk;clear aa am a0 ao X O u a2 al ad a8 hp bb;go_wp2_with fail;refine E.out.mono ?_;rintro r w2 ⟨rfl,rfl⟩;go_wp2_with fail;refine ap.out.mono ?_;rintro r w3 ⟨⟨a4,a6,rfl,U⟩,C⟩;have a3:=eJ (a5.out w3 a4 a6 C U);have Y:=eJ (s.out.trans (C.mono s.out.size));clear C U jk;go_wp2_with fail;refine a3.out.mono ?_;rintro r w4 ⟨rfl,T⟩;have z:=eJ (H.out.tQ K.out (Y.out.trans (T.mono Y.out.size)));clear T;go_wp2_with fail;go_ret;exact z.out
theorem EX(h:iu w0 w g d L k A ws)(c:Nat):Calls prog 65 #[.pointer (some ⟨g,0,none⟩),.slice A ws.length c] w (qG w0 w g L (lW d ws)):=by
 have a9:=eJ (h.jb (0) ah ah c);have H:=eJ h;clear h;go_enter func65,ntmps65;go_wp2_with fail;refine a9.out.mono ?_;rintro r w1 ⟨⟨hn,rfl⟩|⟨l,v,hn,rfl,I⟩,J⟩;case inl=>have u:=eJ (H.out.bad (x:=lW d ws) (fJ hn) J);go_wp2_with fail;exact⟨rfl,u.out⟩
 obtain⟨bi,cv,rfl,-⟩:=gK I;have s:=eJ J;have be:=eJ I;have al:=eJ hn;clear J I hn;cases hd:d.c with
  |none=>have E:=eJ (iz w1 (H.out.jK s.out).err g none true (H.out.noCell s.out hd) rfl);have T:Hid (lW d ws=⟨.error 6,d⟩):=eJ ((eL al.out).trans (fZ hd));go_wp2_with fail;refine E.out.mono ?_;rintro r w2 ⟨rfl,a4⟩;have u:=eJ (H.out.bad T.out (s.out.trans (a4.mono s.out.size)));go_wp2_with fail;exact⟨rfl,u.out⟩
  |some y=>
   obtain⟨a,b,jk,am,a0,a5,a3,ad⟩:=H.out.lx s.out hd;have E:=eJ (jd w1 g _ true jk rfl);have bf:=eJ (H.out.dk.below s.out);obtain⟨X,C,a6,ac,Y,bb⟩:=H.out.ok.im y hd;have hp:=gl.of X;have a8:=eJ (KY ad hp C.len C.ck ac Y);have Z:Hid (∀x z:Int,rW (fP y.1 y.2.ck d.p.nd.toNat) x->rM (fP y.1 y.2.ck d.p.nd.toNat) z->x-z=C9 d.p y.1 y.2):=eJ (fun x z h1 h2=>yD.eq ⟨x,z,rfl,h1,h2⟩);have T:Hid (lW d ws=⟨.ok (fR (C9 d.p y.1 y.2)),d⟩):=eJ ((eL al.out).trans (fF hd));have bd:Hid (∀x,rW (fP y.1 y.2.ck d.p.nd.toNat) x->-274877906944<=x/\x<=274877906944):=eJ (fun x ⟨⟨j,K,e⟩,_⟩=>by
    have hm:x∈fP y.1 y.2.ck d.p.nd.toNat:=by rw[<-e,aL,aF K];exact cI _
    obtain⟨q,-,-,rfl⟩:=lQ hm;exact C.ck q)
   have a7:Hid (∀x,rM (fP y.1 y.2.ck d.p.nd.toNat) x->-274877906944<=x/\x<=274877906944):=eJ (fun x ⟨⟨j,K,e⟩,_⟩=>by
    have hm:x∈fP y.1 y.2.ck d.p.nd.toNat:=by rw[<-e,aL,aF K];exact cI _
    obtain⟨q,-,-,rfl⟩:=lQ hm;exact C.ck q)
   clear am a0 a5 a3 ad X C a6 ac Y bb hp;go_wp2_with fail;refine E.out.mono ?_;rintro r w2 ⟨rfl,rfl⟩;go_wp2_with fail;refine a8.out.mono ?_;rintro r w3 ⟨⟨x,z,rfl,h1,h2⟩,U⟩;have O:=eJ (s.out.trans (U.mono s.out.size));have ap:=bd.out x h1;have aA:=a7.out z h2;rw[Z.out x z h1 h2];have a2:C9 d.p y.1 y.2=x-z:=(Z.out x z h1 h2).symm;have ao:=eJ (jz (C9 d.p y.1 y.2) w3 (H.out.jK O.out) ah ah);clear U h1 h2 jk ap aA a2;go_wp2_with fail;refine ao.out.mono ?_;rintro r w4 ⟨rfl,aa⟩;have u:=eJ (H.out.tQ T.out (O.out.trans (aa.mono O.out.size)));clear aa;go_wp2_with fail;go_ret;exact u.out
end
def nv(n:Nat):Code->Option Code
 |.block m c=>if m==n then some (.block m c) else nv n c
 |.seq a b=>match nv n a with
  |some c=>some c
  |none=>nv n b
 |.loop c=>nv n c
 |.scope c=>nv n c
 |.cond _ a b=>match nv n a with
  |some c=>some c
  |none=>nv n b
 |_=>none
noncomputable def OT(n:Nat):Code:=(f34.body.bind (nv n)).getD .skip
section
variable {w0 w w' w1:World}{base g:Nat}{p:Pl}{P:lz}{fy M:Nat}{c:Cl}{bs:List Nat}
theorem iJ.lost(h:iJ w0 w base g p P fy c M w1 bs)(f:Nat->Nat->Pr)(j: ∀k i,(f k i).q=(c.pr k i).q):iJ w0 w base g p P fy {c with pr:=f} M w1 bs:=by
 obtain⟨a,h1,h2,h3,h4,h5⟩:=h;have e:eM base a (eO p) p P fy {c with pr:=f}=eM base a (eO p) p P fy c:=by funext x;cases x<;>simp[eM,j]
 refine⟨a,h1,⟨by rw[e];exact h2.gJ,h2.rel.sd,h2.rel.al,h2.rel.tk,fun k i=> ?_⟩,h3,h4,by rw[e];exact h5⟩;exact h2.rel.pr k i
theorem iJ.QQ(h:iJ w0 w base g p P fy c M w1 bs){N:Nat}(ac:gH p N c)(ap:N<=1000000000000){k i:Nat}(hk:k<p.lk.length)(hi:i<p.nd.toNat): ∃tm gk,w.cell? ⟨g,14,none⟩=some (.map (some tm))/\(∀W,Below w.heap.size w W->(Instr.lookup 98 (.map (some tm)) (.agg #[.int .i64 (k:Int),.int .i64 (i:Int)]) false).run prog W=.ok (.pointer (some ⟨gk,0,none⟩)) W)/\(∀W s,Below w.heap.size w W->Calls prog 83 #[.pointer (some ⟨gk,0,none⟩),.int .i64 s] W fun e w'=>e=.returned (.bool (gS s (c.tk k i).nw))/\iJ w0 w' base g p P fy {c with tk:=fM c.tk k i ((c.tk k i).take s)} M w1 bs/\w'.cell? ⟨g,7,none⟩=some P.l/\w'.cell? ⟨g,14,none⟩=some (.map (some tm))/\∀u,Below w'.heap.size w' u->(Instr.lookup 98 (.map (some tm)) (.agg #[.int .i64 (k:Int),.int .i64 (i:Int)]) false).run prog u=.ok (.pointer (some ⟨gk,0,none⟩)) u):=by
 obtain⟨a,rfl,h2,h3,h4,h5⟩:=h;have C:i<(eO p).nk k:=by show i<(if k<p.lk.length then p.nd.toNat else 0);rw[aM hk];exact hi
 obtain⟨-,-,-,-,-,-,-,-,-,-,-,ad,-⟩:=gg h2.gA;have hG: ∀W,Below w.heap.size w W->fY W base a (eO p) p P fy c M/\Below base w0 W/\base<=W.heap.size/\∀b∈bs,b<W.heap.size/\¬wM (eM base a (eO p) p P fy c) b/\W.heap[b]? =w1.heap[b]? :=fun W hB=>⟨h2.below hB,h3.trans (hB.mono h4),aK h4 hB.size,fun b z=>⟨aN (h5 b z).1 hB.size,(h5 b z).2.1,(hB.block b (h5 b z).1).trans (h5 b z).2.2⟩⟩;have z:=ac.tk k i;have K:zo k i a.kt=some (fk (a.gk k i)):=h2.rel.tk k i C;have U: ∀x,(eM base a (eO p) p P fy c (.nK k i)).eX=x->x=[a.gk k i]:=fun x e=>by rw[<-e];simp[eM,C,GO.eW]
 have ao:a.gk k i≠a.g:=fun e=>by
  have h1:a.gk k i∈(eM base a (eO p) p P fy c (.nK k i)).eX:=by rw[U _ rfl];simp
  have E:a.gk k i∈(eM base a (eO p) p P fy c .im).eX:=by simp[eM,GO.eW,e]
  exact absurd (h2.gJ.sep _ _ _ h1 E) ak
 have am:a.gk k i≠a.tm:=fun e=>by
  have h1:a.gk k i∈(eM base a (eO p) p P fy c (.nK k i)).eX:=by rw[U _ rfl];simp
  have E:a.gk k i∈(eM base a (eO p) p P fy c .qQ).eX:=by simp[eM,GO.mp,e]
  exact absurd (h2.gJ.sep _ _ _ h1 E) ak
 refine⟨a.tm,a.gk k i,ad,fun W hB=> ?_,fun W s hB=> ?_⟩
 ·obtain⟨j,T,I,O⟩:=hG W hB;exact nE underlying98 j.qQ k i (zeroValue143 W) (by rw[K];rfl)
 ·obtain⟨j,T,I,O⟩:=hG W hB;refine(FH (a.gk k i) s (c.tk k i).nw (c.tk k i).c0 (c.tk k i).c1 W (j.N7 C) ah ah ah ah ah ah).mono ?_;rintro r w' ⟨rfl,Y,J⟩;have aa:=j.gA.grown J (by simpa using ao.symm);obtain⟨-,-,-,-,-,-,Z,-,-,-,-,X,-⟩:=gg aa;have hm:jP w' a.tm a.kt:=j.qQ.iP (J.block a.tm j.qQ.lt (by simpa using am.symm));refine⟨rfl,.vB rfl j T I O (j.PH C s Y J I),Z,X,fun u al=> ?_⟩;exact nE underlying98 (hm.iP (al.block a.tm hm.lt)) k i (zeroValue143 u) (by rw[K];rfl)
theorem iJ.Qf(h:iJ w0 w base g p P fy c M w1 bs)(k i:Nat): ∃pm v,w.cell? ⟨g,15,none⟩=some (.map (some pm))/\fK w base 9 v (sv (c.pr k i).q)/\(∀W,Below w.heap.size w W->(Instr.lookup 99 (.map (some pm)) (.agg #[.int .i64 (k:Int),.int .i64 (i:Int)]) false).run prog W=.ok v W)/\(∀W v',Below w.heap.size w W->(∀b,v'.ownBlock=some b->b<W.heap.size/\w.heap.size<=b)->∃j,(Instr.mapUpdate 99 (.map (some pm)) (.agg #[.int .i64 (k:Int),.int .i64 (i:Int)]) v').run prog W=.ok () j/\j.cell? ⟨g,15,none⟩=some (.map (some pm))/\∀x:Pr,fK W base 9 v' (sv x.q)->iJ w0 j base g p P fy {c with pr:=fM c.pr k i x} M w1 bs):=by
 obtain⟨a,rfl,h2,h3,h4,h5⟩:=h;obtain⟨-,-,-,-,-,-,-,-,-,-,-,-,E,-⟩:=gg h2.gA;have hn:a.g≠a.pm:=fun e=>by
  have h1:a.g∈(eM base a (eO p) p P fy c .im).eX:=by simp[eM,GO.eW]
  have O:a.g∈(eM base a (eO p) p P fy c .pQ).eX:=by simp[eM,GO.mp,e]
  exact absurd (h2.gJ.sep _ _ _ h1 O) ak
 refine⟨a.pm,a.vp k i,E,(h2.ER k i).1,fun W hB=> ?_,fun W v' hB s=> ?_⟩
 ·exact nE underlying99 (h2.below hB).pQ k i (zeroValue52 W) (h2.rel.pr k i)
 ·obtain⟨j,K,I,u⟩:=pK underlying99 (h2.below hB).pQ k i v';have J:=((h2.below hB).gA).grown u (by simpa using hn);obtain⟨-,-,-,-,-,-,-,-,-,-,-,-,C,-⟩:=gg J;exact⟨j,K,C,fun x z=> .vB rfl h2 h3 h4 h5 (h2.M6 k i x hB z (fun b e=>⟨(s b e).1,.inr (s b e).2⟩) I u h4)⟩
end
theorem yL{W:World}{b b2:Nat}{d:ByteArray}(h:eN W b 9 #[.string d])(e:b2<=b):fK W b2 9 (.slice (some ⟨b,0,none⟩) 1 1) (sv [d]):=.inr ⟨b,0,1, #[.string d],rfl,e,h,aj,by simp[sv],by simp[maxLen],ak,fun j s=>by
 have:j=0:=by simp[sv] at s;omega
 subst this;rfl⟩
theorem vH{n q:Nat}(h:n<=40):jg n q 16=if 16<=q then 12 else 0:=by
 unfold jg;rw[aI ah];by_cases e:16<=q
 ·rw[aM e,aM ah]
 ·rw[aI e,aI ah]
theorem LC(s:Pr)(d:ByteArray)(h:d.size<=40)(hq:16<=s.q.length):(s.put d).q=s.q:=by unfold Pr.put;rw[vH h,aM hq];rfl
theorem LZ(s:Pr)(d:ByteArray)(h:d.size<=40)(hq:s.q.length<16):(s.put d).q=s.q++[d]:=by
 have e:jg d.size s.q.length 16=0:=by rw[vH h,aI ah]
 unfold Pr.put;rw[e];show lu s.q d 0=s.q++[d];unfold lu;rw[aM rfl]
theorem Ig(k:Nat)(h:k<17):IntKind.i64.wrap (2^k)=wrap64 (2^k):=by have h1:(2:Nat)^k<=2^16:=aX ah ah;rw[iL k h];have h2:((2:Int)^k)=((2^k:Nat):Int):=ak;rw[h2];generalize(2:Nat)^k=x at h1;exact cJ _ ah
theorem FC{p:Pl}{tn:Nat}{f:mB}{c:Cl}{k:Nat}{l:Lk}(h:f.lk=k)(hl:p.lk[k]? =some l)(e:kZ l.t tn=true):iC p tn f c=if gS f.sq (c.tk k tn).nw then {c with tk:=fM c.tk k tn ((c.tk k tn).take f.sq),pr:=fM c.pr k tn ((c.pr k tn).put f.d)} else {c with tk:=fM c.tk k tn ((c.tk k tn).take f.sq)}:=by rw[Ab p tn c h hl e];split<;>rfl
theorem kH.rk{ι:Type}[DecidableEq ι]{w w':World}{base:Nat}{S:ι->GO}(h:kH w base S)(x:ι){t:TypeId}{v:Value}{l:List Value}(j:S x=.arr base t v l){u:Value}{g o cp:Nat}(s:fK w' base t (.slice (some ⟨g,o,none⟩) (l.length+1) cp) (l++[u]))(z:w.grownBy w' v.ownBlock)(E:v.ownBlock=some g\/w.heap.size<=g)(C:g<w'.heap.size)(I:base<=w.heap.size):kH w' base (kd S x (.arr base t (.slice (some ⟨g,o,none⟩) (l.length+1) cp) (l++[u])))/\jU w w' S (kd S x (.arr base t (.slice (some ⟨g,o,none⟩) (l.length+1) cp) (l++[u]))):=by refine h.step x _ (by rw[j];exact xH z) s (fun k hm=> ?_) I;rw[j];simp[GO.arr,Value.ownBlock] at hm;subst hm;exact⟨C,E.imp (fun e=>by simp[GO.arr,e]) id⟩
section
variable {a:vK}{p:Pl}{P:lz}{fy:Nat}{c:Cl}{na i:Nat}{nk:Nat->Nat}{base:Nat}
theorem wV{g gt:Nat}{v:Value}{k ns:Nat}(x:Mm)(s:c.mm k=x):kd (kd (kd (eM base a ⟨k,ns,na,nk⟩ p P fy c) (.xh k) (.mem g gt k p.nd.toNat x.m x.gd x.bd x.fz)) .nodA (.arr base 111 v ((List.range k).map (fun i=>fk (a.gm i))++[fk g]))) .im (.eW a.g 101 ((kV p P fy a.ck a.nd a.lk a.tm a.pm c.rd).setIfInBounds 12 v))=eM base {a with nd:=v,gm:=eV a.gm k g,gt:=eV a.gt k gt} ⟨k+1,ns,na,nk⟩ p P fy c:=by
 funext y;cases y with
  |im=>rfl
  |nodA=>rw[putG_ne _ ak,gP];show _=GO.arr base _ v _;rw[jW,ub];simp only[fB]
  |xh j=>
   rw[putG_ne _ ak,putG_ne _ ak];by_cases e:j=k
   ·subst e;rw[gP];subst s;simp[eM,fB]
   ·rw[putG_ne _ (by simpa using e)];by_cases h:j<k
    ·simp[eM,h,dm h,gj a.gm g e,gj a.gt gt e]
    ·simp[eM,h,show¬j<k+1 from ah]
  |_=>rw[putG_ne _ ak,putG_ne _ ak,putG_ne _ ak];rfl
theorem wN{g:Nat}{v:Value}{k nm:Nat}{l:Lk}(hl:p.lk[k]? =some l)(hs:c.sd k=⟨0,-1,0,[]⟩):kd (kd (kd (eM base a ⟨nm,k,na,nk⟩ p P fy c) (.lnk k) (.snd base g (.slice none 0 0) l.b l.q 0 0 0 [])) .lnkA (.arr base 102 v ((List.range k).map (fun i=>fk (a.gs i))++[fk g]))) .im (.eW a.g 101 ((kV p P fy a.ck a.nd a.lk a.tm a.pm c.rd).setIfInBounds 13 v))=eM base {a with lk:=v,gs:=eV a.gs k g,vs:=eV a.vs k (.slice none 0 0),al:=eV a.al k [],wt:=eV a.wt k 0,ls:=eV a.ls k 0} ⟨nm,k+1,na,nk⟩ p P fy c:=by
 funext y;cases y with
  |im=>rfl
  |lnkA=>rw[putG_ne _ ak,gP];show _=GO.arr base _ v _;rw[jW,ub];simp only[fB]
  |lnk j=>
   rw[putG_ne _ ak,putG_ne _ ak];by_cases e:j=k
   ·subst e;rw[gP];simp[eM,fB,hl,hs]
   ·rw[putG_ne _ (by simpa using e)];by_cases h:j<k
    ·simp[eM,h,dm h,gj a.gs g e,gj a.vs (.slice none 0 0) e,gj a.al [] e,gj a.wt 0 e,gj a.ls 0 e]
    ·simp[eM,h,show¬j<k+1 from ah]
  |_=>rw[putG_ne _ ak,putG_ne _ ak,putG_ne _ ak];rfl
theorem wZ{g:Nat}{k nm ns:Nat}(hk:nk k=i)(h1:c.tk k i=⟨-1,0,0⟩)(l:List KV):kd (kd (eM base a ⟨nm,ns,na,nk⟩ p P fy c) (.nK k i) (.eW g 145 #[.int .i64 (-1),.int .i64 0,.int .i64 0])) .qQ (.mp a.tm l)=eM base {a with kt:=l,gk:=fM a.gk k i g} ⟨nm,ns,na,eV nk k (i+1)⟩ p P fy c:=by
 funext y;cases y with
  |qQ=>rfl
  |nK j q=>
   rw[putG_ne _ ak];by_cases e:j=k
   ·subst e;by_cases s:q=i
    ·subst s;rw[gP];simp[eM,fB,pJ,h1]
    ·rw[putG_ne _ (by simpa using s)];simp only[eM,fB,pD a.gk g s,hk];by_cases h:q<i
     ·rw[aM h,aM ah]
     ·rw[aI h,aI ah]
   ·rw[putG_ne _ (by simp[e])];simp only[eM,gj nk (i+1) e,qv a.gk g e]
  |_=>rw[putG_ne _ ak,putG_ne _ ak];rfl
end
def uE(g:Nat)(v:Value)(tm pm:Nat):vK:=⟨g,v,.slice none 0 0,.slice none 0 0,fun _=>0,fun _=>0,fun _=>0,fun _=> .slice none 0 0,fun _=>[],fun _=>0,fun _=>0,tm,[],fun _ _=>0,pm,[],fun _ _=> .slice none 0 0⟩
theorem CW{base g tm pm:Nat}{v:Value}{p:Pl}{P:lz}{fy:Nat}{c:Cl}{x:Qb}{k:Nat}(h:k∈(eM base (uE g v tm pm) rB p P fy c x).eX):(x=.im/\k=g)\/(x=.jb/\v.ownBlock=some k)\/(x=.qQ/\k=tm)\/(x=.pQ/\k=pm):=by cases x with|im=>simp[eM,GO.eW,uE] at h;exact .inl ⟨rfl,h⟩|jb=>simp[eM,GO.arr,uE] at h;exact .inr (.inl ⟨rfl,h⟩)|nodA=>simp[eM,GO.arr,uE,Value.ownBlock] at h|xh i=>simp[eM,GO.none,rB] at h|lnkA=>simp[eM,GO.arr,uE,Value.ownBlock] at h|lnk i=>simp[eM,GO.none,rB] at h|qQ=>simp[eM,GO.mp,uE] at h;exact .inr (.inr (.inl ⟨rfl,h⟩))|nK i j=>simp[eM,GO.none,rB] at h|pQ=>simp[eM,GO.mp,uE] at h;exact .inr (.inr (.inr ⟨rfl,h⟩))|prt i j=>simp[eM,GO.arr,uE,Value.ownBlock] at h
theorem Hj{w8:World}{base tm pm:Nat}{p:Pl}{P:lz}{fy:Nat}{v:Value}{zs:List Int}(hq:fK w8 base 3 v (zs.map (Value.int .i64)))(C: ∀k,v.ownBlock=some k->base<=k/\k<w8.heap.size)(z:jP w8 tm [])(hp:jP w8 pm [])(X:base<=tm)(T:base<=pm)(U:tm≠pm)(E:v.ownBlock≠some tm)(I:v.ownBlock≠some pm)(K:base<=w8.heap.size):fY (w8.alloc (.cells (kV p P fy v (.slice none 0 0) (.slice none 0 0) tm pm 0) 101)) base (uE w8.heap.size v tm pm) rB p P fy (gG p zs) 0:=by
 have hB:Below w8.heap.size w8 (w8.alloc (.cells (kV p P fy v (.slice none 0 0) (.slice none 0 0) tm pm 0) 101)):=(au).alloc (ar) _;refine⟨⟨fun x=> ?_,fun x k h=> ?_,fun x y k J O=> ?_⟩,⟨fun k h=>absurd h (by simp[rB]),fun k h=>absurd h (by simp[rB]),fun k i h=>absurd h (by simp[rB]),fun k i=>rfl⟩⟩
 ·cases x with|im=>exact eN.new w8 _ _|jb=>exact hq.alloc _|nodA=>exact fK.nil _ _ _|xh i=>simp[eM,rB,GO.none]|lnkA=>exact fK.nil _ _ _|lnk i=>simp[eM,rB,GO.none]|qQ=>exact z.iP (hB.block _ z.lt)|nK i j=>simp[eM,rB,GO.none]|pQ=>exact hp.iP (hB.block _ hp.lt)|prt i j=>exact fK.nil _ _ _
 ·have h1:=z.lt;have h2:=hp.lt;rcases CW h with ⟨_,rfl⟩|⟨_,e⟩|⟨_,rfl⟩|⟨_,rfl⟩
  ·simp;exact K
  ·have:=C k e;simp;omega
  ·simp;omega
  ·simp;omega
 ·have h1:=z.lt;have h2:=hp.lt;rcases CW J with ⟨rfl,u⟩|⟨rfl,u⟩|⟨rfl,u⟩|⟨rfl,u⟩<;>rcases CW O with ⟨rfl,s⟩|⟨rfl,s⟩|⟨rfl,s⟩|⟨rfl,s⟩
  ·rfl
  ·have:=C k s;omega
  ·omega
  ·omega
  ·have:=C k u;omega
  ·rfl
  ·subst s;exact absurd u E
  ·subst s;exact absurd u I
  ·omega
  ·subst u;exact absurd s E
  ·rfl
  ·omega
  ·omega
  ·subst u;exact absurd s I
  ·omega
  ·rfl
section
variable {a:vK}{p:Pl}{P:lz}{fy M:Nat}{c:Cl}{na ns nm k i gx gt g o cp:Nat}{nk:Nat->Nat}{w w' w2 w3:World}{base:Nat}
theorem fY.NP(h:fY w base a ⟨k,ns,na,nk⟩ p P fy c M)(C:base<=w.heap.size){x:Mm}(Y:c.mm k=x)(hB:Below w.heap.size w w')(h1:eN w' gx 114 (mJ k p.nd.toNat gt x.gd x.bd x.fz))(h2:eN w' gt 4 (rj p.nd.toNat (x.m.testBit ·)))(O:gx≠gt)(U:w.heap.size<=gx)(E:w.heap.size<=gt)(e:Below w'.heap.size w' w2)(J:fK w3 base 111 (.slice (some ⟨g,o,none⟩) (k+1) cp) ((List.range k).map (fun i=>fk (a.gm i))++[fk gx]))(s:w2.grownBy w3 a.nd.ownBlock)(T:a.nd.ownBlock=some g\/w2.heap.size<=g)(K:g<w3.heap.size):fY (w3.setCell ⟨a.g,12,none⟩ (.slice (some ⟨g,o,none⟩) (k+1) cp)) base {a with nd:=.slice (some ⟨g,o,none⟩) (k+1) cp,gm:=eV a.gm k gx,gt:=eV a.gt k gt} ⟨k+1,ns,na,nk⟩ p P fy c M/\jU w (w3.setCell ⟨a.g,12,none⟩ (.slice (some ⟨g,o,none⟩) (k+1) cp)) (eM base a ⟨k,ns,na,nk⟩ p P fy c) (eM base {a with nd:=.slice (some ⟨g,o,none⟩) (k+1) cp,gm:=eV a.gm k gx,gt:=eV a.gt k gt} ⟨k+1,ns,na,nk⟩ p P fy c):=by
 obtain⟨f1,aa⟩:=h.gJ.add (.xh k) (.mem gx gt k p.nd.toNat x.m x.gd x.bd x.fz) hB ⟨h1,h2,O⟩ (fun q hm=>by
  simp only[GO.mem,bR,cC,ec] at hm;rcases hm with rfl|rfl
  ·exact⟨h1.lt,U⟩
  ·exact⟨h2.lt,E⟩) C
 have z:base<=w2.heap.size:=aK C (aK hB.size e.size);have f2:=f1.below e;have Z:=aa.below e;obtain⟨f3,I⟩:=f2.rk .nodA (v:=a.nd) (l:=(List.range k).map (fun i=>fk (a.gm i))) (by rw[putG_ne _ ak];rfl) (u:=fk gx) (g:=g) (o:=o) (cp:=cp) (by simpa using J) s T K z;obtain⟨f4,X⟩:=f3.nb .im (g:=a.g) (by rw[putG_ne _ ak,putG_ne _ ak];rfl) 12 (.slice (some ⟨g,o,none⟩) (k+1) cp) (aK z s.size);have j:=(Z.trans I).trans X;simp only[aY,br] at f4 j;rw[wV x Y] at f4 j;exact⟨⟨f4,h.rel.sd,h.rel.al,h.rel.tk,h.rel.pr⟩,j⟩
theorem fY.Nv(h:fY w base a ⟨nm,k,na,nk⟩ p P fy c M)(K:base<=w.heap.size){l:Lk}(hl:p.lk[k]? =some l)(hs:c.sd k=⟨0,-1,0,[]⟩)(hB:Below w.heap.size w w')(J:eN w' gx 142 (Bz l.b l.q (.slice none 0 0) 0 0 0))(Y:w.heap.size<=gx)(s:Below w'.heap.size w' w2)(T:fK w3 base 102 (.slice (some ⟨g,o,none⟩) (k+1) cp) ((List.range k).map (fun i=>fk (a.gs i))++[fk gx]))(E:w2.grownBy w3 a.lk.ownBlock)(X:a.lk.ownBlock=some g\/w2.heap.size<=g)(U:g<w3.heap.size):fY (w3.setCell ⟨a.g,13,none⟩ (.slice (some ⟨g,o,none⟩) (k+1) cp)) base {a with lk:=.slice (some ⟨g,o,none⟩) (k+1) cp,gs:=eV a.gs k gx,vs:=eV a.vs k (.slice none 0 0),al:=eV a.al k [],wt:=eV a.wt k 0,ls:=eV a.ls k 0} ⟨nm,k+1,na,nk⟩ p P fy c M/\jU w (w3.setCell ⟨a.g,13,none⟩ (.slice (some ⟨g,o,none⟩) (k+1) cp)) (eM base a ⟨nm,k,na,nk⟩ p P fy c) (eM base {a with lk:=.slice (some ⟨g,o,none⟩) (k+1) cp,gs:=eV a.gs k gx,vs:=eV a.vs k (.slice none 0 0),al:=eV a.al k [],wt:=eV a.wt k 0,ls:=eV a.ls k 0} ⟨nm,k+1,na,nk⟩ p P fy c):=by
 obtain⟨f1,ac⟩:=h.gJ.add (.lnk k) (.snd base gx (.slice none 0 0) l.b l.q 0 0 0 []) hB ⟨J,fK.nil _ _ _,by simp[Value.ownBlock]⟩ (fun q hm=>by simp[GO.snd,Value.ownBlock] at hm;subst hm;exact⟨J.lt,Y⟩) K;have I:base<=w2.heap.size:=aK K (aK hB.size s.size);have f2:=f1.below s;have aa:=ac.below s;obtain⟨f3,O⟩:=f2.rk .lnkA (v:=a.lk) (l:=(List.range k).map (fun i=>fk (a.gs i))) (by rw[putG_ne _ ak];rfl) (u:=fk gx) (g:=g) (o:=o) (cp:=cp) (by simpa using T) E X U I;obtain⟨f4,Z⟩:=f3.nb .im (g:=a.g) (by rw[putG_ne _ ak,putG_ne _ ak];rfl) 13 (.slice (some ⟨g,o,none⟩) (k+1) cp) (aK I E.size);have z:=(aa.trans O).trans Z;simp only[aY,br] at f4 z;rw[wN hl hs] at f4 z;refine⟨⟨f4,fun j C=> ?_,fun j C=> ?_,h.rel.tk,h.rel.pr⟩,z⟩
 ·dsimp only;by_cases e:j=k
  ·subst e;rw[fB,fB,fB,hs];exact lg.start
  ·rw[gj _ _ e,gj _ _ e,gj _ _ e];exact h.rel.sd j (by dsimp only at C⊢;omega)
 ·dsimp only;by_cases e:j=k
  ·subst e;rw[fB];simp
  ·rw[gj _ _ e];exact h.rel.al j (by dsimp only at C⊢;omega)
theorem fY.Oj(h:fY w base a ⟨nm,ns,na,nk⟩ p P fy c M)(I:base<=w.heap.size)(hk:nk k=i)(h1:c.tk k i=⟨-1,0,0⟩)(hB:Below w.heap.size w w')(E:eN w' gx 145 #[.int .i64 (-1),.int .i64 0,.int .i64 0])(O:w.heap.size<=gx)(hm:jP w3 a.tm (ph k i (fk gx) a.kt))(K:w'.grownBy w3 (some a.tm)):fY w3 base {a with kt:=ph k i (fk gx) a.kt,gk:=fM a.gk k i gx} ⟨nm,ns,na,eV nk k (i+1)⟩ p P fy c M/\jU w w3 (eM base a ⟨nm,ns,na,nk⟩ p P fy c) (eM base {a with kt:=ph k i (fk gx) a.kt,gk:=fM a.gk k i gx} ⟨nm,ns,na,eV nk k (i+1)⟩ p P fy c):=by
 obtain⟨f1,X⟩:=h.gJ.add (.nK k i) (.eW gx 145 #[.int .i64 (-1),.int .i64 0,.int .i64 0]) hB E (fun q hm=>by simp only[GO.eW,bO] at hm;subst hm;exact⟨E.lt,O⟩) I;have T:base<=w'.heap.size:=aK I hB.size;have z:kd (eM base a ⟨nm,ns,na,nk⟩ p P fy c) (.nK k i) (.eW gx 145 #[.int .i64 (-1),.int .i64 0,.int .i64 0]) .qQ=.mp a.tm a.kt:=by rw[putG_ne _ ak];rfl
 obtain⟨f2,U⟩:=f1.step .qQ (.mp a.tm (ph k i (fk gx) a.kt)) (w':=w3) (by rw[z];exact nU K) hm (fun q C=>by rw[z];simp only[GO.mp,bO] at C⊢;subst C;exact⟨hm.lt,.inl rfl⟩) T;have J:=X.trans U;rw[wZ hk h1] at f2 J;refine⟨⟨f2,h.rel.sd,h.rel.al,fun s i2 h2=> ?_,h.rel.pr⟩,J⟩;dsimp only at h2⊢;rw[vO];unfold fM;by_cases e:s=k
 ·subst e;rw[fB] at h2;by_cases u:i2=i
  ·subst u;rw[aM ⟨rfl,rfl⟩,aM ⟨rfl,rfl⟩]
  ·rw[aI (fun j=>u j.2),aI (fun j=>u j.2)];exact h.rel.tk s i2 (by dsimp only;omega)
 ·rw[gj _ _ e] at h2;rw[aI (fun j=>e j.1),aI (fun j=>e j.1)];exact h.rel.tk s i2 h2
theorem fY.Mk{n:Cn}(h:fY w base a n p P fy c M)(hB:Below w.heap.size w w2)(j:w2.grownBy w3 a.nd.ownBlock):eN w3 a.g 101 (kV p P fy a.ck a.nd a.lk a.tm a.pm c.rd):=(h.gA.below hB h.gA.lt).grown j (fun e=>by have:=h.gJ.sep .im .nodA a.g (by simp[eM,GO.eW]) (by simp[eM,GO.arr,<-e]);cases this)
theorem fY.KG{n:Cn}(h:fY w base a n p P fy c M)(hB:Below w.heap.size w w2)(j:w2.grownBy w3 a.lk.ownBlock):eN w3 a.g 101 (kV p P fy a.ck a.nd a.lk a.tm a.pm c.rd):=(h.gA.below hB h.gA.lt).grown j (fun e=>by have:=h.gJ.sep .im .lnkA a.g (by simp[eM,GO.eW]) (by simp[eM,GO.arr,<-e]);cases this)
theorem fY.Py{j:Nat}(h:fY w base a ⟨nm,ns,na,nk⟩ p P fy c M):fY w base a ⟨nm,ns,j,nk⟩ p P fy c M:=by
 have e:eM base a ⟨nm,ns,na,nk⟩ p P fy c=eM base a ⟨nm,ns,j,nk⟩ p P fy c:=by funext y;cases y<;>rfl
 exact⟨e▸h.gJ,h.rel.sd,h.rel.al,h.rel.tk,h.rel.pr⟩
theorem tH{b:Nat}{n:Cn}(x:Qb):(eM b a n p P fy c x).eX=(eM base a n p P fy c x).eX:=by
 cases x with
  |lnk k=>
   simp only[eM];split
   ·cases p.lk[k]? <;>rfl
   ·rfl
  |_=>rfl
theorem zI{b:Nat}{n:Cn}(e:b<=base)(x:Qb)(h:(eM base a n p P fy c x).At w):(eM b a n p P fy c x).At w:=by
 cases x with
  |jb=>exact fK.mono h e
  |nodA=>exact fK.mono h e
  |lnkA=>exact fK.mono h e
  |prt k i=>exact fK.mono h e
  |lnk k=>
   simp only[eM] at h⊢;split
   ·rename_i hk;rw[aM hk] at h;cases hl:p.lk[k]? with|none=>rw[hl] at h;exact h|some l=>rw[hl] at h;exact⟨h.1,fK.mono h.2.1 e,h.2.2⟩
   ·rename_i hk;rw[aI hk] at h;exact h
  |_=>exact h
theorem fY.mono{b:Nat}{n:Cn}(h:fY w base a n p P fy c M)(s:b<=base):fY w b a n p P fy c M:=⟨⟨fun x=>zI s x (h.gJ.at_ x),fun x k hm=>by rw[tH (base:=base)] at hm;have:=h.gJ.own x k hm;exact⟨aK s this.1,this.2⟩,fun x y k e j=>by rw[tH (base:=base)] at e j;exact h.gJ.sep x y k e j⟩,h.rel⟩
theorem fY.iI{n:Cn}{q:Addr}(h:fY w base a n p P fy c M)(hq:q.block<base)(v:Value):fY (w.setCell q v) base a n p P fy c M:=⟨h.gJ.iI (fun⟨x,e⟩=>by have:=(h.gJ.own x _ e).1;omega) v,h.rel⟩
end
end Go.Proofs.YtideefjnlakciaaGreatDoor
