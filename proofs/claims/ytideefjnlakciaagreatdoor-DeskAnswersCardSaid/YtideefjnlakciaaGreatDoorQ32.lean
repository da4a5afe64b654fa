/- The cluster and the document's, beside each other in memory: what a step of one leaves of the other; no condition. -/
import Derived.Test.YtideefjnlakciaaGreatDoorQ00
import Derived.Test.YtideefjnlakciaaGreatDoorQ27
import Derived.Test.YtideefjnlakciaaGreatDoorQ31
import Derived.Test.YtideefjnlakciaaGreatDoorQ21
import Derived.Test.YtideefjnlakciaaGreatDoorQ23
import Derived.Test.YtideefjnlakciaaGreatDoorQ20
import Derived.Test.YtideefjnlakciaaGreatDoorQ26
import Derived.Test.YtideefjnlakciaaGreatDoorQ04
import Derived.Test.YtideefjnlakciaaGreatDoorQ13
import Derived.Test.YtideefjnlakciaaGreatDoorQ22
import Derived.Test.YtideefjnlakciaaGreatDoorQ12
import Derived.BigRegion
import Derived.Laws.OwnMore
import Derived.Deep.RegionHeld3
set_option maxRecDepth 1000000
set_option maxHeartbeats 20000000
set_option linter.unusedVariables false
set_option linter.unusedSimpArgs false
namespace Go.Proofs.YtideefjnlakciaaGreatDoor
open Go.RowKit Go.Proofs.Tryz
section
variable {w0 w w' w1:World}{base ga gb:Nat}{p:Pl}{P:lz}{fy M M' N:Nat}{x y x1 y1:Cl}{bs:List Nat}
end
section
attribute [local irreducible] fu
section
variable {w:World}{base:Nat}{a:vK}{p:Pl}{P:lz}{fy M:Nat}{c:Cl}
theorem FQ(h:fY w base a (eO p) p P fy c M)(hp:gl p)(i k:Int)(hk:i<0\/p.nd<=i\/k<0\/(p.lk.length:Int)<=k):Calls prog 33 #[.pointer (some ⟨a.g,0,none⟩),.int .i64 i,.int .i64 k] w fun e w'=>e=.returned (.tuple #[.string ⟨#[]⟩,.int .i64 2])/\Below w.heap.size w w':=by
 have O:=hp.lk;have h16:=hp.n16;have h1:=hp.n1;have z:=h.gA.cell 13;have K:=h.gA.cell 0;simp[kV] at z K;obtain⟨ao,cp,e,-⟩:=(h.gJ.at_ .lnkA:fK w base 102 a.lk ((List.range (eO p).ns).map fun i=>fk (a.gs i))).shape;rw[aY,br] at e;obtain⟨nl,s⟩:=ab p.lk.length;have C:(eO p).ns=nl:=s;rw[C] at e;rw[e] at z;rw[s] at hk O;obtain⟨nd,T⟩: ∃nd,p.nd.toNat=nd:=⟨_,rfl⟩;have J:p.nd=(nd:Int):=ah;rw[J] at K hk h16 h1;obtain⟨v1,j⟩: ∃v,ij i 0 ((nd:Int)-1)=v:=⟨_,rfl⟩;obtain⟨v2,u⟩: ∃v,ij k 0 ((nl:Int)-1)=v:=⟨_,rfl⟩;have I:=eJ (fun W=>sQ i 0 ((nd:Int)-1) v1 j W);have E:=eJ (fun W=>sQ k 0 ((nl:Int)-1) v2 u W);have U:v1=false\/(v1=true/\v2=false):=by
  cases v1
  ·exact .inl rfl
  ·refine .inr ⟨rfl, ?_⟩;rw[<-u];unfold ij at j⊢;simp at j⊢;omega
 clear h s e C T J j u hk;go_enter func33,ntmps33;rcases U with rfl|⟨rfl,rfl⟩
 ·go_wp2_with fail;go_quiet ((go_at_call 31;first|(with_reducible exact bc (I.out _))|(with_reducible exact bc (E.out _))));go_wp2_with fail;go_ret2;exact⟨rfl,below_drewN (au) _⟩
 ·go_wp2_with fail;go_quiet ((go_at_call 31;first|(with_reducible exact bc (I.out _))|(with_reducible exact bc (E.out _))));go_wp2_with fail;go_ret2;exact⟨rfl,below_drewN (au) _⟩
end
end
section
variable {m k:Nat}{w0 w w1:World}{g:Nat}{d:Dk}{L:Lh}{v:Value}{l:List Int}
theorem CH (h:jF m k w0 w w1 g d L v l) (A:Option Addr) (ws:List ByteArray) (c:Nat) (hn:eU ws 2=some l):Calls prog 15 #[.pointer (some ⟨g,0,none⟩),.string ⟨#[114,101,99,101,105,118,101]⟩,.slice A ws.length c,v] w1 (mx m w0 w g L (kS d ws)):=by
 obtain⟨u,x1,gk,cp,rfl,rfl,ac,n1,b7,b4⟩:=M7 h.own ((fg hn).1 ah)
 cases hd:d.c with
 |none=>
  have bv:=eJ (h.bad (x:=kS d ws) ((eL hn).trans (fZ hd)) aj ⟨#[]⟩ (au))
  exact(lU ak (h.none_ hd) _ _).mono (by rintro r w2 ⟨rfl,rfl⟩;exact bv.out)
 |some y=>
  obtain⟨gc,M,bs,z,hM,ad,bf,hG,a4,bd,Z⟩:=h.dk.DK (fy:=y.1) (c:=y.2) hd h.hB h.lt
  have jk:=h.some_ bf
  obtain⟨a5,bb,b3,bi,bx,a0⟩:=h.ok.im y hd
  have hp:=gl.of a5
  have ca:=hp.n1
  have cc:=hp.n16
  have b5:=h.hk;have b6:=h.hm
  have b9:=hp.lk
  have a2:{d with c:=some (y.1,y.2)}=d:=by
   have:d.c=some (y.1,y.2):=hd
   cases d
   simp only at this
   rw[this]
  have ao:=bd gk ah (fun hF=>by have:=(h.dk.lo (.inr (.inr hF))).2;omega)
  obtain⟨b8,cs,AL,cl,bw,a3,-,aA,-⟩:=qk (w:=z) h.ok.wn a4
  have a8 : Hid (∃ (E : Int) (s : ByteArray), (s.size ≤ 1000) ∧ ∀ W : World, (∃ n, W = w1.drewN n) → Calls prog 33 #[.pointer (some ⟨gc, 0, none⟩), .int .i64 u, .int .i64 x1] W fun e w' => e = .returned (.tuple #[.string s, .int .i64 E]) ∧ Hid (mx m w0 w g L (kS d ws) (.returned (.tuple #[.string (MG s), .int .i64 E])) w') ∧ Hid (w'.cell? ⟨gk, 0, none⟩ = some (.int .i64 u) ∧ w'.cell? ⟨gk, 1, none⟩ = some (.int .i64 x1))) := eJ (by
   have C : kS d ws = (if u < 0 ∨ d.p.nd ≤ u ∨ x1 < 0 then (⟨.error 2, d⟩ : jM) else match d.p.lk[x1.toNat]? with
    |none=>⟨.error 2,d⟩
    |some l=>if kZ l.t u.toNat=false then⟨.error 2,d⟩ else match (y.2.pr x1.toNat u.toNat).q with
     |[]=>⟨.error 8,d⟩
     | x :: _ => ⟨.ok (MG x), { d with c := some (y.1, lJ x1.toNat u.toNat y.2) }⟩) := (eL hn).trans (fF hd)
   have U: ∀(w':World) c',iJ z w' z.heap.size gc d.p ⟨L.v 0,L.v 1,.slice none 0 0⟩ y.1 c' M w1 bs→w'.cell? ⟨gk,0,none⟩=some (.int .i64 u)∧w'.cell? ⟨gk,1,none⟩=some (.int .i64 x1):=fun w' c' O=>⟨(fj (O.heap ao) 0).trans ac,(fj (O.heap ao) 1).trans n1⟩
   have am: ∀(w':World) (E:Int),E≠0→kS d ws=⟨.error E,d⟩→iJ z w' z.heap.size gc d.p ⟨L.v 0,L.v 1,.slice none 0 0⟩ y.1 y.2 M w1 bs→mx m w0 w g L (kS d ws) (.returned (.tuple #[.string (MG ⟨#[]⟩),.int .i64 E])) w':=fun w' E bt X O=>by
    rw[X]
    have:=Z w' _ _ (m+1) ah ad O
    rw[a2] at this
    exact⟨⟨_,_,rfl,rfl,bt⟩,this⟩
   obtain⟨a,rfl,hA2,bn,a7,ap⟩:=hG
   have K: ∀n,fY (w1.drewN n) z.heap.size a (eO d.p) d.p ⟨L.v 0,L.v 1,.slice none 0 0⟩ y.1 y.2 M∧Below z.heap.size z (w1.drewN n)∧z.heap.size≤(w1.drewN n).heap.size∧∀b∈bs,b<(w1.drewN n).heap.size∧¬wM (eM z.heap.size a (eO d.p) d.p ⟨L.v 0,L.v 1,.slice none 0 0⟩ y.1 y.2) b∧(w1.drewN n).heap[b]? =w1.heap[b]? :=fun n=>
    have hB:=below_drewN (Below.refl w1.heap.size w1) n
    ⟨hA2.below hB,bn.trans (hB.mono a7),a7,fun b J=>⟨(ap b J).1,(ap b J).2.1,rfl⟩⟩
   have a9: ∀n,(u<0∨d.p.nd≤u∨x1<0∨(d.p.lk.length:Int)≤x1)→kS d ws=⟨.error 2,d⟩→Calls prog 33 #[.pointer (some ⟨a.g,0,none⟩),.int .i64 u,.int .i64 x1] (w1.drewN n) fun e w'=>e=.returned (.tuple #[.string ⟨#[]⟩,.int .i64 2])∧Hid (mx m w0 w g L (kS d ws) (.returned (.tuple #[.string (MG ⟨#[]⟩),.int .i64 2])) w')∧Hid (w'.cell? ⟨gk,0,none⟩=some (.int .i64 u)∧w'.cell? ⟨gk,1,none⟩=some (.int .i64 x1)):=fun n bj X=>by
    obtain⟨Y,be,bq,b2⟩:=K n
    refine(FQ Y hp u x1 bj).mono ?_
    rintro e w' ⟨he,bl⟩
    have O:iJ z w' z.heap.size a.g d.p ⟨L.v 0,L.v 1,.slice none 0 0⟩ y.1 y.2 M w1 bs:=iJ.vB rfl Y be bq b2 (sL.refl Y bl)
    exact⟨he,eJ (am w' 2 aj X O),eJ (U w' _ O)⟩
   by_cases h0:u<0∨d.p.nd≤u∨x1<0
   ·exact⟨2,⟨#[]⟩,aj,fun W ⟨n,e⟩=>by subst e;exact a9 n ah (by rw[C,aM h0])⟩
   cases hl:d.p.lk[x1.toNat]? with
   |none=>
    have:d.p.lk.length≤x1.toNat:=dq.1 hl
    exact⟨2,⟨#[]⟩,aj,fun W ⟨n,e⟩=>by subst e;exact a9 n ah (by rw[C,aI h0,hl])⟩
   |some lk=>
    obtain⟨i,rfl⟩:=aZ (show 0≤u from ah)
    obtain⟨aa,rfl⟩:=aZ (show 0≤x1 from ah)
    simp only[bU] at hl C
    rw[aI h0,hl] at C
    dsimp only at C
    have al: ∀n,_:=fun n=>F5 (w1.drewN n) z AL cl a3 (K n).1 hp bb aA (K n).2.1 (ar) (K n).2.2.1 aa i lk hl ah
    have T: ∀n w' c',sL (w1.drewN n) z.heap.size a (eO d.p) d.p ⟨L.v 0,L.v 1,.slice none 0 0⟩ y.1 y.2 w' c' M→iJ z w' z.heap.size a.g d.p ⟨L.v 0,L.v 1,.slice none 0 0⟩ y.1 c' M w1 bs:=fun n w' c' I=> .vB rfl (K n).1 (K n).2.1 (K n).2.2.1 (K n).2.2.2 I
    by_cases J:kZ lk.t i=false
    ·rw[aM J] at C
     refine⟨2,⟨#[]⟩,aj,fun W ⟨n,e⟩=> ?_⟩
     subst e
     refine(al n).mono ?_
     rintro e w' (⟨_,he,I⟩|⟨h1,_⟩|⟨h1,_⟩)
     ·exact⟨he,eJ (am w' 2 aj C (T n w' _ I)),eJ (U w' _ (T n w' _ I))⟩
     ·rw[J] at h1;cases h1
     ·rw[J] at h1;cases h1
    ·rw[aI J] at C
     cases hq:(y.2.pr aa i).q with
     |nil=>
      rw[hq] at C
      dsimp only at C
      refine⟨8,⟨#[]⟩,aj,fun W ⟨n,e⟩=> ?_⟩
      subst e
      refine(al n).mono ?_
      rintro e w' (⟨h1,_⟩|⟨_,_,he,I⟩|⟨_,s,q,h1,_⟩)
      ·exact absurd h1 J
      ·exact⟨he,eJ (am w' 8 aj C (T n w' _ I)),eJ (U w' _ (T n w' _ I))⟩
      ·rw[hq] at h1;cases h1
     |cons s q=>
      rw[hq] at C
      dsimp only at C
      refine⟨0,s, ?_,fun W ⟨n,e⟩=> ?_⟩
      ·have:=a0 aa i s (by rw[hq];simp)
       omega
      ·subst e
       refine(al n).mono ?_
       rintro e w' (⟨h1,_⟩|⟨_,h1,_⟩|⟨_,s2,be,h1,he,I⟩)
       ·exact absurd h1 J
       ·rw[hq] at h1;cases h1
       ·rw[hq] at h1
        cases h1
        exact ⟨he, eJ (mx.fe C (Z w' _ _ _ ah (fun j => ad j) (T n w' _ I))), eJ (U w' _ (T n w' _ I))⟩)
  obtain⟨E,s,hs,a6⟩:=a8.out
  have bk:=eJ a6
  have cb: ¬9223372036854775807<3+s.size:=ah
  clear a8 a6 a4 bd Z ad hG a5 bb b3 bi bx a0 hp h hn bw a3 aA a2 ao
  go_enter func15,ntmps15
  go_wp2_with fail
  go_region_held3 (fun W=>W.cell? ⟨gk,0,none⟩=some (.int .i64 u)∧W.cell? ⟨gk,1,none⟩=some (.int .i64 x1)) (first|exact ⟨ac,n1⟩|exact bm.out)
   (first|(go_at_call 33;go_must (refine(bk.out _ ⟨1,rfl⟩).mono ?_);rintro r w6 ⟨rfl,bz,bm⟩))
  all_goals
   clear ac n1
   go_wp2_with fail
   go_ret2
   exact bz.out
end
section
variable {w0 w:World}{g k:Nat}{d:Dk}{L:Ly}{A:Option Addr}{ws:List ByteArray}
theorem P7{W:World}{G:Nat}{t:TypeId}{a0 a1 a2 a3 a4 a5 z s u a9 I C a12 E j b0 b1 b2 e J K:Value}(h:eN W G t #[a0,a1,a2,a3,a4,a5,z,s,u,a9,I,C,a12,E,j]):eN (((((((W.setCell ⟨G,0,none⟩ b0).setCell ⟨G,1,none⟩ b1).setCell ⟨G,2,none⟩ b2).setCell ⟨G,3,none⟩ e).setCell ⟨G,4,none⟩ J).setCell ⟨G,5,none⟩ K)) G t #[b0,b1,b2,e,J,K,z,s,u,a9,I,C,a12,E,j]:=by have h0:eN (W.setCell ⟨G,0,none⟩ b0) G t #[b0,a1,a2,a3,a4,a5,z,s,u,a9,I,C,a12,E,j]:=h.eS 0 b0;have h1:eN ((W.setCell ⟨G,0,none⟩ b0).setCell ⟨G,1,none⟩ b1) G t #[b0,b1,a2,a3,a4,a5,z,s,u,a9,I,C,a12,E,j]:=h0.eS 1 b1;have h2:eN (((W.setCell ⟨G,0,none⟩ b0).setCell ⟨G,1,none⟩ b1).setCell ⟨G,2,none⟩ b2) G t #[b0,b1,b2,a3,a4,a5,z,s,u,a9,I,C,a12,E,j]:=h1.eS 2 b2;have h3:eN ((((W.setCell ⟨G,0,none⟩ b0).setCell ⟨G,1,none⟩ b1).setCell ⟨G,2,none⟩ b2).setCell ⟨G,3,none⟩ e) G t #[b0,b1,b2,e,a4,a5,z,s,u,a9,I,C,a12,E,j]:=h2.eS 3 e;have h4:eN (((((W.setCell ⟨G,0,none⟩ b0).setCell ⟨G,1,none⟩ b1).setCell ⟨G,2,none⟩ b2).setCell ⟨G,3,none⟩ e).setCell ⟨G,4,none⟩ J) G t #[b0,b1,b2,e,J,a5,z,s,u,a9,I,C,a12,E,j]:=h3.eS 4 J;have h5:eN ((((((W.setCell ⟨G,0,none⟩ b0).setCell ⟨G,1,none⟩ b1).setCell ⟨G,2,none⟩ b2).setCell ⟨G,3,none⟩ e).setCell ⟨G,4,none⟩ J).setCell ⟨G,5,none⟩ K) G t #[b0,b1,b2,e,J,K,z,s,u,a9,I,C,a12,E,j]:=h4.eS 5 K;exact h5
theorem MU{W:World}{G:Nat}{b0 b1 b2 e h j:Value}:W.grownBy ((((((W.setCell ⟨G,0,none⟩ b0).setCell ⟨G,1,none⟩ b1).setCell ⟨G,2,none⟩ b2).setCell ⟨G,3,none⟩ e).setCell ⟨G,4,none⟩ h).setCell ⟨G,5,none⟩ j) (some G):=by have h0:W.grownBy (W.setCell ⟨G,0,none⟩ b0) (some G):=eQ (fw W (some G)) (.inl rfl) b0;have h1:W.grownBy ((W.setCell ⟨G,0,none⟩ b0).setCell ⟨G,1,none⟩ b1) (some G):=eQ (h0) (.inl rfl) b1;have h2:W.grownBy (((W.setCell ⟨G,0,none⟩ b0).setCell ⟨G,1,none⟩ b1).setCell ⟨G,2,none⟩ b2) (some G):=eQ (h1) (.inl rfl) b2;have h3:W.grownBy ((((W.setCell ⟨G,0,none⟩ b0).setCell ⟨G,1,none⟩ b1).setCell ⟨G,2,none⟩ b2).setCell ⟨G,3,none⟩ e) (some G):=eQ (h2) (.inl rfl) e;have h4:W.grownBy (((((W.setCell ⟨G,0,none⟩ b0).setCell ⟨G,1,none⟩ b1).setCell ⟨G,2,none⟩ b2).setCell ⟨G,3,none⟩ e).setCell ⟨G,4,none⟩ h) (some G):=eQ (h3) (.inl rfl) h;have h5:W.grownBy ((((((W.setCell ⟨G,0,none⟩ b0).setCell ⟨G,1,none⟩ b1).setCell ⟨G,2,none⟩ b2).setCell ⟨G,3,none⟩ e).setCell ⟨G,4,none⟩ h).setCell ⟨G,5,none⟩ j) (some G):=eQ (h4) (.inl rfl) j;exact h5
theorem DI{d d':Dk}(h1:d'.p.sl=d.p.sl)(h2:d'.p.lk=d.p.lk)(h3:d'.r=d.r)(j:Nat):ju d' j=ju d j/\iR d' j=iR d j:=by unfold ju iR;rw[h1,h2,h3];exact⟨rfl,rfl⟩
theorem Hg(h:iu w0 w g d L k A ws)(c:Nat):Calls prog 58 #[.pointer (some ⟨g,0,none⟩),.slice A ws.length c] w (qG w0 w g L (qe d ws)):=by
 have U:=eJ (h.jb (6) ah ah c);have H:=eJ h;clear h;go_enter func58,ntmps58;go_wp2_with fail;refine U.out.mono ?_;rintro r w1 ⟨⟨hn,rfl⟩|⟨l,v,hn,rfl,T⟩,K⟩;case inl=>have O:=eJ (H.out.bad (x:=qe d ws) (fJ hn) K);go_wp2_with fail;exact⟨rfl,O.out⟩
 obtain⟨s,x1,z,u,C,E,gk,cp,rfl,rfl,ad,n1,aA,a0,al,n5,ao,ac⟩:=MS T ((fg hn).1 ah);have j:=eJ K;have X:=eJ hn;have am:=eJ T;clear K hn T;cases hd:d.c with
  |some y=>obtain⟨a,b,jk,-⟩:=H.out.lx j.out hd;have I:=eJ (iz w1 (H.out.jK j.out).err g _ false jk rfl);have J:Hid (qe d ws=⟨.error 6,d⟩):=eJ ((eL X.out).trans (ma hd));clear jk;go_wp2_with fail;refine I.out.mono ?_;rintro r w2 ⟨rfl,Z⟩;have O:=eJ (H.out.bad J.out (j.out.trans (Z.mono j.out.size)));go_wp2_with fail;exact⟨rfl,O.out⟩
  |none=>
   have I:=eJ (jd w1 g none false (H.out.noCell j.out hd) rfl);have e:=eJ (H.out.dk.below j.out);have J:Hid (qe d ws=⟨.ok ⟨#[112,108,97,110]⟩,{d with p:={d.p with nd:=s,fa:=x1,sk:=z,ji:=u,dr:=C,rd:=E}}⟩):=eJ ((eL X.out).trans (jI hd));have ap:gk≠g:=by have:=H.out.dk.eW.lt;omega
   have c0:=e.out.eW.cell 0;have f0:=e.out.eW.frozen 0;have c1:=e.out.eW.cell 1;have f1:=e.out.eW.frozen 1;have c2:=e.out.eW.cell 2;have f2:=e.out.eW.frozen 2;have c3:=e.out.eW.cell 3;have f3:=e.out.eW.frozen 3;have c4:=e.out.eW.cell 4;have f4:=e.out.eW.frozen 4;have c5:=e.out.eW.cell 5;have f5:=e.out.eW.frozen 5;simp at c0 c1 c2 c3 c4 c5;go_wp2_with fail;refine I.out.mono ?_;rintro r w2 ⟨rfl,rfl⟩;clear I U;go_wp2_with fail;have Y:Hid (iN w0 w g L ((((((w2.setCell ⟨g,0,none⟩ (.int .i64 s)).setCell ⟨g,1,none⟩ (.int .i64 x1)).setCell ⟨g,2,none⟩ (.int .i64 z)).setCell ⟨g,3,none⟩ (.int .i64 u)).setCell ⟨g,4,none⟩ (.int .i64 C)).setCell ⟨g,5,none⟩ (.int .i64 E)) {d with p:={d.p with nd:=s,fa:=x1,sk:=z,ji:=u,dr:=C,rd:=E}}):=eJ (iN.after j.out (by have aa:eN ((((((w2.setCell ⟨g,0,none⟩ (.int .i64 s)).setCell ⟨g,1,none⟩ (.int .i64 x1)).setCell ⟨g,2,none⟩ (.int .i64 z)).setCell ⟨g,3,none⟩ (.int .i64 u)).setCell ⟨g,4,none⟩ (.int .i64 C)).setCell ⟨g,5,none⟩ (.int .i64 E)) g 37 (ic {d with p:={d.p with nd:=s,fa:=x1,sk:=z,ji:=u,dr:=C,rd:=E}} L):=P7 e.out.eW;exact e.out.put MU aa (DI rfl rfl rfl) hd hd));go_region;go_wp2_with fail;go_ret;rw[J.out];exact⟨rfl,Y.out.below (below_drewN (au) 1)⟩
end
section
variable {m k:Nat}{w0 w w1:World}{g:Nat}{d:Dk}{L:Lh}{v:Value}{l:List Int}
theorem KE(h:jF m k w0 w w1 g d L v l)(A:Option Addr)(ws:List ByteArray)(c:Nat)(hn:eU ws 6=some l):Calls prog 15 #[.pointer (some ⟨g,0,none⟩),.string ⟨#[112,108,97,110]⟩,.slice A ws.length c,v] w1 (mx m w0 w g L (qe d ws)):=by
 obtain⟨j,x1,u,s,z,C,gk,cp,rfl,rfl,U,n1,ac,ad,X,n5,Z,O⟩:=MS h.own ((fg hn).1 ah);cases hd:d.c with
  |some y=>obtain⟨gc,M,bs,T,-,-,E,-⟩:=h.dk.DK (fy:=y.1) (c:=y.2) hd h.hB h.lt;have K:=eJ (h.bad (x:=qe d ws) ((eL hn).trans (ma hd)) aj ⟨#[]⟩ (au));exact(ug ak (h.some_ E) _ _).mono (by rintro r w2 ⟨rfl,rfl⟩;exact K.out)
  |none=>
   have jk:=h.none_ hd;have J:Hid (qe d ws=⟨.ok ⟨#[112,108,97,110]⟩,{d with p:={d.p with nd:=j,fa:=x1,sk:=u,ji:=s,dr:=z,rd:=C}}⟩):=eJ ((eL hn).trans (jI hd));have H:=eJ h;have e:=eJ h.hs;have Y:=eJ h.own;clear h hn;have aa:gk≠g:=by have:=H.out.dk.eW.lt;omega
   have c0:=e.out.eW.cell 0;have f0:=e.out.eW.frozen 0;have c1:=e.out.eW.cell 1;have f1:=e.out.eW.frozen 1;have c2:=e.out.eW.cell 2;have f2:=e.out.eW.frozen 2;have c3:=e.out.eW.cell 3;have f3:=e.out.eW.frozen 3;have c4:=e.out.eW.cell 4;have f4:=e.out.eW.frozen 4;have c5:=e.out.eW.cell 5;have f5:=e.out.eW.frozen 5;simp at c0 c1 c2 c3 c4 c5;have I:Hid (iW (m+1) w0 w g L ((((((w1.setCell ⟨g,0,none⟩ (.int .i64 j)).setCell ⟨g,1,none⟩ (.int .i64 x1)).setCell ⟨g,2,none⟩ (.int .i64 u)).setCell ⟨g,3,none⟩ (.int .i64 s)).setCell ⟨g,4,none⟩ (.int .i64 z)).setCell ⟨g,5,none⟩ (.int .i64 C)) {d with p:={d.p with nd:=j,fa:=x1,sk:=u,ji:=s,dr:=z,rd:=C}}):=eJ ((iW.after H.out.hB (e.out.put MU (d':={d with p:={d.p with nd:=j,fa:=x1,sk:=u,ji:=s,dr:=z,rd:=C}}) (P7 e.out.eW) (DI rfl rfl rfl) hd hd)).mono (aw));go_enter func15,ntmps15;go_wp2_with fail;go_region;go_wp2_with fail;go_ret2;exact mx.fe J.out (I.out.below (below_drewN (au) 1))
end
theorem BB{w:World}{g:Nat}{t:TypeId}{cs:List Value}(h:eN w g t cs.toArray){base n:Nat}(e:base<=g)(hn:cs.length=n)(hm:n<=maxLen):w.ownsRow base t 1 (.slice (some ⟨g,0,none⟩) n n) n cs:=by refine⟨ah,.inr ⟨g,n,cs.toArray,rfl,e,h,ar,hm,by simp[hn], ?_⟩⟩;rw[Nat.mul_one,<-hn];simp
theorem rG{w:World}{g:Nat}{t:TypeId}{cs:List Value}(h:eN w g t cs.toArray): ∀j u,cs[j]? =some u->w.cell? ((⟨g,0,none⟩:Addr).add j)=some u:=by
 intro j u hu;have:(⟨g,0,none⟩:Addr).add j=⟨g,j,none⟩:=by unfold Addr.add;split<;>simp_all
 rw[this,h.cell j];simpa using hu
theorem rT{w w':World}{base size n:Nat}{e:TypeId}{v:Value}{xs:List Value}(h:w.ownsRow base e size v n xs)(hk: ∀g,base<=g->g<w.heap.size->w'.heap[g]? =w.heap[g]?):w'.ownsRow base e size v n xs:=by
 obtain⟨hl,h|⟨g,cap,cur,u,j,s,r⟩⟩:=h
 ·exact⟨hl,.inl h⟩
 ·exact⟨hl,.inr ⟨g,cap,cur,u,j,by rw[hk g j (aS.1 s).1];exact s,r⟩⟩
theorem Ef{w:World}{base size n:Nat}{e:TypeId}{v:Value}{xs:List Value}(h:w.ownsRow base e size v n xs): ∀k,v.ownBlock=some k->base<=k/\k<w.heap.size:=by
 intro k e;obtain⟨_,⟨rfl,_⟩|⟨g,cap,cur,rfl,j,s,_⟩⟩:=h
 ·simp[Value.ownBlock] at e
 ·simp[Value.ownBlock] at e;subst e;exact⟨j,(aS.1 s).1⟩
theorem MV{w:World}{b e n:Nat}{t:TypeId}{v:Value}{xs:List Value}(h:w.ownsRow b t 1 v n xs)(z:e<=b):w.ownsRow e t 1 v n xs:=⟨h.1,h.2.imp id fun⟨g,cap,cur,j,s,u⟩=>⟨g,cap,cur,j,aK z s,u⟩⟩
theorem vT{w:World}{base n:Nat}{e:TypeId}{v:Value}{xs:List Value}(h:w.ownsRow base e 1 v n xs)(hn:0<n): ∃g c,v=.slice (some ⟨g,0,none⟩) n c/\base<=g/\g<w.heap.size/\n<=c/\∀j u,xs[j]? =some u->w.cell? ((⟨g,0,none⟩:Addr).add j)=some u:=by
 obtain⟨hl,⟨rfl,rfl⟩|⟨g,cap,cur,rfl,z,s,hn,hm,hs,C⟩⟩:=h
 ·omega
 ·refine⟨g,cap,rfl,z,(aS.1 s).1,hn,fun j u hu=> ?_⟩;have:(⟨g,0,none⟩:Addr).add j=⟨g,j,none⟩:=by unfold Addr.add;split<;>simp_all
  rw[this,dC w g j cur e (0,0) s,<-hu,<-C];have E:j<xs.length:=(aQ.1 hu).1;rw[dh,aM ah];simp
theorem GI(l:List Nat): ∀u∈pU l,u.oneCell'=true:=by intro u hu;obtain⟨n,_,rfl⟩:=cX.1 hu;rfl
theorem wu(n:Nat):0<(kU n).length:=by cases h:kU n with|nil=>exact absurd h (LD n)|cons a l=>simp
theorem BQ(n:Nat)(h:n<128^10):(kU n).length<=10:=by exact so n 10 ah h
theorem uh{w w1 w2:World}{B:Nat}{row:Option Nat}(h:Below B w w1)(k:w1.grownBy w2 row)(s: ∀j,row=some j->B<=j)(hs:w.heap.size=B:=by rfl):Below B w w2:=⟨k.os.trans h.os,k.tape.trans h.tape,k.output.trans h.output,aK h.size k.size,fun i hi=>(k.block i (by have:=h.size;omega) (fun e=>by have:=s i e.symm;omega)).trans (h.block i hi)⟩
def yZ(w:World)(n:Nat)(r:Ending)(w':World):Prop:= ∃v,r=.returned v/\w'.ownsRow w.heap.size 5 1 v (kU n).length (pU (kU n))/\Below w.heap.size w w'
theorem Cc(n:Nat)(w:World)(h:n<128):Calls prog 74 #[.int .i64 (n:Int)] w (yZ w n):=by
 have j:(n:Int)%256=(n:Int):=ah;have s:IntKind.u8.wrap (n:Int)=(n:Int):=by rw[dp];omega
 have e:Hid (yZ w n (.returned (.slice (some ⟨w.heap.size,0,none⟩) 1 1)) (w.alloc (.cells #[.int .u8 (n:Int)] 5))):=eJ ⟨_,rfl,by rw[oV h];exact BB (cs:=pU [n]) (eN.new w _ _) (ar) rfl aj,(au).alloc (ar) _⟩;go_enter func74,ntmps74;go_wp2_with fail;go_ret;exact e.out
theorem JZ(n:Nat)(hn:n<9223372036854775808)(w:World):Calls prog 74 #[.int .i64 (n:Int)] w (yZ w n):=by
 induction n using Nat.strongRecOn generalizing w with
  |_ n K=>
   by_cases h:n<128
   ·exact Cc n w h
   ·obtain⟨m,hm⟩:=ab (n/128);obtain⟨y,E⟩:=ab (n%128+128);have u:=eJ (K m ah ah);have ao:Hid (kU n=y::kU m):=eJ (by rw[rK h,hm,E]);have hq:(n:Int).tdiv 128=(m:Int):=by rw[cY ah];omega
    have a4:(n:Int)/128=(m:Int):=ah;have X:(n:Int).tmod 128=((n%128:Nat):Int):=by rw[Int.tmod_eq_emod_of_nonneg ah];omega
    obtain⟨x,T⟩:=ab (n%128);have a3:(n:Int)%128=(x:Int):=ah;have a2:x<128:=ah;have a6:(x:Int)%256=(x:Int):=ah;have a7:IntKind.u8.wrap (x:Int)=(x:Int):=by rw[dp];omega
    have a8:IntKind.u8.wrap ((x:Int)+128)=(y:Int):=by rw[dp];omega
    have aA:((x:Int)+128)%256=(y:Int):=ah;have a0:(kU m).length<=10:=BQ m ah;have aa:=wu m;obtain⟨i0,hi,am,al,U⟩:=eR ry;have s:=eJ ((Below.refl w.heap.size w).alloc (ar) (.cells #[.int .u8 (y:Int)] 5));have z:=eJ (eN.new w 5 #[.int .u8 (y:Int)]);clear K X hm E T;go_enter func74,ntmps74;go_wp2_with fail;refine(u.out _).mono ?_;rintro e w2 ⟨v2,rfl,J,hB⟩;obtain⟨g2,c2,rfl,a5,-,-,I⟩:=vT J aa;have ad:=eJ I;have O:=eJ (s.out.trans (hB.mono s.out.size));have ac:=eJ (BB (base:=w.heap.size) (cs:=pU [y]) (n:=1) (z.out.below hB z.out.lt) (ar) rfl aj);clear hB J I u;go_wp2_with (at_builtin;go_must (refine bD _ rfl (.tmp 12) (.tmp 15) _ rfl w.heap.size 5 i0 _ 1 1 underlying40 hi am al U rfl aj (.slice (some ⟨w.heap.size,0,none⟩) 1 1) 1 (pU [y]) rfl (by exact ac.out) ⟨g2,0,none⟩ (kU m).length c2 (pU (kU m)) rfl (by rw[nu];omega) (by exact ad.out) (GI _) (by simp[maxLen];omega) ah (by have:=O.out.size;omega) ?_);intro ap w7 C j _;have Z:=eJ C;have Y:=eJ j;clear C j);go_ret;exact⟨_,rfl,by rw[ao.out,aP,dO];exact Z.out,uh O.out Y.out (fun k e=>by simp[Value.ownBlock] at e;omega)⟩
def pz(l:List Nat):List Value:=l.map fun(n:Nat)=>Value.int .i64 (n:Int)
theorem MH(l m:List Nat):pz (l++m)=pz l++pz m:=by simp[pz]
theorem rO(l:List Nat): ∀u∈pz l,u.oneCell'=true:=by intro u hu;obtain⟨n,_,rfl⟩:=cX.1 hu;rfl
theorem Rf{a:Int}(e:0<=a):[Value.int .i64 a]=pz [a.toNat]:=by simp[pz];omega
theorem Re{a b:Int}(h:0<=a)(e:0<=b):[Value.int .i64 a,.int .i64 b]=pz [a.toNat,b.toNat]:=by simp[pz];omega
theorem Ra{a b c:Int}(j:0<=a)(e:0<=b)(h:0<=c):[Value.int .i64 a,.int .i64 b,.int .i64 c]=pz [a.toNat,b.toNat,c.toNat]:=by simp[pz];omega
theorem Rh{a b c d:Int}(j:0<=a)(e:0<=b)(h:0<=c)(hd:0<=d):[Value.int .i64 a,.int .i64 b,.int .i64 c,.int .i64 d]=pz [a.toNat,b.toNat,c.toNat,d.toNat]:=by simp[pz];omega
theorem Rl{a b c d e f i:Int}(s:0<=a)(h:0<=b)(j:0<=c)(hd:0<=d)(he:0<=e)(u:0<=f)(hi:0<=i):[Value.int .i64 a,.int .i64 b,.int .i64 c,.int .i64 d,.int .i64 e,.int .i64 f,.int .i64 i]=pz [a.toNat,b.toNat,c.toNat,d.toNat,e.toNat,f.toNat,i.toNat]:=by simp[pz];omega
theorem D4:(prog.info? 3).map (fun i=>(i.zero,i.size,i.bytes))=some (some (.int .i64 0),1,8):=ai
structure qI (w wr:World) (G:Array Value) (v:Value) (L:List Nat):Prop where
 g:eN wr w.heap.size 29 G
 r:eN wr (w.heap.size+1) 90 #[.int .i64 0,.int .i64 0]
 q:wr.ownsRow (w.heap.size+1+1) 3 1 v L.length (pz L)
 old:Below w.heap.size w wr
section
variable {w w1 w2 w3:World}{G:Array Value}{v v':Value}{L:List Nat}
theorem qI.below(h:qI w w1 G v L)(hB:Below w1.heap.size w1 w2):qI w w2 G v L:=⟨h.g.below hB h.g.lt,h.r.below hB h.r.lt,rT h.q fun g _ e=>hB.block g e,h.old.trans (hB.mono h.old.size)⟩
theorem qI.alloc(h:qI w w1 G v L)(o:Obj):qI w (w1.alloc o) G v L:=h.below ((au).alloc (ar) o)
theorem qI.step(h:qI w w1 G v L){zs:List Nat}{m:Nat}(C:zs.length=m)(z:w2.ownsRow (w.heap.size+1+1) 3 1 v' (L.length+m) (pz L++pz zs))(s:w1.grownBy w2 v.ownBlock):qI w w2 G v' (L++zs):=by have u:=fun k e=>(Ef h.q k e).1;exact⟨h.g.grown s (fun e=>by have:=u _ e.symm;omega),h.r.grown s (fun e=>by have:=u _ e.symm;omega),by rw[aT,C,MH];exact z,uh h.old s (fun j e=>by have:=u j e;omega)⟩
end
theorem tG(tmps:Array Value)(w:World)(g:Nat)(v a b:Value)(h1:tmps[2]? =some v)(h2:tmps[3]? =some (.pointer (some ⟨g,0,none⟩)))(e:eN w g 90 #[a,b]):(results f29 tmps).run prog w=.ok (.tuple #[v,.agg #[a,b]]) w:=by obtain⟨h,j,_⟩:=e.fQ;simp[results,results29,go_sem,h1,h2,h,j]
def oF(w:World)(p:Pl)(r:Ending)(w':World):Prop:=if (iO p).1=0 then∃v,r=.returned (.tuple #[v,.agg #[.int .i64 0,.int .i64 (-1)]])/\w'.ownsRow w.heap.size 5 1 v (gn (sK p)).length (pU (gn (sK p)))/\Below w.heap.size w w' else r=.returned (.tuple #[.slice none 0 0,.agg #[.int .i64 (iO p).1,.int .i64 (iO p).2]])/\Below w.heap.size w w'
structure DQ (w wr:World) (a b v:Value) (l:List Nat):Prop where
 r:eN wr (w.heap.size+1) 90 #[a,b]
 q:wr.ownsRow (w.heap.size+1+1) 5 1 v l.length (pU l)
 old:Below w.heap.size w wr
theorem DQ.yu{w wr:World}{a b v:Value}{l:List Nat}(h:DQ w wr a b v l)(u:Value):DQ w (wr.setCell ⟨w.heap.size+1,0,none⟩ u) u b v l:=⟨h.r.eS 0 u,rT h.q fun g e _=>aW wr ⟨w.heap.size+1,0,none⟩ u g (by show g≠w.heap.size+1;omega),h.old.setCell (p:=⟨w.heap.size+1,0,none⟩) (aw) u⟩
theorem DQ.yV{w wr:World}{a b v:Value}{l:List Nat}(h:DQ w wr a b v l)(u:Value):DQ w (wr.setCell ⟨w.heap.size+1,1,none⟩ u) a u v l:=⟨h.r.eS 1 u,rT h.q fun g e _=>aW wr ⟨w.heap.size+1,1,none⟩ u g (by show g≠w.heap.size+1;omega),h.old.setCell (p:=⟨w.heap.size+1,1,none⟩) (aw) u⟩
theorem DQ.drew{w wr:World}{a b v:Value}{l:List Nat}(h:DQ w wr a b v l):DQ w wr.drew a b v l:=⟨h.r.drew,rT h.q fun g _ _=>rfl,below_drewN h.old 1⟩
theorem DQ.post{w wr:World}{p:Pl}{v:Value}{l:List Nat}(h:DQ w wr (.int .i64 0) (.int .i64 (-1)) v l)(h0:(iO p).1=0)(hl:l=gn (sK p)):oF w p (.returned (.tuple #[v,.agg #[.int .i64 0,.int .i64 (-1)]])) wr:=by unfold oF;rw[aM h0,<-hl];exact⟨v,rfl,MV h.q ah,h.old⟩
theorem MZ{w:World}{base n:Nat}{e:TypeId}{v:Value}{xs:List Value}(h:w.ownsRow base e 1 v n xs)(hn:0<n): ∃g c,v=.slice (some ⟨g,0,none⟩) n c/\base<=g/\g<w.heap.size/\∀j,j<n->w.cell? ⟨g,j,none⟩=xs[j]? :=by
 obtain⟨g,c,rfl,h1,h2,h3,s⟩:=vT h hn;refine⟨g,c,rfl,h1,h2,fun j u=> ?_⟩;have hl:j<xs.length:=by rw[h.1];omega
 have:=s j xs[j] (aF hl);have e:(⟨g,0,none⟩:Addr).add j=⟨g,j,none⟩:=by unfold Addr.add;split<;>simp_all
 rw[e] at this;rw[this,aF hl]
theorem MB{L:List Nat}{j:Nat}(h:j<L.length):(pz L)[j]? =some (.int .i64 (L.getD j 0:Nat)):=by simp[pz,h]
theorem KD(l m:List Nat):pU (l++m)=pU l++pU m:=by simp[pU]
theorem Fy{L:List Nat}(h:0<L.length):0<(gn L).length:=by cases L with|nil=>simp at h|cons a l=>rw[oS,aT];have:=wu a;omega
theorem Cy(L:List Nat)(h: ∀z∈L,z<=2^40)(k:Nat):(gn (L.take k)).length<=6*k:=by have h1:=qt (L.take k) (fun z e=>h z (eh e));rw[bP] at h1;omega
section
variable (p:Pl)(A:Option Addr)(len c:Nat)(AL:Option Addr)(ll cl:Nat)(AQ:Option Addr)(lq cq:Nat)
theorem Ll(w:World)(h0:(iO p).1≠0)(s1:p.sl.length=len)(C:p.lk.length=ll)(z:p.wn.length=lq)(s2:fN w A len p.sl)(E:fA w AL ll p.lk)(I:iV w AQ lq p.wn)(hF:nP w):Calls prog 29 #[.agg (fb p.nd p.fa p.sk p.ji p.dr p.rd (.slice A len c) (.slice AL ll cl) p.fr (.slice AQ lq cq))] w (oF w p):=by
 have u:=eJ (ng.new w (fb p.nd p.fa p.sk p.ji p.dr p.rd (.slice A len c) (.slice AL ll cl) p.fr (.slice AQ lq cq)));obtain⟨i0,i1,i2,i3,i4,i5,i6,i7,i8,i9⟩:=u.out.g.eT;have s:Hid (∀w0:World,Below w.heap.size w w0->Calls prog 73 #[.agg (fb p.nd p.fa p.sk p.ji p.dr p.rd (.slice A len c) (.slice AL ll cl) p.fr (.slice AQ lq cq))] w0 (nC w0 (iO p))):=eJ fun w0 hB=>tV p A len c AL ll cl AQ lq cq w0 s1 C z (s2.below hB) (E.below hB) (I.below hB) (hF.below hB);suffices hg:Calls prog 29 #[.agg (fb p.nd p.fa p.sk p.ji p.dr p.rd (.slice A len c) (.slice AL ll cl) p.fr (.slice AQ lq cq))] w (fun r w'=>r=.returned (.tuple #[.slice none 0 0,.agg #[.int .i64 (iO p).1,.int .i64 (iO p).2]])/\Below w.heap.size w w') from hg.mono fun r w' h=>by unfold oF;rw[aI h0];exact h
 unfold nC at s;generalize(iO p).1=ce at h0 s⊢;generalize(iO p).2=cp at s⊢;have d0:(ce !=0)=true:=by simp[h0]
 clear s1 C z s2 E I hF h0;go_enter func29,ntmps29;go_wp2_with fail;refine(s.out _ u.out.old).mono ?_;rintro e w3 ⟨rfl,hB⟩;have j:=eJ ((u.out.below hB).alloc (.cells #[.int .i64 ce,.int .i64 cp] 90));obtain⟨K,J,f0,f1⟩:=j.out.r.fQ;clear hB u s i0 i1 i2 i3 i4 i5 i6 i7 i8 i9;go_wp2_with fail;go_region;all_goals (go_wp2_with fail;exact aR (tG _ _ (w.heap.size+1) _ _ _ rfl rfl (j.out.eW _ _)) rfl ⟨rfl,(by first|exact (j.out.post (c:=(ce,cp)) rfl).2|exact below_drewN (j.out.post (c:=(ce,cp)) rfl).2 1|exact ((j.out.drewN 1).post (c:=(ce,cp)) rfl).2|exact reo_set (j.out.old)|exact reo_set (below_drewN j.out.old 1))⟩)
theorem NM(w:World)(h0:(iO p).1=0)(s1:p.sl.length=len)(ci:p.lk.length=ll)(cb:p.wn.length=lq)(s2:fN w A len p.sl)(b4:fA w AL ll p.lk)(cj:iV w AQ lq p.wn)(hF:nP w):Calls prog 29 #[.agg (fb p.nd p.fa p.sk p.ji p.dr p.rd (.slice A len c) (.slice AL ll cl) p.fr (.slice AQ lq cq))] w (oF w p):=by
 obtain⟨cm,d6,cn,cS,c6⟩:=o8 h0;have ac:=eJ cm;have dg:=eJ cn;have d8:=eJ cS;have bx:=eJ c6;have n1:len<=32:=ah;have e1:ll<=8:=ah;have ev:lq<=32:=ah;obtain⟨bf,hi,a9,bl,be⟩:=eR D4;obtain⟨dl,dk,em,el,d0⟩:=eR ry;have bv:=eJ (ng.new w (fb p.nd p.fa p.sk p.ji p.dr p.rd (.slice A len c) (.slice AL ll cl) p.fr (.slice AQ lq cq)));obtain⟨i0,i1,i2,i3,i4,i5,i6,i7,i8,i9⟩:=bv.out.g.eT;have bi:Hid (∀w0:World,Below w.heap.size w w0->Calls prog 73 #[.agg (fb p.nd p.fa p.sk p.ji p.dr p.rd (.slice A len c) (.slice AL ll cl) p.fr (.slice AQ lq cq))] w0 (nC w0 (iO p))):=eJ fun w0 hB=>tV p A len c AL ll cl AQ lq cq w0 s1 ci cb (s2.below hB) (b4.below hB) (cj.below hB) (hF.below hB);have b2:=eJ h0;have bw:=eJ s1;have bt:=eJ ci;have ce:=eJ cb;have S2:=eJ s2;have L2:=eJ b4;have ea:=eJ cj;have d5:=eJ hF;unfold nC at bi;rw[h0] at bi;generalize(iO p).2=cp at bi;clear s1 ci cb s2 b4 cj hF h0 cm d6 cn cS c6;go_enter func29,ntmps29;go_wp2_with fail;refine(bi.out _ bv.out.old).mono ?_;rintro e w3 ⟨rfl,hB⟩;have al:=eJ ((bv.out.below hB).alloc (.cells #[.int .i64 0,.int .i64 cp] 90));clear hB bv bi i0 i1 i2 i3 i4 i5 i6 i7 i8 i9;obtain⟨i0,i1,i2,i3,i4,i5,i6,i7,i8,i9⟩:=al.out.g.eT;obtain⟨X,hA1⟩:=ab ([p.nd.toNat,p.fa.toNat,p.sk.toNat,p.ji.toNat,p.dr.toNat,p.rd.toNat,(len:Int).toNat]);have hA7:X.length=7:=by rw[<-hA1];rfl
 have cr:[Value.int .i64 p.nd,.int .i64 p.fa,.int .i64 p.sk,.int .i64 p.ji,.int .i64 p.dr,.int .i64 p.rd,.int .i64 (len:Int)]=pz X:=by rw[<-hA1];exact Rl (by have:=ac.out;omega) (by have:=ac.out;omega) (by have:=ac.out;omega) (by have:=ac.out;omega) (by have:=ac.out;omega) (by have:=ac.out;omega) ah
 have s:Hid (qI w ((w3.alloc (.cells #[.int .i64 0,.int .i64 cp] 90)).alloc (.cells #[.int .i64 p.nd,.int .i64 p.fa,.int .i64 p.sk,.int .i64 p.ji,.int .i64 p.dr,.int .i64 p.rd,.int .i64 (len:Int)] 3)) (fb p.nd p.fa p.sk p.ji p.dr p.rd (.slice A len c) (.slice AL ll cl) p.fr (.slice AQ lq cq)) (.slice (some ⟨w3.heap.size+1,0,none⟩) 7 7) X):=eJ ⟨al.out.g.alloc _,al.out.r.alloc _,by rw[hA7,<-cr];exact BB (by simpa using eN.new (w3.alloc _) 3 _) (by have:=al.out.r.lt;simp at this;omega) rfl aj,al.out.old.alloc al.out.old.size _⟩;have cx:=eJ hA1;have cV:=eJ hA7;clear cr hA1 hA7 al;obtain⟨ap,a4,a8,a7,a3,a5,a6,a2,aA,a0⟩:=s.out.g.eT;go_wp2_with fail;clear ap a4 a8 a7 a3 a5 a6 a2 aA a0;go_loopw [5,40] (fun v i wr=> ∃k:Nat,k<=len/\i=.int .i64 k/\Hid (qI w wr (fb p.nd p.fa p.sk p.ji p.dr p.rd (.slice A len c) (.slice AL ll cl) p.fr (.slice AQ lq cq)) v (X++((p.sl.take k).map sI).flatten))) (fun _ i _=>len-(intOf i).toNat);case atStart=>exact⟨0,ah,rfl,by simpa using s⟩
 case round=>
  clear s i0 i1 i2 i3 i4 i5 i6 i7 i8 i9;obtain⟨k,hk,rfl,s⟩:=hrel;obtain⟨i0,i1,i2,i3,i4,i5,i6,i7,i8,i9⟩:=s.out.g.eT;by_cases J:k<len
  ·obtain⟨b,off,rfl,x,O,c0,c1,c2⟩:=(S2.out.below s.out.old) k J;have bj:=eJ O;have K:=eJ (dg.out x (cL O));have T:Hid ([Value.int .i64 x.n,Value.int .i64 x.f,Value.int .i64 x.t]=pz (sI x)):=eJ (Ra (by have:=K.out;omega) (by have:=K.out;omega) (by have:=K.out;omega));have u:=eJ ((s.out.alloc (.cells #[.int .i64 x.n,.int .i64 x.f,.int .i64 x.t] 86)).alloc (.cells #[.int .i64 x.n,.int .i64 x.f,.int .i64 x.t] 3));have aa:=eJ (show(X++((p.sl.take k).map sI).flatten).length<=300 by have:=cV.out;rw[aT,mj (j:=3) (f:=sI) (fun _=>rfl),bP];omega);clear O;go_wp2_with (at_builtin;go_must (refine bD _ rfl (.tmp 44) (.tmp 53) _ rfl (w.heap.size+1+1) 3 bf _ 1 8 underlying33 hi a9 bl be rfl aj u5 (X++((p.sl.take k).map sI).flatten).length (pz (X++((p.sl.take k).map sI).flatten)) rfl (by exact u.out.q) ⟨wr.heap.size+1,0,none⟩ 3 3 (pz (sI x)) rfl rfl (by rw[<-T.out];exact rG (by simpa using eN.new (wr.alloc _) _ _)) (rO _) (by have:=aa.out;unfold maxLen;omega) (by have:=aa.out;omega) (by have:=u.out.old.size;have:=u.out.r.lt;omega) ?_);intro bd w7 C E _;have Y:=eJ (u.out.step (zs:=sI x) rfl C E);obtain⟨ap,a4,a8,a7,a3,a5,a6,a2,aA,a0⟩:=Y.out.g.eT;clear C E);go_roundw;case rel=>exact⟨k+1,ah,aq,eJ (by rw[mL sI _ _ _ bj.out,<-dn];exact Y.out)⟩
   case measure=>simp[intOf];omega
  ·obtain rfl:len=k:=ah;have I:Hid (qI w wr (fb p.nd p.fa p.sk p.ji p.dr p.rd (.slice A len c) (.slice AL ll cl) p.fr (.slice AQ lq cq)) u5 (X++(p.sl.map sI).flatten)):=eJ (by have:=s.out;rw[bC (by rw[bw.out];omega)] at this;exact this);clear s J hk;obtain⟨bq,hA2⟩:=ab (X++(p.sl.map sI).flatten);have de:bq.length<=103:=by rw[<-hA2,aT,mj (j:=3) (f:=sI) (fun _=>rfl)];have:=cV.out;have:=bw.out;omega
   rw[hA2] at I;have cu:=eJ hA2;clear hA2;have T:Hid ([Value.int .i64 (ll:Int)]=pz [(ll:Int).toNat]):=eJ (Rf ah);have u:=eJ (I.out.alloc (.cells #[.int .i64 (ll:Int)] 3));go_wp2_with (at_builtin;go_must (refine bD _ rfl (.tmp 56) (.tmp 60) _ rfl (w.heap.size+1+1) 3 bf _ 1 8 underlying33 hi a9 bl be rfl aj u5 (bq).length (pz (bq)) rfl (by exact u.out.q) ⟨wr.heap.size,0,none⟩ 1 1 (pz ([(ll:Int).toNat])) rfl rfl (by rw[<-T.out];exact rG (by simpa using eN.new wr _ _)) (rO _) (by have:=de;unfold maxLen;omega) (by have:=de;omega) (by have:=u.out.old.size;have:=u.out.r.lt;omega) ?_);intro bd w7 C E _;have s:=eJ (u.out.step (zs:=[(ll:Int).toNat]) rfl C E);obtain⟨ap,a4,a8,a7,a3,a5,a6,a2,aA,a0⟩:=s.out.g.eT;clear C E);obtain⟨am,hA3⟩:=ab (bq++[(ll:Int).toNat]);have d3:am.length<=104:=by rw[<-hA3,aT];simp;omega
   rw[hA3] at s;have cA:=eJ hA3;clear hA3 u I T i0 i1 i2 i3 i4 i5 i6 i7 i8 i9;obtain⟨i0,i1,i2,i3,i4,i5,i6,i7,i8,i9⟩:=s.out.g.eT;obtain⟨bb,rfl⟩: ∃bb:World,bb=wr:=⟨_,rfl⟩;go_loopw [5,65] (fun v i wr=> ∃k:Nat,k<=ll/\i=.int .i64 k/\Hid (qI w wr (fb p.nd p.fa p.sk p.ji p.dr p.rd (.slice A len c) (.slice AL ll cl) p.fr (.slice AQ lq cq)) v (am++((p.lk.take k).map sJ).flatten))) (fun _ i _=>ll-(intOf i).toNat);case atStart=>exact⟨0,ah,rfl,by simpa using s⟩
   case round=>
    clear s i0 i1 i2 i3 i4 i5 i6 i7 i8 i9;obtain⟨k,hk,rfl,s⟩:=hrel;obtain⟨i0,i1,i2,i3,i4,i5,i6,i7,i8,i9⟩:=s.out.g.eT;by_cases J:k<ll
    ·obtain⟨b,off,rfl,x,O,c0,c1,c2,c3⟩:=(L2.out.below s.out.old) k J;have bj:=eJ O;have K:=eJ (d8.out x (cL O));have T:Hid ([Value.int .i64 x.f,Value.int .i64 x.t,Value.int .i64 x.b,Value.int .i64 x.q]=pz (sJ x)):=eJ (Rh (by have:=K.out;omega) (by have:=K.out;omega) (by have:=K.out;omega) (by have:=K.out;omega));have u:=eJ ((s.out.alloc (.cells #[.int .i64 x.f,.int .i64 x.t,.int .i64 x.b,.int .i64 x.q] 88)).alloc (.cells #[.int .i64 x.f,.int .i64 x.t,.int .i64 x.b,.int .i64 x.q] 3));have aa:=eJ (show(am++((p.lk.take k).map sJ).flatten).length<=300 by have:=d3;rw[aT,mj (j:=4) (f:=sJ) (fun _=>rfl),bP];omega);clear O;go_wp2_with (at_builtin;go_must (refine bD _ rfl (.tmp 69) (.tmp 78) _ rfl (w.heap.size+1+1) 3 bf _ 1 8 underlying33 hi a9 bl be rfl aj u5 (am++((p.lk.take k).map sJ).flatten).length (pz (am++((p.lk.take k).map sJ).flatten)) rfl (by exact u.out.q) ⟨wr.heap.size+1,0,none⟩ 4 4 (pz (sJ x)) rfl rfl (by rw[<-T.out];exact rG (by simpa using eN.new (wr.alloc _) _ _)) (rO _) (by have:=aa.out;unfold maxLen;omega) (by have:=aa.out;omega) (by have:=u.out.old.size;have:=u.out.r.lt;omega) ?_);intro bd w7 C E _;have Y:=eJ (u.out.step (zs:=sJ x) rfl C E);obtain⟨ap,a4,a8,a7,a3,a5,a6,a2,aA,a0⟩:=Y.out.g.eT;clear C E);go_roundw;case rel=>exact⟨k+1,ah,aq,eJ (by rw[mL sJ _ _ _ bj.out,<-dn];exact Y.out)⟩
     case measure=>simp[intOf];omega
    ·obtain rfl:ll=k:=ah;have I:Hid (qI w wr (fb p.nd p.fa p.sk p.ji p.dr p.rd (.slice A len c) (.slice AL ll cl) p.fr (.slice AQ lq cq)) u5 (am++(p.lk.map sJ).flatten)):=eJ (by have:=s.out;rw[bC (by rw[bt.out];omega)] at this;exact this);clear s J hk;obtain⟨bz,hA4⟩:=ab (am++(p.lk.map sJ).flatten);have c8:bz.length<=136:=by rw[<-hA4,aT,mj (j:=4) (f:=sJ) (fun _=>rfl)];have:=bt.out;omega
     rw[hA4] at I;have c9:=eJ hA4;clear hA4;have T:Hid ([Value.int .i64 p.fr,.int .i64 (lq:Int)]=pz [p.fr.toNat,(lq:Int).toNat]):=eJ (Re (by have:=ac.out;omega) ah);have u:=eJ (I.out.alloc (.cells #[.int .i64 p.fr,.int .i64 (lq:Int)] 3));go_wp2_with (at_builtin;go_must (refine bD _ rfl (.tmp 81) (.tmp 87) _ rfl (w.heap.size+1+1) 3 bf _ 1 8 underlying33 hi a9 bl be rfl aj u5 (bz).length (pz (bz)) rfl (by exact u.out.q) ⟨wr.heap.size,0,none⟩ 2 2 (pz ([p.fr.toNat,(lq:Int).toNat])) rfl rfl (by rw[<-T.out];exact rG (by simpa using eN.new wr _ _)) (rO _) (by have:=c8;unfold maxLen;omega) (by have:=c8;omega) (by have:=u.out.old.size;have:=u.out.r.lt;omega) ?_);intro bd w7 C E _;have s:=eJ (u.out.step (zs:=[p.fr.toNat,(lq:Int).toNat]) rfl C E);obtain⟨ap,a4,a8,a7,a3,a5,a6,a2,aA,a0⟩:=s.out.g.eT;clear C E);obtain⟨ad,hA5⟩:=ab (bz++[p.fr.toNat,(lq:Int).toNat]);have d4:ad.length<=138:=by rw[<-hA5,aT];simp;omega
     rw[hA5] at s;have co:=eJ hA5;clear hA5 u I T i0 i1 i2 i3 i4 i5 i6 i7 i8 i9;obtain⟨i0,i1,i2,i3,i4,i5,i6,i7,i8,i9⟩:=s.out.g.eT;obtain⟨bb,rfl⟩: ∃bb:World,bb=wr:=⟨_,rfl⟩;go_loopw [5,92] (fun v i wr=> ∃k:Nat,k<=lq/\i=.int .i64 k/\Hid (qI w wr (fb p.nd p.fa p.sk p.ji p.dr p.rd (.slice A len c) (.slice AL ll cl) p.fr (.slice AQ lq cq)) v (ad++((p.wn.take k).map vS).flatten))) (fun _ i _=>lq-(intOf i).toNat);case atStart=>exact⟨0,ah,rfl,by simpa using s⟩
     case round=>
      clear s i0 i1 i2 i3 i4 i5 i6 i7 i8 i9;obtain⟨k,hk,rfl,s⟩:=hrel;obtain⟨i0,i1,i2,i3,i4,i5,i6,i7,i8,i9⟩:=s.out.g.eT;by_cases J:k<lq
      ·obtain⟨b,off,rfl,x,O,c0,c1,c2⟩:=(ea.out.below s.out.old) k J;have bj:=eJ O;have K:=eJ (bx.out x (cL O));have T:Hid ([Value.int .i64 x.p,Value.int .i64 x.f,Value.int .i64 x.t]=pz (vS x)):=eJ (Ra (by have:=K.out;omega) (by have:=K.out;omega) (by have:=K.out;omega));have u:=eJ ((s.out.alloc (.cells #[.int .i64 x.p,.int .i64 x.f,.int .i64 x.t] 135)).alloc (.cells #[.int .i64 x.p,.int .i64 x.f,.int .i64 x.t] 3));have aa:=eJ (show(ad++((p.wn.take k).map vS).flatten).length<=300 by have:=d4;rw[aT,mj (j:=3) (f:=vS) (fun _=>rfl),bP];omega);clear O;go_wp2_with (at_builtin;go_must (refine bD _ rfl (.tmp 96) (.tmp 105) _ rfl (w.heap.size+1+1) 3 bf _ 1 8 underlying33 hi a9 bl be rfl aj u5 (ad++((p.wn.take k).map vS).flatten).length (pz (ad++((p.wn.take k).map vS).flatten)) rfl (by exact u.out.q) ⟨wr.heap.size+1,0,none⟩ 3 3 (pz (vS x)) rfl rfl (by rw[<-T.out];exact rG (by simpa using eN.new (wr.alloc _) _ _)) (rO _) (by have:=aa.out;unfold maxLen;omega) (by have:=aa.out;omega) (by have:=u.out.old.size;have:=u.out.r.lt;omega) ?_);intro bd w7 C E _;have Y:=eJ (u.out.step (zs:=vS x) rfl C E);obtain⟨ap,a4,a8,a7,a3,a5,a6,a2,aA,a0⟩:=Y.out.g.eT;clear C E);go_roundw;case rel=>exact⟨k+1,ah,aq,eJ (by rw[mL vS _ _ _ bj.out,<-dn];exact Y.out)⟩
       case measure=>simp[intOf];omega
      ·obtain rfl:lq=k:=ah;have I:Hid (qI w wr (fb p.nd p.fa p.sk p.ji p.dr p.rd (.slice A len c) (.slice AL ll cl) p.fr (.slice AQ lq cq)) u5 (ad++(p.wn.map vS).flatten)):=eJ (by have:=s.out;rw[bC (by rw[ce.out];omega)] at this;exact this);clear s J hk;have c4:Hid (ad++(p.wn.map vS).flatten=sK p):=eJ (by rw[Jv p bw.out bt.out ce.out,cx.out,cu.out,cA.out,c9.out,co.out]);rw[c4.out] at I;have b6:=eJ (Ch b2.out);have b9:(gn (sK p)).length<=2000:=yh b2.out;have cv:(sK p).length<=300/\0<(sK p).length:=by rw[Dz];have:=bw.out;have:=bt.out;have:=ce.out;omega
       obtain⟨L,b3⟩:=ab (sK p);rw[b3] at I b6 b9 cv;obtain⟨n,hn⟩:=ab L.length;obtain⟨d1,ch⟩:=cv;obtain⟨g,e0,bk,-,en,b7⟩:=MZ I.out.q ch;rw[hn] at d1 ch bk b7;have ck:=eJ b7;have eb:=eJ b3;have b8:=eJ hn;have ds:=eJ b9;subst bk;clear b7 b3 hn b9 c4 cx cu cA c9 co i0 i1 i2 i3 i4 i5 i6 i7 i8 i9;go_wp2_with fail;obtain⟨Z,rfl⟩: ∃Z:World,Z=wr:=⟨_,rfl⟩;go_loopw [12,110] (fun b i wr=> ∃k:Nat,k<=n/\i=.int .i64 k/\Hid (Below Z.heap.size Z wr)/\Hid (wr.ownsRow Z.heap.size 5 1 b (gn (L.take k)).length (pU (gn (L.take k))))) (fun _ i _=>n-(intOf i).toNat);case atStart=>exact⟨0,ah,rfl,eJ (au),eJ (by simpa[oc,pU] using bT Z Z.heap.size _ 1)⟩
       case round=>
        obtain⟨k,hk,rfl,ao,cc⟩:=hrel;by_cases J:k<n
        ·obtain⟨z,bm⟩:=ab (L.getD k 0);have bn:k<L.length:=by rw[b8.out];exact J
         have c0:wr.cell? ⟨g,k,none⟩=some (.int .i64 (z:Nat)):=by rw[ao.out.cell (p:=⟨g,k,none⟩) en,ck.out k J,MB bn,bm]
         have cd:z<=2^40:=b6.out z (by rw[<-bm];simp[bn]);have dt:z<9223372036854775808:=cO cd aj;have es:(kU z).length<=6:=so z 6 ah (cO cd aj);have ex:=Cy L b6.out k;have d7:=eJ bm;have eq:=eJ bn;clear bm bn cd;go_wp2_with fail;refine(JZ z dt _).mono ?_;rintro e w5 ⟨v5,rfl,dd,ca⟩;obtain⟨g5,c5,rfl,-,-,-,ct⟩:=vT dd (wu z);have bx:=eJ (ao.out.trans (ca.mono ao.out.size));have d2:=eJ ct;have c7:=eJ (rT cc.out (w':=w5) fun g _ J=>ca.block g J);clear dd ca ct c0;go_wp2_with (at_builtin;go_must (refine bD _ rfl (.tmp 114) (.tmp 116) _ rfl Z.heap.size 5 dl _ 1 1 underlying40 dk em el d0 rfl aj u12 (gn (L.take k)).length (pU (gn (L.take k))) rfl (by exact c7.out) ⟨g5,0,none⟩ (kU z).length c5 (pU (kU z)) rfl (by rw[nu];omega) (by exact d2.out) (GI _) (by unfold maxLen;omega) ah (by have:=bx.out.size;omega) ?_);intro bd w7 C E _;have ei:=eJ C;have eg:=eJ (uh bx.out E (fun j e=>(Ef c7.out j e).1));clear C E);go_roundw;case rel=>exact⟨k+1,ah,aq,eg,eJ (by rw[vY L k eq.out,d7.out,KD,aT];exact ei.out)⟩
         case measure=>simp[intOf];omega
        ·obtain rfl:n=k:=ah;have U:Hid (DQ w wr (.int .i64 0) (.int .i64 0) u12 (gn L)):=eJ ⟨I.out.r.below ao.out I.out.r.lt,MV (by have:=cc.out;rw[bC (by rw[b8.out];omega)] at this;exact this) (by have:=I.out.r.lt;omega),I.out.old.trans (ao.out.mono I.out.old.size)⟩;obtain⟨er,et,f0,f1⟩:=U.out.r.fQ;obtain⟨g0,g1⟩:=d5.out.below U.out.old;obtain⟨g2,c2,bk,-,-,-⟩:=MZ U.out.q (Fy (by rw[b8.out];exact ch));obtain⟨N,b5⟩:=ab ((gn L).length);have ez:N<=2000:=by rw[<-b5];exact ds.out
         rw[b5] at bk;have d9:decide ((2000:Int)<(N:Int))=false:=aH ah;subst bk;clear b5 ao cc ck J hk;go_wp2_with fail;go_region;all_goals (go_wp2_with fail;refine aR (tG _ _ (w.heap.size+1) _ _ _ rfl rfl (DQ.r ?h)) rfl (DQ.post ?h b2.out (by rw[eb.out]));first|exact (U.out.yu _).yV _|exact ((U.out.yu _).yV _).drew|exact (U.out.drew.yu _).yV _|exact (((U.out.yu _).yV _).yu _).yV _|exact ((((U.out.yu _).yV _).yu _).yV _).drew|exact (((U.out.drew.yu _).yV _).yu _).yV _)
theorem Mt(w:World)(s1:p.sl.length=len)(j:p.lk.length=ll)(e:p.wn.length=lq)(s2:fN w A len p.sl)(s:fA w AL ll p.lk)(h:iV w AQ lq p.wn)(hF:nP w):Calls prog 29 #[.agg (fb p.nd p.fa p.sk p.ji p.dr p.rd (.slice A len c) (.slice AL ll cl) p.fr (.slice AQ lq cq))] w (oF w p):=by
 by_cases h0:(iO p).1=0
 ·exact NM p A len c AL ll cl AQ lq cq w h0 s1 j e s2 s h hF
 ·exact Ll p A len c AL ll cl AQ lq cq w h0 s1 j e s2 s h hF
end
section
variable {m k:Nat}{w0 w w1:World}{g:Nat}{d:Dk}{L:Lh}{v:Value}{l:List Int}
theorem H5(h:jF m k w0 w w1 g d L v l)(A:Option Addr)(ws:List ByteArray)(c:Nat)(hn:eU ws 0=some l):Calls prog 15 #[.pointer (some ⟨g,0,none⟩),.string ⟨#[98,121,116,101,115]⟩,.slice A ws.length c,v] w1 (mx m w0 w g L (oy d ws)):=by
 obtain⟨bj,cv,rfl,-⟩:=gK h.own;have s:=eJ h.hs;obtain⟨am,cs,AL,cl,al,T,s2,O,ap⟩:=qk (w:=w1) h.ok.wn (fun j bn=>h.hs.own j ah);have ac:Hid (Calls prog 29 #[.agg (fb d.p.nd d.p.fa d.p.sk d.p.ji d.p.dr d.p.rd (.slice am d.p.sl.length cs) (.slice AL d.p.lk.length cl) d.p.fr (.slice none 0 0))] w1 fun r w'=> ∃A n cp e pl,r=.returned (.tuple #[.slice A n cp,.agg #[.int .i64 e,.int .i64 pl]])/\n<=maxLen/\Below w1.heap.size w1 w'/\∀W,Below w1.heap.size w1 W->mx m w0 w g L (oy d ws) (.returned (.tuple #[.string (fR n),.int .i64 e])) W):=eJ ((Mt d.p am d.p.sl.length cs AL d.p.lk.length cl none 0 0 w1 rfl rfl (by rw[h.ok.wn];rfl) s2 O ap (h.KX (au))).mono (fun r w' hp=>by
  unfold oF at hp;split at hp
  ·rename_i h0;obtain⟨v2,rfl,ad,hB⟩:=hp;obtain⟨X,cp2,rfl,hle,-⟩:=gK ad;have a4:(gn (sK d.p)).length<=maxLen:=by
    obtain⟨bf,⟨J,-⟩|⟨b2,bl,bd,J,bk,be,a9,bi,a8,bm⟩⟩:=ad
    ·injection J with _ h2 _;rw[h2];exact cT _
    ·injection J with _ h2 h3;omega
   exact⟨X,_,cp2,0,-1,rfl,a4,hB,fun W E=>mx.fe ((eL hn).trans (pG h0)) (h.to E)⟩
  ·rename_i h0;obtain⟨rfl,hB⟩:=hp;exact⟨none,0,0,_,_,rfl,ak,hB,fun W E=>h.bad ((eL hn).trans (sy h0)) h0 _ E⟩))
 have a0:=eJ (fun(n:Nat) W (hB:Below w1.heap.size w1 W) (hn:n<=maxLen)=>qN (n:Int) W (h.jK hB) ah (by simp[maxLen] at hn;omega));have jk:=h.jk;have c0:=s.out.eW.cell 0;have c1:=s.out.eW.cell 1;have c2:=s.out.eW.cell 2;have c3:=s.out.eW.cell 3;have c4:=s.out.eW.cell 4;have c5:=s.out.eW.cell 5;have U:=s.out.eW.cell 6;have Z:=s.out.eW.cell 7;have a2:=s.out.eW.cell 8;have c9:=s.out.eW.cell 9;simp at c0 c1 c2 c3 c4 c5 U Z a2 c9;rw[al] at U;rw[T] at Z;clear h hn s2 O ap al T;go_enter func15,ntmps15;go_wp2_with fail;refine ac.out.mono ?_;rintro r w2 ⟨X,n,cp2,e,pl,rfl,hn,C,Y⟩;obtain⟨W3,u⟩:=ab (w2.alloc (.cells #[.int .i64 e,.int .i64 pl] 90));have z:Below w1.heap.size w1 W3:=by rw[<-u];exact C.alloc C.size _
 have I:Hid (∀W,Below W3.heap.size W3 W->W.cell? ⟨w2.heap.size,0,none⟩=some (.int .i64 e)):=eJ (fun W hB=>by
  have hk:eN W3 w2.heap.size 90 #[.int .i64 e,.int .i64 pl]:=by rw[<-u];exact eN.new w2 _ _
  exact(hB.cell (p:=⟨w2.heap.size,0,none⟩) hk.lt).trans (hk.cell 0))
 have aA:=eJ u;have K:=eJ z;have a5:=eJ Y;have a6:=eJ (a0.out n W3.drew (below_drewN z 1) hn);have a3:=I.out _ (below_drewN (Below.refl W3.heap.size W3) 1);have bb:(n:Int)<=9223372036854775807:=by simp[maxLen] at hn;omega
 clear C Y u z ac;go_wp2_with fail;rw[aA.out];go_region_held3 (fun W=>W.cell? ⟨w2.heap.size,0,none⟩=some (.int .i64 e)) (first|exact a3|exact I.out _ ((below_drewN (Below.refl W3.heap.size W3) 1).alloc (ar) _)|exact I.out _ aa.out) (first|(go_at_call 16;go_must (refine a6.out.mono ?_);rintro r w6 ⟨rfl,ao⟩;have aa:=eJ ((below_drewN (Below.refl W3.heap.size W3) 1).trans ao);clear ao));all_goals have a7:=eJ (a5.out _ (K.out.trans (aa.out.mono K.out.size)));go_wp2_with fail;go_ret2;exact a7.out
end
section
variable {P:Program}{ops:Array Oper}{Q:Exit->Act->World->Prop}{md:Region.Mode}{S:World->Prop}{L:Nat}
def yK(md:Region.Mode)(ops:Array Oper)(L:Nat):List Nat->Array Bool->Bool|[],_=>true|i::l,b=>Region.free md ops b i&&(Region.ready md ops b).contains i&&(L !=i&&waitsFor md ops L i&& !b.getD L true)&&yK md ops L l (b.setIfInBounds i true)
def BV:List Nat->Array Bool->Array Bool|[],b=>b|i::l,b=>BV l (b.setIfInBounds i true)
def ou(P:Program)(ops:Array Oper)(S:World->Prop):List Nat->Act->(Act->Prop)->Prop|[],a,K=>K a|i::l,a,K=> ∃o v,ops[i]? =some o/\YieldsIf P ops S o v a/\ou P ops S l (a.put o.dst v) K
theorem il{w:World}(hs:Region.noSelect ops=true)(j: ∀c a e w,Q (.panic c) a w->Q (.panic c) e w)(s:S w){fuel:Nat}: ∀(l:List Nat){b:Array Bool}{a:Act},yK md ops L l b=true->ou P ops S l a (fun e=>wpAnyL P md ops Q S L fuel (BV l b) e w)->wpAnyL P md ops Q S L (fuel+l.length) b a w|[],_,_,_,h=>h|i::l,b,a,hc,⟨o,v,ho,hy,h⟩=>by unfold yK at hc;simp only[cR] at hc;exact eP ho hs hc.1.1.1 hc.1.1.2 (by simpa using hc.1.2) (fun c a w=>j c _ _ w) hy s (il hs j s l hc.2 h)
def uq(md:Region.Mode)(ops:Array Oper)(L:Nat):List Nat->Array Bool->Bool|[],_=>true|i::l,b=>Region.free md ops b i&&(Region.ready md ops b).contains i&&L !=i&&uq md ops L l (b.setIfInBounds i true)
theorem qM{w:World}(hs:Region.noSelect ops=true)(j: ∀c a e w,Q (.panic c) a w->Q (.panic c) e w)(s:S w){fuel:Nat}: ∀(l:List Nat){b:Array Bool}{a:Act},uq md ops L l b=true->ou P ops (fun _=>True) l a (fun e=>wpAnyL P md ops Q S L fuel (BV l b) e w)->wpAnyL P md ops Q S L (fuel+l.length) b a w|[],_,_,_,h=>h|i::l,b,a,hc,⟨o,v,ho,hy,h⟩=>by unfold uq at hc;simp only[cR] at hc;exact eY ho hs hc.1.1.1 hc.1.1.2 hc.1.2 (fun c a w=>j c _ _ w) hy s (qM hs j s l hc.2 h)
theorem oO{i:Nat}{e:Oper}{v:Value}{fuel:Nat}{listed:Array Bool}{a:Act}{w:World}(hi:ops[i]? =some e)(hs:Region.noSelect ops=true)(s:Region.free md ops listed i=true)(C:(Region.ready md ops listed).contains i=true)(u:(L !=i)=true)(j: ∀c a w,Q (.panic c) (a.put e.dst v) w->Q (.panic c) a w)(z:YieldsIf P ops (fun _=>True) e v a)(E:listed.getD L true=false->S w)(h:wpAnyL P md ops Q S L fuel (listed.setIfInBounds i true) (a.put e.dst v) w):wpAnyL P md ops Q S L (fuel+1) listed a w:=qJ hi (Region.noSelect_spec hs) j (by simpa using u) fuel listed a w (Region.free_spec hi s) (by simpa using C) z E h
end
section
variable {w0 w:World}{g k:Nat}{d:Dk}{L:Ly}{A:Option Addr}{ws:List ByteArray}
theorem xk{w:World}{b:Nat}{t:TypeId}{x y z:Value}(h:eN w b t #[x,y,z]): ∀(j:Nat)(u:Value),[x,y,z][j]? =some u->w.cell? ((⟨b,0,none⟩:Addr).add j)=some u:=by
 intro j u hu;have e:((⟨b,0,none⟩:Addr).add j)=⟨b,j,none⟩:=by unfold Addr.add;split<;>simp_all
 rw[e,h.cell j];match j,hu with|0,hu=>exact hu|1,hu=>exact hu|2,hu=>exact hu
theorem Fo(x y z:Int): ∀u∈[Value.int .i64 x,.int .i64 y,.int .i64 z],u.oneCell'=true:=by intro u hu;simp only[bR,cC,ec] at hu;rcases hu with rfl|rfl|rfl<;>rfl
theorem Gn:(prog.info? 169).map (fun i=>(i.zero,i.size,i.bytes))=some (some (.agg #[.int .i64 0,.int .i64 0,.int .i64 0]),3,24):=ai
theorem F3:(prog.info? 174).map (fun i=>(i.zero,i.size,i.bytes))=some (some (.agg #[.int .i64 0,.int .i64 0,.int .i64 0]),3,24):=ai
theorem MI(h:iu w0 w g d L k A ws)(c:Nat):Calls prog 54 #[.pointer (some ⟨g,0,none⟩),.slice A ws.length c] w (qG w0 w g L (qc d ws)):=by
 have bb:=eJ (h.jb (3) ah ah c);have H:=eJ h;clear h;go_enter func54,ntmps54;go_wp2_with fail;refine bb.out.mono ?_;rintro r w1 ⟨⟨hn,rfl⟩|⟨l,v,hn,rfl,X⟩,a0⟩;case inl=>have a2:=eJ (H.out.bad (x:=qc d ws) (fJ hn) a0);go_wp2_with fail;exact⟨rfl,a2.out⟩
 obtain⟨s,x1,u,gk,cp,rfl,rfl,a6,n1,bk,cv,a4⟩:=xS X ((fg hn).1 ah);have K:=eJ a0;have bd:=eJ hn;have cr:=eJ X;clear a0 hn X;cases hd:d.c with
  |none=>have al:=eJ (iz w1 (H.out.jK K.out).err g none true (H.out.noCell K.out hd) rfl);have ap:Hid (qc d ws=⟨.error 6,d⟩):=eJ ((eL bd.out).trans (fZ hd));go_wp2_with fail;refine al.out.mono ?_;rintro r w2 ⟨rfl,b2⟩;have a2:=eJ (H.out.bad ap.out (K.out.trans (b2.mono K.out.size)));go_wp2_with fail;exact⟨rfl,a2.out⟩
  |some y=>
   obtain⟨a,b,jk,bm,b5,b3,cb,b7⟩:=H.out.lx K.out hd;have al:=eJ (jd w1 g _ true jk rfl);have U:=eJ (H.out.dk.below K.out);have ap:Hid (qc d ws=⟨.ok ⟨#[108,111,115,101]⟩,{d with r:={d.r with ls:=d.r.ls++[⟨s,x1,u⟩]}}⟩):=eJ ((eL bd.out).trans (fF hd));have cA:gk≠g:=by have:=H.out.dk.eW.lt;omega
   have aa:=U.out.eW.cell 11;have f11:=U.out.eW.frozen 11;simp at aa;clear jk bm b5 b3 cb b7;go_wp2_with fail;refine al.out.mono ?_;rintro r w2 ⟨rfl,rfl⟩;clear al bb;obtain⟨I,ac⟩:=ab (L.v 2);rw[ac] at aa;have Y:=eJ ac;obtain⟨m,hm⟩:=ab d.r.ls.length;have cn:m<=6000:=by have:=H.out.ok.ls;have:=H.out.hk;omega
   have a9:w2.ownsRow w0.heap.size 169 3 I m (Bv d.r.ls):=by have:=U.out.own 2 ah;rw[ac] at this;rw[<-hm];exact this
   have b4:=eJ (aK H.out.dk.low.size K.out.size);have bq:=eJ ((jq a9 (below_drewN (au) 1):w2.drew.ownsRow w0.heap.size 169 3 I m (Bv d.r.ls)).alloc (.cells #[.int .i64 s,.int .i64 x1,.int .i64 u] 169));have ci:=eJ (xk (eN.new w2.drew 169 #[.int .i64 s,.int .i64 x1,.int .i64 u]));have bf:Hid (m+1<=maxLen/\(m+1)*24<=140737488355328):=eJ (by simp[maxLen];omega);have b8:Hid (w0.heap.size<=(w2.drew.alloc (.cells #[.int .i64 s,.int .i64 x1,.int .i64 u] 169)).heap.size):=eJ (by have:=b4.out;simp;omega);obtain⟨i0,hi,ce,cd,bz⟩:=eR Gn;have ao:Hid (∀z,(w2.drew.alloc (.cells #[.int .i64 s,.int .i64 x1,.int .i64 u] 169)).grownBy z I.ownBlock->z.cell? ⟨g,11,none⟩=some I/\z.frozen? ⟨g,11,none⟩=false/\eN z g 37 (ic d L)):=eJ (fun z E=>by have Z:eN z g 37 (ic d L):=(U.out.eW.drew.alloc _).grown E (fun e=>U.out.off 2 ah (by rw[Y.out];exact e.symm));have O:=Z.cell 11;simp at O;rw[Y.out] at O;exact⟨O,Z.frozen 11,Z⟩);have a8:(w2.alloc (.cells #[.int .i64 s,.int .i64 x1,.int .i64 u] 169)).cell? ⟨g,11,none⟩=some I:=by have O:=(U.out.eW.alloc (.cells #[.int .i64 s,.int .i64 x1,.int .i64 u] 169)).cell 11;simp at O;rw[Y.out] at O;exact O
   have bn:Hid (∀(z:World)(v8:Value),z.ownsRow w0.heap.size 169 3 v8 (m+1) (Bv d.r.ls++[.int .i64 s,.int .i64 x1,.int .i64 u])->(w2.drew.alloc (.cells #[.int .i64 s,.int .i64 x1,.int .i64 u] 169)).grownBy z I.ownBlock->(v8.ownBlock=I.ownBlock\/∀q,v8.ownBlock=some q->(w2.drew.alloc (.cells #[.int .i64 s,.int .i64 x1,.int .i64 u] 169)).heap.size<=q)->iN w0 w g L (z.setCell ⟨g,11,none⟩ v8) {d with r:={d.r with ls:=d.r.ls++[⟨s,x1,u⟩]}}):=eJ (fun z v8 b6 E bl=>by have a5:Below w2.heap.size w2 (w2.drew.alloc (.cells #[.int .i64 s,.int .i64 x1,.int .i64 u] 169)):=(below_drewN (au) 1).alloc (ar) _;have b9:=U.out.below a5;have Z:eN (z.setCell ⟨g,11,none⟩ v8) g 37 (ic {d with r:={d.r with ls:=d.r.ls++[⟨s,x1,u⟩]}} {L with v:=eV L.v 2 v8}):=(ao.out z E).2.2.eS 11 v8;have bv: ∀j,j<6->j≠2->ju {d with r:={d.r with ls:=d.r.ls++[⟨s,x1,u⟩]}} j=ju d j/\iR {d with r:={d.r with ls:=d.r.ls++[⟨s,x1,u⟩]}} j=iR d j:=(fun j cS cm=>by obtain rfl|rfl|rfl|rfl|rfl:j=0\/j=1\/j=3\/j=4\/j=5:=ah;all_goals exact⟨rfl,rfl⟩);refine iN.after K.out (iN.after a5 (b9.row 2 ah v8 (by rw[Y.out];exact E) (by rw[Y.out];exact bl) (eQ (fw _ _) (.inl rfl) _) ?_ Z bv rfl (.inr ⟨ah,rfl⟩)));have ch:Bv (d.r.ls++[(⟨s,x1,u⟩:Ls)])=Bv d.r.ls++[.int .i64 s,.int .i64 x1,.int .i64 u]:=vf _ _;show z.ownsRow w0.heap.size 169 3 v8 (d.r.ls++[(⟨s,x1,u⟩:Ls)]).length (Bv (d.r.ls++[(⟨s,x1,u⟩:Ls)]));rw[ch,aT,hm];exact b6);have cj:Hid (∀q,I.ownBlock=some q->q≠gk):=eJ (fun q e=>by have h1:=H.out.dk.lo (i:=q) (.inr (.inl ⟨2,ah,by rw[Y.out];exact e⟩));omega);obtain⟨T,bj⟩: ∃T:World->Prop,(fun W=>W.cell? ⟨g,11,none⟩=some I/\W.cell? ⟨gk,0,none⟩=some (.int .i64 s)/\W.cell? ⟨gk,1,none⟩=some (.int .i64 x1)/\W.cell? ⟨gk,2,none⟩=some (.int .i64 u))=T:=⟨_,rfl⟩;have ad:Hid (T=fun W=>W.cell? ⟨g,11,none⟩=some I/\W.cell? ⟨gk,0,none⟩=some (.int .i64 s)/\W.cell? ⟨gk,1,none⟩=some (.int .i64 x1)/\W.cell? ⟨gk,2,none⟩=some (.int .i64 u)):=eJ bj.symm;have aA:Hid (∀W:World,W.heap[gk]? =w2.heap[gk]? ->W.cell? ⟨gk,0,none⟩=some (.int .i64 s)/\W.cell? ⟨gk,1,none⟩=some (.int .i64 x1)/\W.cell? ⟨gk,2,none⟩=some (.int .i64 u)):=eJ (fun W hq=>⟨(bo (a:=⟨gk,0,none⟩) hq).trans a6,(bo (a:=⟨gk,1,none⟩) hq).trans n1,(bo (a:=⟨gk,2,none⟩) hq).trans bk⟩);have be:Hid (T w2.drew):=eJ (by rw[ad.out];exact⟨aa,aA.out _ rfl⟩);have bx:Hid (T (w2.drew.alloc (.cells #[.int .i64 s,.int .i64 x1,.int .i64 u] 169))):=eJ (by rw[ad.out];exact⟨a8,aA.out _ (bu _ _ _ a4)⟩);have ca:Hid (∀z,(w2.drew.alloc (.cells #[.int .i64 s,.int .i64 x1,.int .i64 u] 169)).grownBy z I.ownBlock->T z):=eJ (fun z E=>by rw[ad.out];exact⟨(ao.out z E).1,aA.out _ ((E.block gk ag (fun e=>cj.out gk e.symm rfl)).trans (bu _ _ _ a4))⟩);clear a9 hm ac bj a8;go_wp2_with fail;refine wp_region_noPanic ?_;refine fU (S:=T) (L:=21) ai ?_;clear aa a6 n1 bk;have a3:=be.out;try simp only[ba,aP,bh,Nat.reduceAdd]
   refine il (fuel:=6) ai (fun _ _ _ _ h=>h) an [0,1,2,3,4,5,6,7,8,9,10,11,12,13,14,15] ai ?_;iterate 16
    refine⟨_, ?_,rfl,.inl ⟨by rfl, ?_⟩, ?_⟩;rotate_left
    ·(intro w9 a7;rw[ad.out] at a7;obtain⟨co,ck,cV,cu⟩:=a7;go_simp<;>with_reducible rfl)
    try simp only[Act.put,ax,aE,aD,aB,ay,az]
   unfold ou;clear a3;have a3:=be.out;refine eK (i:=16) ai rfl (fun J C=> ?_);try simp only[aB,ay,az]
   go_simp;refine C.out _ _ (fun _=>bx.out) ?_;clear C J a3;try simp only[Act.put,ax,aE,aD]
   refine eK (i:=17) ai rfl (fun J C=> ?_);try simp only[aB,ay,az]
   rw[aM (by rfl)];refine fI _ (.tmp 15) (.tmp 26) 31 rfl w0.heap.size 169 i0 _ 3 24 underlying31 hi ce cd bz rfl aj I m (Bv d.r.ls) rfl (by exact bq.out) ⟨w2.heap.size,0,none⟩ 1 1 [.int .i64 s,.int .i64 x1,.int .i64 u] rfl rfl (by exact ci.out) (Fo s x1 u) bf.out.1 bf.out.2 (by exact b8.out) ?_;intro v8 w8 X E bi;obtain⟨cx,ct,rfl,-⟩:=gK X;have bt:=eJ X;have bw:=eJ E;have cc:=eJ bi;have am:=eJ (ca.out w8 E);have aa:=(ao.out w8 E).1;have f11:=(ao.out w8 E).2.1;clear X E bi;refine C.out _ _ (fun _=>am.out) ?_;clear C J;try simp only[Act.put,ax,aE,aD]
   refine eK (i:=18) ai rfl (fun J C=> ?_);try simp only[aB,ay,az]
   go_simp;refine C.out _ _ (fun _=>am.out) ?_;clear C J;try simp only[Act.put,ax,aE,aD]
   refine eK (i:=19) ai rfl (fun J C=> ?_);try simp only[aB,ay,az]
   go_simp;refine C.out _ _ (fun _=>am.out) ?_;clear C J;try simp only[Act.put,ax,aE,aD]
   refine eK (i:=20) ai rfl (fun J C=> ?_);try simp only[aB,ay,az]
   go_simp;refine C.out _ _ (fun _=>am.out) ?_;clear C J;try simp only[Act.put,ax,aE,aD]
   refine eK (i:=21) ai rfl (fun J C=> ?_);try simp only[aB,ay,az]
   go_simp;refine C.out _ _ (fun h9=>absurd h9 aj) ?_;clear C J;try simp only[Act.put,ax,aE,aD]
   refine fT ai ?_ _;refine NoPanic.normal ?_;go_wp2_with fail;go_ret;rw[ap.out];exact⟨rfl,bn.out _ _ bt.out bw.out cc.out⟩
end
end Go.Proofs.YtideefjnlakciaaGreatDoor
