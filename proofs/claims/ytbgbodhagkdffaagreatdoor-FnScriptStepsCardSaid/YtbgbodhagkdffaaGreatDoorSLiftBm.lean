/- Tools. -/
import Derived.Test.YtbgbodhagkdffaaGreatDoorSLiftWW
import Derived.Test.YtbgbodhagkdffaaGreatDoorSLiftBld
set_option linter.unusedVariables false
namespace Go.Lift
open Go Go.Shelf Go.RowKit Go.Proofs
open Go renaming TypeId -> bM
open Option renaming some -> Y
open List renaming length -> U
abbrev Bo(T e:bM)(k:Nat)(p v:V):E:= .bn (W6 T e) 0 1 [[.fF,.bX []]] [(0,0,p),(0,1,v)]
abbrev s6(T e:bM)(p:V)(g:Nat)(x:List UInt8):List E:=[Bo T e 0 p (ms 1 g 1 dX x),aN e g 1 dX x]
variable {p:V}{G:gC}{e:bM}{g b:Nat}{x:List UInt8}{d:Map}{w:World}{X:Nat->Prop}{u:Value}
theorem adj{v:V}{j:Nat}{c:V}(h:(0,j,c)∈[((0:Nat),(0:Nat),p),(0,1,v)]):(j=0/\c=p)\/(j=1/\c=v):=by
 simp at h;rcases h with ⟨rfl,rfl⟩|⟨rfl,rfl⟩
 ·exact .inl ⟨rfl,rfl⟩
 exact .inr ⟨rfl,rfl⟩
theorem UI{T:bM}(R:xo G (s6 T e p g x) d w X):
  ∃(b:Nat) (m:Array Value) (zt L:Value) (q:Option Nat) (B:Nat->Nat->Nat->Prop),d 0=Y (Y b,1)/\d 1=Y (q,g)/\1<=g/\w.heap[b]? =Y (.cells m T (0,0))/\2<=m.size/\m[0]? =Y zt/\m[1]? =Y L/\
   bI d w (mh X d (gx (s6 T e p g x) 0)) p zt/\w.ownsRow 0 e 1 L (U x) (Lib.byteCells x)/\L.ownBlock=q/\q≠Y b/\
   (∀i j c,¬B i j c)/\ ∀c,d.n 0 c↔ ∃i j,B i j c:=by
 have K:=R.heap 0 _ rfl;have A:=R.heap 1 _ rfl;generalize pQ:mh X d (gx (s6 T e p g x) 0)=w7 at K A⊢;simp only[dJ] at K A;obtain⟨_,⟨_,h,_⟩|⟨b,m,B,br,W,f,hrl,C,s,anL,t⟩⟩:=K
 ·cases h
 have Q:2<=m.size:=by simpa[ba] using f
 have h0:m[0]? =Y m[0]:=jQ O;have h1:m[1]? =Y m[1]:=jQ O;have c0:=(C 0 0 _ _ m[0] rfl rfl (by simp[ba])).1 p aZ;have F:=(C 0 1 _ _ m[1] rfl rfl (by simp[ba])).1 (ms 1 g 1 dX x) aZ;have u: ∀i j c,¬B i j c:=λi j c v=>by
  obtain⟨aW,a2,_⟩:=s i j c v;have E:i=0:=by simpa using aW
  have Wh:j<2:=by simpa[ba] using a2
  subst E;rcases(by omega:j=0\/j=1) with rfl|rfl
  ·exact c0.2 c v
  exact F.2 c v
 obtain⟨b9,A⟩:=A;have M: ∃q,d 1=Y (q,g)/\w.ownsRow 0 e 1 m[1] (U x) (Lib.byteCells x)/\m[1].ownBlock=q:=by
  generalize m[1]=L at F⊢;rcases A with ⟨aW,a2⟩|⟨dQ,o,aW,a2,a3,a4,a5⟩
  ·have hx:x=[]:=by cases x with
    |nil=>rfl
    |cons c l=>simp at a2
   subst hx;have F:=F.1;cases F with
   |bE _ _ _ _ _ cap b n ty N a=>rw[aW] at a;cases a
   |jh _ _ _ _ a=>exact⟨none,aW,World.ownsRow_nil _ _ _ _,rfl⟩
   |mc _ _ _ _ _ _ ub iM eI a r=>rw[aW] at a;cases a;exact bu r (Nat.lt_irrefl _)
  have F:=F.1
  change bI d w w7 (V.bE 1 g 1 0 (U (List.map dX x))) L at F
  generalize H:U (List.map dX x)=aoJ at F;rw[er] at H;subst H;generalize H:U x=aoJ at F;cases F with
  |bE _ _ _ _ _ cap iG n ty N a hw' hs dc dm hm=>
   subst H;rw[aW] at a;cases a;have S:o.size=n:=by simp[World.shape?,a2] at hs;exact hs.2
   have GJ:o.size=cap:=by rw[S,<-dc];omega
   refine⟨Y dQ,aW,⟨by simp[Lib.byteCells],.inr ⟨dQ,cap,o,aZ,uF _,a2,by simpa using dm,hm,O,?_⟩⟩,by simp[Value.ownBlock]⟩;have anu:U x<=o.size:=by simpa using a3
   apply List.ext_getElem?;intro i;rw[iC];split
   ·rename_i r;have r:i<U x:=O
    have hu:o[i]? =Y o[i]:=jQ O;have z:=a5 i 0 (dX x[i]) (.int .u8 (x[i].toNat:Nat)) o[i] (by simp[r]) rfl aZ;cases y:o[i] with
    |int k n=>rw[y] at z;cases z;simp[Lib.byteCells,r,y,hu]
    |_=>rw[y] at z;cases z
   rename_i jt;rw[zx (by simp[Lib.byteCells];omega)]
  |jh _ _ _ _ a=>rw[aW] at a;cases a
  |mc _ _ _ _ _ _ ub iM eI a r=>rw[aW] at a;cases a;exact bu r (Nat.lt_irrefl _)
 obtain⟨q,Cc,k2,vZ⟩:=M;refine⟨b,m,m[0],m[1],q,B,br,Cc,b9,W,Q,h0,h1,c0.1,k2,vZ,λdR=>?_,u,t⟩;subst dR;exact bu (R.inj 0 1 b (.inl ⟨_,br⟩) (.inl ⟨_,Cc⟩)) (by decide)
theorem UJ{T:bM}{Q R:V}{y:List UInt8}{C:World}{us o:Array Value}{q A:Option Nat}{B:Nat->Nat->Nat->Prop}{r:V}{f:Nat->Value}
  (F:xo G (s6 T e p g x) d w X) (br:d 0=Y (Y b,1)) (N:d 1=Y (q,g)) (b9:1<=g) (S: ∀i j c,¬B i j c) (GH: ∀c,d.n 0 c↔ ∃i j,B i j c)
  (K:jE b q w C) (akp:C.heap[b]? =Y (.cells o T (0,0))) (jc:2<=o.size) (H: ∀k,A=Y k->q=Y k\/(w.heap.size<=k/\k<C.heap.size))
  (hp: ∀u,o[0]? =Y u->bI (d.put 1 (Y (A,g+1))) C (mh X (d.put 1 (Y (A,g+1))) (gx [Bo T e 0 Q R,aN e (g+1) 1 dX y] 0)) Q u)
  (b0: ∀u,o[1]? =Y u->bI (d.put 1 (Y (A,g+1))) C (mh X (d.put 1 (Y (A,g+1))) (gx [Bo T e 0 Q R,aN e (g+1) 1 dX y] 0)) R u)
  (hy:(A=none/\y=[])\/ ∃M m,A=Y M/\C.heap[M]? =Y (.cells m e (0,0))/\(U y)<=m.size/\m.toList.take (U y)=Lib.byteCells y)
  (cC: ∀β X,bI β C X r u):
  Left d (d.put 1 (Y (A,g+1))) (s6 T e p g x) [Bo T e 0 Q R,aN e (g+1) 1 dX y] w C X r u:=by
 have L: ∀id k,At (d.put 1 (Y (A,g+1))) id k->At d id k\/(id=1/\w.heap.size<=k/\k<C.heap.size):=by
  rintro id k (⟨iM,h⟩|h)
  ·by_cases hid:id=1
   ·subst hid;rw[d5] at h;cases h;rcases H k rfl with h|h
    ·subst h;exact .inl (.inl ⟨_,N⟩)
    exact .inr ⟨rfl,h⟩
   rw[gv _ _ _ _ hid] at h;exact .inl (.inl ⟨_,h⟩)
  exact .inl (.inr h)
 have W: ∀id k,At d id k->id<2:=by
  rintro id k (⟨iM,h⟩|h)<;>apply wN<;>intro s
  ·rw[F.fw id s] at h;cases h
  exact F.fS id k s h
 refine⟨⟨K.os,K.tape,K.output,K.size,λk l hx=>K.keep k l (λe=>hx ⟨0,.inl ⟨_,e▸br⟩⟩) λe=>hx ⟨1,.inl ⟨_,by rw[N,<-e]⟩⟩⟩,?_,λk l=>K.j' k l,?_,λk c l=>F.fS k c l,?_,?_,?_,cC _ _⟩
 ·intro id hid;by_cases h:id=1
  ·subst h;exact .inr ⟨q,g,A,g+1,N,b9,d5 _ _ _,p7 _,λk l=>(H k l).imp id And.left⟩
  exact .inl (gv _ _ _ _ h)
 ·intro k l;have l:2<=k:=l;rw[gv _ _ _ _ O];exact F.fw k l
 ·intro id k9 k aW a2;rcases L _ _ aW with aW|⟨rfl,aW,_⟩<;>rcases L _ _ a2 with a2|⟨rfl,a2,_⟩
  ·exact F.inj _ _ _ aW a2
  ·have:=(F.place _ _ aW).1;omega
  ·have:=(F.place _ _ a2).1;omega
  rfl
 ·intro id k a;rcases L _ _ a with a|⟨rfl,aW,a2⟩
  ·exact⟨.inl ⟨id,W _ _ a,a⟩,lP (F.place _ _ a).1 K.size⟩
  exact⟨.inr aW,a2⟩
 intro k GC l
 match k with
 |0=>
  simp at l;subst l;simp only[dJ];refine⟨dV _,.inr ⟨b,o,B,by rw[gv _ _ _ _ (by decide)];exact br,akp,by simpa[ba] using jc,by simp[ba],λi j t x u aW a2 a3=>?_,λi j c h=>bu h (S i j c),λi j ju fx c h=>bu h (S i j c),GH⟩⟩;have yt:i=0:=by
   have:=(cI.1 aW).1;simpa using this
  subst yt;simp at aW;subst aW;simp[ba] at a3;have hj:j=0\/j=1:=by
   have:=(cI.1 a2).1;simp at this;omega
  refine⟨λv vP=>⟨?_,S 0 j⟩,λdc=>?_⟩
  ·rcases adj vP with ⟨rfl,rfl⟩|⟨rfl,rfl⟩
   ·exact hp u a3
   exact b0 u a3
  rcases hj with rfl|rfl
  ·exact bu aZ (dc Q)
  exact bu aZ (dc R)
 |1=>
  simp at l;subst l;simp only[dJ];refine⟨Nat.succ_le_succ (uF _),?_⟩;rcases hy with ⟨rfl,rfl⟩|⟨M,m,rfl,aW,a2,a3⟩
  ·exact .inl ⟨d5 _ _ _,rfl⟩
  refine .inr ⟨M,m,d5 _ _ _,aW,by simpa using a2,λt E=>?_,λi j t z u Cc k2 vZ=>?_⟩
  ·obtain⟨c,_,rfl⟩:=fh.1 E;rfl
  rw[fG] at Cc;obtain⟨c,ch,rfl⟩:=Option.map_eq_some_iff.1 Cc;have hj:j=0:=by
   have:=(cI.1 k2).1;simpa using this
  subst hj;simp at k2;subst k2;have hlt:=(cI.1 ch).1;have mQ:(m.toList.take (U y))[i]? =Y u:=by
   rw[iC,bk hlt];simpa using vZ
  rw[a3] at mQ;simp[Lib.byteCells,ch] at mQ;subst mQ;exact .int _ _
 |k+2=>simp at l
theorem Lm{G:Map}(d:G 0=Y (Y b,1))(h:bI G w X (.c' 0 1 2 0 0) u):u= .pointer (Y ⟨b,0,none⟩):=by
 cases h with
 |c' _ _ _ _ _ e _ a=>rw[d] at a;cases a;rfl
 |nx _ _ _ _ _ _ q g i a c=>rw[d] at a;cases a;exact bu c (by decide)
section
variable {P:Program}{ρ:Ren}
theorem ajq(L:Lays.n166 P ρ)(B:Proofs.Builder.Extra P ρ)(m:P.cellsOf (ρ.t 72)=2)(z:gw P (ρ.f 166))(G:gC)(p:V)(hp:p= .t .fF\/p= .c' 0 1 2 0 0)(g:Nat)(x s:List UInt8)(hlen:U x+U s<=1000000000):
  kF P G (ρ.f 166) (s6 (ρ.t 72) (ρ.t 5) p g x) [.c' 0 1 2 0 0,bf s] (.dB [D (U s),.t .hc]) (s6 (ρ.t 72) (ρ.t 5) (.c' 0 1 2 0 0) (g+1) (x++s)):=by
 refine⟨z,?_⟩;intro w X A args kr iy aO d;obtain⟨b,us,R,aoP,q,aoW,Q,h1,b9,W,j,e0,e1,C,F,dR,v,gU,E⟩:=UI aO
 match args,d with
 | [a0,aW],d=>
  have M:=Lm Q d.1;have N:aW= .string ⟨s.toArray⟩:=by
   have:=d.2.1;cases this with|t _ _ h=>cases h;rfl
  subst M;subst N;have S:R= .pointer none\/R= .pointer (Y ⟨b,0,none⟩):=by
   rcases hp with rfl|rfl
   ·cases C with|t _ _ h=>cases h;exact .inl rfl
   exact .inr (Lm Q C)
  have o:U (Lib.byteCells x)=U x:=Lib.byteCells_length x;have r:(⟨s.toArray⟩:ByteArray).size=U s:=by simp[ByteArray.size]
  refine(Yu L B m b us R aoP (Lib.byteCells x) ⟨s.toArray⟩ w W j e0 e1 S (by rw[o];exact F) (by rw[dR];exact v) (by rw[o,r];omega)).mono ?_;rintro e bZ ⟨rfl,fr,gM,T,WD,z0,w6,a,k7,l⟩;rw[dR] at k7 l;rw[r] at a;have alD:Lib.strCells ⟨s.toArray⟩=Lib.byteCells s:=by simp[Lib.strCells_eq]
  rw[alD,o,<-Lib.byteCells_append] at a;have H:(A.put 1 (Y (fr.ownBlock,g+1))) 0=Y (Y b,1):=by rw[gv _ _ _ _ (by decide)];exact Q
  refine⟨_,(),A.put 1 (Y (fr.ownBlock,g+1)),rfl,trivial,UJ (us:=us) (f:=λ_=>undef) aO Q h1 b9 gU E k7 T O l (λu k=>?_) (λu k=>?_) ?_ λβ w7=>?_⟩
  ·rw[z0] at k;cases k;exact .c' 0 1 2 0 0 b (dV _) H
  ·rw[w6] at k;cases k;rcases a.2 with ⟨rfl,fo⟩|⟨iM,K,y,rfl,_,aW,a2,a3,a4,a5⟩
   ·have al1:U (x++s)=0:=by simpa using fo
    have:=oJ al1;rw[this];exact .jh 1 (g+1) 1 O (d5 _ _ _)
   have:(V.bE 1 (g+1) 1 0 (U ((x++s).map dX)))= .bE 1 (g+1) 1 0 (U x+U s):=aZ
   show bI _ _ _ (V.bE 1 (g+1) 1 0 (U ((x++s).map dX))) _;rw[this];exact .bE 1 (g+1) 1 0 (U x+U s) K iM y.size (ρ.t 5) O (d5 _ _ _) (mm.1 aW).1 (by simp[World.shape?,aW]) O a2 a3
  ·rcases a.2 with ⟨rfl,fo⟩|⟨iM,K,y,rfl,_,aW,a2,a3,a4,a5⟩
   ·exact .inl ⟨rfl,oJ (by simpa using fo)⟩
   refine .inr ⟨iM,y,rfl,aW,bV,?_⟩;rw[<-a5];simp
  refine .dB _ _ rfl (λi c u m k=>?_)
  match i with
  |0=>simp at m k;subst m;subst k;rw[r];exact .t _ _ (.int _ _)
  |1=>simp at m k;subst m;subst k;exact .t _ _ .hc
  |n+2=>simp at m
 | [],d=>exact d.elim
 | [_],d=>exact d.2.elim
 |_::_::_::_,d=>exact d.2.2.elim
theorem ajp(L:Lays.n169 P ρ)(B:Proofs.Builder.Extra P ρ)(c:gw P (ρ.f 169))(G:gC)(p:V)(g:Nat)(x:List UInt8)(H:x≠[]):
  kF P G (ρ.f 169) (s6 (ρ.t 72) (ρ.t 5) p g x) [.c' 0 1 2 0 0] (bf x) [Bo (ρ.t 72) (ρ.t 5) 0 .d' .d',aN (ρ.t 5) (g+1) 1 dX []]:=by
 refine⟨c,?_⟩;intro w X i args E M y a;obtain⟨b,z,N,K,q,S,A,Q,R,d,l,T,W,j,h,C,m,s,n⟩:=UI y
 match args,a with
 | [a0],a=>
  have o:=Lm A a.1;subst o;refine(Y0 L B b z K x H w d W h (by rw[C];exact m)).mono ?_;rintro e bZ ⟨rfl,r,F⟩;rw[C] at F;exact⟨_,(),i.put 1 (Y (none,g+1)),rfl,trivial,UJ (us:=z) (f:=λ_=>undef) y A Q R s n F (r.trans d) l (λk v=>by cases v) (λu _=> .d' _) (λu _=> .d' _) (.inl ⟨rfl,rfl⟩) λβ w7=> .t _ _ (.str _)⟩
 | [],a=>exact a.elim
 |_::_::_,a=>exact a.2.elim
end
end Go.Lift
