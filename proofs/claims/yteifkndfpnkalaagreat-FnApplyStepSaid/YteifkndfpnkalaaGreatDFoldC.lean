/- Tools. -/
import Derived.Test.YteifkndfpnkalaaGreatDTran1
set_option maxRecDepth 100000
set_option linter.unusedVariables false
namespace Go.Lift
open Go
open Option renaming some -> aa, bind -> bO
open Bool renaming true -> ab, false -> ak, and_eq_true -> b9
open Decidable renaming decide -> ag
open List renaming length_append -> ik, all_eq_true -> hS, length_take -> k8, length_drop -> lN, map_cons -> gd
section
theorem ab4{k R:Type}{f g:k->List R}{l:List k}(h: ∀x∈l,f x=g x):l.flatMap f=l.flatMap g:=by rw[pC,pC,lZ h]
def lK(s:Stmt):Stmt:=⟨s.write,fI 5 s.value⟩
def iR(x:Part):Part:=⟨x.nest,x.body.map lK⟩
def nX(p:Prog):Prog:=⟨p.aP,p.parts.map iR⟩
variable {n:Nat}{s:Stmt}{d e:Int}{p:Prog}{r:List cn}
theorem Yt(c:7000<=n)(a:eS s d=ab):xc n s=aa (lK s):=by
 obtain⟨n,rfl⟩: ∃j,n=j+1:=⟨n-1,O⟩
 unfold xc;rw[Tg O a];refine ad.eq (ae rfl (ae (J3 5 n s.value O (gj a).2.1) (ad.some rfl)))
def rs(p:Prog):Prog×Bool:=if bM p=ab then(nX p,ab) else eV
theorem Vg(q:7000<=n)(w:dn 1000 p):En n p=aa (rs p):=by
 unfold En rs;refine ad.eq (ae (rD q w.sm) (ad.cond (λh=>ad.some ?_) λh=>?_))
 ·rw[aQ (by simpa using h)];rfl
 have i:bM p=ab:=by simpa using h
 rw[aR i];obtain⟨Q,R,X,y,_⟩:=dZ i;refine ae (uf O i) ?_;refine zU (l:=p.parts) (n:=n) (F:=λd k=>bn (λa ((c,e):(List Stmt)×Int)=>
    bif ag (e<(d.body.length:Int)) then(
     bO (ax c e) λz=>
     bO (xc n z) λA=>
     bO (ca c e A) λB=>
     a (B,wr (e+1))
    ) else(
     bO (jg d.body c) λZ=>
     k (⟨d.nest,c⟩:Part)
    )
   ) n (d.body,0)) (W:=λ_ o=>o) (m:=λ_=>(p.parts.length:Int)) (g:=iR) (s:=0) (K:=λC=>aa ((⟨p.aP,C⟩:Prog),ab)) (λ_ _ _ h=>h) (λ_ _=>rfl) O (λx G k r=>?_) O O (ad.some ?_)
 ·obtain⟨_,b,H,_⟩:=gx (y x G);refine zU (l:=x.body) (n:=n) (F:=λx k=>bO (xc n x) k) (W:=λ_ o=>o) (m:=λ_=>(x.body.length:Int)) (g:=lK) (s:=0) (K:=λc=>bO (jg x.body c) λ_=>k (⟨x.nest,c⟩:Part)) (λ_ _ _ h=>h) (λ_ _=>rfl) O (λs L k r=>ae (Yt q (H s L)) r) O O ?_;refine ae (pw aX) ?_
  have:(⟨x.nest,x.body.take 0++(x.body.drop 0).map lK⟩:Part)=iR x:=by simp[iR]
  grind
 simp[nX]
theorem WM(h:7000<=n)(i:d<=4)(a:eS s d=ab)(e:eS s 4=ab):Ay n s=aa (lK s,ab):=by
 obtain⟨n,rfl⟩: ∃j,n=j+1:=⟨n-1,O⟩
 have c:jx 4 s:=RS a;unfold Ay;refine ad.eq (ae (KM O (c.mono (O:4<=1000)).sm 4) ?_);rw[e];refine b8 (ae (Ad O ((c.mono (O:4<=1000)).1).sm) (ae (Tr 5 n s.value O (gj a).2.1) (ad.some rfl)))
theorem Pw{a:az}(h:fz a d=ab)(c:d<=e):fz a e=ab:=by
 unfold fz at h⊢
 grind
theorem QZ{a:b0}(h:fX a d=ab)(c:d<=e):fX a e=ab:=by unfold fX at h⊢;rw[nS,gP] at h;rw[h.2,Bool.and_true];exact gP.2 λx i=>Pw (h.1 x i) c
theorem afj{x:Expr}(h:eX x d=ab)(a:d<=e):eX x e=ab:=by
 unfold eX at h⊢;split at h
 ·rename_i c;rw[aR c];simp only[b9] at h⊢;exact⟨h.1,h.2.1,Pw h.2.2 a⟩
 rename_i c;rw[aQ c];split at h
 ·rename_i i;rw[aR i];simp only[b9] at h⊢;exact⟨h.1,h.2.1,QZ h.2.2 a⟩
 rename_i i
 grind
theorem N'{d e:Int}(a:d<=e): ∀{L:Nat} {x:Expr},dp L x d=ab->dp L x e=ab
 |0,_,h=>by cases h
 |L+1,x,h=>by obtain⟨i,l,m⟩:=gi h;exact Ew i (afj l a) λk c=>N' a (m k c)
theorem ade(h:eS s d=ab):eS s 4=ab:=by unfold eS at h⊢;simp only[b9,decide_eq_true_eq] at h⊢;exact⟨O,QZ h.2.1 h.1.2,N' h.1.2 h.2.2.1,h.2.2.2⟩
theorem adg(h:eS s d=ab):d<=4:=by
 unfold eS at h
 grind
theorem Vi(L:7000<=n)(r:dn 1000 p):Ei n p=aa (rs p):=by
 unfold Ei rs;refine ad.eq (ae (l2 O r) (ae (lp L r.sm) (ad.cond (λh=>ad.some ?_) λh=>?_)))
 ·rw[aQ (by simpa using h)];rfl
 have Q:bM p=ab:=by simpa using h
 rw[aR Q];obtain⟨u,v,D,Z,_⟩:=dZ Q;refine ae (o6 O r) ?_;refine ad.loop (λz:List Part×Int=> ∃i:Nat,z.2=i/\i<=p.parts.length/\z.1=(p.parts.take i).map iR++p.parts.drop i) (λz=>p.parts.length-z.2.toNat) ?_ n _ ⟨0,rfl,O,aX⟩ J;rintro w ⟨x,z⟩ ⟨i,R,E,e⟩ b;dsimp only at R e⊢;subst R;have a:((p.parts.take i).map iR).length=i:=by rw[dJ,cZ];omega
 have A:x.length=p.parts.length:=by rw[e,ea,a,fM];omega
 rw[A];refine aW (λf=>?_) λg=>ad.some ?_
 ·obtain⟨P,m⟩: ∃P,p.parts[i]? =aa P:=⟨_,bp (O:i<p.parts.length)⟩
  have B:x[i]? =aa P:=by
   rw[e,iD O,a,kB,gY];exact m
  obtain⟨_,I,t,_⟩:=gx (Z P (bx m));refine ad.loop (λz:List Part×Int=> ∃j:Nat,z.2=j/\j<=P.body.length/\z.1=x.set i ⟨P.nest,(P.body.take j).map lK++P.body.drop j⟩) (λz=>P.body.length-z.2.toNat) ?_ n _ ⟨0,rfl,O,by
   dsimp only;rw[List.take_zero,List.map_nil,uG,pE];exact(Ts B).symm⟩ J
  rintro o ⟨y,M⟩ ⟨j,k,N,l⟩ C;dsimp only at k l⊢;subst k;have F:y[i]? =aa ⟨P.nest,(P.body.take j).map lK++P.body.drop j⟩:=by rw[l,gC O]
  have c:((P.body.take j).map lK).length=j:=by rw[dJ,cZ];omega
  have G:((P.body.take j).map lK++P.body.drop j).length=P.body.length:=by rw[ea,c,fM];omega
  refine ae (bl F) ?_;dsimp only;rw[G];refine aW (λW=>?_) λX=>?_
  ·obtain⟨s,q⟩: ∃s,P.body[j]? =aa s:=⟨_,bp (O:j<P.body.length)⟩
   have H:((P.body.take j).map lK++P.body.drop j)[j]? =aa s:=by
    rw[iD O,c,kB,gY];exact q
   have d:=t s (bx q);refine ae (bl H) (ae (WM L (adg d) d (ade d)) (ae (dU O _) (ae (dU (by rw[l,e6];omega) _) ?_)));rw[bc O];refine C _ ⟨j+1,J,O,?_⟩ J;dsimp only;rw[l,cf,cf,uL,nP _ _ O,c,kB,im q,zY,eN,q];simp
  have K:j=P.body.length:=O
  rw[bc O];refine b _ ⟨i+1,J,O,?_⟩ J;dsimp only;rw[l,K,dW,pA,kb,e,nP _ _ O,a,kB,im m,zY,eN,m];simp[iR]
 have:i=p.parts.length:=O
 rw[e,this,dW,pA,kb];rfl
theorem adU(h:eS s d=ab):eS (lK s) d=ab:=by obtain⟨c,a,_⟩:=gj h;unfold eS at h⊢;simp only[b9,decide_eq_true_eq] at h⊢;exact⟨h.1,c,qe a,by have:=R4 a;show dM 5 (fI 5 s.value)<=12;omega⟩
theorem Yx(c:eS s d=ab){q:List Int}(h:hK r s q=ab):hK r (lK s) q=ab:=by unfold hK at h⊢;rw[nS,gP] at h;rw[show(lK s).write=s.write from rfl,h.1,gp];exact gP.2 λa e=>h.2 a (R5 (gj c).2.1 a e)
theorem Gf(x:Part):dG (iR x)=dG x:=rfl
theorem aap{x:Part}(h:d' r x=ab):d' r (iR x)=ab:=by
 obtain⟨e,i,d,k⟩:=gx h;unfold d' oX;rw[show(iR x).nest=x.nest from rfl,e,Gf];have l:(iR x).body=x.body.map lK:=rfl;rw[l,dJ,bI i];simp only[Option.isSome_some,Bool.true_and,b9,hS];refine⟨λs c=>?_,λs c q m=>?_⟩
 ·obtain⟨t,a,rfl⟩:=eA.1 c;exact adU (d t a)
 obtain⟨t,a,rfl⟩:=eA.1 c
 have:=k t a q m;exact⟨Yx (d t a) this.1,this.2⟩
theorem Yy(p:Prog):I (nX p).parts=I p.parts:=by unfold I nX;dsimp only;rw[List.zipIdx_map,pB];refine ab4 λy _=>?_;obtain⟨x,j⟩:=y;show ew j (iR x)=ew j x;unfold ew;rw[Gf,show(iR x).body.length=x.body.length by simp[iR]]
theorem adV(h:bM p=ab):bM (nX p)=ab:=by
 unfold bM ky at h⊢;simp only[b9,decide_eq_true_eq,hS] at h⊢;obtain⟨⟨a,c,d⟩,e⟩:=h;refine⟨⟨a,by simpa[nX] using c,λx i=>?_⟩,?_⟩
 ·obtain⟨y,k,rfl⟩:=eA.1 i;exact aap (d y k)
 show((p.parts.map iR).map d5).sum<=120;rw[fv,show p.parts.map (d5 ∘ iR)=p.parts.map d5 from lI (λx _=>by
  show d5 (iR x)=d5 x;unfold d5;rw[Gf,show(iR x).body.length=x.body.length by simp[iR]])]
 exact e
theorem aaq(h:bM p=ab){m:List Int}(n:fD p.aP m):c4 (nX p) m (I (nX p).parts)=c4 p m (I p.parts):=by
 rw[Yy];have a: ∀x∈I p.parts,da p x:=λx c=>fc c;revert a;unfold c4;generalize I p.parts=l;intro a;induction l generalizing m with
 |nil=>rfl
 |cons x l o=>
  simp only[List.foldl_cons];have c:=a x eD;have e:eI (nX p) m x=eI p m x:=by
   obtain⟨i,k,P,s,d,q,r,w,z,A,B,G,H⟩:=ov h c;have C:ep (nX p) x=aa (lK s):=by
    unfold ep nX;dsimp only;rw[eK,q,cf,w];show(iR P).body[x.stmt.toNat]? =_;unfold iR;dsimp only;rw[eK,r,cf,z];rfl
   unfold eI;rw[A,C];dsimp only;show m.set (dS p.aP s.write x.bU 0).toNat (er 5 p.aP m (fI 5 s.value) x.bU)=_;rw[Jj n (gj B).2.1]
  rw[e];exact o (sJ h n c) λy F=>a y (eo _ F)
end
section
theorem Oz{p:Prog}(B:bM p=ab){l:List bN}(K: ∀x∈l,da p x)(m:List Int){F:List Bool}(v: ∀i,(h' p l).getD i ak=ab->F.getD i ak=ab): ∀k,k<=l.length-> ∀c,I4 p l k c->(c4 p m (l.take k)).getD c 0=(c4 p m (pick l (qO F k))).getD c 0
 |0,_,c,_=>rfl
 |k+1,M,c,C=>by
  have Q:=Oz B K m v k O;obtain⟨x,A⟩: ∃x,l[k]? =aa x:=⟨_,bp (O:k<l.length)⟩
  have R:=K _ (bx A);have r:=(ot B R).2.2.2;have hw:=sb (p:=p) A;have b7:=xL (p:=p) A;have n: ∀q:List bN,(∀y∈q,da p y)->(c4 p m q).length=m.length:=λq h=>Cv B h;have D: ∀y∈l.take k,da p y:=λy W=>K y (gO W);have E: ∀y∈pick l (qO F k),da p y:=λy W=>K y (OR W);have w: ∀e:Nat,jt p l k≠(e:Int)->I4 p l (k+1) e->I4 p l k e:=λe o C=>by
   rcases C with ⟨j,G,L,X,Z,f⟩|h
   ·exact .inl ⟨j,O,L,X,Z,λt a b=>by
     by_cases g:t=k
     ·rw[g];exact o
     exact f t O b⟩
   exact .inr (λt a b=>by
    by_cases g:t=k
    ·rw[g];exact o
    exact h t O b)
  rw[gE A,Ff,r,LO];cases u:(h' p l).getD k ak with
  |true=>
   rw[aR (v k u),GD (x:=x) (by rw[cf];exact A),Ff,r,uN,uN,n _ D,n _ E];rw[Qb B R (m':=c4 p m (pick l (qO F k))) (λd I=>Q _ (.inl ⟨k,cR _,O,u,by
    have:=(ot B R).2.1 d I;rw[b7,zX this.1];exact I,λt G L=>O⟩))]
   by_cases e:c3 p x=c/\c3 p x<m.length
   ·rw[aR e,aR e]
   rw[aQ e,aQ e];by_cases N:c3 p x=c
   ·have G: ∀z:List Int,z.length=m.length->z.getD c 0=0:=λz P=>by
     rw[eP,q' O];rfl
    rw[G _ (n _ D),G _ (n _ E)]
   exact Q c (w c (by rw[hw];omega) C)
  |false=>
   have o:jt p l k≠(c:Int):=by
    intro e;have s:(h' p l).getD k ak=ab:=by
     rw[ack O];rcases C with ⟨j,G,L,X,Z,f⟩|h
     ·exact .inr ⟨j,L,X,OB.2 ⟨(c:Int),Z,PY e O λt a b=>f t O b⟩⟩
     exact .inl ((aaL O).2 λt a b=>by rw[e];exact h t O b)
    rw[u] at s;cases s
   rw[uN,aQ (by rintro⟨e,_⟩;exact o (by rw[hw];omega))];have hi:=Q c (w c o C);by_cases H:F.getD k ak=ab
   ·rw[aR H,GD (x:=x) (by rw[cf];exact A),Ff,r,uN,aQ (by rintro⟨e,_⟩;exact o (by rw[hw];omega))];exact hi
   rw[aQ H,kb];exact hi
variable {p:Prog}{i n:Nat}{P:Part}{a:Int}
theorem aaK(k:bM p=ab){l:List bN}(n: ∀x∈l,da p x)(m:List Int){F:List Bool}(d:F.length=l.length)(o: ∀i,(h' p l).getD i ak=ab->F.getD i ak=ab):c4 p m (pick l (mP F))=c4 p m l:=by
 have h:=Oz k n m o l.length (cR _);rw[dW] at h;have e:qO F l.length=mP F:=by rw[<-L',d]
 rw[e] at h;refine(acm (by rw[Cv k n,Cv k λy q=>n y (OR q)]) λc _=>h c (.inr λt a b=>O)).symm
theorem XQ(f:bN->Bool): ∀(l:List bN),pick l (mP (l.map f))=l.filter f:=by
 intro l;have a: ∀k,k<=l.length->pick l (qO (l.map f) k)=(l.take k).filter f:=by
  intro k;induction k with
  |zero=>intro _;rfl
  |succ k d=>
   intro m;obtain⟨x,c⟩: ∃x,l[k]? =aa x:=⟨_,bp (O:k<l.length)⟩
   have i:(l.map f).getD k ak=f x:=by rw[eP,eK,c];rfl
   rw[LO,i,gE c,pG];cases e:f x with
   |true=>
    rw[aR rfl,GD (x:=x) (by rw[cf];exact c),d O];simp[e]
   |false=>
    rw[aQ aX,kb,d O];simp[e]
 have h:=a l.length (cR _);rw[dW] at h;rw[<-h,<-L',dJ]
def oW(p:Prog)(a:Int):Bool:=(List.range (I p.parts).length).all (λi=>match (I p.parts)[i]? with
 |some x=> !((h' p (I p.parts)).getD i ak&&ag (x.part=a))
 |none=>ab)
theorem xr{part:Int}:oW p part=ab↔ ∀(i:Nat) x,(I p.parts)[i]? =aa x->(h' p (I p.parts)).getD i ak=ab->x.part≠part:=by
 unfold oW
 grind
theorem GI(p:Prog)(l:List bN):(h' p l).length=l.length:=qF p l l.length
def tc(i:Nat)(x:bN):bN:=if(i:Int)<x.part then⟨x.part-1,x.stmt,x.bU⟩ else x
theorem Zj(h:p.parts[i]? =aa P): ∃A X Z,I p.parts=A++(X++Z)/\I (p.parts.take i++p.parts.drop (i+1))=(A++Z).map (tc i)/\(∀x∈A,x.part<(i:Int))/\(∀x∈X,x.part=(i:Int))/\ ∀x∈Z,(i:Int)<x.part:=by
 have hi:=(bR.1 h).1;have c:(p.parts.take i).length=i:=by rw[cZ];omega
 have e:p.parts=p.parts.take i++P::p.parts.drop (i+1):=by rw[<-im h,mX]
 refine⟨I (p.parts.take i),ew i P,((I (p.parts.drop (i+1))).map (fH 1)).map (fH i),?_,?_,λx a=>by have:=nz a;omega,λx a=>J6 a,λx a=>?_⟩
 ·conv=>lhs;rw[e]
  rw[y3,DI,eM,c];congr 2;exact wc λs q=>by unfold fH;simp
 ·rw[y3,c,eM];congr 1
  ·exact(l0 (λx a=>by
    have:=nz a;unfold tc;rw[aQ O])).symm
  rw[fv,fv];refine lI λx a=>?_
  have:=nz a;show fH i x=tc i (fH i (fH 1 x));unfold tc fH
  grind
 obtain⟨y,d,rfl⟩:=eA.1 a;obtain⟨z,k,rfl⟩:=eA.1 d
 have:=nz k;unfold fH
 grind
theorem Iq(e:bM p=ab)(i:Nat):bM ⟨p.aP,p.parts.take i++p.parts.drop (i+1)⟩=ab:=by
 have c: ∀x∈p.parts.take i++p.parts.drop (i+1),x∈p.parts:=λx h=>by
  grind
 have d:=(dZ e).2.2.2.1;have m:=(y4 p.parts)
 have n: ∀l:List Part,(∀x∈l,x∈p.parts)->0<=(l.map d5).sum:=λl o=>by
  induction l with
  |nil=>simp
  |cons a l q=>
   simp only[gd,List.sum_cons]
   have:=(xt (d a (o a eD))).1
   have:=q λx h=>o x (eo _ h);omega
 unfold bM ky at e⊢;simp only[b9,decide_eq_true_eq,hS] at e⊢;obtain⟨⟨aL,a2,a3⟩,a4⟩:=e;refine⟨⟨aL,by simp only[ik,k8,lN];omega,λx h=>a3 x (c x h)⟩,?_⟩;have r:(p.parts.map d5).sum=((p.parts.take i).map d5).sum+((p.parts.drop i).map d5).sum:=by
  conv=>lhs;rw[<-mX i p.parts]
  grind
 have s:((p.parts.drop (i+1)).map d5).sum<=((p.parts.drop i).map d5).sum:=by
  cases k:p.parts.drop i with
  |nil=>
   have:p.parts.drop (i+1)=[]:=by rw[<-List.drop_drop,k];rfl
   rw[this];simp
  |cons a l=>
   have:p.parts.drop (i+1)=l:=by rw[<-List.drop_drop,k];rfl
   rw[this];simp only[gd,List.sum_cons]
   have:=(xt (d a (fq (i:=i) (by rw[k];exact eD)))).1;omega
 grind
theorem Qt(a:bM p=ab)(i:Nat):dn 1000 ⟨p.aP,p.parts.take i++p.parts.drop (i+1)⟩:=(my (Iq a i)).mono O
def rv(p:Prog)(a:Int):Prog×Bool:=if(bM p&&(eT p a&&oW p a))=ab then(⟨p.aP,p.parts.take a.toNat++p.parts.drop (a.toNat+1)⟩,ab) else eV
theorem aa4(K:7100<=n)(L:dn 1000 p)(g: -1<=a/\a<=9):AM n p a=aa (rv p a):=by
 unfold AM rv;refine ad.eq (ae (z6 K L.sm) ?_);by_cases d:bM p=ab
 ·rw[aR d,d];have W:=(dZ d).2.2.2.2;refine bX (ad.aD (λz=>z= !eT p a) (λj k=>b8 (ae (rW n L.2.1 a) (k _ rfl))) λz q=>?_);subst q;cases w:eT p a with
  |false=>exact bX (ad.some rfl)
  |true=>
   have A:0<=a/\a<(p.parts.length:Int):=fF w;refine b8 (ae (x:=h' p (I p.parts)) (aaZ K d) ?_);have B:=GI p (I p.parts);rw[B];refine ad.loop (λz:Int=> ∃i:Nat,z=i/\i<=(I p.parts).length/\ ∀(j:Nat) x,j<i->(I p.parts)[j]? =aa x->(h' p (I p.parts)).getD j ak=ab->x.part≠a) (λz=>(I p.parts).length-z.toNat) ?_ n _ ⟨0,rfl,O,λj x h=>O⟩ O;rintro C z ⟨i,rfl,t,r⟩ X;refine aW (λZ=>?_) λb=>?_
   ·obtain⟨x,F⟩: ∃x,(I p.parts)[i]? =aa x:=⟨_,bp (O:i<(I p.parts).length)⟩
    have G:ax (h' p (I p.parts)) (i:Int)=aa ((h' p (I p.parts)).getD i ak):=by
     have c:i<(h' p (I p.parts)).length:=O
     rw[bl (bp c),eP,bp c];rfl
    have m:ax (gX p).list (i:Int)=aa x:=bl F;refine ae G (ad.aD (λz=>z=((h' p (I p.parts)).getD i ak&&ag (x.part=a))) (λj k=>ad.cond (λh=>ae m (k _ (by rw[h];rfl))) λh=>k _ (by rw[h];rfl)) λz q=>?_);subst q;refine ad.cond (λh=>ad.some ?_) λh=>?_
    ·rw[nS,decide_eq_true_eq] at h
     have:oW p a=ak:=by
      cases f:oW p a with
      |false=>rfl
      |true=>exact bB h.2 (xr.1 f i x F h.1)
     rw[this];rfl
    rw[bc O];refine X _ ⟨i+1,O,O,λj y k H s=>?_⟩ O;by_cases e:j=i
    ·subst e;rw[F] at H;cases H;rw[s,gp] at h;exact of_decide_eq_false h
    exact r j y O H s
   have o:oW p a=ab:=xr.2 λj x Q s=>r j x (by have:=(bR.1 Q).1;omega) Q s;rw[o];refine ae (uf O d) (ae (x:=(fm p.parts a (a+1),kL p.parts a (a+1) (⟨[],[]⟩:Part))) ?_ (ad.some ?_))
   ·unfold wj;rw[bc O,bI A.1,bI (O:a<=a+1),bI (O:a+1<=(p.parts.length:Int)),bJ (show¬a=a+1 by omega)];rfl
   show(⟨p.aP,(kL p.parts a (a+1) (⟨[],[]⟩:Part)).take (fm p.parts a (a+1))⟩,ab)=((⟨p.aP,p.parts.take a.toNat++p.parts.drop (a.toNat+1)⟩:Prog),ab)
   have R:(p.parts.take a.toNat++p.parts.drop (a+1).toNat).length=fm p.parts a (a+1):=by
    unfold fm;simp only[ik,k8,lN];omega
   unfold kL;rw[sr (by rw[R];exact cR _),l9 (l:=p.parts.take a.toNat++p.parts.drop (a+1).toNat) (by rw[R];exact cR _),show(a+1).toNat=a.toNat+1 by omega]
 rw[aQ d,show bM p=ak by simpa using d];refine b8 (ad.aD (λz=>z=ab) (λj k=>bX (k _ rfl)) λz q=>?_);rw[q];exact bX (ad.some rfl)
theorem Z2(W:7100<=n)(o:dn 1000 p)(E: -1<=a/\a<=9):Az n p a=aa (rv p a):=by
 unfold Az rv;refine ad.eq (ae (l2 O o) (ad.aD (λz=>z= !(bM p&&eT p a)) (λj q=>?_) λz X=>?_))
 ·refine ae (lp O o.sm) (ad.cond (λh=>q _ ?_) λh=>?_)
  ·rw[ua h];rfl
  have bW:=r8 h;refine aW (λr=>q _ ?_) λr=>q _ ?_
  ·rw[bW,show eT p a=ak from bJ O];rfl
  by_cases R:(p.parts.length:Int)<=a
  ·rw[bW,bI R,show eT p a=ak from bJ O];rfl
  rw[bW,bJ R,show eT p a=ab from bI O];rfl
 subst X;by_cases bW:bM p=ab
 ·rw[bW];have Z:=(dZ bW).2.2.2.2;cases B:eT p a with
  |false=>exact bX (ad.some rfl)
  |true=>
   have b:0<=a/\a<(p.parts.length:Int):=fF B;refine b8 (ae (Uz W o.sm) (ae (we O bW) ?_));rw[aR bW];have f:=GI p (I p.parts);have g:=MD (h' p (I p.parts));have s: ∀c∈mP (h' p (I p.parts)),∃(i:Nat) (x:bN),c=i/\(I p.parts)[i]? =aa x/\(h' p (I p.parts)).getD i ak=ab:=λc C=>by
    obtain⟨M,r⟩:=FP.1 C;have w:c.toNat<(I p.parts).length:=by
     by_cases h:c.toNat<(I p.parts).length
     ·exact h
     rw[eP,q' O] at r;cases r
    exact⟨c.toNat,_,O,bp w,r⟩
   generalize t:mP (h' p (I p.parts))=L at*;refine ad.loop (λz:Int=> ∃i:Nat,z=i/\i<=L.length/\ ∀c∈L.take i,∀x,(I p.parts)[c.toNat]? =aa x->x.part≠a) (λz=>L.length-z.toNat) ?_ n _ ⟨0,rfl,O,λc C=>by simp at C⟩ O;rintro F z ⟨i,rfl,N,e⟩ u;refine aW (λw=>?_) λv=>?_
   ·obtain⟨c,G⟩: ∃c,L[i]? =aa c:=⟨_,bp (O:i<L.length)⟩
    obtain⟨k,x,rfl,A,H⟩:=s c (bx G);refine ae (bl G) (ae (bl A) (aW (λh=>ad.some ?_) λh=>?_))
    ·have:oW p a=ak:=by
      cases m:oW p a with
      |false=>rfl
      |true=>exact bB h (xr.1 m k x A H)
     rw[this];rfl
    rw[bc O];refine u _ ⟨i+1,O,O,λd m y K=>?_⟩ O;rw[gE G,eC,pF] at m;rcases m with m|rfl
    ·exact e d m y K
    rw[cf,A] at K;cases K;exact h
   have Q:i=L.length:=O
   rw[Q,dW] at e;have l:oW p a=ab:=xr.2 (λj x A H=>by
    have q:((j:Nat):Int)∈L:=by rw[<-t];exact FP.2 ⟨O,by rw[cf];exact H⟩
    exact e _ q x (by rw[cf];exact A))
   rw[l];obtain⟨i,rfl⟩: ∃i:Nat,a=i:=⟨a.toNat,O⟩
   refine ae (x:=(⟨p.aP,p.parts.take i++p.parts.drop (i+1)⟩,ab)) (ad.eq ?_) (ad.some rfl);have D:=o.2.1;unfold kl;refine ae (o6 O o) (ae (iQ O O O) ?_);rw[cf,show(0:Int).toNat=0 from rfl,pE];refine ae (x:=p.parts.take i) (c' bP) (ae (x:=p.parts.take i) (by rw[c' bP,kb]) ?_);rw[bc O];refine ae (iQ O O O) ?_;rw[cf,dW,show((i:Int)+1).toNat=i+1 by omega];refine ae (x:=p.parts.take i++p.parts.drop (i+1)) (c' bP) (ae (lp O (Qt bW i).sm) ?_);rw[Iq bW i];exact b8 (ae (o6 O (Qt bW i)) (ad.some rfl))
 rw[show bM p=ak by simpa using bW];exact bX (ad.some rfl)
theorem aay(h:p.parts[i]? =aa P){x:bN}(d:da p x)(e:x.part≠(i:Int)):ep ⟨p.aP,p.parts.take i++p.parts.drop (i+1)⟩ (tc i x)=ep p x/\(tc i x).bU=x.bU:=by
 have hi:=(bR.1 h).1;have l:(p.parts.take i).length=i:=by rw[cZ];omega
 obtain⟨a,k,n,s,c,o,q,r,w⟩:=d;unfold tc;split
 ·rename_i m;refine⟨?_,rfl⟩;unfold ep;dsimp only;rw[c,show((a:Int)-1).toNat=a-1 by omega,cf,iD O,l,gY,show i+1+(a-1-i)=a by omega]
 refine⟨?_,rfl⟩;unfold ep;dsimp only;rw[c,cf,jo O,gZ,aR O]
theorem acW(q:bM p=ab)(h:p.parts[i]? =aa P)(r:oW p (i:Int)=ab)(m:List Int):c4 ⟨p.aP,p.parts.take i++p.parts.drop (i+1)⟩ m (I (p.parts.take i++p.parts.drop (i+1)))=c4 p m (I p.parts):=by
 obtain⟨A,X,Z,d,s,n,w,o⟩:=Zj h;have e: ∀x∈I p.parts,da p x:=λx a=>fc a;have y:c4 p m (I p.parts)=c4 p m (A++Z):=by
  rw[<-aaK q e m (F:=(I p.parts).map λx=> !decide (x.part=(i:Int))) aX λj k=>?_,XQ]
  ·congr 1;rw[d,pG,pG];have z:A.filter (λx=> !decide (x.part=(i:Int)))=A:=List.filter_eq_self.2 λx a=>by have:=n x a;rw[bJ O];rfl
   have B:X.filter (λx=> !decide (x.part=(i:Int)))=[]:=List.filter_eq_nil_iff.2 λx a=>by rw[bI (w x a)];simp
   have C:Z.filter (λx=> !decide (x.part=(i:Int)))=Z:=List.filter_eq_self.2 λx a=>by have:=o x a;rw[bJ O];rfl
   rw[z,B,C];rfl
  have l:j<(I p.parts).length:=by
   rw[<-GI p (I p.parts)];by_cases G:j<(h' p (I p.parts)).length
   ·exact G
   rw[eP,q' O] at k;cases k
  have a:=bp l
  have:=xr.1 r j _ a k;rw[eP,eK,a];show(!decide _)=ab;rw[bJ this];rfl
 rw[y,s];unfold c4;rw[List.foldl_map];refine wH λx a m=>?_;have c:x∈I p.parts/\x.part≠(i:Int):=by
  rcases eC.1 a with h|h
  ·exact⟨by rw[d];simp[h],by have:=n x h;omega⟩
  exact⟨by rw[d];simp[h],by have:=o x h;omega⟩
 obtain⟨H,K⟩:=aay h (fc c.1) c.2;unfold eI;rw[H,K]
end
section
theorem yo(a b:Int)(c:List Loop)(p:List Int):cW ((⟨[dK a],[dK b]⟩:Loop)::c) p=(cL a b).flatMap (λv=>cW c (p++[v])):=by
 have d:cP ⟨[dK a],[dK b]⟩ p=a:=by unfold cP fi;simp[iT,vD]
 have e:dd ⟨[dK a],[dK b]⟩ p=b:=by unfold dd fi;simp[kW,vD]
 simp only[cW,d,e]
variable {a b c:Int}{p:Prog}{i:Nat}{P:Part}
theorem OP{o:List Loop}{q:List Int}(h:q∈(cL a b).flatMap λv=>cW o ([]++[v])):a<=q.getD 0 0/\q.getD 0 0<b:=by obtain⟨v,c,h⟩:=ho.1 h;obtain⟨d,rfl,_⟩:=(xY o _ _).1 h;exact x1.1 c
def p1(i:Nat)(c:Int)(x:bN):bN:=if x.part<(i:Int) then x else if x.part=(i:Int) then(if x.bU.getD 0 0<c then x else⟨(i:Int)+1,x.stmt,x.bU⟩) else⟨x.part+1,x.stmt,x.bU⟩
theorem XT(l:p.parts[i]? =aa P)(o:a<=c)(r:c<=b)(e:dG P=cW ((⟨[dK a],[dK b]⟩:Loop)::P.nest.drop 1) [])(m:dG (e4 P a c)=cW (e4 P a c).nest [])(n:dG (e4 P c b)=cW (e4 P c b).nest []):
  I (f' p i 1 [e4 P a c,e4 P c b]).parts=(I p.parts).map (p1 i c):=by
 have s:=(bR.1 l).1;have w:(p.parts.take i).length=i:=by rw[cZ];omega
 have k:p.parts=p.parts.take i++P::p.parts.drop (i+1):=by
  have:=mX i p.parts;rw[im l] at this;exact this.symm
 have y:dG P=dG (e4 P a c)++dG (e4 P c b):=by
  rw[e,m,n];unfold e4;dsimp only;rw[yo,yo,yo,<-Tn o r,mb]
 have z: ∀q∈dG (e4 P a c),q.getD 0 0<c:=λq d=>by
  rw[m] at d;unfold e4 at d;dsimp only at d;rw[yo] at d;exact(OP d).2
 have A: ∀q∈dG (e4 P c b),c<=q.getD 0 0:=λq d=>by
  rw[n] at d;unfold e4 at d;dsimp only at d;rw[yo] at d;exact(OP d).1
 conv=>rhs;rw[k]
 show I (p.parts.take i++[e4 P a c,e4 P c b]++p.parts.drop (i+1))=_;rw[fN,show [e4 P a c,e4 P c b]++p.parts.drop (i+1)=e4 P a c::e4 P c b::p.parts.drop (i+1) from rfl,y5,J7,w,eM,eM];congr 1
 ·exact(l0 (λx h=>by
   have:=nz h;unfold p1;rw[aR O])).symm
 rw[tQ i P,y,mb,eM,fN];congr 1
 ·refine(l0 λx h=>?_).symm;obtain⟨q,d,h⟩:=ho.1 h;obtain⟨B,C,F,G⟩:=yC h;unfold p1;rw[aQ O,aR B,aR (by rw[C];exact z q d)]
 congr 1
 ·refine(D1 λq d=>?_).symm;unfold gv;rw[fv];refine lI λj _=>?_;simp only[Function.comp_apply];unfold p1
  have:=A q d;rw[aQ J,aR rfl,aQ J];simp only[bN.mk.injEq,and_true];omega
 rw[fv,fv,fv];refine lI λx h=>?_
 have:=nz h;simp only[Function.comp_apply];unfold p1 fH;dsimp only;rw[aQ O,aQ O];simp only[bN.mk.injEq,and_true];omega
theorem YR{hi:Int}(e:p.parts[i]? =aa P){x:bN}(q:da p x):ep (f' p i 1 [e4 P a c,e4 P c hi]) (p1 i c x)=ep p x/\(p1 i c x).bU=x.bU:=by
 have hi:=(bR.1 e).1;obtain⟨d,j,w,s,h,k,l,y,z⟩:=q;have r:=(bR.1 l).1;unfold p1;by_cases m:x.part<(i:Int)
 ·rw[aR m];refine⟨?_,rfl⟩;unfold ep;rw[h,k,cf,cf,nH O,aR O]
 rw[aQ m];by_cases n:x.part=(i:Int)
 ·rw[aR n]
  have:d=i:=O
  subst this;rw[e] at l;cases l;by_cases o:x.bU.getD 0 0<c
  ·rw[aR o];refine⟨?_,rfl⟩;unfold ep;rw[h,k,cf,cf,nH O,aQ O,aR aX,kB,e];rfl
  rw[aQ o];refine⟨?_,rfl⟩;unfold ep;dsimp only;rw[h,k,show((d:Int)+1).toNat=d+1 by omega,cf,cf,nH O,aQ O,aR aX,show d+1-d=1 by omega,e];rfl
 rw[aQ n];refine⟨?_,rfl⟩;unfold ep;dsimp only;rw[h,k,cf,cf,show((d:Int)+1).toNat=d+1 by omega,nH O,aQ O,aQ bP];congr 2;simp only[List.length_cons,List.length_nil];omega
end
section
theorem wZ: ∀a,cmpL a a=0
 | []=>rfl
 |x::a=>by unfold cmpL;rw[aQ O,aQ O];exact wZ a
theorem qI: ∀a c,cmpL c a= -cmpL a c
 | [],[]=>by simp[cmpL]
 | [],_::_=>by simp[cmpL]
 |_::_,[]=>by simp[cmpL]
 |x::a,y::c=>by
  unfold cmpL;by_cases d:x<y
  ·simp[d,show¬y<x by omega]
  by_cases e:y<x
  ·simp[d,e]
  rw[aQ d,aQ e,aQ e,aQ d];exact qI a c
theorem uP: ∀{a c},cmpL a c=0->a=c
 | [],[],_=>rfl
 | [],_::_,h=>by simp[cmpL] at h
 |_::_,[],h=>by simp[cmpL] at h
 |x::a,y::c,h=>by
  unfold cmpL at h;by_cases d:x<y
  ·rw[aR d] at h;omega
  by_cases e:y<x
  ·rw[aQ d,aR e] at h;omega
  rw[aQ d,aQ e] at h;rw[uP h,show x=y by omega]
theorem x0: ∀{k l m},cmpL k l<0->cmpL l m<0->cmpL k m<0
 | [],[],_,h,_=>by simp[cmpL] at h
 | [],_::_,[],_,h=>by simp[cmpL] at h
 | [],_::_,_::_,_,_=>by simp[cmpL]
 |_::_,[],_,h,_=>by simp[cmpL] at h
 |_::_,_::_,[],_,h=>by simp[cmpL] at h
 |x::k,y::l,z::m,i,e=>by
  unfold cmpL at i e⊢;by_cases a:x<y
  ·by_cases b:y<z
   ·rw[aR O];omega
   by_cases c:z<y
   ·rw[aQ b,aR c] at e;omega
   rw[aR O];omega
  by_cases b:y<x
  ·rw[aQ a,aR b] at i;omega
  by_cases c:y<z
  ·rw[aR O];omega
  by_cases d:z<y
  ·rw[aQ c,aR d] at e;omega
  rw[aQ O,aQ O];rw[aQ a,aQ b] at i;rw[aQ c,aQ d] at e;exact x0 i e
theorem OC: ∀a c,hQ a c=ag (cmpL a c<0)
 | [],[]=>rfl
 | [],_::_=>rfl
 |_::_,[]=>rfl
 |x::a,y::c=>by
  unfold hQ cmpL;by_cases h:x=y
  ·subst h;simp only[if_true,Int.lt_irrefl,if_false];exact OC a c
  by_cases d:x<y
  ·simp[h,d]
  have:y<x:=O
  simp[h,d,this]
abbrev iJ(l:List (List Int)):Prop:=l.Pairwise λa b=>cmpL a b<0
theorem Rj: ∀{l m:List (List Int)},iJ l->iJ m->(∀x,x∈l↔x∈m)->l=m
 | [],[],_,_,_=>rfl
 | [],y::m,_,_,h=>by have:=(h y).2 aX;simp at this
 |x::l,[],_,_,h=>by have:=(h x).1 aX;simp at this
 |x::l,y::m,s,w,h=>by
  obtain⟨q,A⟩:=nQ.1 s;obtain⟨r,B⟩:=nQ.1 w;have e:x=y:=by
   rcases ez.1 ((h x).1 aX) with d|d
   ·exact d
   rcases ez.1 ((h y).2 aX) with i|i
   ·exact i.symm
   have a:=r x d;have b:=q y i
   have:=x0 a b;rw[wZ] at this;omega
  subst e;have k:x∉l:=λn=>by have:=q x n;rw[wZ] at this;omega
  have o:x∉m:=λn=>by have:=r x n;rw[wZ] at this;omega
  rw[Rj A B (λz=>⟨λc=>by
   rcases ez.1 ((h z).1 (eo _ c)) with rfl|p
   ·exact bB c k
   ·exact p,λc=>by
   rcases ez.1 ((h z).2 (eo _ c)) with rfl|p
   ·exact bB c o
   exact p⟩)]
def jw:List (List Int)->List Int->List (List Int)
 | [],d=>[d]
 |x::a,d=>if cmpL d x<0 then d::x::a else x::jw a d
theorem Hg{d z:List Int}: ∀{l:List (List Int)},z∈jw l d↔z=d\/z∈l
 | []=>by simp[jw]
 |x::a=>by
  unfold jw;split
  ·simp
  simp only[List.mem_cons,Hg (l:=a)];constructor
  ·rintro(h|h|h)
   ·exact .inr (.inl h)
   ·exact .inl h
   exact .inr (.inr h)
  rintro(h|h|h)
  ·exact .inr (.inl h)
  ·exact .inl h
  exact .inr (.inr h)
theorem Qk{d:List Int}: ∀{l:List (List Int)},iJ l->d∉l->iJ (jw l d)
 | [],_,_=>by simp[jw]
 |x::o,c,i=>by
  obtain⟨k,m⟩:=nQ.1 c;unfold jw;split
  ·rename_i h;refine nQ.2 ⟨λz a=>?_,c⟩;rcases ez.1 a with rfl|a
   ·exact h
   exact x0 h (k z a)
  rename_i h;refine nQ.2 ⟨λz a=>?_,Qk m λn=>i (eo _ n)⟩;rcases Hg.1 a with rfl|a
  ·have p:=qI z x;have q:cmpL z x≠0:=λe=>i (by rw[uP e];simp);omega
  exact k z a
def jb(l:List (List Int))(d:List Int):List (List Int):=if d∈l then l else jw l d
theorem adQ{l:List (List Int)}(h:iJ l)(d:List Int):iJ (jb l d):=by
 unfold jb;split
 ·exact h
 exact Qk h ‹_›
variable {l:Loop}{d a b q:List Int}{R:Type}{Q:R->Prop}{n k i:Nat}{p:Prog}{x:bN}{c:Int}{f H:List Int->List Int}{P C:Part}{F:az->az}{y:az}{r:List cn}
theorem PB{l:List (List Int)}{z:List Int}:z∈jb l d↔z=d\/z∈l:=by
 unfold jb;split
 ·rename_i h
  grind
 exact Hg
theorem HW: ∀(a l:List (List Int)),iJ l->iJ (a.foldl jb l)/\ ∀z,z∈a.foldl jb l↔z∈l\/z∈a
 | [],l,h=>⟨h,λz=>aX⟩
 |d::a,l,h=>by
  obtain⟨c,e⟩:=HW a (jb l d) (adQ h d);refine⟨c,λz=>?_⟩;rw[List.foldl_cons,e z,PB,ez];constructor
  ·rintro((h|h)|h)
   ·exact .inr (.inl h)
   ·exact .inl h
   exact .inr (.inr h)
  rintro(h|h|h)
  ·exact .inl (.inr h)
  ·exact .inl (.inl h)
  exact .inr h
def hd:List (List Int)->List (List Int)
 | []=>[]
 | [x]=>[x]
 |x::y::r=>if x=y then hd (y::r) else x::hd (y::r)
theorem FB{z:List Int}: ∀{l:List (List Int)},z∈hd l↔z∈l
 | []=>by simp[hd]
 | [x]=>by simp[hd]
 |x::y::r=>by
  have a:=FB (z:=z) (l:=y::r);unfold hd;split
  ·rename_i h;subst h;rw[a];simp
  rw[ez,a];simp
theorem FQ: ∀{l:List (List Int)},l.Pairwise (λa b=> ¬cmpL b a<0)->iJ (hd l)
 | [],_=>by simp[hd]
 | [x],_=>by simp[hd]
 |x::y::r,h=>by
  obtain⟨n,i⟩:=nQ.1 h;obtain⟨o,_⟩:=nQ.1 i;unfold hd;split
  ·exact FQ i
  rename_i k;refine nQ.2 ⟨λz m=>?_,FQ i⟩;have d:cmpL x y<0:=by
   have a:=n y aX;have b:=qI x y;have c:cmpL x y≠0:=λe=>k (uP e);omega
  rcases ez.1 (FB.1 m) with rfl|m
  ·exact d
  have a:=o z m;have b:=qI y z;by_cases e:cmpL y z=0
  ·rw[<-uP e];exact d
  exact x0 d O
theorem W8(l:List (List Int)):(fS l).Pairwise (λa b=> ¬cmpL b a<0):=by
 have:=List.pairwise_mergeSort (le:=λx y=> !decide (cmpL y x<0)) (λa b c k d=>by
  simp only[Bool.not_eq_true',decide_eq_false_iff_not] at*;intro h;have i:=qI a b;have m:=qI b c;by_cases e:cmpL b a=0
  ·rw[uP e] at d;exact d h
  ·exact d (x0 h O)) (λa b=>by
  have i:=qI a b;by_cases h:cmpL b a<0
  ·have: ¬cmpL a b<0:=O
   simp[h,this]
  simp[h]) l
 refine this.imp λh=>?_;simpa using h
theorem ad1(a:List (List Int)):hd (fS a)=a.foldl jb []:=by obtain⟨c,d⟩:=HW a [] List.Pairwise.nil;refine Rj (FQ (W8 a)) c λz=>?_;rw[FB,d z];unfold fS;rw[List.mem_mergeSort];simp
def fY(b a:List Int):List Int:=List.zipWith (λx y=>x-y) b a
theorem OA(F:a.length=b.length)(G:b.length<=1000)(H:1000<n)(l: ∀x∈a,cV 9999 x)(m: ∀x∈b,cV 9999 x){K:List Int->Option R}(L:ad (K (fY b a)) Q):
  ad (bn (λc ((h,d):(List Int)×Int)=>
   bif ag (d<(b.length:Int)) then(
    bO (ax b d) λo=>
    bO (ax a d) λp=>
    bO (app h [wr (o-p)]) λq=>
    c (q,wr (d+1))
   ) else(
    K h
   )) n ([],0)) Q:=by
 refine ad.loop (λx:List Int×Int=> ∃i:Nat,x.2=i/\i<=b.length/\x.1=(fY b a).take i) (λx=>b.length-x.2.toNat) ?_ n _ ⟨0,rfl,O,aX⟩ J;rintro r ⟨x,k⟩ ⟨i,w,W,s⟩ y;dsimp only at w s⊢;subst w;have z:(fY b a).length=b.length:=by unfold fY;rw[EY];omega
 refine aW (λe=>?_) λA=>?_
 ·have e:i<b.length:=O
  have B:=bp e;have C:=bp (O:i<a.length);have dc:=m _ (gB e);have cS:=l _ (gB (O:i<a.length));unfold cV at dc cS;refine ae (bl B) (ae (bl C) (ae (c' (by rw[s,cZ];simp;omega)) ?_));rw[bc (n:=b[i]-a[i]) O,bc O];refine y _ ⟨i+1,J,O,?_⟩ J;dsimp only;rw[eN,<-s];congr 1;unfold fY
  grind
 have:i=b.length:=O
 grind
theorem YX(e:a.length=b.length)(h:b.length<=1000)(i:1000<n)(c: ∀x∈a,cV 9999 x)(d: ∀x∈b,cV 9999 x):A1 n b a=aa (fY b a):=by unfold A1;exact ad.eq (OA e h i c d (ad.some rfl))
theorem abo(D:20000<=n){l:List (List Int)}(E:l.length<=15000)(Q: ∀x∈l,x.length<=1000)(R:d.length<=1000):Ct n l d=aa (jb l d):=by
 unfold Ct;refine ad.eq (ad.loop (λx:List (List Int)×Bool×Int=> ∃i:Nat,x.2.2=i/\i<=l.length/\d∉l.take i/\(x.2.1=ab->x.1.length<=i+1/\jw l d=x.1++l.drop i)/\(x.2.1=ak->x.1.length<=i/\jw l d=x.1++jw (l.drop i) d)) (λx=>l.length-x.2.2.toNat) ?_ n _ ⟨0,rfl,O,aX,(λh=>by cases h),λ_=>⟨aX,aX⟩⟩ J);rintro A ⟨I,e,k⟩ ⟨i,K,M,o,L,B⟩ W;dsimp only at K L B⊢;subst K;refine aW (λc=>?_) λX=>?_
 ·have c:i<l.length:=O
  have Z:=bp c;have C:l[i].length<=1000:=Q _ (gB c);refine ae (bl Z) (ae (Mx O O) (aW (λb=>ad.some ?_) λf=>?_))
  ·unfold jb
   grind
  have a:=lG c;have p:d∉l.take (i+1):=by
   grind
  refine ad.aD (λz:List (List Int)×Bool=>(z.2=ab->z.1.length<=i+1/\jw l d=z.1++l.drop i)/\(z.2=ak->z.1.length<=i/\jw l d=z.1++l[i]::jw (l.drop (i+1)) d)) (λj m=>?_) λz q=>?_
  ·refine ad.aD (λz:Bool=>z=(!e&&hQ d l[i])) (λN r=>ad.cond (λh=>?_) λh=>r _ ?_) λz q=>?_
   ·have h:e=ak:=by simpa using h
    exact ae (OE O R C) (r _ (by rw[h];rfl))
   ·have h:e=ab:=by simpa using h
    grind
   subst q;cases s:e with
   |true=>exact b8 (m _ ⟨λ_=>L s,λh=>by cases h⟩)
   |false=>
    obtain⟨g,F⟩:=B s;rw[a] at F;rw[OC];by_cases y:cmpL d l[i]<0
    ·rw[bI y];refine bX (ae (c' bP) (m _ ⟨λ_=>⟨bP,?_⟩,λh=>by cases h⟩));rw[F,a];unfold jw;rw[aR y];simp
    rw[bJ y];refine b8 (m _ ⟨(λh=>by cases h),λ_=>⟨g,?_⟩⟩);rw[F]
    conv=>lhs;rw[jw]
    rw[aQ y]
  obtain⟨t,u⟩:=z;obtain⟨G,H⟩:=q;dsimp only at G H⊢;have v:t.length<=i+1:=by
   cases u with
   |true=>exact(G rfl).1
   |false=>have:=(H rfl).1;omega
  refine ae (c' bP) ?_;rw[bc O];refine W _ ⟨i+1,J,O,p,λh=>?_,λh=>?_⟩ J
  ·obtain⟨aL,a2⟩:=G h
   grind
  obtain⟨aL,a2⟩:=H h
  grind
 have:i=l.length:=O
 subst this;rw[dW] at o;have w:jb l d=jw l d:=by unfold jb;rw[aQ o]
 rw[w];refine ad.aD (λz=>z=jw l d) (λj m=>ad.cond (λh=>?_) λh=>m _ ?_) λz q=>ad.some q
 ·have h:e=ak:=by simpa using h
  obtain⟨aL,a2⟩:=B h;refine ae (c' bP) (m _ ?_);rw[a2,pA];rfl
 have h:e=ab:=by simpa using h
 grind
theorem Pp(d:List Int): ∀l:List (List Int),(jw l d).length=l.length+1
 | []=>rfl
 |x::a=>by
  unfold jw;split
  ·rfl
  rw[List.length_cons,Pp d a];rfl
theorem PC(l:List (List Int))(d:List Int):(jb l d).length<=l.length+1:=by
 unfold jb;split
 ·omega
 rw[Pp];omega
def ki(e:List bN)(c:Int)(d:gr):Option (List Int):=match e[d.e3.toNat]?,e[d.e5.toNat]? with
 |some a,aa b=>if a.part=c/\b.part=c then aa (fY b.bU a.bU) else none
 |_,_=>none
def mq(p:Prog)(a:Int):List (List Int):=(gL p (I p.parts) (I p.parts).length).filterMap (ki (I p.parts) a)
theorem qy(l:bM p=ab)(m:da p x): ∃P,p.parts[x.part.toNat]? =aa P/\0<=x.part/\x.bU.length=P.nest.length/\x.bU.length<=4/\ ∀y∈x.bU,cV 9999 y:=by obtain⟨F,G,H,c,n⟩:=dZ l;obtain⟨i,k,P,s,o,K,e,q,h⟩:=m;obtain⟨r,L,Q,w⟩:=gx (c P (bx e));obtain⟨R,z,d,A,B⟩:=oZ r;have hs:=bx q;have a:=(w s hs _ h).2;unfold kZ at a;simp only[b9,decide_eq_true_eq,hS] at a;exact⟨P,by rw[o,cf];exact e,O,(d _ h).1,a.1,λy C=>a.2 y C⟩
theorem ad2{l:List bN}(h: ∀x∈l,x.bU.length<=4){d:gr}{v:List Int}(e:ki l c d=aa v):v.length<=4:=by
 unfold ki at e;split at e
 ·rename_i a b i k;split at e
  ·cases e;unfold fY
   grind
  cases e
 cases e
theorem Lx{k:Type}{f:k->Option R}{l:List k}{x:k}(h:l[i]? =aa x):(l.take (i+1)).filterMap f=(l.take i).filterMap f++(f x).toList:=by
 rw[eN,h,List.filterMap_append]
 grind
theorem M2(v:20000<=n)(hp:jz p)(w:bM p=ab)(a:Int):zn n p a=aa ((mq p a).foldl jb []):=by
 have K:=(dZ w).2.2.2.2;unfold zn;refine ad.eq (ae (we O w) (ae (GX O w) ?_));have q: ∀x∈I p.parts,da p x:=λx A=>fc A;have alm:=Hv (p:=p) K;have bb:=Q7 (p:=p) (l:=I p.parts);unfold mq;generalize gL p (I p.parts) (I p.parts).length=d at*;generalize I p.parts=e at*;have D: ∀x∈e,x.bU.length<=4:=λx A=>(qy w (q x A)).choose_spec.2.2.2.1;refine ad.loop (λx:List (List Int)×Int=> ∃i:Nat,x.2=i/\i<=d.length/\x.1=((d.take i).filterMap (ki e a)).foldl jb []/\x.1.length<=i/\ ∀y∈x.1,y.length<=4) (λx=>d.length-x.2.toNat) ?_ n _ ⟨0,rfl,O,aX,aX,aX⟩ J;rintro L ⟨E,k⟩ ⟨i,t,hi,A,B,m⟩ M;dsimp only at t A B m⊢;subst t;refine aW (λr=>?_) λN=>ad.some ?_
 ·have r:i<d.length:=O
  have u:=bp r;obtain⟨P,d2,d3⟩:=bb _ (gB r);have S:=s4 (l:=e) (c:=d[i].e3) P O;have T:=s4 (l:=e) (c:=d[i].e5) O O;have U:=gB (O:d[i].e3.toNat<e.length);have Q:=gB (O:d[i].e5.toNat<e.length);have R:e[d[i].e3.toNat]? =aa e[d[i].e3.toNat]:=bp _;have W:e[d[i].e5.toNat]? =aa e[d[i].e5.toNat]:=bp _;obtain⟨V,C,aju,ajv,ajw,X⟩:=qy w (q _ U);obtain⟨FZ,s,ajx,ajy,ajz,Z⟩:=qy w (q _ Q);refine ad.aD (λz=>z.2.2.2.2.2.2=((d.take (i+1)).filterMap (ki e a)).foldl jb []/\z.2.2.2.2.2.2.length<=i+1/\ ∀y∈z.2.2.2.2.2.2,y.length<=4) (λj b=>ae (bl u) (ae S (ae T ?_))) λz f=>?_
  ·rw[Lx u,List.foldl_append,<-A] at b;refine ad.aD (λz:Bool=>z=ag (e[d[i].e3.toNat].part=a/\e[d[i].e5.toNat].part=a)) (λjH F=>aW (λh=>F _ ?_) λh=>F _ ?_) λz f=>?_
   ·exact decide_eq_decide.2 ⟨λG=>⟨h,G⟩,λG=>G.2⟩
   ·exact(bJ λG=>h G.1).symm
   subst f;have o:ki e a d[i]=if e[d[i].e3.toNat].part=a/\e[d[i].e5.toNat].part=a then aa (fY e[d[i].e5.toNat].bU e[d[i].e3.toNat].bU) else none:=by
    unfold ki;rw[R,W]
   refine aW (λh=>?_) λh=>b _ ?_
   ·have g:V=FZ:=by
     rw[h.1] at C;rw[h.2] at s;rw[C] at s;cases s;rfl
    subst g;refine ae (YX O O O X Z) (ae (abo v O (λy H=>by have:=m y H;omega) (by unfold fY;rw[EY];omega)) (b _ ?_));rw[o,aR h];dsimp only[Option.toList,List.foldl];refine⟨rfl,?_,λy H=>?_⟩
    ·have:=PC E (fY e[d[i].e5.toNat].bU e[d[i].e3.toNat].bU);omega
    rcases PB.1 H with rfl|H
    ·unfold fY;rw[EY];omega
    exact m y H
   rw[o,aQ h]
   grind
  obtain⟨Ag,z2,z3⟩:=f;rw[bc O];exact M _ ⟨i+1,J,O,Ag,z2,z3⟩ J
 have:i=d.length:=O
 grind
theorem L9(x:List Int): ∀(y:List Int) (a:List (List Int)),hd ((y::a)++[x])=if(y::a).getLast aX=x then hd (y::a) else hd (y::a)++[x]
 |y,[]=>by
  by_cases h:y=x
  ·subst h;simp[hd]
  simp[hd,h]
 |y,z::a=>by
  have d:=L9 x z a;rw[List.getLast_cons aX];show hd (y::z::(a++[x]))=_;unfold hd;by_cases h:y=z
  ·rw[aR h,aR h];exact d
  rw[aQ h,aQ h];have c:hd (z::(a++[x]))=_:=d;rw[c];split<;>simp
theorem XH{s:List (List Int)}{m:Nat}(n:1<=m)(l:m<s.length):hd (s.take (m+1))=if s[m-1]=s[m] then hd (s.take m) else hd (s.take m)++[s[m]]:=by
 have e:s.take (m+1)=s.take m++[s[m]]:=by rw[eN,bp l];rfl
 have d:s.take m≠[]:=by
  intro h
  have:=congrArg List.length h
  grind
 have c: ∀h,(s.take m).getLast h=s[m-1]:=λh=>by
  grind
 rw[e];obtain⟨y,a,k⟩: ∃y a,s.take m=y::a:=by
  cases h:s.take m with
  |nil=>exact bB h d
  |cons y a=>exact⟨y,a,rfl⟩
 have i:=c d;simp only[k] at i⊢;rw[L9,i]
def kt(d:List Int):Option Nat:=d.findIdx? λx=> !decide (x=0)
def p5(d:List Int):Int:=match kt d with
 |some i=>(i:Int)
 |none=> -1
theorem Zy(s:d.length<=1000)(w:1000<n):t8 n d=aa (p5 d):=by
 unfold t8;refine ad.eq (ae (x:=p5 d) ?_ (ad.some rfl));unfold zb;refine ad.eq (ad.loop (λx:Int=> ∃i:Nat,x=i/\i<=d.length/\ ∀j,j<i->d.getD j 0=0) (λx=>d.length-x.toNat) ?_ n _ ⟨0,rfl,O,λj a=>bB a (q6 _)⟩ O);rintro e z ⟨i,rfl,y,A⟩ m;have l: ∀j (a:j<d.length),j<i->d[j]=0:=λj a o=>by
  grind
 refine aW (λc=>?_) λp=>ad.some ?_
 ·have c:i<d.length:=O
  have q:=bp c;refine ae (bl q) (ae (x:= !decide (d[i]=0)) rfl (fl (λh=>ad.some ?_) λB=>?_))
  ·have:kt d=aa i:=by
    unfold kt;rw[KO];exact⟨c,by simp[h],λj a=>by simp[l j O a]⟩
   unfold p5;rw[this]
  rw[bc O];refine m _ ⟨i+1,O,O,λj a=>?_⟩ O
  grind
 have:kt d=none:=by
  unfold kt;rw[List.findIdx?_eq_none_iff];intro x r;obtain⟨j,a⟩:=jO.1 r;obtain⟨k,rfl⟩:=bR.1 a;simp[l j k O]
 unfold p5;rw[this]
theorem abW(a:jz p)(c:p.parts[i]? =aa P):lR n p (i:Int)=aa ab:=by have hi:=(bR.1 c).1;rw[rW n a.2.1,bI O]
theorem Zt(a:Nat->Bool)(m:Nat):et a (m+1)=et a m++(if a m then [m] else []):=by
 unfold et;rw[pD,pG]
 grind
theorem Qu(l:List (List Int)): ∀m,m<=l.length->(et (lT l) m).map (λj=>l.getD j [])=hd (l.take m)
 |0,_=>rfl
 |m+1,h=>by
  have o:=Qu l m O;have c:m<l.length:=O
  have d:l.getD m []=l[m]:=by rw[eP,bp c];rfl
  rw[Zt,eM,o];by_cases i:m=0
  ·subst i;have k:lT l 0=ab:=by simp[lT]
   rw[k,aR rfl,List.take_zero];show hd []++[l.getD 0 []]=_;rw[d,eN,bp c];rfl
  rw[XH O c];have k:l.getD (m-1) []=l[m-1]:=by rw[eP,bp O];rfl
  have p:lT l m= !decide (l[m-1]=l[m]):=by
   unfold lT;rw[d,k];by_cases a:l[m-1]=l[m]
   ·simp[i,a]
   have n:l[m]≠l[m-1]:=λe=>a e.symm;simp[i,a,n]
  rw[p];by_cases a:l[m-1]=l[m]
  ·rw[aR a,bI a];simp
  rw[aQ a,bJ a];show _++[l.getD m []]=_;rw[d]
theorem Zl(l:List (List Int)):hG l=hd l:=by have:=Qu l l.length (cR _);rw[dW] at this;exact this
theorem Yw(cY:20000<=n)(w:bM p=ab)(a:Int):DG n (gX p) a=aa ((mq p a).foldl jb []):=by
 have G:=(dZ w).2.2.2.2;unfold DG;refine ad.eq (ae (GN O w) ?_);rw[show(gX p).list=I p.parts from rfl];have q: ∀x∈I p.parts,da p x:=λx o=>fc o;have alm:=Hv (p:=p) G;have bb:=Q7 (p:=p) (l:=I p.parts);unfold mq;generalize gL p (I p.parts) (I p.parts).length=e at*;generalize I p.parts=m at*;have H: ∀x∈m,x.bU.length<=4:=λx o=>(qy w (q x o)).choose_spec.2.2.2.1;refine ad.loop (λx:List (List Int)×Int=> ∃i:Nat,x.2=i/\i<=e.length/\x.1=(e.take i).filterMap (ki m a)) (λx=>e.length-x.2.toNat) ?_ n _ ⟨0,rfl,O,aX⟩ J;rintro L ⟨D,k⟩ ⟨i,E,hi,o⟩ P;dsimp only at E o⊢;subst E;have M:D.length<=i:=by
  grind
 refine aW (λr=>?_) λS=>?_
 ·have r:i<e.length:=O
  have N:=bp r;obtain⟨T,d2,d3⟩:=bb _ (gB r);have U:=s4 (l:=m) (c:=e[i].e3) T O;have V:=s4 (l:=m) (c:=e[i].e5) O O;have gI:=gB (O:e[i].e3.toNat<m.length);have Q:=gB (O:e[i].e5.toNat<m.length);have R:m[e[i].e3.toNat]? =aa m[e[i].e3.toNat]:=bp _;have W:m[e[i].e5.toNat]? =aa m[e[i].e5.toNat]:=bp _;obtain⟨Uu,A,aju,ajv,ajw,X⟩:=qy w (q _ gI);obtain⟨FZ,s,ajx,ajy,ajz,Z⟩:=qy w (q _ Q);have B:ki m a e[i]=if m[e[i].e3.toNat].part=a/\m[e[i].e5.toNat].part=a then aa (fY m[e[i].e5.toNat].bU m[e[i].e3.toNat].bU) else none:=by
   unfold ki;rw[R,W]
  refine ad.aD (λz=>z.1=(e.take (i+1)).filterMap (ki m a)) (λj b=>ae (bl N) (ae U (ae V ?_))) λz f=>?_
  ·rw[Lx N,<-o] at b;refine ad.aD (λz:Bool=>z= !decide (m[e[i].e3.toNat].part=a/\m[e[i].e5.toNat].part=a)) (λjH C=>fl (λh=>C _ ?_) λh=>C _ ?_) λz f=>?_
   ·rw[bJ λh2=>h h2.1];rfl
   ·congr 1
    grind
   subst f;refine fl (λh=>b _ ?_) λh=>?_
   ·rw[B,aQ h];simp
   have g:Uu=FZ:=by
    rw[h.1] at A;rw[h.2] at s;rw[A] at s;cases s;rfl
   subst g;refine OA (K:=λt=>bO (app D [t]) λu=>j (u,e[i].e3,e[i].e5,e[i].kinds,m[e[i].e3.toNat].part,m[e[i].e3.toNat].stmt,m[e[i].e3.toNat].bU,m[e[i].e5.toNat].part,m[e[i].e5.toNat].stmt,m[e[i].e5.toNat].bU)) O O O X Z ?_;refine ae (c' bP) (b _ ?_)
   grind
  rw[bc O];exact P _ ⟨i+1,J,O,f⟩ J
 have:i=e.length:=O
 subst this;rw[dW] at o;subst o;have F: ∀y∈e.filterMap (ki m a),y.length<=4:=λy v=>by
  obtain⟨d,_,cC⟩:=List.mem_filterMap.1 v;exact ad2 H cC
 have ahY:(fS (e.filterMap (ki m a))).length<=15000:=by unfold fS;rw[List.length_mergeSort];omega
 refine ae (x:=fS (e.filterMap (ki m a))) (by unfold nD;rw[aR ⟨O,λy v=>by have:=F y v;omega⟩]) (ad.some ?_);rw[Zl];exact ad1 _
def iP(p:Prog)(i:Nat):List (List Int):=(mq p i).foldl jb []
theorem ZA(d:20000<=n)(a:jz p)(c:bM p=ab)(e:p.parts[i]? =aa P):Eo n p (i:Int)=aa (iP p i):=by unfold Eo;refine ad.eq (ae (z6 O a) ?_);rw[aR c];refine bX (ad.aD (λz=>z=ak) (λj h=>b8 (ae (abW a e) (h _ rfl))) λz k=>?_);rw[k];exact b8 (ae (Yw d c _) (ad.some rfl))
theorem Q5:d∈iP p i↔d∈mq p i:=by
 unfold iP
 have:=(HW (mq p i) [] .nil).2 d
 grind
theorem NI: ∀(a l:List (List Int)),(a.foldl jb l).length<=l.length+a.length
 | [],l=>aX
 |d::a,l=>by
  rw[List.foldl_cons]
  have:=NI a (jb l d)
  have:=PC l d;rw[List.length_cons];omega
theorem Ip(c:bM p=ab):(iP p i).length<=15000:=by
 have a:=(dZ c).2.2.2.2;have d:=Hv (p:=p) a
 have:=NI (mq p i) [];have e:(mq p i).length<=(gL p (I p.parts) (I p.parts).length).length:=by unfold mq;exact List.length_filterMap_le _ _
 unfold iP
 grind
theorem uO(r:bM p=ab)(s:p.parts[i]? =aa P)(cC:d∈iP p i):d.length=P.nest.length/\ ∀x∈d,cV 99999 x:=by
 have cC:=Q5.1 cC;unfold mq at cC;obtain⟨e,_,h⟩:=List.mem_filterMap.1 cC;unfold ki at h;split at h
 ·rename_i a b A B;split at h
  ·rename_i w;cases h;have m:da p a:=fc (bx A);have n:da p b:=fc (bx B);obtain⟨G,aL,a2,a3,a4,a5⟩:=qy r m;obtain⟨H,y,K,L,Q,C⟩:=qy r n;rw[w.1,cf,s] at aL;rw[w.2,cf,s] at y;cases aL;cases y;unfold fY;refine⟨by rw[EY];omega,λx z=>?_⟩;obtain⟨u,v,F,o,rfl⟩: ∃u v,u∈b.bU/\v∈a.bU/\x=u-v:=by
    rw[jO] at z;obtain⟨k,c⟩:=z;rw[List.getElem?_zipWith] at c;cases l:b.bU[k]? with
    |none=>rw[l] at c;cases c
    |some u=>
     cases q:a.bU[k]? with
     |none=>rw[l,q] at c;cases c
     |some v=>
      rw[l,q] at c;cases c;exact⟨u,v,bx l,bx q,rfl⟩
   have R:=C u F;have W:=a5 v o;unfold cV at*;omega
  cases h
 cases h
def gz(d:List Int):Bool:=match kt d with
 |some k=>decide (0<=d.getD k 0)
 |none=>ab
theorem QT(h:kt d=aa k):k<d.length/\d.getD k 0≠0:=by
 unfold kt at h;rw[KO] at h
 grind
theorem MM(R:20000<=n)(W:jz p)(A:bM p=ab)(B:p.parts[i]? =aa P){F:List Int->Option (List Int)}(G: ∀d∈iP p i,F d=aa (f d))(H: ∀d,(f d).length=d.length):
  xZ n p (i:Int) F=aa ((iP p i).all λd=>gz (f d)):=by
 unfold xZ;refine ad.eq (ae (ZA R W A B) ?_);have s:=Ip A (i:=i);have w:=λd y=>(uO A B (d:=d) y).1;have X:=(gU ((dZ A).2.2.2.1 P (bx B))).1;generalize iP p i=a at G s w;refine ad.loop (λx:List (List Int)×Int=> ∃k:Nat,x.2=k/\k<=a.length/\x.1.length=a.length/\(∀t,k<=t->x.1[t]? =a[t]?)/\ ∀d∈a.take k,gz (f d)=ab) (λx=>a.length-x.2.toNat) ?_ n _ ⟨0,rfl,O,rfl,λ_ _=>rfl,λd y=>by simp at y⟩ J;rintro o ⟨m,D⟩ ⟨k,K,Z,z,c,L⟩ b;dsimp only at K z c⊢;subst K;refine aW (λl=>?_) λg=>ad.some ?_
 ·have l:k<a.length:=O
  have j:m[k]? =aa a[k]:=by rw[c k (cR _),bp l]
  have hm:=gB l;have u:(f a[k]).length<=4:=by rw[H,w _ hm];exact X
  refine ae (bl j) (ae (G _ hm) (ae (pw (H _)) (ae (Zy O O) (ae (dU O _) ?_))));have e: ∀(C:gz (f a[k])=ak),a.all (λd=>gz (f d))=ak:=λC=>mZ.2 ⟨_,hm,by simp[C]⟩;have go:gz (f a[k])=ab->ad (o (m.set (k:Int).toNat (f a[k]),wr ((k:Int)+1))) (λr=>r=a.all λd=>gz (f d)):=λC=>by
   rw[bc O,cf];refine b _ ⟨k+1,J,O,by dsimp only;rw[e6];exact z,λt E=>?_,λd y=>?_⟩ J
   ·dsimp only
    grind
   rw[eN,bp l] at y
   grind
  unfold p5 gz at*;cases q:kt (f a[k]) with
  |none=>
   rw[q] at go e;exact aW (λh=>bB h (by show¬(0:Int)<= -1;omega)) (λ_=>go rfl)
  |some t=>
   rw[q] at go e;obtain⟨v,I⟩:=QT q;refine aW (λ_=>?_) λh=>bB (show(0:Int)<=(t:Int) by omega) h;have Q:=bp v;have M:(f a[k]).getD t 0=(f a[k])[t]:=by rw[eP,Q];rfl
   refine ae (bl Q) (aW (λh=>ad.some ?_) λh=>go ?_)
   ·exact(e (bJ O)).symm
   exact bI O
 have:k=a.length:=O
 grind
theorem XP(s:d.length<=1000)(w:1000<n):EH n d=aa (p5 d):=by
 unfold EH;refine ad.eq (ad.loop (λx:Int=> ∃i:Nat,x=i/\i<=d.length/\ ∀j,j<i->d.getD j 0=0) (λx=>d.length-x.toNat) ?_ n _ ⟨0,rfl,O,λj a=>bB a (q6 _)⟩ O);rintro e z ⟨i,rfl,y,A⟩ m;have l: ∀j (a:j<d.length),j<i->d[j]=0:=λj a o=>by
  grind
 refine aW (λc=>?_) λp=>ad.some ?_
 ·have c:i<d.length:=O
  have q:=bp c;refine ae (bl q) (fl (λh=>ad.some ?_) λB=>?_)
  ·have:kt d=aa i:=by
    unfold kt;rw[KO];exact⟨c,by simp[h],λj a=>by simp[l j O a]⟩
   unfold p5;rw[this]
  rw[bc O];refine m _ ⟨i+1,O,O,λj a=>?_⟩ O
  grind
 have:kt d=none:=by
  unfold kt;rw[List.findIdx?_eq_none_iff];intro x r;obtain⟨j,a⟩:=jO.1 r;obtain⟨k,rfl⟩:=bR.1 a;simp[l j k O]
 unfold p5;rw[this]
theorem Og(i:d.length<=1000)(k:1000<n):xD n d=aa (gz d):=by
 unfold xD;refine ad.eq (ae (XP i k) (ad.aD (λz:Bool=>z=gz d) (λj c=>?_) λz l=>ad.some l));unfold p5 gz at*;cases a:kt d with
 |none=>
  rw[a] at c;exact aW (λ_=>c _ rfl) (λh=>bB (show(-1:Int)<0 by omega) h)
 |some t=>
  rw[a] at c;obtain⟨m,o⟩:=QT a;have e:=bp m;have p:d.getD t 0=d[t]:=by rw[eP,e];rfl
  refine aW (λh=>bB h (show¬(t:Int)<0 by omega)) λ_=>ae (bl e) (c _ ?_);exact decide_eq_decide.2 ⟨λh=>O,λh=>O⟩
def k1(k:Nat)(a:az):az:=⟨(a.aT.set k (a.aT.getD (k+1) 0)).set (k+1) (a.aT.getD k 0),a.const⟩
def fw(k:Nat)(d:List Int):List Int:=(d.set k (d.getD (k+1) 0)).set (k+1) (d.getD k 0)
theorem Cs(k:Nat)(d:List Int):(fw k d).length=d.length:=by simp[fw]
theorem QG: ∀x,cN x=ab->dD 4 (k1 k x):=λx a=>by have:=(fo a).1;unfold dD k1;simp;omega
theorem d7{l:List R}(h:k<l.length)(z:R):l[k]? =aa (l.getD k z):=by grind
theorem PU{h:Type}{l:List h}(a:k+1<l.length)(i:l.length<=1000000)(z:h){K:List h->Option R}(m:ad (K ((l.set k (l.getD (k+1) z)).set (k+1) (l.getD k z))) Q):
  ad (bO (ax l (wr ((k:Int)+1))) λd=>bO (ax l (k:Int)) λe=>bO (ca l (k:Int) d) λc=>bO (ax c (wr ((k:Int)+1))) λo=>bO (ca c (wr ((k:Int)+1)) e) K) Q:=by
 rw[bc (n:=(k:Int)+1) O,show(k:Int)+1=((k+1:Nat):Int) by omega];refine ae (bl (d7 a z)) (ae (bl (d7 O z)) (ae (dU O _) ?_));rw[cf];refine ae (bl (d7 (l:=l.set k (l.getD (k+1) z)) (k:=k+1) (by simpa using a) z)) (ae (dU (by rw[e6];omega) _) ?_)
 grind
theorem abZ(a:k+1<d.length)(c:d.length<=1000):vZ n d (k:Int)=aa (fw k d):=by unfold vZ;exact ad.eq (PU a O 0 (ad.some rfl))
theorem abY(n:Nat)(c:k+1<4): ∀x,cN x=ab->vY n x (k:Int)=aa (k1 k x):=λx a=>by have d:=(fo a).1;unfold vY;refine ad.eq (ae (Be n x a) (PU O O 0 (ad.some rfl)))
theorem adn(n:Nat)(d:k+1<4): ∀x,cN x=ab->km n x 0 (k:Int) ⟨[],0⟩=aa (k1 k x):=λx a=>by have e:=(fo a).1;unfold km;refine ad.eq (aW (λ_=>ae (x:=k1 k x) ?_ (ad.some rfl)) λh=>bB rfl h);unfold Hh;have c:rF n x=aa x:=AP n O;rw[bc (n:=(k:Int)+1) O,show(k:Int)+1=((k+1:Nat):Int) by omega];refine ad.eq (ae c (ae (bl (d7 O 0)) (ae (bl (d7 O 0)) (ae (dU O _) (ae (bl (d7 O 0)) ?_)))));rw[cf];refine ae (bl (d7 (l:=x.aT.set k (x.aT.getD (k+1) 0)) (k:=k+1) bP 0)) (ae (dU (by rw[e6];omega) _) ?_);rw[cf];exact ad.some rfl
def mv(k:Nat)(a:az):Bool:= !decide (a.aT.getD k 0=0)
def pW(l:Loop)(k:Nat):Bool:=l.lo.any (mv k)||l.hi.any (mv k)
theorem Ys(p:5000<=n)(e:gV l)(q:k<4):Fm n l (k:Int)=aa (pW l k):=by
 obtain⟨⟨r,i⟩,s,m⟩:=e;have c: ∀x,cN x=ab->rI n x (k:Int)=aa (mv k x):=λx a=>by
  have:=(fo a).1;unfold rI;exact ad.eq (ae (bl (d7 O 0)) (ad.some rfl))
 unfold Fm pW;refine ad.eq (ad.aD (λz=>z=(l.lo.any (mv k)||l.hi.any (mv k))) (λj d=>?_) λz o=>ad.some o);refine ae (zi (λx a=>c x (i x a)) O O) (ad.cond (λh=>d _ (by rw[h];rfl)) λh=>ae (zi (λx a=>c x (m x a)) O O) (d _ (by rw[h];rfl)))
theorem Pz{k:Type}{f:k->Bool}{l:List k}{x:k}(h:l[i]? =aa x):(l.take (i+1)).any f=((l.take i).any f||f x):=by rw[eN,h,uH];simp
theorem XW(y:5000<=n)(q:gV l)(A:k<4):Bz n l (k:Int)=aa (pW l k):=by
 obtain⟨⟨B,r⟩,C,s⟩:=q;unfold Bz pW;refine ad.eq (ad.loop (λx:Int=> ∃i:Nat,x=i/\i<=l.lo.length/\(l.lo.take i).any (mv k)=ak) (λx=>l.lo.length-x.toNat) ?_ n _ ⟨0,rfl,O,rfl⟩ O);rintro c z ⟨i,rfl,w,e⟩ m;refine aW (λa=>?_) λo=>?_
 ·have a:i<l.lo.length:=O
  have h:=bp a
  have:=(fo (r _ (gB a))).1;refine ae (bl h) (ae (bl (d7 O 0)) (fl (λd=>ad.some ?_) λp=>?_))
  ·rw[iW.2 ⟨_,gB a,by unfold mv;simpa using d⟩];rfl
  rw[bc O];exact m _ ⟨i+1,O,O,by rw[Pz h,e];unfold mv;simpa using p⟩ O
 have:i=l.lo.length:=O
 subst this;rw[dW] at e;rw[e,Bool.false_or];clear m;refine ad.loop (λx:Int=> ∃i:Nat,x=i/\i<=l.hi.length/\(l.hi.take i).any (mv k)=ak) (λx=>l.hi.length-x.toNat) ?_ n _ ⟨0,rfl,O,rfl⟩ O;rintro c z ⟨i,rfl,w,e⟩ m;refine aW (λa=>?_) λo=>ad.some ?_
 ·have a:i<l.hi.length:=O
  have h:=bp a
  have:=(fo (s _ (gB a))).1;refine ae (bl h) (ae (bl (d7 O 0)) (fl (λd=>ad.some ?_) λp=>?_))
  ·rw[iW.2 ⟨_,gB a,by unfold mv;simpa using d⟩]
  rw[bc O];exact m _ ⟨i+1,O,O,by rw[Pz h,e];unfold mv;simpa using p⟩ O
 have:i=l.hi.length:=O
 grind
def ic(k:Nat)(l:List Loop):List Loop:=(l.set k (l.getD (k+1) ⟨[],[]⟩)).set (k+1) (l.getD k ⟨[],[]⟩)
theorem xX(k:Nat)(l:List Loop):(ic k l).length=l.length:=by simp[ic]
def qW(k:Nat)(P:Part):Part:=⟨(ic k P.nest).take (k+2)++((ic k P.nest).drop (k+2)).map (c9 (k1 k)),P.body.map (gN (k1 k))⟩
def o2(p:Prog)(i k:Nat)(P:Part):Bool:= !pW (P.nest.getD (k+1) ⟨[],[]⟩) k&&(iP p i).all λd=>gz (fw k d)
def ml(p:Prog)(a c:Int):Prog×Bool:=
 if cO p a c=ab/\cO p a (c+1)=ab then
  match ax p.parts a with
  |some P=>if o2 p a.toNat c.toNat P=ab then hW ⟨p.aP,p.parts.set a.toNat (qW c.toNat P)⟩ else eV
  |none=>eV
 else eV
theorem HB{l:List Loop}(c:k+1<l.length){y:Loop}(a:y∈ic k l):y∈l:=by
 unfold ic at a
 grind
theorem Ri(c:d' r P=ab)(e:k+1<P.nest.length):gf 4 (qW k P):=by
 obtain⟨n,h⟩:=gU c;obtain⟨_,i,l,_⟩:=gx c;refine⟨⟨by simp only[qW,ik,List.length_map,k8,lN,xX];omega,λy a=>?_⟩,by simp only[qW,List.length_map];exact i.2,λs m=>?_⟩
 ·rcases eC.1 a with a|a
  ·exact(vd c).1.2 y (HB e (gO a))
  obtain⟨z,d,rfl⟩:=eA.1 a;exact x5 QG (h z (HB e (fq d)))
 obtain⟨z,d,rfl⟩:=eA.1 m;exact CR QG (l z d)
theorem HV(a:p.parts[i]? =aa P)(h:cO p (i:Int) ((k:Int)+1)=ab):k+1<P.nest.length:=by
 obtain⟨_,c,d,e,l,m,n,o,_,_,q,_⟩:=hX h
 grind
theorem HR(a:cO p (i:Int) (k:Int)=ab)(c:cO p (i:Int) ((k:Int)+1)=ab)(d:p.parts[i]? =aa P):ml p i k=if o2 p i k P=ab then hW ⟨p.aP,p.parts.set i (qW k P)⟩ else eV:=by
 unfold ml;rw[aR ⟨a,c⟩,bl d]
 grind
theorem aix(L:20000<=n)(x:dn 1000 p)(a c:Int):Em n p a c=aa (ml p a c):=by
 unfold Em;by_cases e:c= -1
 ·subst e;unfold ml;rw[aQ λh=>by rw[sd O] at h;cases h.1];exact ad.eq (ch (Bu O x a) λj Q=>ad.cond (λ_=>aW (λ_=>ad.some rfl) λh=>bB (show(-1:Int)<0 by omega) h) λ_=>ad.some rfl)
 refine ad.eq (ae (xT O x a c e) ?_);by_cases m:cO p a c=ab
 ·rw[aR m];refine bX (aW (λh=>by rw[sd h] at m;cases m) λt=>?_);obtain⟨z,i,k,P,l,rfl,rfl,o,u,v,R,q,D⟩:=hX m;obtain⟨Q,H⟩:=gU q;obtain⟨_,W,X,_⟩:=gx q;refine ae (bl o) ?_;rw[bc (n:=(k:Int)+1) O,bc (n:=(k:Int)+2) O];refine aW (λZ=>ad.some ?_) λb=>?_
  ·unfold ml;rw[aQ λh=>by have:=HV o h.2;omega];rfl
  have r:k+1<P.nest.length:=O
  have A:cO p (i:Int) ((k:Int)+1)=ab:=by
   unfold cO;rw[z,bl o]
   grind
  rw[HR m A o];have K:=d7 r (⟨[],[]⟩:Loop);rw[show(k:Int)+1=((k+1:Nat):Int) by omega];refine ae (bl K) (ae (Ys O (H _ (bx K)) O) (ad.cond (λB=>ad.some ?_) λB=>?_))
  ·rw[aQ (by unfold o2;rw[B];simp)];rfl
  refine ae (MM L x.sm z o (F:=λC=>vZ n C (k:Int)) (f:=fw k) (λd w=>abZ (by have:=(uO z o w).1;omega) (by have:=(uO z o w).1;omega)) (Cs k)) (ad.cond (λw=>?_) λw=>ad.some ?_)
  ·rw[aR (by unfold o2;rw[B,w];rfl)];refine ae (bl (d7 O (⟨[],[]⟩:Loop))) (ae (dU O _) (ae (dU (by rw[e6];omega) _) (ae (dU J _) ?_)));rw[cf,cf,cf];have G:=zo (n:=n) O (nest:=ic k P.nest) (body:=P.body) (s:=k+2) (by rw[xX];omega) (by rw[xX];omega) (λy g=>H y (HB r (fq g))) W.2 X (F:=λC=>vY n C (k:Int)) (abY n O);rw[show(k:Int)+2=((k+2:Nat):Int) by omega];refine ae G (ae (dU bP _) ?_);rw[cf,uL];exact ae (r2 O (ym x i (Ri q r))) (ad.some rfl)
  rw[aQ (by unfold o2;rw[w];simp)];rfl
 unfold ml;rw[aQ m,aQ λh=>m h.1];exact b8 (ad.some rfl)
theorem afb{l:List Loop}(a:k+1<l.length)(j:Nat):(ic k l)[j]? =if j=k then l[k+1]? else if j=k+1 then l[k]? else l[j]? :=by
 unfold ic
 grind
theorem PV{a b:List Loop}(c:k+1<a.length):ic k (a++b)=ic k a++b:=by
 have d:(a++b).getD (k+1) ⟨[],[]⟩=a.getD (k+1) ⟨[],[]⟩:=by rw[eP,eP,jo c]
 have e:(a++b).getD k ⟨[],[]⟩=a.getD k ⟨[],[]⟩:=by rw[eP,eP,jo O]
 unfold ic
 grind
theorem abe{l:List Loop}(c:k+1<l.length):ic k (l.take (k+2))=(ic k l).take (k+2):=by have h:=PV (k:=k) (a:=l.take (k+2)) (b:=l.drop (k+2)) (by rw[cZ];omega);rw[mX] at h;rw[h,sr (by rw[xX,cZ];omega)];exact(l9 (by rw[xX,cZ];omega)).symm
theorem O3{l:List Loop}:(ic k l).drop (k+2)=l.drop (k+2):=by unfold ic;rw[q5 O,q5 O]
theorem afa(a:k+1<P.nest.length)(r:List Loop):ic k (P.nest.take (k+2)++r)=(ic k P.nest).take (k+2)++r:=by rw[PV (by rw[cZ];omega),abe a]
theorem ajS(S:20000<=n)(r:dn 1000 p)(a c:Int):Eh n p a c=aa (ml p a c):=by
 unfold Eh;by_cases G:cO p a c=ab;rotate_left
 ·unfold ml;rw[aQ λh=>G h.1];refine ad.eq (ae (l2 O r) (ad.aD (λz=>z=ab) (λj K=>ae (nM O r a c) (ad.cond (λ_=>K _ rfl) λh=>bB (by simpa using h) G)) λz L=>by rw[L];exact bX (ad.some rfl)))
 obtain⟨Z,i,k,P,l,rfl,rfl,Q,cI,T,U,B,hk⟩:=hX G;obtain⟨V,I⟩:=gU B;obtain⟨_,h4,h5,_⟩:=gx B;rw[bc (n:=(k:Int)+1) O];by_cases o:cO p (i:Int) ((k:Int)+1)=ab;rotate_left
 ·unfold ml;rw[aQ λh=>o h.2];refine ad.eq (ae (l2 O r) (ad.aD (λz=>z=ab) (λj K=>ae (nM O r _ _) (ad.cond (λh=>by rw[G] at h;cases h) λ_=>ae (nM O r _ _) (ad.cond (λ_=>K _ rfl) λh=>bB (by simpa using h) o))) λz L=>by rw[L];exact bX (ad.some rfl)))
 rw[HR G o Q];have C:=HV Q o;have M:=d7 C (⟨[],[]⟩:Loop);refine ad.eq (ae (l2 O r) (ad.aD (λz=>z=pW (P.nest.getD (k+1) ⟨[],[]⟩) k) (λj K=>?_) λz L=>?_))
 ·refine ae (nM O r _ _) (ad.cond (λh=>by rw[G] at h;cases h) λ_=>ae (nM O r _ _) (ad.cond (λh=>by rw[o] at h;cases h) λ_=>ae (bl Q) ?_));rw[show(k:Int)+1=((k+1:Nat):Int) by omega];exact ae (bl M) (ae (XW O (I _ (bx M)) O) (K _ rfl))
 subst L;refine ad.cond (λg=>ad.some ?_) λg=>?_
 ·rw[aQ (by unfold o2;rw[g];simp)];rfl
 refine ae (x:=iP p i) (M2 S r.sm Z _) ?_;have R:=Ip Z (i:=i);have W:=λd H=>(uO Z Q (d:=d) H).1;have t:o2 p i k P=(iP p i).all (λd=>gz (fw k d)):=by unfold o2;rw[g];rfl
 rw[t];generalize iP p i=e at R W;refine ad.loop (λx:Int=> ∃m:Nat,x=m/\m<=e.length/\ ∀d∈e.take m,gz (fw k d)=ab) (λx=>e.length-x.toNat) ?_ n _ ⟨0,rfl,O,λd H=>by simp at H⟩ O;rintro u z ⟨m,rfl,hm,q⟩ b7;refine aW (λF=>?_) λkp=>?_
 ·have F:m<e.length:=O
  have N:=bp F;have w:=gB F;have oj:=W _ w;rw[show(k:Int)+1=((k+1:Nat):Int) by omega];refine ae (bl N) (ae (c' bP) (ae (bl (d7 O 0)) (ae (x:=e[m].getD k 0) (bl (d7 (l:=e[m]) O 0)) (ae (dU (by rw[uG];omega) _) (ae (bl (d7 O 0)) ?_)))));rw[uG,cf];refine ae (bl (d7 (l:=e[m].set k (e[m].getD (k+1) 0)) (k:=k+1) bP 0)) (ae (dU (by rw[e6];omega) _) ?_);rw[cf];refine ae (x:=gz (fw k e[m])) (Og (d:=fw k e[m]) (by rw[Cs];omega) O) (ad.cond (λh=>ad.some ?_) λh=>?_)
  ·rw[aQ λX=>?_]
   ·rfl
   have:=gP.1 X _ w;rw[this] at h;cases h
  rw[bc O];refine b7 _ ⟨m+1,O,O,λd H=>?_⟩ O;rw[eN,N] at H;rcases eC.1 H with D|D
  ·exact q d D
  have:d=e[m]:=by simpa using D
  subst this;simpa using h
 have:m=e.length:=O
 subst this;rw[dW] at q;rw[aR (gP.2 q)];have E:=AF (n:=n) O (x:=P) (s:=k+1) O V I h4.2 h5 (way:=0) (v:=(k:Int)) (b:=⟨[],0⟩) (f:=k1 k) λn _ x hx=>adn n O x hx;rw[show(k:Int)+1=((k+1:Nat):Int) by omega];refine ae (bl Q) (ae E ?_);have rK:(P.nest.take (k+2)++(P.nest.drop (k+2)).map (c9 (k1 k))).length=P.nest.length:=by rw[ea,dJ,cZ,fM];omega
 have y:=afa C ((P.nest.drop (k+2)).map (c9 (k1 k)));rw[show k+1+1=k+2 by omega];dsimp only;generalize P.nest.take (k+2)++(P.nest.drop (k+2)).map (c9 (k1 k))=A at rK y;refine ae (bl (d7 O (⟨[],[]⟩:Loop))) (ae (bl (d7 O (⟨[],[]⟩:Loop))) (ae (dU O _) ?_));rw[cf];refine ae (bl (d7 (l:=A.set k (A.getD (k+1) ⟨[],[]⟩)) (k:=k+1) (by rw[e6];omega) (⟨[],[]⟩:Loop))) (ae (dU (by rw[e6];omega) _) ?_);rw[cf];have oi:(⟨(A.set k (A.getD (k+1) ⟨[],[]⟩)).set (k+1) (A.getD k ⟨[],[]⟩),P.body.map (gN (k1 k))⟩:Part)=qW k P:=by
  have:(A.set k (A.getD (k+1) ⟨[],[]⟩)).set (k+1) (A.getD k ⟨[],[]⟩)=ic k A:=rfl;rw[this,y,<-O3];rfl
 rw[oi];exact ae (xW O r T ((Ri B C).mono O)) (ad.some rfl)
def qE(x y:bN):Prop:=x.part<y.part\/x.part=y.part/\(cmpL x.bU y.bU<0\/x.bU=y.bU/\x.stmt<y.stmt)
theorem acj{y:bN}(h:qE x y): ¬qE y x:=λa=>by
 have i:=qI x.bU y.bU;have hs:=wZ x.bU;rcases h with h|⟨e,h|⟨c,h⟩⟩<;>rcases a with g|⟨_,g|⟨d,g⟩⟩
 ·omega
 ·omega
 ·omega
 ·omega
 ·omega
 ·rw[d] at h;omega
 ·omega
 ·rw[<-c] at g;omega
 omega
theorem Qy: ∀p a b:List Int,cmpL (p++a) (p++b)=cmpL a b
 | [],_,_=>rfl
 |x::p,a,b=>by simp only[List.cons_append,cmpL];rw[aQ O,aQ O];exact Qy p a b
theorem Hn: ∀(ls:List Loop) (p:List Int) {x:List Int},x∈cW ls p-> ∃t,x=p++t/\t.length=ls.length
 | [],p,x,h=>⟨[],by simpa[cW] using h,rfl⟩
 |l::ls,p,x,h=>by simp only[cW] at h;obtain⟨v,_,h⟩:=ho.1 h;obtain⟨t,rfl,a⟩:=Hn ls _ h;exact⟨v::t,aX,by simp[a]⟩
theorem afg(c d:Int):(cL c d).Pairwise (λa b=>a<b):=by unfold cL;rw[List.pairwise_map];exact List.pairwise_lt_range.imp λh=>O
theorem QQ: ∀(ls:List Loop) (p:List Int),iJ (cW ls p)
 | [],p=>List.pairwise_singleton _ _
 |l::ls,p=>by simp only[cW];refine EU.2 ⟨λv _=>QQ ls _,(afg _ _).imp fun {v w} h x a y c=>?_⟩;obtain⟨s,rfl,_⟩:=Hn ls _ a;obtain⟨t,rfl,_⟩:=Hn ls _ c;rw[fN,fN,Qy];simp only[List.cons_append,cmpL];rw[aR h];omega
theorem S3(e:bM p=ab):(I p.parts).Pairwise qE:=by
 unfold I;refine EU.2 ⟨λy a=>?_,?_⟩
 ·obtain⟨P,i⟩:=y;have k:=w5.1 a;have d:=(dZ e).2.2.2.1 P (bx k);dsimp only;unfold ew;rw[l6 d];refine EU.2 ⟨λq _=>?_,(QQ _ _).imp fun {q r} h x c y a=>?_⟩
  ·rw[List.pairwise_map];exact List.pairwise_lt_range.imp λh=> .inr ⟨rfl,.inr ⟨rfl,J⟩⟩
  obtain⟨_,_,rfl⟩:=eA.1 c;obtain⟨_,_,rfl⟩:=eA.1 a;exact .inr ⟨rfl,.inl h⟩
 rw[List.pairwise_iff_getElem];intro i j m n l x c y a;rw[List.getElem_zipIdx] at c a;unfold ew at c a;obtain⟨_,_,c⟩:=ho.1 c;obtain⟨_,_,rfl⟩:=eA.1 c;obtain⟨_,_,a⟩:=ho.1 a;obtain⟨_,_,rfl⟩:=eA.1 a;exact .inl J
theorem OH{p:Prog}(a:bM p=ab){c:bN}(i:da p c): ∀(S:List bN) (m:List Int),(∀s∈S,da p s/\oc p c s)->fD p.aP m->c4 p (eI p m c) S=eI p (c4 p m S) c
 | [],_,_,_=>rfl
 |s::S,m,h,d=>by have e:=h s eD;show c4 p (eI p (eI p m c) s) S=eI p (c4 p (eI p m s) S) c;rw[e.2 m d];exact OH a i S _ (λx k=>h x (eo _ k)) (sJ a d e.1)
theorem OI{p:Prog}(n:bM p=ab): ∀(C B:List bN) (m:List Int),(∀x∈C,da p x)->C.Perm B->B.Pairwise qE->C.Pairwise (λa b=>qE a b\/oc p a b)->fD p.aP m->c4 p m C=c4 p m B
 | [],B,m,_,l,_,_,_=>by rw[l.symm.eq_nil]
 |c::C,B,m,r,l,w,o,y=>by
  obtain⟨S,T,rfl⟩:=List.append_of_mem (l.subset eD);have d:C.Perm (S++T):=(l.trans List.perm_middle).cons_inv;have e:=r c eD;have i:=λx G=>r x (eo c G);rw[nQ] at o;rw[List.pairwise_append] at w;obtain⟨H,z,A⟩:=w;rw[nQ] at z;have q:(S++T).Pairwise qE:=List.pairwise_append.2 ⟨H,z.2,λa K b L=>A a K b (eo c L)⟩;show c4 p (eI p m c) C=_;rw[OI n C (S++T) _ i d q o.2 (sJ n y e)];have Q: ∀s∈S,da p s/\oc p c s:=λs F=>by
   have k:=d.symm.subset (ka T F);refine⟨i s k,(o.1 s k).resolve_left λh=>acj h (A s F c eD)⟩
  rw[hF,hF,OH n e S m Q y];rfl
theorem OQ: ∀a b:List Int,a.length=b.length->gz (fY b a)= !decide (cmpL b a<0)
 | [],[],_=>rfl
 | [],_::_,h=>by simp at h
 |_::_,[],h=>by simp at h
 |x::a,y::b,h=>by
  have l:=OQ a b (by simpa using h);have e:fY (y::b) (x::a)=(y-x)::fY b a:=rfl;have d:cmpL (y::b) (x::a)=if y<x then-1 else if x<y then 1 else cmpL b a:=rfl
  rw[e,d];clear d;by_cases c:y=x
  ·subst c;rw[aQ O,aQ O,<-l,Int.sub_self];unfold gz kt;rw[List.findIdx?_cons];simp only[decide_true,Bool.not_true,Bool.false_eq_true,if_false];cases (fY b a).findIdx? (λx=> !decide (x=0)) with
   |none=>rfl
   |some k=>rfl
  have m:kt ((y-x)::fY b a)=aa 0:=by
   unfold kt;rw[List.findIdx?_cons,aR bP]
  unfold gz;rw[m];dsimp only;rw[List.getD_cons_zero];by_cases i:y<x
  ·rw[aR i,bJ O,bI O];rfl
  rw[aQ i,aR O,bI O,bJ O];rfl
def ix(i:Nat)(a:List Int->List Int)(x:bN):bN:=if x.part=(i:Int) then⟨x.part,x.stmt,a x.bU⟩ else x
theorem NT(i:Nat)(a:List Int->List Int)(x:bN):(ix i a x).part=x.part:=by unfold ix;split<;>rfl
theorem AE: ∀x:bN,x.part≠(i:Int)->ix i f x=x:=λx a=>by unfold ix;rw[aQ a]
theorem GP{k R:Type}{f g:k->List R}: ∀{l:List k},(∀x∈l,(f x).Perm (g x))->(l.flatMap f).Perm (l.flatMap g)
 | [],_=> .nil
 |x::l,h=>by rw[nR,nR];exact(h x eD).append (GP λy a=>h y (eo x a))
theorem aiE{l:List Part}(d:l[i]? =aa P){G:bN->bN}(n:(ew i C).Perm ((ew i P).map G))(o: ∀x,x.part≠(i:Int)->G x=x):(I (l.set i C)).Perm ((I l).map G):=by
 unfold I;rw[js];have e:(l.set i C).zipIdx=l.zipIdx.map (λy=>if y.2=i then(C,i) else y):=by
  refine zZ λj=>?_;rw[List.getElem?_zipIdx,eK,List.getElem?_zipIdx];by_cases k:i=j
  ·subst k;rw[gC (bR.1 d).1,d];simp
  rw[jr k];cases l[j]? with
  |none=>rfl
  |some y=>
   have: ¬j=i:=λh=>k h.symm;simp[this]
 rw[e,pB];refine GP λy p=>?_;obtain⟨x,j⟩:=y;have m:=w5.1 p;dsimp only at m⊢;by_cases a:j=i
 ·subst a;rw[d] at m;cases m;rw[aR rfl];exact n
 rw[aQ a];refine .of_eq (l0 λz c=>o z ?_).symm;unfold ew at c;obtain⟨q,_,c⟩:=ho.1 c;obtain⟨t,_,rfl⟩:=eA.1 c;dsimp only;omega
theorem aiB{x:Part}(a:(dG x).Perm ((dG P).map f))(c:x.body.length=P.body.length):(ew i x).Perm ((ew i P).map (ix i f)):=by unfold ew;rw[c,js];refine(a.flatMap_right _).trans (.of_eq ?_);rw[pB];refine kV λq _=>?_;rw[fv];refine lZ λt _=>?_;show _=ix i f _;unfold ix;rw[aR rfl]
structure AX (p q:Prog) (i:Nat) (pQ:List Int->List Int):Prop where
 arr:q.aP=p.aP
 perm:(I q.parts).Perm ((I p.parts).map (ix i pQ))
 cells: ∀x∈I p.parts,rc q (ix i pQ x)=rc p x/\c3 q (ix i pQ x)=c3 p x
 run: ∀x∈I p.parts,∀m,eI q m (ix i pQ x)=eI p m x
theorem OX(A:bM p=ab)(o:p.parts[i]? =aa P)(B:C.body=P.body.map (gN F))(e: ∀q:List Int,q.length=P.nest.length-> ∀y,cN y=ab->cT (F y) (f q)=cT y q)(G:da p x):
  ∃s k d,ep p x=aa s/\ep ⟨p.aP,p.parts.set i C⟩ (ix i f x)=aa k/\eS s d=ab/\
   (∀a,fX a d=ab->dS p.aP (if x.part=(i:Int) then gH F a else a) (ix i f x).bU 0=dS p.aP a x.bU 0)/\
   (k.write=if x.part=(i:Int) then gH F s.write else s.write)/\
   (dv 5 k.value=(dv 5 s.value).map λa=>if x.part=(i:Int) then gH F a else a)/\
   ∀m,er 5 p.aP m k.value (ix i f x).bU=er 5 p.aP m s.value x.bU:=by
 obtain⟨r,X,Q,s,d,H,K,w,L,n,l,R,Z⟩:=ov A G;have hi:=(bR.1 o).1;by_cases c:x.part=(i:Int)
 ·obtain rfl:r=i:=O
  rw[o] at w;cases w;have e:=e x.bU R.1;have h:ix r f x=⟨x.part,x.stmt,f x.bU⟩:=by unfold ix;rw[aR c]
  refine⟨s,gN F s,d,n,?_,l,λa z=>?_,?_,?_,λm=>?_⟩
  ·rw[h];unfold ep;dsimp only;rw[H,cf,gC hi];show(C.body[x.stmt.toNat]?)=_;rw[B,eK,K,cf,L];rfl
  ·rw[aR c,h];exact yl (λy W=>e y ((lM z).2.2 y W)) _ _
  ·rw[aR c];rfl
  ·simp only[if_pos c];exact Cx (gj l).2.1
  rw[h];exact yq e _ m (gj l).2.1
 have h:ix i f x=x:=AE x c;refine⟨s,s,d,n,?_,l,λa z=>?_,?_,?_,λm=>?_⟩
 ·rw[h,<-n];unfold ep;dsimp only;rw[jr O]
 ·rw[aQ c,h]
 ·rw[aQ c]
 ·simp only[if_neg c,List.map_id']
 rw[h]
theorem QS(B:bM p=ab)(k:p.parts[i]? =aa P)(l:C.body=P.body.map (gN F))(c: ∀q:List Int,q.length=P.nest.length-> ∀y,cN y=ab->cT (F y) (f q)=cT y q)(e:(dG C).Perm ((dG P).map f)):AX p ⟨p.aP,p.parts.set i C⟩ i f where
 arr:=rfl
 perm:=aiE k (aiB e (by rw[l,dJ])) AE
 cells x n:=by
  obtain⟨s,L,d,o,r,w,h,z,G,H⟩:=OX B k l c (fc n);obtain⟨A,_,K,_⟩:=gj w;unfold rc c3;rw[o,r];dsimp only;rw[z,G,fv,h _ A];exact⟨lZ λa Q=>h a (K a Q),rfl⟩
 run x n m:=by obtain⟨s,L,d,o,r,w,h,z,G,H⟩:=OX B k l c (fc n);obtain⟨A,_,K,_⟩:=gj w;unfold eI;rw[o,r];dsimp only;rw[z,h _ A,H m]
theorem N1{a b:bN}:mc p a b≠0↔o0 p a b:=by unfold mc o0;by_cases c:(c3 p a:Int)∈rc p b<;>by_cases d:(c3 p b:Int)∈rc p a<;>by_cases e:c3 p a=c3 p b<;>(first|rw[aR c]|rw[aQ c])<;>(first|rw[aR d]|rw[aQ d])<;>(first|rw[aR e]|rw[aQ e])<;>simp[c,d,e]
theorem acY:d∈mq p i↔ ∃j k:Nat,∃a b:bN,j<k/\(I p.parts)[j]? =aa a/\(I p.parts)[k]? =aa b/\o0 p a b/\a.part=(i:Int)/\b.part=(i:Int)/\d=fY b.bU a.bU:=by
 unfold mq;rw[List.mem_filterMap];constructor
 ·rintro⟨e,o,c⟩;obtain⟨j,k,h,q,m,rfl⟩:=xN.1 o;have l:=bp (O:j<(I p.parts).length);have bb:=bp q;rw[u1 l bb] at m;unfold ki at c;dsimp only at c;rw[cf,cf,l,bb] at c;dsimp only at c;split at c
  ·rename_i n;cases c;exact⟨j,k,_,_,h,l,bb,N1.1 m,n.1,n.2,rfl⟩
  cases c
 rintro⟨j,k,a,b,h,l,bb,r,s,w,rfl⟩;refine⟨_,xN.2 ⟨j,k,h,(bR.1 bb).1,?_,rfl⟩,?_⟩
 ·rw[u1 l bb];exact N1.2 r
 unfold ki;dsimp only;rw[cf,cf,l,bb];dsimp only;rw[aR ⟨s,w⟩]
theorem Q8(d:bM p=ab)(e:p.parts[i]? =aa P){a:bN}(k:a∈I p.parts)(h:a.part=(i:Int)):a.bU.length=P.nest.length/\ ∀y∈a.bU,cV 9999 y:=by obtain⟨Q,c,_,l,_,m⟩:=qy d (fc k);rw[h,cf,e] at c;cases c;exact⟨l,m⟩
structure Kept (p:Prog) (i:Nat) (P:Part) (pQ f:List Int->List Int):Prop where
 pos:(iP p i).all (λd=>gz (f d))=ab
 Jd: ∀a b:List Int,a.length=P.nest.length->b.length=P.nest.length->f (fY b a)=fY (pQ b) (pQ a)
 len: ∀a:List Int,a.length=P.nest.length->(pQ a).length=P.nest.length
 inj: ∀a b:List Int,a.length=P.nest.length->b.length=P.nest.length->pQ a=pQ b->a=b
theorem aeq(o:bM p=ab)(s:p.parts[i]? =aa P)(l:Kept p i P H f):(I p.parts).Pairwise (λa b=>o0 p a b->qE (ix i H a) (ix i H b)):=by
 rw[List.pairwise_iff_getElem];intro j k w x m A;have hs:=List.pairwise_iff_getElem.1 (S3 o) j k w x m;have y:=bp w;have bb:=bp x;generalize (I p.parts)[j]=a at*;generalize (I p.parts)[k]=b at*;unfold qE;rw[NT,NT];rcases hs with h|⟨h,hs⟩
 ·exact .inl h
 refine .inr ⟨h,?_⟩;by_cases n:a.part=(i:Int)
 ·have d:b.part=(i:Int):=O
  obtain⟨q,_⟩:=Q8 o s (bx y) n;obtain⟨r,_⟩:=Q8 o s (bx bb) d;have B:fY b.bU a.bU∈iP p i:=Q5.2 (acY.2 ⟨j,k,a,b,m,y,bb,A,n,d,rfl⟩);have c:=gP.1 l.pos _ B;rw[l.Jd _ _ q r,OQ _ _ (by rw[l.len _ q,l.len _ r])] at c;have C: ¬cmpL (H b.bU) (H a.bU)<0:=by simpa using c
  have F:=qI (H a.bU) (H b.bU);unfold ix;rw[aR n,aR d];dsimp only;by_cases z:cmpL (H a.bU) (H b.bU)=0
  ·have e:=l.inj _ _ q r (uP z);refine .inr ⟨uP z,?_⟩;rcases hs with hs|⟨_,hs⟩
   ·have:=wZ b.bU;rw[e] at hs;omega
   exact hs
  exact .inl O
 rw[AE a n,AE b O];exact hs
theorem Td{q:Prog}(s:bM p=ab)(e:bM q=ab)(w:p.parts[i]? =aa P)(c:AX p q i H)(y:Kept p i P H f): ∀m,fD p.aP m->c4 q m (I q.parts)=c4 p m (I p.parts):=λm z=>by
 have A: ∀x∈I q.parts,da q x:=λx d=>fc d;have k: ∀x∈(I p.parts).map (ix i H),da q x:=λx d=>A x (c.perm.symm.subset d);have l:((I p.parts).map (ix i H)).Pairwise (λa b=>qE a b\/oc q a b):=by
  rw[List.pairwise_map];refine(aeq s w y).imp_of_mem fun {a b} n o h=>?_;by_cases r:o0 p a b
  ·exact .inl (h r)
  refine .inr (swap e (k _ (EW n)) (k _ (EW o)) λg=>r ?_);obtain⟨aL,a2⟩:=c.cells a n;obtain⟨B,C⟩:=c.cells b o;unfold o0 at g⊢
  rwa [aL,a2,B,C] at g
 rw[<-OI e _ _ m k c.perm.symm (S3 e) l (by rw[c.arr];exact z)];unfold c4;rw[List.foldl_map];exact wH λx d m=>c.run x d m
def lf(k:Nat)(c:Int):az:=⟨[0,0,0,0].set k (-1),c⟩
def mx(k:Nat)(c:Int)(x:az):az:=td x k (lf k c)
def kd(k:Nat)(d:List Int):List Int:=d.set k (0-d.getD k 0)
def iZ(l:Loop):Int:=cM l.lo+cM l.hi-1
def p0(k:Nat)(c:Int)(P:Part):Part:=⟨P.nest.take (k+1)++(P.nest.drop (k+1)).map (c9 (mx k c)),P.body.map (gN (mx k c))⟩
def pZ(p:Prog)(i k:Nat)(l:Loop):Bool:=eG l&&(iP p i).all λd=>gz (kd k d)
def nI(p:Prog)(a c:Int):Prog×Bool:=
 if cO p a c=ab then
  match ax p.parts a with
  |some P=>match ax P.nest c with
   |some l=>if pZ p a.toNat c.toNat l=ab then hW ⟨p.aP,p.parts.set a.toNat (p0 c.toNat (iZ l) P)⟩ else eV
   |none=>eV
  |none=>eV
 else eV
theorem ON(k:Nat)(d:List Int):(kd k d).length=d.length:=by simp[kd]
theorem HI(h:cO p (i:Int) (k:Int)=ab)(a:p.parts[i]? =aa P)(c:P.nest[k]? =aa l):nI p i k=if pZ p i k l=ab then hW ⟨p.aP,p.parts.set i (p0 k (iZ l) P)⟩ else eV:=by
 unfold nI;rw[aR h,bl a];dsimp only;rw[bl c]
 grind
theorem P4(d:k<4)(a:cV 999 c):fQ 1000 (lf k c):=by unfold cV at a;rcases(O:k=0\/k=1\/k=2\/k=3) with rfl|rfl|rfl|rfl<;>(unfold fQ cV lf;simp;omega)
theorem P5(k:Nat)(c:Int): ∀x,cN x=ab->dD 4 (mx k c x):=λx a=>by have:=QY ⟨x.aT.set k 0,x.const⟩ (lf k c) (x.aT.getD k 0) (by dsimp only;rw[e6];exact(fo a).1) (by simp[lf]);unfold dD mx td;omega
theorem u'{l:List az}(h: ∀x∈l,cN x=ab):cV 99 (cM l):=by
 unfold cM;cases l with
 |nil=>unfold cV;simp
 |cons x t=>exact(fo (h x eD)).2.1
theorem Ih(h:gV l):cV 999 (iZ l):=by have a:=u' h.1.2;have c:=u' h.2.2;unfold cV at*;unfold iZ;omega
theorem aaY(n:Nat)(a:k<d.length)(c: ∀x∈d,cV 99999 x):vW n d (k:Int)=aa (kd k d):=by have e:=d7 a (0:Int);have bb:=c _ (bx e);unfold cV at bb;unfold vW;refine ad.eq (ae (bl e) ?_);rw[bc O];refine ae (dU O _) (ad.some ?_);rw[cf];rfl
theorem acD(n:Nat)(a:k<4):oq n (k:Int) (-1)=aa ⟨[0,0,0,0].set k (-1),0⟩:=by rcases(O:k=0\/k=1\/k=2\/k=3) with rfl|rfl|rfl|rfl<;>rfl
theorem aaX(d:5000<=n)(a:k<4)(e:cV 999 c): ∀x,cN x=ab->vV n x (k:Int) (lf k c)=aa (mx k c x):=λx h=>by unfold vV;rw[Gd d ((oM h).mono O) (P4 a e) a];rfl
theorem abl(a:k<4)(d:cV 999 c): ∀n,5000<=n-> ∀x,cN x=ab->km n x 1 (k:Int) (lf k c)=aa (mx k c x):=λn e x h=>by unfold km;rw[MZ e ((oM h).mono O) (P4 a d) a];rfl
theorem afe(a:5000<=n)(d:k<4)(e:cV 999 c):jf n ⟨[0,0,0,0],c⟩ 1 (hZ k) (-1)=aa (lf k c):=by unfold cV at e;rw[uy a (by unfold fQ cV;simp;omega) ((sH d).mono O) ⟨O,O⟩ ⟨O,O⟩];rcases(O:k=0\/k=1\/k=2\/k=3) with rfl|rfl|rfl|rfl<;>simp[o1,hZ,lf]
theorem QE(d:d' r P=ab)(n:k<P.nest.length)(c:Int):gf 4 (p0 k c P):=by
 obtain⟨o,h⟩:=gU d;obtain⟨_,i,l,_⟩:=gx d;refine⟨⟨by simp only[p0,ik,List.length_map,k8,lN];omega,λy a=>?_⟩,by simp only[p0,List.length_map];exact i.2,λs m=>?_⟩
 ·rcases eC.1 a with a|a
  ·exact(vd d).1.2 y (gO a)
  obtain⟨z,e,rfl⟩:=eA.1 a;exact x5 (P5 k c) (h z (fq e))
 obtain⟨z,e,rfl⟩:=eA.1 m;exact CR (P5 k c) (l z e)
theorem air(b:20000<=n)(z:dn 1000 p)(a c:Int):Ek n p a c=aa (nI p a c):=by
 unfold Ek;by_cases m:c= -1
 ·subst m;unfold nI;rw[aQ λh=>by rw[sd O] at h;cases h];exact ad.eq (ch (Bu O z a) λv W=>ad.cond (λ_=>aW (λ_=>ad.some rfl) λh=>bB (show(-1:Int)<0 by omega) h) λ_=>ad.some rfl)
 refine ad.eq (ae (xT O z a c m) ?_);by_cases o:cO p a c=ab
 ·rw[aR o];refine bX (aW (λh=>by rw[sd h] at o;cases o) λD=>?_);obtain⟨A,i,k,P,l,rfl,rfl,w,B,E,C,q,X⟩:=hX o;obtain⟨W,Z⟩:=gU q;obtain⟨_,g,j,_⟩:=gx q;have e:=Z l (bx B);rw[HI o w B];refine ae (bl w) (ae (bl B) (ae (Hp O e) ?_));cases G:eG l with
  |false=>exact b8 (ad.some (by rw[aQ (by unfold pZ;rw[G];simp)];rfl))
  |true=>
   refine bX (ae (MM b z.sm A w (F:=λH=>vW n H (k:Int)) (f:=kd k) (λd r=>aaY n (by have:=(uO A w r).1;omega) (uO A w r).2) (ON k)) (ad.cond (λr=>?_) λr=>ad.some ?_))
   ·rw[show pZ p i k l=ab by unfold pZ;rw[G,r];rfl];refine ae (acD n X) ?_;have bT:=Ih e;have K:=u' e.1.2;have L:=u' e.2.2;unfold cV at K L;have Q:(⟨([0,0,0,0]:List Int).set k (-1),wr ((wr (cM l.lo+cM l.hi))-1)⟩:az)=lf k (iZ l):=by
     rw[bc (n:=cM l.lo+cM l.hi) O,bc O];rfl
    rw[bc (n:=(k:Int)+1) O];have R:=zo (n:=n) O (nest:=P.nest) (body:=P.body) (s:=k+1) O W (λy t=>Z y (fq t)) g.2 j (F:=λH=>vV n H (k:Int) (⟨([0,0,0,0]:List Int).set k (-1),wr ((wr (cM l.lo+cM l.hi))-1)⟩:az)) (f:=mx k (iZ l)) λx u=>by rw[Q];exact aaX O X bT x u
    rw[show(k:Int)+1=((k+1:Nat):Int) by omega];refine ae R (ae (dU J _) ?_);rw[cf];exact ae (r2 O (ym z i (QE q C (iZ l)))) (ad.some rfl)
   rw[aQ (by unfold pZ;rw[G,r];simp)];rfl
 unfold nI;rw[aQ o,aQ o];exact b8 (ad.some rfl)
theorem ajM(M:20000<=n)(C:dn 1000 p)(c e:Int):Eg n p c e=aa (nI p c e):=by
 unfold Eg;refine ad.eq (ae (l2 O C) (ae (nM O C c e) ?_));by_cases bb:cO p c e=ab;rotate_left
 ·unfold nI;rw[aQ bb,show cO p c e=ak by simpa using bb];exact bX (ad.some rfl)
 rw[bb];refine b8 ?_;obtain⟨G,i,k,P,l,rfl,rfl,H,K,N,L,q,Q⟩:=hX bb;obtain⟨S,D⟩:=gU q;obtain⟨_,T,U,_⟩:=gx q;have o:=D l (bx K);rw[HI bb H K];refine ae (bl H) (ae (bl K) (ae (Gx O o) (ae (x:=iP p i) (M2 M C.sm G _) ?_)));have w:=Ip G (i:=i);have y:=λd V=>uO G H (d:=d) V;have R:pZ p i k l=(eG l&&(iP p i).all λd=>gz (kd k d)):=rfl;rw[R];have h3:(if eG l=ab then(cM l.lo,cM l.hi,ab) else((0:Int),(0:Int),ak)).2.2=eG l:=by cases eG l<;>rfl
 generalize iP p i=h at w y;refine ad.loop (λx:Bool×Int=> ∃m:Nat,x.2=m/\m<=h.length/\x.1=(eG l&&(h.take m).all λd=>gz (kd k d))) (λx=>h.length-x.2.toNat) ?_ n _ ⟨0,rfl,O,by dsimp only;rw[h3,List.take_zero];simp⟩ J;rintro W ⟨ok,z⟩ ⟨m,F,hm,a⟩ b7;dsimp only at F a⊢;subst F;refine aW (λr=>?_) λkp=>?_
 ·have r:m<h.length:=O
  have E:=bp r;obtain⟨g1,g2⟩:=y _ (gB r);have I:=d7 (l:=h[m]) (k:=k) O 0;have bb:=g2 _ (bx I);unfold cV at bb;refine ad.aD (λz=>z.2=(eG l&&(h.take (m+1)).all λd=>gz (kd k d))) (λj X=>?_) λz F=>?_
  ·refine ae (bl E) (ae (c' bP) ?_);rw[uG];refine ae (bl I) ?_;rw[bc O];refine ae (dU O _) ?_;rw[cf];have A:(h.take (m+1)).all (λd=>gz (kd k d))=((h.take m).all (λd=>gz (kd k d))&&gz (kd k h[m])):=by
    rw[eN,E,List.all_append];simp
   rw[A,<-mW,<-a] at X;cases ok with
   |true=>exact bX (ae (x:=gz (kd k h[m])) (Og (d:=kd k h[m]) (by rw[ON];omega) O) (X _ (by rw[gp])))
   |false=>exact b8 (X _ (by rw[Bool.false_and]))
  rw[bc O];exact b7 _ ⟨m+1,J,O,F⟩ J
 have:m=h.length:=O
 subst this;rw[dW] at a;rw[<-a];cases B:ok with
 |false=>exact bX (ad.some (by rw[aQ aX];rfl))
 |true=>
  rw[aR rfl];have Z:eG l=ab:=by
   rw[B] at a;cases Z:eG l with
   |true=>rfl
   |false=>rw[Z] at a;cases a
  have g:=u' o.1.2;have t:=u' o.2.2;unfold cV at g t;have u:wr ((wr ((if eG l=ab then(cM l.lo,cM l.hi,ab) else((0:Int),(0:Int),ak)).1+(if eG l=ab then(cM l.lo,cM l.hi,ab) else((0:Int),(0:Int),ak)).2.1))-1)=iZ l:=by
   rw[aR Z];dsimp only;rw[bc (n:=cM l.lo+cM l.hi) O,bc O];rfl
  rw[u];refine b8 (ae (iq n _) (ae (BI n Q) (ae (afe O Q (Ih o)) (ae (AF (n:=n) O (x:=P) (s:=k) O S D T.2 U (way:=1) (v:=(k:Int)) (b:=lf k (iZ l)) (f:=mx k (iZ l)) (abl Q (Ih o))) ?_))));exact ae (xW O C N ((QE q L (iZ l)).mono O)) (ad.some rfl)
theorem H'{F:az->az}{f:List Int->List Int}{m:Nat}(c: ∀q:List Int,m<=q.length-> ∀y,cN y=ab->cT (F y) (f q)=cT y q)(a: ∀(q:List Int) (v:Int),m<=q.length->f (q++[v])=f q++[v]): ∀(ls:List Loop) (p:List Int),(∀l∈ls,gV l)->m<=p.length->cW (ls.map (c9 F)) (f p)=(cW ls p).map f
 | [],p,_,_=>rfl
 |l::ls,p,h,e=>by
  have cI:=h l eD;have i: ∀{as:List az},(∀x∈as,cN x=ab)->fi (as.map F) (f p)=fi as p:=λk=>by
   unfold fi;rw[fv];exact lZ λx d=>c p e x (k x d)
  have n:cP (c9 F l) (f p)=cP l p:=by unfold cP c9;rw[i cI.1.2]
  have o:dd (c9 F l) (f p)=dd l p:=by unfold dd c9;rw[i cI.2.2]
  simp only[gd,cW];rw[n,o,js];refine kV λv _=>?_;rw[<-a p v e];exact H' c a ls (p++[v]) (λx d=>h x (eo _ d)) bP
theorem GC{A B:List Loop}{f:List Int->List Int}{k:Nat}(h: ∀p:List Int,p.length=k->(cW B p).Perm ((cW A p).map f)): ∀(os:List Loop) (p:List Int),p.length+os.length=k->(cW (os++B) p).Perm ((cW (os++A) p).map f)
 | [],p,a=>h p (by simpa using a)
 |o::os,p,a=>by simp only[List.cons_append,cW];rw[js];exact GP λv _=>GC h os (p++[v]) (by simp at a ⊢; omega)
theorem Pt{k R:Type}{f g:k->List R}: ∀l:List k,(l.flatMap f++l.flatMap g).Perm (l.flatMap λb=>f b++g b)
 | []=> .nil
 |x::l=>by simp only[List.flatMap_cons,List.append_assoc];refine List.Perm.append_left _ ?_;refine(List.perm_append_comm_assoc _ _ _).trans ?_;exact List.Perm.append_left _ (Pt l)
theorem NJ{k R h:Type}{F:k->R->List h}{B:List R}: ∀A:List k,(A.flatMap λa=>B.flatMap (F a)).Perm (B.flatMap λb=>A.flatMap λa=>F a b)
 | []=>by
  have:B.flatMap (λb=>([]:List k).flatMap λa=>F a b)=[]:=List.flatMap_eq_nil_iff.2 λ_ _=>rfl;rw[this];exact .nil
 |a::A=>by simp only[List.flatMap_cons];exact(List.Perm.append_left _ (NJ A)).trans (Pt B)
theorem Bg: ∀(b a:List Int) (k:Nat) (x y:Int),fY (b.set k x) (a.set k y)=(fY b a).set k (x-y)
 | [],a,k,x,y=>by simp[fY]
 |b::c,[],k,x,y=>by simp[fY]
 |b::c,a::as,0,x,y=>rfl
 |b::c,a::as,k+1,x,y=>by show(b-a)::fY (c.set k x) (as.set k y)=(b-a)::(fY c as).set k (x-y);rw[Bg c as k x y]
theorem B7: ∀(b a:List Int) (k:Nat),k<b.length->k<a.length->(fY b a).getD k 0=b.getD k 0-a.getD k 0
 | [],a,k,h,_=>by simp at h
 |b::c,[],k,_,h=>by simp at h
 |b::c,a::as,0,_,_=>rfl
 |b::c,a::as,k+1,d,e=>B7 c as k (by simpa using d) (by simpa using e)
theorem Ht: ∀(cs p:List Int) (k:Nat) (v:Int),k<cs.length->dx (cs.set k v) p=dx cs p+(v-cs.getD k 0)*p.getD k 0
 | [],p,k,v,h=>by simp at h
 |c::cs,[],k,v,_=>by cases k<;>simp[dx]
 |c::cs,x::p,0,v,_=>by
  simp only[List.set_cons_zero,dx,List.getD_cons_zero];rw[Int.sub_mul];omega
 |c::cs,x::p,k+1,v,h=>by simp only[List.set_cons_succ,dx,List.getD_cons_succ];rw[Ht cs p k v (by simpa using h)];omega
theorem aaz: ∀p:List Int,dx [0,0,0,0] p=0:=λp=>yr rfl p
def iY(k:Nat)(c:Int)(q:List Int):List Int:=q.set k (c-q.getD k 0)
theorem aa7(k:Nat)(c:Int)(q:List Int):(iY k c q).length=q.length:=by simp[iY]
theorem K6{l:List Int}(h:k<l.length)(v:Int):(l.set k v).getD k 0=v:=by rw[eP,gC h];rfl
theorem OM(a:k<q.length):iY k c (iY k c q)=q:=by
 have e:c-(c-q.getD k 0)=q.getD k 0:=O
 unfold iY;rw[K6 a,uL,e];exact Ts (d7 a 0)
theorem P3(d:k<4)(a:k<q.length)(e:cN y=ab):cT (mx k c y) (iY k c q)=cT y q:=by
 have h:=(fo e).1;have i: ∀p:List Int,cT (lf k c) p=c-p.getD k 0:=λp=>by
  unfold cT lf;dsimp only;rw[Ht _ _ _ _ (by simpa using d),aaz]
  have:([0,0,0,0]:List Int).getD k 0=0:=by rcases(O:k=0\/k=1\/k=2\/k=3) with rfl|rfl|rfl|rfl<;>rfl
  rw[this];omega
 have l:cT (mx k c y) (iY k c q)=cT ⟨y.aT.set k 0,y.const⟩ (iY k c q)+y.aT.getD k 0*cT (lf k c) (iY k c q):=by
  unfold mx td dY cT;dsimp only;rw[Cf _ _ _ _ (by rw[e6,h];simp[lf]),Int.mul_add];omega
 rw[l,i];unfold cT iY;dsimp only;rw[K6 a,Ht _ _ _ _ O,Cg _ _ _ _ a,K6 a,show c-(c-q.getD k 0)=q.getD k 0 by omega,Int.zero_sub,Int.neg_mul,Int.mul_sub,Int.mul_sub];omega
theorem aa8(q:List Int)(v:Int)(h:k+1<=q.length):iY k c (q++[v])=iY k c q++[v]:=by unfold iY;rw[Bp O,EV _ _ O]
theorem ac4(h:q.length=k)(v:Int):iY k c (q++[v])=q++[c-v]:=by subst h;unfold iY;rw[GO,nP _ _ (cR _),kB];rfl
theorem adp(a c:Int):((cL a c).map λv=>a+c-1-v).Perm (cL a c):=by
 have:(cL a c).map (λv=>a+c-1-v)=(cL a c).reverse:=by
  unfold cL;rw[fv];apply List.ext_getElem
  ·simp
  intro i d e;simp at d e⊢;omega
 rw[this];exact List.reverse_perm _
theorem aeZ(h:eG l=ab)(p:List Int):cP l p=cM l.lo/\dd l p=cM l.hi:=by
 unfold eG at h;simp only[b9,decide_eq_true_eq] at h;obtain⟨i,k,a,c⟩:=h;obtain⟨x,d⟩:=q9.1 i;obtain⟨y,e⟩:=q9.1 k;unfold j8 at a c;rw[d] at a;rw[e] at c;have a:e8 x.aT=0:=by simpa using a
 have c:e8 y.aT=0:=by simpa using c
 unfold cP dd fi cM;rw[d,e];simp[iT,kW,cT,yr a,yr c]
theorem ac3(h:d' r P=ab)(c:P.nest[k]? =aa l)(n:eG l=ab)(a:d' r (p0 k (iZ l) P)=ab):(dG (p0 k (iZ l) P)).Perm ((dG P).map (iY k (iZ l))):=by
 obtain⟨B,o⟩:=gU h;have C:=(bR.1 c).1;rw[l6 a,l6 h];have e:P.nest=P.nest.take k++l::P.nest.drop (k+1):=by rw[<-im c,mX]
 have s:(p0 k (iZ l) P).nest=P.nest.take k++l::(P.nest.drop (k+1)).map (c9 (mx k (iZ l))):=by
  show P.nest.take (k+1)++_=_;rw[eN,c,fN];rfl
 rw[s]
 conv=>rhs;rw[e]
 have i: ∀y∈P.nest.drop (k+1),gV y:=λy d=>o y (fq d);generalize P.nest.drop (k+1)=ls at i;refine GC (k:=k) (λp w=>?_) _ _ bP;obtain⟨x,z⟩:=aeZ n p;simp only[cW];rw[x,z,js];have A:(cL (cM l.lo) (cM l.hi)).flatMap (λv=>(cW ls (p++[v])).map (iY k (iZ l)))=((cL (cM l.lo) (cM l.hi)).map λv=>cM l.lo+cM l.hi-1-v).flatMap (λv=>cW (ls.map (c9 (mx k (iZ l)))) (p++[v])):=by
  rw[pB];refine kV λv _=>?_;rw[<-H' (m:=k+1) (λq a y d=>P3 O O d) (λq v a=>aa8 q v a) ls _ i bP,ac4 w];rfl
 rw[A];exact((adp _ _).flatMap_right _).symm
theorem aa6(m:k<P.nest.length)(h:(iP p i).all (λd=>gz (kd k d))=ab)(c:Int):Kept p i P (iY k c) (kd k) where
 pos:=h
 Jd a b l bb:=by
  unfold kd iY;rw[Bg,B7 _ _ _ O O];congr 1;omega
 len a l:=by rw[aa7,l]
 inj a b l bb e:=by rw[<-OM (c:=c) (O:k<a.length),e,OM O]
theorem ajI{q:Prog}{a b:Int}(h:nI p a b=(q,ab)):bM p=ab/\bM q=ab/\ ∃(i k:Nat) (P:Part) (l:Loop),a=i/\b=k/\p.parts[i]? =aa P/\P.nest[k]? =aa l/\cO p a b=ab/\eG l=ab/\q=⟨p.aP,p.parts.set i (p0 k (iZ l) P)⟩/\AX p q i (iY k (iZ l))/\Kept p i P (iY k (iZ l)) (kd k):=by
 by_cases e:cO p a b=ab
 ·obtain⟨s,i,k,P,l,rfl,rfl,m,n,x,o,r,z⟩:=hX e;rw[HI e m n] at h;by_cases c:pZ p i k l=ab
  ·rw[aR c] at h;obtain⟨rfl,w⟩:=ts h;unfold pZ at c;rw[nS] at c;have d:=(dZ w).2.2.2.1 _ (bx (gC x));exact⟨s,w,i,k,P,l,rfl,rfl,m,n,e,c.1,rfl,QS s m rfl (λq B y A=>P3 z O A) (ac3 r n c.1 d),aa6 o c.2 _⟩
  rw[aQ c] at h;cases h
 unfold nI at h;rw[aQ e] at h;cases h
theorem Rh(a:k+1<q.length)(j:Nat):(fw k q)[j]? =if j=k then q[k+1]? else if j=k+1 then q[k]? else q[j]? :=by
 unfold fw;by_cases c:j=k+1
 ·subst c;rw[gC (by rw[e6];exact a),aQ O,aR rfl];exact(d7 O _).symm
 rw[jr O];by_cases d:j=k
 ·subst d;rw[gC O,aR rfl];exact(d7 a _).symm
 rw[jr O,aQ d,aQ c]
theorem PW(d:k+1<q.length):fw k (fw k q)=q:=by
 apply zZ;intro j;have h:=Rh d;rw[Rh (by rw[Cs];exact d),h,h,h];by_cases a:j=k
 ·subst a;rw[aR rfl,aQ O,aR rfl]
 by_cases c:j=k+1
 ·subst c;rw[aQ O,aR rfl,aR rfl]
 rw[aQ a,aQ c,aQ a,aQ c]
theorem Q6: ∀(k:Nat) (cs q:List Int),k+1<cs.length->k+1<q.length->dx (fw k cs) (fw k q)=dx cs q
 |0,a::b::cs,x::y::q,_,_=>by
  show b*y+(a*x+dx cs q)=a*x+(b*y+dx cs q)
  omega
 |k+1,a::cs,x::q,c,d=>by
  show a*x+dx (fw k cs) (fw k q)=a*x+dx cs q;rw[Q6 k cs q (by simpa using c) (by simpa using d)]
 |0,[],_,h,_=>by simp at h
 |0,[_],_,h,_=>by simp at h
 |0,_::_::_,[],_,h=>by simp at h
 |0,_::_::_,[_],_,h=>by simp at h
 |k+1,[],_,h,_=>by simp at h
 |k+1,_::_,[],_,h=>by simp at h
theorem Rg(d:k+1<4)(a:k+1<q.length)(c:cN y=ab):cT (k1 k y) (fw k q)=cT y q:=by have e:=(fo c).1;show y.const+dx (fw k y.aT) (fw k q)=y.const+dx y.aT q;rw[Q6 k _ _ O a]
theorem ae'(q:List Int)(v:Int)(h:k+2<=q.length):fw k (q++[v])=fw k q++[v]:=by unfold fw;rw[Bp O,Bp O,EV _ _ O,EV _ _ (by rw[e6];omega)]
theorem QF: ∀(q:List Int) (a b:Int),fw q.length (q++[a]++[b])=q++[b]++[a]
 | [],a,b=>rfl
 |x::q,a,b=>by show x::fw q.length (q++[a]++[b])=x::(q++[b]++[a]);rw[QF q a b]
theorem RG{l:List az}{d:Nat}(h:fB l (d:Int)=ab): ∀x∈l,x.aT.getD d 0=0:=λx a=>by
 unfold fB fz at h;simp only[b9,hS,decide_eq_true_eq] at h;obtain⟨c,i⟩:=h.1 x a;have k:=(fo c).1;by_cases e:d<x.aT.length
 ·exact tZ (d7 e 0) O
 rw[eP,q' O];rfl
theorem BQ{l:List az}(h: ∀x∈l,x.aT.getD q.length 0=0)(v:Int):fi l (q++[v])=fi l q:=by unfold fi;exact lZ λx a=>by unfold cT;rw[Hu _ _ _ (h x a)]
theorem afB(h:pW l k=ak):(∀x∈l.lo,x.aT.getD k 0=0)/\ ∀x∈l.hi,x.aT.getD k 0=0:=by unfold pW at h;rw[Bool.or_eq_false_iff,List.any_eq_false,List.any_eq_false] at h;exact⟨λx a=>by simpa[mv] using h.1 x a,λx a=>by simpa[mv] using h.2 x a⟩
theorem acA(n:d' r P=ab)(x:k+1<P.nest.length)(C:pW (P.nest.getD (k+1) ⟨[],[]⟩) k=ak)(l:d' r (qW k P)=ab):(dG (qW k P)).Perm ((dG P).map (fw k)):=by
 obtain⟨Z,o⟩:=gU n;have a:=d7 (O:k<P.nest.length) (⟨[],[]⟩:Loop);have i:=d7 x (⟨[],[]⟩:Loop);rw[l6 l,l6 n];have c:=(oZ (gx n).1).1.2 k _ a;have z:=o _ (bx a);have A:=o _ (bx i);have e:P.nest=P.nest.take k++P.nest.getD k ⟨[],[]⟩::P.nest.getD (k+1) ⟨[],[]⟩::P.nest.drop (k+2):=by
  rw[<-im i,<-im a,mX]
 have F:(qW k P).nest=P.nest.take k++P.nest.getD (k+1) ⟨[],[]⟩::P.nest.getD k ⟨[],[]⟩::(P.nest.drop (k+2)).map (c9 (k1 k)):=by
  show(ic k P.nest).take (k+2)++((ic k P.nest).drop (k+2)).map (c9 (k1 k))=_;have hs:=afb x;rw[O3,eN,eN,hs,hs,aR rfl,aQ O,aR rfl,a,i]
  have:(ic k P.nest).take k=P.nest.take k:=by
   unfold ic;rw[EX O,EX O]
  rw[this];simp
 rw[F]
 conv=>rhs;rw[e]
 obtain⟨G,H⟩:=afB C;have dc:=RG c.1;have cS:=RG c.2;have B: ∀y∈P.nest.drop (k+2),gV y:=λy s=>o y (fq s);generalize P.nest.drop (k+2)=ls at B;generalize P.nest.getD k ⟨[],[]⟩=d at*;generalize P.nest.getD (k+1) ⟨[],[]⟩=h at*;refine GC (k:=k) (λp K=>?_) _ _ bP;subst K;simp only[cW];have L: ∀v,cP h (p++[v])=cP h p:=λv=>by unfold cP;rw[BQ G]
 have Q: ∀v,dd h (p++[v])=dd h p:=λv=>by unfold dd;rw[BQ H]
 have R: ∀v,cP d (p++[v])=cP d p:=λv=>by unfold cP;rw[BQ dc]
 have W: ∀v,dd d (p++[v])=dd d p:=λv=>by unfold dd;rw[BQ cS]
 simp only[L,Q,R,W];rw[js];have X:(cL (cP d p) (dd d p)).flatMap (λv=>((cL (cP h p) (dd h p)).flatMap λw=>cW ls (p++[v]++[w])).map (fw p.length))=(cL (cP d p) (dd d p)).flatMap (λv=>(cL (cP h p) (dd h p)).flatMap λw=>cW (ls.map (c9 (k1 p.length))) (p++[w]++[v])):=by
  refine kV λv _=>?_;rw[js];refine kV λw _=>?_;rw[<-H' (m:=p.length+2) (λq l y s=>Rg O O s) (λq v l=>ae' q v l) ls _ B aX,QF]
 rw[X];exact(NJ _).symm
theorem abw(l:k+1<P.nest.length)(h:(iP p i).all (λd=>gz (fw k d))=ab):Kept p i P (fw k) (fw k) where
 pos:=h
 Jd a b c bb:=by
  unfold fw;rw[Bg,Bg,B7 _ _ _ O O,B7 _ _ _ O O]
 len a c:=by rw[Cs,c]
 inj a b c bb e:=by rw[<-PW (O:k+1<a.length),e,PW O]
theorem aj7{q:Prog}{a b:Int}(h:ml p a b=(q,ab)):bM p=ab/\bM q=ab/\ ∃(i k:Nat) (P:Part),a=i/\b=k/\p.parts[i]? =aa P/\AX p q i (fw k)/\Kept p i P (fw k) (fw k):=by
 by_cases d:cO p a b=ab/\cO p a (b+1)=ab
 ·obtain⟨r,i,k,P,l,rfl,rfl,o,A,w,x,e,B⟩:=hX d.1;have m:=HV o d.2;rw[HR d.1 d.2 o] at h;by_cases c:o2 p i k P=ab
  ·rw[aR c] at h;obtain⟨rfl,s⟩:=ts h;have C:=(gU e).1;unfold o2 at c;rw[nS,Bool.not_eq_true'] at c;have n:=(dZ s).2.2.2.1 _ (bx (gC w));exact⟨r,s,i,k,P,rfl,rfl,o,QS r o rfl (λq F y z=>Rg O O z) (acA e m c.1 n),abw m c.2⟩
  rw[aQ c] at h;cases h
 unfold ml at h;rw[aQ d] at h;cases h
end
section
def nl(k:Int):Int:=if k=3\/k=4\/k=5 then 3 else if k=1\/k=2\/k=7\/k=8 then 2 else if k=6\/k=9\/k=10 then 1 else 0
def sO(s:Step):Bool:=ag (1<=s.kind/\s.kind<=11)&&((ag (0<nl s.kind)||decide (s.part=0))&&((ag (1<nl s.kind)||decide (s.a=0))&&(ag (2<nl s.kind)||decide (s.b=0))))
theorem Rw(k:Int):0<=nl k/\nl k<=3:=by
 unfold nl
 grind
theorem My(n:Nat)(k:Int):zJ n k=aa (nl k):=by
 unfold zJ nl;refine ad.eq (ad.aD (λz=>z=ag (k=3\/k=4\/k=5)) (λj a=>aW (λh=>a _ ?_) λh=>aW (λc=>a _ ?_) λc=>a _ ?_) λz d=>?_)
 ·rw[ig];simp only[decide_eq_true_eq];omega
 ·rw[ig];simp only[decide_eq_true_eq];omega
 ·rw[ig];simp only[decide_eq_true_eq];omega
 subst d;by_cases e:k=3\/k=4\/k=5
 ·rw[aR e,bI e];exact bX (ad.some rfl)
 rw[aQ e,bJ e];refine b8 (ad.aD (λz=>z=ag (k=1\/k=2\/k=7\/k=8)) (λj a=>aW (λh=>a _ ?_) λh=>aW (λc=>a _ ?_) λc=>aW (λm=>a _ ?_) λm=>a _ ?_) λz d=>?_)
 ·rw[ig];simp only[decide_eq_true_eq];omega
 ·rw[ig];simp only[decide_eq_true_eq];omega
 ·rw[ig];simp only[decide_eq_true_eq];omega
 ·rw[ig];simp only[decide_eq_true_eq];omega
 subst d;by_cases i:k=1\/k=2\/k=7\/k=8
 ·rw[aR i,bI i];exact bX (ad.some rfl)
 rw[aQ i,bJ i];refine b8 (ad.aD (λz=>z=ag (k=6\/k=9\/k=10)) (λj a=>aW (λh=>a _ ?_) λh=>aW (λc=>a _ ?_) λc=>a _ ?_) λz d=>?_)
 ·rw[ig];simp only[decide_eq_true_eq];omega
 ·rw[ig];simp only[decide_eq_true_eq];omega
 ·rw[ig];simp only[decide_eq_true_eq];omega
 subst d;by_cases l:k=6\/k=9\/k=10
 ·rw[aR l,bI l];exact bX (ad.some rfl)
 rw[aQ l,bJ l];exact b8 (ad.some rfl)
theorem Yu(n:Nat)(k:Int):BN n k=aa (if 1<=k/\k<=11 then nl k else-1):=by
 unfold BN nl;refine ad.eq (ad.aD (λz=>z=ag (k=1\/k=2\/k=7\/k=8)) (λj a=>aW (λh=>a _ ?_) λh=>aW (λc=>a _ ?_) λc=>aW (λm=>a _ ?_) λm=>a _ ?_) λz d=>?_)
 ·rw[ig];simp only[decide_eq_true_eq];omega
 ·rw[ig];simp only[decide_eq_true_eq];omega
 ·rw[ig];simp only[decide_eq_true_eq];omega
 ·rw[ig];simp only[decide_eq_true_eq];omega
 subst d;by_cases e:k=1\/k=2\/k=7\/k=8
 ·rw[bI e,aR O,aQ O,aR e];exact bX (ad.some rfl)
 rw[bJ e];refine b8 (ad.aD (λz=>z=ag (k=3\/k=4\/k=5)) (λj a=>aW (λh=>a _ ?_) λh=>aW (λc=>a _ ?_) λc=>a _ ?_) λz d=>?_)
 ·rw[ig];simp only[decide_eq_true_eq];omega
 ·rw[ig];simp only[decide_eq_true_eq];omega
 ·rw[ig];simp only[decide_eq_true_eq];omega
 subst d;by_cases i:k=3\/k=4\/k=5
 ·rw[bI i,aR O,aR i];exact bX (ad.some rfl)
 rw[bJ i];refine b8 (ad.aD (λz=>z=ag (k=6\/k=9\/k=10)) (λj a=>aW (λh=>a _ ?_) λh=>aW (λc=>a _ ?_) λc=>a _ ?_) λz d=>?_)
 ·rw[ig];simp only[decide_eq_true_eq];omega
 ·rw[ig];simp only[decide_eq_true_eq];omega
 ·rw[ig];simp only[decide_eq_true_eq];omega
 subst d;by_cases l:k=6\/k=9\/k=10
 ·rw[bI l,aR O,aQ i,aQ e,aR l];exact bX (ad.some rfl)
 rw[bJ l];refine b8 (aW (λh=>ad.some ?_) λh=>ad.some ?_)
 ·rw[aR O,aQ i,aQ e,aQ l]
 rw[aQ O]
theorem YW(n:Nat)(s:Step):Au n s=aa (sO s):=by
 unfold Au sO;have d:=Rw s.kind;refine ad.eq (ae (My n s.kind) ?_);generalize nl s.kind=f at*;refine ad.aD (λz=>z=(ag (1<=s.kind/\s.kind<=11)&&((ag (0<f)||decide (s.part=0))&&((ag (1<f)||decide (s.a=0))&&(ag (2<f)||decide (s.b=0)))))) (λj e=>?_) (λz c=>ad.some c)
 grind
variable {n:Nat}{p:Prog}{s:Step}{R:Prog×Bool}
theorem Zz(i:10<=n)(s:Step):Bj n s=aa (sO s):=by
 unfold Bj sO;have k:=Rw s.kind;refine ad.eq (ae (Yu n s.kind) ?_);generalize nl s.kind=f at*;refine ad.aD (λz=>z=(ag (1<=s.kind/\s.kind<=11)&&((ag (0<f)||decide (s.part=0))&&((ag (1<f)||decide (s.a=0))&&(ag (2<f)||decide (s.b=0)))))) (λj d=>?_) λz e=>ad.some e;by_cases c:1<=s.kind/\s.kind<=11
 ·rw[aR c];rw[bI c] at d⊢;refine aW (λ_=>ae (show FO n s=aa [s.part,s.a,s.b] from rfl) (ae (iQ O bP aX) (ae (zA (p:=λv=> !decide (v=0)) (λx _=>rfl) bP bP) (d _ ?_)))) λh=>bB h O;rw[show([s.part,s.a,s.b].length:Int).toNat=[s.part,s.a,s.b].length from rfl,dW];rcases(O:f=0\/f=1\/f=2\/f=3) with rfl|rfl|rfl|rfl
  ·simp[show(0:Int).toNat=0 from rfl]
  ·simp[show(1:Int).toNat=1 from rfl]
  ·simp[show(2:Int).toNat=2 from rfl]
  simp[show(3:Int).toNat=3 from rfl]
 rw[aQ c]
 grind
noncomputable def pY(p:Prog)(s:Step):Prog×Bool:=
 if sO s=ab then
  (if s.kind=1 then ml p s.part s.a else if s.kind=2 then nI p s.part s.a else if s.kind=3 then qT p s.part s.a s.b else if s.kind=4 then qS p s.part s.a s.b
   else if s.kind=5 then qV p s.part s.a s.b else if s.kind=6 then qf p s.part else if s.kind=7 then p9 p s.part s.a else if s.kind=8 then qU p s.part s.a
   else if s.kind=9 then py p s.part else if s.kind=10 then rv p s.part else rs p)
 else eV
def rr(s:Step):Prop:= -1<=s.part/\s.part<=9
theorem aa3(c:20000<=n)(a:dn 1000 p)(d:rr s):Fq n p s=aa (pY p s):=by
 unfold Fq pY;refine ad.eq (ae (Zz O s) ?_);cases e:sO s with
 |false=>exact bX (ad.some rfl)
 |true=>
  rw[aR rfl];refine b8 (aW (λh=>?_) λh=>?_)
  ·rw[aR h];exact ae (aix c a _ _) (ad.some rfl)
  rw[aQ h];refine aW (λh=>?_) λh=>?_
  ·rw[aR h];exact ae (air c a _ _) (ad.some rfl)
  rw[aQ h];refine aW (λh=>?_) λh=>?_
  ·rw[aR h];exact ae (ait O a _ _ _) (ad.some rfl)
  rw[aQ h];refine aW (λh=>?_) λh=>?_
  ·rw[aR h];exact ae (ais O a _ _ _) (ad.some rfl)
  rw[aQ h];refine aW (λh=>?_) λh=>?_
  ·rw[aR h];exact ae (aiv O a _ _ _) (ad.some rfl)
  rw[aQ h];refine aW (λh=>?_) λh=>?_
  ·rw[aR h];exact ae (aiq c a d) (ad.some rfl)
  rw[aQ h];refine aW (λh=>?_) λh=>?_
  ·rw[aR h];exact ae (aip c a d) (ad.some rfl)
  rw[aQ h];refine aW (λh=>?_) λh=>?_
  ·rw[aR h];exact ae (aiu c a _ _) (ad.some rfl)
  rw[aQ h];refine aW (λh=>?_) λh=>?_
  ·rw[aR h];exact ae (aiw O a d) (ad.some rfl)
  rw[aQ h];refine aW (λh=>?_) λh=>?_
  ·rw[aR h];exact ae (aa4 O a d) (ad.some rfl)
  rw[aQ h];exact ae (Vg O a) (ad.some rfl)
theorem Oi(c:20000<=n)(a:dn 1000 p)(d:rr s):zK n p s=aa (pY p s):=by
 unfold zK pY;refine ad.eq (ae (l2 O a) (ae (YW n s) ?_));cases e:sO s with
 |false=>exact bX (ad.some rfl)
 |true=>
  rw[aR rfl];refine b8 (aW (λh=>?_) λh=>?_)
  ·rw[aR h];exact ae (ajS c a _ _) (ad.some rfl)
  rw[aQ h];refine aW (λh=>?_) λh=>?_
  ·rw[aR h];exact ae (ajM c a _ _) (ad.some rfl)
  rw[aQ h];refine aW (λh=>?_) λh=>?_
  ·rw[aR h];exact ae (ajO O a _ _ _) (ad.some rfl)
  rw[aQ h];refine aW (λh=>?_) λh=>?_
  ·rw[aR h];exact ae (ajN O a _ _ _) (ad.some rfl)
  rw[aQ h];refine aW (λh=>?_) λh=>?_
  ·rw[aR h];exact ae (ajQ O a _ _ _) (ad.some rfl)
  rw[aQ h];refine aW (λh=>?_) λh=>?_
  ·rw[aR h];exact ae (ajL c a d) (ad.some rfl)
  rw[aQ h];refine aW (λh=>?_) λh=>?_
  ·rw[aR h];exact ae (ajK c a d) (ad.some rfl)
  rw[aQ h];refine aW (λh=>?_) λh=>?_
  ·rw[aR h];exact ae (ajP c a _ _) (ad.some rfl)
  rw[aQ h];refine aW (λh=>?_) λh=>?_
  ·rw[aR h];exact ae (ajR O a d) (ad.some rfl)
  rw[aQ h];refine aW (λh=>?_) λh=>?_
  ·rw[aR h];exact ae (Z2 O a d) (ad.some rfl)
  rw[aQ h];exact ae (Vi O a) (ad.some rfl)
def pR(R:Prog×Bool):Prop:=(R.2=ab/\bM R.1=ab)\/R=eV
theorem gG:pR eV:= .inr rfl
theorem uj(q:Prog):pR (hW q):=by
 unfold hW;split
 ·rename_i h;exact .inl ⟨rfl,h⟩
 exact .inr rfl
theorem pR.RR(h:pR R):dn 1000 R.1:=by
 rcases h with h|h
 ·exact(my h.2).mono O
 rw[h];exact ajq
theorem pR.v(h:pR R)(a:R.2=ab):bM R.1=ab:=by
 rcases h with h|h
 ·exact h.2
 rw[h] at a;cases a
theorem akb(h:pR R)(a:R.2=ak):R=eV:=by
 rcases h with h|h
 ·rw[a] at h;cases h.1
 exact h
theorem MR(p:Prog)(a c:Int)(g f:az->az):pR (qH p a c g f):=by
 unfold qH;split
 ·split
  ·exact uj _
  exact gG
 exact gG
theorem GS(p:Prog)(s:Step):pR (pY p s):=by
 unfold pY;split
 ·split
  ·unfold ml;split
   ·split
    ·split
     ·exact uj _
     exact gG
    exact gG
   exact gG
  split
  ·unfold nI;split
   ·split
    ·split
     ·split
      ·exact uj _
      exact gG
     exact gG
    exact gG
   exact gG
  split
  ·unfold qT;split
   ·exact MR _ _ _ _ _
   exact gG
  split
  ·unfold qS;split
   ·exact MR _ _ _ _ _
   exact gG
  split
  ·unfold qV;split
   ·split
    ·split
     ·exact uj _
     exact gG
    exact gG
   exact gG
  split
  ·unfold qf;split
   ·split
    ·split
     ·exact uj _
     exact gG
    exact gG
   exact gG
  split
  ·unfold p9;split
   ·split
    ·split
     ·exact uj _
     exact gG
    exact gG
   exact gG
  split
  ·unfold qU;split
   ·split
    ·split
     ·exact uj _
     exact gG
    exact gG
   exact gG
  split
  ·by_cases h:j2 p s.part (s.part+1)=ab
   ·obtain⟨i,d,k,e,a,c,_⟩:=DH h;rw[e] at h⊢;rw[EB h a c];exact .inl ⟨rfl,KI (tP h).1 a c⟩
   unfold py;rw[aQ h];exact gG
  split
  ·unfold rv;split
   ·rename_i h;simp only[b9] at h;exact .inl ⟨rfl,Iq h.1 _⟩
   exact gG
  unfold rs;split
  ·rename_i h;exact .inl ⟨rfl,adV h⟩
  exact gG
 exact gG
end
section
variable {k:Int}{r:cJ}
theorem HE(i:c6 k r)(A:0<=k/\k<=1000000):ad (wV N r) (λx=>rr x.1/\c6 (k+10) x.2):=by
 unfold wV;refine ch (j3 N i O) λB ⟨_,_,l⟩=>ch (hM N l O aX) λh ⟨m,n⟩=>ch (hM N n O aX) λC ⟨_,o⟩=>ch (hM N o O aX) λF ⟨_,p⟩=>ae (My N _) ?_;have q:0<=h.1/\h.1<=1:=by simp at m;omega
 refine ad.aD (λ_=>True) (λj a=>aW (λ_=>a _ trivial) λ_=>a _ trivial) λG _=>?_;refine ad.aD (λ_=>True) (λj a=>aW (λ_=>a _ trivial) λ_=>a _ trivial) λH _=>?_;refine ad.aD (λz=>0<=z/\z<=1) (λj a=>aW (λ_=>a _ ⟨O,O⟩) λ_=>a _ q) λs K=>?_;exact ad.aD (λz:List UInt8×Int×Int=>c6 (k+10) ⟨z.1,z.2.1⟩) (λj a=>ch (j3 N p O) λw ⟨_,_,c⟩=>aW (λ_=>ch (hM N c O aX) λy ⟨_,d⟩=>a _ (d.mono O)) λ_=>a _ (c.mono O)) λz e=>ad.some ⟨⟨J,J⟩,e⟩
theorem aep(X:c6 k r)(hk:0<=k/\k<=400000){p:Prog}(Z:dn 1000 p):ad (A7 N r p) (λx=>(∀s∈x.1,rr s)/\x.1.length<=8/\c6 (k+1000) x.2):=by
 have gy:N=100000:=rfl;unfold A7;refine ch (hM N X O aX) λK ⟨m1,f⟩=>?_;have L:0<=K.1/\K.1<=6:=by
  grind
 refine ad.loop (λz:List UInt8×Int×List cn×List Part×List Step×Int=>0<=z.2.2.2.2.2/\z.2.2.2.2.2<=6/\c6 (k+1+60*(6-z.2.2.2.2.2)) ⟨z.1,z.2.1⟩/\dn 1000 ⟨z.2.2.1,z.2.2.2.1⟩/\(∀s∈z.2.2.2.2.1,rr s)/\(z.2.2.2.2.1.length:Int)<=6-z.2.2.2.2.2) (λz=>z.2.2.2.2.2.toNat) ?_ N _ ⟨L.1,L.2,f.mono J,Z,λs hs=>(by cases hs),by dsimp only;simp;omega⟩ J;rintro w ⟨b,q,aH,alR,out,c⟩ ⟨g,t,y,A,a,u⟩ B;dsimp only at g t y A a u⊢;refine aW (λv=>?_) λD=>?_
 ·refine ad.aD (λz:List UInt8×Int×List cn×List Part×List Step=>c6 (k+1+60*(6-c)+60) ⟨z.1,z.2.1⟩/\dn 1000 ⟨z.2.2.1,z.2.2.2.1⟩/\(∀s∈z.2.2.2.2,rr s)/\(z.2.2.2.2.length:Int)<=6-c+1) (λE d=>?_) λz e=>?_
  ·refine ad.loop (λz:List UInt8×Int×Int=>0<=z.2.2/\z.2.2<=4/\c6 (k+1+60*(6-c)+12*z.2.2) ⟨z.1,z.2.1⟩) (λz=>(4-z.2.2).toNat) ?_ N _ ⟨J,J,y.mono J⟩ J;rintro o ⟨fP,uh,i⟩ ⟨I,M,C⟩ F;dsimp only at I M C⊢;refine aW (λP=>ch (HE C ⟨O,O⟩) λS ⟨l,m⟩=>ae (Oi O A l) (ad.cond (λh=>ae (c' bP) (d _ ⟨m.mono O,(GS _ _).RR,λs hs=>?_,?_⟩)) λh=>?_)) λP=>d _ ⟨C.mono O,A,a,J⟩
   ·rcases eC.1 hs with hs|hs
    ·exact a s hs
    rw[pF.1 hs];exact l
   ·dsimp only
    grind
   rw[bc O];exact F _ ⟨J,J,m.mono J⟩ J
  obtain⟨Ag,z2,z3,z4,z5⟩:=z;obtain⟨Q,R,W,T⟩:=e;dsimp only at Q R W T⊢;rw[bc O];exact B _ ⟨J,J,Q.mono J,R,W,J⟩ J
 refine ad.aD (λz:List UInt8×Int×List Step=>c6 (k+1000) ⟨z.1,z.2.1⟩/\(∀s∈z.2.2,rr s)/\z.2.2.length<=8) (λj d=>ch (j3 N y O) λU ⟨_,_,n⟩=>aW (λ_=>ch (HE n ⟨O,O⟩) λV ⟨G,H⟩=>ae (c' bP) (d _ ⟨H.mono O,λs hs=>?_,?_⟩)) λ_=>d _ ⟨n.mono O,a,J⟩) λz e=>ad.some ⟨e.2.1,e.2.2,e.1⟩
 ·rcases eC.1 hs with hs|hs
  ·exact a s hs
  rw[pF.1 hs];exact G
 dsimp only
 grind
end
theorem X'(a:List UInt8):ad (D6 N a) (λx=>dn 1000 x.1/\rr x.2):=by have p:N=100000:=rfl;unfold D6;refine ch (ac8 a) λq i=>ch (Zs i O) λr ⟨c,k⟩=>ch (aep k O (c.mono (O:10<=1000))) λl ⟨m,s,d⟩=>aW (λh=>ch (aei O d O c) λw ⟨n,_⟩=>?_) λh=>ch (HE d ⟨O,O⟩) λy ⟨o,_⟩=>ad.some ⟨c.mono (O:10<=1000),o⟩;have e:=bp (O:0<l.1.length);exact ae (y6 e) (ad.some ⟨n.mono (O:30<=1000),m _ (bx e)⟩)
section
def mn(p q:Prog):Prop:=bM p=ab/\q.aP=p.aP/\ ∀m,fD p.aP m->c4 q m (I q.parts)=c4 p m (I p.parts)
variable {p q:Prog}{b a c:Int}
theorem OL{i k:Nat}{P:Part}{l:Loop}(c:bM p=ab)(d:p.parts[i]? =aa P)(n:P.nest[k]? =aa l){b:az}(o:b.aT.length=4)(r:low k b)(h:qH p (i:Int) (k:Int) (λx=>dY x 1 b) (eJ k b)=(q,ab)):mn p q:=by
 rw[zl d n] at h;obtain⟨e,s⟩:=ts h;have a:bM q=ab:=by rw[e];exact s
 obtain⟨aL,a2,a3⟩:=ajm c d n o r e a;exact⟨c,by rw[e],λm _=>a3 m⟩
theorem abu(d:qS p a c b=(q,ab)):mn p q:=by obtain⟨e,w,h⟩:=ajT d;obtain⟨m,i,k,P,l,rfl,rfl,n,o,x,r,s,y⟩:=hX e;exact OL m n o (b:=iB b) rfl (ajj b k) h
theorem adu(m:qT p a c b=(q,ab)):mn p q:=by
 obtain⟨n,d,o,h⟩:=ajU m;obtain⟨r,i,eL,P,l,rfl,e,s,w,B,x,y,z⟩:=hX d;obtain⟨_,C,k,F,G,A,rfl,_⟩:=hX n;obtain rfl:eL=k+1:=O
 rw[e] at h;exact OL r s w (b:=fs k b) (r1 k o).1 (aji b z) h
theorem abr(h:qV p a c b=(q,ab)):mn p q:=by
 have w:cO p a c=ab:=by
  cases x:cO p a c with
  |true=>rfl
  |false=>rw[EA (by rw[x];simp)] at h;cases h
 obtain⟨o,i,k,P,l,rfl,rfl,r,s,G,y,z,H⟩:=hX w;rw[KH r s] at h;by_cases d:cO p (i:Int) (k:Int)=ab/\P.nest.length<4/\(1<=b/\b<=6)/\eG l=ab
 ·rw[aR d] at h;obtain⟨_,A,B,C⟩:=d;obtain⟨e,F⟩:=ts h;have n:bM q=ab:=by rw[e];exact F
  obtain⟨aL,a2,a3⟩:=ajV o r s B.1 A C e n;exact⟨o,by rw[e],λm _=>a3 m⟩
 rw[aQ d] at h;cases h
theorem abt{M:Int}(h:qU p M c=(q,ab)):mn p q:=by
 have A:cO p M 0=ab:=by
  cases r:cO p M 0 with
  |true=>rfl
  |false=>rw[Ey (by rw[r];simp)] at h;cases h
 obtain⟨B,i,k,P,l,rfl,C,s,w,g,F,o,G⟩:=hX A;obtain rfl:k=0:=O
 rw[KG s w] at h;by_cases d:cO p (i:Int) 0=ab/\eG l=ab/\cM l.lo<=c/\c<=cM l.hi
 ·rw[aR d] at h;obtain⟨_,H,K,L⟩:=d;obtain⟨a,b,Q,R,W,_,_⟩:=yI ((gU o).2 l (bx w)) H;generalize cM l.lo=lo at*;generalize cM l.hi=n at*;subst R;subst W;subst Q;obtain⟨e,X⟩:=ts h;have z: ∀k,k<2-> ∀y,[e4 P lo c,e4 P c n][k]? =aa y->d' p.aP y=ab:=λk G y Z=>by
   refine(dZ X).2.2.2.1 y (bx (i:=i+k) ?_);rw[nH O,aQ O,aR bP,show i+k-i=k by omega];exact Z
  have f:P.nest=(⟨[dK lo],[dK n]⟩:Loop)::P.nest.drop 1:=by
   have:=im w
   rwa [pE] at this
  have aL:=XT s K L (by rw[l6 o,<-f]) (l6 (z 0 O _ rfl)) (l6 (z 1 O _ rfl));rw[e];exact⟨B,rfl,λm _=>by rw[aL];exact Ez (p:=p) (q:=f' p i 1 [e4 P lo c,e4 P c n]) (σ:=p1 i c) rfl λx r=>YR s (fc r)⟩
 rw[aQ d] at h;cases h
theorem afh(h:ml p a b=(q,ab)):mn p q:=by obtain⟨c,e,i,k,P,rfl,rfl,l,d,m⟩:=aj7 h;exact⟨c,d.arr,Td c e l d m⟩
theorem afi(h:nI p a b=(q,ab)):mn p q:=by obtain⟨c,m,i,k,P,l,rfl,rfl,n,r,s,w,e,d,o⟩:=ajI h;exact⟨c,d.arr,Td c m n d o⟩
theorem adv(h:qf p a=(q,ab)):mn p q:=by obtain⟨d,i,s,w,rfl,e,k,l,n,c,o⟩:=agA h;rw[c];exact⟨d,rfl,λm r=>agB d e k l n r⟩
theorem ac1{k:Int}(h:p9 p a k=(q,ab)):mn p q:=by obtain⟨d,i,t,P,rfl,rfl,e,l,n,c,o⟩:=ago h;rw[c];exact⟨d,rfl,λm r=>agp d e l n r⟩
theorem ads(h:py p a=(q,ab)):mn p q:=by
 have c:j2 p a (a+1)=ab:=by
  cases c:j2 p a (a+1) with
  |true=>rfl
  |false=>
   unfold py at h;rw[aQ (by rw[c];simp)] at h;cases h
 obtain⟨i,o,r,rfl,e,k,s⟩:=DH c;obtain⟨l,_,_,d⟩:=tP c;rw[EB c e k] at h;cases h;exact⟨l,rfl,λm n=>ajW l e k d n⟩
theorem ac0(h:rv p a=(q,ab)):mn p q:=by
 unfold rv at h;split at h
 ·rename_i d;cases h;simp only[b9] at d;obtain⟨e,c,k⟩:=d;have l:0<=a/\a<(p.parts.length:Int):=fF c;obtain⟨i,rfl⟩: ∃i:Nat,a=i:=⟨a.toNat,O⟩
  exact⟨e,rfl,λm _=>acW e (bp (O:i<p.parts.length)) k m⟩
 cases h
theorem acZ(h:rs p=(q,ab)):mn p q:=by
 unfold rs at h;split at h
 ·rename_i a;cases h;exact⟨a,rfl,λm c=>aaq a c⟩
 cases h
theorem adt{s:Step}(h:pY p s=(q,ab)):mn p q:=by
 unfold pY at h;split at h
 ·split at h
  ·exact afh h
  split at h
  ·exact afi h
  split at h
  ·exact adu h
  split at h
  ·exact abu h
  split at h
  ·exact abr h
  split at h
  ·exact adv h
  split at h
  ·exact ac1 h
  split at h
  ·exact abt h
  split at h
  ·exact ads h
  split at h
  ·exact ac0 h
  exact acZ h
 cases h
theorem adN(a:dn 1000 p)(h:q.aP=p.aP):f9 N (⟨p.aP,[]⟩:Prog) ⟨q.aP,[]⟩=aa ab:=by have d:N=100000:=rfl;rw[h];exact Tj O ⟨a.1,aX,λx c=>by cases c⟩
end
theorem Wh(a c:List UInt8):KY N a c=aa ab:=by have A:N=100000:=rfl;refine ad.eq ?_;unfold KY;refine aeY λi=>ch (X' a) λo e=>?_;obtain⟨p,s⟩:=o;dsimp only at e⊢;obtain⟨e,l⟩:=e;have k:=(GS p s).RR;refine aeX (REST:=λB C=>_) k (aa3 O e l) (Oi O e l) λh=>?_;obtain⟨r,m,w⟩:=adt (p:=p) (s:=s) (q:=(pY p s).1) (by rw[<-h]);have hw:=(GS p s).v h;have d:=rD (n:=N) O k.sm;rw[hw] at d;exact ad.aD (λz=>z=ab) (λj x=>ae d (bX (ae (adN e m) (bX (ae (acJ e.sm k.sm r hw m w (s:=(c.length:Int)) ⟨O,i⟩) (x _ rfl)))))) λz y=>ad.some y
end Go.Lift
