/- Tools. -/
import Derived.Test.YteifkndfpnkalaaGreatETran1
set_option maxRecDepth 100000
set_option linter.unusedVariables false
namespace Go.Lift
open Go
open Option renaming some -> aa, bind -> bN
open Bool renaming true -> ab, false -> ak, and_eq_true -> b9
open Decidable renaming decide -> ag
open List renaming length_append -> im, all_eq_true -> hT, length_take -> k', length_drop -> lP, map_cons -> gf
section
theorem ab2{k R:Type}{f g:k->List R}{l:List k}(h: ∀x∈l,f x=g x):l.flatMap f=l.flatMap g:=by rw[pH,pH,l1 h]
def lM(s:Stmt):Stmt:=⟨s.write,fI 5 s.value⟩
def iS(x:Part):Part:=⟨x.nest,x.body.map lM⟩
def nZ(p:Prog):Prog:=⟨p.aQ,p.parts.map iS⟩
variable {n:Nat}{s:Stmt}{d e:Int}{p:Prog}{r:List cg}
theorem YH(c:7000<=n)(a:eT s d=ab):uT n s=aa (lM s):=by
 obtain⟨n,rfl⟩: ∃j,n=j+1:=⟨n-1,O⟩
 unfold uT;rw[Tn O a];refine ad.eq (ae rfl (ae (J5 5 n s.value O (gl a).2.1) (ad.some rfl)))
def rn(p:Prog):Prog×Bool:=if bG p=ab then(nZ p,ab) else eK
theorem Vt(q:7000<=n)(w:di 1000 p):Er n p=aa (rn p):=by
 unfold Er rn;refine ad.eq (ae (d5 q w.sm) (ad.cond (λh=>ad.some ?_) λh=>?_))
 ·rw[aP (by simpa using h)];rfl
 have i:bG p=ab:=by simpa using h
 rw[aR i];obtain⟨Q,R,X,y,_⟩:=dZ i;refine ae (sa O i) ?_;refine zT (l:=p.parts) (n:=n) (F:=λd k=>bm (λa ((c,e):(List Stmt)×Int)=>
    bif ag (e<(d.body.length:Int)) then(
     bN (ax c e) λz=>
     bN (uT n z) λA=>
     bN (ca c e A) λB=>
     a (B,wr (e+1))
    ) else(
     bN (jh d.body c) λZ=>
     k (⟨d.nest,c⟩:Part)
    )
   ) n (d.body,0)) (W:=λ_ o=>o) (m:=λ_=>(p.parts.length:Int)) (g:=iS) (s:=0) (K:=λC=>aa ((⟨p.aQ,C⟩:Prog),ab)) (λ_ _ _ h=>h) (λ_ _=>rfl) O (λx G k r=>?_) O O (ad.some ?_)
 ·obtain⟨_,b,H,_⟩:=gy (y x G);refine zT (l:=x.body) (n:=n) (F:=λx k=>bN (uT n x) k) (W:=λ_ o=>o) (m:=λ_=>(x.body.length:Int)) (g:=lM) (s:=0) (K:=λc=>bN (jh x.body c) λ_=>k (⟨x.nest,c⟩:Part)) (λ_ _ _ h=>h) (λ_ _=>rfl) O (λs L k r=>ae (YH q (H s L)) r) O O ?_;refine ae (pC aX) ?_
  have:(⟨x.nest,x.body.take 0++(x.body.drop 0).map lM⟩:Part)=iS x:=by simp[iS]
  grind
 simp[nZ]
theorem Xf(h:7000<=n)(i:d<=4)(a:eT s d=ab)(e:eT s 4=ab):Aw n s=aa (lM s,ab):=by
 obtain⟨n,rfl⟩: ∃j,n=j+1:=⟨n-1,O⟩
 have c:jy 4 s:=RZ a;unfold Aw;refine ad.eq (ae (KO O (c.mono (O:4<=1000)).sm 4) ?_);rw[e];refine b6 (ae (v6 O ((c.mono (O:4<=1000)).1).sm) (ae (Tx 5 n s.value O (gl a).2.1) (ad.some rfl)))
theorem PF{a:az}(h:fz a d=ab)(c:d<=e):fz a e=ab:=by
 unfold fz at h⊢
 grind
theorem Q6{a:b0}(h:fY a d=ab)(c:d<=e):fY a e=ab:=by unfold fY at h⊢;rw[nT,gQ] at h;rw[h.2,Bool.and_true];exact gQ.2 λx i=>PF (h.1 x i) c
theorem afh{x:Expr}(h:eY x d=ab)(a:d<=e):eY x e=ab:=by
 unfold eY at h⊢;split at h
 ·rename_i c;rw[aR c];simp only[b9] at h⊢;exact⟨h.1,h.2.1,PF h.2.2 a⟩
 rename_i c;rw[aP c];split at h
 ·rename_i i;rw[aR i];simp only[b9] at h⊢;exact⟨h.1,h.2.1,Q6 h.2.2 a⟩
 rename_i i
 grind
theorem Od{d e:Int}(a:d<=e): ∀{L:Nat} {x:Expr},dq L x d=ab->dq L x e=ab
 |0,_,h=>by cases h
 |L+1,x,h=>by obtain⟨i,l,m⟩:=gk h;exact Ez i (afh l a) λk c=>Od a (m k c)
theorem adD(h:eT s d=ab):eT s 4=ab:=by unfold eT at h⊢;simp only[b9,decide_eq_true_eq] at h⊢;exact⟨O,Q6 h.2.1 h.1.2,Od h.1.2 h.2.2.1,h.2.2.2⟩
theorem adF(h:eT s d=ab):d<=4:=by
 unfold eT at h
 grind
theorem Vz(L:7000<=n)(r:di 1000 p):El n p=aa (rn p):=by
 unfold El rn;refine ad.eq (ae (lE O r) (ae (kN L r.sm) (ad.cond (λh=>ad.some ?_) λh=>?_)))
 ·rw[aP (by simpa using h)];rfl
 have Q:bG p=ab:=by simpa using h
 rw[aR Q];obtain⟨u,v,D,Z,_⟩:=dZ Q;refine ae (oi O r) ?_;refine ad.loop (λz:List Part×Int=> ∃i:Nat,z.2=i/\i<=p.parts.length/\z.1=(p.parts.take i).map iS++p.parts.drop i) (λz=>p.parts.length-z.2.toNat) ?_ n _ ⟨0,rfl,O,aX⟩ J;rintro w ⟨x,z⟩ ⟨i,R,E,e⟩ b;dsimp only at R e⊢;subst R;have a:((p.parts.take i).map iS).length=i:=by rw[dJ,cZ];omega
 have A:x.length=p.parts.length:=by rw[e,ea,a,fM];omega
 rw[A];refine aW (λf=>?_) λg=>ad.some ?_
 ·obtain⟨P,m⟩: ∃P,p.parts[i]? =aa P:=⟨_,bp (O:i<p.parts.length)⟩
  have B:x[i]? =aa P:=by
   rw[e,iE O,a,kC,gZ];exact m
  obtain⟨_,I,t,_⟩:=gy (Z P (bx m));refine ad.loop (λz:List Part×Int=> ∃j:Nat,z.2=j/\j<=P.body.length/\z.1=x.set i ⟨P.nest,(P.body.take j).map lM++P.body.drop j⟩) (λz=>P.body.length-z.2.toNat) ?_ n _ ⟨0,rfl,O,by
   dsimp only;rw[List.take_zero,List.map_nil,uG,pJ];exact(Ty B).symm⟩ J
  rintro o ⟨y,M⟩ ⟨j,k,N,l⟩ C;dsimp only at k l⊢;subst k;have F:y[i]? =aa ⟨P.nest,(P.body.take j).map lM++P.body.drop j⟩:=by rw[l,gD O]
  have c:((P.body.take j).map lM).length=j:=by rw[dJ,cZ];omega
  have G:((P.body.take j).map lM++P.body.drop j).length=P.body.length:=by rw[ea,c,fM];omega
  refine ae (bl F) ?_;dsimp only;rw[G];refine aW (λW=>?_) λX=>?_
  ·obtain⟨s,q⟩: ∃s,P.body[j]? =aa s:=⟨_,bp (O:j<P.body.length)⟩
   have H:((P.body.take j).map lM++P.body.drop j)[j]? =aa s:=by
    rw[iE O,c,kC,gZ];exact q
   have d:=t s (bx q);refine ae (bl H) (ae (Xf L (adF d) d (adD d)) (ae (dU O _) (ae (dU (by rw[l,e6];omega) _) ?_)));rw[bc O];refine C _ ⟨j+1,J,O,?_⟩ J;dsimp only;rw[l,cf,cf,uK,nQ _ _ O,c,kC,hW q,zY,eO,q];simp
  have K:j=P.body.length:=O
  rw[bc O];refine b _ ⟨i+1,J,O,?_⟩ J;dsimp only;rw[l,K,dW,oO,ke,e,nQ _ _ O,a,kC,hW m,zY,eO,m];simp[iS]
 have:i=p.parts.length:=O
 rw[e,this,dW,oO,ke];rfl
theorem aef(h:eT s d=ab):eT (lM s) d=ab:=by obtain⟨c,a,_⟩:=gl h;unfold eT at h⊢;simp only[b9,decide_eq_true_eq] at h⊢;exact⟨h.1,c,qg a,by have:=Sa a;show dM 5 (fI 5 s.value)<=12;omega⟩
theorem YL(c:eT s d=ab){q:List Int}(h:hL r s q=ab):hL r (lM s) q=ab:=by unfold hL at h⊢;rw[nT,gQ] at h;rw[show(lM s).write=s.write from rfl,h.1,gr];exact gQ.2 λa e=>h.2 a (Sb (gl c).2.1 a e)
theorem Gl(x:Part):dG (iS x)=dG x:=rfl
theorem aaN{x:Part}(h:d' r x=ab):d' r (iS x)=ab:=by
 obtain⟨e,i,d,k⟩:=gy h;unfold d' o1;rw[show(iS x).nest=x.nest from rfl,e,Gl];have l:(iS x).body=x.body.map lM:=rfl;rw[l,dJ,bK i];simp only[Option.isSome_some,Bool.true_and,b9,hT];refine⟨λs c=>?_,λs c q m=>?_⟩
 ·obtain⟨t,a,rfl⟩:=eA.1 c;exact aef (d t a)
 obtain⟨t,a,rfl⟩:=eA.1 c
 have:=k t a q m;exact⟨YL (d t a) this.1,this.2⟩
theorem YM(p:Prog):I (nZ p).parts=I p.parts:=by unfold I nZ;dsimp only;rw[List.zipIdx_map,pG];refine ab2 λy _=>?_;obtain⟨x,j⟩:=y;show ew j (iS x)=ew j x;unfold ew;rw[Gl,show(iS x).body.length=x.body.length by simp[iS]]
theorem aeg(h:bG p=ab):bG (nZ p)=ab:=by
 unfold bG kz at h⊢;simp only[b9,decide_eq_true_eq,hT] at h⊢;obtain⟨⟨a,c,d⟩,e⟩:=h;refine⟨⟨a,by simpa[nZ] using c,λx i=>?_⟩,?_⟩
 ·obtain⟨y,k,rfl⟩:=eA.1 i;exact aaN (d y k)
 show((p.parts.map iS).map d6).sum<=120;rw[fv,show p.parts.map (d6 ∘ iS)=p.parts.map d6 from lK (λx _=>by
  show d6 (iS x)=d6 x;unfold d6;rw[Gl,show(iS x).body.length=x.body.length by simp[iS]])]
 exact e
theorem aaO(h:bG p=ab){m:List Int}(n:fD p.aQ m):c4 (nZ p) m (I (nZ p).parts)=c4 p m (I p.parts):=by
 rw[YM];have a: ∀x∈I p.parts,da p x:=λx c=>fe c;revert a;unfold c4;generalize I p.parts=l;intro a;induction l generalizing m with
 |nil=>rfl
 |cons x l o=>
  simp only[List.foldl_cons];have c:=a x eD;have e:eI (nZ p) m x=eI p m x:=by
   obtain⟨i,k,P,s,d,q,r,w,z,A,B,G,H⟩:=oA h c;have C:ep (nZ p) x=aa (lM s):=by
    unfold ep nZ;dsimp only;rw[eL,q,cf,w];show(iS P).body[x.stmt.toNat]? =_;unfold iS;dsimp only;rw[eL,r,cf,z];rfl
   unfold eI;rw[A,C];dsimp only;show m.set (dS p.aQ s.write x.bU 0).toNat (er 5 p.aQ m (fI 5 s.value) x.bU)=_;rw[Jl n (gl B).2.1]
  rw[e];exact o (sK h n c) λy F=>a y (eo _ F)
end
section
theorem OM{p:Prog}(B:bG p=ab){l:List bO}(K: ∀x∈l,da p x)(m:List Int){F:List Bool}(v: ∀i,(ib p l).getD i ak=ab->F.getD i ak=ab): ∀k,k<=l.length-> ∀c,I7 p l k c->(c4 p m (l.take k)).getD c 0=(c4 p m (pick l (qP F k))).getD c 0
 |0,_,c,_=>rfl
 |k+1,M,c,C=>by
  have Q:=OM B K m v k O;obtain⟨x,A⟩: ∃x,l[k]? =aa x:=⟨_,bp (O:k<l.length)⟩
  have R:=K _ (bx A);have r:=(oz B R).2.2.2;have hw:=sb (p:=p) A;have b8:=xM (p:=p) A;have n: ∀q:List bO,(∀y∈q,da p y)->(c4 p m q).length=m.length:=λq h=>Cy B h;have D: ∀y∈l.take k,da p y:=λy W=>K y (gP W);have E: ∀y∈pick l (qP F k),da p y:=λy W=>K y (O4 W);have w: ∀e:Nat,ju p l k≠(e:Int)->I7 p l (k+1) e->I7 p l k e:=λe o C=>by
   rcases C with ⟨j,G,L,X,Z,f⟩|h
   ·exact .inl ⟨j,O,L,X,Z,λt a b=>by
     by_cases g:t=k
     ·rw[g];exact o
     exact f t O b⟩
   exact .inr (λt a b=>by
    by_cases g:t=k
    ·rw[g];exact o
    exact h t O b)
  rw[gF A,Fk,r,LR];cases u:(ib p l).getD k ak with
  |true=>
   rw[aR (v k u),GI (x:=x) (by rw[cf];exact A),Fk,r,uO,uO,n _ D,n _ E];rw[PZ B R (m':=c4 p m (pick l (qP F k))) (λd I=>Q _ (.inl ⟨k,cR _,O,u,by
    have:=(oz B R).2.1 d I;rw[b8,zW this.1];exact I,λt G L=>O⟩))]
   by_cases e:c3 p x=c/\c3 p x<m.length
   ·rw[aR e,aR e]
   rw[aP e,aP e];by_cases N:c3 p x=c
   ·have G: ∀z:List Int,z.length=m.length->z.getD c 0=0:=λz P=>by
     rw[eQ,q' O];rfl
    rw[G _ (n _ D),G _ (n _ E)]
   exact Q c (w c (by rw[hw];omega) C)
  |false=>
   have o:ju p l k≠(c:Int):=by
    intro e;have s:(ib p l).getD k ak=ab:=by
     rw[ab9 O];rcases C with ⟨j,G,L,X,Z,f⟩|h
     ·exact .inr ⟨j,L,X,Px.2 ⟨(c:Int),Z,Qa e O λt a b=>f t O b⟩⟩
     exact .inl ((aba O).2 λt a b=>by rw[e];exact h t O b)
    rw[u] at s;cases s
   rw[uO,aP (by rintro⟨e,_⟩;exact o (by rw[hw];omega))];have hi:=Q c (w c o C);by_cases H:F.getD k ak=ab
   ·rw[aR H,GI (x:=x) (by rw[cf];exact A),Fk,r,uO,aP (by rintro⟨e,_⟩;exact o (by rw[hw];omega))];exact hi
   rw[aP H,ke];exact hi
variable {p:Prog}{i n:Nat}{P:Part}{a:Int}
theorem aa'(k:bG p=ab){l:List bO}(n: ∀x∈l,da p x)(m:List Int){F:List Bool}(d:F.length=l.length)(o: ∀i,(ib p l).getD i ak=ab->F.getD i ak=ab):c4 p m (pick l (mP F))=c4 p m l:=by
 have h:=OM k n m o l.length (cR _);rw[dW] at h;have e:qP F l.length=mP F:=by rw[<-Mh,d]
 rw[e] at h;refine(ab' (by rw[Cy k n,Cy k λy q=>n y (O4 q)]) λc _=>h c (.inr λt a b=>O)).symm
theorem X7(f:bO->Bool): ∀(l:List bO),pick l (mP (l.map f))=l.filter f:=by
 intro l;have a: ∀k,k<=l.length->pick l (qP (l.map f) k)=(l.take k).filter f:=by
  intro k;induction k with
  |zero=>intro _;rfl
  |succ k d=>
   intro m;obtain⟨x,c⟩: ∃x,l[k]? =aa x:=⟨_,bp (O:k<l.length)⟩
   have i:(l.map f).getD k ak=f x:=by rw[eQ,eL,c];rfl
   rw[LR,i,gF c,pL];cases e:f x with
   |true=>
    rw[aR rfl,GI (x:=x) (by rw[cf];exact c),d O];simp[e]
   |false=>
    rw[aP aX,ke,d O];simp[e]
 have h:=a l.length (cR _);rw[dW] at h;rw[<-h,<-Mh,dJ]
def o0(p:Prog)(a:Int):Bool:=(List.range (I p.parts).length).all (λi=>match (I p.parts)[i]? with
 |some x=> !((ib p (I p.parts)).getD i ak&&ag (x.part=a))
 |none=>ab)
theorem xt{part:Int}:o0 p part=ab↔ ∀(i:Nat) x,(I p.parts)[i]? =aa x->(ib p (I p.parts)).getD i ak=ab->x.part≠part:=by
 unfold o0
 grind
theorem GM(p:Prog)(l:List bO):(ib p l).length=l.length:=qG p l l.length
def tg(i:Nat)(x:bO):bO:=if(i:Int)<x.part then⟨x.part-1,x.stmt,x.bU⟩ else x
theorem ZA(h:p.parts[i]? =aa P): ∃A X Z,I p.parts=A++(X++Z)/\I (p.parts.take i++p.parts.drop (i+1))=(A++Z).map (tg i)/\(∀x∈A,x.part<(i:Int))/\(∀x∈X,x.part=(i:Int))/\ ∀x∈Z,(i:Int)<x.part:=by
 have hi:=(bS.1 h).1;have c:(p.parts.take i).length=i:=by rw[cZ];omega
 have e:p.parts=p.parts.take i++P::p.parts.drop (i+1):=by rw[<-hW h,mX]
 refine⟨I (p.parts.take i),ew i P,((I (p.parts.drop (i+1))).map (fH 1)).map (fH i),?_,?_,λx a=>by have:=nA a;omega,λx a=>J8 a,λx a=>?_⟩
 ·conv=>lhs;rw[e]
  rw[y5,DJ,eN,c];congr 2;exact we λs q=>by unfold fH;simp
 ·rw[y5,c,eN];congr 1
  ·exact(l2 (λx a=>by
    have:=nA a;unfold tg;rw[aP O])).symm
  rw[fv,fv];refine lK λx a=>?_
  have:=nA a;show fH i x=tg i (fH i (fH 1 x));unfold tg fH
  grind
 obtain⟨y,d,rfl⟩:=eA.1 a;obtain⟨z,k,rfl⟩:=eA.1 d
 have:=nA k;unfold fH
 grind
theorem Iu(e:bG p=ab)(i:Nat):bG ⟨p.aQ,p.parts.take i++p.parts.drop (i+1)⟩=ab:=by
 have c: ∀x∈p.parts.take i++p.parts.drop (i+1),x∈p.parts:=λx h=>by
  grind
 have d:=(dZ e).2.2.2.1;have m:=(y6 p.parts)
 have n: ∀l:List Part,(∀x∈l,x∈p.parts)->0<=(l.map d6).sum:=λl o=>by
  induction l with
  |nil=>simp
  |cons a l q=>
   simp only[gf,List.sum_cons]
   have:=(xu (d a (o a eD))).1
   have:=q λx h=>o x (eo _ h);omega
 unfold bG kz at e⊢;simp only[b9,decide_eq_true_eq,hT] at e⊢;obtain⟨⟨aN,a2,a3⟩,a4⟩:=e;refine⟨⟨aN,by simp only[im,k',lP];omega,λx h=>a3 x (c x h)⟩,?_⟩;have r:(p.parts.map d6).sum=((p.parts.take i).map d6).sum+((p.parts.drop i).map d6).sum:=by
  conv=>lhs;rw[<-mX i p.parts]
  grind
 have s:((p.parts.drop (i+1)).map d6).sum<=((p.parts.drop i).map d6).sum:=by
  cases k:p.parts.drop i with
  |nil=>
   have:p.parts.drop (i+1)=[]:=by rw[<-List.drop_drop,k];rfl
   rw[this];simp
  |cons a l=>
   have:p.parts.drop (i+1)=l:=by rw[<-List.drop_drop,k];rfl
   rw[this];simp only[gf,List.sum_cons]
   have:=(xu (d a (fq (i:=i) (by rw[k];exact eD)))).1;omega
 grind
theorem Qd(a:bG p=ab)(i:Nat):di 1000 ⟨p.aQ,p.parts.take i++p.parts.drop (i+1)⟩:=(lT (Iu a i)).mono O
def rq(p:Prog)(a:Int):Prog×Bool:=if(bG p&&(eU p a&&o0 p a))=ab then(⟨p.aQ,p.parts.take a.toNat++p.parts.drop (a.toNat+1)⟩,ab) else eK
theorem aaK(K:7100<=n)(L:di 1000 p)(g: -1<=a/\a<=9):AK n p a=aa (rq p a):=by
 unfold AK rq;refine ad.eq (ae (z6 K L.sm) ?_);by_cases d:bG p=ab
 ·rw[aR d,d];have W:=(dZ d).2.2.2.2;refine bY (ad.aD (λz=>z= !eU p a) (λj k=>b6 (ae (rV n L.2.1 a) (k _ rfl))) λz q=>?_);subst q;cases w:eU p a with
  |false=>exact bY (ad.some rfl)
  |true=>
   have A:0<=a/\a<(p.parts.length:Int):=fF w;refine b6 (ae (x:=ib p (I p.parts)) (aaF K d) ?_);have B:=GM p (I p.parts);rw[B];refine ad.loop (λz:Int=> ∃i:Nat,z=i/\i<=(I p.parts).length/\ ∀(j:Nat) x,j<i->(I p.parts)[j]? =aa x->(ib p (I p.parts)).getD j ak=ab->x.part≠a) (λz=>(I p.parts).length-z.toNat) ?_ n _ ⟨0,rfl,O,λj x h=>O⟩ O;rintro C z ⟨i,rfl,t,r⟩ X;refine aW (λZ=>?_) λb=>?_
   ·obtain⟨x,F⟩: ∃x,(I p.parts)[i]? =aa x:=⟨_,bp (O:i<(I p.parts).length)⟩
    have G:ax (ib p (I p.parts)) (i:Int)=aa ((ib p (I p.parts)).getD i ak):=by
     have c:i<(ib p (I p.parts)).length:=O
     rw[bl (bp c),eQ,bp c];rfl
    have m:ax (gY p).list (i:Int)=aa x:=bl F;refine ae G (ad.aD (λz=>z=((ib p (I p.parts)).getD i ak&&ag (x.part=a))) (λj k=>ad.cond (λh=>ae m (k _ (by rw[h];rfl))) λh=>k _ (by rw[h];rfl)) λz q=>?_);subst q;refine ad.cond (λh=>ad.some ?_) λh=>?_
    ·rw[nT,decide_eq_true_eq] at h
     have:o0 p a=ak:=by
      cases f:o0 p a with
      |false=>rfl
      |true=>exact bB h.2 (xt.1 f i x F h.1)
     rw[this];rfl
    rw[bc O];refine X _ ⟨i+1,O,O,λj y k H s=>?_⟩ O;by_cases e:j=i
    ·subst e;rw[F] at H;cases H;rw[s,gr] at h;exact of_decide_eq_false h
    exact r j y O H s
   have o:o0 p a=ab:=xt.2 λj x Q s=>r j x (by have:=(bS.1 Q).1;omega) Q s;rw[o];refine ae (sa O d) (ae (x:=(fm p.parts a (a+1),kM p.parts a (a+1) (⟨[],[]⟩:Part))) ?_ (ad.some ?_))
   ·unfold wk;rw[bc O,bK A.1,bK (O:a<=a+1),bK (O:a+1<=(p.parts.length:Int)),bJ (show¬a=a+1 by omega)];rfl
   show(⟨p.aQ,(kM p.parts a (a+1) (⟨[],[]⟩:Part)).take (fm p.parts a (a+1))⟩,ab)=((⟨p.aQ,p.parts.take a.toNat++p.parts.drop (a.toNat+1)⟩:Prog),ab)
   have R:(p.parts.take a.toNat++p.parts.drop (a+1).toNat).length=fm p.parts a (a+1):=by
    unfold fm;simp only[im,k',lP];omega
   unfold kM;rw[ss (by rw[R];exact cR _),ma (l:=p.parts.take a.toNat++p.parts.drop (a+1).toNat) (by rw[R];exact cR _),show(a+1).toNat=a.toNat+1 by omega]
 rw[aP d,show bG p=ak by simpa using d];refine b6 (ad.aD (λz=>z=ab) (λj k=>bY (k _ rfl)) λz q=>?_);rw[q];exact bY (ad.some rfl)
theorem aa4(W:7100<=n)(o:di 1000 p)(E: -1<=a/\a<=9):Ax n p a=aa (rq p a):=by
 unfold Ax rq;refine ad.eq (ae (lE O o) (ad.aD (λz=>z= !(bG p&&eU p a)) (λj q=>?_) λz X=>?_))
 ·refine ae (kN O o.sm) (ad.cond (λh=>q _ ?_) λh=>?_)
  ·rw[uc h];rfl
  have bW:=r7 h;refine aW (λr=>q _ ?_) λr=>q _ ?_
  ·rw[bW,show eU p a=ak from bJ O];rfl
  by_cases R:(p.parts.length:Int)<=a
  ·rw[bW,bK R,show eU p a=ak from bJ O];rfl
  rw[bW,bJ R,show eU p a=ab from bK O];rfl
 subst X;by_cases bW:bG p=ab
 ·rw[bW];have Z:=(dZ bW).2.2.2.2;cases B:eU p a with
  |false=>exact bY (ad.some rfl)
  |true=>
   have b:0<=a/\a<(p.parts.length:Int):=fF B;refine b6 (ae (UF W o.sm) (ae (wg O bW) ?_));rw[aR bW];have f:=GM p (I p.parts);have g:=Mp (ib p (I p.parts));have s: ∀c∈mP (ib p (I p.parts)),∃(i:Nat) (x:bO),c=i/\(I p.parts)[i]? =aa x/\(ib p (I p.parts)).getD i ak=ab:=λc C=>by
    obtain⟨M,r⟩:=FV.1 C;have w:c.toNat<(I p.parts).length:=by
     by_cases h:c.toNat<(I p.parts).length
     ·exact h
     rw[eQ,q' O] at r;cases r
    exact⟨c.toNat,_,O,bp w,r⟩
   generalize t:mP (ib p (I p.parts))=L at*;refine ad.loop (λz:Int=> ∃i:Nat,z=i/\i<=L.length/\ ∀c∈L.take i,∀x,(I p.parts)[c.toNat]? =aa x->x.part≠a) (λz=>L.length-z.toNat) ?_ n _ ⟨0,rfl,O,λc C=>by simp at C⟩ O;rintro F z ⟨i,rfl,N,e⟩ u;refine aW (λw=>?_) λv=>?_
   ·obtain⟨c,G⟩: ∃c,L[i]? =aa c:=⟨_,bp (O:i<L.length)⟩
    obtain⟨k,x,rfl,A,H⟩:=s c (bx G);refine ae (bl G) (ae (bl A) (aW (λh=>ad.some ?_) λh=>?_))
    ·have:o0 p a=ak:=by
      cases m:o0 p a with
      |false=>rfl
      |true=>exact bB h (xt.1 m k x A H)
     rw[this];rfl
    rw[bc O];refine u _ ⟨i+1,O,O,λd m y K=>?_⟩ O;rw[gF G,eC,pK] at m;rcases m with m|rfl
    ·exact e d m y K
    rw[cf,A] at K;cases K;exact h
   have Q:i=L.length:=O
   rw[Q,dW] at e;have l:o0 p a=ab:=xt.2 (λj x A H=>by
    have q:((j:Nat):Int)∈L:=by rw[<-t];exact FV.2 ⟨O,by rw[cf];exact H⟩
    exact e _ q x (by rw[cf];exact A))
   rw[l];obtain⟨i,rfl⟩: ∃i:Nat,a=i:=⟨a.toNat,O⟩
   refine ae (x:=(⟨p.aQ,p.parts.take i++p.parts.drop (i+1)⟩,ab)) (ad.eq ?_) (ad.some rfl);have D:=o.2.1;unfold kn;refine ae (oi O o) (ae (iR O O O) ?_);rw[cf,show(0:Int).toNat=0 from rfl,pJ];refine ae (x:=p.parts.take i) (c' bQ) (ae (x:=p.parts.take i) (by rw[c' bQ,ke]) ?_);rw[bc O];refine ae (iR O O O) ?_;rw[cf,dW,show((i:Int)+1).toNat=i+1 by omega];refine ae (x:=p.parts.take i++p.parts.drop (i+1)) (c' bQ) (ae (kN O (Qd bW i).sm) ?_);rw[Iu bW i];exact b6 (ae (oi O (Qd bW i)) (ad.some rfl))
 rw[show bG p=ak by simpa using bW];exact bY (ad.some rfl)
theorem aaW(h:p.parts[i]? =aa P){x:bO}(d:da p x)(e:x.part≠(i:Int)):ep ⟨p.aQ,p.parts.take i++p.parts.drop (i+1)⟩ (tg i x)=ep p x/\(tg i x).bU=x.bU:=by
 have hi:=(bS.1 h).1;have l:(p.parts.take i).length=i:=by rw[cZ];omega
 obtain⟨a,k,n,s,c,o,q,r,w⟩:=d;unfold tg;split
 ·rename_i m;refine⟨?_,rfl⟩;unfold ep;dsimp only;rw[c,show((a:Int)-1).toNat=a-1 by omega,cf,iE O,l,gZ,show i+1+(a-1-i)=a by omega]
 refine⟨?_,rfl⟩;unfold ep;dsimp only;rw[c,cf,jq O,g',aR O]
theorem acP(q:bG p=ab)(h:p.parts[i]? =aa P)(r:o0 p (i:Int)=ab)(m:List Int):c4 ⟨p.aQ,p.parts.take i++p.parts.drop (i+1)⟩ m (I (p.parts.take i++p.parts.drop (i+1)))=c4 p m (I p.parts):=by
 obtain⟨A,X,Z,d,s,n,w,o⟩:=ZA h;have e: ∀x∈I p.parts,da p x:=λx a=>fe a;have y:c4 p m (I p.parts)=c4 p m (A++Z):=by
  rw[<-aa' q e m (F:=(I p.parts).map λx=> !decide (x.part=(i:Int))) aX λj k=>?_,X7]
  ·congr 1;rw[d,pL,pL];have z:A.filter (λx=> !decide (x.part=(i:Int)))=A:=List.filter_eq_self.2 λx a=>by have:=n x a;rw[bJ O];rfl
   have B:X.filter (λx=> !decide (x.part=(i:Int)))=[]:=List.filter_eq_nil_iff.2 λx a=>by rw[bK (w x a)];simp
   have C:Z.filter (λx=> !decide (x.part=(i:Int)))=Z:=List.filter_eq_self.2 λx a=>by have:=o x a;rw[bJ O];rfl
   rw[z,B,C];rfl
  have l:j<(I p.parts).length:=by
   rw[<-GM p (I p.parts)];by_cases G:j<(ib p (I p.parts)).length
   ·exact G
   rw[eQ,q' O] at k;cases k
  have a:=bp l
  have:=xt.1 r j _ a k;rw[eQ,eL,a];show(!decide _)=ab;rw[bJ this];rfl
 rw[y,s];unfold c4;rw[List.foldl_map];refine wI λx a m=>?_;have c:x∈I p.parts/\x.part≠(i:Int):=by
  rcases eC.1 a with h|h
  ·exact⟨by rw[d];simp[h],by have:=n x h;omega⟩
  exact⟨by rw[d];simp[h],by have:=o x h;omega⟩
 obtain⟨H,K⟩:=aaW h (fe c.1) c.2;unfold eI;rw[H,K]
end
section
theorem yo(a b:Int)(c:List Loop)(p:List Int):cW ((⟨[dK a],[dK b]⟩:Loop)::c) p=(cL a b).flatMap (λv=>cW c (p++[v])):=by
 have d:cP ⟨[dK a],[dK b]⟩ p=a:=by unfold cP fi;simp[iU,vE]
 have e:dd ⟨[dK a],[dK b]⟩ p=b:=by unfold dd fi;simp[kZ,vE]
 simp only[cW,d,e]
variable {a b c:Int}{p:Prog}{i:Nat}{P:Part}
theorem O2{o:List Loop}{q:List Int}(h:q∈(cL a b).flatMap λv=>cW o ([]++[v])):a<=q.getD 0 0/\q.getD 0 0<b:=by obtain⟨v,c,h⟩:=hq.1 h;obtain⟨d,rfl,_⟩:=(x0 o _ _).1 h;exact x3.1 c
def p7(i:Nat)(c:Int)(x:bO):bO:=if x.part<(i:Int) then x else if x.part=(i:Int) then(if x.bU.getD 0 0<c then x else⟨(i:Int)+1,x.stmt,x.bU⟩) else⟨x.part+1,x.stmt,x.bU⟩
theorem Yd(l:p.parts[i]? =aa P)(o:a<=c)(r:c<=b)(e:dG P=cW ((⟨[dK a],[dK b]⟩:Loop)::P.nest.drop 1) [])(m:dG (e4 P a c)=cW (e4 P a c).nest [])(n:dG (e4 P c b)=cW (e4 P c b).nest []):
  I (ga p i 1 [e4 P a c,e4 P c b]).parts=(I p.parts).map (p7 i c):=by
 have s:=(bS.1 l).1;have w:(p.parts.take i).length=i:=by rw[cZ];omega
 have k:p.parts=p.parts.take i++P::p.parts.drop (i+1):=by
  have:=mX i p.parts;rw[hW l] at this;exact this.symm
 have y:dG P=dG (e4 P a c)++dG (e4 P c b):=by
  rw[e,m,n];unfold e4;dsimp only;rw[yo,yo,yo,<-Tt o r,mc]
 have z: ∀q∈dG (e4 P a c),q.getD 0 0<c:=λq d=>by
  rw[m] at d;unfold e4 at d;dsimp only at d;rw[yo] at d;exact(O2 d).2
 have A: ∀q∈dG (e4 P c b),c<=q.getD 0 0:=λq d=>by
  rw[n] at d;unfold e4 at d;dsimp only at d;rw[yo] at d;exact(O2 d).1
 conv=>rhs;rw[k]
 show I (p.parts.take i++[e4 P a c,e4 P c b]++p.parts.drop (i+1))=_;rw[fN,show [e4 P a c,e4 P c b]++p.parts.drop (i+1)=e4 P a c::e4 P c b::p.parts.drop (i+1) from rfl,y7,J9,w,eN,eN];congr 1
 ·exact(l2 (λx h=>by
   have:=nA h;unfold p7;rw[aR O])).symm
 rw[tR i P,y,mc,eN,fN];congr 1
 ·refine(l2 λx h=>?_).symm;obtain⟨q,d,h⟩:=hq.1 h;obtain⟨B,C,F,G⟩:=yD h;unfold p7;rw[aP O,aR B,aR (by rw[C];exact z q d)]
 congr 1
 ·refine(D3 λq d=>?_).symm;unfold gw;rw[fv];refine lK λj _=>?_;simp only[Function.comp_apply];unfold p7
  have:=A q d;rw[aP J,aR rfl,aP J];simp only[bO.mk.injEq,and_true];omega
 rw[fv,fv,fv];refine lK λx h=>?_
 have:=nA h;simp only[Function.comp_apply];unfold p7 fH;dsimp only;rw[aP O,aP O];simp only[bO.mk.injEq,and_true];omega
theorem Y5{hi:Int}(e:p.parts[i]? =aa P){x:bO}(q:da p x):ep (ga p i 1 [e4 P a c,e4 P c hi]) (p7 i c x)=ep p x/\(p7 i c x).bU=x.bU:=by
 have hi:=(bS.1 e).1;obtain⟨d,j,w,s,h,k,l,y,z⟩:=q;have r:=(bS.1 l).1;unfold p7;by_cases m:x.part<(i:Int)
 ·rw[aR m];refine⟨?_,rfl⟩;unfold ep;rw[h,k,cf,cf,nI O,aR O]
 rw[aP m];by_cases n:x.part=(i:Int)
 ·rw[aR n]
  have:d=i:=O
  subst this;rw[e] at l;cases l;by_cases o:x.bU.getD 0 0<c
  ·rw[aR o];refine⟨?_,rfl⟩;unfold ep;rw[h,k,cf,cf,nI O,aP O,aR aX,kC,e];rfl
  rw[aP o];refine⟨?_,rfl⟩;unfold ep;dsimp only;rw[h,k,show((d:Int)+1).toNat=d+1 by omega,cf,cf,nI O,aP O,aR aX,show d+1-d=1 by omega,e];rfl
 rw[aP n];refine⟨?_,rfl⟩;unfold ep;dsimp only;rw[h,k,cf,cf,show((d:Int)+1).toNat=d+1 by omega,nI O,aP O,aP bQ];congr 2;simp only[List.length_cons,List.length_nil];omega
end
section
theorem wY: ∀a,cmpL a a=0
 | []=>rfl
 |x::a=>by unfold cmpL;rw[aP O,aP O];exact wY a
theorem qJ: ∀a c,cmpL c a= -cmpL a c
 | [],[]=>by simp[cmpL]
 | [],_::_=>by simp[cmpL]
 |_::_,[]=>by simp[cmpL]
 |x::a,y::c=>by
  unfold cmpL;by_cases d:x<y
  ·simp[d,show¬y<x by omega]
  by_cases e:y<x
  ·simp[d,e]
  rw[aP d,aP e,aP e,aP d];exact qJ a c
theorem uD: ∀{a c},cmpL a c=0->a=c
 | [],[],_=>rfl
 | [],_::_,h=>by simp[cmpL] at h
 |_::_,[],h=>by simp[cmpL] at h
 |x::a,y::c,h=>by
  unfold cmpL at h;by_cases d:x<y
  ·rw[aR d] at h;omega
  by_cases e:y<x
  ·rw[aP d,aR e] at h;omega
  rw[aP d,aP e] at h;rw[uD h,show x=y by omega]
theorem x2: ∀{k l m},cmpL k l<0->cmpL l m<0->cmpL k m<0
 | [],[],_,h,_=>by simp[cmpL] at h
 | [],_::_,[],_,h=>by simp[cmpL] at h
 | [],_::_,_::_,_,_=>by simp[cmpL]
 |_::_,[],_,h,_=>by simp[cmpL] at h
 |_::_,_::_,[],_,h=>by simp[cmpL] at h
 |x::k,y::l,z::m,i,e=>by
  unfold cmpL at i e⊢;by_cases a:x<y
  ·by_cases b:y<z
   ·rw[aR O];omega
   by_cases c:z<y
   ·rw[aP b,aR c] at e;omega
   rw[aR O];omega
  by_cases b:y<x
  ·rw[aP a,aR b] at i;omega
  by_cases c:y<z
  ·rw[aR O];omega
  by_cases d:z<y
  ·rw[aP c,aR d] at e;omega
  rw[aP O,aP O];rw[aP a,aP b] at i;rw[aP c,aP d] at e;exact x2 i e
theorem Py: ∀a c,hR a c=ag (cmpL a c<0)
 | [],[]=>rfl
 | [],_::_=>rfl
 |_::_,[]=>rfl
 |x::a,y::c=>by
  unfold hR cmpL;by_cases h:x=y
  ·subst h;simp only[if_true,Int.lt_irrefl,if_false];exact Py a c
  by_cases d:x<y
  ·simp[h,d]
  have:y<x:=O
  simp[h,d,this]
abbrev iK(l:List (List Int)):Prop:=l.Pairwise λa b=>cmpL a b<0
theorem RJ: ∀{l m:List (List Int)},iK l->iK m->(∀x,x∈l↔x∈m)->l=m
 | [],[],_,_,_=>rfl
 | [],y::m,_,_,h=>by have:=(h y).2 aX;simp at this
 |x::l,[],_,_,h=>by have:=(h x).1 aX;simp at this
 |x::l,y::m,s,w,h=>by
  obtain⟨q,A⟩:=nR.1 s;obtain⟨r,B⟩:=nR.1 w;have e:x=y:=by
   rcases ez.1 ((h x).1 aX) with d|d
   ·exact d
   rcases ez.1 ((h y).2 aX) with i|i
   ·exact i.symm
   have a:=r x d;have b:=q y i
   have:=x2 a b;rw[wY] at this;omega
  subst e;have k:x∉l:=λn=>by have:=q x n;rw[wY] at this;omega
  have o:x∉m:=λn=>by have:=r x n;rw[wY] at this;omega
  rw[RJ A B (λz=>⟨λc=>by
   rcases ez.1 ((h z).1 (eo _ c)) with rfl|p
   ·exact bB c k
   ·exact p,λc=>by
   rcases ez.1 ((h z).2 (eo _ c)) with rfl|p
   ·exact bB c o
   exact p⟩)]
def jv:List (List Int)->List Int->List (List Int)
 | [],d=>[d]
 |x::a,d=>if cmpL d x<0 then d::x::a else x::jv a d
theorem Hb{d z:List Int}: ∀{l:List (List Int)},z∈jv l d↔z=d\/z∈l
 | []=>by simp[jv]
 |x::a=>by
  unfold jv;split
  ·simp
  simp only[List.mem_cons,Hb (l:=a)];constructor
  ·rintro(h|h|h)
   ·exact .inr (.inl h)
   ·exact .inl h
   exact .inr (.inr h)
  rintro(h|h|h)
  ·exact .inr (.inl h)
  ·exact .inl h
  exact .inr (.inr h)
theorem QF{d:List Int}: ∀{l:List (List Int)},iK l->d∉l->iK (jv l d)
 | [],_,_=>by simp[jv]
 |x::o,c,i=>by
  obtain⟨k,m⟩:=nR.1 c;unfold jv;split
  ·rename_i h;refine nR.2 ⟨λz a=>?_,c⟩;rcases ez.1 a with rfl|a
   ·exact h
   exact x2 h (k z a)
  rename_i h;refine nR.2 ⟨λz a=>?_,QF m λn=>i (eo _ n)⟩;rcases Hb.1 a with rfl|a
  ·have p:=qJ z x;have q:cmpL z x≠0:=λe=>i (by rw[uD e];simp);omega
  exact k z a
def jc(l:List (List Int))(d:List Int):List (List Int):=if d∈l then l else jv l d
theorem ae6{l:List (List Int)}(h:iK l)(d:List Int):iK (jc l d):=by
 unfold jc;split
 ·exact h
 exact QF h ‹_›
variable {l:Loop}{d a b q:List Int}{R:Type}{Q:R->Prop}{n k i:Nat}{p:Prog}{x:bO}{c:Int}{f H:List Int->List Int}{P C:Part}{F:az->az}{y:az}{r:List cg}
theorem PK{l:List (List Int)}{z:List Int}:z∈jc l d↔z=d\/z∈l:=by
 unfold jc;split
 ·rename_i h
  grind
 exact Hb
theorem HZ: ∀(a l:List (List Int)),iK l->iK (a.foldl jc l)/\ ∀z,z∈a.foldl jc l↔z∈l\/z∈a
 | [],l,h=>⟨h,λz=>aX⟩
 |d::a,l,h=>by
  obtain⟨c,e⟩:=HZ a (jc l d) (ae6 h d);refine⟨c,λz=>?_⟩;rw[List.foldl_cons,e z,PK,ez];constructor
  ·rintro((h|h)|h)
   ·exact .inr (.inl h)
   ·exact .inl h
   exact .inr (.inr h)
  rintro(h|h|h)
  ·exact .inl (.inr h)
  ·exact .inl (.inl h)
  exact .inr h
def hf:List (List Int)->List (List Int)
 | []=>[]
 | [x]=>[x]
 |x::y::r=>if x=y then hf (y::r) else x::hf (y::r)
theorem FH{z:List Int}: ∀{l:List (List Int)},z∈hf l↔z∈l
 | []=>by simp[hf]
 | [x]=>by simp[hf]
 |x::y::r=>by
  have a:=FH (z:=z) (l:=y::r);unfold hf;split
  ·rename_i h;subst h;rw[a];simp
  rw[ez,a];simp
theorem FW: ∀{l:List (List Int)},l.Pairwise (λa b=> ¬cmpL b a<0)->iK (hf l)
 | [],_=>by simp[hf]
 | [x],_=>by simp[hf]
 |x::y::r,h=>by
  obtain⟨n,i⟩:=nR.1 h;obtain⟨o,_⟩:=nR.1 i;unfold hf;split
  ·exact FW i
  rename_i k;refine nR.2 ⟨λz m=>?_,FW i⟩;have d:cmpL x y<0:=by
   have a:=n y aX;have b:=qJ x y;have c:cmpL x y≠0:=λe=>k (uD e);omega
  rcases ez.1 (FH.1 m) with rfl|m
  ·exact d
  have a:=o z m;have b:=qJ y z;by_cases e:cmpL y z=0
  ·rw[<-uD e];exact d
  exact x2 d O
theorem Xl(l:List (List Int)):(fS l).Pairwise (λa b=> ¬cmpL b a<0):=by
 have:=List.pairwise_mergeSort (le:=λx y=> !decide (cmpL y x<0)) (λa b c k d=>by
  simp only[Bool.not_eq_true',decide_eq_false_iff_not] at*;intro h;have i:=qJ a b;have m:=qJ b c;by_cases e:cmpL b a=0
  ·rw[uD e] at d;exact d h
  ·exact d (x2 h O)) (λa b=>by
  have i:=qJ a b;by_cases h:cmpL b a<0
  ·have: ¬cmpL a b<0:=O
   simp[h,this]
  simp[h]) l
 refine this.imp λh=>?_;simpa using h
theorem adW(a:List (List Int)):hf (fS a)=a.foldl jc []:=by obtain⟨c,d⟩:=HZ a [] List.Pairwise.nil;refine RJ (FW (Xl a)) c λz=>?_;rw[FH,d z];unfold fS;rw[List.mem_mergeSort];simp
def fZ(b a:List Int):List Int:=List.zipWith (λx y=>x-y) b a
theorem ON(F:a.length=b.length)(G:b.length<=1000)(H:1000<n)(l: ∀x∈a,cV 9999 x)(m: ∀x∈b,cV 9999 x){K:List Int->Option R}(L:ad (K (fZ b a)) Q):
  ad (bm (λc ((h,d):(List Int)×Int)=>
   bif ag (d<(b.length:Int)) then(
    bN (ax b d) λo=>
    bN (ax a d) λp=>
    bN (app h [wr (o-p)]) λq=>
    c (q,wr (d+1))
   ) else(
    K h
   )) n ([],0)) Q:=by
 refine ad.loop (λx:List Int×Int=> ∃i:Nat,x.2=i/\i<=b.length/\x.1=(fZ b a).take i) (λx=>b.length-x.2.toNat) ?_ n _ ⟨0,rfl,O,aX⟩ J;rintro r ⟨x,k⟩ ⟨i,w,W,s⟩ y;dsimp only at w s⊢;subst w;have z:(fZ b a).length=b.length:=by unfold fZ;rw[E5];omega
 refine aW (λe=>?_) λA=>?_
 ·have e:i<b.length:=O
  have B:=bp e;have C:=bp (O:i<a.length);have dc:=m _ (gC e);have cS:=l _ (gC (O:i<a.length));unfold cV at dc cS;refine ae (bl B) (ae (bl C) (ae (c' (by rw[s,cZ];simp;omega)) ?_));rw[bc (n:=b[i]-a[i]) O,bc O];refine y _ ⟨i+1,J,O,?_⟩ J;dsimp only;rw[eO,<-s];congr 1;unfold fZ
  grind
 have:i=b.length:=O
 grind
theorem YS(e:a.length=b.length)(h:b.length<=1000)(i:1000<n)(c: ∀x∈a,cV 9999 x)(d: ∀x∈b,cV 9999 x):AZ n b a=aa (fZ b a):=by unfold AZ;exact ad.eq (ON e h i c d (ad.some rfl))
theorem abo(D:20000<=n){l:List (List Int)}(E:l.length<=15000)(Q: ∀x∈l,x.length<=1000)(R:d.length<=1000):Cw n l d=aa (jc l d):=by
 unfold Cw;refine ad.eq (ad.loop (λx:List (List Int)×Bool×Int=> ∃i:Nat,x.2.2=i/\i<=l.length/\d∉l.take i/\(x.2.1=ab->x.1.length<=i+1/\jv l d=x.1++l.drop i)/\(x.2.1=ak->x.1.length<=i/\jv l d=x.1++jv (l.drop i) d)) (λx=>l.length-x.2.2.toNat) ?_ n _ ⟨0,rfl,O,aX,(λh=>by cases h),λ_=>⟨aX,aX⟩⟩ J);rintro A ⟨I,e,k⟩ ⟨i,K,M,o,L,B⟩ W;dsimp only at K L B⊢;subst K;refine aW (λc=>?_) λX=>?_
 ·have c:i<l.length:=O
  have Z:=bp c;have C:l[i].length<=1000:=Q _ (gC c);refine ae (bl Z) (ae (MG O O) (aW (λb=>ad.some ?_) λf=>?_))
  ·unfold jc
   grind
  have a:=lI c;have p:d∉l.take (i+1):=by
   grind
  refine ad.aD (λz:List (List Int)×Bool=>(z.2=ab->z.1.length<=i+1/\jv l d=z.1++l.drop i)/\(z.2=ak->z.1.length<=i/\jv l d=z.1++l[i]::jv (l.drop (i+1)) d)) (λj m=>?_) λz q=>?_
  ·refine ad.aD (λz:Bool=>z=(!e&&hR d l[i])) (λN r=>ad.cond (λh=>?_) λh=>r _ ?_) λz q=>?_
   ·have h:e=ak:=by simpa using h
    exact ae (OS O R C) (r _ (by rw[h];rfl))
   ·have h:e=ab:=by simpa using h
    grind
   subst q;cases s:e with
   |true=>exact b6 (m _ ⟨λ_=>L s,λh=>by cases h⟩)
   |false=>
    obtain⟨g,F⟩:=B s;rw[a] at F;rw[Py];by_cases y:cmpL d l[i]<0
    ·rw[bK y];refine bY (ae (c' bQ) (m _ ⟨λ_=>⟨bQ,?_⟩,λh=>by cases h⟩));rw[F,a];unfold jv;rw[aR y];simp
    rw[bJ y];refine b6 (m _ ⟨(λh=>by cases h),λ_=>⟨g,?_⟩⟩);rw[F]
    conv=>lhs;rw[jv]
    rw[aP y]
  obtain⟨t,u⟩:=z;obtain⟨G,H⟩:=q;dsimp only at G H⊢;have v:t.length<=i+1:=by
   cases u with
   |true=>exact(G rfl).1
   |false=>have:=(H rfl).1;omega
  refine ae (c' bQ) ?_;rw[bc O];refine W _ ⟨i+1,J,O,p,λh=>?_,λh=>?_⟩ J
  ·obtain⟨aN,a2⟩:=G h
   grind
  obtain⟨aN,a2⟩:=H h
  grind
 have:i=l.length:=O
 subst this;rw[dW] at o;have w:jc l d=jv l d:=by unfold jc;rw[aP o]
 rw[w];refine ad.aD (λz=>z=jv l d) (λj m=>ad.cond (λh=>?_) λh=>m _ ?_) λz q=>ad.some q
 ·have h:e=ak:=by simpa using h
  obtain⟨aN,a2⟩:=B h;refine ae (c' bQ) (m _ ?_);rw[a2,oO];rfl
 have h:e=ab:=by simpa using h
 grind
theorem PB(d:List Int): ∀l:List (List Int),(jv l d).length=l.length+1
 | []=>rfl
 |x::a=>by
  unfold jv;split
  ·rfl
  rw[List.length_cons,PB d a];rfl
theorem PL(l:List (List Int))(d:List Int):(jc l d).length<=l.length+1:=by
 unfold jc;split
 ·omega
 rw[PB];omega
def kl(e:List bO)(c:Int)(d:gv):Option (List Int):=match e[d.e3.toNat]?,e[d.e5.toNat]? with
 |some a,aa b=>if a.part=c/\b.part=c then aa (fZ b.bU a.bU) else none
 |_,_=>none
def mq(p:Prog)(a:Int):List (List Int):=(gM p (I p.parts) (I p.parts).length).filterMap (kl (I p.parts) a)
theorem qz(l:bG p=ab)(m:da p x): ∃P,p.parts[x.part.toNat]? =aa P/\0<=x.part/\x.bU.length=P.nest.length/\x.bU.length<=4/\ ∀y∈x.bU,cV 9999 y:=by obtain⟨F,G,H,c,n⟩:=dZ l;obtain⟨i,k,P,s,o,K,e,q,h⟩:=m;obtain⟨r,L,Q,w⟩:=gy (c P (bx e));obtain⟨R,z,d,A,B⟩:=o7 r;have hs:=bx q;have a:=(w s hs _ h).2;unfold k2 at a;simp only[b9,decide_eq_true_eq,hT] at a;exact⟨P,by rw[o,cf];exact e,O,(d _ h).1,a.1,λy C=>a.2 y C⟩
theorem adX{l:List bO}(h: ∀x∈l,x.bU.length<=4){d:gv}{v:List Int}(e:kl l c d=aa v):v.length<=4:=by
 unfold kl at e;split at e
 ·rename_i a b i k;split at e
  ·cases e;unfold fZ
   grind
  cases e
 cases e
theorem LB{k:Type}{f:k->Option R}{l:List k}{x:k}(h:l[i]? =aa x):(l.take (i+1)).filterMap f=(l.take i).filterMap f++(f x).toList:=by
 rw[eO,h,List.filterMap_append]
 grind
theorem Nc(v:20000<=n)(hp:jB p)(w:bG p=ab)(a:Int):zn n p a=aa ((mq p a).foldl jc []):=by
 have K:=(dZ w).2.2.2.2;unfold zn;refine ad.eq (ae (wg O w) (ae (GY O w) ?_));have q: ∀x∈I p.parts,da p x:=λx A=>fe A;have alB:=Hz (p:=p) K;have bb:=Rb (p:=p) (l:=I p.parts);unfold mq;generalize gM p (I p.parts) (I p.parts).length=d at*;generalize I p.parts=e at*;have D: ∀x∈e,x.bU.length<=4:=λx A=>(qz w (q x A)).choose_spec.2.2.2.1;refine ad.loop (λx:List (List Int)×Int=> ∃i:Nat,x.2=i/\i<=d.length/\x.1=((d.take i).filterMap (kl e a)).foldl jc []/\x.1.length<=i/\ ∀y∈x.1,y.length<=4) (λx=>d.length-x.2.toNat) ?_ n _ ⟨0,rfl,O,aX,aX,aX⟩ J;rintro L ⟨E,k⟩ ⟨i,t,hi,A,B,m⟩ M;dsimp only at t A B m⊢;subst t;refine aW (λr=>?_) λN=>ad.some ?_
 ·have r:i<d.length:=O
  have u:=bp r;obtain⟨P,d2,d3⟩:=bb _ (gC r);have S:=s4 (l:=e) (c:=d[i].e3) P O;have T:=s4 (l:=e) (c:=d[i].e5) O O;have U:=gC (O:d[i].e3.toNat<e.length);have Q:=gC (O:d[i].e5.toNat<e.length);have R:e[d[i].e3.toNat]? =aa e[d[i].e3.toNat]:=bp _;have W:e[d[i].e5.toNat]? =aa e[d[i].e5.toNat]:=bp _;obtain⟨V,C,ajI,ajJ,ajK,X⟩:=qz w (q _ U);obtain⟨F3,s,ajL,ajM,ajN,Z⟩:=qz w (q _ Q);refine ad.aD (λz=>z.2.2.2.2.2.2=((d.take (i+1)).filterMap (kl e a)).foldl jc []/\z.2.2.2.2.2.2.length<=i+1/\ ∀y∈z.2.2.2.2.2.2,y.length<=4) (λj b=>ae (bl u) (ae S (ae T ?_))) λz f=>?_
  ·rw[LB u,List.foldl_append,<-A] at b;refine ad.aD (λz:Bool=>z=ag (e[d[i].e3.toNat].part=a/\e[d[i].e5.toNat].part=a)) (λjJ F=>aW (λh=>F _ ?_) λh=>F _ ?_) λz f=>?_
   ·exact decide_eq_decide.2 ⟨λG=>⟨h,G⟩,λG=>G.2⟩
   ·exact(bJ λG=>h G.1).symm
   subst f;have o:kl e a d[i]=if e[d[i].e3.toNat].part=a/\e[d[i].e5.toNat].part=a then aa (fZ e[d[i].e5.toNat].bU e[d[i].e3.toNat].bU) else none:=by
    unfold kl;rw[R,W]
   refine aW (λh=>?_) λh=>b _ ?_
   ·have g:V=F3:=by
     rw[h.1] at C;rw[h.2] at s;rw[C] at s;cases s;rfl
    subst g;refine ae (YS O O O X Z) (ae (abo v O (λy H=>by have:=m y H;omega) (by unfold fZ;rw[E5];omega)) (b _ ?_));rw[o,aR h];dsimp only[Option.toList,List.foldl];refine⟨rfl,?_,λy H=>?_⟩
    ·have:=PL E (fZ e[d[i].e5.toNat].bU e[d[i].e3.toNat].bU);omega
    rcases PK.1 H with rfl|H
    ·unfold fZ;rw[E5];omega
    exact m y H
   rw[o,aP h]
   grind
  obtain⟨Ag,z2,z3⟩:=f;rw[bc O];exact M _ ⟨i+1,J,O,Ag,z2,z3⟩ J
 have:i=d.length:=O
 grind
theorem Mg(x:List Int): ∀(y:List Int) (a:List (List Int)),hf ((y::a)++[x])=if(y::a).getLast aX=x then hf (y::a) else hf (y::a)++[x]
 |y,[]=>by
  by_cases h:y=x
  ·subst h;simp[hf]
  simp[hf,h]
 |y,z::a=>by
  have d:=Mg x z a;rw[List.getLast_cons aX];show hf (y::z::(a++[x]))=_;unfold hf;by_cases h:y=z
  ·rw[aR h,aR h];exact d
  rw[aP h,aP h];have c:hf (z::(a++[x]))=_:=d;rw[c];split<;>simp
theorem XC{s:List (List Int)}{m:Nat}(n:1<=m)(l:m<s.length):hf (s.take (m+1))=if s[m-1]=s[m] then hf (s.take m) else hf (s.take m)++[s[m]]:=by
 have e:s.take (m+1)=s.take m++[s[m]]:=by rw[eO,bp l];rfl
 have d:s.take m≠[]:=by
  intro h
  have:=congrArg List.length h
  grind
 have c: ∀h,(s.take m).getLast h=s[m-1]:=λh=>by
  grind
 rw[e];obtain⟨y,a,k⟩: ∃y a,s.take m=y::a:=by
  cases h:s.take m with
  |nil=>exact bB h d
  |cons y a=>exact⟨y,a,rfl⟩
 have i:=c d;simp only[k] at i⊢;rw[Mg,i]
def ku(d:List Int):Option Nat:=d.findIdx? λx=> !decide (x=0)
def p5(d:List Int):Int:=match ku d with
 |some i=>(i:Int)
 |none=> -1
theorem ZP(s:d.length<=1000)(w:1000<n):EP n d=aa (p5 d):=by
 unfold EP;refine ad.eq (ae (x:=p5 d) ?_ (ad.some rfl));unfold zc;refine ad.eq (ad.loop (λx:Int=> ∃i:Nat,x=i/\i<=d.length/\ ∀j,j<i->d.getD j 0=0) (λx=>d.length-x.toNat) ?_ n _ ⟨0,rfl,O,λj a=>bB a (q6 _)⟩ O);rintro e z ⟨i,rfl,y,A⟩ m;have l: ∀j (a:j<d.length),j<i->d[j]=0:=λj a o=>by
  grind
 refine aW (λc=>?_) λp=>ad.some ?_
 ·have c:i<d.length:=O
  have q:=bp c;refine ae (bl q) (ae (x:= !decide (d[i]=0)) rfl (fl (λh=>ad.some ?_) λB=>?_))
  ·have:ku d=aa i:=by
    unfold ku;rw[KQ];exact⟨c,by simp[h],λj a=>by simp[l j O a]⟩
   unfold p5;rw[this]
  rw[bc O];refine m _ ⟨i+1,O,O,λj a=>?_⟩ O
  grind
 have:ku d=none:=by
  unfold ku;rw[List.findIdx?_eq_none_iff];intro x r;obtain⟨j,a⟩:=jQ.1 r;obtain⟨k,rfl⟩:=bS.1 a;simp[l j k O]
 unfold p5;rw[this]
theorem ach(a:jB p)(c:p.parts[i]? =aa P):lU n p (i:Int)=aa ab:=by have hi:=(bS.1 c).1;rw[rV n a.2.1,bK O]
theorem ZK(a:Nat->Bool)(m:Nat):et a (m+1)=et a m++(if a m then [m] else []):=by
 unfold et;rw[pI,pL]
 grind
theorem Qe(l:List (List Int)): ∀m,m<=l.length->(et (lV l) m).map (λj=>l.getD j [])=hf (l.take m)
 |0,_=>rfl
 |m+1,h=>by
  have o:=Qe l m O;have c:m<l.length:=O
  have d:l.getD m []=l[m]:=by rw[eQ,bp c];rfl
  rw[ZK,eN,o];by_cases i:m=0
  ·subst i;have k:lV l 0=ab:=by simp[lV]
   rw[k,aR rfl,List.take_zero];show hf []++[l.getD 0 []]=_;rw[d,eO,bp c];rfl
  rw[XC O c];have k:l.getD (m-1) []=l[m-1]:=by rw[eQ,bp O];rfl
  have p:lV l m= !decide (l[m-1]=l[m]):=by
   unfold lV;rw[d,k];by_cases a:l[m-1]=l[m]
   ·simp[i,a]
   have n:l[m]≠l[m-1]:=λe=>a e.symm;simp[i,a,n]
  rw[p];by_cases a:l[m-1]=l[m]
  ·rw[aR a,bK a];simp
  rw[aP a,bJ a];show _++[l.getD m []]=_;rw[d]
theorem Zj(l:List (List Int)):hJ l=hf l:=by have:=Qe l l.length (cR _);rw[dW] at this;exact this
theorem YK(cY:20000<=n)(w:bG p=ab)(a:Int):DH n (gY p) a=aa ((mq p a).foldl jc []):=by
 have G:=(dZ w).2.2.2.2;unfold DH;refine ad.eq (ae (GR O w) ?_);rw[show(gY p).list=I p.parts from rfl];have q: ∀x∈I p.parts,da p x:=λx o=>fe o;have alB:=Hz (p:=p) G;have bb:=Rb (p:=p) (l:=I p.parts);unfold mq;generalize gM p (I p.parts) (I p.parts).length=e at*;generalize I p.parts=m at*;have H: ∀x∈m,x.bU.length<=4:=λx o=>(qz w (q x o)).choose_spec.2.2.2.1;refine ad.loop (λx:List (List Int)×Int=> ∃i:Nat,x.2=i/\i<=e.length/\x.1=(e.take i).filterMap (kl m a)) (λx=>e.length-x.2.toNat) ?_ n _ ⟨0,rfl,O,aX⟩ J;rintro L ⟨D,k⟩ ⟨i,E,hi,o⟩ P;dsimp only at E o⊢;subst E;have M:D.length<=i:=by
  grind
 refine aW (λr=>?_) λS=>?_
 ·have r:i<e.length:=O
  have N:=bp r;obtain⟨T,d2,d3⟩:=bb _ (gC r);have U:=s4 (l:=m) (c:=e[i].e3) T O;have V:=s4 (l:=m) (c:=e[i].e5) O O;have gI:=gC (O:e[i].e3.toNat<m.length);have Q:=gC (O:e[i].e5.toNat<m.length);have R:m[e[i].e3.toNat]? =aa m[e[i].e3.toNat]:=bp _;have W:m[e[i].e5.toNat]? =aa m[e[i].e5.toNat]:=bp _;obtain⟨UA,A,ajI,ajJ,ajK,X⟩:=qz w (q _ gI);obtain⟨F3,s,ajL,ajM,ajN,Z⟩:=qz w (q _ Q);have B:kl m a e[i]=if m[e[i].e3.toNat].part=a/\m[e[i].e5.toNat].part=a then aa (fZ m[e[i].e5.toNat].bU m[e[i].e3.toNat].bU) else none:=by
   unfold kl;rw[R,W]
  refine ad.aD (λz=>z.1=(e.take (i+1)).filterMap (kl m a)) (λj b=>ae (bl N) (ae U (ae V ?_))) λz f=>?_
  ·rw[LB N,<-o] at b;refine ad.aD (λz:Bool=>z= !decide (m[e[i].e3.toNat].part=a/\m[e[i].e5.toNat].part=a)) (λjJ C=>fl (λh=>C _ ?_) λh=>C _ ?_) λz f=>?_
   ·rw[bJ λh2=>h h2.1];rfl
   ·congr 1
    grind
   subst f;refine fl (λh=>b _ ?_) λh=>?_
   ·rw[B,aP h];simp
   have g:UA=F3:=by
    rw[h.1] at A;rw[h.2] at s;rw[A] at s;cases s;rfl
   subst g;refine ON (K:=λt=>bN (app D [t]) λu=>j (u,e[i].e3,e[i].e5,e[i].kinds,m[e[i].e3.toNat].part,m[e[i].e3.toNat].stmt,m[e[i].e3.toNat].bU,m[e[i].e5.toNat].part,m[e[i].e5.toNat].stmt,m[e[i].e5.toNat].bU)) O O O X Z ?_;refine ae (c' bQ) (b _ ?_)
   grind
  rw[bc O];exact P _ ⟨i+1,J,O,f⟩ J
 have:i=e.length:=O
 subst this;rw[dW] at o;subst o;have F: ∀y∈e.filterMap (kl m a),y.length<=4:=λy v=>by
  obtain⟨d,_,cD⟩:=List.mem_filterMap.1 v;exact adX H cD
 have aib:(fS (e.filterMap (kl m a))).length<=15000:=by unfold fS;rw[List.length_mergeSort];omega
 refine ae (x:=fS (e.filterMap (kl m a))) (by unfold nE;rw[aR ⟨O,λy v=>by have:=F y v;omega⟩]) (ad.some ?_);rw[Zj];exact adW _
def iQ(p:Prog)(i:Nat):List (List Int):=(mq p i).foldl jc []
theorem Zq(d:20000<=n)(a:jB p)(c:bG p=ab)(e:p.parts[i]? =aa P):Es n p (i:Int)=aa (iQ p i):=by unfold Es;refine ad.eq (ae (z6 O a) ?_);rw[aR c];refine bY (ad.aD (λz=>z=ak) (λj h=>b6 (ae (ach a e) (h _ rfl))) λz k=>?_);rw[k];exact b6 (ae (YK d c _) (ad.some rfl))
theorem Q':d∈iQ p i↔d∈mq p i:=by
 unfold iQ
 have:=(HZ (mq p i) [] .nil).2 d
 grind
theorem Ot: ∀(a l:List (List Int)),(a.foldl jc l).length<=l.length+a.length
 | [],l=>aX
 |d::a,l=>by
  rw[List.foldl_cons]
  have:=Ot a (jc l d)
  have:=PL l d;rw[List.length_cons];omega
theorem It(c:bG p=ab):(iQ p i).length<=15000:=by
 have a:=(dZ c).2.2.2.2;have d:=Hz (p:=p) a
 have:=Ot (mq p i) [];have e:(mq p i).length<=(gM p (I p.parts) (I p.parts).length).length:=by unfold mq;exact List.length_filterMap_le _ _
 unfold iQ
 grind
theorem uP(r:bG p=ab)(s:p.parts[i]? =aa P)(cD:d∈iQ p i):d.length=P.nest.length/\ ∀x∈d,cV 99999 x:=by
 have cD:=Q'.1 cD;unfold mq at cD;obtain⟨e,_,h⟩:=List.mem_filterMap.1 cD;unfold kl at h;split at h
 ·rename_i a b A B;split at h
  ·rename_i w;cases h;have m:da p a:=fe (bx A);have n:da p b:=fe (bx B);obtain⟨G,aN,a2,a3,a4,a5⟩:=qz r m;obtain⟨H,y,K,L,Q,C⟩:=qz r n;rw[w.1,cf,s] at aN;rw[w.2,cf,s] at y;cases aN;cases y;unfold fZ;refine⟨by rw[E5];omega,λx z=>?_⟩;obtain⟨u,v,F,o,rfl⟩: ∃u v,u∈b.bU/\v∈a.bU/\x=u-v:=by
    rw[jQ] at z;obtain⟨k,c⟩:=z;rw[List.getElem?_zipWith] at c;cases l:b.bU[k]? with
    |none=>rw[l] at c;cases c
    |some u=>
     cases q:a.bU[k]? with
     |none=>rw[l,q] at c;cases c
     |some v=>
      rw[l,q] at c;cases c;exact⟨u,v,bx l,bx q,rfl⟩
   have R:=C u F;have W:=a5 v o;unfold cV at*;omega
  cases h
 cases h
def gA(d:List Int):Bool:=match ku d with
 |some k=>decide (0<=d.getD k 0)
 |none=>ab
theorem Q0(h:ku d=aa k):k<d.length/\d.getD k 0≠0:=by
 unfold ku at h;rw[KQ] at h
 grind
theorem MT(R:20000<=n)(W:jB p)(A:bG p=ab)(B:p.parts[i]? =aa P){F:List Int->Option (List Int)}(G: ∀d∈iQ p i,F d=aa (f d))(H: ∀d,(f d).length=d.length):
  x1 n p (i:Int) F=aa ((iQ p i).all λd=>gA (f d)):=by
 unfold x1;refine ad.eq (ae (Zq R W A B) ?_);have s:=It A (i:=i);have w:=λd y=>(uP A B (d:=d) y).1;have X:=(gV ((dZ A).2.2.2.1 P (bx B))).1;generalize iQ p i=a at G s w;refine ad.loop (λx:List (List Int)×Int=> ∃k:Nat,x.2=k/\k<=a.length/\x.1.length=a.length/\(∀t,k<=t->x.1[t]? =a[t]?)/\ ∀d∈a.take k,gA (f d)=ab) (λx=>a.length-x.2.toNat) ?_ n _ ⟨0,rfl,O,rfl,λ_ _=>rfl,λd y=>by simp at y⟩ J;rintro o ⟨m,D⟩ ⟨k,K,Z,z,c,L⟩ b;dsimp only at K z c⊢;subst K;refine aW (λl=>?_) λg=>ad.some ?_
 ·have l:k<a.length:=O
  have j:m[k]? =aa a[k]:=by rw[c k (cR _),bp l]
  have hm:=gC l;have u:(f a[k]).length<=4:=by rw[H,w _ hm];exact X
  refine ae (bl j) (ae (G _ hm) (ae (pC (H _)) (ae (ZP O O) (ae (dU O _) ?_))));have e: ∀(C:gA (f a[k])=ak),a.all (λd=>gA (f d))=ak:=λC=>mZ.2 ⟨_,hm,by simp[C]⟩;have go:gA (f a[k])=ab->ad (o (m.set (k:Int).toNat (f a[k]),wr ((k:Int)+1))) (λr=>r=a.all λd=>gA (f d)):=λC=>by
   rw[bc O,cf];refine b _ ⟨k+1,J,O,by dsimp only;rw[e6];exact z,λt E=>?_,λd y=>?_⟩ J
   ·dsimp only
    grind
   rw[eO,bp l] at y
   grind
  unfold p5 gA at*;cases q:ku (f a[k]) with
  |none=>
   rw[q] at go e;exact aW (λh=>bB h (by show¬(0:Int)<= -1;omega)) (λ_=>go rfl)
  |some t=>
   rw[q] at go e;obtain⟨v,I⟩:=Q0 q;refine aW (λ_=>?_) λh=>bB (show(0:Int)<=(t:Int) by omega) h;have Q:=bp v;have M:(f a[k]).getD t 0=(f a[k])[t]:=by rw[eQ,Q];rfl
   refine ae (bl Q) (aW (λh=>ad.some ?_) λh=>go ?_)
   ·exact(e (bJ O)).symm
   exact bK O
 have:k=a.length:=O
 grind
theorem X6(s:d.length<=1000)(w:1000<n):EK n d=aa (p5 d):=by
 unfold EK;refine ad.eq (ad.loop (λx:Int=> ∃i:Nat,x=i/\i<=d.length/\ ∀j,j<i->d.getD j 0=0) (λx=>d.length-x.toNat) ?_ n _ ⟨0,rfl,O,λj a=>bB a (q6 _)⟩ O);rintro e z ⟨i,rfl,y,A⟩ m;have l: ∀j (a:j<d.length),j<i->d[j]=0:=λj a o=>by
  grind
 refine aW (λc=>?_) λp=>ad.some ?_
 ·have c:i<d.length:=O
  have q:=bp c;refine ae (bl q) (fl (λh=>ad.some ?_) λB=>?_)
  ·have:ku d=aa i:=by
    unfold ku;rw[KQ];exact⟨c,by simp[h],λj a=>by simp[l j O a]⟩
   unfold p5;rw[this]
  rw[bc O];refine m _ ⟨i+1,O,O,λj a=>?_⟩ O
  grind
 have:ku d=none:=by
  unfold ku;rw[List.findIdx?_eq_none_iff];intro x r;obtain⟨j,a⟩:=jQ.1 r;obtain⟨k,rfl⟩:=bS.1 a;simp[l j k O]
 unfold p5;rw[this]
theorem Ol(i:d.length<=1000)(k:1000<n):xE n d=aa (gA d):=by
 unfold xE;refine ad.eq (ae (X6 i k) (ad.aD (λz:Bool=>z=gA d) (λj c=>?_) λz l=>ad.some l));unfold p5 gA at*;cases a:ku d with
 |none=>
  rw[a] at c;exact aW (λ_=>c _ rfl) (λh=>bB (show(-1:Int)<0 by omega) h)
 |some t=>
  rw[a] at c;obtain⟨m,o⟩:=Q0 a;have e:=bp m;have p:d.getD t 0=d[t]:=by rw[eQ,e];rfl
  refine aW (λh=>bB h (show¬(t:Int)<0 by omega)) λ_=>ae (bl e) (c _ ?_);exact decide_eq_decide.2 ⟨λh=>O,λh=>O⟩
def k4(k:Nat)(a:az):az:=⟨(a.aT.set k (a.aT.getD (k+1) 0)).set (k+1) (a.aT.getD k 0),a.const⟩
def fw(k:Nat)(d:List Int):List Int:=(d.set k (d.getD (k+1) 0)).set (k+1) (d.getD k 0)
theorem Cv(k:Nat)(d:List Int):(fw k d).length=d.length:=by simp[fw]
theorem QQ: ∀x,cN x=ab->dD 4 (k4 k x):=λx a=>by have:=(fo a).1;unfold dD k4;simp;omega
theorem d8{l:List R}(h:k<l.length)(z:R):l[k]? =aa (l.getD k z):=by grind
theorem P6{h:Type}{l:List h}(a:k+1<l.length)(i:l.length<=1000000)(z:h){K:List h->Option R}(m:ad (K ((l.set k (l.getD (k+1) z)).set (k+1) (l.getD k z))) Q):
  ad (bN (ax l (wr ((k:Int)+1))) λd=>bN (ax l (k:Int)) λe=>bN (ca l (k:Int) d) λc=>bN (ax c (wr ((k:Int)+1))) λo=>bN (ca c (wr ((k:Int)+1)) e) K) Q:=by
 rw[bc (n:=(k:Int)+1) O,show(k:Int)+1=((k+1:Nat):Int) by omega];refine ae (bl (d8 a z)) (ae (bl (d8 O z)) (ae (dU O _) ?_));rw[cf];refine ae (bl (d8 (l:=l.set k (l.getD (k+1) z)) (k:=k+1) (by simpa using a) z)) (ae (dU (by rw[e6];omega) _) ?_)
 grind
theorem ack(a:k+1<d.length)(c:d.length<=1000):v7 n d (k:Int)=aa (fw k d):=by unfold v7;exact ad.eq (P6 a O 0 (ad.some rfl))
theorem acj(n:Nat)(c:k+1<4): ∀x,cN x=ab->vZ n x (k:Int)=aa (k4 k x):=λx a=>by have d:=(fo a).1;unfold vZ;refine ad.eq (ae (Bd n x a) (P6 O O 0 (ad.some rfl)))
theorem adg(n:Nat)(d:k+1<4): ∀x,cN x=ab->ko n x 0 (k:Int) ⟨[],0⟩=aa (k4 k x):=λx a=>by have e:=(fo a).1;unfold ko;refine ad.eq (aW (λ_=>ae (x:=k4 k x) ?_ (ad.some rfl)) λh=>bB rfl h);unfold Hi;have c:rD n x=aa x:=AN n O;rw[bc (n:=(k:Int)+1) O,show(k:Int)+1=((k+1:Nat):Int) by omega];refine ad.eq (ae c (ae (bl (d8 O 0)) (ae (bl (d8 O 0)) (ae (dU O _) (ae (bl (d8 O 0)) ?_)))));rw[cf];refine ae (bl (d8 (l:=x.aT.set k (x.aT.getD (k+1) 0)) (k:=k+1) bQ 0)) (ae (dU (by rw[e6];omega) _) ?_);rw[cf];exact ad.some rfl
def mw(k:Nat)(a:az):Bool:= !decide (a.aT.getD k 0=0)
def p2(l:Loop)(k:Nat):Bool:=l.lo.any (mw k)||l.hi.any (mw k)
theorem YG(p:5000<=n)(e:gW l)(q:k<4):Fu n l (k:Int)=aa (p2 l k):=by
 obtain⟨⟨r,i⟩,s,m⟩:=e;have c: ∀x,cN x=ab->rG n x (k:Int)=aa (mw k x):=λx a=>by
  have:=(fo a).1;unfold rG;exact ad.eq (ae (bl (d8 O 0)) (ad.some rfl))
 unfold Fu p2;refine ad.eq (ad.aD (λz=>z=(l.lo.any (mw k)||l.hi.any (mw k))) (λj d=>?_) λz o=>ad.some o);refine ae (zj (λx a=>c x (i x a)) O O) (ad.cond (λh=>d _ (by rw[h];rfl)) λh=>ae (zj (λx a=>c x (m x a)) O O) (d _ (by rw[h];rfl)))
theorem PI{k:Type}{f:k->Bool}{l:List k}{x:k}(h:l[i]? =aa x):(l.take (i+1)).any f=((l.take i).any f||f x):=by rw[eO,h,uH];simp
theorem X3(y:5000<=n)(q:gW l)(A:k<4):BB n l (k:Int)=aa (p2 l k):=by
 obtain⟨⟨B,r⟩,C,s⟩:=q;unfold BB p2;refine ad.eq (ad.loop (λx:Int=> ∃i:Nat,x=i/\i<=l.lo.length/\(l.lo.take i).any (mw k)=ak) (λx=>l.lo.length-x.toNat) ?_ n _ ⟨0,rfl,O,rfl⟩ O);rintro c z ⟨i,rfl,w,e⟩ m;refine aW (λa=>?_) λo=>?_
 ·have a:i<l.lo.length:=O
  have h:=bp a
  have:=(fo (r _ (gC a))).1;refine ae (bl h) (ae (bl (d8 O 0)) (fl (λd=>ad.some ?_) λp=>?_))
  ·rw[iX.2 ⟨_,gC a,by unfold mw;simpa using d⟩];rfl
  rw[bc O];exact m _ ⟨i+1,O,O,by rw[PI h,e];unfold mw;simpa using p⟩ O
 have:i=l.lo.length:=O
 subst this;rw[dW] at e;rw[e,Bool.false_or];clear m;refine ad.loop (λx:Int=> ∃i:Nat,x=i/\i<=l.hi.length/\(l.hi.take i).any (mw k)=ak) (λx=>l.hi.length-x.toNat) ?_ n _ ⟨0,rfl,O,rfl⟩ O;rintro c z ⟨i,rfl,w,e⟩ m;refine aW (λa=>?_) λo=>ad.some ?_
 ·have a:i<l.hi.length:=O
  have h:=bp a
  have:=(fo (s _ (gC a))).1;refine ae (bl h) (ae (bl (d8 O 0)) (fl (λd=>ad.some ?_) λp=>?_))
  ·rw[iX.2 ⟨_,gC a,by unfold mw;simpa using d⟩]
  rw[bc O];exact m _ ⟨i+1,O,O,by rw[PI h,e];unfold mw;simpa using p⟩ O
 have:i=l.hi.length:=O
 grind
def ig(k:Nat)(l:List Loop):List Loop:=(l.set k (l.getD (k+1) ⟨[],[]⟩)).set (k+1) (l.getD k ⟨[],[]⟩)
theorem xX(k:Nat)(l:List Loop):(ig k l).length=l.length:=by simp[ig]
def qX(k:Nat)(P:Part):Part:=⟨(ig k P.nest).take (k+2)++((ig k P.nest).drop (k+2)).map (c9 (k4 k)),P.body.map (gO (k4 k))⟩
def o4(p:Prog)(i k:Nat)(P:Part):Bool:= !p2 (P.nest.getD (k+1) ⟨[],[]⟩) k&&(iQ p i).all λd=>gA (fw k d)
def ml(p:Prog)(a c:Int):Prog×Bool:=
 if cO p a c=ab/\cO p a (c+1)=ab then
  match ax p.parts a with
  |some P=>if o4 p a.toNat c.toNat P=ab then hY ⟨p.aQ,p.parts.set a.toNat (qX c.toNat P)⟩ else eK
  |none=>eK
 else eK
theorem HR{l:List Loop}(c:k+1<l.length){y:Loop}(a:y∈ig k l):y∈l:=by
 unfold ig at a
 grind
theorem RI(c:d' r P=ab)(e:k+1<P.nest.length):gg 4 (qX k P):=by
 obtain⟨n,h⟩:=gV c;obtain⟨_,i,l,_⟩:=gy c;refine⟨⟨by simp only[qX,im,List.length_map,k',lP,xX];omega,λy a=>?_⟩,by simp only[qX,List.length_map];exact i.2,λs m=>?_⟩
 ·rcases eC.1 a with a|a
  ·exact(ve c).1.2 y (HR e (gP a))
  obtain⟨z,d,rfl⟩:=eA.1 a;exact x6 QQ (h z (HR e (fq d)))
 obtain⟨z,d,rfl⟩:=eA.1 m;exact CR QQ (l z d)
theorem HY(a:p.parts[i]? =aa P)(h:cO p (i:Int) ((k:Int)+1)=ab):k+1<P.nest.length:=by
 obtain⟨_,c,d,e,l,m,n,o,_,_,q,_⟩:=hZ h
 grind
theorem HN(a:cO p (i:Int) (k:Int)=ab)(c:cO p (i:Int) ((k:Int)+1)=ab)(d:p.parts[i]? =aa P):ml p i k=if o4 p i k P=ab then hY ⟨p.aQ,p.parts.set i (qX k P)⟩ else eK:=by
 unfold ml;rw[aR ⟨a,c⟩,bl d]
 grind
theorem aiL(L:20000<=n)(x:di 1000 p)(a c:Int):Ep n p a c=aa (ml p a c):=by
 unfold Ep;by_cases e:c= -1
 ·subst e;unfold ml;rw[aP λh=>by rw[se O] at h;cases h.1];exact ad.eq (cq (Bt O x a) λj Q=>ad.cond (λ_=>aW (λ_=>ad.some rfl) λh=>bB (show(-1:Int)<0 by omega) h) λ_=>ad.some rfl)
 refine ad.eq (ae (xU O x a c e) ?_);by_cases m:cO p a c=ab
 ·rw[aR m];refine bY (aW (λh=>by rw[se h] at m;cases m) λt=>?_);obtain⟨z,i,k,P,l,rfl,rfl,o,u,v,R,q,D⟩:=hZ m;obtain⟨Q,H⟩:=gV q;obtain⟨_,W,X,_⟩:=gy q;refine ae (bl o) ?_;rw[bc (n:=(k:Int)+1) O,bc (n:=(k:Int)+2) O];refine aW (λZ=>ad.some ?_) λb=>?_
  ·unfold ml;rw[aP λh=>by have:=HY o h.2;omega];rfl
  have r:k+1<P.nest.length:=O
  have A:cO p (i:Int) ((k:Int)+1)=ab:=by
   unfold cO;rw[z,bl o]
   grind
  rw[HN m A o];have K:=d8 r (⟨[],[]⟩:Loop);rw[show(k:Int)+1=((k+1:Nat):Int) by omega];refine ae (bl K) (ae (YG O (H _ (bx K)) O) (ad.cond (λB=>ad.some ?_) λB=>?_))
  ·rw[aP (by unfold o4;rw[B];simp)];rfl
  refine ae (MT L x.sm z o (F:=λC=>v7 n C (k:Int)) (f:=fw k) (λd w=>ack (by have:=(uP z o w).1;omega) (by have:=(uP z o w).1;omega)) (Cv k)) (ad.cond (λw=>?_) λw=>ad.some ?_)
  ·rw[aR (by unfold o4;rw[B,w];rfl)];refine ae (bl (d8 O (⟨[],[]⟩:Loop))) (ae (dU O _) (ae (dU (by rw[e6];omega) _) (ae (dU J _) ?_)));rw[cf,cf,cf];have G:=zo (n:=n) O (nest:=ig k P.nest) (body:=P.body) (s:=k+2) (by rw[xX];omega) (by rw[xX];omega) (λy g=>H y (HR r (fq g))) W.2 X (F:=λC=>vZ n C (k:Int)) (acj n O);rw[show(k:Int)+2=((k+2:Nat):Int) by omega];refine ae G (ae (dU bQ _) ?_);rw[cf,uK];exact ae (r1 O (yn x i (RI q r))) (ad.some rfl)
  rw[aP (by unfold o4;rw[w];simp)];rfl
 unfold ml;rw[aP m,aP λh=>m h.1];exact b6 (ad.some rfl)
theorem afO{l:List Loop}(a:k+1<l.length)(j:Nat):(ig k l)[j]? =if j=k then l[k+1]? else if j=k+1 then l[k]? else l[j]? :=by
 unfold ig
 grind
theorem P7{a b:List Loop}(c:k+1<a.length):ig k (a++b)=ig k a++b:=by
 have d:(a++b).getD (k+1) ⟨[],[]⟩=a.getD (k+1) ⟨[],[]⟩:=by rw[eQ,eQ,jq c]
 have e:(a++b).getD k ⟨[],[]⟩=a.getD k ⟨[],[]⟩:=by rw[eQ,eQ,jq O]
 unfold ig
 grind
theorem abH{l:List Loop}(c:k+1<l.length):ig k (l.take (k+2))=(ig k l).take (k+2):=by have h:=P7 (k:=k) (a:=l.take (k+2)) (b:=l.drop (k+2)) (by rw[cZ];omega);rw[mX] at h;rw[h,ss (by rw[xX,cZ];omega)];exact(ma (by rw[xX,cZ];omega)).symm
theorem Pd{l:List Loop}:(ig k l).drop (k+2)=l.drop (k+2):=by unfold ig;rw[q5 O,q5 O]
theorem afN(a:k+1<P.nest.length)(r:List Loop):ig k (P.nest.take (k+2)++r)=(ig k P.nest).take (k+2)++r:=by rw[P7 (by rw[cZ];omega),abH a]
theorem aj6(S:20000<=n)(r:di 1000 p)(a c:Int):Ek n p a c=aa (ml p a c):=by
 unfold Ek;by_cases G:cO p a c=ab;rotate_left
 ·unfold ml;rw[aP λh=>G h.1];refine ad.eq (ae (lE O r) (ad.aD (λz=>z=ab) (λj K=>ae (nM O r a c) (ad.cond (λ_=>K _ rfl) λh=>bB (by simpa using h) G)) λz L=>by rw[L];exact bY (ad.some rfl)))
 obtain⟨Z,i,k,P,l,rfl,rfl,Q,cI,T,U,B,hk⟩:=hZ G;obtain⟨V,I⟩:=gV B;obtain⟨_,h4,h5,_⟩:=gy B;rw[bc (n:=(k:Int)+1) O];by_cases o:cO p (i:Int) ((k:Int)+1)=ab;rotate_left
 ·unfold ml;rw[aP λh=>o h.2];refine ad.eq (ae (lE O r) (ad.aD (λz=>z=ab) (λj K=>ae (nM O r _ _) (ad.cond (λh=>by rw[G] at h;cases h) λ_=>ae (nM O r _ _) (ad.cond (λ_=>K _ rfl) λh=>bB (by simpa using h) o))) λz L=>by rw[L];exact bY (ad.some rfl)))
 rw[HN G o Q];have C:=HY Q o;have M:=d8 C (⟨[],[]⟩:Loop);refine ad.eq (ae (lE O r) (ad.aD (λz=>z=p2 (P.nest.getD (k+1) ⟨[],[]⟩) k) (λj K=>?_) λz L=>?_))
 ·refine ae (nM O r _ _) (ad.cond (λh=>by rw[G] at h;cases h) λ_=>ae (nM O r _ _) (ad.cond (λh=>by rw[o] at h;cases h) λ_=>ae (bl Q) ?_));rw[show(k:Int)+1=((k+1:Nat):Int) by omega];exact ae (bl M) (ae (X3 O (I _ (bx M)) O) (K _ rfl))
 subst L;refine ad.cond (λg=>ad.some ?_) λg=>?_
 ·rw[aP (by unfold o4;rw[g];simp)];rfl
 refine ae (x:=iQ p i) (Nc S r.sm Z _) ?_;have R:=It Z (i:=i);have W:=λd H=>(uP Z Q (d:=d) H).1;have t:o4 p i k P=(iQ p i).all (λd=>gA (fw k d)):=by unfold o4;rw[g];rfl
 rw[t];generalize iQ p i=e at R W;refine ad.loop (λx:Int=> ∃m:Nat,x=m/\m<=e.length/\ ∀d∈e.take m,gA (fw k d)=ab) (λx=>e.length-x.toNat) ?_ n _ ⟨0,rfl,O,λd H=>by simp at H⟩ O;rintro u z ⟨m,rfl,hm,q⟩ b8;refine aW (λF=>?_) λkr=>?_
 ·have F:m<e.length:=O
  have N:=bp F;have w:=gC F;have ot:=W _ w;rw[show(k:Int)+1=((k+1:Nat):Int) by omega];refine ae (bl N) (ae (c' bQ) (ae (bl (d8 O 0)) (ae (x:=e[m].getD k 0) (bl (d8 (l:=e[m]) O 0)) (ae (dU (by rw[uG];omega) _) (ae (bl (d8 O 0)) ?_)))));rw[uG,cf];refine ae (bl (d8 (l:=e[m].set k (e[m].getD (k+1) 0)) (k:=k+1) bQ 0)) (ae (dU (by rw[e6];omega) _) ?_);rw[cf];refine ae (x:=gA (fw k e[m])) (Ol (d:=fw k e[m]) (by rw[Cv];omega) O) (ad.cond (λh=>ad.some ?_) λh=>?_)
  ·rw[aP λX=>?_]
   ·rfl
   have:=gQ.1 X _ w;rw[this] at h;cases h
  rw[bc O];refine b8 _ ⟨m+1,O,O,λd H=>?_⟩ O;rw[eO,N] at H;rcases eC.1 H with D|D
  ·exact q d D
  have:d=e[m]:=by simpa using D
  subst this;simpa using h
 have:m=e.length:=O
 subst this;rw[dW] at q;rw[aR (gQ.2 q)];have E:=AD (n:=n) O (x:=P) (s:=k+1) O V I h4.2 h5 (way:=0) (v:=(k:Int)) (b:=⟨[],0⟩) (f:=k4 k) λn _ x hx=>adg n O x hx;rw[show(k:Int)+1=((k+1:Nat):Int) by omega];refine ae (bl Q) (ae E ?_);have rI:(P.nest.take (k+2)++(P.nest.drop (k+2)).map (c9 (k4 k))).length=P.nest.length:=by rw[ea,dJ,cZ,fM];omega
 have y:=afN C ((P.nest.drop (k+2)).map (c9 (k4 k)));rw[show k+1+1=k+2 by omega];dsimp only;generalize P.nest.take (k+2)++(P.nest.drop (k+2)).map (c9 (k4 k))=A at rI y;refine ae (bl (d8 O (⟨[],[]⟩:Loop))) (ae (bl (d8 O (⟨[],[]⟩:Loop))) (ae (dU O _) ?_));rw[cf];refine ae (bl (d8 (l:=A.set k (A.getD (k+1) ⟨[],[]⟩)) (k:=k+1) (by rw[e6];omega) (⟨[],[]⟩:Loop))) (ae (dU (by rw[e6];omega) _) ?_);rw[cf];have oq:(⟨(A.set k (A.getD (k+1) ⟨[],[]⟩)).set (k+1) (A.getD k ⟨[],[]⟩),P.body.map (gO (k4 k))⟩:Part)=qX k P:=by
  have:(A.set k (A.getD (k+1) ⟨[],[]⟩)).set (k+1) (A.getD k ⟨[],[]⟩)=ig k A:=rfl;rw[this,y,<-Pd];rfl
 rw[oq];exact ae (xY O r T ((RI B C).mono O)) (ad.some rfl)
def qF(x y:bO):Prop:=x.part<y.part\/x.part=y.part/\(cmpL x.bU y.bU<0\/x.bU=y.bU/\x.stmt<y.stmt)
theorem ab8{y:bO}(h:qF x y): ¬qF y x:=λa=>by
 have i:=qJ x.bU y.bU;have hs:=wY x.bU;rcases h with h|⟨e,h|⟨c,h⟩⟩<;>rcases a with g|⟨_,g|⟨d,g⟩⟩
 ·omega
 ·omega
 ·omega
 ·omega
 ·omega
 ·rw[d] at h;omega
 ·omega
 ·rw[<-c] at g;omega
 omega
theorem Qi: ∀p a b:List Int,cmpL (p++a) (p++b)=cmpL a b
 | [],_,_=>rfl
 |x::p,a,b=>by simp only[List.cons_append,cmpL];rw[aP O,aP O];exact Qi p a b
theorem Ho: ∀(ls:List Loop) (p:List Int) {x:List Int},x∈cW ls p-> ∃t,x=p++t/\t.length=ls.length
 | [],p,x,h=>⟨[],by simpa[cW] using h,rfl⟩
 |l::ls,p,x,h=>by simp only[cW] at h;obtain⟨v,_,h⟩:=hq.1 h;obtain⟨t,rfl,a⟩:=Ho ls _ h;exact⟨v::t,aX,by simp[a]⟩
theorem afT(c d:Int):(cL c d).Pairwise (λa b=>a<b):=by unfold cL;rw[List.pairwise_map];exact List.pairwise_lt_range.imp λh=>O
theorem Q4: ∀(ls:List Loop) (p:List Int),iK (cW ls p)
 | [],p=>List.pairwise_singleton _ _
 |l::ls,p=>by simp only[cW];refine E1.2 ⟨λv _=>Q4 ls _,(afT _ _).imp fun {v w} h x a y c=>?_⟩;obtain⟨s,rfl,_⟩:=Ho ls _ a;obtain⟨t,rfl,_⟩:=Ho ls _ c;rw[fN,fN,Qi];simp only[List.cons_append,cmpL];rw[aR h];omega
theorem S'(e:bG p=ab):(I p.parts).Pairwise qF:=by
 unfold I;refine E1.2 ⟨λy a=>?_,?_⟩
 ·obtain⟨P,i⟩:=y;have k:=w4.1 a;have d:=(dZ e).2.2.2.1 P (bx k);dsimp only;unfold ew;rw[l7 d];refine E1.2 ⟨λq _=>?_,(Q4 _ _).imp fun {q r} h x c y a=>?_⟩
  ·rw[List.pairwise_map];exact List.pairwise_lt_range.imp λh=> .inr ⟨rfl,.inr ⟨rfl,J⟩⟩
  obtain⟨_,_,rfl⟩:=eA.1 c;obtain⟨_,_,rfl⟩:=eA.1 a;exact .inr ⟨rfl,.inl h⟩
 rw[List.pairwise_iff_getElem];intro i j m n l x c y a;rw[List.getElem_zipIdx] at c a;unfold ew at c a;obtain⟨_,_,c⟩:=hq.1 c;obtain⟨_,_,rfl⟩:=eA.1 c;obtain⟨_,_,a⟩:=hq.1 a;obtain⟨_,_,rfl⟩:=eA.1 a;exact .inl J
theorem OU{p:Prog}(a:bG p=ab){c:bO}(i:da p c): ∀(S:List bO) (m:List Int),(∀s∈S,da p s/\od p c s)->fD p.aQ m->c4 p (eI p m c) S=eI p (c4 p m S) c
 | [],_,_,_=>rfl
 |s::S,m,h,d=>by have e:=h s eD;show c4 p (eI p (eI p m c) s) S=eI p (c4 p (eI p m s) S) c;rw[e.2 m d];exact OU a i S _ (λx k=>h x (eo _ k)) (sK a d e.1)
theorem OV{p:Prog}(n:bG p=ab): ∀(C B:List bO) (m:List Int),(∀x∈C,da p x)->C.Perm B->B.Pairwise qF->C.Pairwise (λa b=>qF a b\/od p a b)->fD p.aQ m->c4 p m C=c4 p m B
 | [],B,m,_,l,_,_,_=>by rw[l.symm.eq_nil]
 |c::C,B,m,r,l,w,o,y=>by
  obtain⟨S,T,rfl⟩:=List.append_of_mem (l.subset eD);have d:C.Perm (S++T):=(l.trans List.perm_middle).cons_inv;have e:=r c eD;have i:=λx G=>r x (eo c G);rw[nR] at o;rw[List.pairwise_append] at w;obtain⟨H,z,A⟩:=w;rw[nR] at z;have q:(S++T).Pairwise qF:=List.pairwise_append.2 ⟨H,z.2,λa K b L=>A a K b (eo c L)⟩;show c4 p (eI p m c) C=_;rw[OV n C (S++T) _ i d q o.2 (sK n y e)];have Q: ∀s∈S,da p s/\od p c s:=λs F=>by
   have k:=d.symm.subset (kd T F);refine⟨i s k,(o.1 s k).resolve_left λh=>ab8 h (A s F c eD)⟩
  rw[hG,hG,OU n e S m Q y];rfl
theorem O3: ∀a b:List Int,a.length=b.length->gA (fZ b a)= !decide (cmpL b a<0)
 | [],[],_=>rfl
 | [],_::_,h=>by simp at h
 |_::_,[],h=>by simp at h
 |x::a,y::b,h=>by
  have l:=O3 a b (by simpa using h);have e:fZ (y::b) (x::a)=(y-x)::fZ b a:=rfl;have d:cmpL (y::b) (x::a)=if y<x then-1 else if x<y then 1 else cmpL b a:=rfl
  rw[e,d];clear d;by_cases c:y=x
  ·subst c;rw[aP O,aP O,<-l,Int.sub_self];unfold gA ku;rw[List.findIdx?_cons];simp only[decide_true,Bool.not_true,Bool.false_eq_true,if_false];cases (fZ b a).findIdx? (λx=> !decide (x=0)) with
   |none=>rfl
   |some k=>rfl
  have m:ku ((y-x)::fZ b a)=aa 0:=by
   unfold ku;rw[List.findIdx?_cons,aR bQ]
  unfold gA;rw[m];dsimp only;rw[List.getD_cons_zero];by_cases i:y<x
  ·rw[aR i,bJ O,bK O];rfl
  rw[aP i,aR O,bK O,bJ O];rfl
def iy(i:Nat)(a:List Int->List Int)(x:bO):bO:=if x.part=(i:Int) then⟨x.part,x.stmt,a x.bU⟩ else x
theorem N1(i:Nat)(a:List Int->List Int)(x:bO):(iy i a x).part=x.part:=by unfold iy;split<;>rfl
theorem AB: ∀x:bO,x.part≠(i:Int)->iy i f x=x:=λx a=>by unfold iy;rw[aP a]
theorem Gy{k R:Type}{f g:k->List R}: ∀{l:List k},(∀x∈l,(f x).Perm (g x))->(l.flatMap f).Perm (l.flatMap g)
 | [],_=> .nil
 |x::l,h=>by rw[nS,nS];exact(h x eD).append (Gy λy a=>h y (eo x a))
theorem aiS{l:List Part}(d:l[i]? =aa P){G:bO->bO}(n:(ew i C).Perm ((ew i P).map G))(o: ∀x,x.part≠(i:Int)->G x=x):(I (l.set i C)).Perm ((I l).map G):=by
 unfold I;rw[jt];have e:(l.set i C).zipIdx=l.zipIdx.map (λy=>if y.2=i then(C,i) else y):=by
  refine zZ λj=>?_;rw[List.getElem?_zipIdx,eL,List.getElem?_zipIdx];by_cases k:i=j
  ·subst k;rw[gD (bS.1 d).1,d];simp
  rw[js k];cases l[j]? with
  |none=>rfl
  |some y=>
   have: ¬j=i:=λh=>k h.symm;simp[this]
 rw[e,pG];refine Gy λy p=>?_;obtain⟨x,j⟩:=y;have m:=w4.1 p;dsimp only at m⊢;by_cases a:j=i
 ·subst a;rw[d] at m;cases m;rw[aR rfl];exact n
 rw[aP a];refine .of_eq (l2 λz c=>o z ?_).symm;unfold ew at c;obtain⟨q,_,c⟩:=hq.1 c;obtain⟨t,_,rfl⟩:=eA.1 c;dsimp only;omega
theorem aiP{x:Part}(a:(dG x).Perm ((dG P).map f))(c:x.body.length=P.body.length):(ew i x).Perm ((ew i P).map (iy i f)):=by unfold ew;rw[c,jt];refine(a.flatMap_right _).trans (.of_eq ?_);rw[pG];refine kY λq _=>?_;rw[fv];refine l1 λt _=>?_;show _=iy i f _;unfold iy;rw[aR rfl]
structure AV (p q:Prog) (i:Nat) (pV:List Int->List Int):Prop where
 arr:q.aQ=p.aQ
 perm:(I q.parts).Perm ((I p.parts).map (iy i pV))
 cells: ∀x∈I p.parts,rc q (iy i pV x)=rc p x/\c3 q (iy i pV x)=c3 p x
 run: ∀x∈I p.parts,∀m,eI q m (iy i pV x)=eI p m x
theorem OL(A:bG p=ab)(o:p.parts[i]? =aa P)(B:C.body=P.body.map (gO F))(e: ∀q:List Int,q.length=P.nest.length-> ∀y,cN y=ab->cT (F y) (f q)=cT y q)(G:da p x):
  ∃s k d,ep p x=aa s/\ep ⟨p.aQ,p.parts.set i C⟩ (iy i f x)=aa k/\eT s d=ab/\
   (∀a,fY a d=ab->dS p.aQ (if x.part=(i:Int) then gH F a else a) (iy i f x).bU 0=dS p.aQ a x.bU 0)/\
   (k.write=if x.part=(i:Int) then gH F s.write else s.write)/\
   (dv 5 k.value=(dv 5 s.value).map λa=>if x.part=(i:Int) then gH F a else a)/\
   ∀m,er 5 p.aQ m k.value (iy i f x).bU=er 5 p.aQ m s.value x.bU:=by
 obtain⟨r,X,Q,s,d,H,K,w,L,n,l,R,Z⟩:=oA A G;have hi:=(bS.1 o).1;by_cases c:x.part=(i:Int)
 ·obtain rfl:r=i:=O
  rw[o] at w;cases w;have e:=e x.bU R.1;have h:iy r f x=⟨x.part,x.stmt,f x.bU⟩:=by unfold iy;rw[aR c]
  refine⟨s,gO F s,d,n,?_,l,λa z=>?_,?_,?_,λm=>?_⟩
  ·rw[h];unfold ep;dsimp only;rw[H,cf,gD hi];show(C.body[x.stmt.toNat]?)=_;rw[B,eL,K,cf,L];rfl
  ·rw[aR c,h];exact yl (λy W=>e y ((lO z).2.2 y W)) _ _
  ·rw[aR c];rfl
  ·simp only[if_pos c];exact CA (gl l).2.1
  rw[h];exact yq e _ m (gl l).2.1
 have h:iy i f x=x:=AB x c;refine⟨s,s,d,n,?_,l,λa z=>?_,?_,?_,λm=>?_⟩
 ·rw[h,<-n];unfold ep;dsimp only;rw[js O]
 ·rw[aP c,h]
 ·rw[aP c]
 ·simp only[if_neg c,List.map_id']
 rw[h]
theorem QZ(B:bG p=ab)(k:p.parts[i]? =aa P)(l:C.body=P.body.map (gO F))(c: ∀q:List Int,q.length=P.nest.length-> ∀y,cN y=ab->cT (F y) (f q)=cT y q)(e:(dG C).Perm ((dG P).map f)):AV p ⟨p.aQ,p.parts.set i C⟩ i f where
 arr:=rfl
 perm:=aiS k (aiP e (by rw[l,dJ])) AB
 cells x n:=by
  obtain⟨s,L,d,o,r,w,h,z,G,H⟩:=OL B k l c (fe n);obtain⟨A,_,K,_⟩:=gl w;unfold rc c3;rw[o,r];dsimp only;rw[z,G,fv,h _ A];exact⟨l1 λa Q=>h a (K a Q),rfl⟩
 run x n m:=by obtain⟨s,L,d,o,r,w,h,z,G,H⟩:=OL B k l c (fe n);obtain⟨A,_,K,_⟩:=gl w;unfold eI;rw[o,r];dsimp only;rw[z,h _ A,H m]
theorem NM{a b:bO}:mf p a b≠0↔o2 p a b:=by unfold mf o2;by_cases c:(c3 p a:Int)∈rc p b<;>by_cases d:(c3 p b:Int)∈rc p a<;>by_cases e:c3 p a=c3 p b<;>(first|rw[aR c]|rw[aP c])<;>(first|rw[aR d]|rw[aP d])<;>(first|rw[aR e]|rw[aP e])<;>simp[c,d,e]
theorem acR:d∈mq p i↔ ∃j k:Nat,∃a b:bO,j<k/\(I p.parts)[j]? =aa a/\(I p.parts)[k]? =aa b/\o2 p a b/\a.part=(i:Int)/\b.part=(i:Int)/\d=fZ b.bU a.bU:=by
 unfold mq;rw[List.mem_filterMap];constructor
 ·rintro⟨e,o,c⟩;obtain⟨j,k,h,q,m,rfl⟩:=xO.1 o;have l:=bp (O:j<(I p.parts).length);have bb:=bp q;rw[u2 l bb] at m;unfold kl at c;dsimp only at c;rw[cf,cf,l,bb] at c;dsimp only at c;split at c
  ·rename_i n;cases c;exact⟨j,k,_,_,h,l,bb,NM.1 m,n.1,n.2,rfl⟩
  cases c
 rintro⟨j,k,a,b,h,l,bb,r,s,w,rfl⟩;refine⟨_,xO.2 ⟨j,k,h,(bS.1 bb).1,?_,rfl⟩,?_⟩
 ·rw[u2 l bb];exact NM.2 r
 unfold kl;dsimp only;rw[cf,cf,l,bb];dsimp only;rw[aR ⟨s,w⟩]
theorem Rc(d:bG p=ab)(e:p.parts[i]? =aa P){a:bO}(k:a∈I p.parts)(h:a.part=(i:Int)):a.bU.length=P.nest.length/\ ∀y∈a.bU,cV 9999 y:=by obtain⟨Q,c,_,l,_,m⟩:=qz d (fe k);rw[h,cf,e] at c;cases c;exact⟨l,m⟩
structure Kept (p:Prog) (i:Nat) (P:Part) (pV f:List Int->List Int):Prop where
 pos:(iQ p i).all (λd=>gA (f d))=ab
 Jf: ∀a b:List Int,a.length=P.nest.length->b.length=P.nest.length->f (fZ b a)=fZ (pV b) (pV a)
 len: ∀a:List Int,a.length=P.nest.length->(pV a).length=P.nest.length
 inj: ∀a b:List Int,a.length=P.nest.length->b.length=P.nest.length->pV a=pV b->a=b
theorem ad9(o:bG p=ab)(s:p.parts[i]? =aa P)(l:Kept p i P H f):(I p.parts).Pairwise (λa b=>o2 p a b->qF (iy i H a) (iy i H b)):=by
 rw[List.pairwise_iff_getElem];intro j k w x m A;have hs:=List.pairwise_iff_getElem.1 (S' o) j k w x m;have y:=bp w;have bb:=bp x;generalize (I p.parts)[j]=a at*;generalize (I p.parts)[k]=b at*;unfold qF;rw[N1,N1];rcases hs with h|⟨h,hs⟩
 ·exact .inl h
 refine .inr ⟨h,?_⟩;by_cases n:a.part=(i:Int)
 ·have d:b.part=(i:Int):=O
  obtain⟨q,_⟩:=Rc o s (bx y) n;obtain⟨r,_⟩:=Rc o s (bx bb) d;have B:fZ b.bU a.bU∈iQ p i:=Q'.2 (acR.2 ⟨j,k,a,b,m,y,bb,A,n,d,rfl⟩);have c:=gQ.1 l.pos _ B;rw[l.Jf _ _ q r,O3 _ _ (by rw[l.len _ q,l.len _ r])] at c;have C: ¬cmpL (H b.bU) (H a.bU)<0:=by simpa using c
  have F:=qJ (H a.bU) (H b.bU);unfold iy;rw[aR n,aR d];dsimp only;by_cases z:cmpL (H a.bU) (H b.bU)=0
  ·have e:=l.inj _ _ q r (uD z);refine .inr ⟨uD z,?_⟩;rcases hs with hs|⟨_,hs⟩
   ·have:=wY b.bU;rw[e] at hs;omega
   exact hs
  exact .inl O
 rw[AB a n,AB b O];exact hs
theorem Tk{q:Prog}(s:bG p=ab)(e:bG q=ab)(w:p.parts[i]? =aa P)(c:AV p q i H)(y:Kept p i P H f): ∀m,fD p.aQ m->c4 q m (I q.parts)=c4 p m (I p.parts):=λm z=>by
 have A: ∀x∈I q.parts,da q x:=λx d=>fe d;have k: ∀x∈(I p.parts).map (iy i H),da q x:=λx d=>A x (c.perm.symm.subset d);have l:((I p.parts).map (iy i H)).Pairwise (λa b=>qF a b\/od q a b):=by
  rw[List.pairwise_map];refine(ad9 s w y).imp_of_mem fun {a b} n o h=>?_;by_cases r:o2 p a b
  ·exact .inl (h r)
  refine .inr (swap e (k _ (E3 n)) (k _ (E3 o)) λg=>r ?_);obtain⟨aN,a2⟩:=c.cells a n;obtain⟨B,C⟩:=c.cells b o;unfold o2 at g⊢
  rwa [aN,a2,B,C] at g
 rw[<-OV e _ _ m k c.perm.symm (S' e) l (by rw[c.arr];exact z)];unfold c4;rw[List.foldl_map];exact wI λx d m=>c.run x d m
def lh(k:Nat)(c:Int):az:=⟨[0,0,0,0].set k (-1),c⟩
def mr(k:Nat)(c:Int)(x:az):az:=td x k (lh k c)
def kg(k:Nat)(d:List Int):List Int:=d.set k (0-d.getD k 0)
def i'(l:Loop):Int:=cM l.lo+cM l.hi-1
def p6(k:Nat)(c:Int)(P:Part):Part:=⟨P.nest.take (k+1)++(P.nest.drop (k+1)).map (c9 (mr k c)),P.body.map (gO (mr k c))⟩
def p3(p:Prog)(i k:Nat)(l:Loop):Bool:=eG l&&(iQ p i).all λd=>gA (kg k d)
def nJ(p:Prog)(a c:Int):Prog×Bool:=
 if cO p a c=ab then
  match ax p.parts a with
  |some P=>match ax P.nest c with
   |some l=>if p3 p a.toNat c.toNat l=ab then hY ⟨p.aQ,p.parts.set a.toNat (p6 c.toNat (i' l) P)⟩ else eK
   |none=>eK
  |none=>eK
 else eK
theorem O0(k:Nat)(d:List Int):(kg k d).length=d.length:=by simp[kg]
theorem HT(h:cO p (i:Int) (k:Int)=ab)(a:p.parts[i]? =aa P)(c:P.nest[k]? =aa l):nJ p i k=if p3 p i k l=ab then hY ⟨p.aQ,p.parts.set i (p6 k (i' l) P)⟩ else eK:=by
 unfold nJ;rw[aR h,bl a];dsimp only;rw[bl c]
 grind
theorem PT(d:k<4)(a:cV 999 c):fQ 1000 (lh k c):=by unfold cV at a;rcases(O:k=0\/k=1\/k=2\/k=3) with rfl|rfl|rfl|rfl<;>(unfold fQ cV lh;simp;omega)
theorem PU(k:Nat)(c:Int): ∀x,cN x=ab->dD 4 (mr k c x):=λx a=>by have:=Rj ⟨x.aT.set k 0,x.const⟩ (lh k c) (x.aT.getD k 0) (by dsimp only;rw[e6];exact(fo a).1) (by simp[lh]);unfold dD mr td;omega
theorem vb{l:List az}(h: ∀x∈l,cN x=ab):cV 99 (cM l):=by
 unfold cM;cases l with
 |nil=>unfold cV;simp
 |cons x t=>exact(fo (h x eD)).2.1
theorem Ic(h:gW l):cV 999 (i' l):=by have a:=vb h.1.2;have c:=vb h.2.2;unfold cV at*;unfold i';omega
theorem aaE(n:Nat)(a:k<d.length)(c: ∀x∈d,cV 99999 x):vX n d (k:Int)=aa (kg k d):=by have e:=d8 a (0:Int);have bb:=c _ (bx e);unfold cV at bb;unfold vX;refine ad.eq (ae (bl e) ?_);rw[bc O];refine ae (dU O _) (ad.some ?_);rw[cf];rfl
theorem adT(n:Nat)(a:k<4):ow n (k:Int) (-1)=aa ⟨[0,0,0,0].set k (-1),0⟩:=by rcases(O:k=0\/k=1\/k=2\/k=3) with rfl|rfl|rfl|rfl<;>rfl
theorem aaD(d:5000<=n)(a:k<4)(e:cV 999 c): ∀x,cN x=ab->vW n x (k:Int) (lh k c)=aa (mr k c x):=λx h=>by unfold vW;rw[Gj d ((oQ h).mono O) (PT a e) a];rfl
theorem abl(a:k<4)(d:cV 999 c): ∀n,5000<=n-> ∀x,cN x=ab->ko n x 1 (k:Int) (lh k c)=aa (mr k c x):=λn e x h=>by unfold ko;rw[M' e ((oQ h).mono O) (PT a d) a];rfl
theorem afR(a:5000<=n)(d:k<4)(e:cV 999 c):jg n ⟨[0,0,0,0],c⟩ 1 (h8 k) (-1)=aa (lh k c):=by unfold cV at e;rw[uA a (by unfold fQ cV;simp;omega) ((sI d).mono O) ⟨O,O⟩ ⟨O,O⟩];rcases(O:k=0\/k=1\/k=2\/k=3) with rfl|rfl|rfl|rfl<;>simp[o3,h8,lh]
theorem Q3(d:d' r P=ab)(n:k<P.nest.length)(c:Int):gg 4 (p6 k c P):=by
 obtain⟨o,h⟩:=gV d;obtain⟨_,i,l,_⟩:=gy d;refine⟨⟨by simp only[p6,im,List.length_map,k',lP];omega,λy a=>?_⟩,by simp only[p6,List.length_map];exact i.2,λs m=>?_⟩
 ·rcases eC.1 a with a|a
  ·exact(ve d).1.2 y (gP a)
  obtain⟨z,e,rfl⟩:=eA.1 a;exact x6 (PU k c) (h z (fq e))
 obtain⟨z,e,rfl⟩:=eA.1 m;exact CR (PU k c) (l z e)
theorem aiF(b:20000<=n)(z:di 1000 p)(a c:Int):En n p a c=aa (nJ p a c):=by
 unfold En;by_cases m:c= -1
 ·subst m;unfold nJ;rw[aP λh=>by rw[se O] at h;cases h];exact ad.eq (cq (Bt O z a) λv W=>ad.cond (λ_=>aW (λ_=>ad.some rfl) λh=>bB (show(-1:Int)<0 by omega) h) λ_=>ad.some rfl)
 refine ad.eq (ae (xU O z a c m) ?_);by_cases o:cO p a c=ab
 ·rw[aR o];refine bY (aW (λh=>by rw[se h] at o;cases o) λD=>?_);obtain⟨A,i,k,P,l,rfl,rfl,w,B,E,C,q,X⟩:=hZ o;obtain⟨W,Z⟩:=gV q;obtain⟨_,g,j,_⟩:=gy q;have e:=Z l (bx B);rw[HT o w B];refine ae (bl w) (ae (bl B) (ae (Hs O e) ?_));cases G:eG l with
  |false=>exact b6 (ad.some (by rw[aP (by unfold p3;rw[G];simp)];rfl))
  |true=>
   refine bY (ae (MT b z.sm A w (F:=λH=>vX n H (k:Int)) (f:=kg k) (λd r=>aaE n (by have:=(uP A w r).1;omega) (uP A w r).2) (O0 k)) (ad.cond (λr=>?_) λr=>ad.some ?_))
   ·rw[show p3 p i k l=ab by unfold p3;rw[G,r];rfl];refine ae (adT n X) ?_;have bT:=Ic e;have K:=vb e.1.2;have L:=vb e.2.2;unfold cV at K L;have Q:(⟨([0,0,0,0]:List Int).set k (-1),wr ((wr (cM l.lo+cM l.hi))-1)⟩:az)=lh k (i' l):=by
     rw[bc (n:=cM l.lo+cM l.hi) O,bc O];rfl
    rw[bc (n:=(k:Int)+1) O];have R:=zo (n:=n) O (nest:=P.nest) (body:=P.body) (s:=k+1) O W (λy t=>Z y (fq t)) g.2 j (F:=λH=>vW n H (k:Int) (⟨([0,0,0,0]:List Int).set k (-1),wr ((wr (cM l.lo+cM l.hi))-1)⟩:az)) (f:=mr k (i' l)) λx u=>by rw[Q];exact aaD O X bT x u
    rw[show(k:Int)+1=((k+1:Nat):Int) by omega];refine ae R (ae (dU J _) ?_);rw[cf];exact ae (r1 O (yn z i (Q3 q C (i' l)))) (ad.some rfl)
   rw[aP (by unfold p3;rw[G,r];simp)];rfl
 unfold nJ;rw[aP o,aP o];exact b6 (ad.some rfl)
theorem aj0(M:20000<=n)(C:di 1000 p)(c e:Int):Ej n p c e=aa (nJ p c e):=by
 unfold Ej;refine ad.eq (ae (lE O C) (ae (nM O C c e) ?_));by_cases bb:cO p c e=ab;rotate_left
 ·unfold nJ;rw[aP bb,show cO p c e=ak by simpa using bb];exact bY (ad.some rfl)
 rw[bb];refine b6 ?_;obtain⟨G,i,k,P,l,rfl,rfl,H,K,N,L,q,Q⟩:=hZ bb;obtain⟨S,D⟩:=gV q;obtain⟨_,T,U,_⟩:=gy q;have o:=D l (bx K);rw[HT bb H K];refine ae (bl H) (ae (bl K) (ae (GD O o) (ae (x:=iQ p i) (Nc M C.sm G _) ?_)));have w:=It G (i:=i);have y:=λd V=>uP G H (d:=d) V;have R:p3 p i k l=(eG l&&(iQ p i).all λd=>gA (kg k d)):=rfl;rw[R];have h3:(if eG l=ab then(cM l.lo,cM l.hi,ab) else((0:Int),(0:Int),ak)).2.2=eG l:=by cases eG l<;>rfl
 generalize iQ p i=h at w y;refine ad.loop (λx:Bool×Int=> ∃m:Nat,x.2=m/\m<=h.length/\x.1=(eG l&&(h.take m).all λd=>gA (kg k d))) (λx=>h.length-x.2.toNat) ?_ n _ ⟨0,rfl,O,by dsimp only;rw[h3,List.take_zero];simp⟩ J;rintro W ⟨ok,z⟩ ⟨m,F,hm,a⟩ b8;dsimp only at F a⊢;subst F;refine aW (λr=>?_) λkr=>?_
 ·have r:m<h.length:=O
  have E:=bp r;obtain⟨g1,g2⟩:=y _ (gC r);have I:=d8 (l:=h[m]) (k:=k) O 0;have bb:=g2 _ (bx I);unfold cV at bb;refine ad.aD (λz=>z.2=(eG l&&(h.take (m+1)).all λd=>gA (kg k d))) (λj X=>?_) λz F=>?_
  ·refine ae (bl E) (ae (c' bQ) ?_);rw[uG];refine ae (bl I) ?_;rw[bc O];refine ae (dU O _) ?_;rw[cf];have A:(h.take (m+1)).all (λd=>gA (kg k d))=((h.take m).all (λd=>gA (kg k d))&&gA (kg k h[m])):=by
    rw[eO,E,List.all_append];simp
   rw[A,<-mW,<-a] at X;cases ok with
   |true=>exact bY (ae (x:=gA (kg k h[m])) (Ol (d:=kg k h[m]) (by rw[O0];omega) O) (X _ (by rw[gr])))
   |false=>exact b6 (X _ (by rw[Bool.false_and]))
  rw[bc O];exact b8 _ ⟨m+1,J,O,F⟩ J
 have:m=h.length:=O
 subst this;rw[dW] at a;rw[<-a];cases B:ok with
 |false=>exact bY (ad.some (by rw[aP aX];rfl))
 |true=>
  rw[aR rfl];have Z:eG l=ab:=by
   rw[B] at a;cases Z:eG l with
   |true=>rfl
   |false=>rw[Z] at a;cases a
  have g:=vb o.1.2;have t:=vb o.2.2;unfold cV at g t;have u:wr ((wr ((if eG l=ab then(cM l.lo,cM l.hi,ab) else((0:Int),(0:Int),ak)).1+(if eG l=ab then(cM l.lo,cM l.hi,ab) else((0:Int),(0:Int),ak)).2.1))-1)=i' l:=by
   rw[aR Z];dsimp only;rw[bc (n:=cM l.lo+cM l.hi) O,bc O];rfl
  rw[u];refine b6 (ae (ir n _) (ae (BA n Q) (ae (afR O Q (Ic o)) (ae (AD (n:=n) O (x:=P) (s:=k) O S D T.2 U (way:=1) (v:=(k:Int)) (b:=lh k (i' l)) (f:=mr k (i' l)) (abl Q (Ic o))) ?_))));exact ae (xY O C N ((Q3 q L (i' l)).mono O)) (ad.some rfl)
theorem Ix{F:az->az}{f:List Int->List Int}{m:Nat}(c: ∀q:List Int,m<=q.length-> ∀y,cN y=ab->cT (F y) (f q)=cT y q)(a: ∀(q:List Int) (v:Int),m<=q.length->f (q++[v])=f q++[v]): ∀(ls:List Loop) (p:List Int),(∀l∈ls,gW l)->m<=p.length->cW (ls.map (c9 F)) (f p)=(cW ls p).map f
 | [],p,_,_=>rfl
 |l::ls,p,h,e=>by
  have cI:=h l eD;have i: ∀{as:List az},(∀x∈as,cN x=ab)->fi (as.map F) (f p)=fi as p:=λk=>by
   unfold fi;rw[fv];exact l1 λx d=>c p e x (k x d)
  have n:cP (c9 F l) (f p)=cP l p:=by unfold cP c9;rw[i cI.1.2]
  have o:dd (c9 F l) (f p)=dd l p:=by unfold dd c9;rw[i cI.2.2]
  simp only[gf,cW];rw[n,o,jt];refine kY λv _=>?_;rw[<-a p v e];exact Ix c a ls (p++[v]) (λx d=>h x (eo _ d)) bQ
theorem GH{A B:List Loop}{f:List Int->List Int}{k:Nat}(h: ∀p:List Int,p.length=k->(cW B p).Perm ((cW A p).map f)): ∀(os:List Loop) (p:List Int),p.length+os.length=k->(cW (os++B) p).Perm ((cW (os++A) p).map f)
 | [],p,a=>h p (by simpa using a)
 |o::os,p,a=>by simp only[List.cons_append,cW];rw[jt];exact Gy λv _=>GH h os (p++[v]) (by simp at a ⊢; omega)
theorem Pl{k R:Type}{f g:k->List R}: ∀l:List k,(l.flatMap f++l.flatMap g).Perm (l.flatMap λb=>f b++g b)
 | []=> .nil
 |x::l=>by simp only[List.flatMap_cons,List.append_assoc];refine List.Perm.append_left _ ?_;refine(List.perm_append_comm_assoc _ _ _).trans ?_;exact List.Perm.append_left _ (Pl l)
theorem Ou{k R h:Type}{F:k->R->List h}{B:List R}: ∀A:List k,(A.flatMap λa=>B.flatMap (F a)).Perm (B.flatMap λb=>A.flatMap λa=>F a b)
 | []=>by
  have:B.flatMap (λb=>([]:List k).flatMap λa=>F a b)=[]:=List.flatMap_eq_nil_iff.2 λ_ _=>rfl;rw[this];exact .nil
 |a::A=>by simp only[List.flatMap_cons];exact(List.Perm.append_left _ (Ou A)).trans (Pl B)
theorem Bf: ∀(b a:List Int) (k:Nat) (x y:Int),fZ (b.set k x) (a.set k y)=(fZ b a).set k (x-y)
 | [],a,k,x,y=>by simp[fZ]
 |b::c,[],k,x,y=>by simp[fZ]
 |b::c,a::as,0,x,y=>rfl
 |b::c,a::as,k+1,x,y=>by show(b-a)::fZ (c.set k x) (as.set k y)=(b-a)::(fZ c as).set k (x-y);rw[Bf c as k x y]
theorem B9: ∀(b a:List Int) (k:Nat),k<b.length->k<a.length->(fZ b a).getD k 0=b.getD k 0-a.getD k 0
 | [],a,k,h,_=>by simp at h
 |b::c,[],k,_,h=>by simp at h
 |b::c,a::as,0,_,_=>rfl
 |b::c,a::as,k+1,d,e=>B9 c as k (by simpa using d) (by simpa using e)
theorem Hw: ∀(cs p:List Int) (k:Nat) (v:Int),k<cs.length->dx (cs.set k v) p=dx cs p+(v-cs.getD k 0)*p.getD k 0
 | [],p,k,v,h=>by simp at h
 |c::cs,[],k,v,_=>by cases k<;>simp[dx]
 |c::cs,x::p,0,v,_=>by
  simp only[List.set_cons_zero,dx,List.getD_cons_zero];rw[Int.sub_mul];omega
 |c::cs,x::p,k+1,v,h=>by simp only[List.set_cons_succ,dx,List.getD_cons_succ];rw[Hw cs p k v (by simpa using h)];omega
theorem aaX: ∀p:List Int,dx [0,0,0,0] p=0:=λp=>yr rfl p
def iZ(k:Nat)(c:Int)(q:List Int):List Int:=q.set k (c-q.getD k 0)
theorem acw(k:Nat)(c:Int)(q:List Int):(iZ k c q).length=q.length:=by simp[iZ]
theorem K9{l:List Int}(h:k<l.length)(v:Int):(l.set k v).getD k 0=v:=by rw[eQ,gD h];rfl
theorem OZ(a:k<q.length):iZ k c (iZ k c q)=q:=by
 have e:c-(c-q.getD k 0)=q.getD k 0:=O
 unfold iZ;rw[K9 a,uK,e];exact Ty (d8 a 0)
theorem PS(d:k<4)(a:k<q.length)(e:cN y=ab):cT (mr k c y) (iZ k c q)=cT y q:=by
 have h:=(fo e).1;have i: ∀p:List Int,cT (lh k c) p=c-p.getD k 0:=λp=>by
  unfold cT lh;dsimp only;rw[Hw _ _ _ _ (by simpa using d),aaX]
  have:([0,0,0,0]:List Int).getD k 0=0:=by rcases(O:k=0\/k=1\/k=2\/k=3) with rfl|rfl|rfl|rfl<;>rfl
  rw[this];omega
 have l:cT (mr k c y) (iZ k c q)=cT ⟨y.aT.set k 0,y.const⟩ (iZ k c q)+y.aT.getD k 0*cT (lh k c) (iZ k c q):=by
  unfold mr td dY cT;dsimp only;rw[Ci _ _ _ _ (by rw[e6,h];simp[lh]),Int.mul_add];omega
 rw[l,i];unfold cT iZ;dsimp only;rw[K9 a,Hw _ _ _ _ O,Cj _ _ _ _ a,K9 a,show c-(c-q.getD k 0)=q.getD k 0 by omega,Int.zero_sub,Int.neg_mul,Int.mul_sub,Int.mul_sub];omega
theorem acx(q:List Int)(v:Int)(h:k+1<=q.length):iZ k c (q++[v])=iZ k c q++[v]:=by unfold iZ;rw[Bo O,E2 _ _ O]
theorem aex(h:q.length=k)(v:Int):iZ k c (q++[v])=q++[c-v]:=by subst h;unfold iZ;rw[GS,nQ _ _ (cR _),kC];rfl
theorem adi(a c:Int):((cL a c).map λv=>a+c-1-v).Perm (cL a c):=by
 have:(cL a c).map (λv=>a+c-1-v)=(cL a c).reverse:=by
  unfold cL;rw[fv];apply List.ext_getElem
  ·simp
  intro i d e;simp at d e⊢;omega
 rw[this];exact List.reverse_perm _
theorem afB(h:eG l=ab)(p:List Int):cP l p=cM l.lo/\dd l p=cM l.hi:=by
 unfold eG at h;simp only[b9,decide_eq_true_eq] at h;obtain⟨i,k,a,c⟩:=h;obtain⟨x,d⟩:=q9.1 i;obtain⟨y,e⟩:=q9.1 k;unfold ka at a c;rw[d] at a;rw[e] at c;have a:e8 x.aT=0:=by simpa using a
 have c:e8 y.aT=0:=by simpa using c
 unfold cP dd fi cM;rw[d,e];simp[iU,kZ,cT,yr a,yr c]
theorem aew(h:d' r P=ab)(c:P.nest[k]? =aa l)(n:eG l=ab)(a:d' r (p6 k (i' l) P)=ab):(dG (p6 k (i' l) P)).Perm ((dG P).map (iZ k (i' l))):=by
 obtain⟨B,o⟩:=gV h;have C:=(bS.1 c).1;rw[l7 a,l7 h];have e:P.nest=P.nest.take k++l::P.nest.drop (k+1):=by rw[<-hW c,mX]
 have s:(p6 k (i' l) P).nest=P.nest.take k++l::(P.nest.drop (k+1)).map (c9 (mr k (i' l))):=by
  show P.nest.take (k+1)++_=_;rw[eO,c,fN];rfl
 rw[s]
 conv=>rhs;rw[e]
 have i: ∀y∈P.nest.drop (k+1),gW y:=λy d=>o y (fq d);generalize P.nest.drop (k+1)=ls at i;refine GH (k:=k) (λp w=>?_) _ _ bQ;obtain⟨x,z⟩:=afB n p;simp only[cW];rw[x,z,jt];have A:(cL (cM l.lo) (cM l.hi)).flatMap (λv=>(cW ls (p++[v])).map (iZ k (i' l)))=((cL (cM l.lo) (cM l.hi)).map λv=>cM l.lo+cM l.hi-1-v).flatMap (λv=>cW (ls.map (c9 (mr k (i' l)))) (p++[v])):=by
  rw[pG];refine kY λv _=>?_;rw[<-Ix (m:=k+1) (λq a y d=>PS O O d) (λq v a=>acx q v a) ls _ i bQ,aex w];rfl
 rw[A];exact((adi _ _).flatMap_right _).symm
theorem acv(m:k<P.nest.length)(h:(iQ p i).all (λd=>gA (kg k d))=ab)(c:Int):Kept p i P (iZ k c) (kg k) where
 pos:=h
 Jf a b l bb:=by
  unfold kg iZ;rw[Bf,B9 _ _ _ O O];congr 1;omega
 len a l:=by rw[acw,l]
 inj a b l bb e:=by rw[<-OZ (c:=c) (O:k<a.length),e,OZ O]
theorem ajW{q:Prog}{a b:Int}(h:nJ p a b=(q,ab)):bG p=ab/\bG q=ab/\ ∃(i k:Nat) (P:Part) (l:Loop),a=i/\b=k/\p.parts[i]? =aa P/\P.nest[k]? =aa l/\cO p a b=ab/\eG l=ab/\q=⟨p.aQ,p.parts.set i (p6 k (i' l) P)⟩/\AV p q i (iZ k (i' l))/\Kept p i P (iZ k (i' l)) (kg k):=by
 by_cases e:cO p a b=ab
 ·obtain⟨s,i,k,P,l,rfl,rfl,m,n,x,o,r,z⟩:=hZ e;rw[HT e m n] at h;by_cases c:p3 p i k l=ab
  ·rw[aR c] at h;obtain⟨rfl,w⟩:=tt h;unfold p3 at c;rw[nT] at c;have d:=(dZ w).2.2.2.1 _ (bx (gD x));exact⟨s,w,i,k,P,l,rfl,rfl,m,n,e,c.1,rfl,QZ s m rfl (λq B y A=>PS z O A) (aew r n c.1 d),acv o c.2 _⟩
  rw[aP c] at h;cases h
 unfold nJ at h;rw[aP e] at h;cases h
theorem RH(a:k+1<q.length)(j:Nat):(fw k q)[j]? =if j=k then q[k+1]? else if j=k+1 then q[k]? else q[j]? :=by
 unfold fw;by_cases c:j=k+1
 ·subst c;rw[gD (by rw[e6];exact a),aP O,aR rfl];exact(d8 O _).symm
 rw[js O];by_cases d:j=k
 ·subst d;rw[gD O,aR rfl];exact(d8 a _).symm
 rw[js O,aP d,aP c]
theorem P8(d:k+1<q.length):fw k (fw k q)=q:=by
 apply zZ;intro j;have h:=RH d;rw[RH (by rw[Cv];exact d),h,h,h];by_cases a:j=k
 ·subst a;rw[aR rfl,aP O,aR rfl]
 by_cases c:j=k+1
 ·subst c;rw[aP O,aR rfl,aR rfl]
 rw[aP a,aP c,aP a,aP c]
theorem Ra: ∀(k:Nat) (cs q:List Int),k+1<cs.length->k+1<q.length->dx (fw k cs) (fw k q)=dx cs q
 |0,a::b::cs,x::y::q,_,_=>by
  show b*y+(a*x+dx cs q)=a*x+(b*y+dx cs q)
  omega
 |k+1,a::cs,x::q,c,d=>by
  show a*x+dx (fw k cs) (fw k q)=a*x+dx cs q;rw[Ra k cs q (by simpa using c) (by simpa using d)]
 |0,[],_,h,_=>by simp at h
 |0,[_],_,h,_=>by simp at h
 |0,_::_::_,[],_,h=>by simp at h
 |0,_::_::_,[_],_,h=>by simp at h
 |k+1,[],_,h,_=>by simp at h
 |k+1,_::_,[],_,h=>by simp at h
theorem RG(d:k+1<4)(a:k+1<q.length)(c:cN y=ab):cT (k4 k y) (fw k q)=cT y q:=by have e:=(fo c).1;show y.const+dx (fw k y.aT) (fw k q)=y.const+dx y.aT q;rw[Ra k _ _ O a]
theorem afM(q:List Int)(v:Int)(h:k+2<=q.length):fw k (q++[v])=fw k q++[v]:=by unfold fw;rw[Bo O,Bo O,E2 _ _ O,E2 _ _ (by rw[e6];omega)]
theorem QP: ∀(q:List Int) (a b:Int),fw q.length (q++[a]++[b])=q++[b]++[a]
 | [],a,b=>rfl
 |x::q,a,b=>by show x::fw q.length (q++[a]++[b])=x::(q++[b]++[a]);rw[QP q a b]
theorem L3{l:List az}{d:Nat}(h:fB l (d:Int)=ab): ∀x∈l,x.aT.getD d 0=0:=λx a=>by
 unfold fB fz at h;simp only[b9,hT,decide_eq_true_eq] at h;obtain⟨c,i⟩:=h.1 x a;have k:=(fo c).1;by_cases e:d<x.aT.length
 ·exact ua (d8 e 0) O
 rw[eQ,q' O];rfl
theorem BP{l:List az}(h: ∀x∈l,x.aT.getD q.length 0=0)(v:Int):fi l (q++[v])=fi l q:=by unfold fi;exact l1 λx a=>by unfold cT;rw[Hy _ _ _ (h x a)]
theorem af'(h:p2 l k=ak):(∀x∈l.lo,x.aT.getD k 0=0)/\ ∀x∈l.hi,x.aT.getD k 0=0:=by unfold p2 at h;rw[Bool.or_eq_false_iff,List.any_eq_false,List.any_eq_false] at h;exact⟨λx a=>by simpa[mw] using h.1 x a,λx a=>by simpa[mw] using h.2 x a⟩
theorem adQ(n:d' r P=ab)(x:k+1<P.nest.length)(C:p2 (P.nest.getD (k+1) ⟨[],[]⟩) k=ak)(l:d' r (qX k P)=ab):(dG (qX k P)).Perm ((dG P).map (fw k)):=by
 obtain⟨Z,o⟩:=gV n;have a:=d8 (O:k<P.nest.length) (⟨[],[]⟩:Loop);have i:=d8 x (⟨[],[]⟩:Loop);rw[l7 l,l7 n];have c:=(o7 (gy n).1).1.2 k _ a;have z:=o _ (bx a);have A:=o _ (bx i);have e:P.nest=P.nest.take k++P.nest.getD k ⟨[],[]⟩::P.nest.getD (k+1) ⟨[],[]⟩::P.nest.drop (k+2):=by
  rw[<-hW i,<-hW a,mX]
 have F:(qX k P).nest=P.nest.take k++P.nest.getD (k+1) ⟨[],[]⟩::P.nest.getD k ⟨[],[]⟩::(P.nest.drop (k+2)).map (c9 (k4 k)):=by
  show(ig k P.nest).take (k+2)++((ig k P.nest).drop (k+2)).map (c9 (k4 k))=_;have hs:=afO x;rw[Pd,eO,eO,hs,hs,aR rfl,aP O,aR rfl,a,i]
  have:(ig k P.nest).take k=P.nest.take k:=by
   unfold ig;rw[E4 O,E4 O]
  rw[this];simp
 rw[F]
 conv=>rhs;rw[e]
 obtain⟨G,H⟩:=af' C;have dc:=L3 c.1;have cS:=L3 c.2;have B: ∀y∈P.nest.drop (k+2),gW y:=λy s=>o y (fq s);generalize P.nest.drop (k+2)=ls at B;generalize P.nest.getD k ⟨[],[]⟩=d at*;generalize P.nest.getD (k+1) ⟨[],[]⟩=h at*;refine GH (k:=k) (λp K=>?_) _ _ bQ;subst K;simp only[cW];have L: ∀v,cP h (p++[v])=cP h p:=λv=>by unfold cP;rw[BP G]
 have Q: ∀v,dd h (p++[v])=dd h p:=λv=>by unfold dd;rw[BP H]
 have R: ∀v,cP d (p++[v])=cP d p:=λv=>by unfold cP;rw[BP dc]
 have W: ∀v,dd d (p++[v])=dd d p:=λv=>by unfold dd;rw[BP cS]
 simp only[L,Q,R,W];rw[jt];have X:(cL (cP d p) (dd d p)).flatMap (λv=>((cL (cP h p) (dd h p)).flatMap λw=>cW ls (p++[v]++[w])).map (fw p.length))=(cL (cP d p) (dd d p)).flatMap (λv=>(cL (cP h p) (dd h p)).flatMap λw=>cW (ls.map (c9 (k4 p.length))) (p++[w]++[v])):=by
  refine kY λv _=>?_;rw[jt];refine kY λw _=>?_;rw[<-Ix (m:=p.length+2) (λq l y s=>RG O O s) (λq v l=>afM q v l) ls _ B aX,QP]
 rw[X];exact(Ou _).symm
theorem abT(l:k+1<P.nest.length)(h:(iQ p i).all (λd=>gA (fw k d))=ab):Kept p i P (fw k) (fw k) where
 pos:=h
 Jf a b c bb:=by
  unfold fw;rw[Bf,Bf,B9 _ _ _ O O,B9 _ _ _ O O]
 len a c:=by rw[Cv,c]
 inj a b c bb e:=by rw[<-P8 (O:k+1<a.length),e,P8 O]
theorem akk{q:Prog}{a b:Int}(h:ml p a b=(q,ab)):bG p=ab/\bG q=ab/\ ∃(i k:Nat) (P:Part),a=i/\b=k/\p.parts[i]? =aa P/\AV p q i (fw k)/\Kept p i P (fw k) (fw k):=by
 by_cases d:cO p a b=ab/\cO p a (b+1)=ab
 ·obtain⟨r,i,k,P,l,rfl,rfl,o,A,w,x,e,B⟩:=hZ d.1;have m:=HY o d.2;rw[HN d.1 d.2 o] at h;by_cases c:o4 p i k P=ab
  ·rw[aR c] at h;obtain⟨rfl,s⟩:=tt h;have C:=(gV e).1;unfold o4 at c;rw[nT,Bool.not_eq_true'] at c;have n:=(dZ s).2.2.2.1 _ (bx (gD w));exact⟨r,s,i,k,P,rfl,rfl,o,QZ r o rfl (λq F y z=>RG O O z) (adQ e m c.1 n),abT m c.2⟩
  rw[aP c] at h;cases h
 unfold ml at h;rw[aP d] at h;cases h
end
section
def nr(k:Int):Int:=if k=3\/k=4\/k=5 then 3 else if k=1\/k=2\/k=7\/k=8 then 2 else if k=6\/k=9\/k=10 then 1 else 0
def sP(s:Step):Bool:=ag (1<=s.kind/\s.kind<=11)&&((ag (0<nr s.kind)||decide (s.part=0))&&((ag (1<nr s.kind)||decide (s.a=0))&&(ag (2<nr s.kind)||decide (s.b=0))))
theorem Ru(k:Int):0<=nr k/\nr k<=3:=by
 unfold nr
 grind
theorem MH(n:Nat)(k:Int):zJ n k=aa (nr k):=by
 unfold zJ nr;refine ad.eq (ad.aD (λz=>z=ag (k=3\/k=4\/k=5)) (λj a=>aW (λh=>a _ ?_) λh=>aW (λc=>a _ ?_) λc=>a _ ?_) λz d=>?_)
 ·rw[ij];simp only[decide_eq_true_eq];omega
 ·rw[ij];simp only[decide_eq_true_eq];omega
 ·rw[ij];simp only[decide_eq_true_eq];omega
 subst d;by_cases e:k=3\/k=4\/k=5
 ·rw[aR e,bK e];exact bY (ad.some rfl)
 rw[aP e,bJ e];refine b6 (ad.aD (λz=>z=ag (k=1\/k=2\/k=7\/k=8)) (λj a=>aW (λh=>a _ ?_) λh=>aW (λc=>a _ ?_) λc=>aW (λm=>a _ ?_) λm=>a _ ?_) λz d=>?_)
 ·rw[ij];simp only[decide_eq_true_eq];omega
 ·rw[ij];simp only[decide_eq_true_eq];omega
 ·rw[ij];simp only[decide_eq_true_eq];omega
 ·rw[ij];simp only[decide_eq_true_eq];omega
 subst d;by_cases i:k=1\/k=2\/k=7\/k=8
 ·rw[aR i,bK i];exact bY (ad.some rfl)
 rw[aP i,bJ i];refine b6 (ad.aD (λz=>z=ag (k=6\/k=9\/k=10)) (λj a=>aW (λh=>a _ ?_) λh=>aW (λc=>a _ ?_) λc=>a _ ?_) λz d=>?_)
 ·rw[ij];simp only[decide_eq_true_eq];omega
 ·rw[ij];simp only[decide_eq_true_eq];omega
 ·rw[ij];simp only[decide_eq_true_eq];omega
 subst d;by_cases l:k=6\/k=9\/k=10
 ·rw[aR l,bK l];exact bY (ad.some rfl)
 rw[aP l,bJ l];exact b6 (ad.some rfl)
theorem YI(n:Nat)(k:Int):BM n k=aa (if 1<=k/\k<=11 then nr k else-1):=by
 unfold BM nr;refine ad.eq (ad.aD (λz=>z=ag (k=1\/k=2\/k=7\/k=8)) (λj a=>aW (λh=>a _ ?_) λh=>aW (λc=>a _ ?_) λc=>aW (λm=>a _ ?_) λm=>a _ ?_) λz d=>?_)
 ·rw[ij];simp only[decide_eq_true_eq];omega
 ·rw[ij];simp only[decide_eq_true_eq];omega
 ·rw[ij];simp only[decide_eq_true_eq];omega
 ·rw[ij];simp only[decide_eq_true_eq];omega
 subst d;by_cases e:k=1\/k=2\/k=7\/k=8
 ·rw[bK e,aR O,aP O,aR e];exact bY (ad.some rfl)
 rw[bJ e];refine b6 (ad.aD (λz=>z=ag (k=3\/k=4\/k=5)) (λj a=>aW (λh=>a _ ?_) λh=>aW (λc=>a _ ?_) λc=>a _ ?_) λz d=>?_)
 ·rw[ij];simp only[decide_eq_true_eq];omega
 ·rw[ij];simp only[decide_eq_true_eq];omega
 ·rw[ij];simp only[decide_eq_true_eq];omega
 subst d;by_cases i:k=3\/k=4\/k=5
 ·rw[bK i,aR O,aR i];exact bY (ad.some rfl)
 rw[bJ i];refine b6 (ad.aD (λz=>z=ag (k=6\/k=9\/k=10)) (λj a=>aW (λh=>a _ ?_) λh=>aW (λc=>a _ ?_) λc=>a _ ?_) λz d=>?_)
 ·rw[ij];simp only[decide_eq_true_eq];omega
 ·rw[ij];simp only[decide_eq_true_eq];omega
 ·rw[ij];simp only[decide_eq_true_eq];omega
 subst d;by_cases l:k=6\/k=9\/k=10
 ·rw[bK l,aR O,aP i,aP e,aR l];exact bY (ad.some rfl)
 rw[bJ l];refine b6 (aW (λh=>ad.some ?_) λh=>ad.some ?_)
 ·rw[aR O,aP i,aP e,aP l]
 rw[aP O]
theorem YR(n:Nat)(s:Step):Ar n s=aa (sP s):=by
 unfold Ar sP;have d:=Ru s.kind;refine ad.eq (ae (MH n s.kind) ?_);generalize nr s.kind=f at*;refine ad.aD (λz=>z=(ag (1<=s.kind/\s.kind<=11)&&((ag (0<f)||decide (s.part=0))&&((ag (1<f)||decide (s.a=0))&&(ag (2<f)||decide (s.b=0)))))) (λj e=>?_) (λz c=>ad.some c)
 grind
variable {n:Nat}{p:Prog}{s:Step}{R:Prog×Bool}{l:List Step}
theorem ZR(i:10<=n)(s:Step):Bl n s=aa (sP s):=by
 unfold Bl sP;have k:=Ru s.kind;refine ad.eq (ae (YI n s.kind) ?_);generalize nr s.kind=f at*;refine ad.aD (λz=>z=(ag (1<=s.kind/\s.kind<=11)&&((ag (0<f)||decide (s.part=0))&&((ag (1<f)||decide (s.a=0))&&(ag (2<f)||decide (s.b=0)))))) (λj d=>?_) λz e=>ad.some e;by_cases c:1<=s.kind/\s.kind<=11
 ·rw[aR c];rw[bK c] at d⊢;refine aW (λ_=>ae (show FU n s=aa [s.part,s.a,s.b] from rfl) (ae (iR O bQ aX) (ae (zA (p:=λv=> !decide (v=0)) (λx _=>rfl) bQ bQ) (d _ ?_)))) λh=>bB h O;rw[show([s.part,s.a,s.b].length:Int).toNat=[s.part,s.a,s.b].length from rfl,dW];rcases(O:f=0\/f=1\/f=2\/f=3) with rfl|rfl|rfl|rfl
  ·simp[show(0:Int).toNat=0 from rfl]
  ·simp[show(1:Int).toNat=1 from rfl]
  ·simp[show(2:Int).toNat=2 from rfl]
  simp[show(3:Int).toNat=3 from rfl]
 rw[aP c]
 grind
noncomputable def nf(p:Prog)(s:Step):Prog×Bool:=
 if sP s=ab then
  (if s.kind=1 then ml p s.part s.a else if s.kind=2 then nJ p s.part s.a else if s.kind=3 then qU p s.part s.a s.b else if s.kind=4 then qT p s.part s.a s.b
   else if s.kind=5 then qW p s.part s.a s.b else if s.kind=6 then qh p s.part else if s.kind=7 then qc p s.part s.a else if s.kind=8 then qV p s.part s.a
   else if s.kind=9 then pE p s.part else if s.kind=10 then rq p s.part else rn p)
 else eK
def nl(s:Step):Prop:= -1<=s.part/\s.part<=9
theorem aaJ(c:20000<=n)(a:di 1000 p)(d:nl s):Fx n p s=aa (nf p s):=by
 unfold Fx nf;refine ad.eq (ae (ZR O s) ?_);cases e:sP s with
 |false=>exact bY (ad.some rfl)
 |true=>
  rw[aR rfl];refine b6 (aW (λh=>?_) λh=>?_)
  ·rw[aR h];exact ae (aiL c a _ _) (ad.some rfl)
  rw[aP h];refine aW (λh=>?_) λh=>?_
  ·rw[aR h];exact ae (aiF c a _ _) (ad.some rfl)
  rw[aP h];refine aW (λh=>?_) λh=>?_
  ·rw[aR h];exact ae (aiH O a _ _ _) (ad.some rfl)
  rw[aP h];refine aW (λh=>?_) λh=>?_
  ·rw[aR h];exact ae (aiG O a _ _ _) (ad.some rfl)
  rw[aP h];refine aW (λh=>?_) λh=>?_
  ·rw[aR h];exact ae (aiJ O a _ _ _) (ad.some rfl)
  rw[aP h];refine aW (λh=>?_) λh=>?_
  ·rw[aR h];exact ae (aiE c a d) (ad.some rfl)
  rw[aP h];refine aW (λh=>?_) λh=>?_
  ·rw[aR h];exact ae (aiD c a d) (ad.some rfl)
  rw[aP h];refine aW (λh=>?_) λh=>?_
  ·rw[aR h];exact ae (aiI c a _ _) (ad.some rfl)
  rw[aP h];refine aW (λh=>?_) λh=>?_
  ·rw[aR h];exact ae (aiK O a d) (ad.some rfl)
  rw[aP h];refine aW (λh=>?_) λh=>?_
  ·rw[aR h];exact ae (aaK O a d) (ad.some rfl)
  rw[aP h];exact ae (Vt O a) (ad.some rfl)
theorem On(c:20000<=n)(a:di 1000 p)(d:nl s):zK n p s=aa (nf p s):=by
 unfold zK nf;refine ad.eq (ae (lE O a) (ae (YR n s) ?_));cases e:sP s with
 |false=>exact bY (ad.some rfl)
 |true=>
  rw[aR rfl];refine b6 (aW (λh=>?_) λh=>?_)
  ·rw[aR h];exact ae (aj6 c a _ _) (ad.some rfl)
  rw[aP h];refine aW (λh=>?_) λh=>?_
  ·rw[aR h];exact ae (aj0 c a _ _) (ad.some rfl)
  rw[aP h];refine aW (λh=>?_) λh=>?_
  ·rw[aR h];exact ae (aj2 O a _ _ _) (ad.some rfl)
  rw[aP h];refine aW (λh=>?_) λh=>?_
  ·rw[aR h];exact ae (aj1 O a _ _ _) (ad.some rfl)
  rw[aP h];refine aW (λh=>?_) λh=>?_
  ·rw[aR h];exact ae (aj4 O a _ _ _) (ad.some rfl)
  rw[aP h];refine aW (λh=>?_) λh=>?_
  ·rw[aR h];exact ae (ajZ c a d) (ad.some rfl)
  rw[aP h];refine aW (λh=>?_) λh=>?_
  ·rw[aR h];exact ae (ajY c a d) (ad.some rfl)
  rw[aP h];refine aW (λh=>?_) λh=>?_
  ·rw[aR h];exact ae (aj3 c a _ _) (ad.some rfl)
  rw[aP h];refine aW (λh=>?_) λh=>?_
  ·rw[aR h];exact ae (aj5 O a d) (ad.some rfl)
  rw[aP h];refine aW (λh=>?_) λh=>?_
  ·rw[aR h];exact ae (aa4 O a d) (ad.some rfl)
  rw[aP h];exact ae (Vz O a) (ad.some rfl)
def nY(R:Prog×Bool):Prop:=(R.2=ab/\bG R.1=ab)\/R=eK
theorem gj:nY eK:= .inr rfl
theorem uq(q:Prog):nY (hY q):=by
 unfold hY;split
 ·rename_i h;exact .inl ⟨rfl,h⟩
 exact .inr rfl
theorem nY.Dm(h:nY R):di 1000 R.1:=by
 rcases h with h|h
 ·exact(lT h.2).mono O
 rw[h];exact ajE
theorem nY.v(h:nY R)(a:R.2=ab):bG R.1=ab:=by
 rcases h with h|h
 ·exact h.2
 rw[h] at a;cases a
theorem akp(h:nY R)(a:R.2=ak):R=eK:=by
 rcases h with h|h
 ·rw[a] at h;cases h.1
 exact h
theorem M1(p:Prog)(a c:Int)(g f:az->az):nY (qI p a c g f):=by
 unfold qI;split
 ·split
  ·exact uq _
  exact gj
 exact gj
theorem AX(p:Prog)(s:Step):nY (nf p s):=by
 unfold nf;split
 ·split
  ·unfold ml;split
   ·split
    ·split
     ·exact uq _
     exact gj
    exact gj
   exact gj
  split
  ·unfold nJ;split
   ·split
    ·split
     ·split
      ·exact uq _
      exact gj
     exact gj
    exact gj
   exact gj
  split
  ·unfold qU;split
   ·exact M1 _ _ _ _ _
   exact gj
  split
  ·unfold qT;split
   ·exact M1 _ _ _ _ _
   exact gj
  split
  ·unfold qW;split
   ·split
    ·split
     ·exact uq _
     exact gj
    exact gj
   exact gj
  split
  ·unfold qh;split
   ·split
    ·split
     ·exact uq _
     exact gj
    exact gj
   exact gj
  split
  ·unfold qc;split
   ·split
    ·split
     ·exact uq _
     exact gj
    exact gj
   exact gj
  split
  ·unfold qV;split
   ·split
    ·split
     ·exact uq _
     exact gj
    exact gj
   exact gj
  split
  ·by_cases h:j5 p s.part (s.part+1)=ab
   ·obtain⟨i,d,k,e,a,c,_⟩:=DI h;rw[e] at h⊢;rw[EE h a c];exact .inl ⟨rfl,KJ (tQ h).1 a c⟩
   unfold pE;rw[aP h];exact gj
  split
  ·unfold rq;split
   ·rename_i h;simp only[b9] at h;exact .inl ⟨rfl,Iu h.1 _⟩
   exact gj
  unfold rn;split
  ·rename_i h;exact .inl ⟨rfl,aeg h⟩
  exact gj
 exact gj
noncomputable def o5:List Step->Prog->Prog×Bool
 | [],q=>(q,ab)
 |s::l,q=>if(nf q s).2=ab then o5 l (nf q s).1 else eK
noncomputable def pW(p:Prog)(l:List Step):Prog×Bool:=if bG p=ab/\l.length<=12 then o5 l p else eK
theorem NS: ∀{l:List Step} {q:Prog},bG q=ab->nY (o5 l q)
 | [],q,h=> .inl ⟨rfl,h⟩
 |s::l,q,h=>by
  simp only[o5];split
  ·rename_i a;exact NS ((AX q s).v a)
  exact gj
theorem Y4(p:Prog)(l:List Step):nY (pW p l):=by
 unfold pW;split
 ·rename_i h;exact NS h.1
 exact gj
theorem Rr(K:20000<=n){f:Prog->Step->Option (Prog×Bool)}(A: ∀p s,di 1000 p->nl s->f p s=aa (nf p s))(L:l.length<=12)(B: ∀s∈l,nl s)(C:bG p=ab):
  bm (λc ((q,r,k):(List cg)×(List Part)×Int)=>
    bif ag (k<(l.length:Int)) then(
     bN (ax l k) λF=>
     bN (f (⟨q,r⟩:Prog) F) λe=>
     bif !e.2 then(
      aa ((⟨[],[]⟩:Prog),ak)
     ) else(
      c (e.1.aQ,e.1.parts,wr (k+1))
     )
    ) else(
     aa ((⟨q,r⟩:Prog),ab)
    )
   ) n (p.aQ,p.parts,0)=aa (o5 l p):=by
 refine ad.eq (ad.loop (λx:List cg×List Part×Int=> ∃j:Nat,x.2.2=j/\j<=l.length/\bG ⟨x.1,x.2.1⟩=ab/\o5 (l.drop j) ⟨x.1,x.2.1⟩=o5 l p) (λx=>l.length-x.2.2.toNat) ?_ n _ ⟨0,rfl,O,C,rfl⟩ J);rintro m ⟨a,w,z⟩ ⟨j,rfl,Q,y,d⟩ G;dsimp only at y d⊢;refine aW (λh=>?_) λH=>ad.some ?_
 ·have h:j<l.length:=O
  have i:=bp h;generalize l[j]=s at i;rw[hW i] at d;simp only[o5] at d;have bL:=AX ⟨a,w⟩ s;refine ae (bl i) (ae (A _ s ((lT y).mono O) (B s (bx i))) ?_);cases o:(nf ⟨a,w⟩ s).2 with
  |false=>
   rw[o,aP aX] at d;exact bY (ad.some d)
  |true=>
   rw[o,aR rfl] at d;rw[bc O];exact b6 (G _ ⟨j+1,J,O,bL.v o,d⟩ J)
 rw[show j=l.length by omega,oO] at d;exact d
theorem ZQ(d:20000<=n)(a:di 1000 p)(m:l.length<=1000)(c: ∀s∈l,nl s):ES n p l=aa (pW p l):=by
 unfold ES pW;refine ad.eq (ad.aD (λz=>z= !decide (bG p=ab/\l.length<=12)) (λj e=>ae (d5 O a.sm) (ad.cond (λh=>e _ ?_) λh=>e _ ?_)) λz i=>?_)
 ·rw[bJ λk=>by rw[k.1] at h;cases h];rfl
 ·have h:bG p=ab:=by simpa using h
  grind
 subst i;by_cases h:bG p=ab/\l.length<=12
 ·rw[aR h,bK h];exact b6 (ae (sa O h.1) (ad.of (Rr d (λp s a c=>aaJ d a c) h.2 c h.1) rfl))
 rw[aP h,bJ h];exact bY (ad.some rfl)
theorem YQ(d:20000<=n)(a:di 1000 p)(m:l.length<=1000)(c: ∀s∈l,nl s):EL n p l=aa (pW p l):=by
 unfold EL pW;refine ad.eq (ae (lE O a) (ad.aD (λz=>z= !decide (bG p=ab/\l.length<=12)) (λj e=>ae (kN O a.sm) (ad.cond (λh=>e _ ?_) λh=>e _ ?_)) λz i=>?_))
 ·rw[bJ λk=>by rw[k.1] at h;cases h];rfl
 ·have h:bG p=ab:=by simpa using h
  grind
 subst i;by_cases h:bG p=ab/\l.length<=12
 ·rw[aR h,bK h];exact b6 (ae (oi O a) (ad.of (Rr d (λp s a c=>On d a c) h.2 c h.1) rfl))
 rw[aP h,bJ h];exact bY (ad.some rfl)
end
variable {k:Int}{r:cJ}
theorem P'(i:c7 k r)(A:0<=k/\k<=1000000):ad (Aj N r) (λx=>nl x.1/\c7 (k+10) x.2):=by
 unfold Aj;refine cq (j6 N i O) λB ⟨_,_,l⟩=>cq (hN N l O aX) λh ⟨m,n⟩=>cq (hN N n O aX) λC ⟨_,o⟩=>cq (hN N o O aX) λF ⟨_,p⟩=>ae (MH N _) ?_;have q:0<=h.1/\h.1<=1:=by simp at m;omega
 refine ad.aD (λ_=>True) (λj a=>aW (λ_=>a _ trivial) λ_=>a _ trivial) λG _=>?_;refine ad.aD (λ_=>True) (λj a=>aW (λ_=>a _ trivial) λ_=>a _ trivial) λH _=>?_;refine ad.aD (λz=>0<=z/\z<=1) (λj a=>aW (λ_=>a _ ⟨O,O⟩) λ_=>a _ q) λs K=>?_;exact ad.aD (λz:List UInt8×Int×Int=>c7 (k+10) ⟨z.1,z.2.1⟩) (λj a=>cq (j6 N p O) λw ⟨_,_,c⟩=>aW (λ_=>cq (hN N c O aX) λy ⟨_,d⟩=>a _ (d.mono O)) λ_=>a _ (c.mono O)) λz e=>ad.some ⟨⟨J,J⟩,e⟩
theorem ad8(X:c7 k r)(hk:0<=k/\k<=400000){p:Prog}(Z:di 1000 p):ad (A6 N r p) (λx=>(∀s∈x.1,nl s)/\x.1.length<=8/\c7 (k+1000) x.2):=by
 have gz:N=100000:=rfl;unfold A6;refine cq (hN N X O aX) λK ⟨m1,f⟩=>?_;have L:0<=K.1/\K.1<=6:=by
  grind
 refine ad.loop (λz:List UInt8×Int×List cg×List Part×List Step×Int=>0<=z.2.2.2.2.2/\z.2.2.2.2.2<=6/\c7 (k+1+60*(6-z.2.2.2.2.2)) ⟨z.1,z.2.1⟩/\di 1000 ⟨z.2.2.1,z.2.2.2.1⟩/\(∀s∈z.2.2.2.2.1,nl s)/\(z.2.2.2.2.1.length:Int)<=6-z.2.2.2.2.2) (λz=>z.2.2.2.2.2.toNat) ?_ N _ ⟨L.1,L.2,f.mono J,Z,λs hs=>(by cases hs),by dsimp only;simp;omega⟩ J;rintro w ⟨b,q,aH,al5,out,c⟩ ⟨g,t,y,A,a,u⟩ B;dsimp only at g t y A a u⊢;refine aW (λv=>?_) λD=>?_
 ·refine ad.aD (λz:List UInt8×Int×List cg×List Part×List Step=>c7 (k+1+60*(6-c)+60) ⟨z.1,z.2.1⟩/\di 1000 ⟨z.2.2.1,z.2.2.2.1⟩/\(∀s∈z.2.2.2.2,nl s)/\(z.2.2.2.2.length:Int)<=6-c+1) (λE d=>?_) λz e=>?_
  ·refine ad.loop (λz:List UInt8×Int×Int=>0<=z.2.2/\z.2.2<=4/\c7 (k+1+60*(6-c)+12*z.2.2) ⟨z.1,z.2.1⟩) (λz=>(4-z.2.2).toNat) ?_ N _ ⟨J,J,y.mono J⟩ J;rintro o ⟨fP,ui,i⟩ ⟨I,M,C⟩ F;dsimp only at I M C⊢;refine aW (λP=>cq (P' C ⟨O,O⟩) λS ⟨l,m⟩=>ae (On O A l) (ad.cond (λh=>ae (c' bQ) (d _ ⟨m.mono O,(AX _ _).Dm,λs hs=>?_,?_⟩)) λh=>?_)) λP=>d _ ⟨C.mono O,A,a,J⟩
   ·rcases eC.1 hs with hs|hs
    ·exact a s hs
    rw[pK.1 hs];exact l
   ·dsimp only
    grind
   rw[bc O];exact F _ ⟨J,J,m.mono J⟩ J
  obtain⟨Ag,z2,z3,z4,z5⟩:=z;obtain⟨Q,R,W,T⟩:=e;dsimp only at Q R W T⊢;rw[bc O];exact B _ ⟨J,J,Q.mono J,R,W,J⟩ J
 refine ad.aD (λz:List UInt8×Int×List Step=>c7 (k+1000) ⟨z.1,z.2.1⟩/\(∀s∈z.2.2,nl s)/\z.2.2.length<=8) (λj d=>cq (j6 N y O) λU ⟨_,_,n⟩=>aW (λ_=>cq (P' n ⟨O,O⟩) λV ⟨G,H⟩=>ae (c' bQ) (d _ ⟨H.mono O,λs hs=>?_,?_⟩)) λ_=>d _ ⟨n.mono O,a,J⟩) λz e=>ad.some ⟨e.2.1,e.2.2,e.1⟩
 ·rcases eC.1 hs with hs|hs
  ·exact a s hs
  rw[pK.1 hs];exact G
 dsimp only
 grind
theorem XY(a:List UInt8):ad (DX N a) (λx=>di 1000 x.1/\(∀s∈x.2,nl s)/\x.2.length<=8):=by have m:N=100000:=rfl;unfold DX;exact cq (aeB a) λn d=>cq (ZJ d O) λo ⟨c,e⟩=>cq (ad8 e O (c.mono (O:10<=1000))) λp ⟨h,i,k⟩=>cq (aeF O k O c) λq ⟨l,_⟩=>ad.some ⟨l.mono (O:30<=1000),h,i⟩
end Go.Lift
