/- Tools. -/
import Derived.Test.YteifkndfpnkalacGreatQStepC
set_option maxRecDepth 100000
set_option linter.unusedVariables false
namespace Go.Lift
open Go
open Bool renaming true -> ab, false -> ak, and_eq_true -> b5
section
def ml(p q:Prog):Prop:=bt p=ab/\q.aV=p.aV/\ ∀m,fv p.aV m->c7 q m (I q.parts)=c7 p m (I p.parts)
variable {p q:Prog}{a b:Int}
theorem abR(h:bt p=ab):ml p p:=⟨h,rfl,λ_ _=>rfl⟩
theorem Zt{r:Prog}(h:ml p q)(g:ml q r):ml p r:=⟨h.1,g.2.1.trans h.2.1,λm a=>(g.2.2 m (by rw[h.2.1];exact a)).trans (h.2.2 m a)⟩
theorem acJ(h:lC p a b=(q,ab)):ml p q:=by obtain⟨c,e,i,k,P,rfl,rfl,l,d,m⟩:=ahS h;exact⟨c,d.arr,Q6 c e l d m⟩
theorem acK(h:mN p a b=(q,ab)):ml p q:=by obtain⟨c,m,i,k,P,l,rfl,rfl,n,r,s,w,e,d,o⟩:=ahA h;exact⟨c,d.arr,Q6 c m n d o⟩
theorem abS(h:ps p a=(q,ab)):ml p q:=by obtain⟨d,i,s,w,rfl,e,k,l,n,c,o⟩:=aey h;rw[c];exact⟨d,rfl,λm r=>aez d e k l n r⟩
theorem abP(h:oN p a=(q,ab)):ml p q:=by
 have c:jA p a (a+1)=ab:=by
  cases c:jA p a (a+1) with
  |true=>rfl
  |false=>
   unfold oN at h;rw[aY (by rw[c];simp)] at h;cases h
 obtain⟨i,o,r,rfl,e,k,s⟩:=BS c;obtain⟨l,_,_,d⟩:=sw c;rw[CX c e k] at h;cases h;exact⟨l,rfl,λm n=>ahG l e k d n⟩
theorem abg(h:ql p a=(q,ab)):ml p q:=by
 unfold ql at h;split at h
 ·rename_i d;cases h;simp only[b5] at d;obtain⟨e,c,k⟩:=d;have l:0<=a/\a<(p.parts.length:Int):=hB c;obtain⟨i,rfl⟩: ∃i:Nat,a=i:=⟨a.toNat,O⟩
  exact⟨e,rfl,λm _=>Z3 e (bo (O:i<p.parts.length)) k m⟩
 cases h
theorem abT(h:qo p=(q,ab)):ml p q:=by
 unfold qo at h;split at h
 ·rename_i a;cases h;exact⟨a,rfl,λm c=>XS a c⟩
 cases h
theorem abQ{s:Step}(h:fS p s=(q,ab)):ml p q:=by
 unfold fS at h;split at h
 ·split at h
  ·exact acJ h
  split at h
  ·exact acK h
  split at h
  ·exact abS h
  split at h
  ·exact abP h
  split at h
  ·exact abg h
  exact abT h
 cases h
theorem Oe: ∀{l:List Step} {p q:Prog},bt p=ab->mm l p=(q,ab)->ml p q
 | [],p,q,a,h=>by cases h;exact abR a
 |s::l,p,q,a,h=>by
  simp only[mm] at h;split at h
  ·rename_i c;exact Zt (abQ (q:=(fS p s).1) (by rw[<-c])) (Oe ((sM p s).v c) h)
  cases h
end
section
noncomputable def kt(p:Prog):List Step:=if bt p=ab then n0 p else []
theorem AR{p:Prog}: ∀x∈kt p,t' x:=by
 intro x a;unfold kt at a;split at a
 ·rename_i d;have e:=wk d;unfold n0 at a;simp only[List.mem_append,List.mem_singleton] at a;rcases a with ((a|a)|a)|rfl
  ·obtain⟨j,c,a⟩:=jF.1 a
   have:=p5.1 c;rcases eS.1 a with a|a
   ·obtain⟨k,_,rfl⟩:=eo.1 a;exact⟨⟨J,J⟩,aW⟩
   obtain⟨k,_,rfl⟩:=eo.1 a;exact⟨⟨J,J⟩,aW⟩
  ·obtain⟨j,c,a⟩:=jF.1 a
   have:=p5.1 c;simp only[List.mem_cons,List.not_mem_nil,or_false] at a;rcases a with rfl|rfl
   ·exact⟨⟨J,J⟩,aW⟩
   exact⟨⟨J,J⟩,aW⟩
  ·obtain⟨j,c,rfl⟩:=eo.1 a
   have:=p5.1 c;exact⟨⟨J,J⟩,aW⟩
  exact⟨⟨by decide,by decide⟩,aW⟩
 cases a
theorem M6{p:Prog}: ∀x∈kt p,dJ 1000 p:=by
 intro x a;unfold kt at a;split at a
 ·rename_i c;exact(kd c).mono (O:4<=1000)
 cases a
theorem Mb(p:Prog):(kt p).length<=100:=by
 unfold kt;split
 ·rename_i a;exact(aa1 a).1
 simp
noncomputable def mq(p:Prog)(a:Int)(c:Step×Bool×Int)(x:Step):Step×Bool×Int:=
 if(fS p x).2=ab/\eW (fS p x).1 a<c.2.2 then(x,ab,eW (fS p x).1 a) else c
noncomputable def ik(p:Prog)(a:Int)(l:List Step):Step×Bool×Int:=l.foldl (mq p a) (⟨0,0,0,0⟩,ak,eW p a)
variable {p:Prog}{a:Int}{l:List Step}{k n:Nat}
theorem EF{x:Step}:ik p a (l++[x])=mq p a (ik p a l) x:=by unfold ik;rw[List.foldl_append];rfl
def DL(p:Prog)(a:Int)(l:List Step)(r:Step×Bool×Int):Prop:=
 (r.2.1=ab->r.1∈l/\(fS p r.1).2=ab/\eW (fS p r.1).1 a=r.2.2/\r.2.2<eW p a)/\(r.2.1=ak->r.2.2=eW p a/\r.1=⟨0,0,0,0⟩)/\(∀x∈l,(fS p x).2=ab->r.2.2<=eW (fS p x).1 a)/\r.2.2<=eW p a
theorem abZ{c:Int}{r:Step×Bool×Int}(h:DL p c l r)(x:Step):DL p c (l++[x]) (mq p c r x):=by
 have m:=h.2.2.2;unfold mq;by_cases k:(fS p x).2=ab/\eW (fS p x).1 c<r.2.2
 ·rw[aX k];have n:=k.2;refine⟨λ_=>⟨k7 _ (nL.2 rfl),k.1,rfl,J⟩,λe=>(by cases e),λy d i=>?_,J⟩;rcases eS.1 d with d|d
  ·have:=h.2.2.1 y d i
   grind
  rw[nL.1 d];exact fM _
 rw[aY k];refine⟨λe=>?_,h.2.1,λy d i=>?_,m⟩
 ·obtain⟨a,b⟩:=h.1 e
  grind
 rcases eS.1 d with d|d
 ·exact h.2.2.1 y d i
 rw[nL.1 d] at i⊢
 grind
theorem Fo{a:Type}{l:List a}{x:a}(h:l[k]? =some x):l.take (k+1)=l.take k++[x]:=by rw[ej,h];rfl
theorem y4(p:Prog)(a:Int)(l:List Step): ∀k,k<=l.length->DL p a (l.take k) (ik p a (l.take k))
 |0,_=>⟨λe=>(by cases e),λ_=>⟨rfl,rfl⟩,λ_ c=>(by cases c),fM _⟩
 |k+1,d=>by rw[Fo (bo (O:k<l.length)),EF];exact abZ (y4 p a l k O) _
theorem Ou(p:Prog)(size:Int): -1<=eW p size:=by
 unfold eW
 grind
theorem YE(h:0<=eW p a):0<=a/\a<=40:=by
 unfold eW at h
 grind
theorem ZI{size:Int}(a:bt p=ab)(h:0<=size/\size<=40):0<=eW p size:=by unfold eW;rw[aX a,aX h];omega
theorem Md(h:eW p a<0)(l:List Step)(d:k<=l.length):(ik p a (l.take k)).1=⟨0,0,0,0⟩/\(ik p a (l.take k)).2.1=ak:=by
 have a7:=y4 p a l k d;cases c:(ik p a (l.take k)).2.1 with
 |false=>exact⟨(a7.2.1 c).2,rfl⟩
 |true=>
  obtain⟨_,_,e,i⟩:=a7.1 c
  have:=Ou (fS p (ik p a (l.take k)).1).1 a;omega
theorem Y8(h:0<=eW p a)(l:List Step)(d:k<=l.length):0<=(ik p a (l.take k)).2.2:=by
 have a7:=y4 p a l k d;cases c:(ik p a (l.take k)).2.1 with
 |false=>rw[(a7.2.1 c).1];exact h
 |true=>
  obtain⟨_,e,i,_⟩:=a7.1 c;rw[<-i];exact ZI ((sM p _).v e) (YE h)
noncomputable def hM(p:Prog)(a:Int):Step×Bool:=((ik p a (kt p)).1,(ik p a (kt p)).2.1&&decide (0<=(ik p a (kt p)).2.2))
theorem LO(B:20000<=n)(K:fP p)(o:Int):ve n p o=some (hM p o):=by
 unfold ve;refine ad.eq (ai (xF B K o) (ai (Sw O K) ?_));rw[show(if bt p=ab then n0 p else [])=kt p from rfl];unfold hM;have dV:= @AR p;have L:= @M6 p;have r:=Mb p;generalize kt p=l at dV L r⊢;refine ad.loop (λz:Int×Int×Int×Int×Bool×Int×Int=> ∃k:Nat,z.2.2.2.2.2.2=k/\k<=l.length/\((⟨z.1,z.2.1,z.2.2.1,z.2.2.2.1⟩:Step),z.2.2.2.2.1,z.2.2.2.2.2.1)=ik p o (l.take k)) (λz=>l.length-z.2.2.2.2.2.2.toNat) ?_ n _ ⟨0,rfl,O,rfl⟩ J;rintro C ⟨a,b,c,d,f,m,i⟩ ⟨k,Q,W,s⟩ R;dsimp only at Q s R⊢;subst Q;refine aU (λX=>?_) λZ=>?_
 ·obtain⟨x,w⟩: ∃x,l[k]? =some x:=⟨_,bo (O:k<l.length)⟩
  have F:=dV x (bJ w);have y:ik p o (l.take (k+1))=mq p o (ik p o (l.take k)) x:=by rw[Fo w,EF]
  rw[<-s] at y;refine ad.aE (λz=>((⟨z.1,z.2.1,z.2.2.1,z.2.2.2.1⟩:Step),z.2.2.2.2.2.2.2.2.2.2.1,z.2.2.2.2.2.2.2.2.2.2.2)=ik p o (l.take (k+1))) (λj q=>?_) λz A=>?_
  ·refine ai (bq w) (ai (E7 B (L x (bJ w)) F) (ad.cond (λG=>q _ ?_) λG=>ai (xF B (sM p x).PT.sm o) (aU (λH=>q _ ?_) λH=>q _ ?_)))
   ·rw[y];unfold mq;rw[aY λe=>by simp[e.1] at G]
   ·rw[y];unfold mq;rw[aX ⟨by simpa using G,H⟩]
   rw[y];unfold mq;rw[aY λe=>H e.2]
  obtain⟨v,D,E,I,M,N,P,S,T,g,t,u⟩:=z;dsimp only at A⊢;rw[bh O];exact R _ ⟨k+1,aW,O,A⟩ J
 rw[j2 O] at s;refine ad.aE (λz=>z=(f&&decide (0<=m))) (λj q=>ad.cond (λh=>q _ (by rw[h];rfl)) λh=>q _ (by rw[h];rfl)) λz A=>ad.some ?_;rw[A,<-s]
theorem Yy(K:20000<=n)(X:fP p)(o:Int):yp n p o=some (hM p o):=by
 unfold yp;refine ad.eq (ai (IF K X o) (ai (Su O X) ?_));rw[show(if bt p=ab then n0 p else [])=kt p from rfl];unfold hM;have dV:= @AR p;have Z:= @M6 p;have y:=Mb p;generalize kt p=l at dV Z y⊢;refine ad.loop (λz:Int×Int×Int×Int×Int×Bool×Int=> ∃k:Nat,z.2.2.2.2.2.2=k/\k<=l.length/\((⟨z.1,z.2.1,z.2.2.1,z.2.2.2.1⟩:Step),z.2.2.2.2.2.1,z.2.2.2.2.1)=ik p o (l.take k)) (λz=>l.length-z.2.2.2.2.2.2.toNat) ?_ n _ ⟨0,rfl,O,rfl⟩ J;rintro L ⟨a,b,c,d,m,f,i⟩ ⟨k,g,A,s⟩ t;dsimp only at g s t⊢;subst g;refine ad.aE (λz:Bool=>z=decide ((k:Int)<l.length/\0<=m)) (λj w=>aU (λh=>w _ (by simp[h])) λh=>w _ (by simp[h])) λz B=>?_;refine ad.cond (λC=>?_) λF=>?_
 ·rw[B] at C;have u:=(hB C).1;obtain⟨x,G⟩: ∃x,l[k]? =some x:=⟨_,bo (O:k<l.length)⟩
  have Q:=dV x (bJ G);have H:ik p o (l.take (k+1))=mq p o (ik p o (l.take k)) x:=by rw[Fo G,EF]
  rw[<-s] at H;refine ad.aE (λz=>((⟨z.1,z.2.1,z.2.2.1,z.2.2.2.1⟩:Step),z.2.2.2.2.2.2.2,z.2.2.2.2.2.2.1)=ik p o (l.take (k+1))) (λj w=>?_) λz B=>?_
  ·refine ai (bq G) (ai (L0 K (Z x (bJ G)) Q) (ad.cond (λq=>w _ ?_) λq=>ai (IF K (sM p x).PT.sm o) (aU (λr=>w _ ?_) λr=>w _ ?_)))
   ·rw[H];unfold mq;rw[aY λe=>by simp[e.1] at q]
   ·rw[H];unfold mq;rw[aX ⟨by simpa using q,r⟩]
   rw[H];unfold mq;rw[aY λe=>r e.2]
  obtain⟨D,E,I,M,N,P,S,T⟩:=z;dsimp only at B⊢;rw[bh O];exact t _ ⟨k+1,aW,O,B⟩ J
 rw[B] at F;have R:=of_decide_eq_false F;refine ad.some ?_;by_cases v:0<=eW p o
 ·have q:=Y8 v l A;rw[<-s] at q;have W:l.length<=k:=by
   have: ¬((k:Int)<l.length):=λe=>R ⟨e,q⟩;omega
  rw[j2 W] at s;rw[<-s];dsimp only at q⊢;rw[bW q,Bool.and_true]
 have q:=Md (O:eW p o<0) l A;have r:=Md (O:eW p o<0) l (cV _);rw[dF] at r;rw[<-s] at q;rw[r.1,r.2,Bool.false_and];exact Prod.ext q.1 q.2
end
section
noncomputable def kH(a:Int):Nat->Prog->List Step->Prog×List Step
 |0,q,l=>(q,l)
 |k+1,q,l=>if(hM q a).2=ab then kH a k (fS q (hM q a).1).1 (l++[(hM q a).1]) else(q,l)
noncomputable def qq(p:Prog)(a:Int):Prog×List Step×Bool:=if eW p a<0 then(⟨[],[]⟩,[],ak) else((kH a 12 p []).1,(kH a 12 p []).2,ab)
variable {p:Prog}{a:Int}{n:Nat}
theorem Ai(h:(hM p a).2=ab):(hM p a).1∈kt p/\(fS p (hM p a).1).2=ab:=by have c:=y4 p a (kt p) _ (cV _);rw[dF] at c;unfold hM at h⊢;simp only[b5] at h;exact⟨(c.1 h.1).1,(c.1 h.1).2.1⟩
theorem Oa(h:(hM p a).2=ab):bt (fS p (hM p a).1).1=ab:=(sM p _).v (Ai h).2
theorem Gz{size:Int}(h: ¬eW p size<0):bt p=ab:=by
 cases a:bt p with
 |true=>rfl
 |false=>exact bz (by unfold eW;rw[aY (by rw[a];simp)];omega) h
theorem On(g:20000<=n){R:Type}{Q:R->Prop}{c:Int}{best:Prog->Option (Step×Bool)}{step:Prog->Step->Option (Prog×Bool)}(G: ∀q,bt q=ab->best q=some (hM q c))(H: ∀q s,bt q=ab->t' s->step q s=some (fS q s))
  {K:List ca×List Part×List Step->Option R}  (L:bt p=ab) (F: ∀a b l,bt ⟨a,b⟩=ab->((⟨a,b⟩:Prog),l)=kH c 12 p []->ad (K (a,b,l)) Q):
  ad (bj (λd ((o,r,w):(List ca)×(List Part)×(List Step))=>
    bif decide ((w.length:Int)<12) then(
     Option.bind (best (⟨o,r⟩:Prog)) λx=>
     bif !x.2 then(
      K (o,r,w)
     ) else(
      Option.bind (step (⟨o,r⟩:Prog) x.1) λi=>
      Option.bind (app w [x.1]) λy=>
      d (i.1.aV,i.1.parts,y)
     )
    ) else(
     K (o,r,w)
    )
   ) n (p.aV,p.parts,[])) Q:=by
 refine ad.loop (λz:List ca×List Part×List Step=>z.2.2.length<=12/\bt ⟨z.1,z.2.1⟩=ab/\kH c (12-z.2.2.length) ⟨z.1,z.2.1⟩ z.2.2=kH c 12 p []) (λz=>12-z.2.2.length) ?_ n _ ⟨aW,L,rfl⟩ J;rintro A ⟨a,b,l⟩ ⟨W,m,e⟩ X;dsimp only at W m e⊢;refine aU (λB=>?_) λZ=>F a b l m ?_
 ·have B:l.length<12:=O
  obtain⟨k,f⟩: ∃k,12-l.length=k+1:=⟨12-l.length-1,O⟩
  rw[f] at e;simp only[kH] at e;refine ai (G _ m) (ad.cond (λh=>F a b l m ?_) λh=>?_)
  ·rw[aY (by simpa using h)] at e;exact e
  have C:(hM ⟨a,b⟩ c).2=ab:=by simpa using h
  rw[aX C] at e;refine ai (H _ _ m (AR _ (Ai C).1)) (ai (cU bZ) (X _ ⟨bZ,Oa C,?_⟩ bZ));dsimp only;rw[dp,nK,show 12-(l.length+1)=k by omega];exact e
 have:12-l.length=0:=O
 rw[this] at e;exact e
theorem aar(d:20000<=n)(m:fP p)(c:Int):B6 n p c=some (qq p c):=by
 unfold B6 qq;refine ad.eq (ai (xF d m c) (aU (λh=>ad.some (by rw[aX h])) λh=>?_));rw[aY h];have bR:=Gz h;refine ai (oE O bR) (ad.aE (λz=>bt ⟨z.1,z.2.1⟩=ab/\((⟨z.1,z.2.1⟩:Prog),z.2.2)=kH c 12 p []) (λj o=>?_) λz r=>?_)
 ·exact On d (best:=λq=>ve n q c) (step:=λq s=>qV n q s) (K:=j) (λq k=>LO d ((kd k).mono (O:4<=1000)).sm c) (λq s k w=>E7 d ((kd k).mono O) w) bR λa b l e i=>o _ ⟨e,i⟩
 obtain⟨a,b,l⟩:=z;obtain⟨e,i⟩:=r;dsimp only at e i⊢;exact ai (oE O e) (ad.some (by rw[<-i]))
theorem ZX(d:20000<=n)(i:fP p)(k:mr n p=some p)(c:Int):B4 n p c=some (qq p c):=by unfold B4 qq;refine ad.eq (ai k (ai (IF d i c) (aU (λh=>ad.some (by rw[aX h])) λh=>?_)));rw[aY h];have bR:=Gz h;refine ai (f9 O ((kd bR).mono O)) ?_;exact On d (best:=λq=>yp n q c) (step:=λq s=>u0 n q s) (K:=λz=>some ((⟨z.1,z.2.1⟩:Prog),z.2.2,ab)) (λq e=>Yy d ((kd e).mono (O:4<=1000)).sm c) (λq s e m=>L0 d ((kd e).mono O) m) bR λa b l r o=>ad.some (by rw[<-o])
end
theorem acQ(a b:List Step)(F:a.length<=10000):ad (vl N a b) (λr=>r=ab↔a=b):=by
 unfold vl;refine eO (λh=>ad.some ⟨λe=>(by cases e),λe=>by subst e;exact bz rfl h⟩) λc=>?_;have c:a.length=b.length:=O
 refine ad.loop (λi:Int=>0<=i/\i<=a.length/\a.take i.toNat=b.take i.toNat) (λi:Int=>a.length-i.toNat) ?_ N 0 ⟨O,O,aW⟩ (by simp[N];omega);rintro m i ⟨s,G,n⟩ z;refine aU (λo=>?_) λA=>ad.some ⟨λ_=>?_,λ_=>rfl⟩
 ·obtain⟨x,B,k⟩:=gk s o;obtain⟨y,C,d⟩:=gk (l:=b) s O;refine ai B (ai C (eO (λp=>ad.some ⟨λe=>(by cases e),λe=>?_⟩) λw=>?_))
  ·subst e;rw[k] at d;cases d;exact bz rfl p
  have q:x=y:=by cases x;cases y;simp at w;simp[w]
  subst q;rw[bh O];refine z _ ⟨O,O,?_⟩ O;rw[show(i+1).toNat=i.toNat+1 by omega,ej,ej,k,d,n]
 rw[show i.toNat=a.length by omega,dF,c,dF] at n;exact n
theorem Mq(a:List Step)(c:a.length<=10000):vl N a a=some ab:=by obtain⟨r,e,h⟩:=acQ a a c;rw[e,h.2 rfl]
theorem Xj{p:Prog}{size:Int}(h:(hM p size).2=ab):eW (fS p (hM p size).1).1 size<eW p size:=by have a:=y4 p size (kt p) _ (cV _);rw[dF] at a;unfold hM at h⊢;simp only[b5] at h;obtain⟨_,_,c,d⟩:=a.1 h.1;dsimp only;omega
theorem MJ{size:Int}: ∀(k:Nat) {q:Prog} (l:List Step),bt q=ab-> ∃t,(kH size k q l).2=l++t/\t.length<=k/\(∀s∈t,t' s)/\mm t q=((kH size k q l).1,ab)/\eW (kH size k q l).1 size<=eW q size-(t.length:Int)/\((hM (kH size k q l).1 size).2=ak\/t.length=k)
 |0,q,l,h=>⟨[],(jn l).symm,cV _,λs hs=>(by cases hs),rfl,(by show eW q size<=eW q size-0;omega),.inr rfl⟩
 |k+1,q,l,h=>by
  simp only[kH];by_cases a:(hM q size).2=ab
  ·rw[aX a];obtain⟨t,d,m,e,i,n,c⟩:=MJ k (l++[(hM q size).1]) (Oa a);refine⟨(hM q size).1::t,?_,?_,λs hs=>?_,?_,?_,?_⟩
   ·rw[d,fr];rfl
   ·rw[nN];omega
   ·rcases ef.1 hs with rfl|hs
    ·exact AR _ (Ai a).1
    exact e s hs
   ·simp only[mm];rw[aX (Ai a).2];exact i
   ·have:=Xj a;rw[nN];omega
   rcases c with c|c
   ·exact .inl c
   exact .inr (by rw[nN,c])
  rw[aY a];exact⟨[],(jn l).symm,aW,λs hs=>(by cases hs),rfl,(by show eW q size<=eW q size-0;omega),.inl (by simpa using a)⟩
theorem abu(p:Prog)(a:Int):eW p a<=600:=by
 unfold eW;split
 ·split
  ·have c:=LD a.toNat ((lI p).take 600) [];have d:((lI p).take 600).length<=600:=by rw[dr];omega
   omega
  omega
 omega
theorem Sv(e i:List UInt8):Ie N e i=some ab:=by
 have g:N=100000:=rfl;refine ad.eq ?_;unfold Ie H8;refine acs λB=>cB (cB (WD e) λx H=>ad.some (Q:=λy:Prog×Int=>dJ 1000 y.1) H) λK m=>?_;obtain⟨p,a⟩:=K;dsimp only at m⊢;refine ai (aar O m.sm a) (ai (ZX O m.sm (oD O m) a) ?_);by_cases c:eW p a<0
 ·have C:qq p a=(⟨[],[]⟩,[],ak):=by unfold qq;rw[aX c]
  rw[C];have hs:=ME (n:=N) (p:=(⟨[],[]⟩:Prog)) O Q9;have d:=Mq [] aW;refine ad.aE (λz=>z=ab) (λj k=>?_) λz o=>?_
  ·rw[G7];exact cd (ai hs (cd (ai d (cd (k _ rfl)))))
  subst o;refine b' (ad.aE (λz=>z=ab) (λj k=>?_) λz o=>ad.some o);rw[G7];exact b' (ai hs (b' (ai d (k _ rfl))))
 have bR:=Gz c;obtain⟨t,L,R,W,r,X,w⟩:=MJ (size:=a) 12 [] bR;have C:qq p a=((kH a 12 p []).1,t,ab):=by unfold qq;rw[aY c,L];rfl
 rw[C];generalize (kH a 12 p []).1=q at*;obtain⟨_,Z,b⟩:=Oe bR r;have F:bt q=ab:=by
  have:=(L1 (l:=t) bR).v (by rw[r]);rw[r] at this;exact this
 have A:dJ 1000 q:=(kd F).mono O;have f:wW p t=(q,ab):=by unfold wW;rw[aX ⟨bR,R⟩,r]
 have hs:=ME (n:=N) O A;have d:=Mq t O;refine ad.aE (λz=>z=ak) (λj k=>?_) λz o=>?_
 ·rw[G7];exact cd (ai hs (cd (ai d (cd (k _ rfl)))))
 subst o;refine cd (ai (WJ (l:=t) O m O W) ?_);rw[f];refine ai (LO O A.sm a) (ad.aE (λz=>z=ab) (λj k=>?_) λz o=>ad.some o);refine b' (ai hs (b' (ai (aa5 m.sm A.sm bR F Z b (s:=(i.length:Int)) ⟨O,B⟩) (b' (ai (xF O A.sm a) (ai (xF O m.sm a) ?_))))));have di:=Ou p a;have cI:=abu p a;dsimp only;rw[bh O];refine aU (λ_=>ad.cond (λ_=>k _ rfl) λG=>k _ (bW ?_)) λh=>(h X).elim;rcases w with w|w
 ·rw[w] at G;cases G
 omega
end Go.Lift
