/- Tools. -/
import Derived.Test.YteifkndfpnkalaaGreatDLawDraw
set_option maxRecDepth 100000
set_option linter.unusedVariables false
namespace Go.Lift
open Go
open Option renaming some -> aa, bind -> bO
open Bool renaming true -> ab, false -> ak, and_eq_true -> b9
open Decidable renaming decide -> ag
open List renaming all_eq_true -> hS, replicate -> dA
open Nat renaming ble -> db
section
variable {n i q:Nat}{a x b:bN}{p:Prog}{m o:List Int}{k R:Type}{l:List bN}{c:Int}{f:k->R}
theorem XM(l:5000<=n){a:List Int}(h:a.length<=1000):xx n a a=aa ab:=by refine ad.eq ?_;unfold xx;refine fl (λh=>bB rfl h) λ_=>?_;refine ad.loop (λx:Int=>0<=x/\x<=a.length) (λx=>(a.length-x).toNat) ?_ n 0 ⟨O,O⟩ O;rintro c x ⟨i,m⟩ k;refine aW (λd=>?_) λ_=>ad.some rfl;obtain⟨y,e,_⟩:=gT i d;refine ae e (ae e (fl (λh=>bB rfl h) λ_=>?_));rw[bc O];exact k _ ⟨O,O⟩ O
def fH(k:Nat)(x:bN):bN:=⟨x.part+(k:Int),x.stmt,x.bU⟩
theorem aiC(k i:Nat)(x:Part):ew (k+i) x=(ew i x).map (fH k):=by
 unfold ew;rw[js];congr 1;funext q;rw[fv];congr 1;funext m;simp only[Function.comp,fH,Int.natCast_add]
 grind
theorem y3(a b:List Part):I (a++b)=I a++(I b).map (fH a.length):=by unfold I;rw[List.zipIdx_append,mb,js,dQ];congr 1;have e:b.zipIdx a.length=b.zipIdx.map (λy=>(y.1,a.length+y.2)):=List.zipIdx_eq_map_add;rw[e,pB];congr 1;funext y;exact aiC a.length y.2 y.1
theorem wH{R k:Type}{f g:k->R->k}: ∀{l:List R} {b:k},(∀x∈l,∀b,f b x=g b x)->l.foldl f b=l.foldl g b
 | [],_,_=>rfl
 |x::l,b,h=>by simp only[List.foldl_cons];rw[h x aX b];exact wH λy a=>h y (by simp[a])
theorem hF(p:Prog)(m:List Int)(a b:List bN):c4 p m (a++b)=c4 p (c4 p m a) b:=by unfold c4;rw[List.foldl_append]
theorem ael(h:bM p=ab)(a:fD p.aP m):p4 p m=ab:=by simp only[p4,b9,decide_eq_true_eq,hS];exact⟨h,a.1,a.2⟩
theorem PI(h:bM p=ab)(a:fD p.aP m):m.length<=1000:=by
 obtain⟨d,c,_⟩:=dZ h
 have:=PQ c
 have:=a.1;omega
def wa:List Loop->List Int->List Int->Bool
 | [],_,[]=>ab
 |l::ls,p,v::a=>decide (cP l p<=v/\v<dd l p)&&wa ls (p++[v]) a
 |_,_,_=>ak
theorem xY: ∀(ls:List Loop) (p q:List Int),q∈cW ls p↔ ∃a,q=p++a/\wa ls p a=ab
 | [],p,q=>by
  simp only[cW,List.mem_singleton];constructor
  ·rintro rfl;exact⟨[],aX,rfl⟩
  rintro⟨a,rfl,h⟩;cases a with
  |nil=>simp
  |cons=>simp[wa] at h
 |l::ls,p,q=>by
  simp only[cW,List.mem_flatMap,x1];constructor
  ·rintro⟨v,c,d⟩;obtain⟨a,rfl,h⟩:=(xY ls (p++[v]) q).1 d;exact⟨v::a,aX,by simp[wa,c,h]⟩
  rintro⟨a,rfl,h⟩;cases a with
  |nil=>simp[wa] at h
  |cons v a=>
   simp only[wa,b9,decide_eq_true_eq] at h;exact⟨v,h.1,(xY ls (p++[v]) _).2 ⟨a,aX,h.2⟩⟩
theorem gE{l:List k}{x:k}(h:l[i]? =aa x):l.take (i+1)=l.take i++[x]:=by rw[eN,h];rfl
def c3(p:Prog)(x:bN):Nat:=match ep p x with
 |some s=>(dS p.aP s.write x.bU 0).toNat
 |none=>0
def rc(p:Prog)(x:bN):List Int:=match ep p x with
 |some s=>(dv 5 s.value).map (λa=>dS p.aP a x.bU 0)
 |none=>[]
def uQ(p:Prog)(m:List Int)(x:bN):Int:=match ep p x with
 |some s=>er 5 p.aP m s.value x.bU
 |none=>0
theorem QA{list:List cn}(c:ks list){a:b0}{q:List Int}(h:0<=dS list a q 0):dS list a q 0<gK list:=by rcases Cj c a q 0 (gq 0) with bT|bT<;>omega
theorem ot(e:bM p=ab)(o:da p x):(c3 p x:Int)<gK p.aP/\(∀c∈rc p x,0<=c/\c<gK p.aP)/\(rc p x).length<=12/\ ∀m,eI p m x=m.set (c3 p x) (uQ p m x):=by obtain⟨i,k,P,s,d,F,G,H,K,q,r,L,w⟩:=ov e o;obtain⟨Q,h,R,y,z⟩:=dZ e;obtain⟨A,l⟩:=Ci w;obtain⟨W,X,Z,B⟩:=gj r;unfold c3 rc uQ eI;rw[q];dsimp only;refine⟨by have:=QA h A;omega,λc C=>?_,by rw[dJ];exact B,λm=>rfl⟩;obtain⟨a,n,rfl⟩:=eA.1 C;exact⟨l a n,QA h (l a n)⟩
theorem W3(v:7100<=n)(m:bM p=ab)(A:da p x):DR n p x=aa (rc p x,(c3 p x:Int)):=by
 obtain⟨i,k,P,s,d,B,C,F,G,o,H,q,K⟩:=ov m A;obtain⟨r,w,D,L,Q⟩:=dZ m;obtain⟨E,I⟩:=Ci K;obtain⟨W,X,Z,M⟩:=gj H;obtain⟨n,rfl⟩: ∃j,n=j+1:=⟨n-1,O⟩
 have h:tN (n+1) p x=aa s:=by
  unfold tN;rw[B,C,bl F];show bO (ax P.body (k:Int)) _=_;rw[bl G];rfl
 have b:(c3 p x:Int)=dS p.aP s.write x.bU 0:=by unfold c3;rw[o];dsimp only;omega
 have f:rc p x=(dv 5 s.value).map (λa=>dS p.aP a x.bU 0):=by unfold rc;rw[o]
 rw[b,f];refine ad.eq ?_;unfold DR;refine ae h (ae (Ge (d:=d) 5 n s.value O O X) ?_);generalize N:dv 5 s.value=R at*;refine ad.loop (λz:List Int×Int=> ∃i:Nat,z.2=i/\i<=R.length/\z.1=(R.take i).map λa=>dS p.aP a x.bU 0) (λz=>R.length-z.2.toNat) ?_ (n+1) _ ⟨0,rfl,O,aX⟩ J;rintro l ⟨out,z⟩ ⟨i,y,S,c⟩ g;dsimp only at y c⊢;subst y;refine aW (λt=>?_) λu=>?_
 ·have bK:=bp (O:i<R.length);refine ae (bl bK) (ae (wY O r w (Z _ (bx bK)) q) (ae (c' (by rw[c,dJ,cZ,su];omega)) ?_));rw[bc O];refine g _ ⟨i+1,J,O,?_⟩ J;dsimp only;rw[gE bK,eM,c];rfl
 have e:i=R.length:=O
 refine ae (wY O r w W q) (ad.some ?_);rw[c,e,dW]
theorem Z1(H:7100<=n)(c:bM p=ab)(l:da p x): ∃P s,ax p.parts x.part=aa P/\ax P.body x.stmt=aa s/\wT n p.aP s x.bU=aa (rc p x,(c3 p x:Int),ab):=by
 obtain⟨i,k,P,s,d,m,o,q,r,e,w,y,h⟩:=ov c l;obtain⟨z,A,K,B,C⟩:=dZ c;obtain⟨L,Q⟩:=Ci h;have F:(c3 p x:Int)=dS p.aP s.write x.bU 0:=by unfold c3;rw[e];dsimp only;omega
 have G:rc p x=(dv 5 s.value).map (λa=>dS p.aP a x.bU 0):=by unfold rc;rw[e]
 refine⟨P,s,by rw[m];exact bl q,by rw[o];exact bl r,?_⟩;rw[L0 O z A w y,aR h,F,G]
theorem NB{r:List cn}{m l:List Int}{q:List Int}{d:Int}: ∀{L:Nat} {e:Expr},dp L e d=ab->(∀a∈dv L e,m.getD (dS r a q 0).toNat 0=l.getD (dS r a q 0).toNat 0)->er L r m e q=er L r l e q
 |0,e,h,_=>by cases h
 |L+1,e,h,n=>by
  obtain⟨w,x,p⟩:=gi h;simp only[er];split
  ·rfl
  split
  ·rfl
  split
  ·rename_i ey;exact n _ (by simp[dv,ey])
  have i: ∀c∈e.bj,er L r m c q=er L r l c q:=λc o=>
   NB (p c o) λa s=>n a (by simp only[dv,List.mem_append,List.mem_flatMap];exact .inr ⟨c,o,s⟩)
  split
  ·rename_i a b k;rw[k] at i;rw[i a aX,i b aX]
  rfl
theorem Qb(e:bM p=ab)(l:da p x){m':List Int}(h: ∀c∈rc p x,m.getD c.toNat 0=m'.getD c.toNat 0):uQ p m x=uQ p m' x:=by obtain⟨i,k,P,s,d,r,w,y,z,n,o,A,B⟩:=ov e l;unfold uQ;unfold rc at h;rw[n] at h⊢;exact NB (gj o).2.1 λa q=>h _ (EW q)
theorem uN(l:List k)(i j:Nat)(x d:k):(l.set i x).getD j d=if i=j/\i<l.length then x else l.getD j d:=by
 rw[eP,eP,List.getElem?_set];split
 ·rename_i h;subst h;split
  ·rename_i a;rw[aR ⟨rfl,a⟩];rfl
  rename_i a;rw[aQ O,q' O]
 rename_i h;rw[aQ λa=>h a.1]
theorem acm{a b:List Int}(h:a.length=b.length)(e: ∀c,c<a.length->a.getD c 0=b.getD c 0):a=b:=by
 refine List.ext_getElem h λi d k=>?_
 have:=e i d;rw[eP,eP,bp d,bp k] at this;exact this
theorem Cv{p:Prog}(a:bM p=ab): ∀{l:List bN} {m:List Int},(∀x∈l,da p x)->(c4 p m l).length=m.length
 | [],m,_=>rfl
 |x::l,m,h=>by show(c4 p (eI p m x) l).length=_;rw[Cv a (λy c=>h y (by simp[c])),(ot a (h x aX)).2.2.2,e6]
def mP(l:List Bool):List Int:=((List.range l.length).filter λi=>l.getD i ak).map (fun(i:Nat)=>(i:Int))
theorem Yv{l:List Bool}(s:l.length<n)(m:l.length<=1000):wC n l=aa (mP l):=by
 refine ad.eq ?_;unfold wC;refine ad.loop (λz:List Int×Int=> ∃i:Nat,z.2=i/\i<=l.length/\z.1.length<=i/\z.1=((List.range i).filter λi=>l.getD i ak).map (fun(i:Nat)=>(i:Int))) (λz=>l.length-z.2.toNat) ?_ n _ ⟨0,rfl,O,aX,aX⟩ J;rintro d ⟨out,z⟩ ⟨i,a,w,qs,c⟩ o;dsimp only at a c qs⊢;subst a;refine aW (λp=>?_) λq=>ad.some ?_
 ·have bK:=bp (O:i<l.length);have r:l.getD i ak=l[i]:=by rw[eP,bK];rfl
  refine ad.aD (λz=>z.length<=i+1/\z=((List.range (i+1)).filter λi=>l.getD i ak).map (fun(i:Nat)=>(i:Int))) (λj k=>ae (bl bK) (ad.cond (λh=>ae (c' (by rw[su];omega)) (k _ ?_)) λh=>k _ ?_)) λz a=>?_
  ·refine⟨by rw[ea,su];omega,?_⟩;rw[pD,pG,eM,<-c];simp[bK,h]
  ·refine⟨O,?_⟩;rw[pD,pG,eM,<-c];simp[bK,h]
  rw[bc O];exact o _ ⟨i+1,J,O,a.1,a.2⟩ J
 have e:i=l.length:=O
 rw[c,e];rfl
theorem Mf{l:List Bool}(c:l.length<n)(a:l.length<=1000):wC n l=aa (mP l):=Yv c a
theorem MD(l:List Bool):(mP l).length<=l.length:=by unfold mP;rw[dJ];exact iE (List.length_filter_le _ _) aX
theorem FP{l:List Bool}:c∈mP l↔0<=c/\l.getD c.toNat ak=ab:=by
 unfold mP;simp only[List.mem_map,List.mem_filter,List.mem_range];constructor
 ·rintro⟨i,⟨e,a⟩,rfl⟩;exact⟨O,by rw[cf];exact a⟩
 rintro⟨e,a⟩;refine⟨c.toNat,⟨?_,a⟩,O⟩;refine w6 λd=>?_;rw[eP,q' d] at a;cases a
theorem W6(c:7000<=n)(d:jz p): ∃L,tn n p=aa (L,bM p)/\(bM p=ab->L=I p.parts):=by
 rw[KR c d];cases a:ky p with
 |false=>
  refine⟨[],?_,λh=>?_⟩
  ·rw[aQ aX,show bM p=ak by unfold bM;rw[a];rfl]
  unfold bM at h;rw[a] at h;cases h
 |true=>
  refine⟨I p.parts,?_,λ_=>rfl⟩;rw[aR rfl,show bM p=ag ((I p.parts).length<=120) by
   unfold bM;rw[a,Bool.true_and];exact decide_eq_decide.2 (by have:=y4 p.parts;omega)]
abbrev jm(p:Prog):Nat:=(gK p.aP).toNat
theorem Rt{n:Int}(h:0<=n/\n<=1000000000)(x:k):mk n x=aa (dA n.toNat x):=by unfold mk;rw[aR h]
def pick(l:List bN)(o:List Int):List bN:=o.filterMap λc=>l[c.toNat]?
theorem GD(h:l[c.toNat]? =aa x):pick l (o++[c])=pick l o++[x]:=by unfold pick;rw[List.filterMap_append];simp[h]
theorem OR(h:x∈pick l o):x∈l:=by
 unfold pick at h
 grind
def o0(p:Prog)(a b:bN):Prop:=(c3 p a:Int)∈rc p b\/(c3 p b:Int)∈rc p a\/c3 p a=c3 p b
def oc(p:Prog)(a b:bN):Prop:= ∀m,fD p.aP m->eI p (eI p m a) b=eI p (eI p m b) a
theorem QL(a:bM p=ab)(d:da p b){w:Nat}(h:(w:Int)∉rc p b)(m:List Int)(v:Int):uQ p (m.set w v) b=uQ p m b:=by
 refine Qb a d λc e=>?_;have i:=(ot a d).2.1 c e
 grind
theorem swap(c:bM p=ab)(d:da p a)(i:da p b)(h: ¬o0 p a b):oc p a b:=by intro m _;have n:(c3 p a:Int)∉rc p b:=λe=>h (.inl e);have o:(c3 p b:Int)∉rc p a:=λe=>h (.inr (.inl e));have q:c3 p a≠c3 p b:=λe=>h (.inr (.inr e));have k:=(ot c d).2.2.2;have l:=(ot c i).2.2.2;rw[k,l,l,k,QL c i n,QL c d o,List.set_comm _ _ q]
def mc(p:Prog)(a b:bN):Int:=(if(c3 p a:Int)∈rc p b then 1 else 0)+(if(c3 p b:Int)∈rc p a then 2 else 0)+(if c3 p a=c3 p b then 4 else 0)
theorem afr(p:Prog)(a b:bN):0<=mc p a b/\mc p a b<=7:=by
 unfold mc
 grind
theorem aaQ(h:mc p a b=0): ¬o0 p a b:=by
 unfold mc at h;rintro(e|e|e)
 ·rw[aR e] at h
  grind
 ·rw[aR e] at h
  grind
 rw[aR e] at h
 grind
def mM(p:Prog)(l:List bN)(i k:Nat):Int:=match l[i]?,l[k]? with
 |some a,aa b=>mc p a b
 |_,_=>0
theorem u1{k:Nat}(c:l[i]? =aa a)(d:l[k]? =aa b):mM p l i k=mc p a b:=by unfold mM;rw[c,d]
theorem UA(p:Prog)(l:List bN)(i k:Nat):0<=mM p l i k/\mM p l i k<=7:=by
 unfold mM;split
 ·exact afr _ _ _
 omega
def l5(p:Prog)(l:List bN)(i j:Nat):List gr:=((List.range j).filter λk=>decide (i<k)&&ag (mM p l i k≠0)).map (fun(k:Nat)=>(⟨(i:Int),(k:Int),mM p l i k⟩:gr))
def gL(p:Prog)(l:List bN)(n:Nat):List gr:=(List.range n).flatMap λi=>l5 p l i l.length
theorem Fs(p:Prog)(l:List bN){j:Nat}(h:i<j):l5 p l i (j+1)=l5 p l i j++(if mM p l i j=0 then [] else [⟨(i:Int),(j:Int),mM p l i j⟩]):=by
 unfold l5;rw[pD,pG,eM]
 grind
theorem Gi(p:Prog)(l:List bN)(i:Nat): ∀j,j<=i+1->l5 p l i j=[]
 |0,_=>rfl
 |j+1,h=>by have a:=Gi p l i j O;unfold l5 at a⊢;rw[pD,pG,eM,a];simp[show¬i<j by omega]
theorem Gh(p:Prog)(l:List bN)(n:Nat):gL p l (n+1)=gL p l n++l5 p l n l.length:=by unfold gL;rw[pD,mb];simp
theorem Gj(p:Prog)(l:List bN)(i j:Nat):(l5 p l i j).length<=j:=by
 unfold l5
 grind
theorem xq(p:Prog)(l:List bN): ∀n,(gL p l n).length<=n*l.length
 |0=>by simp[gL]
 |n+1=>by
  rw[Gh,ea,eu,Nat.one_mul]
  have:=xq p l n
  have:=Gj p l n l.length;omega
theorem xN{d:gr}:d∈gL p l l.length↔ ∃i k:Nat,i<k/\k<l.length/\mM p l i k≠0/\d=⟨(i:Int),(k:Int),mM p l i k⟩:=by
 unfold gL l5;simp only[List.mem_flatMap,List.mem_range,List.mem_map,List.mem_filter,b9,decide_eq_true_eq]
 grind
def places(o:List Int):Nat->List Int
 |0=>dA o.length 0
 |k+1=>(places o k).set (o.getD k 0).toNat (k:Int)
theorem Pj(r:bM p=ab)(o: ∀x∈l,da p x)(i k:Nat)(a b:bN)(c:i<k)(q:l[i]? =aa a)(n:l[k]? =aa b)(h: ∀d∈gL p l l.length,¬(d.1=(i:Int)/\d.2=(k:Int))):oc p b a:=by
 by_cases e:mM p l i k=0
 ·rw[u1 q n] at e;have hs:=swap r (o _ (bx q)) (o _ (bx n)) (aaQ e);exact λm s=>(hs m s).symm
 exact bB ⟨rfl,rfl⟩ (h _ (xN.2 ⟨i,k,c,(bR.1 n).1,e,rfl⟩))
def jt(p:Prog)(l:List bN)(i:Nat):Int:=match l[i]? with
 |some a=>(c3 p a:Int)
 |none=> -1
def wP(p:Prog)(l:List bN)(i:Nat):List Int:=match l[i]? with
 |some a=>rc p a
 |none=>[]
theorem sb(h:l[i]? =aa a):jt p l i=(c3 p a:Int):=by unfold jt;rw[h]
theorem xL(h:l[i]? =aa a):wP p l i=rc p a:=by unfold wP;rw[h]
def hN(p:Prog)(l:List bN)(c:Int):Nat->Int
 |0=> -1
 |i+1=>if jt p l i=c then(i:Int) else hN p l c i
theorem QI(p:Prog)(l:List bN)(c:Int): ∀i,-1<=hN p l c i/\hN p l c i<(i:Int)
 |0=>by simp[hN]
 |i+1=>by have:=QI p l c i;unfold hN;split<;>omega
theorem QH{p:Prog}{l:List bN}{c:Int}: ∀{i s:Nat},hN p l c i=(s:Int)->jt p l s=c/\s<i/\ ∀t,s<t->t<i->jt p l t≠c
 |0,s,h=>by simp[hN] at h
 |i+1,s,h=>by
  unfold hN at h;split at h
  ·rename_i e
   have:i=s:=O
   subst this;exact⟨e,O,λt d k=>O⟩
  rename_i e;obtain⟨d,k,m⟩:=QH h;refine⟨d,O,λt n o=>?_⟩;by_cases a:t=i
  ·rw[a];exact e
  exact m t n O
theorem PY{p:Prog}{l:List bN}{c:Int}{s:Nat}: ∀{i:Nat},jt p l s=c->s<i->(∀t,s<t->t<i->jt p l t≠c)->hN p l c i=(s:Int)
 |0,_,h,_=>bB h (q6 _)
 |i+1,d,m,k=>by
  unfold hN;by_cases e:s=i
  ·subst e;rw[aR d]
  rw[aQ (k i O O)];exact PY d O λt a b=>k t a O
def kx(p:Prog)(l:List bN)(i:Nat):Bool:= !(l.drop (i+1)).any λx=>decide ((c3 p x:Int)=jt p l i)
theorem aaL(n:i<l.length):kx p l i=ab↔ ∀t,i<t->t<l.length->jt p l t≠jt p l i:=by
 unfold kx;rw[Bool.not_eq_true',List.any_eq_false];constructor
 ·intro h t o a e;have c:(l.drop (i+1))[t-(i+1)]? =aa l[t]:=by
   grind
  refine h _ (bx c) ?_;rw[sb (bp a)] at e
  grind
 intro h x d q;obtain⟨k,m,rfl⟩:=List.getElem_of_mem d;rw[fM] at m;refine h (i+1+k) O O ?_;rw[sb (bp (O:i+1+k<l.length))]
 grind
def kJ(f:List Bool)(a:List Int):List Bool:=a.foldl (λf s=>if 0<=s then f.set s.toNat ab else f) f
theorem B9: ∀(a:List Int) (f:List Bool),(kJ f a).length=f.length
 | [],f=>rfl
 |s::a,f=>by
  show(kJ (if 0<=s then f.set s.toNat ab else f) a).length=_;rw[B9];split
  ·rw[e6]
  rfl
theorem Bh(f:List Bool)(a:List Int)(s:Int):kJ f (a++[s])=if 0<=s then(kJ f a).set s.toNat ab else kJ f a:=by unfold kJ;rw[List.foldl_append];rfl
theorem Hd{i:Nat}: ∀{a:List Int} {f:List Bool},i<f.length->((kJ f a).getD i ak=ab↔f.getD i ak=ab\/(i:Int)∈a)
 | [],f,_=>by simp[kJ]
 |s::a,f,h=>by
  show(kJ (if 0<=s then f.set s.toNat ab else f) a).getD i ak=ab↔_;rw[Hd (by split;rw[e6];exact h;exact h),ez];by_cases c:0<=s
  ·rw[aR c,uN];by_cases e:s.toNat=i
   ·rw[aR ⟨e,O⟩];simp[show(i:Int)=s by omega]
   rw[aQ λd=>e d.1]
   have: ¬(i:Int)=s:=O
   simp[this]
  rw[aQ c]
  have: ¬(i:Int)=s:=O
  simp[this]
def gA(p:Prog)(l:List bN)(i:Nat):List Int:=(wP p l i).map λc=>hN p l c i
def gl(p:Prog)(l:List bN):Nat->List Bool
 |0=>dA l.length ak
 |j+1=>if(gl p l j).getD (l.length-1-j) ak=ab\/kx p l (l.length-1-j)=ab then kJ ((gl p l j).set (l.length-1-j) ab) (gA p l (l.length-1-j)) else gl p l j
theorem qF(p:Prog)(l:List bN): ∀j,(gl p l j).length=l.length
 |0=>by simp[gl]
 |j+1=>by
  unfold gl;split
  ·rw[B9,e6,qF p l j]
  exact qF p l j
theorem OB{k:Nat}:(i:Int)∈gA p l k↔ ∃c∈wP p l k,hN p l c k=(i:Int):=by unfold gA;rw[List.mem_map]
theorem adh{k:Nat}(h:(i:Int)∈gA p l k):i<k:=by obtain⟨c,_,h⟩:=OB.1 h;exact(QH h).2.1
theorem NY(p:Prog)(l:List bN): ∀j,j<=l.length-> ∀i,i<l.length->((gl p l j).getD i ak=ab↔(l.length-j<=i/\kx p l i=ab)\/ ∃k,l.length-j<=k/\k<l.length/\(gl p l j).getD k ak=ab/\(i:Int)∈gA p l k)
 |0,_,i,n=>by
  have y:(gl p l 0).getD i ak=ak:=by
   unfold gl;rw[List.getD_eq_getElem?_getD,List.getElem?_replicate];split<;>rfl
  rw[y];constructor
  ·intro h;cases h
  rintro(⟨h,_⟩|⟨k,c,a,_⟩)<;>omega
 |j+1,C,i,n=>by
  have o:=NY p l j O;obtain⟨q,x⟩: ∃q,l.length-1-j=q:=⟨_,rfl⟩
  have z:l.length-j=q+1:=O
  have A:l.length-(j+1)=q:=O
  rw[z] at o;rw[A];have w:q<(gl p l j).length:=by rw[qF];omega
  by_cases r:(gl p l j).getD q ak=ab\/kx p l q=ab
  ·have b2:gl p l (j+1)=kJ ((gl p l j).set q ab) (gA p l q):=by
    conv=>lhs;unfold gl
    rw[x,aR r]
   have get: ∀t,t<l.length->((gl p l (j+1)).getD t ak=ab↔(t=q\/(gl p l j).getD t ak=ab)\/(t:Int)∈gA p l q):=λt B=>by
    rw[b2,Hd (by rw[e6,qF];exact B),uN];by_cases e:q=t
    ·subst e;rw[aR ⟨rfl,w⟩];simp
    rw[aQ λh=>e h.1]
    have: ¬t=q:=λh=>e h.symm;simp[this]
   rw[get i n];constructor
   ·rintro((rfl|h)|h)
    ·rcases r with h|h
     ·rcases(o i n).1 h with ⟨c,_⟩|⟨k,c,a,d,m⟩
      ·omega
      exact .inr ⟨k,O,a,(get k a).2 (.inl (.inr d)),m⟩
     exact .inl ⟨cR _,h⟩
    ·rcases(o i n).1 h with ⟨c,a⟩|⟨k,c,a,d,m⟩
     ·exact .inl ⟨O,a⟩
     exact .inr ⟨k,O,a,(get k a).2 (.inl (.inr d)),m⟩
    exact .inr ⟨q,cR _,O,(get q O).2 (.inl (.inl rfl)),h⟩
   rintro(⟨c,a⟩|⟨k,c,a,d,m⟩)
   ·by_cases e:i=q
    ·exact .inl (.inl e)
    exact .inl (.inr ((o i n).2 (.inl ⟨O,a⟩)))
   by_cases e:k=q
   ·subst e;exact .inr m
   rcases(get k a).1 d with (s|s)|s
   ·exact bB s e
   ·exact .inl (.inr ((o i n).2 (.inr ⟨k,O,a,s,m⟩)))
   have:=adh s;omega
  have b2:gl p l (j+1)=gl p l j:=by
   conv=>lhs;unfold gl
   rw[x,aQ r]
  rw[b2,o i n];constructor
  ·rintro(⟨c,a⟩|⟨k,c,a,d,m⟩)
   ·exact .inl ⟨O,a⟩
   exact .inr ⟨k,O,a,d,m⟩
  rintro(⟨c,a⟩|⟨k,c,a,d,m⟩)
  ·by_cases e:i=q
   ·subst e;exact bB (.inr a) r
   exact .inl ⟨O,a⟩
  by_cases e:k=q
  ·subst e;exact bB (.inl d) r
  exact .inr ⟨k,O,a,d,m⟩
abbrev h'(p:Prog)(l:List bN):List Bool:=gl p l l.length
theorem ack(a:i<l.length):(h' p l).getD i ak=ab↔kx p l i=ab\/ ∃k,k<l.length/\(h' p l).getD k ak=ab/\(i:Int)∈gA p l k:=by
 have:=NY p l l.length (cR _) i a
 grind
def I4(p:Prog)(l:List bN)(k c:Nat):Prop:=(∃j,k<=j/\j<l.length/\(h' p l).getD j ak=ab/\(c:Int)∈wP p l j/\ ∀t,k<=t->t<j->jt p l t≠(c:Int))\/(∀t,k<=t->t<l.length->jt p l t≠(c:Int))
def qO(f:List Bool)(k:Nat):List Int:=((List.range k).filter λi=>f.getD i ak).map (fun(i:Nat)=>(i:Int))
theorem LO(f:List Bool)(k:Nat):qO f (k+1)=qO f k++(if f.getD k ak=ab then [(k:Int)] else []):=by
 unfold qO;rw[pD,pG,eM]
 grind
theorem L'(f:List Bool):qO f f.length=mP f:=rfl
def rq(a b:az):Bool:=ag (a.aT=b.aT)&&ag (a.const=b.const)
def oI:List az->List az->Bool
 | [],[]=>ab
 |a::as,b::c=>rq a b&&oI as c
 |_,_=>ak
theorem adP{a b:az}(h:rq a b=ab):a=b:=by
 obtain⟨c,k⟩:=a;obtain⟨d,e⟩:=b;simp only[rq,b9,decide_eq_true_eq] at h
 grind
theorem G3: ∀{a b:List az},oI a b=ab->a=b
 | [],[],_=>rfl
 |a::as,b::c,h=>by
  simp only[oI,b9] at h;rw[adP h.1,G3 h.2]
 | [],b::c,h=>by cases h
 |a::as,[],h=>by cases h
theorem Q7: ∀d∈gL p l l.length,0<=d.1/\d.1<d.2/\d.2<(l.length:Int):=by
 intro d a;obtain⟨i,k,c,e,h,rfl⟩:=xN.1 a
 grind
theorem FA{l:List Int}(o:l.length<n)(p:l.length<=1000)(v:Int):wg n l v=aa (ag (v∈l)):=by
 refine ad.eq ?_;unfold wg;refine ch (P:=λi=>decide ((0:Int)<=i)=ag (v∈l)) ?_ λx c=>ad.some c;unfold FL;refine ad.loop (λz:Int=> ∃i:Nat,z=i/\i<=l.length/\v∉l.take i) (λz=>l.length-z.toNat) ?_ n 0 ⟨0,rfl,O,aX⟩ O;rintro a z ⟨i,rfl,q,d⟩ h;refine aW (λk=>?_) λm=>ad.some ?_
 ·have bK:=bp (O:i<l.length);refine ae (bl bK) (aW (λe=>ad.some ?_) λe=>?_)
  ·rw[bI O,bI];rw[e];exact bx bK
  rw[bc O];refine h _ ⟨i+1,O,O,?_⟩ O;rw[gE bK,eC,pF]
  grind
 have e:i=l.length:=O
 grind
theorem Hk{l:List Int}(m:l.length<n)(o:l.length<=1000)(v:Int):uZ n l v=aa (ag (v∈l)):=by
 refine ad.eq ?_;unfold uZ;refine ad.loop (λz:Int=> ∃i:Nat,z=i/\i<=l.length/\v∉l.take i) (λz=>l.length-z.toNat) ?_ n 0 ⟨0,rfl,O,aX⟩ O;rintro a z ⟨i,rfl,p,c⟩ d;refine aW (λh=>?_) λk=>ad.some ?_
 ·have bK:=bp (O:i<l.length);refine ae (bl bK) (aW (λe=>ad.some ?_) λe=>?_)
  ·rw[bI];rw[<-e];exact bx bK
  rw[bc O];refine d _ ⟨i+1,O,O,?_⟩ O;rw[gE bK,eC,pF]
  grind
 have e:i=l.length:=O
 grind
def gX(p:Prog):oS:=⟨p,I p.parts,(I p.parts).map (rc p),(I p.parts).map λx=>(c3 p x:Int)⟩
theorem lY{l:List k}{x:k}(h:l[i]? =aa x):(l.map f)[i]? =aa (f x):=by rw[eK,h];rfl
theorem B'{l:List k}{x:k}(h:l[i]? =aa x):(l.take (i+1)).map f=(l.take i).map f++[f x]:=by rw[gE h,eM];rfl
theorem z6(A:7100<=n)(m:jz p):q0 n p=aa (if bM p=ab then(aa (gX p),ab) else(none,ak)):=by
 obtain⟨L,o,q⟩:=W6 (n:=n) O m;refine ad.eq ?_;unfold q0;refine ae o ?_;dsimp only;cases h:bM p with
 |false=>exact ad.some rfl
 |true=>
  rw[q h];have r:=(dZ h).2.2.2.2;refine b8 (ad.loop (λz:List (List Int)×List Int×Int=> ∃i:Nat,z.2.2=i/\i<=(I p.parts).length/\z.1=((I p.parts).take i).map (rc p)/\z.2.1=((I p.parts).take i).map λx=>(c3 p x:Int)) (λz=>(I p.parts).length-z.2.2.toNat) ?_ n _ ⟨0,rfl,O,rfl,rfl⟩ (by first|omega|(dsimp only;omega)));rintro k ⟨a,b,z⟩ ⟨i,l,B,c,d⟩ s;dsimp only at l c d⊢;subst l;refine aW (λw=>?_) λy=>ad.some ?_
  ·have bK:=bp (O:i<(I p.parts).length);refine ae (bl bK) (ae (W3 O h (fc (bx bK))) (ae (c' (by rw[c,dJ,cZ,su];omega)) (ae (c' (by rw[d,dJ,cZ,su];omega)) ?_)));rw[bc O];exact s _ ⟨i+1,J,O,by dsimp only;rw[B' bK,c],by dsimp only;rw[B' bK,d]⟩ J
  have e:i=(I p.parts).length:=O
  rw[c,d,e,dW];rfl
def nd(p:Prog):List lO:=(I p.parts).map λx=>(⟨rc p x,(c3 p x:Int)⟩:lO)
theorem GV(l:7100<=n)(c:bM p=ab):xh n p=aa (nd p):=by
 have m:=(dZ c).2.2.2.2;refine ad.eq ?_;unfold xh nd;refine ae (we O c) (ad.loop (λz:List lO×Int=> ∃i:Nat,z.2=i/\i<=(I p.parts).length/\z.1=((I p.parts).take i).map λx=>(⟨rc p x,(c3 p x:Int)⟩:lO)) (λz=>(I p.parts).length-z.2.toNat) ?_ n _ ⟨0,rfl,O,rfl⟩ J);rintro d ⟨a,z⟩ ⟨i,k,B,h⟩ o;dsimp only at k h⊢;subst k;refine aW (λq=>?_) λr=>ad.some ?_
 ·have bK:=bp (O:i<(I p.parts).length);obtain⟨P,s,w,y,A⟩:=Z1 l c (fc (bx bK));refine ae (bl bK) (ae w (ae y (ae A (ae (c' (by rw[h,dJ,cZ,su];omega)) ?_))));rw[bc O];exact o _ ⟨i+1,J,O,by dsimp only;rw[B' bK,h]⟩ J
 have e:i=(I p.parts).length:=O
 grind
theorem sP(c:bM p=ab)(d: ∀x∈l,da p x)(h:l[i]? =aa a):(rc p a).length<=12:=(ot c (d _ (bx h))).2.2.1
theorem PK{Q:R->Prop}{A B:Option Bool}(q:A=aa (ag ((c3 p a:Int)∈rc p b)))(r:B=aa (ag ((c3 p b:Int)∈rc p a))){c:Int->Option R}(h:ad (c (mc p a b)) Q):
  ad (aD (fun(m:Int)=>aD (fun(i:Int)=>aD c λk=>bif ag ((c3 p a:Int)=(c3 p b:Int)) then(k (wr (i+4))) else(k i))
   λn=>bO B λs=>bif s then(n (wr (m+2))) else(n m))
   λo=>bO A λw=>bif w then(o (wr (0+1))) else(o 0)) Q:=by
 refine ad.aD (λz=>z=if(c3 p a:Int)∈rc p b then 1 else 0) (λj d=>ae q (aW (λe=>d _ (by rw[aR e];rfl)) λe=>d _ (by rw[aQ e]))) λz l=>?_;subst l;refine ad.aD (λz=>z=(if(c3 p a:Int)∈rc p b then 1 else 0)+if(c3 p b:Int)∈rc p a then 2 else 0) (λj d=>ae r (aW (λe=>d _ ?_) λe=>d _ ?_)) λz l=>?_
 ·rw[aR e];split<;>rfl
 ·rw[aQ e,Int.add_zero]
 subst l;refine ad.aD (λz=>z=mc p a b) (λj d=>aW (λe=>d _ ?_) λe=>d _ ?_) λz l=>by subst l;exact h
 ·unfold mc;rw[aR (O:c3 p a=c3 p b)];split<;>split<;>rfl
 unfold mc;rw[aQ (show¬c3 p a=c3 p b by omega),Int.add_zero]
theorem W7(r:7100<=n)(h:bM p=ab){k:Nat}(c:(I p.parts)[i]? =aa a)(d:(I p.parts)[k]? =aa b):D0 n (gX p) (i:Int) (k:Int)=aa (mM p (I p.parts) i k):=by rw[u1 c d];have s:=sP h (λx e=>fc e) c;have w:=sP h (λx e=>fc e) d;have l:ax (gX p).reads (i:Int)=aa (rc p a):=bl (lY c);have m:ax (gX p).reads (k:Int)=aa (rc p b):=bl (lY d);have o:ax (gX p).jP (i:Int)=aa (c3 p a:Int):=bl (lY c);have q:ax (gX p).jP (k:Int)=aa (c3 p b:Int):=bl (lY d);refine ad.eq ?_;unfold D0;rw[l,m,o,q];exact PK (FA O O _) (FA O O _) (ad.some rfl)
theorem YV(c:7100<=n)(d:(rc p a).length<=12)(e:(rc p b).length<=12):A2 n ⟨rc p a,(c3 p a:Int)⟩ ⟨rc p b,(c3 p b:Int)⟩=aa (mc p a b):=by refine ad.eq ?_;unfold A2;exact PK (Hk O O _) (Hk O O _) (ad.some rfl)
theorem GN(L:7100<=n)(F:bM p=ab):wk n (gX p)=aa (gL p (I p.parts) (I p.parts).length):=by
 have s:=(dZ F).2.2.2.2;refine ad.eq ?_;unfold wk;rw[show(gX p).list=I p.parts from rfl];generalize m:I p.parts=l at*;have Q: ∀x∈l,da p x:=λx R=>fc (by rw[m];exact R);refine ad.loop (λz:List gr×Int=> ∃i:Nat,z.2=i/\i<=l.length/\z.1=gL p l i) (λz=>l.length-z.2.toNat) ?_ n _ ⟨0,rfl,O,rfl⟩ J;rintro w ⟨a,z⟩ ⟨i,o,g,A⟩ W;dsimp only at o A⊢;subst o;refine aW (λX=>?_) λZ=>ad.some ?_
 ·have bK:=bp (O:i<l.length);rw[bc O];refine ad.loop (λz:List gr×Int=> ∃j:Nat,z.2=j/\i<j/\j<=l.length/\z.1=gL p l i++l5 p l i j) (λz=>l.length-z.2.toNat) ?_ n _ ⟨i+1,J,O,O,by dsimp only;rw[A,Gi p l i _ (cR _),kb]⟩ J;rintro q ⟨b,y⟩ ⟨j,G,c,t,r⟩ B;dsimp only at G r⊢;subst G;refine aW (λH=>?_) λK=>?_
  ·have C:=bp (O:j<l.length);have d:=W7 L F (i:=i) (k:=j) (by rw[m];exact bK) (by rw[m];exact C);rw[m] at d;have f:=(UA p l i j).1;refine ad.aD (λz=>z=gL p l i++l5 p l i (j+1)) (λu h=>ae d (aW (λe=>ae (c' ?_) (h _ ?_)) λe=>h _ ?_)) λz o=>?_
   ·have v:=xq p l i;have D:=Gj p l i j;have E:i*l.length<=120*120:=oL O s
    grind
   ·rw[r,Fs p l c,aQ O,fN]
   ·rw[r,Fs p l c,aR O,kb]
   subst o;rw[bc O];exact B _ ⟨j+1,J,O,O,rfl⟩ J
  have e:j=l.length:=O
  try rw[bc O]
  exact W _ ⟨i+1,J,O,by dsimp only;rw[r,e,Gh]⟩ J
 have e:i=l.length:=O
 rw[A,e]
theorem GX(H:7100<=n)(q:bM p=ab):xi n p=aa (gL p (I p.parts) (I p.parts).length):=by
 have A:=(dZ q).2.2.2.2;refine ad.eq ?_;unfold xi;refine ae (GV H q) ?_;have B:(nd p).length=(I p.parts).length:=by unfold nd;rw[dJ]
 have d: ∀(i:Nat) x,(I p.parts)[i]? =aa x->ax (nd p) (i:Int)=aa ⟨rc p x,(c3 p x:Int)⟩:=λi x h=>bl (lY h);rw[B];generalize nd p=u at*;generalize R:I p.parts=l at*;have k: ∀x∈l,da p x:=λx W=>fc (by rw[R];exact W);refine ad.loop (λz:List gr×Int=> ∃i:Nat,z.2=i/\i<=l.length/\z.1=gL p l i) (λz=>l.length-z.2.toNat) ?_ n _ ⟨0,rfl,O,rfl⟩ J;rintro C ⟨a,z⟩ ⟨i,r,t,F⟩ X;dsimp only at r F⊢;subst r;refine aW (λZ=>?_) λf=>ad.some ?_
 ·have bK:=bp (O:i<l.length);rw[bc O];refine ad.loop (λz:List gr×Int=> ∃j:Nat,z.2=j/\i<j/\j<=l.length/\z.1=gL p l i++l5 p l i j) (λz=>l.length-z.2.toNat) ?_ n _ ⟨i+1,J,O,O,by dsimp only;rw[F,Gi p l i _ (cR _),kb]⟩ J;rintro s ⟨b,y⟩ ⟨j,K,m,v,w⟩ G;dsimp only at K w⊢;subst K;refine aW (λL=>?_) λQ=>?_
  ·have c:=bp (O:j<l.length);have g:=YV H (sP q k bK) (sP q k c);refine ad.aD (λz=>z=gL p l i++l5 p l i (j+1)) (λD o=>ae (d _ _ bK) (ae (d _ _ c) (ae g (fl (λe=>ae (c' ?_) (o _ ?_)) λe=>o _ ?_)))) λz r=>?_
   ·have E:=xq p l i;have M:=Gj p l i j;have N:i*l.length<=120*120:=oL O A
    grind
   ·rw[w,Fs p l m,u1 bK c,aQ e,fN]
   ·rw[w,Fs p l m,u1 bK c,aR e,kb]
   subst r;rw[bc O];exact G _ ⟨j+1,J,O,O,rfl⟩ J
  have e:j=l.length:=O
  try rw[bc O]
  exact X _ ⟨i+1,J,O,by dsimp only;rw[w,e,Gh]⟩ J
 have e:i=l.length:=O
 rw[F,e]
theorem AZ(p:Prog)(l:List bN)(c:Int)(i:Nat):hN p l c (i+1)=if jt p l i=c then(i:Int) else hN p l c i:=rfl
theorem W4(D:7100<=n)(K:bM p=ab)(R:i<(I p.parts).length):DZ n (gX p) (i:Int)=aa (gA p (I p.parts) i):=by
 have W:=(dZ K).2.2.2.2;have r: ∀x∈I p.parts,da p x:=λx X=>fc X;have w:=bp R;have E:=sP K r w;have Z:ax (gX p).reads (i:Int)=aa (rc p (I p.parts)[i]):=bl (lY w);refine ad.eq ?_;unfold DZ gA;rw[xL w,Z];generalize rc p (I p.parts)[i]=d at*;have A:wr ((i:Int)-1)=(i:Int)-1:=bc O;rw[A];refine ae rfl (ad.loop (λz:List Int×Int=> ∃k:Nat,z.2=k/\k<=d.length/\z.1=(d.take k).map λc=>hN p (I p.parts) c i) (λz=>d.length-z.2.toNat) ?_ n _ ⟨0,rfl,O,rfl⟩ J);rintro h ⟨a,z⟩ ⟨k,m,M,B⟩ b;dsimp only at m B⊢;subst m;refine aW (λf=>?_) λg=>ad.some ?_
 ·have bK:=bp (O:k<d.length);refine ae (bl bK) ?_;have C: ∀y:Int,y=hN p (I p.parts) d[k] i->ad (bO (app a [y]) λF=>h (F,wr ((k:Int)+1))) (λx=>x=d.map λc=>hN p (I p.parts) c i):=by
   intro y t;refine ae (c' (by rw[B,dJ,cZ,su];omega)) ?_;rw[bc O];exact b _ ⟨k+1,J,O,by dsimp only;rw[B' bK,B,t]⟩ J
  refine ad.loop (λz:Int=> ∃s:Nat,z=(s:Int)-1/\s<=i/\hN p (I p.parts) d[k] i=hN p (I p.parts) d[k] s) (λz=>(z+1).toNat) ?_ n _ ⟨i,rfl,cR _,rfl⟩ O;rintro o z ⟨s,rfl,N,l⟩ G;refine ad.aD (λz=>z=ab/\(∃q,s=q+1/\jt p (I p.parts) q≠d[k])\/z=ak/\(s:Int)-1=hN p (I p.parts) d[k] i) (λj L=>aW (λu=>?_) λu=>L _ (.inr ⟨rfl,?_⟩)) λz m=>?_
  ·obtain⟨q,rfl⟩: ∃q,s=q+1:=⟨s-1,O⟩
   have Q:=bp (O:q<(I p.parts).length);have v:ax (gX p).jP (((q+1:Nat):Int)-1)=aa (jt p (I p.parts) q):=by
    rw[show((q+1:Nat):Int)-1=(q:Int) by omega,sb Q];exact bl (lY Q)
   refine ae v ?_;by_cases e:jt p (I p.parts) q=d[k]
   ·rw[bI e];refine L _ (.inr ⟨rfl,?_⟩);rw[l,AZ,aR e];omega
   rw[bJ e]
   grind
  ·have:s=0:=O
   subst this;rw[l];rfl
  rcases m with ⟨rfl,q,rfl,H⟩|⟨rfl,m⟩
  ·refine bX ?_;rw[bc O];exact G _ ⟨q,O,O,by rw[l,AZ,aQ H]⟩ O
  exact b8 (C _ m)
 have e:k=d.length:=O
 grind
theorem XV(B:7100<=n)(o:bM p=ab)(C:i<=(I p.parts).length)(c:Int):Aq n (nd p) (i:Int) c=aa (hN p (I p.parts) c i):=by
 have r:=(dZ o).2.2.2.2;have k: ∀(i:Nat) x,(I p.parts)[i]? =aa x->ax (nd p) (i:Int)=aa ⟨rc p x,(c3 p x:Int)⟩:=λi x h=>bl (lY h);refine ad.eq ?_;unfold Aq;rw[bc O];refine ad.loop (λz:Int=> ∃s:Nat,z=(s:Int)-1/\s<=i/\hN p (I p.parts) c i=hN p (I p.parts) c s) (λz=>(z+1).toNat) ?_ n _ ⟨i,rfl,cR _,rfl⟩ O;rintro d z ⟨s,rfl,F,a⟩ l;refine aW (λw=>?_) λw=>ad.some ?_
 ·obtain⟨q,rfl⟩: ∃q,s=q+1:=⟨s-1,O⟩
  have m:=bp (O:q<(I p.parts).length);have y:=k _ _ m;have A:((q+1:Nat):Int)-1=(q:Int):=O
  rw[A];refine ae y (aW (λe=>ad.some ?_) λe=>?_)
  ·dsimp only at e;rw[a,AZ,sb m,aR e]
  dsimp only at e;rw[bc O];exact l _ ⟨q,O,O,by rw[a,AZ,sb m,aQ e]⟩ O
 have:s=0:=O
 subst this;rw[a];rfl
theorem adO{f:bN->Int}{w:Int}:ag (w∈l.map f)=l.any (λx=>decide (f x=w)):=by grind
theorem MT(p:Prog)(l:List bN)(j q:Nat)(h:l.length-1-j=q):gl p l (j+1)=if(gl p l j).getD q ak=ab\/kx p l q=ab then kJ ((gl p l j).set q ab) (gA p l q) else gl p l j:=by subst h;rfl
theorem O8{k:Nat}{y:Int}(h:(gA p l q)[k]? =aa y): -1<=y/\y<(q:Int):=by
 unfold gA at h;rw[eK] at h;cases a:(wP p l q)[k]? with
 |none=>rw[a] at h;cases h
 |some c=>rw[a] at h;cases h;exact QI p l c q
theorem aaZ(u:7100<=n)(K:bM p=ab):Ej n (gX p)=aa (h' p (I p.parts)):=by
 have v:=(dZ K).2.2.2.2;have L: ∀x∈I p.parts,da p x:=λx D=>fc D;have Q:=fun(i:Nat) h=>W4 u K (i:=i) h;have a:(gX p).jP.length=(I p.parts).length:=by unfold gX;dsimp only;rw[dJ]
 have w:(gX p).jP=(I p.parts).map (λx=>(c3 p x:Int)):=rfl;refine ad.eq ?_;unfold Ej;refine ae (Rt (n:=((gX p).list.length:Int)) (x:=ak) (by show _/\((I p.parts).length:Int)<=_;omega)) ?_;rw[show((gX p).list.length:Int)=((I p.parts).length:Int) from rfl,cf,a,bc O];generalize rL:I p.parts=l at*;refine ad.loop (λz:List Bool×Int=> ∃j:Nat,z.2=(l.length:Int)-1-j/\j<=l.length/\z.1=gl p l j) (λz=>(z.2+1).toNat) ?_ n _ ⟨0,J,O,rfl⟩ J;rintro R ⟨f,z⟩ ⟨j,o,hj,F⟩ E;dsimp only at o F⊢;refine aW (λM=>?_) λM=>ad.some ?_
 ·obtain⟨q,N⟩: ∃q,l.length-1-j=q:=⟨_,rfl⟩
  have W:z=(q:Int):=O
  subst W;have A:q<l.length:=O
  have X:f.length=l.length:=by rw[F,qF]
  have bK:=bp A;have s:=bp (O:q<f.length);have Z:f.getD q ak=f[q]:=by rw[eP,s];rfl
  have c:=MT p l j q N;rw[<-F] at c;refine ad.aD (λz=>z=gl p l (j+1)) (λrY B=>?_) λz o=>?_
  ·refine ad.aD (λz=>z= !decide (f.getD q ak=ab\/kx p l q=ab)) (λS' d=>ae (bl s) ?_) λz o=>?_
   ·rw[Z] at d;cases bb:f[q] with
    |true=>rw[bb] at d;exact b8 (d _ aX)
    |false=>
     rw[bb] at d;have b:ax (gX p).jP (q:Int)=aa (c3 p l[q]:Int):=by rw[w];exact bl (lY bK)
     rw[bc O];refine bX (ae (iQ O O (by rw[a];omega)) (ae b (ae (FA ?_ ?_ _) (d _ ?_))))
     ·rw[fM,cZ,a];omega
     ·rw[fM,cZ,a];omega
     rw[show(((l.length:Nat):Int)).toNat=l.length by omega,<-a,dW,show(((q:Int)+1)).toNat=q+1 by omega,w,<-List.map_drop,adO];unfold kx;rw[sb bK];cases (List.drop (q+1) l).any (λx=>decide ((c3 p x:Int)=(c3 p l[q]:Int)))<;>simp
   subst o;by_cases G:f.getD q ak=ab\/kx p l q=ab
   ·rw[bI G];rw[aR G] at c;refine b8 (ae (bl s) (ae (dU ⟨O,O⟩ ab) (ae (Q q A) ?_)));rw[cf];have P:(gA p l q).length<=12:=by unfold gA;rw[dJ,xL bK];exact sP K L bK
    refine ad.loop (λz:List Bool×Int=> ∃k:Nat,z.2=k/\k<=(gA p l q).length/\z.1=kJ (f.set q ab) ((gA p l q).take k)) (λz=>(gA p l q).length-z.2.toNat) ?_ n _ ⟨0,rfl,O,rfl⟩ J;rintro H ⟨g,z⟩ ⟨k,o,hk,m⟩ t;dsimp only at o m⊢;subst o;refine aW (λS=>?_) λT=>B _ ?_
    ·have r:=bp (O:k<(gA p l q).length);have bb:=O8 r;have U:g.length=l.length:=by rw[m,B9,e6,X]
     refine ad.aD (λz=>z=kJ (f.set q ab) ((gA p l q).take (k+1))) (λalp C=>ae (bl r) (aW (λe=>?_) λe=>C _ ?_)) λz o=>?_
     ·obtain⟨y,V,_⟩:=gT (l:=g) e O;refine ae V (ae (dU ⟨e,O⟩ ab) (C _ ?_));rw[gE r,Bh,aR e,m]
     ·rw[gE r,Bh,aQ e,m]
     subst o;rw[bc O];exact t _ ⟨k+1,J,O,rfl⟩ J
    have e:k=(gA p l q).length:=O
    rw[m,e,dW,c]
   rw[bJ G];rw[aQ G] at c;exact bX (B _ c.symm)
  subst o;rw[bc O];exact E _ ⟨j+1,J,O,rfl⟩ J
 have e:j=l.length:=O
 rw[F,e]
def sU(p:Prog)(l:List bN)(q k:Nat):Bool:= !((l.take k).drop (q+1)).any λx=>decide ((c3 p x:Int)=jt p l q)
theorem XN{k:Nat}(h:q<k)(a:l[k]? =aa b):sU p l q (k+1)=(sU p l q k&& !decide ((c3 p b:Int)=jt p l q)):=by have c:=(bR.1 a).1;unfold sU;rw[gE a,ER (by rw[cZ];omega),uH];simp
theorem Uz(cY:7100<=n)(hp:jz p):D5 n p=aa (if bM p=ab then mP (h' p (I p.parts)) else []):=by
 refine ad.eq ?_;unfold D5;refine ae (lp O hp) ?_;cases M:bM p with
 |false=>exact ad.some rfl
 |true=>
  have Dz:=(dZ M).2.2.2.2;have S: ∀x∈I p.parts,da p x:=λx hx=>fc hx;have T:(nd p).length=(I p.parts).length:=by unfold nd;rw[dJ]
  have r: ∀(i:Nat) x,(I p.parts)[i]? =aa x->ax (nd p) (i:Int)=aa ⟨rc p x,(c3 p x:Int)⟩:=λi x h=>bl (lY h);have U:=fun(i:Nat) h=>XV cY M (i:=i) h;refine b8 (ae (GV cY M) ?_);rw[T,aR rfl];generalize nd p=u at*;generalize rL:I p.parts=l at*;refine ae (Rt (n:=(l.length:Int)) (x:=ak) O) ?_;rw[cf,bc O];refine ad.loop (λz:List Bool×Int=> ∃j:Nat,z.2=(l.length:Int)-1-j/\j<=l.length/\z.1=gl p l j) (λz=>(z.2+1).toNat) ?_ n _ ⟨0,J,O,rfl⟩ J;rintro C ⟨f,z⟩ ⟨j,a,hj,N⟩ b7;dsimp only at a N⊢;refine aW (λh0=>?_) λh0=>?_
  ·obtain⟨q,dI⟩: ∃q,l.length-1-j=q:=⟨_,rfl⟩
   have V:z=(q:Int):=O
   subst V;have JO:q<l.length:=O
   have aha:f.length=l.length:=by rw[N,qF]
   have bK:=bp JO;have F:=bp (O:q<f.length);have K:f.getD q ak=f[q]:=by rw[eP,F];rfl
   have s:=MT p l j q dI;rw[<-N] at s;have L: ∀y:Int,y=(q:Int)-1->ad (C (gl p l (j+1),y)) _:=λy hy=>b7 _ ⟨j+1,J,O,rfl⟩ J;have hq:wr ((q:Int)+1)=((q+1:Nat):Int):=by rw[bc O];omega
   have alE:wr ((q:Int)-1)=(q:Int)-1:=bc O;rw[hq,alE];refine ad.loop (λz:Bool×Int=> ∃k:Nat,z.2=k/\q<k/\k<=l.length/\z.1=sU p l q k) (λz=>l.length-z.2.toNat) ?_ n _ ⟨q+1,rfl,O,O,?_⟩ J
   ·rintro P ⟨b,z⟩ ⟨k,a,ahO,hk,bb⟩ yT;dsimp only at a bb⊢;subst a;refine aW (λhlt=>?_) λkp=>?_
    ·have m:=bp (O:k<l.length);have Q:=XN (p:=p) ahO m;refine ad.aD (λz=>z=sU p l q (k+1)) (λS6 A=>?_) λz a=>?_
     ·cases R:b with
      |false=>exact b8 (A _ (by rw[Q,<-bb,R];rfl))
      |true=>
       refine bX (ae (r _ _ m) (ae (r _ _ bK) (A _ ?_)));rw[Q,<-bb,R,sb bK];rfl
     subst a;rw[bc O];exact yT _ ⟨k+1,J,O,O,rfl⟩ J
    have e:k=l.length:=O
    have Dt:b=kx p l q:=by rw[bb,e];unfold sU kx;rw[dW]
    refine ad.aD (λz=>z=f.set q (f.getD q ak||kx p l q)) (λJ' c=>ae (bl F) ?_) λz a=>?_
    ·rw[K] at c;cases W:f[q] with
     |true=>
      rw[W] at c;refine bX (ae (dU ⟨O,O⟩ ab) (c _ ?_));rw[cf];rfl
     |false=>
      rw[W] at c;refine b8 (ae (dU ⟨O,O⟩ b) (c _ ?_));rw[cf,Dt];rfl
    subst a;have hrl:=sP M S bK;by_cases H:f.getD q ak=ab\/kx p l q=ab
    ·rw[aR H] at s;have G:(f.getD q ak||kx p l q)=ab:=by rcases H with h|h<;>rw[h]<;>simp
     rw[G];have ahY:(gA p l q).length=(rc p l[q]).length:=by unfold gA;rw[dJ,xL bK]
     refine ad.loop (λz:List Bool×Int=> ∃k:Nat,z.2=k/\k<=(rc p l[q]).length/\z.1=kJ (f.set q ab) ((gA p l q).take k)) (λz=>(rc p l[q]).length-z.2.toNat) ?_ n _ ⟨0,rfl,O,rfl⟩ J;rintro w ⟨g,z⟩ ⟨k,a,hk,o⟩ X;dsimp only at a o⊢;subst a;have akA:g.length=l.length:=by rw[o,B9,e6,aha]
     have Z:=bp (O:q<g.length);have hgt:g[q]=ab:=by
      have t:g.getD q ak=ab:=by
       rw[o,Hd (by rw[e6];omega),uN,aR ⟨rfl,O⟩];exact .inl rfl
      rwa [eP,Z] at t
     refine ad.aD (λz=>z=ag (k<(rc p l[q]).length)) (λKa d=>ae (r _ _ bK) (aW (λe=>ae (bl Z) (d _ ?_)) λe=>d _ ?_)) λz a=>?_
     ·dsimp only at e;rw[hgt,bI O]
     ·dsimp only at e;rw[bJ O]
     subst a;refine aW (λe=>?_) λe=>?_
     ·have v:=bp e;have m:(gA p l q)[k]? =aa (hN p l (rc p l[q])[k] q):=by unfold gA;rw[xL bK];exact lY v
      have bb:=O8 m;refine ad.aD (λz=>z=kJ (f.set q ab) ((gA p l q).take (k+1))) (λalp D=>ae (r _ _ bK) (ae (bl v) (ae (U q O _) (aW (λe=>?_) λe=>D _ ?_)))) λz a=>?_
      ·obtain⟨y,hy,_⟩:=gT (l:=g) e O;refine ae hy (ae (dU ⟨e,O⟩ ab) (D _ ?_));rw[gE m,Bh,aR e,o]
      ·rw[gE m,Bh,aQ e,o]
      subst a;rw[bc O];exact X _ ⟨k+1,J,O,rfl⟩ J
     have e2:k=(gA p l q).length:=O
     rw[o,e2,dW,<-s];exact L _ rfl
    rw[aQ H] at s;have G:(f.getD q ak||kx p l q)=ak:=by
     cases t:f.getD q ak with
     |true=>exact bB (.inl t) H
     |false=>
      cases h2:kx p l q with
      |true=>exact bB (.inr h2) H
      |false=>rfl
    have B:f[q]=ak:=by
     rw[<-K];cases t:f.getD q ak with
     |true=>exact bB (.inl t) H
     |false=>rfl
    have E:f.set q ak=f:=by
     have h:=List.set_getElem_self (as:=f) (i:=q) O
     rwa [B] at h
    rw[G,E];refine ad.loop (λz:List Bool×Int=>z=(f,0)) (λ_=>0) ?_ n _ rfl O;rintro w z rfl X;dsimp only;refine ad.aD (λz=>z=ak) (λKa d=>ae (r _ _ bK) (ad.cond (λ_=>ae (bl F) (d _ B)) λ_=>d _ rfl)) λz a=>?_;subst a;refine b8 ?_;rw[<-s];exact L _ rfl
   dsimp only;unfold sU;rw[List.drop_of_length_le (by rw[cZ];omega)];rfl
  have e:j=l.length:=O
  rw[N,e];exact ae (Mf (by rw[qF];omega) (by rw[qF];omega)) (ad.some rfl)
theorem Hv(a:l.length<=120):(gL p l l.length).length<=15000:=by have c:=xq p l l.length;have d:l.length*l.length<=120*120:=oL a a;omega
def k2{k:Type}(p:k->k->Bool):List k->List k->Bool
 | [],[]=>ab
 |a::as,b::c=>p a b&&k2 p as c
 |_,_=>ak
theorem GU{k:Type}{p:k->k->Bool}: ∀{a b:List k},k2 p a b=ab->a.length=b.length
 | [],[],_=>rfl
 |a::as,b::c,h=>by
  simp only[k2,b9] at h;simp[GU h.2]
 | [],b::c,h=>by cases h
 |a::as,[],h=>by cases h
theorem G4{f:k->k->Option Bool}{p:k->k->Bool}{a b:List k}(s: ∀x∈a,∀y∈b,f x y=aa (p x y))(K:a.length<n)(L:a.length<=1000000):
  (bif !decide ((a.length:Int)=(b.length:Int)) then(aa ak) else(bn (λd (e:Int)=>bif ag (e<(a.length:Int)) then(bO (ax a e) λw=>bO (ax b e) λz=>bO (f w z) λA=>bif !A then(aa ak) else(d (wr (e+1)))) else(aa ab)) n 0))=aa (k2 p a b):=by
 refine ad.eq (fl (λh=>ad.some ?_) λh=>?_)
 ·cases c:k2 p a b with
  |false=>rfl
  |true=>exact bB (by rw[GU c]) h
 refine ad.loop (λx:Int=> ∃i:Nat,x=i/\i<=a.length/\k2 p (a.drop i) (b.drop i)=k2 p a b) (λx=>a.length-x.toNat) ?_ n 0 ⟨0,rfl,O,rfl⟩ O;rintro l x ⟨i,rfl,Q,c⟩ B;refine aW (λC=>?_) λF=>ad.some ?_
 ·have m:i<a.length:=O
  have o:i<b.length:=O
  have q:=bp m;have bb:=bp o;refine ae (bl q) (ae (bl bb) (ae (s _ (bx q) _ (bx bb)) ?_));rw[lG m,lG o] at c;simp only[k2] at c;cases r:p a[i] b[i] with
  |false=>rw[r] at c;exact bX (ad.some c)
  |true=>
   rw[r,gp] at c;refine b8 ?_;rw[bc O];exact B _ ⟨i+1,O,O,c⟩ O
 have G:a.drop i=[]:=lH O;have H:b.drop i=[]:=lH O;rw[G,H] at c;exact c
theorem Ob{a b:List Int}(B:a.length<n)(C:a.length<=1000000):
  (bif !decide ((a.length:Int)=(b.length:Int)) then(aa ak) else(bn (λc (d:Int)=>bif ag (d<(a.length:Int)) then(bO (ax a d) λo=>bO (ax b d) λp=>bif !decide (o=p) then(aa ak) else(c (wr (d+1)))) else(aa ab)) n 0))=aa (ag (a=b)):=by
 refine ad.eq (fl (λh=>ad.some ?_) λh=>?_)
 ·exact(bJ λe=>h (by rw[e])).symm
 refine ad.loop (λx:Int=> ∃i:Nat,x=i/\i<=a.length/\a.take i=b.take i) (λx=>a.length-x.toNat) ?_ n 0 ⟨0,rfl,O,rfl⟩ O;rintro k x ⟨i,rfl,F,q⟩ r;refine aW (λs=>?_) λw=>ad.some ?_
 ·have y:i<a.length:=O
  have z:i<b.length:=O
  have m:=bp y;have bb:=bp z;refine ae (bl m) (ae (bl bb) ?_);refine fl (λl=>ad.some ?_) λA=>?_
  ·exact(bJ λe=>l (by subst e;rfl)).symm
  rw[bc O];exact r _ ⟨i+1,O,O,by rw[gE m,gE bb,q,A]⟩ O
 have G:a.take i=a:=l9 O
 grind
theorem VQ{a b:List Int}(c:a.length<n)(d:a.length<=1000000):tX n a b=aa (ag (a=b)):=by unfold tX;exact Ob c d
theorem Mx{a b:List Int}(c:a.length<n)(d:a.length<=1000000):xI n a b=aa (ag (a=b)):=by unfold xI;exact Ob c d
theorem Vl(k:5000<=n){a b:az}(d:kf a):kN n a b=aa (rq a b):=by unfold kf at d;unfold kN rq;have h:=VQ (n:=n) (a:=a.aT) (b:=b.aT) O O;refine ad.eq (ad.aD (λz=>z=(ag (a.aT=b.aT)&&ag (a.const=b.const))) (λj c=>ae h (ad.cond (λe=>c _ (by rw[e];rfl)) λe=>c _ (by rw[e];rfl))) λz i=>ad.some i)
theorem Vw(k:5000<=n){a b:az}(d:kf a):zw n a b=aa (rq a b):=by unfold kf at d;unfold zw rq;have h:=Mx (n:=n) (a:=a.aT) (b:=b.aT) O O;refine ad.eq (ad.aD (λz=>z=(ag (a.aT=b.aT)&&ag (a.const=b.const))) (λj c=>ad.cond (λe=>ae h (c _ (by rw[e,Bool.and_true]))) λe=>c _ (by rw[e,k5])) λz i=>ad.some i)
theorem F4: ∀a b:List az,k2 rq a b=oI a b
 | [],[]=>rfl
 |a::as,b::c=>by simp only[k2,oI,F4 as c]
 | [],b::c=>rfl
 |a::as,[]=>rfl
theorem LI(h:5000<=n){a b:List az}(c:ll a):d8 n a b (λd e=>kN n d e)=aa (oI a b):=by unfold d8;rw[<-F4];exact G4 (f:=λd e=>kN n d e) (λx i y _=>Vl h (c.2 x i)) (by have:=c.1;omega) (by have:=c.1;omega)
theorem LF(d:5000<=n){a b:List az}(c:ll a):zv n a b=aa (oI a b):=by unfold zv;rw[<-F4];exact G4 (f:=λe h=>zw n e h) (λx i y _=>Vw d (c.2 x i)) (by have:=c.1;omega) (by have:=c.1;omega)
end
def vx(B:Nat)(l:List az):Bool:=db l.length B&&l.all λa=>db a.aT.length B
def I8(B:Nat)(a:List Loop):Bool:=db a.length B&&a.all λl=>vx B l.lo&&vx B l.hi
def yD(B:Nat):Nat->Expr->Bool
 |0,_=>ak
 |L+1,e=>db e.bj.length B&&(db e.index.aT.length B&&(vx B e.read.bz&&e.bj.all (yD B L)))
def RQ(B:Nat)(s:Stmt):Bool:=vx B s.write.bz&&yD B 5 s.value
def RO(B:Nat)(x:Part):Bool:=I8 B x.nest&&(db x.body.length B&&x.body.all (RQ B))
def RP(B:Nat)(l:List cn):Bool:=db l.length B&&l.all λx=>db x.b1.length B
def I7(B:Nat)(p:Prog):Bool:=RP B p.aP&&(db p.parts.length B&&p.parts.all (RO B))
variable {B:Nat}{l:List (List UInt8)}{s:List UInt8}{k:Int}{r:cJ}
theorem CT{l:List az}(h:vx B l=ab):fp B l:=by simp only[vx,b9,hS] at h;exact⟨eO h.1,λa c=>eO (h.2 a c)⟩
theorem UK{l:List Loop}(h:I8 B l=ab):k9 B l:=by simp only[I8,b9,hS] at h;exact⟨eO h.1,λa c=>⟨CT (h.2 a c).1,CT (h.2 a c).2⟩⟩
theorem Re{B:Nat}: ∀{L:Nat} {e:Expr},yD B L e=ab->jc B L e
 |0,e,h=>by simp[yD] at h
 |L+1,e,h=>by simp only[yD,b9,hS] at h;exact⟨eO h.1,eO h.2.1,CT h.2.2.1,λk a=>Re (h.2.2.2 k a)⟩
theorem UL{p:Prog}(h:I7 B p=ab):dn B p:=by simp only[I7,RP,RO,RQ,b9,hS] at h;exact⟨⟨eO h.1.1,λa e=>eO (h.1.2 a e)⟩,eO h.2.1,λx c=>⟨UK (h.2.2 x c).1,eO (h.2.2 x c).2.1,λs d=>⟨CT ((h.2.2 x c).2.2 s d).1,Re ((h.2.2 x c).2.2 s d).2⟩⟩⟩
def IJ(a t:List UInt8):Bool:=match cat a t with
 |some x=>match tM N x with
  |some (p,_)=>I7 10 p
  |none=>ak
 |none=>ak
theorem ab3{t:List UInt8}(h:l.all (IJ s)=ab)(d:t∈l): ∃x q,cat s t=aa x/\tM N x=aa q/\dn 10 q.1:=by
 have h:=gP.1 h t d;unfold IJ at h;cases c:cat s t with
 |none=>rw[c] at h;cases h
 |some x=>
  rw[c] at h;dsimp only at h;cases a:tM N x with
  |none=>rw[a] at h;cases h
  |some q=>rw[a] at h;exact⟨x,q,rfl,a,UL h⟩
theorem PR{R:Type}(e:c6 k r)(i:k<=1000000000)(m:l≠[])(h:l.all (IJ s)=ab){K:List UInt8×cJ->List UInt8->Prog×Bool->Option R}{Q:R->Prop}
  (o: ∀a c d,c6 (k+1) a.2->dn 10 d.1->ad (K a c d) Q):ad (bO (qB N r l) λa=>bO (cat s a.1) λc=>bO (tM N c) λd=>K a c d) Q:=by
 refine ch (De N e i m) λa ⟨n,p⟩=>?_;obtain⟨x,q,w,y,z⟩:=ab3 h n
 grind
theorem aaN(e:c6 k r)(n:0<=k/\k<=900000):ad (BA N r) (λx=>dn 10 x.1/\c6 (k+210000) x.2):=by
 unfold BA;refine PR e O aX Y λo p q a h=>?_;refine ad.aD (λz=>c6 (k+2) ⟨z.1,z.2.1⟩) (λj c=>?_) λz d=>?_
 ·exact ad.cond (λ_=>ch (j3 N a O) λs ⟨_,_,i⟩=>c _ (i.mono O)) λ_=>c _ (a.mono O)
 exact ad.cond (λ_=>ad.some ⟨h,d.mono O⟩) λ_=>ch (aaP d O) λw ⟨l,m⟩=>ad.some ⟨l,m.mono O⟩
theorem Zs(e:c6 k r)(n:0<=k/\k<=800000):ad (A8 N r) (λx=>dn 10 x.1/\c6 (k+220000) x.2):=by
 unfold A8;refine PR e O aX Y λo p q a h=>?_;refine ad.aD (λz=>c6 (k+2) ⟨z.1,z.2.1⟩) (λj c=>?_) λz d=>?_
 ·exact ad.cond (λ_=>ch (j3 N a O) λs ⟨_,_,i⟩=>c _ (i.mono O)) λ_=>c _ (a.mono O)
 exact ad.cond (λ_=>ad.some ⟨h,d.mono O⟩) λ_=>ch (aaN d O) λw ⟨l,m⟩=>ad.some ⟨l,m.mono O⟩
end Go.Lift
