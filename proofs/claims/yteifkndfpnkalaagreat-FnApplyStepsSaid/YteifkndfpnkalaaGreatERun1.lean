/- Tools. -/
import Derived.Test.YteifkndfpnkalaaGreatELawDraw
set_option maxRecDepth 100000
set_option linter.unusedVariables false
namespace Go.Lift
open Go
open Option renaming some -> aa, bind -> bN
open Bool renaming true -> ab, false -> ak, and_eq_true -> b9
open Decidable renaming decide -> ag
open List renaming all_eq_true -> hT, replicate -> dA
open Nat renaming ble -> db
section
variable {n i q:Nat}{a x b:bO}{p:Prog}{m o:List Int}{k R:Type}{l:List bO}{c:Int}{f:k->R}
theorem Yz(l:5000<=n){a:List Int}(h:a.length<=1000):xy n a a=aa ab:=by refine ad.eq ?_;unfold xy;refine fl (λh=>bB rfl h) λ_=>?_;refine ad.loop (λx:Int=>0<=x/\x<=a.length) (λx=>(a.length-x).toNat) ?_ n 0 ⟨O,O⟩ O;rintro c x ⟨i,m⟩ k;refine aW (λd=>?_) λ_=>ad.some rfl;obtain⟨y,e,_⟩:=gU i d;refine ae e (ae e (fl (λh=>bB rfl h) λ_=>?_));rw[bc O];exact k _ ⟨O,O⟩ O
def fH(k:Nat)(x:bO):bO:=⟨x.part+(k:Int),x.stmt,x.bU⟩
theorem aiQ(k i:Nat)(x:Part):ew (k+i) x=(ew i x).map (fH k):=by
 unfold ew;rw[jt];congr 1;funext q;rw[fv];congr 1;funext m;simp only[Function.comp,fH,Int.natCast_add]
 grind
theorem y5(a b:List Part):I (a++b)=I a++(I b).map (fH a.length):=by unfold I;rw[List.zipIdx_append,mc,jt,dQ];congr 1;have e:b.zipIdx a.length=b.zipIdx.map (λy=>(y.1,a.length+y.2)):=List.zipIdx_eq_map_add;rw[e,pG];congr 1;funext y;exact aiQ a.length y.2 y.1
theorem wI{R k:Type}{f g:k->R->k}: ∀{l:List R} {b:k},(∀x∈l,∀b,f b x=g b x)->l.foldl f b=l.foldl g b
 | [],_,_=>rfl
 |x::l,b,h=>by simp only[List.foldl_cons];rw[h x aX b];exact wI λy a=>h y (by simp[a])
theorem hG(p:Prog)(m:List Int)(a b:List bO):c4 p m (a++b)=c4 p (c4 p m a) b:=by unfold c4;rw[List.foldl_append]
theorem aeI(h:bG p=ab)(a:fD p.aQ m):p4 p m=ab:=by simp only[p4,b9,decide_eq_true_eq,hT];exact⟨h,a.1,a.2⟩
theorem Qy(h:bG p=ab)(a:fD p.aQ m):m.length<=1000:=by
 obtain⟨d,c,_⟩:=dZ h
 have:=P2 c
 have:=a.1;omega
def wb:List Loop->List Int->List Int->Bool
 | [],_,[]=>ab
 |l::ls,p,v::a=>decide (cP l p<=v/\v<dd l p)&&wb ls (p++[v]) a
 |_,_,_=>ak
theorem x0: ∀(ls:List Loop) (p q:List Int),q∈cW ls p↔ ∃a,q=p++a/\wb ls p a=ab
 | [],p,q=>by
  simp only[cW,List.mem_singleton];constructor
  ·rintro rfl;exact⟨[],aX,rfl⟩
  rintro⟨a,rfl,h⟩;cases a with
  |nil=>simp
  |cons=>simp[wb] at h
 |l::ls,p,q=>by
  simp only[cW,List.mem_flatMap,x3];constructor
  ·rintro⟨v,c,d⟩;obtain⟨a,rfl,h⟩:=(x0 ls (p++[v]) q).1 d;exact⟨v::a,aX,by simp[wb,c,h]⟩
  rintro⟨a,rfl,h⟩;cases a with
  |nil=>simp[wb] at h
  |cons v a=>
   simp only[wb,b9,decide_eq_true_eq] at h;exact⟨v,h.1,(x0 ls (p++[v]) _).2 ⟨a,aX,h.2⟩⟩
theorem gF{l:List k}{x:k}(h:l[i]? =aa x):l.take (i+1)=l.take i++[x]:=by rw[eO,h];rfl
def c3(p:Prog)(x:bO):Nat:=match ep p x with
 |some s=>(dS p.aQ s.write x.bU 0).toNat
 |none=>0
def rc(p:Prog)(x:bO):List Int:=match ep p x with
 |some s=>(dv 5 s.value).map (λa=>dS p.aQ a x.bU 0)
 |none=>[]
def uQ(p:Prog)(m:List Int)(x:bO):Int:=match ep p x with
 |some s=>er 5 p.aQ m s.value x.bU
 |none=>0
theorem Qk{list:List cg}(c:i8 list){a:b0}{q:List Int}(h:0<=dS list a q 0):dS list a q 0<gK list:=by rcases Cm c a q 0 (gu 0) with bT|bT<;>omega
theorem oz(e:bG p=ab)(o:da p x):(c3 p x:Int)<gK p.aQ/\(∀c∈rc p x,0<=c/\c<gK p.aQ)/\(rc p x).length<=12/\ ∀m,eI p m x=m.set (c3 p x) (uQ p m x):=by obtain⟨i,k,P,s,d,F,G,H,K,q,r,L,w⟩:=oA e o;obtain⟨Q,h,R,y,z⟩:=dZ e;obtain⟨A,l⟩:=Cl w;obtain⟨W,X,Z,B⟩:=gl r;unfold c3 rc uQ eI;rw[q];dsimp only;refine⟨by have:=Qk h A;omega,λc C=>?_,by rw[dJ];exact B,λm=>rfl⟩;obtain⟨a,n,rfl⟩:=eA.1 C;exact⟨l a n,Qk h (l a n)⟩
theorem XQ(v:7100<=n)(m:bG p=ab)(A:da p x):DS n p x=aa (rc p x,(c3 p x:Int)):=by
 obtain⟨i,k,P,s,d,B,C,F,G,o,H,q,K⟩:=oA m A;obtain⟨r,w,D,L,Q⟩:=dZ m;obtain⟨E,I⟩:=Cl K;obtain⟨W,X,Z,M⟩:=gl H;obtain⟨n,rfl⟩: ∃j,n=j+1:=⟨n-1,O⟩
 have h:tO (n+1) p x=aa s:=by
  unfold tO;rw[B,C,bl F];show bN (ax P.body (k:Int)) _=_;rw[bl G];rfl
 have b:(c3 p x:Int)=dS p.aQ s.write x.bU 0:=by unfold c3;rw[o];dsimp only;omega
 have f:rc p x=(dv 5 s.value).map (λa=>dS p.aQ a x.bU 0):=by unfold rc;rw[o]
 rw[b,f];refine ad.eq ?_;unfold DS;refine ae h (ae (Gk (d:=d) 5 n s.value O O X) ?_);generalize N:dv 5 s.value=R at*;refine ad.loop (λz:List Int×Int=> ∃i:Nat,z.2=i/\i<=R.length/\z.1=(R.take i).map λa=>dS p.aQ a x.bU 0) (λz=>R.length-z.2.toNat) ?_ (n+1) _ ⟨0,rfl,O,aX⟩ J;rintro l ⟨out,z⟩ ⟨i,y,S,c⟩ g;dsimp only at y c⊢;subst y;refine aW (λt=>?_) λu=>?_
 ·have bL:=bp (O:i<R.length);refine ae (bl bL) (ae (wX O r w (Z _ (bx bL)) q) (ae (c' (by rw[c,dJ,cZ,sv];omega)) ?_));rw[bc O];refine g _ ⟨i+1,J,O,?_⟩ J;dsimp only;rw[gF bL,eN,c];rfl
 have e:i=R.length:=O
 refine ae (wX O r w W q) (ad.some ?_);rw[c,e,dW]
theorem aa3(H:7100<=n)(c:bG p=ab)(l:da p x): ∃P s,ax p.parts x.part=aa P/\ax P.body x.stmt=aa s/\wT n p.aQ s x.bU=aa (rc p x,(c3 p x:Int),ab):=by
 obtain⟨i,k,P,s,d,m,o,q,r,e,w,y,h⟩:=oA c l;obtain⟨z,A,K,B,C⟩:=dZ c;obtain⟨L,Q⟩:=Cl h;have F:(c3 p x:Int)=dS p.aQ s.write x.bU 0:=by unfold c3;rw[e];dsimp only;omega
 have G:rc p x=(dv 5 s.value).map (λa=>dS p.aQ a x.bU 0):=by unfold rc;rw[e]
 refine⟨P,s,by rw[m];exact bl q,by rw[o];exact bl r,?_⟩;rw[L7 O z A w y,aR h,F,G]
theorem N9{r:List cg}{m l:List Int}{q:List Int}{d:Int}: ∀{L:Nat} {e:Expr},dq L e d=ab->(∀a∈dv L e,m.getD (dS r a q 0).toNat 0=l.getD (dS r a q 0).toNat 0)->er L r m e q=er L r l e q
 |0,e,h,_=>by cases h
 |L+1,e,h,n=>by
  obtain⟨w,x,p⟩:=gk h;simp only[er];split
  ·rfl
  split
  ·rfl
  split
  ·rename_i ey;exact n _ (by simp[dv,ey])
  have i: ∀c∈e.bk,er L r m c q=er L r l c q:=λc o=>
   N9 (p c o) λa s=>n a (by simp only[dv,List.mem_append,List.mem_flatMap];exact .inr ⟨c,o,s⟩)
  split
  ·rename_i a b k;rw[k] at i;rw[i a aX,i b aX]
  rfl
theorem PZ(e:bG p=ab)(l:da p x){m':List Int}(h: ∀c∈rc p x,m.getD c.toNat 0=m'.getD c.toNat 0):uQ p m x=uQ p m' x:=by obtain⟨i,k,P,s,d,r,w,y,z,n,o,A,B⟩:=oA e l;unfold uQ;unfold rc at h;rw[n] at h⊢;exact N9 (gl o).2.1 λa q=>h _ (E3 q)
theorem uO(l:List k)(i j:Nat)(x d:k):(l.set i x).getD j d=if i=j/\i<l.length then x else l.getD j d:=by
 rw[eQ,eQ,List.getElem?_set];split
 ·rename_i h;subst h;split
  ·rename_i a;rw[aR ⟨rfl,a⟩];rfl
  rename_i a;rw[aP O,q' O]
 rename_i h;rw[aP λa=>h a.1]
theorem ab'{a b:List Int}(h:a.length=b.length)(e: ∀c,c<a.length->a.getD c 0=b.getD c 0):a=b:=by
 refine List.ext_getElem h λi d k=>?_
 have:=e i d;rw[eQ,eQ,bp d,bp k] at this;exact this
theorem Cy{p:Prog}(a:bG p=ab): ∀{l:List bO} {m:List Int},(∀x∈l,da p x)->(c4 p m l).length=m.length
 | [],m,_=>rfl
 |x::l,m,h=>by show(c4 p (eI p m x) l).length=_;rw[Cy a (λy c=>h y (by simp[c])),(oz a (h x aX)).2.2.2,e6]
def mP(l:List Bool):List Int:=((List.range l.length).filter λi=>l.getD i ak).map (fun(i:Nat)=>(i:Int))
theorem YJ{l:List Bool}(s:l.length<n)(m:l.length<=1000):wD n l=aa (mP l):=by
 refine ad.eq ?_;unfold wD;refine ad.loop (λz:List Int×Int=> ∃i:Nat,z.2=i/\i<=l.length/\z.1.length<=i/\z.1=((List.range i).filter λi=>l.getD i ak).map (fun(i:Nat)=>(i:Int))) (λz=>l.length-z.2.toNat) ?_ n _ ⟨0,rfl,O,aX,aX⟩ J;rintro d ⟨out,z⟩ ⟨i,a,w,qt,c⟩ o;dsimp only at a c qt⊢;subst a;refine aW (λp=>?_) λq=>ad.some ?_
 ·have bL:=bp (O:i<l.length);have r:l.getD i ak=l[i]:=by rw[eQ,bL];rfl
  refine ad.aD (λz=>z.length<=i+1/\z=((List.range (i+1)).filter λi=>l.getD i ak).map (fun(i:Nat)=>(i:Int))) (λj k=>ae (bl bL) (ad.cond (λh=>ae (c' (by rw[sv];omega)) (k _ ?_)) λh=>k _ ?_)) λz a=>?_
  ·refine⟨by rw[ea,sv];omega,?_⟩;rw[pI,pL,eN,<-c];simp[bL,h]
  ·refine⟨O,?_⟩;rw[pI,pL,eN,<-c];simp[bL,h]
  rw[bc O];exact o _ ⟨i+1,J,O,a.1,a.2⟩ J
 have e:i=l.length:=O
 rw[c,e];rfl
theorem Mn{l:List Bool}(c:l.length<n)(a:l.length<=1000):wD n l=aa (mP l):=YJ c a
theorem Mp(l:List Bool):(mP l).length<=l.length:=by unfold mP;rw[dJ];exact iF (List.length_filter_le _ _) aX
theorem FV{l:List Bool}:c∈mP l↔0<=c/\l.getD c.toNat ak=ab:=by
 unfold mP;simp only[List.mem_map,List.mem_filter,List.mem_range];constructor
 ·rintro⟨i,⟨e,a⟩,rfl⟩;exact⟨O,by rw[cf];exact a⟩
 rintro⟨e,a⟩;refine⟨c.toNat,⟨?_,a⟩,O⟩;refine w5 λd=>?_;rw[eQ,q' d] at a;cases a
theorem XT(c:7000<=n)(d:jB p): ∃L,tp n p=aa (L,bG p)/\(bG p=ab->L=I p.parts):=by
 rw[KT c d];cases a:kz p with
 |false=>
  refine⟨[],?_,λh=>?_⟩
  ·rw[aP aX,show bG p=ak by unfold bG;rw[a];rfl]
  unfold bG at h;rw[a] at h;cases h
 |true=>
  refine⟨I p.parts,?_,λ_=>rfl⟩;rw[aR rfl,show bG p=ag ((I p.parts).length<=120) by
   unfold bG;rw[a,Bool.true_and];exact decide_eq_decide.2 (by have:=y6 p.parts;omega)]
abbrev jn(p:Prog):Nat:=(gK p.aQ).toNat
theorem Rq{n:Int}(h:0<=n/\n<=1000000000)(x:k):mk n x=aa (dA n.toNat x):=by unfold mk;rw[aR h]
def pick(l:List bO)(o:List Int):List bO:=o.filterMap λc=>l[c.toNat]?
theorem GI(h:l[c.toNat]? =aa x):pick l (o++[c])=pick l o++[x]:=by unfold pick;rw[List.filterMap_append];simp[h]
theorem O4(h:x∈pick l o):x∈l:=by
 unfold pick at h
 grind
def o2(p:Prog)(a b:bO):Prop:=(c3 p a:Int)∈rc p b\/(c3 p b:Int)∈rc p a\/c3 p a=c3 p b
def od(p:Prog)(a b:bO):Prop:= ∀m,fD p.aQ m->eI p (eI p m a) b=eI p (eI p m b) a
theorem QV(a:bG p=ab)(d:da p b){w:Nat}(h:(w:Int)∉rc p b)(m:List Int)(v:Int):uQ p (m.set w v) b=uQ p m b:=by
 refine PZ a d λc e=>?_;have i:=(oz a d).2.1 c e
 grind
theorem swap(c:bG p=ab)(d:da p a)(i:da p b)(h: ¬o2 p a b):od p a b:=by intro m _;have n:(c3 p a:Int)∉rc p b:=λe=>h (.inl e);have o:(c3 p b:Int)∉rc p a:=λe=>h (.inr (.inl e));have q:c3 p a≠c3 p b:=λe=>h (.inr (.inr e));have k:=(oz c d).2.2.2;have l:=(oz c i).2.2.2;rw[k,l,l,k,QV c i n,QV c d o,List.set_comm _ _ q]
def mf(p:Prog)(a b:bO):Int:=(if(c3 p a:Int)∈rc p b then 1 else 0)+(if(c3 p b:Int)∈rc p a then 2 else 0)+(if c3 p a=c3 p b then 4 else 0)
theorem afp(p:Prog)(a b:bO):0<=mf p a b/\mf p a b<=7:=by
 unfold mf
 grind
theorem abf(h:mf p a b=0): ¬o2 p a b:=by
 unfold mf at h;rintro(e|e|e)
 ·rw[aR e] at h
  grind
 ·rw[aR e] at h
  grind
 rw[aR e] at h
 grind
def mM(p:Prog)(l:List bO)(i k:Nat):Int:=match l[i]?,l[k]? with
 |some a,aa b=>mf p a b
 |_,_=>0
theorem u2{k:Nat}(c:l[i]? =aa a)(d:l[k]? =aa b):mM p l i k=mf p a b:=by unfold mM;rw[c,d]
theorem UM(p:Prog)(l:List bO)(i k:Nat):0<=mM p l i k/\mM p l i k<=7:=by
 unfold mM;split
 ·exact afp _ _ _
 omega
def l6(p:Prog)(l:List bO)(i j:Nat):List gv:=((List.range j).filter λk=>decide (i<k)&&ag (mM p l i k≠0)).map (fun(k:Nat)=>(⟨(i:Int),(k:Int),mM p l i k⟩:gv))
def gM(p:Prog)(l:List bO)(n:Nat):List gv:=(List.range n).flatMap λi=>l6 p l i l.length
theorem Fy(p:Prog)(l:List bO){j:Nat}(h:i<j):l6 p l i (j+1)=l6 p l i j++(if mM p l i j=0 then [] else [⟨(i:Int),(j:Int),mM p l i j⟩]):=by
 unfold l6;rw[pI,pL,eN]
 grind
theorem Gp(p:Prog)(l:List bO)(i:Nat): ∀j,j<=i+1->l6 p l i j=[]
 |0,_=>rfl
 |j+1,h=>by have a:=Gp p l i j O;unfold l6 at a⊢;rw[pI,pL,eN,a];simp[show¬i<j by omega]
theorem Gn(p:Prog)(l:List bO)(n:Nat):gM p l (n+1)=gM p l n++l6 p l n l.length:=by unfold gM;rw[pI,mc];simp
theorem Gq(p:Prog)(l:List bO)(i j:Nat):(l6 p l i j).length<=j:=by
 unfold l6
 grind
theorem xr(p:Prog)(l:List bO): ∀n,(gM p l n).length<=n*l.length
 |0=>by simp[gM]
 |n+1=>by
  rw[Gn,ea,eu,Nat.one_mul]
  have:=xr p l n
  have:=Gq p l n l.length;omega
theorem xO{d:gv}:d∈gM p l l.length↔ ∃i k:Nat,i<k/\k<l.length/\mM p l i k≠0/\d=⟨(i:Int),(k:Int),mM p l i k⟩:=by
 unfold gM l6;simp only[List.mem_flatMap,List.mem_range,List.mem_map,List.mem_filter,b9,decide_eq_true_eq]
 grind
def places(o:List Int):Nat->List Int
 |0=>dA o.length 0
 |k+1=>(places o k).set (o.getD k 0).toNat (k:Int)
theorem Ps(r:bG p=ab)(o: ∀x∈l,da p x)(i k:Nat)(a b:bO)(c:i<k)(q:l[i]? =aa a)(n:l[k]? =aa b)(h: ∀d∈gM p l l.length,¬(d.1=(i:Int)/\d.2=(k:Int))):od p b a:=by
 by_cases e:mM p l i k=0
 ·rw[u2 q n] at e;have hs:=swap r (o _ (bx q)) (o _ (bx n)) (abf e);exact λm s=>(hs m s).symm
 exact bB ⟨rfl,rfl⟩ (h _ (xO.2 ⟨i,k,c,(bS.1 n).1,e,rfl⟩))
def ju(p:Prog)(l:List bO)(i:Nat):Int:=match l[i]? with
 |some a=>(c3 p a:Int)
 |none=> -1
def wO(p:Prog)(l:List bO)(i:Nat):List Int:=match l[i]? with
 |some a=>rc p a
 |none=>[]
theorem sb(h:l[i]? =aa a):ju p l i=(c3 p a:Int):=by unfold ju;rw[h]
theorem xM(h:l[i]? =aa a):wO p l i=rc p a:=by unfold wO;rw[h]
def hP(p:Prog)(l:List bO)(c:Int):Nat->Int
 |0=> -1
 |i+1=>if ju p l i=c then(i:Int) else hP p l c i
theorem QS(p:Prog)(l:List bO)(c:Int): ∀i,-1<=hP p l c i/\hP p l c i<(i:Int)
 |0=>by simp[hP]
 |i+1=>by have:=QS p l c i;unfold hP;split<;>omega
theorem QR{p:Prog}{l:List bO}{c:Int}: ∀{i s:Nat},hP p l c i=(s:Int)->ju p l s=c/\s<i/\ ∀t,s<t->t<i->ju p l t≠c
 |0,s,h=>by simp[hP] at h
 |i+1,s,h=>by
  unfold hP at h;split at h
  ·rename_i e
   have:i=s:=O
   subst this;exact⟨e,O,λt d k=>O⟩
  rename_i e;obtain⟨d,k,m⟩:=QR h;refine⟨d,O,λt n o=>?_⟩;by_cases a:t=i
  ·rw[a];exact e
  exact m t n O
theorem Qa{p:Prog}{l:List bO}{c:Int}{s:Nat}: ∀{i:Nat},ju p l s=c->s<i->(∀t,s<t->t<i->ju p l t≠c)->hP p l c i=(s:Int)
 |0,_,h,_=>bB h (q6 _)
 |i+1,d,m,k=>by
  unfold hP;by_cases e:s=i
  ·subst e;rw[aR d]
  rw[aP (k i O O)];exact Qa d O λt a b=>k t a O
def ky(p:Prog)(l:List bO)(i:Nat):Bool:= !(l.drop (i+1)).any λx=>decide ((c3 p x:Int)=ju p l i)
theorem aba(n:i<l.length):ky p l i=ab↔ ∀t,i<t->t<l.length->ju p l t≠ju p l i:=by
 unfold ky;rw[Bool.not_eq_true',List.any_eq_false];constructor
 ·intro h t o a e;have c:(l.drop (i+1))[t-(i+1)]? =aa l[t]:=by
   grind
  refine h _ (bx c) ?_;rw[sb (bp a)] at e
  grind
 intro h x d q;obtain⟨k,m,rfl⟩:=List.getElem_of_mem d;rw[fM] at m;refine h (i+1+k) O O ?_;rw[sb (bp (O:i+1+k<l.length))]
 grind
def kK(f:List Bool)(a:List Int):List Bool:=a.foldl (λf s=>if 0<=s then f.set s.toNat ab else f) f
theorem Ca: ∀(a:List Int) (f:List Bool),(kK f a).length=f.length
 | [],f=>rfl
 |s::a,f=>by
  show(kK (if 0<=s then f.set s.toNat ab else f) a).length=_;rw[Ca];split
  ·rw[e6]
  rfl
theorem Bg(f:List Bool)(a:List Int)(s:Int):kK f (a++[s])=if 0<=s then(kK f a).set s.toNat ab else kK f a:=by unfold kK;rw[List.foldl_append];rfl
theorem Hf{i:Nat}: ∀{a:List Int} {f:List Bool},i<f.length->((kK f a).getD i ak=ab↔f.getD i ak=ab\/(i:Int)∈a)
 | [],f,_=>by simp[kK]
 |s::a,f,h=>by
  show(kK (if 0<=s then f.set s.toNat ab else f) a).getD i ak=ab↔_;rw[Hf (by split;rw[e6];exact h;exact h),ez];by_cases c:0<=s
  ·rw[aR c,uO];by_cases e:s.toNat=i
   ·rw[aR ⟨e,O⟩];simp[show(i:Int)=s by omega]
   rw[aP λd=>e d.1]
   have: ¬(i:Int)=s:=O
   simp[this]
  rw[aP c]
  have: ¬(i:Int)=s:=O
  simp[this]
def gB(p:Prog)(l:List bO)(i:Nat):List Int:=(wO p l i).map λc=>hP p l c i
def gn(p:Prog)(l:List bO):Nat->List Bool
 |0=>dA l.length ak
 |j+1=>if(gn p l j).getD (l.length-1-j) ak=ab\/ky p l (l.length-1-j)=ab then kK ((gn p l j).set (l.length-1-j) ab) (gB p l (l.length-1-j)) else gn p l j
theorem qG(p:Prog)(l:List bO): ∀j,(gn p l j).length=l.length
 |0=>by simp[gn]
 |j+1=>by
  unfold gn;split
  ·rw[Ca,e6,qG p l j]
  exact qG p l j
theorem Px{k:Nat}:(i:Int)∈gB p l k↔ ∃c∈wO p l k,hP p l c k=(i:Int):=by unfold gB;rw[List.mem_map]
theorem adG{k:Nat}(h:(i:Int)∈gB p l k):i<k:=by obtain⟨c,_,h⟩:=Px.1 h;exact(QR h).2.1
theorem N6(p:Prog)(l:List bO): ∀j,j<=l.length-> ∀i,i<l.length->((gn p l j).getD i ak=ab↔(l.length-j<=i/\ky p l i=ab)\/ ∃k,l.length-j<=k/\k<l.length/\(gn p l j).getD k ak=ab/\(i:Int)∈gB p l k)
 |0,_,i,n=>by
  have y:(gn p l 0).getD i ak=ak:=by
   unfold gn;rw[List.getD_eq_getElem?_getD,List.getElem?_replicate];split<;>rfl
  rw[y];constructor
  ·intro h;cases h
  rintro(⟨h,_⟩|⟨k,c,a,_⟩)<;>omega
 |j+1,C,i,n=>by
  have o:=N6 p l j O;obtain⟨q,x⟩: ∃q,l.length-1-j=q:=⟨_,rfl⟩
  have z:l.length-j=q+1:=O
  have A:l.length-(j+1)=q:=O
  rw[z] at o;rw[A];have w:q<(gn p l j).length:=by rw[qG];omega
  by_cases r:(gn p l j).getD q ak=ab\/ky p l q=ab
  ·have b2:gn p l (j+1)=kK ((gn p l j).set q ab) (gB p l q):=by
    conv=>lhs;unfold gn
    rw[x,aR r]
   have get: ∀t,t<l.length->((gn p l (j+1)).getD t ak=ab↔(t=q\/(gn p l j).getD t ak=ab)\/(t:Int)∈gB p l q):=λt B=>by
    rw[b2,Hf (by rw[e6,qG];exact B),uO];by_cases e:q=t
    ·subst e;rw[aR ⟨rfl,w⟩];simp
    rw[aP λh=>e h.1]
    have: ¬t=q:=λh=>e h.symm;simp[this]
   rw[get i n];constructor
   ·rintro((rfl|h)|h)
    ·rcases r with h|h
     ·rcases(o i n).1 h with ⟨c,_⟩|⟨k,c,a,d,m⟩
      ·omega
      exact .inr ⟨k,O,a,(get k a).2 (.inl (.inr d)),m⟩
     exact .inl ⟨cR _,h⟩
    ·rcases(o i n).1 h with ⟨c,a⟩|⟨k,c,a,d,m⟩
     ·exact .inl ⟨O,a⟩
     exact .inr ⟨k,O,a,(get k a).2 (.inl (.inr d)),m⟩
    exact .inr ⟨q,cR _,O,(get q O).2 (.inl (.inl rfl)),h⟩
   rintro(⟨c,a⟩|⟨k,c,a,d,m⟩)
   ·by_cases e:i=q
    ·exact .inl (.inl e)
    exact .inl (.inr ((o i n).2 (.inl ⟨O,a⟩)))
   by_cases e:k=q
   ·subst e;exact .inr m
   rcases(get k a).1 d with (s|s)|s
   ·exact bB s e
   ·exact .inl (.inr ((o i n).2 (.inr ⟨k,O,a,s,m⟩)))
   have:=adG s;omega
  have b2:gn p l (j+1)=gn p l j:=by
   conv=>lhs;unfold gn
   rw[x,aP r]
  rw[b2,o i n];constructor
  ·rintro(⟨c,a⟩|⟨k,c,a,d,m⟩)
   ·exact .inl ⟨O,a⟩
   exact .inr ⟨k,O,a,d,m⟩
  rintro(⟨c,a⟩|⟨k,c,a,d,m⟩)
  ·by_cases e:i=q
   ·subst e;exact bB (.inr a) r
   exact .inl ⟨O,a⟩
  by_cases e:k=q
  ·subst e;exact bB (.inl d) r
  exact .inr ⟨k,O,a,d,m⟩
abbrev ib(p:Prog)(l:List bO):List Bool:=gn p l l.length
theorem ab9(a:i<l.length):(ib p l).getD i ak=ab↔ky p l i=ab\/ ∃k,k<l.length/\(ib p l).getD k ak=ab/\(i:Int)∈gB p l k:=by
 have:=N6 p l l.length (cR _) i a
 grind
def I7(p:Prog)(l:List bO)(k c:Nat):Prop:=(∃j,k<=j/\j<l.length/\(ib p l).getD j ak=ab/\(c:Int)∈wO p l j/\ ∀t,k<=t->t<j->ju p l t≠(c:Int))\/(∀t,k<=t->t<l.length->ju p l t≠(c:Int))
def qP(f:List Bool)(k:Nat):List Int:=((List.range k).filter λi=>f.getD i ak).map (fun(i:Nat)=>(i:Int))
theorem LR(f:List Bool)(k:Nat):qP f (k+1)=qP f k++(if f.getD k ak=ab then [(k:Int)] else []):=by
 unfold qP;rw[pI,pL,eN]
 grind
theorem Mh(f:List Bool):qP f f.length=mP f:=rfl
def ru(a b:az):Bool:=ag (a.aT=b.aT)&&ag (a.const=b.const)
def oL:List az->List az->Bool
 | [],[]=>ab
 |a::as,b::c=>ru a b&&oL as c
 |_,_=>ak
theorem ae5{a b:az}(h:ru a b=ab):a=b:=by
 obtain⟨c,k⟩:=a;obtain⟨d,e⟩:=b;simp only[ru,b9,decide_eq_true_eq] at h
 grind
theorem G8: ∀{a b:List az},oL a b=ab->a=b
 | [],[],_=>rfl
 |a::as,b::c,h=>by
  simp only[oL,b9] at h;rw[ae5 h.1,G8 h.2]
 | [],b::c,h=>by cases h
 |a::as,[],h=>by cases h
theorem Rb: ∀d∈gM p l l.length,0<=d.1/\d.1<d.2/\d.2<(l.length:Int):=by
 intro d a;obtain⟨i,k,c,e,h,rfl⟩:=xO.1 a
 grind
theorem FG{l:List Int}(o:l.length<n)(p:l.length<=1000)(v:Int):wh n l v=aa (ag (v∈l)):=by
 refine ad.eq ?_;unfold wh;refine cq (P:=λi=>decide ((0:Int)<=i)=ag (v∈l)) ?_ λx c=>ad.some c;unfold FQ;refine ad.loop (λz:Int=> ∃i:Nat,z=i/\i<=l.length/\v∉l.take i) (λz=>l.length-z.toNat) ?_ n 0 ⟨0,rfl,O,aX⟩ O;rintro a z ⟨i,rfl,q,d⟩ h;refine aW (λk=>?_) λm=>ad.some ?_
 ·have bL:=bp (O:i<l.length);refine ae (bl bL) (aW (λe=>ad.some ?_) λe=>?_)
  ·rw[bK O,bK];rw[e];exact bx bL
  rw[bc O];refine h _ ⟨i+1,O,O,?_⟩ O;rw[gF bL,eC,pK]
  grind
 have e:i=l.length:=O
 grind
theorem Hl{l:List Int}(m:l.length<n)(o:l.length<=1000)(v:Int):u0 n l v=aa (ag (v∈l)):=by
 refine ad.eq ?_;unfold u0;refine ad.loop (λz:Int=> ∃i:Nat,z=i/\i<=l.length/\v∉l.take i) (λz=>l.length-z.toNat) ?_ n 0 ⟨0,rfl,O,aX⟩ O;rintro a z ⟨i,rfl,p,c⟩ d;refine aW (λh=>?_) λk=>ad.some ?_
 ·have bL:=bp (O:i<l.length);refine ae (bl bL) (aW (λe=>ad.some ?_) λe=>?_)
  ·rw[bK];rw[<-e];exact bx bL
  rw[bc O];refine d _ ⟨i+1,O,O,?_⟩ O;rw[gF bL,eC,pK]
  grind
 have e:i=l.length:=O
 grind
def gY(p:Prog):oW:=⟨p,I p.parts,(I p.parts).map (rc p),(I p.parts).map λx=>(c3 p x:Int)⟩
theorem l0{l:List k}{x:k}(h:l[i]? =aa x):(l.map f)[i]? =aa (f x):=by rw[eL,h];rfl
theorem BF{l:List k}{x:k}(h:l[i]? =aa x):(l.take (i+1)).map f=(l.take i).map f++[f x]:=by rw[gF h,eN];rfl
theorem z6(A:7100<=n)(m:jB p):t6 n p=aa (if bG p=ab then(aa (gY p),ab) else(none,ak)):=by
 obtain⟨L,o,q⟩:=XT (n:=n) O m;refine ad.eq ?_;unfold t6;refine ae o ?_;dsimp only;cases h:bG p with
 |false=>exact ad.some rfl
 |true=>
  rw[q h];have r:=(dZ h).2.2.2.2;refine b6 (ad.loop (λz:List (List Int)×List Int×Int=> ∃i:Nat,z.2.2=i/\i<=(I p.parts).length/\z.1=((I p.parts).take i).map (rc p)/\z.2.1=((I p.parts).take i).map λx=>(c3 p x:Int)) (λz=>(I p.parts).length-z.2.2.toNat) ?_ n _ ⟨0,rfl,O,rfl,rfl⟩ (by first|omega|(dsimp only;omega)));rintro k ⟨a,b,z⟩ ⟨i,l,B,c,d⟩ s;dsimp only at l c d⊢;subst l;refine aW (λw=>?_) λy=>ad.some ?_
  ·have bL:=bp (O:i<(I p.parts).length);refine ae (bl bL) (ae (XQ O h (fe (bx bL))) (ae (c' (by rw[c,dJ,cZ,sv];omega)) (ae (c' (by rw[d,dJ,cZ,sv];omega)) ?_)));rw[bc O];exact s _ ⟨i+1,J,O,by dsimp only;rw[BF bL,c],by dsimp only;rw[BF bL,d]⟩ J
  have e:i=(I p.parts).length:=O
  rw[c,d,e,dW];rfl
def nd(p:Prog):List lQ:=(I p.parts).map λx=>(⟨rc p x,(c3 p x:Int)⟩:lQ)
theorem GW(l:7100<=n)(c:bG p=ab):xf n p=aa (nd p):=by
 have m:=(dZ c).2.2.2.2;refine ad.eq ?_;unfold xf nd;refine ae (wg O c) (ad.loop (λz:List lQ×Int=> ∃i:Nat,z.2=i/\i<=(I p.parts).length/\z.1=((I p.parts).take i).map λx=>(⟨rc p x,(c3 p x:Int)⟩:lQ)) (λz=>(I p.parts).length-z.2.toNat) ?_ n _ ⟨0,rfl,O,rfl⟩ J);rintro d ⟨a,z⟩ ⟨i,k,B,h⟩ o;dsimp only at k h⊢;subst k;refine aW (λq=>?_) λr=>ad.some ?_
 ·have bL:=bp (O:i<(I p.parts).length);obtain⟨P,s,w,y,A⟩:=aa3 l c (fe (bx bL));refine ae (bl bL) (ae w (ae y (ae A (ae (c' (by rw[h,dJ,cZ,sv];omega)) ?_))));rw[bc O];exact o _ ⟨i+1,J,O,by dsimp only;rw[BF bL,h]⟩ J
 have e:i=(I p.parts).length:=O
 grind
theorem sQ(c:bG p=ab)(d: ∀x∈l,da p x)(h:l[i]? =aa a):(rc p a).length<=12:=(oz c (d _ (bx h))).2.2.1
theorem QA{Q:R->Prop}{A B:Option Bool}(q:A=aa (ag ((c3 p a:Int)∈rc p b)))(r:B=aa (ag ((c3 p b:Int)∈rc p a))){c:Int->Option R}(h:ad (c (mf p a b)) Q):
  ad (aD (fun(m:Int)=>aD (fun(i:Int)=>aD c λk=>bif ag ((c3 p a:Int)=(c3 p b:Int)) then(k (wr (i+4))) else(k i))
   λn=>bN B λs=>bif s then(n (wr (m+2))) else(n m))
   λo=>bN A λw=>bif w then(o (wr (0+1))) else(o 0)) Q:=by
 refine ad.aD (λz=>z=if(c3 p a:Int)∈rc p b then 1 else 0) (λj d=>ae q (aW (λe=>d _ (by rw[aR e];rfl)) λe=>d _ (by rw[aP e]))) λz l=>?_;subst l;refine ad.aD (λz=>z=(if(c3 p a:Int)∈rc p b then 1 else 0)+if(c3 p b:Int)∈rc p a then 2 else 0) (λj d=>ae r (aW (λe=>d _ ?_) λe=>d _ ?_)) λz l=>?_
 ·rw[aR e];split<;>rfl
 ·rw[aP e,Int.add_zero]
 subst l;refine ad.aD (λz=>z=mf p a b) (λj d=>aW (λe=>d _ ?_) λe=>d _ ?_) λz l=>by subst l;exact h
 ·unfold mf;rw[aR (O:c3 p a=c3 p b)];split<;>split<;>rfl
 unfold mf;rw[aP (show¬c3 p a=c3 p b by omega),Int.add_zero]
theorem XU(r:7100<=n)(h:bG p=ab){k:Nat}(c:(I p.parts)[i]? =aa a)(d:(I p.parts)[k]? =aa b):D2 n (gY p) (i:Int) (k:Int)=aa (mM p (I p.parts) i k):=by rw[u2 c d];have s:=sQ h (λx e=>fe e) c;have w:=sQ h (λx e=>fe e) d;have l:ax (gY p).reads (i:Int)=aa (rc p a):=bl (l0 c);have m:ax (gY p).reads (k:Int)=aa (rc p b):=bl (l0 d);have o:ax (gY p).jR (i:Int)=aa (c3 p a:Int):=bl (l0 c);have q:ax (gY p).jR (k:Int)=aa (c3 p b:Int):=bl (l0 d);refine ad.eq ?_;unfold D2;rw[l,m,o,q];exact QA (FG O O _) (FG O O _) (ad.some rfl)
theorem YP(c:7100<=n)(d:(rc p a).length<=12)(e:(rc p b).length<=12):A1 n ⟨rc p a,(c3 p a:Int)⟩ ⟨rc p b,(c3 p b:Int)⟩=aa (mf p a b):=by refine ad.eq ?_;unfold A1;exact QA (Hl O O _) (Hl O O _) (ad.some rfl)
theorem GR(L:7100<=n)(F:bG p=ab):wm n (gY p)=aa (gM p (I p.parts) (I p.parts).length):=by
 have s:=(dZ F).2.2.2.2;refine ad.eq ?_;unfold wm;rw[show(gY p).list=I p.parts from rfl];generalize m:I p.parts=l at*;have Q: ∀x∈l,da p x:=λx R=>fe (by rw[m];exact R);refine ad.loop (λz:List gv×Int=> ∃i:Nat,z.2=i/\i<=l.length/\z.1=gM p l i) (λz=>l.length-z.2.toNat) ?_ n _ ⟨0,rfl,O,rfl⟩ J;rintro w ⟨a,z⟩ ⟨i,o,g,A⟩ W;dsimp only at o A⊢;subst o;refine aW (λX=>?_) λZ=>ad.some ?_
 ·have bL:=bp (O:i<l.length);rw[bc O];refine ad.loop (λz:List gv×Int=> ∃j:Nat,z.2=j/\i<j/\j<=l.length/\z.1=gM p l i++l6 p l i j) (λz=>l.length-z.2.toNat) ?_ n _ ⟨i+1,J,O,O,by dsimp only;rw[A,Gp p l i _ (cR _),ke]⟩ J;rintro q ⟨b,y⟩ ⟨j,G,c,t,r⟩ B;dsimp only at G r⊢;subst G;refine aW (λH=>?_) λK=>?_
  ·have C:=bp (O:j<l.length);have d:=XU L F (i:=i) (k:=j) (by rw[m];exact bL) (by rw[m];exact C);rw[m] at d;have f:=(UM p l i j).1;refine ad.aD (λz=>z=gM p l i++l6 p l i (j+1)) (λu h=>ae d (aW (λe=>ae (c' ?_) (h _ ?_)) λe=>h _ ?_)) λz o=>?_
   ·have v:=xr p l i;have D:=Gq p l i j;have E:i*l.length<=120*120:=oP O s
    grind
   ·rw[r,Fy p l c,aP O,fN]
   ·rw[r,Fy p l c,aR O,ke]
   subst o;rw[bc O];exact B _ ⟨j+1,J,O,O,rfl⟩ J
  have e:j=l.length:=O
  try rw[bc O]
  exact W _ ⟨i+1,J,O,by dsimp only;rw[r,e,Gn]⟩ J
 have e:i=l.length:=O
 rw[A,e]
theorem GY(H:7100<=n)(q:bG p=ab):xg n p=aa (gM p (I p.parts) (I p.parts).length):=by
 have A:=(dZ q).2.2.2.2;refine ad.eq ?_;unfold xg;refine ae (GW H q) ?_;have B:(nd p).length=(I p.parts).length:=by unfold nd;rw[dJ]
 have d: ∀(i:Nat) x,(I p.parts)[i]? =aa x->ax (nd p) (i:Int)=aa ⟨rc p x,(c3 p x:Int)⟩:=λi x h=>bl (l0 h);rw[B];generalize nd p=u at*;generalize R:I p.parts=l at*;have k: ∀x∈l,da p x:=λx W=>fe (by rw[R];exact W);refine ad.loop (λz:List gv×Int=> ∃i:Nat,z.2=i/\i<=l.length/\z.1=gM p l i) (λz=>l.length-z.2.toNat) ?_ n _ ⟨0,rfl,O,rfl⟩ J;rintro C ⟨a,z⟩ ⟨i,r,t,F⟩ X;dsimp only at r F⊢;subst r;refine aW (λZ=>?_) λf=>ad.some ?_
 ·have bL:=bp (O:i<l.length);rw[bc O];refine ad.loop (λz:List gv×Int=> ∃j:Nat,z.2=j/\i<j/\j<=l.length/\z.1=gM p l i++l6 p l i j) (λz=>l.length-z.2.toNat) ?_ n _ ⟨i+1,J,O,O,by dsimp only;rw[F,Gp p l i _ (cR _),ke]⟩ J;rintro s ⟨b,y⟩ ⟨j,K,m,v,w⟩ G;dsimp only at K w⊢;subst K;refine aW (λL=>?_) λQ=>?_
  ·have c:=bp (O:j<l.length);have g:=YP H (sQ q k bL) (sQ q k c);refine ad.aD (λz=>z=gM p l i++l6 p l i (j+1)) (λD o=>ae (d _ _ bL) (ae (d _ _ c) (ae g (fl (λe=>ae (c' ?_) (o _ ?_)) λe=>o _ ?_)))) λz r=>?_
   ·have E:=xr p l i;have M:=Gq p l i j;have N:i*l.length<=120*120:=oP O A
    grind
   ·rw[w,Fy p l m,u2 bL c,aP e,fN]
   ·rw[w,Fy p l m,u2 bL c,aR e,ke]
   subst r;rw[bc O];exact G _ ⟨j+1,J,O,O,rfl⟩ J
  have e:j=l.length:=O
  try rw[bc O]
  exact X _ ⟨i+1,J,O,by dsimp only;rw[w,e,Gn]⟩ J
 have e:i=l.length:=O
 rw[F,e]
theorem AY(p:Prog)(l:List bO)(c:Int)(i:Nat):hP p l c (i+1)=if ju p l i=c then(i:Int) else hP p l c i:=rfl
theorem XR(D:7100<=n)(K:bG p=ab)(R:i<(I p.parts).length):D1 n (gY p) (i:Int)=aa (gB p (I p.parts) i):=by
 have W:=(dZ K).2.2.2.2;have r: ∀x∈I p.parts,da p x:=λx X=>fe X;have w:=bp R;have E:=sQ K r w;have Z:ax (gY p).reads (i:Int)=aa (rc p (I p.parts)[i]):=bl (l0 w);refine ad.eq ?_;unfold D1 gB;rw[xM w,Z];generalize rc p (I p.parts)[i]=d at*;have A:wr ((i:Int)-1)=(i:Int)-1:=bc O;rw[A];refine ae rfl (ad.loop (λz:List Int×Int=> ∃k:Nat,z.2=k/\k<=d.length/\z.1=(d.take k).map λc=>hP p (I p.parts) c i) (λz=>d.length-z.2.toNat) ?_ n _ ⟨0,rfl,O,rfl⟩ J);rintro h ⟨a,z⟩ ⟨k,m,M,B⟩ b;dsimp only at m B⊢;subst m;refine aW (λf=>?_) λg=>ad.some ?_
 ·have bL:=bp (O:k<d.length);refine ae (bl bL) ?_;have C: ∀y:Int,y=hP p (I p.parts) d[k] i->ad (bN (app a [y]) λF=>h (F,wr ((k:Int)+1))) (λx=>x=d.map λc=>hP p (I p.parts) c i):=by
   intro y t;refine ae (c' (by rw[B,dJ,cZ,sv];omega)) ?_;rw[bc O];exact b _ ⟨k+1,J,O,by dsimp only;rw[BF bL,B,t]⟩ J
  refine ad.loop (λz:Int=> ∃s:Nat,z=(s:Int)-1/\s<=i/\hP p (I p.parts) d[k] i=hP p (I p.parts) d[k] s) (λz=>(z+1).toNat) ?_ n _ ⟨i,rfl,cR _,rfl⟩ O;rintro o z ⟨s,rfl,N,l⟩ G;refine ad.aD (λz=>z=ab/\(∃q,s=q+1/\ju p (I p.parts) q≠d[k])\/z=ak/\(s:Int)-1=hP p (I p.parts) d[k] i) (λj L=>aW (λu=>?_) λu=>L _ (.inr ⟨rfl,?_⟩)) λz m=>?_
  ·obtain⟨q,rfl⟩: ∃q,s=q+1:=⟨s-1,O⟩
   have Q:=bp (O:q<(I p.parts).length);have v:ax (gY p).jR (((q+1:Nat):Int)-1)=aa (ju p (I p.parts) q):=by
    rw[show((q+1:Nat):Int)-1=(q:Int) by omega,sb Q];exact bl (l0 Q)
   refine ae v ?_;by_cases e:ju p (I p.parts) q=d[k]
   ·rw[bK e];refine L _ (.inr ⟨rfl,?_⟩);rw[l,AY,aR e];omega
   rw[bJ e]
   grind
  ·have:s=0:=O
   subst this;rw[l];rfl
  rcases m with ⟨rfl,q,rfl,H⟩|⟨rfl,m⟩
  ·refine bY ?_;rw[bc O];exact G _ ⟨q,O,O,by rw[l,AY,aP H]⟩ O
  exact b6 (C _ m)
 have e:k=d.length:=O
 grind
theorem X2(B:7100<=n)(o:bG p=ab)(C:i<=(I p.parts).length)(c:Int):Ao n (nd p) (i:Int) c=aa (hP p (I p.parts) c i):=by
 have r:=(dZ o).2.2.2.2;have k: ∀(i:Nat) x,(I p.parts)[i]? =aa x->ax (nd p) (i:Int)=aa ⟨rc p x,(c3 p x:Int)⟩:=λi x h=>bl (l0 h);refine ad.eq ?_;unfold Ao;rw[bc O];refine ad.loop (λz:Int=> ∃s:Nat,z=(s:Int)-1/\s<=i/\hP p (I p.parts) c i=hP p (I p.parts) c s) (λz=>(z+1).toNat) ?_ n _ ⟨i,rfl,cR _,rfl⟩ O;rintro d z ⟨s,rfl,F,a⟩ l;refine aW (λw=>?_) λw=>ad.some ?_
 ·obtain⟨q,rfl⟩: ∃q,s=q+1:=⟨s-1,O⟩
  have m:=bp (O:q<(I p.parts).length);have y:=k _ _ m;have A:((q+1:Nat):Int)-1=(q:Int):=O
  rw[A];refine ae y (aW (λe=>ad.some ?_) λe=>?_)
  ·dsimp only at e;rw[a,AY,sb m,aR e]
  dsimp only at e;rw[bc O];exact l _ ⟨q,O,O,by rw[a,AY,sb m,aP e]⟩ O
 have:s=0:=O
 subst this;rw[a];rfl
theorem ae4{f:bO->Int}{w:Int}:ag (w∈l.map f)=l.any (λx=>decide (f x=w)):=by grind
theorem M3(p:Prog)(l:List bO)(j q:Nat)(h:l.length-1-j=q):gn p l (j+1)=if(gn p l j).getD q ak=ab\/ky p l q=ab then kK ((gn p l j).set q ab) (gB p l q) else gn p l j:=by subst h;rfl
theorem Pj{k:Nat}{y:Int}(h:(gB p l q)[k]? =aa y): -1<=y/\y<(q:Int):=by
 unfold gB at h;rw[eL] at h;cases a:(wO p l q)[k]? with
 |none=>rw[a] at h;cases h
 |some c=>rw[a] at h;cases h;exact QS p l c q
theorem aaF(u:7100<=n)(K:bG p=ab):Em n (gY p)=aa (ib p (I p.parts)):=by
 have v:=(dZ K).2.2.2.2;have L: ∀x∈I p.parts,da p x:=λx D=>fe D;have Q:=fun(i:Nat) h=>XR u K (i:=i) h;have a:(gY p).jR.length=(I p.parts).length:=by unfold gY;dsimp only;rw[dJ]
 have w:(gY p).jR=(I p.parts).map (λx=>(c3 p x:Int)):=rfl;refine ad.eq ?_;unfold Em;refine ae (Rq (n:=((gY p).list.length:Int)) (x:=ak) (by show _/\((I p.parts).length:Int)<=_;omega)) ?_;rw[show((gY p).list.length:Int)=((I p.parts).length:Int) from rfl,cf,a,bc O];generalize rJ:I p.parts=l at*;refine ad.loop (λz:List Bool×Int=> ∃j:Nat,z.2=(l.length:Int)-1-j/\j<=l.length/\z.1=gn p l j) (λz=>(z.2+1).toNat) ?_ n _ ⟨0,J,O,rfl⟩ J;rintro R ⟨f,z⟩ ⟨j,o,hj,F⟩ E;dsimp only at o F⊢;refine aW (λM=>?_) λM=>ad.some ?_
 ·obtain⟨q,N⟩: ∃q,l.length-1-j=q:=⟨_,rfl⟩
  have W:z=(q:Int):=O
  subst W;have A:q<l.length:=O
  have X:f.length=l.length:=by rw[F,qG]
  have bL:=bp A;have s:=bp (O:q<f.length);have Z:f.getD q ak=f[q]:=by rw[eQ,s];rfl
  have c:=M3 p l j q N;rw[<-F] at c;refine ad.aD (λz=>z=gn p l (j+1)) (λrX B=>?_) λz o=>?_
  ·refine ad.aD (λz=>z= !decide (f.getD q ak=ab\/ky p l q=ab)) (λTg d=>ae (bl s) ?_) λz o=>?_
   ·rw[Z] at d;cases bb:f[q] with
    |true=>rw[bb] at d;exact b6 (d _ aX)
    |false=>
     rw[bb] at d;have b:ax (gY p).jR (q:Int)=aa (c3 p l[q]:Int):=by rw[w];exact bl (l0 bL)
     rw[bc O];refine bY (ae (iR O O (by rw[a];omega)) (ae b (ae (FG ?_ ?_ _) (d _ ?_))))
     ·rw[fM,cZ,a];omega
     ·rw[fM,cZ,a];omega
     rw[show(((l.length:Nat):Int)).toNat=l.length by omega,<-a,dW,show(((q:Int)+1)).toNat=q+1 by omega,w,<-List.map_drop,ae4];unfold ky;rw[sb bL];cases (List.drop (q+1) l).any (λx=>decide ((c3 p x:Int)=(c3 p l[q]:Int)))<;>simp
   subst o;by_cases G:f.getD q ak=ab\/ky p l q=ab
   ·rw[bK G];rw[aR G] at c;refine b6 (ae (bl s) (ae (dU ⟨O,O⟩ ab) (ae (Q q A) ?_)));rw[cf];have P:(gB p l q).length<=12:=by unfold gB;rw[dJ,xM bL];exact sQ K L bL
    refine ad.loop (λz:List Bool×Int=> ∃k:Nat,z.2=k/\k<=(gB p l q).length/\z.1=kK (f.set q ab) ((gB p l q).take k)) (λz=>(gB p l q).length-z.2.toNat) ?_ n _ ⟨0,rfl,O,rfl⟩ J;rintro H ⟨g,z⟩ ⟨k,o,hk,m⟩ t;dsimp only at o m⊢;subst o;refine aW (λS=>?_) λT=>B _ ?_
    ·have r:=bp (O:k<(gB p l q).length);have bb:=Pj r;have U:g.length=l.length:=by rw[m,Ca,e6,X]
     refine ad.aD (λz=>z=kK (f.set q ab) ((gB p l q).take (k+1))) (λalE C=>ae (bl r) (aW (λe=>?_) λe=>C _ ?_)) λz o=>?_
     ·obtain⟨y,V,_⟩:=gU (l:=g) e O;refine ae V (ae (dU ⟨e,O⟩ ab) (C _ ?_));rw[gF r,Bg,aR e,m]
     ·rw[gF r,Bg,aP e,m]
     subst o;rw[bc O];exact t _ ⟨k+1,J,O,rfl⟩ J
    have e:k=(gB p l q).length:=O
    rw[m,e,dW,c]
   rw[bJ G];rw[aP G] at c;exact bY (B _ c.symm)
  subst o;rw[bc O];exact E _ ⟨j+1,J,O,rfl⟩ J
 have e:j=l.length:=O
 rw[F,e]
def sV(p:Prog)(l:List bO)(q k:Nat):Bool:= !((l.take k).drop (q+1)).any λx=>decide ((c3 p x:Int)=ju p l q)
theorem YA{k:Nat}(h:q<k)(a:l[k]? =aa b):sV p l q (k+1)=(sV p l q k&& !decide ((c3 p b:Int)=ju p l q)):=by have c:=(bS.1 a).1;unfold sV;rw[gF a,EX (by rw[cZ];omega),uH];simp
theorem UF(cY:7100<=n)(hp:jB p):D8 n p=aa (if bG p=ab then mP (ib p (I p.parts)) else []):=by
 refine ad.eq ?_;unfold D8;refine ae (kN O hp) ?_;cases M:bG p with
 |false=>exact ad.some rfl
 |true=>
  have DA:=(dZ M).2.2.2.2;have S: ∀x∈I p.parts,da p x:=λx hx=>fe hx;have T:(nd p).length=(I p.parts).length:=by unfold nd;rw[dJ]
  have r: ∀(i:Nat) x,(I p.parts)[i]? =aa x->ax (nd p) (i:Int)=aa ⟨rc p x,(c3 p x:Int)⟩:=λi x h=>bl (l0 h);have U:=fun(i:Nat) h=>X2 cY M (i:=i) h;refine b6 (ae (GW cY M) ?_);rw[T,aR rfl];generalize nd p=u at*;generalize rJ:I p.parts=l at*;refine ae (Rq (n:=(l.length:Int)) (x:=ak) O) ?_;rw[cf,bc O];refine ad.loop (λz:List Bool×Int=> ∃j:Nat,z.2=(l.length:Int)-1-j/\j<=l.length/\z.1=gn p l j) (λz=>(z.2+1).toNat) ?_ n _ ⟨0,J,O,rfl⟩ J;rintro C ⟨f,z⟩ ⟨j,a,hj,N⟩ b8;dsimp only at a N⊢;refine aW (λh0=>?_) λh0=>?_
  ·obtain⟨q,dI⟩: ∃q,l.length-1-j=q:=⟨_,rfl⟩
   have V:z=(q:Int):=O
   subst V;have JQ:q<l.length:=O
   have aho:f.length=l.length:=by rw[N,qG]
   have bL:=bp JQ;have F:=bp (O:q<f.length);have K:f.getD q ak=f[q]:=by rw[eQ,F];rfl
   have s:=M3 p l j q dI;rw[<-N] at s;have L: ∀y:Int,y=(q:Int)-1->ad (C (gn p l (j+1),y)) _:=λy hy=>b8 _ ⟨j+1,J,O,rfl⟩ J;have hr:wr ((q:Int)+1)=((q+1:Nat):Int):=by rw[bc O];omega
   have alS:wr ((q:Int)-1)=(q:Int)-1:=bc O;rw[hr,alS];refine ad.loop (λz:Bool×Int=> ∃k:Nat,z.2=k/\q<k/\k<=l.length/\z.1=sV p l q k) (λz=>l.length-z.2.toNat) ?_ n _ ⟨q+1,rfl,O,O,?_⟩ J
   ·rintro P ⟨b,z⟩ ⟨k,a,ah2,hk,bb⟩ yV;dsimp only at a bb⊢;subst a;refine aW (λhlt=>?_) λkr=>?_
    ·have m:=bp (O:k<l.length);have Q:=YA (p:=p) ah2 m;refine ad.aD (λz=>z=sV p l q (k+1)) (λTc A=>?_) λz a=>?_
     ·cases R:b with
      |false=>exact b6 (A _ (by rw[Q,<-bb,R];rfl))
      |true=>
       refine bY (ae (r _ _ m) (ae (r _ _ bL) (A _ ?_)));rw[Q,<-bb,R,sb bL];rfl
     subst a;rw[bc O];exact yV _ ⟨k+1,J,O,O,rfl⟩ J
    have e:k=l.length:=O
    have Du:b=ky p l q:=by rw[bb,e];unfold sV ky;rw[dW]
    refine ad.aD (λz=>z=f.set q (f.getD q ak||ky p l q)) (λKb c=>ae (bl F) ?_) λz a=>?_
    ·rw[K] at c;cases W:f[q] with
     |true=>
      rw[W] at c;refine bY (ae (dU ⟨O,O⟩ ab) (c _ ?_));rw[cf];rfl
     |false=>
      rw[W] at c;refine b6 (ae (dU ⟨O,O⟩ b) (c _ ?_));rw[cf,Du];rfl
    subst a;have hrl:=sQ M S bL;by_cases H:f.getD q ak=ab\/ky p l q=ab
    ·rw[aR H] at s;have G:(f.getD q ak||ky p l q)=ab:=by rcases H with h|h<;>rw[h]<;>simp
     rw[G];have aib:(gB p l q).length=(rc p l[q]).length:=by unfold gB;rw[dJ,xM bL]
     refine ad.loop (λz:List Bool×Int=> ∃k:Nat,z.2=k/\k<=(rc p l[q]).length/\z.1=kK (f.set q ab) ((gB p l q).take k)) (λz=>(rc p l[q]).length-z.2.toNat) ?_ n _ ⟨0,rfl,O,rfl⟩ J;rintro w ⟨g,z⟩ ⟨k,a,hk,o⟩ X;dsimp only at a o⊢;subst a;have akO:g.length=l.length:=by rw[o,Ca,e6,aho]
     have Z:=bp (O:q<g.length);have hgt:g[q]=ab:=by
      have t:g.getD q ak=ab:=by
       rw[o,Hf (by rw[e6];omega),uO,aR ⟨rfl,O⟩];exact .inl rfl
      rwa [eQ,Z] at t
     refine ad.aD (λz=>z=ag (k<(rc p l[q]).length)) (λKc d=>ae (r _ _ bL) (aW (λe=>ae (bl Z) (d _ ?_)) λe=>d _ ?_)) λz a=>?_
     ·dsimp only at e;rw[hgt,bK O]
     ·dsimp only at e;rw[bJ O]
     subst a;refine aW (λe=>?_) λe=>?_
     ·have v:=bp e;have m:(gB p l q)[k]? =aa (hP p l (rc p l[q])[k] q):=by unfold gB;rw[xM bL];exact l0 v
      have bb:=Pj m;refine ad.aD (λz=>z=kK (f.set q ab) ((gB p l q).take (k+1))) (λalE D=>ae (r _ _ bL) (ae (bl v) (ae (U q O _) (aW (λe=>?_) λe=>D _ ?_)))) λz a=>?_
      ·obtain⟨y,hy,_⟩:=gU (l:=g) e O;refine ae hy (ae (dU ⟨e,O⟩ ab) (D _ ?_));rw[gF m,Bg,aR e,o]
      ·rw[gF m,Bg,aP e,o]
      subst a;rw[bc O];exact X _ ⟨k+1,J,O,rfl⟩ J
     have e2:k=(gB p l q).length:=O
     rw[o,e2,dW,<-s];exact L _ rfl
    rw[aP H] at s;have G:(f.getD q ak||ky p l q)=ak:=by
     cases t:f.getD q ak with
     |true=>exact bB (.inl t) H
     |false=>
      cases h2:ky p l q with
      |true=>exact bB (.inr h2) H
      |false=>rfl
    have B:f[q]=ak:=by
     rw[<-K];cases t:f.getD q ak with
     |true=>exact bB (.inl t) H
     |false=>rfl
    have E:f.set q ak=f:=by
     have h:=List.set_getElem_self (as:=f) (i:=q) O
     rwa [B] at h
    rw[G,E];refine ad.loop (λz:List Bool×Int=>z=(f,0)) (λ_=>0) ?_ n _ rfl O;rintro w z rfl X;dsimp only;refine ad.aD (λz=>z=ak) (λKc d=>ae (r _ _ bL) (ad.cond (λ_=>ae (bl F) (d _ B)) λ_=>d _ rfl)) λz a=>?_;subst a;refine b6 ?_;rw[<-s];exact L _ rfl
   dsimp only;unfold sV;rw[List.drop_of_length_le (by rw[cZ];omega)];rfl
  have e:j=l.length:=O
  rw[N,e];exact ae (Mn (by rw[qG];omega) (by rw[qG];omega)) (ad.some rfl)
theorem Hz(a:l.length<=120):(gM p l l.length).length<=15000:=by have c:=xr p l l.length;have d:l.length*l.length<=120*120:=oP a a;omega
def k5{k:Type}(p:k->k->Bool):List k->List k->Bool
 | [],[]=>ab
 |a::as,b::c=>p a b&&k5 p as c
 |_,_=>ak
theorem GV{k:Type}{p:k->k->Bool}: ∀{a b:List k},k5 p a b=ab->a.length=b.length
 | [],[],_=>rfl
 |a::as,b::c,h=>by
  simp only[k5,b9] at h;simp[GV h.2]
 | [],b::c,h=>by cases h
 |a::as,[],h=>by cases h
theorem Hh{f:k->k->Option Bool}{p:k->k->Bool}{a b:List k}(s: ∀x∈a,∀y∈b,f x y=aa (p x y))(K:a.length<n)(L:a.length<=1000000):
  (bif !decide ((a.length:Int)=(b.length:Int)) then(aa ak) else(bm (λd (e:Int)=>bif ag (e<(a.length:Int)) then(bN (ax a e) λw=>bN (ax b e) λz=>bN (f w z) λA=>bif !A then(aa ak) else(d (wr (e+1)))) else(aa ab)) n 0))=aa (k5 p a b):=by
 refine ad.eq (fl (λh=>ad.some ?_) λh=>?_)
 ·cases c:k5 p a b with
  |false=>rfl
  |true=>exact bB (by rw[GV c]) h
 refine ad.loop (λx:Int=> ∃i:Nat,x=i/\i<=a.length/\k5 p (a.drop i) (b.drop i)=k5 p a b) (λx=>a.length-x.toNat) ?_ n 0 ⟨0,rfl,O,rfl⟩ O;rintro l x ⟨i,rfl,Q,c⟩ B;refine aW (λC=>?_) λF=>ad.some ?_
 ·have m:i<a.length:=O
  have o:i<b.length:=O
  have q:=bp m;have bb:=bp o;refine ae (bl q) (ae (bl bb) (ae (s _ (bx q) _ (bx bb)) ?_));rw[lI m,lI o] at c;simp only[k5] at c;cases r:p a[i] b[i] with
  |false=>rw[r] at c;exact bY (ad.some c)
  |true=>
   rw[r,gr] at c;refine b6 ?_;rw[bc O];exact B _ ⟨i+1,O,O,c⟩ O
 have G:a.drop i=[]:=lJ O;have H:b.drop i=[]:=lJ O;rw[G,H] at c;exact c
theorem Of{a b:List Int}(B:a.length<n)(C:a.length<=1000000):
  (bif !decide ((a.length:Int)=(b.length:Int)) then(aa ak) else(bm (λc (d:Int)=>bif ag (d<(a.length:Int)) then(bN (ax a d) λo=>bN (ax b d) λp=>bif !decide (o=p) then(aa ak) else(c (wr (d+1)))) else(aa ab)) n 0))=aa (ag (a=b)):=by
 refine ad.eq (fl (λh=>ad.some ?_) λh=>?_)
 ·exact(bJ λe=>h (by rw[e])).symm
 refine ad.loop (λx:Int=> ∃i:Nat,x=i/\i<=a.length/\a.take i=b.take i) (λx=>a.length-x.toNat) ?_ n 0 ⟨0,rfl,O,rfl⟩ O;rintro k x ⟨i,rfl,F,q⟩ r;refine aW (λs=>?_) λw=>ad.some ?_
 ·have y:i<a.length:=O
  have z:i<b.length:=O
  have m:=bp y;have bb:=bp z;refine ae (bl m) (ae (bl bb) ?_);refine fl (λl=>ad.some ?_) λA=>?_
  ·exact(bJ λe=>l (by subst e;rfl)).symm
  rw[bc O];exact r _ ⟨i+1,O,O,by rw[gF m,gF bb,q,A]⟩ O
 have G:a.take i=a:=ma O
 grind
theorem V4{a b:List Int}(c:a.length<n)(d:a.length<=1000000):tZ n a b=aa (ag (a=b)):=by unfold tZ;exact Of c d
theorem MG{a b:List Int}(c:a.length<n)(d:a.length<=1000000):xJ n a b=aa (ag (a=b)):=by unfold xJ;exact Of c d
theorem VC(k:5000<=n){a b:az}(d:ki a):kQ n a b=aa (ru a b):=by unfold ki at d;unfold kQ ru;have h:=V4 (n:=n) (a:=a.aT) (b:=b.aT) O O;refine ad.eq (ad.aD (λz=>z=(ag (a.aT=b.aT)&&ag (a.const=b.const))) (λj c=>ae h (ad.cond (λe=>c _ (by rw[e];rfl)) λe=>c _ (by rw[e];rfl))) λz i=>ad.some i)
theorem VJ(k:5000<=n){a b:az}(d:ki a):zw n a b=aa (ru a b):=by unfold ki at d;unfold zw ru;have h:=MG (n:=n) (a:=a.aT) (b:=b.aT) O O;refine ad.eq (ad.aD (λz=>z=(ag (a.aT=b.aT)&&ag (a.const=b.const))) (λj c=>ad.cond (λe=>ae h (c _ (by rw[e,Bool.and_true]))) λe=>c _ (by rw[e,k7])) λz i=>ad.some i)
theorem F8: ∀a b:List az,k5 ru a b=oL a b
 | [],[]=>rfl
 |a::as,b::c=>by simp only[k5,oL,F8 as c]
 | [],b::c=>rfl
 |a::as,[]=>rfl
theorem LM(h:5000<=n){a b:List az}(c:ln a):d9 n a b (λd e=>kQ n d e)=aa (oL a b):=by unfold d9;rw[<-F8];exact Hh (f:=λd e=>kQ n d e) (λx i y _=>VC h (c.2 x i)) (by have:=c.1;omega) (by have:=c.1;omega)
theorem LI(d:5000<=n){a b:List az}(c:ln a):zv n a b=aa (oL a b):=by unfold zv;rw[<-F8];exact Hh (f:=λe h=>zw n e h) (λx i y _=>VJ d (c.2 x i)) (by have:=c.1;omega) (by have:=c.1;omega)
end
def vy(B:Nat)(l:List az):Bool:=db l.length B&&l.all λa=>db a.aT.length B
def I'(B:Nat)(a:List Loop):Bool:=db a.length B&&a.all λl=>vy B l.lo&&vy B l.hi
def yE(B:Nat):Nat->Expr->Bool
 |0,_=>ak
 |L+1,e=>db e.bk.length B&&(db e.index.aT.length B&&(vy B e.read.bz&&e.bk.all (yE B L)))
def RY(B:Nat)(s:Stmt):Bool:=vy B s.write.bz&&yE B 5 s.value
def RW(B:Nat)(x:Part):Bool:=I' B x.nest&&(db x.body.length B&&x.body.all (RY B))
def RX(B:Nat)(l:List cg):Bool:=db l.length B&&l.all λx=>db x.b1.length B
def I9(B:Nat)(p:Prog):Bool:=RX B p.aQ&&(db p.parts.length B&&p.parts.all (RW B))
variable {B:Nat}{l:List (List UInt8)}{s:List UInt8}{k:Int}{r:cJ}
theorem CT{l:List az}(h:vy B l=ab):fp B l:=by simp only[vy,b9,hT] at h;exact⟨eP h.1,λa c=>eP (h.2 a c)⟩
theorem U5{l:List Loop}(h:I' B l=ab):la B l:=by simp only[I',b9,hT] at h;exact⟨eP h.1,λa c=>⟨CT (h.2 a c).1,CT (h.2 a c).2⟩⟩
theorem RE{B:Nat}: ∀{L:Nat} {e:Expr},yE B L e=ab->jd B L e
 |0,e,h=>by simp[yE] at h
 |L+1,e,h=>by simp only[yE,b9,hT] at h;exact⟨eP h.1,eP h.2.1,CT h.2.2.1,λk a=>RE (h.2.2.2 k a)⟩
theorem U6{p:Prog}(h:I9 B p=ab):di B p:=by simp only[I9,RX,RW,RY,b9,hT] at h;exact⟨⟨eP h.1.1,λa e=>eP (h.1.2 a e)⟩,eP h.2.1,λx c=>⟨U5 (h.2.2 x c).1,eP (h.2.2 x c).2.1,λs d=>⟨CT ((h.2.2 x c).2.2 s d).1,RE ((h.2.2 x c).2.2 s d).2⟩⟩⟩
def IF(a t:List UInt8):Bool:=match cat a t with
 |some x=>match tN N x with
  |some (p,_)=>I9 10 p
  |none=>ak
 |none=>ak
theorem ab1{t:List UInt8}(h:l.all (IF s)=ab)(d:t∈l): ∃x q,cat s t=aa x/\tN N x=aa q/\di 10 q.1:=by
 have h:=gQ.1 h t d;unfold IF at h;cases c:cat s t with
 |none=>rw[c] at h;cases h
 |some x=>
  rw[c] at h;dsimp only at h;cases a:tN N x with
  |none=>rw[a] at h;cases h
  |some q=>rw[a] at h;exact⟨x,q,rfl,a,U6 h⟩
theorem P3{R:Type}(e:c7 k r)(i:k<=1000000000)(m:l≠[])(h:l.all (IF s)=ab){K:List UInt8×cJ->List UInt8->Prog×Bool->Option R}{Q:R->Prop}
  (o: ∀a c d,c7 (k+1) a.2->di 10 d.1->ad (K a c d) Q):ad (bN (qC N r l) λa=>bN (cat s a.1) λc=>bN (tN N c) λd=>K a c d) Q:=by
 refine cq (Di N e i m) λa ⟨n,p⟩=>?_;obtain⟨x,q,w,y,z⟩:=ab1 h n
 grind
theorem abc(e:c7 k r)(n:0<=k/\k<=900000):ad (BC N r) (λx=>di 10 x.1/\c7 (k+210000) x.2):=by
 unfold BC;refine P3 e O aX Y λo p q a h=>?_;refine ad.aD (λz=>c7 (k+2) ⟨z.1,z.2.1⟩) (λj c=>?_) λz d=>?_
 ·exact ad.cond (λ_=>cq (j6 N a O) λs ⟨_,_,i⟩=>c _ (i.mono O)) λ_=>c _ (a.mono O)
 exact ad.cond (λ_=>ad.some ⟨h,d.mono O⟩) λ_=>cq (abe d O) λw ⟨l,m⟩=>ad.some ⟨l,m.mono O⟩
theorem ZJ(e:c7 k r)(n:0<=k/\k<=800000):ad (A7 N r) (λx=>di 10 x.1/\c7 (k+220000) x.2):=by
 unfold A7;refine P3 e O aX Y λo p q a h=>?_;refine ad.aD (λz=>c7 (k+2) ⟨z.1,z.2.1⟩) (λj c=>?_) λz d=>?_
 ·exact ad.cond (λ_=>cq (j6 N a O) λs ⟨_,_,i⟩=>c _ (i.mono O)) λ_=>c _ (a.mono O)
 exact ad.cond (λ_=>ad.some ⟨h,d.mono O⟩) λ_=>cq (abc d O) λw ⟨l,m⟩=>ad.some ⟨l,m.mono O⟩
end Go.Lift
