/- Tools. -/
import Derived.Test.YtbgbodhagkdffaaGreatDoorSLiftLaw
set_option maxRecDepth 100000
set_option linter.unusedVariables false
namespace Go.Lift
open Go
open Option renaming some -> Y, bind -> ad
open Bool renaming true -> I, false -> ao, and_eq_true -> cJ
open Decidable renaming decide -> ak
open List renaming length_append -> fH, all_eq_true -> hP, length_cons -> fP, length_nil -> ho, replicate -> en, map_cons -> jn, length -> U
open Go.Lib renaming itoa -> eK
open Nat renaming ble -> eh
section
abbrev N:Nat:=100000
def dU(k:Int)(r:e9):Prop:=0<=r.p/\r.p<=k/\(U r.b)<=2000
variable {k:Int}{r:e9}
theorem dU.mono{a:Int}(h:dU k r)(c:k<=a):dU a r:=⟨h.1,by have:=h.2.1;omega,h.2.2⟩
theorem ah3(a:bq):cG (Ec N a) (dU 0):=by unfold Ec;refine bU (λx=>U x<=2000) (λj c=>aS (λh=>ah (g' O O O) (c _ bV)) λh=>c _ O) λz d=>aJ ⟨iT 0,iT 0,d⟩
theorem Vl(x:UInt8):(x.toNat:Int)<=255:=by have:=UInt8.toNat_lt x;omega
theorem A3{n:Int}(h:n≠0):oG n=Y ():=by unfold oG;rw[bh h]
theorem T2{m:Int}(C:dU k r)(hk:k<=1000000000):cG (iY N r m) (λx=>0<=x.1/\(1<=m->x.1<m)/\dU (k+1) x.2):=by
 obtain⟨b,p⟩:=r;obtain⟨c,F,A⟩:=C;dsimp only at c F A;unfold iY;dsimp only;have G:wr (p+1)=p+1:=bt O;have H:wr (p+1-1)=p:=by rw[bt O];omega
 rw[G,H];have a:dU (k+1) ⟨b,p+1⟩:=⟨by show 0<=p+1;omega,by show p+1<=k+1;omega,A⟩
 refine bU (λz=>z=ao->1<=m/\(U b)≠0) (λj B=>aS (λh=>B _ λh=>by cases h) λh=>B _ λK=>⟨O,by simpa using K⟩) λz L=>?_;refine dM (λ_=>aJ ⟨aZ,λh=>bV,a⟩) λd=>?_;obtain⟨hm,br⟩:=L d;refine aS (λe=>?_) λQ=>?_
 ·obtain⟨x,n,_⟩:=hE c e;refine ah n (ah (A3 O) (aJ ⟨?_,λ_=>?_,a⟩))
  ·exact Int.tmod_nonneg _ O
  exact Int.tmod_lt_of_pos _ O
 have oq:1<=(U b:Int)/\(U b:Int)<=2000:=O
 have R:wr (p*7)=p*7:=bt O;have W:wr (p*7+3)=p*7+3:=bt O;rw[R,W];obtain⟨x,n,_⟩:=hE (l:=b) (i:=Int.tmod p (U b)) (Int.tmod_nonneg _ c) (Int.tmod_lt_of_pos _ O);obtain⟨y,X,_⟩:=hE (l:=b) (i:=Int.tmod (p*7+3) (U b)) (Int.tmod_nonneg _ O) (Int.tmod_lt_of_pos _ O);refine ah (A3 O) (ah n (ah (A3 O) (ah X (ah (A3 O) (ah (A3 O) (aJ ⟨?_,λ_=>Int.tmod_lt_of_pos _ O,a⟩))))));refine Int.tmod_nonneg _ ?_;have f:=Vl x;have g:=Vl y;have o:0<=Int.tdiv p (U b):=Int.tdiv_nonneg c O;have w:Int.tdiv p (U b)<=p:=Int.tdiv_le_self _ c;generalize Int.tdiv p (U b)=q at o w;have s:wr ((x.toNat:Int)*131)=(x.toNat:Int)*131:=bt O;have t:wr ((y.toNat:Int)*1117)=(y.toNat:Int)*1117:=bt O;have u:wr (p*29)=p*29:=bt O;have v:wr q=q:=bt O;have E:wr (q*53)=q*53:=bt O;rw[s,t,u,v,E];have P:wr ((x.toNat:Int)*131+(y.toNat:Int)*1117)=(x.toNat:Int)*131+(y.toNat:Int)*1117:=bt O;rw[P];have S:wr ((x.toNat:Int)*131+(y.toNat:Int)*1117+p*29)=(x.toNat:Int)*131+(y.toNat:Int)*1117+p*29:=bt O;rw[S];have T:wr ((x.toNat:Int)*131+(y.toNat:Int)*1117+p*29+q*53)=(x.toNat:Int)*131+(y.toNat:Int)*1117+p*29+q*53:=bt O;rw[T];obtain⟨M,V⟩: ∃M:Nat,(x.toNat:Int)*131+(y.toNat:Int)*1117+p*29+q*53=M:=⟨((x.toNat:Int)*131+(y.toNat:Int)*1117+p*29+q*53).toNat,O⟩
 rw[V];have anN:(M:Int)<=100000000000000:=O
 have l1:Int.tdiv (M:Int) 64=((M / 64:Nat):Int):=by rw[Int.tdiv_eq_ediv_of_nonneg O];omega
 rw[l1,bt O,abu _ _ O O];omega
theorem aiP{l:bo}(c:dU k r)(d:k<=1000000000)(e:l≠[]):cG (hS N r l) (λx=>x.1∈l/\dU (k+1) x.2):=by
 unfold hS;have o:1<=U l:=by cases l;exact bu rfl e;simp
 refine dh (T2 c d) λx ⟨h,i,m⟩=>?_;obtain⟨y,n,a⟩:=hE h (i O);exact ah n (aJ ⟨ca a,m⟩)
end
section
def dot:bo->bo->Int
 |c::cs,x::xs=>c*x+dot cs xs
 |_,_=>0
def dN(m:Int)(x:Int):Prop:= -m<=x/\x<=m
variable {a:aR}{b c x d aO v M:Int}{i k n:Nat}{p l:bo}{R:Type}{A B:aL R}{o:List b4}{s:bq}{Q:R->Prop}
theorem Ge{a:Int}(i:0<=a)(l:0<=b)(d:dN a c)(e:dN b x):dN (a*b) (c*x):=by
 obtain⟨m,n⟩:=d;obtain⟨o,q⟩:=e;constructor
 ·have h:=q3 (O:0<=a+c) (O:0<=b+x);have k:=q3 (O:0<=a-c) (O:0<=b-x)
  grind
 have h:=q3 (O:0<=a+c) (O:0<=b-x);have k:=q3 (O:0<=a-c) (O:0<=b+x)
 grind
theorem Lo(a:bo):dot a []=0:=by cases a<;>rfl
theorem TB: ∀{cs a:bo} {c x:Int},cs[U a]? =Y c->dot cs (a++[x])=dot cs a+c*x
 | [],a,c,x,h=>by simp at h
 |d::cs,[],c,x,h=>by simp at h;subst h;simp[dot,Lo]
 |d::cs,y::a,c,x,h=>by
  have h:cs[U a]? =Y c:=by simpa using h
  simp only[List.cons_append,dot];rw[TB h];omega
theorem TA{d e:bo}(h:d[i]? =Y c)(a:e[i]? =Y x):dot d (e.take (i+1))=dot d (e.take i)+c*x:=by have aO:=(cI.1 a).1;rw[fs,a];exact TB (by simpa[Nat.min_eq_left (Nat.le_of_lt aO)] using h)
theorem Ms{M:Int}(a:0<=M): ∀{cs xs:bo},(∀c∈cs,dN 9 c)->(∀x∈xs,dN M x)->dN (9*M*U xs) (dot cs xs)
 | [],xs,_,_=>by
  have:0<=9*M*(U xs:Int):=q3 O O;simp only[dot,dN];omega
 |d::cs,[],_,_=>by simp[dot,dN]
 |d::cs,y::xs,i,k=>by
  have l:=Ms a (cs:=cs) (xs:=xs) (λc h=>i c (by simp[h])) λx h=>k x (by simp[h]);have m:=Ge O a (i d aZ) (k y aZ);have e:9*M*(U (y::xs):Int)=9*M*(U xs:Int)+9*M:=by simp[Int.mul_add]
  rw[e];simp only[dot,dN] at*;omega
def eU(a c:Int):bo:=(List.range (c-a).toNat).map (fun(i:Nat)=>a+(i:Int))
theorem ahU{a:Int}:v∈eU a aO↔a<=v/\v<aO:=by
 simp only[eU,List.mem_map,List.mem_range];constructor
 ·rintro⟨i,aO,rfl⟩;omega
 intro h;exact⟨(v-a).toNat,O,O⟩
theorem m7{a:Int}(h:b<=a):eU a b=[]:=by unfold eU;rw[show(b-a).toNat=0 by omega];rfl
theorem wZ{a:Int}(h:b<=a):eU b (a+1)=eU b a++[a]:=by
 unfold eU;rw[show(a+1-b).toNat=(a-b).toNat+1 by omega,se,jl]
 grind
theorem Ef{a:Int}(c:a<=v)(d:v<aO):eU a aO=eU a v++v::eU (v+1) aO:=by
 obtain⟨k,e⟩: ∃k:Nat,aO=v+1+k:=⟨(aO-v-1).toNat,O⟩
 subst e;clear d;induction k with
 |zero=>
  rw[show v+1+((0:Nat):Int)=v+1 by omega,wZ c,m7 (iT _)]
 |succ k h=>
  rw[show v+1+((k+1:Nat):Int)=v+1+(k:Int)+1 by omega,wZ O,h,wZ O];simp
theorem FK{k:Type}{f:k->aL Bool}{p:k->Bool}{l:List k}(w: ∀x∈l,f x=Y (p x))(H:U l<n)(z:U l<=1000000):
  ∃r:Int,bH (λa (c:Int)=>bif ak (c<(U l:Int)) then(ad (aC l c) λe=>ad (f e) λi=>bif i then(Y c) else(a (wr (c+1)))) else(Y (-1))) n 0=Y r/\ak (0<=r)=l.any p:=by
 suffices h:cG (bH (λa (c:Int)=>bif ak (c<(U l:Int)) then(ad (aC l c) λe=>ad (f e) λi=>bif i then(Y c) else(a (wr (c+1)))) else(Y (-1))) n 0) (λr=>decide (0<=r)=l.any p) by exact h
 refine cK (λx:Int=>0<=x/\x<=U l/\(l.take x.toNat).any p=ao) (λx:Int=>U l-x.toNat) ?_ n 0 ⟨O,O,aZ⟩ bV;rintro m x ⟨q,K,L⟩ A;refine aS (λo=>?_) λB=>?_
 ·obtain⟨y,C,d⟩:=hE q o;have hm:=ca d;refine ah C (ah (w y hm) (dM (λF=>aJ ?_) λG=>?_))
  ·rw[show l.any p=I from kA.2 ⟨y,hm,F⟩];simp[q]
  rw[bt O];refine A _ ⟨O,O,?_⟩ O;rw[show(x+1).toNat=x.toNat+1 by omega,fs,d]
  grind
 refine aJ ?_;have Q:x.toNat=U l:=O
 grind
theorem Ij{f:Int->aL Bool}{p:Int->Bool}(c: ∀x∈l,f x=Y (p x))(d:U l<n)(a:U l<=1000000):oc n l f=Y (l.any p):=by
 obtain⟨r,e,h⟩:=FK c d a;unfold oc tc
 grind
theorem Ck{f:aR->aL Bool}{p:aR->Bool}{l:List aR}(c: ∀x∈l,f x=Y (p x))(d:U l<n)(a:U l<=1000000):rn n l f=Y (l.any p):=by
 obtain⟨r,e,h⟩:=FK c d a;unfold rn G0
 grind
theorem aaQ{f:cT->aL Bool}{p:cT->Bool}{l:List cT}(c: ∀x∈l,f x=Y (p x))(d:U l<n)(a:U l<=1000000):GY n l f=Y (l.any p):=by
 obtain⟨r,e,h⟩:=FK c d a;unfold GY N5
 grind
theorem ZP{f:dr->aL Bool}{p:dr->Bool}{l:List dr}(c: ∀x∈l,f x=Y (p x))(d:U l<n)(a:U l<=1000000):GR n l f=Y (l.any p):=by
 obtain⟨r,e,h⟩:=FK c d a;unfold GR NZ
 grind
theorem sq{k:Type}{l:List k}{p:Nat->k->Bool}{Q:Bool->Prop}{m:(Int->aL Bool)->Int->aL Bool}(B:U l<n)(w:U l<=1000000)
  (c: ∀a (i:Nat) x,l[i]? =Y x->(p i x=I->cG (a ((i:Int)+1)) Q)->(p i x=ao->Q ao)->cG (m a (i:Int)) Q)
  (o: ∀a,(∀(i:Nat) x,l[i]? =Y x->p i x=I)->cG (m a (U l:Int)) Q) (d:(∃(i:Nat) (x:k),l[i]? =Y x/\p i x=ao)->Q ao):cG (bH m n 0) Q:=by
 refine cK (λx:Int=> ∃i:Nat,x=i/\i<=U l/\ ∀(j:Nat) y,j<i->l[j]? =Y y->p j y=I) (λx:Int=>U l-x.toNat) ?_ n 0 ⟨0,rfl,O,λj y h=>O⟩ bV;rintro a x ⟨i,rfl,C,F⟩ z;by_cases e:i<U l
 ·have q:=bO e;refine c a i _ q (λr=>z _ ⟨i+1,O,O,λj y G H=>?_⟩ O) (λr=>d ⟨i,_,q,r⟩)
  grind
 have A:i=U l:=O
 grind
def dy(a:aR):Bool:=ak (U a.bg=4)&&(ak (-99<=a.cv/\a.cv<=99)&&a.bg.all λc=>decide (-9<=c/\c<=9))
theorem h8(h:dy a=I):U a.bg=4/\dN 99 a.cv/\ ∀c∈a.bg,dN 9 c:=by simp only[dy,cJ,decide_eq_true_eq,hP] at h;exact⟨h.1,h.2.1,h.2.2⟩
theorem k3(n:Nat)(x a b:Int):gO n x a b=Y (ak (a<=x/\x<=b)):=by unfold gO;by_cases c:a<=x<;>by_cases d:x<=b<;>simp[bl,c,d]
theorem Ob(i:5000<=n)(a:aR)(k:U a.bg<=1000):vX n a=Y (dy a):=by
 have h: ∀x∈a.bg,Cj n x=Y (!decide (-9<=x/\x<=9)):=λx _=>by unfold Cj;rw[k3];rfl
 have ch:=Ij (n:=n) h O O;unfold vX zX;rw[k3];simp only[bl,ad];rw[ch];unfold dy;have e:(a.bg.any λx=> !decide (-9<=x/\x<=9))= !(a.bg.all λc=>decide (-9<=c/\c<=9)):=by
  grind
 rw[e];by_cases d:U a.bg=4
 ·rw[cj (show(U a.bg:Int)=4 by omega),cj d]
  grind
 rw[cc (show¬(U a.bg:Int)=4 by omega),cc d];rfl
theorem CU(n:Nat)(x m:Int)(d:0<=m/\m<=1000000000):tS n x m=Y (ak (-m<=x/\x<=m)):=by
 unfold tS;rw[bt O];by_cases a: -m<=x<;>by_cases c:x<=m
 ·simp[bl,a,c]
 ·simp[bl,a,c]
 ·simp[bl,a,c]
 simp[bl,a,c]
theorem N4(B:5000<=n)(a:aR)(C:U a.bg<=1000):vV n a=Y (dy a):=by
 refine bR ?_;unfold vV;refine sq (l:=a.bg) (p:=λ_ c=>decide (-9<=c/\c<=9)) O O (λd i x m o q=>?_) (λd k=>?_) (λ⟨i,x,m,r⟩=>?_)
 ·rw[cj (show(i:Int)<(U a.bg:Int) by have:=(cI.1 m).1;omega)];refine ah (bF m) (ah (CU n x 9 O) ?_);have aO:=(cI.1 m).1;cases r:ak (-9<=x/\x<=9) with
  |true=>show cG (d _) _;rw[bt O];exact o r
  |false=>exact aJ (q r)
 ·rw[cc (show¬(U a.bg:Int)<(U a.bg:Int) by omega)];have e:a.bg.all (λc=>decide (-9<=c/\c<=9))=I:=hL.2 λc y=>by obtain⟨i,aO⟩:=nK y;exact k i c aO
  refine dM (λh=>(by cases h)) λ_=>?_;unfold dy;rw[e];refine bU (λz:Bool=>z=(ak (U a.bg=4)&&(ak (-99<=a.cv/\a.cv<=99)&&I))) (λj w=>?_) λz A=>aJ A;refine aS (λh=>ah (CU n a.cv 99 O) (w _ ?_)) λh=>w _ ?_
  ·rw[cj (O:U a.bg=4)];simp
  rw[cc (show¬U a.bg=4 by omega)];rfl
 unfold dy
 grind
def im(a:aR)(p:bo):Int:=a.cv+dot a.bg p
def Hv(M:Int)(p:bo):Prop:= ∀x∈p,dN M x
theorem Eu(c:dy a=I)(l:U p<=4)(d:0<=M/\M<=1000000000)(e:Hv M p)(i:Nat)(m:i<=U p):dN 1000000000000 (a.cv+dot a.bg (p.take i)):=by
 obtain⟨n,o,h⟩:=h8 c;have q:=Ms (M:=M) d.1 (cs:=a.bg) (xs:=p.take i) h λx k=>e x (hi k);have r:U (p.take i)<=4:=bV
 have w:9*M*(U (p.take i):Int)<=9*M*4:=Int.mul_le_mul_of_nonneg_left O O;simp only[dN] at*;omega
theorem afx(H:5000<=n)(h:dy a=I)(q:U p<=4)(l:0<=M/\M<=1000000000)(m:Hv M p):qw n a p=Y (im a p):=by
 obtain⟨K,L,z⟩:=h8 h;refine bR ?_;unfold qw;refine cK (λx:Int×Int=> ∃i:Nat,x.2=i/\i<=U p/\x.1=a.cv+dot a.bg (p.take i)) (λx=>U p-x.2.toNat) ?_ n _ ⟨0,rfl,O,by simp[Lo]⟩ bV;rintro o ⟨x,k⟩ ⟨i,r,A,w⟩ B;dsimp only at r w⊢;subst r;refine aS (λe=>?_) λC=>aJ ?_
 ·have e:i<U p:=O
  have c:=bO e;have d:=bO (O:i<U a.bg);have cN:=TA d c;have F:=Eu h q l m i A;have y:=Eu h q l m (i+1) O;rw[cN] at y;have G:=Ge O l.1 (z _ (ca d)) (m _ (ca c));refine ah (bF c) (ah (bF d) ?_);simp only[dN] at F y G;rw[bt (n:=a.bg[i]*p[i]) O,bt O,bt O];refine B _ ⟨i+1,Z,O,?_⟩ Z
  grind
 have:i=U p:=O
 rw[w,this,eB];rfl
theorem aeP(R:5000<=n)(e:dy a=I)(r:U p<=4)(l:0<=M/\M<=1000000000)(m:Hv M p):qQ n a p=Y (im a p):=by
 obtain⟨W,X,C⟩:=h8 e;refine bR ?_;unfold qQ;refine cK (λx:Int×Int=> ∃i:Nat,x.2=i/\i<=U p/\x.1=a.cv+dot a.bg (p.take i)) (λx=>U p-x.2.toNat) ?_ n _ ⟨0,rfl,O,by simp[Lo]⟩ bV;rintro o ⟨x,k⟩ ⟨i,w,F,y⟩ G;dsimp only at w y⊢;subst w;refine bU (λz=>z=ak (i<U p)) (λj A=>aS (λh=>A _ ?_) λh=>A _ ?_) λz H=>?_
 ·rw[cj (O:i<U p),cj (show(i:Int)<(U a.bg:Int) by omega)]
 ·rw[cc (show¬i<U p by omega)]
 subst H;refine aS (λq=>?_) λK=>aJ ?_
 ·have c:=bO q;have d:=bO (O:i<U a.bg);have cN:=TA d c;have L:=Eu e r l m i F;have B:=Eu e r l m (i+1) O;rw[cN] at B;have Q:=Ge O l.1 (C _ (ca d)) (m _ (ca c));refine ah (bF d) (ah (bF c) ?_);simp only[dN] at L B Q;rw[bt (n:=a.bg[i]*p[i]) O,bt O,bt O];refine G _ ⟨i+1,Z,O,?_⟩ Z
  grind
 have:i=U p:=O
 rw[y,this,eB];rfl
theorem cB(h:cG A Q):cG (bif I then A else B) Q:=h
theorem cx(h:cG B Q):cG (bif ao then A else B) Q:=h
def gQ:bo->Nat
 | []=>0
 |c::cs=>if gQ cs=0 then(if c=0 then 0 else 1) else gQ cs+1
theorem Qj: ∀(l:bo) (c:Int),gQ (l++[c])=if c=0 then gQ l else U l+1
 | [],c=>by simp[gQ]
 |d::l,c=>by
  have e:=Qj l c;simp only[List.cons_append,gQ,e];by_cases a:c=0
  ·simp[a]
  simp[a]
theorem Qi(h:l[i]? =Y c):gQ (l.take (i+1))=if c=0 then gQ (l.take i) else i+1:=by have aO:=(cI.1 h).1;rw[fs,h];show gQ (l.take i++[c])=_;rw[Qj,dW,Nat.min_eq_left (Nat.le_of_lt aO)]
theorem C5: ∀{l:bo} {i:Nat} {c:Int},l[i]? =Y c->gQ l<=i->c=0
 | [],i,c,h,_=>by simp at h
 |d::l,0,c,h,a=>by
  simp at h;subst h;simp only[gQ] at a;by_cases e:gQ l=0
  ·by_cases k:d=0
   ·exact k
   simp[e,k] at a
  simp[e] at a
 |d::l,i+1,c,h,a=>by
  have h:l[i]? =Y c:=by simpa using h
  refine C5 h ?_;simp only[gQ] at a;by_cases e:gQ l=0
  ·omega
  rw[bh e] at a;omega
def lr(a:aR):Prop:=U a.bg<=1000
def mG(l:List aR):Prop:=U l<=1000/\ ∀a∈l,lr a
theorem Dn(y:5000<=n)(h:lr a):qL n a=Y (gQ a.bg:Int):=by
 have h:U a.bg<=1000:=h;refine bR ?_;unfold qL;refine cK (λx:Int×Int=> ∃i:Nat,x.2=i/\i<=U a.bg/\x.1=(gQ (a.bg.take i):Int)) (λx=>U a.bg-x.2.toNat) ?_ n _ ⟨0,rfl,O,by simp[gQ]⟩ bV;rintro d ⟨x,k⟩ ⟨i,l,A,m⟩ q;dsimp only at l m⊢;subst l;refine aS (λc=>?_) λr=>aJ ?_
 ·have c:i<U a.bg:=O
  have ch:=bO c;have cN:=Qi ch;refine bU (λz:Int=>z=(gQ (a.bg.take (i+1)):Int)) (λj o=>ah (bF ch) (fu (λe=>o _ ?_) λe=>o _ ?_)) λz w=>?_
  ·rw[cN,bh e,bt O];omega
  ·rw[cN,bk e,m]
  rw[bt O];exact q _ ⟨i+1,Z,O,w⟩ Z
 have:i=U a.bg:=O
 grind
theorem DW(w:5000<=n)(q:lr a):tk n a=Y (gQ a.bg:Int):=by
 have q:U a.bg<=1000:=q;refine bR ?_;unfold tk;refine cK (λx:Int=> ∃i:Nat,x=i/\i<=U a.bg/\gQ a.bg=gQ (a.bg.take i)) (λx=>x.toNat) ?_ n _ ⟨U a.bg,rfl,O,by rw[eB]⟩ bV;rintro c x ⟨i,rfl,y,d⟩ r;cases i with
 |zero=>
  refine bU (λz=>z=ao) (λj k=>aS (λh=>bu h (by decide)) λh=>k _ rfl) λz l=>?_;subst l;exact aJ (by rw[d];rfl)
 |succ i=>
  have m:i<U a.bg:=O
  have ch:=bO m;have cN:=Qi ch;have e:wr (((i+1:Nat):Int)-1)=(i:Int):=by rw[bt O];omega
  rw[e];refine bU (λz=>z=ak (a.bg[i]=0)) (λj k=>aS (λh=>ah (bF ch) (k _ rfl)) λh=>bu (show(0:Int)<((i+1:Nat):Int) by omega) h) λz l=>?_;subst l;refine aS (λo=>?_) λo=>aJ ?_
  ·exact r _ ⟨i,rfl,O,by rw[d,cN,bk o]⟩ O
  rw[d,cN,bh o]
def gl(a:aR)(d:Int):Bool:=dy a&&ak ((gQ a.bg:Int)<=d)
def gP(l:List aR)(d:Int):Bool:=l.all (λa=>gl a d)&&ak (1<=U l/\(U l)<=2)
theorem NS(a b:Int):ak (a<b)= !decide (b<=a):=by grind
theorem Qx(A:5000<=n){l:List aR}(F:mG l)(d:Int):Al n l d=Y (gP l d):=by
 obtain⟨K,G⟩:=F;refine bR ?_;unfold Al;refine sq (l:=l) (p:=λ_ a=>gl a d) O O (λk i x q r w=>?_) (λk m=>?_) (λ⟨i,x,q,L⟩=>?_)
 ·have aO:=(cI.1 q).1;have hm:=G x (ca q);rw[cj (show(i:Int)<(U l:Int) by omega)];refine cB (bU (λz=>z= !gl x d) (λj o=>ah (bF q) (ah (N4 A x hm) ?_)) λz y=>?_)
  ·cases B:dy x with
   |false=>exact o _ (by unfold gl;rw[B];rfl)
   |true=>exact ah (Dn A hm) (o _ (by unfold gl;rw[B,NS];simp))
  subst y;cases C:gl x d with
  |true=>show cG (k _) _;rw[bt O];exact r C
  |false=>exact aJ (w C)
 ·rw[cc (show¬(U l:Int)<(U l:Int) by omega)];have e:l.all (λa=>gl a d)=I:=hL.2 λc H=>by obtain⟨i,aO⟩:=nK H;exact m i c aO
  unfold gP;rw[e];refine cx (bU (λz=>z=ak (1<=U l/\(U l)<=2)) (λj o=>aS (λh=>o _ ?_) λh=>o _ ?_) λz y=>aJ (by rw[y];rfl))
  ·by_cases Q:U l<=2
   ·rw[cj (show(U l:Int)<=2 by omega),cj O]
   rw[cc (show¬(U l:Int)<=2 by omega),cc O]
  rw[cc O]
 unfold gP
 grind
theorem Ru(c:5000<=n)(e:lr a)(d:Int):y7 n a d=Y (!gl a d):=by
 unfold y7;rw[Ob c a e];simp only[bl,ad];cases h:dy a with
 |false=>simp[gl,h]
 |true=>
  rw[DW c e];simp only[gl,h,Bool.not_true,cond_false,Bool.true_and];rw[NS]
theorem I4(n k:Nat):gO n (k:Int) 1 2=Y (ak (1<=k/\k<=2)):=by
 rw[k3];congr 1
 grind
theorem PO(c:5000<=n){l:List aR}(e:mG l)(d:Int):Di n l d=Y (gP l d):=by
 obtain⟨m,h⟩:=e;unfold Di;rw[I4];have ch:=Ck (n:=n) (f:=λi=>y7 n i d) (p:=λa=> !gl a d) (l:=l) (λx k=>Ru c (h x k) d) O O;simp only[bl,ad];rw[ch];unfold gP
 grind
def AZ{k:Type}(p:Nat->k->Bool)(l:List k):Bool:=l.zipIdx.all λq=>p q.2 q.1
theorem Iz{k:Type}{p:Nat->k->Bool}{l:List k}(h: ∀(i:Nat) x,l[i]? =Y x->p i x=I):AZ p l=I:=
 hL.2 λq a=>h q.2 q.1 (Ic.1 a)
theorem H4{k:Type}{p:Nat->k->Bool}{l:List k}{x:k}(h:l[i]? =Y x)(a:p i x=ao):AZ p l=ao:=
 nL.2 ⟨(x,i),Ic.2 h,by rw[a];simp⟩
theorem DT{k:Type}{p:Nat->k->Bool}{l:List k}(h:AZ p l=I){x:k}(a:l[i]? =Y x):p i x=I:=
 hL.1 h (x,i) (Ic.2 a)
def me(a:List b4):Bool:=AZ (λi l=>gP l.bD (i:Int)&&gP l.aO (i:Int)) a&&ak (U a<=4)
def sE(a:List b4):Prop:=U a<=1000/\ ∀l∈a,mG l.bD/\mG l.aO
theorem aak(m:5000<=n)(h:sE o):IG n o=Y (me o):=by
 obtain⟨G,y⟩:=h;refine bR ?_;unfold IG;refine sq (l:=o) (p:=λi l=>gP l.bD (i:Int)&&gP l.aO (i:Int)) O O (λa i x c e k=>?_) (λa d=>?_) (λ⟨i,x,c,A⟩=>?_)
 ·have aO:=(cI.1 c).1;obtain⟨B,C⟩:=y x (ca c);rw[cj (show(i:Int)<(U o:Int) by omega)];refine ah (bF c) (bU (λz=>z= !(gP x.bD (i:Int)&&gP x.aO (i:Int))) (λj q=>ah (PO m B _) ?_) λz F=>?_)
  ·cases r:gP x.bD (i:Int) with
   |false=>exact q _ (by rw[r];rfl)
   |true=>exact ah (PO m C _) (q _ (by rw[r];rfl))
  subst F;cases w:(gP x.bD (i:Int)&&gP x.aO (i:Int)) with
  |true=>show cG (a _) _;rw[bt O];exact e w
  |false=>exact aJ (k w)
 ·rw[cc (show¬(U o:Int)<(U o:Int) by omega)];refine aJ ?_;unfold me;rw[Iz d,ic]
  grind
 unfold me;rw[H4 c A];rfl
theorem Z7(w:5000<=n)(h:sE o):Ix n o=Y (me o):=by
 obtain⟨K,C⟩:=h;unfold Ix;by_cases y:U o<=4
 ·rw[cj (show(U o:Int)<=4 by omega)];refine bR ?_;refine sq (l:=o) (p:=λi l=>gP l.bD (i:Int)&&gP l.aO (i:Int)) O O (λa i x d q r=>?_) (λa e=>?_) (λ⟨i,x,d,F⟩=>?_)
  ·have aO:=(cI.1 d).1;obtain⟨G,H⟩:=C x (ca d);rw[cj (show(i:Int)<(U o:Int) by omega)];refine bU (λz=>z=I) (λj c=>cB (c _ rfl)) λz m=>?_;subst m;refine cB (bU (λz=>z= !(gP x.bD (i:Int)&&gP x.aO (i:Int))) (λj c=>ah (bF d) (ah (Qx w G _) ?_)) λz m=>?_)
   ·cases A:gP x.bD (i:Int) with
    |false=>exact c _ (by rw[A];rfl)
    |true=>exact ah (Qx w H _) (c _ (by rw[A];rfl))
   subst m;cases B:(gP x.bD (i:Int)&&gP x.aO (i:Int)) with
   |true=>show cG (a _) _;rw[bt O];exact q B
   |false=>exact aJ (r B)
  ·rw[cc (show¬(U o:Int)<(U o:Int) by omega)];refine bU (λz=>z=ao) (λj c=>cx (c _ rfl)) λz m=>?_;subst m;refine aJ ?_;unfold me;rw[Iz e,cj y];rfl
  unfold me;rw[H4 d F];rfl
 obtain⟨k,rfl⟩: ∃k,n=k+1:=⟨n-1,O⟩
 rw[cc (show¬(U o:Int)<=4 by omega)];unfold me;rw[cc y,mn];simp only[bH,bl]
 grind
def o':bo->Int
 | []=>0
 |x::a=>a.foldl max x
def qO:bo->Int
 | []=>0
 |x::a=>a.foldl min x
theorem ah6(h:l≠[])(x:Int):o' (l++[x])=max (o' l) x:=by
 cases l with
 |nil=>exact bu rfl h
 |cons a l=>simp[o',List.foldl_append]
theorem ah9(h:l≠[])(x:Int):qO (l++[x])=min (qO l) x:=by
 cases l with
 |nil=>exact bu rfl h
 |cons a l=>simp[qO,List.foldl_append]
theorem Vt: ∀(l:bo) (a:Int),a<=l.foldl max a
 | [],a=>iT _
 |x::l,a=>Int.le_trans (Int.le_max_left a x) (Vt l (max a x))
theorem Vv: ∀(l:bo) (a:Int),l.foldl min a<=a
 | [],a=>iT _
 |x::l,a=>Int.le_trans (Vv l (min a x)) (Int.min_le_left a x)
def oi(l:List aR)(p:bo):bo:=l.map λa=>im a p
def eV(l:b4)(p:bo):Int:=o' (oi l.bD p)
def fU(l:b4)(p:bo):Int:=qO (oi l.aO p)
def jY(k:Nat)(p:bo):Prop:=U p=k/\k<=4/\Hv (100*40^k) p
theorem ve(h:k<=4):(0:Int)<=100*40^k/\(100:Int)*40^k<=1000000000:=by
 match k,h with
 |0,_=>decide
 |1,_=>decide
 |2,_=>decide
 |3,_=>decide
 |4,_=>decide
theorem sx{l:List aR}(h:gP l d=I):1<=U l/\(U l)<=2/\ ∀a∈l,dy a=I:=by
 simp only[gP,cJ,decide_eq_true_eq,hP] at h;refine⟨h.2.1,h.2.2,λa c=>?_⟩
 have:=h.1 a c;simp only[gl,cJ] at this
 grind
theorem Vd(c:dy a=I)(d:jY k p)(e:k<=3): -(40*(100*40^k))<=im a p/\im a p<=40*(100*40^k):=by
 obtain⟨n,o,h⟩:=h8 c;obtain⟨q,r,i⟩:=d;obtain⟨l,w⟩:=ve (k:=k) O;have y:(100:Int)<=100*40^k:=by
  match k,e with
  |0,_=>decide
  |1,_=>decide
  |2,_=>decide
  |3,_=>decide
 generalize (100*40^k:Int)=M at*;have z:=Ms (M:=M) l (cs:=a.bg) (xs:=p) h λx m=>i x m;have A:9*M*(U p:Int)<=9*M*3:=Int.mul_le_mul_of_nonneg_left O O;simp only[dN] at*;unfold im;omega
theorem Bi(d:5000<=n)(e:dy a=I)(c:jY k p):qQ n a p=Y (im a p):=
 aeP d e (by have:=c.1;have:=c.2.1;omega) (ve c.2.1) c.2.2
theorem Bj(d:5000<=n)(e:dy a=I)(c:jY k p):qw n a p=Y (im a p):=
 afx d e (by have:=c.1;have:=c.2.1;omega) (ve c.2.1) c.2.2
theorem qW{l:List aR}(h:l[i]? =Y a):(oi l p)[i]? =Y (im a p):=by unfold oi;rw[List.getElem?_map,h];rfl
theorem FD(l:List aR)(p:bo):U (oi l p)=U l:=er ..
theorem Ui{k:Type}{l:List k}(h:1<=i)(a:1<=U l):l.take i≠[]:=by
 intro e
 have:U (l.take i)=0:=by rw[e];rfl
 grind
theorem T5(h:l[i]? =Y x)(a:1<=i):o' (l.take (i+1))=max (o' (l.take i)) x:=by have:=(cI.1 h).1;rw[fs,h];exact ah6 (Ui a O) x
theorem T7(h:l[i]? =Y x)(a:1<=i):qO (l.take (i+1))=min (qO (l.take i)) x:=by have:=(cI.1 h).1;rw[fs,h];exact ah9 (Ui a O) x
theorem LR(h:l[0]? =Y x):o' (l.take 1)=x:=by
 cases l with
 |nil=>simp at h
 |cons a l=>simp at h;subst h;rfl
theorem LS(h:l[0]? =Y x):qO (l.take 1)=x:=by
 cases l with
 |nil=>simp at h
 |cons a l=>simp at h;subst h;rfl
theorem Q2(r:5000<=n){l:b4}{a:Int}(X:gP l.bD d=I)(b:gP l.aO a=I)(w:jY k p):zR n l p=Y (eV l p,fU l p):=by
 obtain⟨aW,a2,a3⟩:=sx X;obtain⟨t,u,W⟩:=sx b;have F:=bO (O:0<U l.bD);have G:=bO (O:0<U l.aO);refine bR ?_;unfold zR;refine ah (bF (i:=0) F) (ah (Bi r (a3 _ (ca F)) w) (ah (bF (i:=0) G) (ah (Bi r (W _ (ca G)) w) ?_)));refine cK (λx:Int×Int=> ∃i:Nat,x.2=i/\1<=i/\i<=U l.bD/\x.1=o' ((oi l.bD p).take i)) (λx=>U l.bD-x.2.toNat) ?_ n _ ⟨1,rfl,O,O,(LR (qW F)).symm⟩ Z;rintro H ⟨x,z⟩ ⟨i,c,m,f,A⟩ s;dsimp only at c A⊢;subst c;refine aS (λK=>?_) λL=>?_
 ·have g:=bO (O:i<U l.bD);have e:=T5 (qW (p:=p) g) m;refine bU (λz=>z=o' ((oi l.bD p).take (i+1))) (λj q=>ah (bF g) (ah (Bi r (a3 _ (ca g)) w) (aS (λh=>q _ ?_) λh=>q _ ?_))) λz c=>?_
  ·rw[e,<-A];omega
  ·rw[e,<-A];omega
  rw[bt O];exact s _ ⟨i+1,Z,O,O,c⟩ Z
 have o:i=U l.bD:=O
 have Q:x=eV l p:=by rw[A,o,<-FD l.bD p,eB];rfl
 refine cK (λx:Int×Int=> ∃i:Nat,x.2=i/\1<=i/\i<=U l.aO/\x.1=qO ((oi l.aO p).take i)) (λx=>U l.aO-x.2.toNat) ?_ n _ ⟨1,rfl,O,O,(LS (qW G)).symm⟩ Z;rintro B ⟨y,z⟩ ⟨i,c,m,f,C⟩ R;dsimp only at c C⊢;subst c;refine aS (λK=>?_) λL=>aJ ?_
 ·have g:=bO (O:i<U l.aO);have e:=T7 (qW (p:=p) g) m;refine bU (λz=>z=qO ((oi l.aO p).take (i+1))) (λj q=>ah (bF g) (ah (Bi r (W _ (ca g)) w) (aS (λh=>q _ ?_) λh=>q _ ?_))) λz c=>?_
  ·rw[e,<-C];omega
  ·rw[e,<-C];omega
  rw[bt O];exact R _ ⟨i+1,Z,O,O,c⟩ Z
 have o:i=U l.aO:=O
 rw[Q,C,o,<-FD l.aO p,eB];rfl
theorem afr(h:5000<=n){l:b4}{a:Int}(L:gP l.bD d=I)(Q:gP l.aO a=I)(m:jY k p):II n l p=Y (eV l p,fU l p):=by
 obtain⟨aW,a2,a3⟩:=sx L;obtain⟨X,b,K⟩:=sx Q;have w:=bO (O:0<U l.bD);have A:=bO (O:0<U l.aO);refine bR ?_;unfold II;refine ah (bF (i:=0) w) (ah (Bj h (a3 _ (ca w)) m) (ah (bF (i:=0) A) (ah (Bj h (K _ (ca A)) m) ?_)));refine cK (λx:Int×Int=> ∃i:Nat,x.2=i/\i<=U l.bD/\x.1=o' ((oi l.bD p).take (max i 1))) (λx=>U l.bD-x.2.toNat) ?_ n _ ⟨0,rfl,O,(LR (qW w)).symm⟩ Z;rintro B ⟨x,z⟩ ⟨i,e,R,o⟩ W;dsimp only at e o⊢;subst e;refine aS (λC=>?_) λF=>?_
 ·have g:=bO (O:i<U l.bD);refine ah (bF g) (ah (Bj h (a3 _ (ca g)) m) ?_);rw[bt O];refine W _ ⟨i+1,Z,O,?_⟩ Z;dsimp only;rw[show max (i+1) 1=i+1 by omega];cases i with
  |zero=>rw[o,show max 0 1=1 by rfl,e6,LR (qW g)];omega
  |succ i=>rw[T5 (qW (p:=p) g) O,o,show max (i+1) 1=i+1 by omega]
 have c:i=U l.bD:=O
 have G:x=eV l p:=by rw[o,c,Nat.max_eq_left O,<-FD l.bD p,eB];rfl
 refine cK (λx:Int×Int=> ∃i:Nat,x.2=i/\i<=U l.aO/\x.1=qO ((oi l.aO p).take (max i 1))) (λx=>U l.aO-x.2.toNat) ?_ n _ ⟨0,rfl,O,(LS (qW A)).symm⟩ Z;rintro q ⟨y,z⟩ ⟨i,e,R,r⟩ H;dsimp only at e r⊢;subst e;refine aS (λC=>?_) λF=>aJ ?_
 ·have g:=bO (O:i<U l.aO);refine ah (bF g) (ah (Bj h (K _ (ca g)) m) ?_);rw[bt O];refine H _ ⟨i+1,Z,O,?_⟩ Z;dsimp only;rw[show max (i+1) 1=i+1 by omega];cases i with
  |zero=>rw[r,show max 0 1=1 by rfl,e6,LS (qW g)];omega
  |succ i=>rw[T7 (qW (p:=p) g) O,r,show max (i+1) 1=i+1 by omega]
 have c:i=U l.aO:=O
 rw[G,r,c,Nat.max_eq_left O,<-FD l.aO p,eB];rfl
theorem Fw{l:b4}(n:gP l.bD d=I)(o:gP l.aO b=I)(e:jY k p)(i:k<=3)(B:eV l p<=v/\v<fU l p):jY (k+1) (p++[v]):=by
 obtain⟨aW,a2,a3⟩:=sx n;obtain⟨m,C,r⟩:=sx o;have F: -(40*(100*40^k))<=eV l p:=by
  cases c:l.bD with
  |nil=>rw[c] at aW;simp at aW
  |cons a as=>
   have:=(Vd (a3 a (by rw[c];simp)) e i).1;unfold eV oi;rw[c];exact Int.le_trans this (Vt _ _)
 have G:fU l p<=40*(100*40^k):=by
  cases c:l.aO with
  |nil=>rw[c] at m;simp at m
  |cons a as=>
   have:=(Vd (r a (by rw[c];simp)) e i).2;unfold fU oi;rw[c];exact Int.le_trans (Vv _ _) this
 obtain⟨w,H,y⟩:=e;have z:(100*40^(k+1):Int)=40*(100*40^k):=by rw[Int.pow_succ];omega
 have q:=(ve (k:=k) O).1;refine⟨by simp[w],O,λx A=>?_⟩;rw[z];rcases fy.1 A with h|h
 ·have:=y x h;simp only[dN] at this⊢;omega
 simp at h;subst h;simp only[dN];omega
def hh:List b4->bo->dT
 | [],p=>[p]
 |l::cD,p=>(eU (eV l p) (fU l p)).flatMap λv=>hh cD (p++[v])
def hN:List b4->bo->Int
 | [],_=>1
 |l::cD,p=>1+((eU (eV l p) (fU l p)).map λv=>hN cD (p++[v])).sum
theorem p'{k:Type}(f:k->Int): ∀(l:List k),(∀x∈l,1<=f x)->(U l:Int)<=(l.map f).sum
 | [],_=>aZ
 |x::l,h=>by have c:=p' f l λy a=>h y (by simp[a]);have d:=h x aZ;simp only[jn,List.sum_cons,fP];omega
theorem FU: ∀(cD:List b4) (p:bo),1<=hN cD p
 | [],p=>iT _
 |l::cD,p=>by have:=p' (λv=>hN cD (p++[v])) (eU (eV l p) (fU l p)) λv _=>FU cD _;simp only[hN];omega
def Fit(a:List b4):Prop:=U a<=4/\ ∀(i:Nat) l,a[i]? =Y l->gP l.bD (i:Int)=I/\gP l.aO (i:Int)=I
theorem F9{nest:List b4}(h:me nest=I):Fit nest:=by
 simp only[me,cJ,decide_eq_true_eq] at h;refine⟨h.2,λi l a=>?_⟩
 have:=DT h.1 a
 grind
theorem Ev{l:b4}{q:List b4}(h:o.drop k=l::q):o[k]? =Y l/\o.drop (k+1)=q/\k<U o:=by
 have a:(o.drop k)[0]? =Y l:=by rw[h];rfl
 rw[iS,uA] at a;refine⟨a,?_,(cI.1 a).1⟩
 have:(o.drop k).drop 1=q:=by rw[h];rfl
 rwa [List.drop_drop] at this
theorem E1(h:o.drop k=[])(a:k<=U o):k=U o:=by
 have:U (o.drop k)=0:=by rw[h];rfl
 grind
theorem pM(p:bo)(h:U p<=1000):app [] p=Y p:=by rw[dO bV];rfl
theorem SK(l:bo)(f:Int->Int)(v:Int):((l++[v]).map f).sum=(l.map f).sum+f v:=aZ
theorem ahV{bD:Int}(h:bD<=v):(U (eU bD v):Int)=v-bD:=by unfold eU;simp;omega
theorem RN{c:List b4}(F:Fit c): ∀(cD:List b4) (n k:Nat) (p:bo) (a:Int),5000+U cD<=n->c.drop k=cD->k<=U c->jY k p->0<=a->a<=1200->
  cG (ug n c p a) (λr=>(hN cD p<=a->r=hN cD p)/\(a<hN cD p->a<r)/\1<=r/\r<=a+1)
 | [],n,k,p,a,R,G,W,o,S,T=>by
  obtain⟨n,rfl⟩: ∃j,n=j+1:=⟨n-1,O⟩
  have V:=E1 G W;have q:=o.1;unfold ug;rw[cj (show(U p:Int)=(U c:Int) by omega)];exact aJ ⟨λ_=>rfl,λh=>by simp only[hN] at h;omega,O,O⟩
 |l::cD,n,k,p,a,R,G,W,o,S,T=>by
  obtain⟨n,rfl⟩: ∃j,n=j+1:=⟨n-1,O⟩
  obtain⟨X,d2,d3⟩:=Ev G;obtain⟨b,g⟩:=F.2 k l X;have q:=o.1;have H:k<=3:=by have:=F.1;omega
  simp only[fP] at R;unfold ug;rw[cc (show¬(U p:Int)=(U c:Int) by omega)];refine cx (ah (x:=l) (by rw[q];exact bF X) (ah (Q2 O b g o) ?_));let f:Int->Int:=λv=>hN cD (p++[v]);have w: ∀v,1<=f v:=λv=>FU _ _;have lB:hN (l::cD) p=1+((eU (eV l p) (fU l p)).map f).sum:=rfl;refine cK (λx:Int×Int=>eV l p<=x.2/\(x.2<=fU l p\/x.2=eV l p)/\(1+((eU (eV l p) x.2).map f).sum<=a->x.1=1+((eU (eV l p) x.2).map f).sum)/\(a<1+((eU (eV l p) x.2).map f).sum->a<x.1)/\1<=x.1/\x.1<=a+1)
   (λx=>(a+1-x.1).toNat) ?_ n _ ⟨iT _,.inr rfl,λ_=>by rw[m7 (iT _)];rfl,λh=>by rw[m7 (iT _)] at h;simp at h;dsimp only;omega,Z,Z⟩ Z
  rintro K ⟨x,v⟩ ⟨C,s,L,Q,t,u⟩ cC;dsimp only at C s L Q t u⊢;refine bU (λz=>z=ak (v<fU l p/\x<=a)) (λj E=>aS (λh=>E _ ?_) λh=>E _ ?_) λz fo=>?_
  ·by_cases e:x<=a
   ·rw[cj e,cj ⟨h,e⟩]
   rw[cc e,cc λh=>e h.2]
  ·rw[cc λM=>h M.1]
  subst fo;refine aS (λ⟨i,e⟩=>?_) λA=>aJ ?_
  ·have B:x=1+((eU (eV l p) v).map f).sum:=L (by apply Int.not_lt.1;intro h;have:=Q h;omega);have m:=Fw b g o H ⟨C,i⟩;have e1:wr (a-x)=a-x:=by rw[bt O]
   rw[e1];refine ah (pM p O) (ah (dO bV) (dh (RN F cD n (k+1) (p++[v]) (a-x) O d2 O m O O) λr ⟨wy,uc,ao5,Xf⟩=>?_));have an6:v<fU l p:=i;have WH: -1000000000<=v/\v<=1000000000:=by
    have h9:=m.2.2 v aZ;have pN:=ve m.2.1;simp only[dN] at h9;omega
   rw[bt (n:=v+1) O,bt (n:=x+r) O];have N:1+((eU (eV l p) (v+1)).map f).sum=x+f v:=by rw[wZ C,SK,B];omega
   refine cC _ ⟨Z,.inl Z,?_,?_,Z,Z⟩ Z
   ·dsimp only;rw[N];intro h
    have:r=f v:=wy (O:f v<=a-x);omega
   dsimp only;rw[N];intro h
   have:a-x<r:=uc (O:a-x<f v);omega
  have d:1+((eU (eV l p) v).map f).sum<=hN (l::cD) p/\(fU l p<=v->1+((eU (eV l p) v).map f).sum=hN (l::cD) p):=by
   rw[lB];by_cases h:v<fU l p
   ·refine⟨?_,λM=>O⟩;rw[Ef C h,jl,List.sum_append,si,List.sum_cons]
    have:=p' f (eU (v+1) (fU l p)) λy _=>w y
    have:=w v;omega
   have:eU (eV l p) v=eU (eV l p) (fU l p):=by
    rcases s with P|P
    ·rw[show v=fU l p by omega]
    subst P;rw[m7 (iT _),m7 O]
   rw[this];exact⟨iT _,λ_=>rfl⟩
  refine⟨λh=>?_,λh=>?_,t,u⟩
  ·have e:=L O;rw[e];apply d.2;apply Int.not_lt.1;intro i;exact A ⟨i,O⟩
  apply Int.not_le.1;intro e;have i:fU l p<=v:=by apply Int.not_lt.1;intro i;exact A ⟨i,e⟩
  have:=Q (by rw[d.2 i];exact h);omega
theorem Jc{a:List b4}(C:Fit a): ∀(cD:List b4) (n k:Nat) (p:bo) (out:dT),5000+U cD<=n->a.drop k=cD->k<=U a->jY k p->hN cD p<=1200->U out<=120->
  cG (r5 n out a p) (λr=>(U out+U (hh cD p)<=120->r=out++hh cD p)/\(120<U out+U (hh cD p)->120<U r))
 | [],n,k,p,out,X,F,b,q,s,h1=>by
  obtain⟨n,rfl⟩: ∃j,n=j+1:=⟨n-1,O⟩
  have qD:=E1 F b;have w:=q.1;have G:=C.1;unfold r5;rw[cj (show(U p:Int)=(U a:Int) by omega)];refine cB (ah (pM p O) (ah (dO bV) (aJ ⟨λ_=>rfl,λh=>by simp[hh] at h ⊢; omega⟩)))
 |l::cD,n,k,p,out,X,F,b,q,s,h1=>by
  obtain⟨n,rfl⟩: ∃j,n=j+1:=⟨n-1,O⟩
  obtain⟨t,d2,d3⟩:=Ev F;obtain⟨u,E⟩:=C.2 k l t;have w:=q.1;have G:=C.1;have H:k<=3:=O
  simp only[fP] at X;unfold r5;rw[cc (show¬(U p:Int)=(U a:Int) by omega)];refine cx (ah (x:=l) (by rw[w];exact bF t) (ah (Q2 O u E q) ?_));let f:Int->Int:=λv=>hN cD (p++[v]);have i: ∀v,1<=f v:=λv=>FU _ _;have lB:hN (l::cD) p=1+((eU (eV l p) (fU l p)).map f).sum:=rfl;let g:Int->dT:=λv=>hh cD (p++[v]);have vE:hh (l::cD) p=(eU (eV l p) (fU l p)).flatMap g:=rfl;have M:eV l p<=fU l p->fU l p-eV l p<=1199:=λK=>by
   have:=p' f (eU (eV l p) (fU l p)) λy _=>i y
   have:=ahV K;omega
  refine cK (λx:dT×Int=>eV l p<=x.2/\(x.2<=fU l p\/x.2=eV l p)/\(U out+U ((eU (eV l p) x.2).flatMap g)<=120->x.1=out++(eU (eV l p) x.2).flatMap g)/\(120<U out+U ((eU (eV l p) x.2).flatMap g)->120<U x.1))
   (λx=>(fU l p-x.2).toNat) ?_ n _ ⟨iT _,.inr rfl,λ_=>by rw[m7 (iT _)];simp,λh=>by rw[m7 (iT _)] at h;simp at h;omega⟩ Z
  rintro L ⟨x,v⟩ ⟨A,N,Q,R⟩ cC;dsimp only at A N Q R⊢;refine bU (λz=>z=ak (v<fU l p/\(U x)<=120)) (λj P=>aS (λh=>P _ ?_) λh=>P _ ?_) λz fo=>?_
  ·by_cases d:U x<=120
   ·rw[cj (show(U x:Int)<=120 by omega),cj ⟨h,d⟩]
   rw[cc (show¬(U x:Int)<=120 by omega),cc λh=>d h.2]
  ·rw[cc λS=>h S.1]
  subst fo;refine aS (λ⟨e,d⟩=>?_) λB=>aJ ?_
  ·have m:x=out++(eU (eV l p) v).flatMap g:=Q (by apply Nat.not_lt.1;intro h;have:=R h;omega);have o:=Fw u E q H ⟨A,e⟩;have W:f v<=1200:=by
    rw[lB,Ef A e,jl,List.sum_append,si,List.sum_cons] at s
    have:=p' f (eU (v+1) (fU l p)) λy _=>i y
    have:=p' f (eU (eV l p) v) λy _=>i y;omega
   refine ah (pM p O) (ah (dO bV) (dh (Jc C cD n (k+1) (p++[v]) x O d2 O o W d) λr ⟨wy,uc⟩=>?_));have WH: -1000000000<=v/\v<=1000000000:=by
    have h9:=o.2.2 v aZ;have pN:=ve o.2.1;simp only[dN] at h9;omega
   rw[bt (n:=v+1) O];have T:(eU (eV l p) (v+1)).flatMap g=(eU (eV l p) v).flatMap g++g v:=by rw[wZ A,sk];simp
   refine cC _ ⟨Z,.inl Z,?_,?_⟩ Z
   ·dsimp only;rw[T];intro h;simp only[fH] at h;have dm:U x=U out+U ((eU (eV l p) v).flatMap g):=by rw[m,ea]
    rw[wy (O:U x+U (g v)<=120),m,hM]
   dsimp only;rw[T];intro h;simp only[fH] at h;have dm:U x=U out+U ((eU (eV l p) v).flatMap g):=by rw[m,ea]
   exact uc (O:120<U x+U (g v))
  have c:U ((eU (eV l p) v).flatMap g)<=U (hh (l::cD) p)/\(fU l p<=v->(eU (eV l p) v).flatMap g=hh (l::cD) p):=by
   rw[vE];by_cases h:v<fU l p
   ·refine⟨?_,λS=>O⟩;rw[Ef A h,sk,ea];omega
   have:eU (eV l p) v=eU (eV l p) (fU l p):=by
    rcases N with V|V
    ·rw[show v=fU l p by omega]
    subst V;rw[m7 (iT _),m7 O]
   rw[this];exact⟨dV _,λ_=>rfl⟩
  refine⟨λh=>?_,λh=>?_⟩
  ·have d:=Q O;rw[d,c.2];apply Int.not_lt.1;intro e;exact B ⟨e,by rw[d,ea];omega⟩
  apply Nat.not_le.1;intro d;have e:fU l p<=v:=by apply Int.not_lt.1;intro e;exact B ⟨e,d⟩
  have:=R (by rw[c.2 e];exact h);omega
theorem Sd{a:List b4}(C:Fit a): ∀(cD:List b4) (n k:Nat) (p:bo) (st:Int) (out:dT),5000+U cD<=n->a.drop k=cD->k<=U a->jY k p->0<=st->st<=1199->U out<=120->
  cG (tF n ⟨a,st,out⟩ p) (λr=>(st+hN cD p<=1200/\(U out)+U (hh cD p)<=120->r=(I,⟨a,st+hN cD p-1,out++hh cD p⟩))/\(¬(st+hN cD p<=1200/\(U out)+U (hh cD p)<=120)->r.1=ao))
 | [],n,k,p,st,out,b,G,s,m,t,u,q=>by
  obtain⟨n,rfl⟩: ∃j,n=j+1:=⟨n-1,O⟩
  have qD:=E1 G s;have w:=m.1;have H:=C.1;unfold tF;dsimp only;rw[cj (show(U p:Int)=(U a:Int) by omega)];have d:lE p=Y p:=by unfold lE;rw[bk O]
  refine cB (ah d (ah (dO bV) (aJ ⟨λh=>?_,λh=>?_⟩)))
  ·simp only[hN,hh,List.length_singleton] at h⊢;rw[cj bV,show st+1-1=st by omega]
  simp only[hN,hh,List.length_singleton] at h⊢;exact cc bV
 |l::cD,n,k,p,st,out,b,G,s,m,t,u,q=>by
  obtain⟨n,rfl⟩: ∃j,n=j+1:=⟨n-1,O⟩
  obtain⟨E,d2,d3⟩:=Ev G;obtain⟨M,N⟩:=C.2 k l E;have w:=m.1;have H:=C.1;have K:k<=3:=O
  simp only[fP] at b;unfold tF;dsimp only;rw[cc (show¬(U p:Int)=(U a:Int) by omega)];refine cx (ah (x:=l) (by rw[w];exact bF E) (ah (afr O M N m) ?_));let f:Int->Int:=λv=>hN cD (p++[v]);have c: ∀v,1<=f v:=λv=>FU _ _;have P:hN (l::cD) p=1+((eU (eV l p) (fU l p)).map f).sum:=rfl;let g:Int->dT:=λv=>hh cD (p++[v]);have S:hh (l::cD) p=(eU (eV l p) (fU l p)).flatMap g:=rfl;refine cK (λx:List b4×Int×dT×Int=>x.1=a/\eV l p<=x.2.2.2/\(x.2.2.2<=fU l p\/x.2.2.2=eV l p)/\x.2.1=st+((eU (eV l p) x.2.2.2).map f).sum/\x.2.2.1=out++(eU (eV l p) x.2.2.2).flatMap g/\0<=x.2.1/\x.2.1<=1199/\(U x.2.2.1)<=120)
   (λx=>(1200-x.2.1).toNat) ?_ n _ ⟨rfl,iT _,.inr rfl,by dsimp only;rw[m7 (iT _)];simp,by dsimp only;rw[m7 (iT _)];simp,t,u,q⟩ Z
  rintro L ⟨Q,x,o,v⟩ ⟨T,A,V,F,i,i5,i6,i7⟩ cC;dsimp only at T A V F i i5 i6 i7⊢;subst T;have rF:U o=U out+U ((eU (eV l p) v).flatMap g):=by rw[i,ea]
  refine aS (λR=>?_) λR=>aJ ?_
  ·have e:=Fw M N m K ⟨A,R⟩;have W:hN (l::cD) p≥1+((eU (eV l p) v).map f).sum+f v/\(U (hh (l::cD) p))≥U ((eU (eV l p) v).flatMap g)+U (g v):=by
    rw[P,S,Ef A R,jl,List.sum_append,si,List.sum_cons,sk,ea,List.flatMap_cons,ea]
    have:=p' f (eU (v+1) (fU l p)) λy _=>c y;constructor
    ·omega
    omega
   have WH: -1000000000<=v/\v<=1000000000:=by
    have h9:=e.2.2 v aZ;have pN:=ve e.2.1;simp only[dN] at h9;omega
   have e1:wr (x+1)=x+1:=by rw[bt O]
   have e2:wr (x+1+1)=x+1+1:=by rw[bt O]
   have nw:wr (v+1)=v+1:=by rw[bt O]
   rw[e1,e2,nw];refine bU (λz:List b4×Int×dT×Bool=>(z.2.2.2=ao->z.1=Q/\x+f v<=1199/\(U o)+U (g v)<=120/\z.2.1=x+f v/\z.2.2.1=o++g v)/\(z.2.2.2=I-> ¬(st+hN (l::cD) p<=1200/\(U out)+U (hh (l::cD) p)<=120)))
    (λj X=>aS (λh=>X _ ⟨λo3=>(by cases o3),λ_=>?_⟩) λh=>?_) λz fo=>?_
   ·have:=c v;omega
   ·have d:lE p=Y p:=by unfold lE;rw[bk O]
    refine ah d (ah (dO bV) (dh (Sd C cD n (k+1) (p++[v]) (x+1) o O d2 O e O O i7) λr ⟨wy,uc⟩=>?_));by_cases d:x+1+f v<=1200/\(U o)+U (g v)<=120
    ·rw[wy d];exact X _ ⟨λ_=>⟨rfl,O,d.2,show x+1+f v-1=x+f v by omega,rfl⟩,λh=>(by cases h)⟩
    have B:=uc d;obtain⟨ao6,⟨eY,ao7,ro⟩⟩:=r;dsimp only at B⊢;subst B;exact X _ ⟨λh=>(by cases h),λ_=>O⟩
   obtain⟨w7,ao_,ao',aoV⟩:=z;obtain⟨z2,z3⟩:=fo;dsimp only at z2 z3⊢;cases aoV with
   |true=>exact aJ ⟨λh=>bu h (z3 rfl),λ_=>rfl⟩
   |false=>
    obtain⟨rfl,Xu,OJ,Xv,Xw⟩:=z2 rfl;refine cC _ ⟨rfl,Z,.inl Z,?_,?_,by dsimp only;have:=c v;omega,Z,?_⟩ (by dsimp only;have:=c v;omega)
    ·dsimp only;rw[wZ A,SK,Xv,F];omega
    ·dsimp only;rw[Xw,i,wZ A,sk];simp
    dsimp only;rw[Xw,ea];exact OJ
  have:eU (eV l p) v=eU (eV l p) (fU l p):=by
   rcases V with q|q
   ·rw[show v=fU l p by omega]
   subst q;rw[m7 (iT _),m7 O]
  rw[this] at F i rF;rw[<-S] at i rF;refine⟨λh=>?_,λh=>?_⟩
  ·rw[i,F,P,show st+(1+((eU (eV l p) (fU l p)).map f).sum)-1=st+((eU (eV l p) (fU l p)).map f).sum by omega]
  exact bu ⟨O,O⟩ h
def lq(a:List b4):aL dT:=if me a=I/\hN a []<=1200/\(U (hh a []))<=120 then Y (hh a []) else none
def vq:aL dT->dT×Bool
 |none=>([],ao)
 |some l=>(l,I)
theorem CH:jY 0 []:=⟨rfl,O,λx h=>by cases h⟩
theorem ZC(k:6000<=n)(h:sE o):H5 n o=Y (vq (lq o)):=by
 refine bR ?_;unfold H5;refine ah (aak O h) ?_;unfold lq;cases d:me o with
 |false=>exact aJ (by simp[vq])
 |true=>
  have c:=F9 d;refine dh (Sd c o n 0 [] 0 [] (by have:=c.1;omega) rfl O CH O O aZ) λr ⟨e,i⟩=>?_;by_cases a:(0:Int)+hN o []<=1200/\(U ([]:dT))+U (hh o [])<=120
  ·rw[e a,bk ⟨rfl,O,by simpa using a.2⟩];exact aJ (by simp[vq])
  rw[i a,bh λh=>a ⟨O,by simpa using h.2.2⟩];exact aJ rfl
theorem ZH(q:6000<=n)(h:sE o):H' n o=Y (vq (lq o)):=by
 refine bR ?_;unfold H';refine bU (λz=>z= !(me o&&ak (hN o []<=1200))) (λj l=>ah (Z7 O h) ?_) λz m=>?_
 ·cases c:me o with
  |false=>exact l _ (by rw[c];rfl)
  |true=>
   have d:=F9 c;refine dh (RN d o n 0 [] 1200 (by have:=d.1;omega) rfl O CH O O) λr ⟨e,i,w,x⟩=>l _ ?_;rw[c,ic];by_cases a:hN o []<=1200
   ·rw[cj a,cc (by rw[e a];omega)];rfl
   rw[cc a,cj (i O)];rfl
 subst m;unfold lq;cases c:me o with
 |false=>exact aJ (by simp[vq])
 |true=>
  have d:=F9 c;by_cases a:hN o []<=1200
  ·rw[cj a];refine dh (Jc d o n 0 [] [] (by have:=d.1;omega) rfl O CH a aZ) λr ⟨e,i⟩=>?_;by_cases k:U (hh o [])<=120
   ·rw[e (by simpa using k),bk ⟨rfl,a,k⟩];refine aS (λh=>bu h bV) λ_=>aJ (by simp[vq])
   have:=i bV;rw[bh λh=>k h.2.2];exact aS (λ_=>aJ rfl) λh=>bu h O
  rw[cc a,bh λh=>a h.2.1];exact aJ rfl
def t8(s:bq):Bool:=match s with
 | [b]=>decide (65<=b.toNat/\b.toNat<=68)
 |_=>ao
theorem JO(h:U s≠1):t8 s=ao:=by
 match s,h with
 | [],_=>rfl
 | [b],h=>exact bu rfl h
 |_::_::_,_=>rfl
theorem MA(h:U s=1): ∃b,s=[b]:=by
 match s,h with
 | [b],_=>exact⟨b,rfl⟩
theorem Bh(b:UInt8)(k:Nat)(a:k<256):(b=UInt8.ofNat k)↔b.toNat=k:=by
 constructor
 ·intro h;rw[h];simp;omega
 intro h;rw[<-h];simp
theorem aaP(b:UInt8):Lib.contains [65,66,67,68] [b]=ak (65<=b.toNat/\b.toNat<=68):=by
 have h:(b=65)↔b.toNat=65:=Bh b 65 O;have i:(b=66)↔b.toNat=66:=Bh b 66 O;have k:(b=67)↔b.toNat=67:=Bh b 67 O;have l:(b=68)↔b.toNat=68:=Bh b 68 O;by_cases a:b=65
 ·subst a;decide
 by_cases c:b=66
 ·subst c;decide
 by_cases d:b=67
 ·subst d;decide
 by_cases e:b=68
 ·subst e;decide
 rw[h] at a;rw[i] at c;rw[k] at d;rw[l] at e;rw[cc O];rw[<-h] at a;rw[<-i] at c;rw[<-k] at d;rw[<-l] at e;simp[Lib.contains,Lib.index,a,c,d,e]
theorem P4(n:Nat)(s:bq):zY n s=Y (t8 s):=by
 unfold zY;by_cases h:U s=1
 ·obtain⟨b,rfl⟩:=MA h;simp only[bl,Cr];rw[bk aZ,aaP];rfl
 rw[cc (show¬(U s:Int)=1 by omega),JO h];rfl
theorem QX(b:UInt8):Op.bytesLess [b] [65]=ak (b.toNat<65):=by simp[Op.bytesLess,UInt8.lt_iff_toNat_lt]
theorem QW(b:UInt8):(Op.bytesLess [b] [68]||[b]==[68])=ak (b.toNat<=68):=by
 have e:(b=68)↔b.toNat=68:=Bh b 68 O;by_cases h:b=68
 ·subst h;decide
 have c:b.toNat≠68:=λa=>h (e.2 a)
 have:([b]==[(68:UInt8)])=ao:=by simp[h]
 rw[this,Bool.or_false];simp only[Op.bytesLess,Bool.and_false,Bool.or_false,UInt8.lt_iff_toNat_lt]
 grind
def gh(a:dr)(d:Int):Bool:=a.b7.all (λx=>gl x d)&&(t8 a.ew&&ak (1<=U a.b7/\(U a.b7)<=2))
theorem afy(c:5000<=n)(e:lr a)(d:Int):CK n a d=Y (!gl a d):=Ru c e d
theorem PQ(c:5000<=n){a:dr}(e:mG a.b7)(d:Int):Dj n a d=Y (gh a d):=by
 obtain⟨m,h⟩:=e;unfold Dj;rw[P4,I4];have ch:=Ck (n:=n) (f:=λi=>CK n i d) (p:=λa=> !gl a d) (l:=a.b7) (λx k=>afy c (h x k) d) O O;simp only[bl,ad];rw[ch];unfold gh
 grind
theorem PL(C:5000<=n){a:dr}(q:mG a.b7)(d:Int):Dm n a d=Y (gh a d):=by
 obtain⟨H,F⟩:=q;refine bR ?_;unfold Dm;refine sq (l:=a.b7) (p:=λ_ a=>gl a d) O O (λk i x r y A=>?_) (λk o=>?_) (λ⟨i,x,r,K⟩=>?_)
 ·have aO:=(cI.1 r).1;have hm:=F x (ca r);rw[cj (show(i:Int)<(U a.b7:Int) by omega)];refine cB (bU (λz=>z= !gl x d) (λj m=>ah (bF r) (ah (N4 C x hm) ?_)) λz B=>?_)
  ·cases q:dy x with
   |false=>exact m _ (by unfold gl;rw[q];rfl)
   |true=>exact ah (Dn C hm) (m _ (by unfold gl;rw[q,NS];simp))
  subst B;cases w:gl x d with
  |true=>show cG (k _) _;rw[bt O];exact y w
  |false=>exact aJ (A w)
 ·rw[cc (show¬(U a.b7:Int)<(U a.b7:Int) by omega)];have e:a.b7.all (λa=>gl a d)=I:=hL.2 λc G=>by obtain⟨i,aO⟩:=nK G;exact o i c aO
  unfold gh;rw[e,ic];refine cx (bU (λz=>z=(t8 a.ew&&ak (1<=U a.b7/\(U a.b7)<=2))) (λj m=>?_) λz B=>aJ B);by_cases h:U a.ew=1
  ·rw[cj (show(U a.ew:Int)=1 by omega)];obtain⟨b,w⟩:=MA h;rw[w] at m⊢;rw[QX,QW];show cG (bif _ then _ else _) _;simp only[t8] at m⊢
   grind
  rw[cc (show¬(U a.ew:Int)=1 by omega)];exact m _ (by rw[JO h];rfl)
 unfold gh
 grind
def j8(a:aR):Bool:=ak (U a.bg=0)&&ak (a.cv=0)
def lj(a:dr):Bool:=ak (a.ew=[])&&ak (U a.b7=0)
theorem Gy(k:Nat):ak ((k:Int)=0)=ak (k=0):=decide_eq_decide.2 O
theorem aaL(n:Nat)(a:aR):Dv n a=Y (j8 a):=by unfold Dv j8;rw[Gy];cases ak (U a.bg=0)<;>rfl
theorem abU(n:Nat)(a:aR):xf n a=Y (j8 a):=by unfold xf j8;rw[Gy];cases ak (U a.bg=0)<;>rfl
theorem aaM(n:Nat)(a:dr):wu n a=Y (lj a):=by unfold wu lj;rw[Gy];cases ak (a.ew=[])<;>rfl
theorem abl(n:Nat)(a:dr):zK n a=Y (lj a):=by unfold zK lj;rw[Gy];cases ak (a.ew=[])<;>rfl
def fE(e:bW)(d:Int):Bool:=
 if e.aU=2 then ak (e.cA=0)&&(lj e.dL&&gl e.dp d)
 else if e.aU=3 then ak (e.cA=0)&&(j8 e.dp&&gh e.dL d)
 else if e.aU=1 then ak (0<=e.cA/\e.cA<=99)&&(j8 e.dp&&lj e.dL)
 else ak (e.cA=0)&&(j8 e.dp&&lj e.dL)
def gJ(k:Int):Int:=if k=1\/k=2\/k=3 then 0 else if k=4\/k=5\/k=6 then 2 else-1
theorem abV(n:Nat)(k:Int):EG n k=Y (gJ k):=by
 unfold EG gJ;by_cases a:k=1
 ·subst a;rfl
 by_cases c:k=2
 ·subst c;rfl
 by_cases d:k=3
 ·subst d;rfl
 by_cases e:k=4
 ·subst e;rfl
 by_cases h:k=5
 ·subst h;rfl
 by_cases i:k=6
 ·subst i;rfl
 simp[bl,a,c,d,e,h,i]
theorem adH(i:5000<=n){e:bW}(k:lr e.dp)(l:mG e.dL.b7)(d:Int):FQ n e d=Y (fE e d):=by
 unfold FQ fE;rw[abl,abU,N4 i _ k,Dn i k,PL i l];by_cases a:e.aU=2
 ·rw[bk a,cj a];simp only[bl,ad,cond_true,gl]
  grind
 rw[bh a,cc a];by_cases c:e.aU=3
 ·rw[bk c,cj c];simp only[bl,ad,cond_true,cond_false]
  grind
 rw[bh c,cc c];by_cases h:e.aU=1
 ·rw[bk h,cj h];simp only[bl,ad,cond_true,cond_false]
  grind
 rw[bh h,cc h];simp only[bl,ad,cond_false]
 grind
end
section
def Az:Nat->bW->Prop
 |0,_=>True
 |L+1,e=>U e.bS<=1000/\lr e.dp/\mG e.dL.b7/\ ∀k∈e.bS,Az L k
def dZ:Nat->bW->Int->Bool
 |0,_,_=>ao
 |L+1,e,d=>decide (gJ e.aU=U e.bS)&&(fE e d&&e.bS.all λk=>dZ L k d)
def eO:Nat->bW->Int
 |0,_=>1
 |L+1,e=>1+(e.bS.map (eO L)).sum
theorem rZ(k:Int):gJ k<=2:=by unfold gJ;split;omega;split<;>omega
theorem PY(d:Int): ∀(L n:Nat) (e:bW),5000+L<=n->L<=1000->Az L e->ui (n+1) e d (L:Int)=Y (dZ L e d)
 |0,n,e,_,_,_=>by unfold ui;rfl
 |L+1,n,e,W,X,B=>by
  obtain⟨b,C,F,G⟩:=B;unfold ui;refine bR ?_;refine bU (λz=>z= !(ak (gJ e.aU=U e.bS)&&fE e d)) (λj w=>aS (λh=>O) λh=>ah (abV n _) (fu (λh=>w _ ?_) λh=>ah (adH O C F d) (w _ ?_))) λz H=>?_
  ·rw[cc h];rfl
  ·rw[cj h];rfl
  subst H;unfold dZ;cases y:(ak (gJ e.aU=U e.bS)&&fE e d) with
  |false=>exact aJ (by rw[<-oL,y];rfl)
  |true=>
   rw[<-oL,y,ic];refine cx ?_;obtain⟨n,rfl⟩: ∃j,n=j+1:=⟨n-1,O⟩
   have K:wr (((L+1:Nat):Int)-1)=(L:Int):=by rw[bt O];omega
   rw[K];refine sq (l:=e.bS) (p:=λ_ k=>dZ L k d) O O (λa i x m q r=>?_) (λa o=>?_) (λ⟨i,x,m,Q⟩=>?_)
   ·have aO:=(cI.1 m).1;rw[cj (show(i:Int)<(U e.bS:Int) by omega)];refine cB (ah (bF m) (ah (PY d L n x O O (G x (ca m))) ?_));cases A:dZ L x d with
    |true=>show cG (a _) _;rw[bt O];exact q A
    |false=>exact aJ (r A)
   ·rw[cc (show¬(U e.bS:Int)<(U e.bS:Int) by omega)];refine aJ ?_;exact(hL.2 λc R=>by obtain⟨i,aO⟩:=nK R;exact o i c aO).symm
   exact(nL.2 ⟨x,ca m,by rw[Q];simp⟩).symm
theorem uJ: ∀(L:Nat) (e:bW),1<=eO L e
 |0,_=>iT _
 |L+1,e=>by have:=p' (eO L) e.bS λk _=>uJ L k;simp only[eO];omega
theorem FV{k:Type}(f:k->Int)(M:Int): ∀(l:List k),(∀x∈l,f x<=M)->(l.map f).sum<=U l*M
 | [],_=>aZ
 |x::l,h=>by have c:=FV f M l λy a=>h y (by simp[a]);have d:=h x aZ;simp only[jn,List.sum_cons,fP,Int.natCast_add,Int.add_mul];omega
variable {d:Int}{n i k:Nat}{s:cT}{r:List de}{x:cq}{a:dr}{c q m:bo}{p:bx}
theorem jI{L:Nat}{e:bW}(h:dZ (L+1) e d=I):gJ e.aU=U e.bS/\fE e d=I/\ ∀k∈e.bS,dZ L k d=I:=by
 simp only[dZ,cJ,decide_eq_true_eq,hP] at h
 grind
theorem F5: ∀{L:Nat} {e:bW} {d:Int},dZ L e d=I->eO L e+1<=2^L
 |0,e,d,h=>by cases h
 |L+1,e,d,h=>by
  obtain⟨i,_,a⟩:=jI h;have l:=FV (eO L) ((2:Int)^L-1) e.bS λk c=>by have:=F5 (a k c);omega
  have m:=rZ e.aU;have n:(U e.bS:Int)*((2:Int)^L-1)<=2*((2:Int)^L-1):=by
   refine Int.mul_le_mul_of_nonneg_right O ?_
   have:(0:Int)<2^L:=Int.pow_pos O;omega
  simp only[eO];rw[Int.pow_succ];omega
theorem PZ{d:Int}: ∀(L n:Nat) (e:bW),5000+L<=n->L<=5->dZ L e d=I->wH (n+1) e (L:Int)=Y (eO L e)
 |0,n,e,_,_,h=>by cases h
 |L+1,n,e,W,A,h=>by
  obtain⟨X,_,q⟩:=jI h;have b:=rZ e.aU;have r: ∀k∈e.bS,eO L k<=40:=λk c=>by
   have f:=F5 (q k c);have g:(2:Int)^L<=40:=by
    match L,A with
    |0,_=>decide
    |1,_=>decide
    |2,_=>decide
    |3,_=>decide
    |4,_=>decide
   omega
  unfold wH;refine bR ?_;obtain⟨n,rfl⟩: ∃j,n=j+1:=⟨n-1,O⟩
  have B:wr (((L+1:Nat):Int)-1)=(L:Int):=by rw[bt O];omega
  rw[B];refine cK (λx:Int×Int=> ∃i:Nat,x.2=i/\i<=U e.bS/\x.1=1+((e.bS.take i).map (eO L)).sum) (λx=>U e.bS-x.2.toNat) ?_ (n+1) _ ⟨0,rfl,O,aZ⟩ bV;rintro l ⟨x,k⟩ ⟨i,c,p,m⟩ C;dsimp only at c m⊢;subst c;refine bU (λz=>z=ak (i<U e.bS)) (λj w=>aS (λh=>w _ ?_) λh=>w _ ?_) λz F=>?_
  ·rw[cj (show(0:Int)<((L+1:Nat):Int) by omega),cj O]
  ·rw[cc O]
  subst F;refine aS (λo=>?_) λG=>aJ ?_
  ·have a:=bO o;have hm:=ca a;refine ah (bF a) (ah (PZ (d:=d) L n _ O O (q _ hm)) ?_);have hs:=FV (eO L) 40 (e.bS.take i) λy H=>r y (hi H);have K:=p' (eO L) (e.bS.take i) λy _=>uJ L y;have Q:=r _ hm;have R:=uJ L e.bS[i];have s:(U (e.bS.take i):Int)<=2:=bV
   rw[bt (n:=x+eO L e.bS[i]) O,bt O];refine C _ ⟨i+1,Z,O,?_⟩ Z;dsimp only;rw[fs,a,jl,List.sum_append,m];simp;omega
  have:i=U e.bS:=O
  rw[m,this,eB];rfl
def Bd(e:bW):Bool:=(ak (e.aU=1)||decide (e.cA=0))&&((ak (e.aU=2)||j8 e.dp)&&(ak (e.aU=3)||lj e.dL))
theorem OP(d:Int): ∀(L n:Nat) (e:bW) (c:Int),5000+L<=n->L<=5->Az L e->0<=c->c<=12->
  cG (rL (n+1) e d (6-(L:Int)) c) (λr=>r.1=(dZ L e d&&ak (c+eO L e<=12))/\(r.1=I->r.2=c+eO L e))
 |0,n,e,c,dc,oq,N,h0,h1=>by
  unfold rL;refine bU (λz=>z=I) (λj i=>aS (λh=>i _ rfl) λh=>i _ (by decide)) λz w=>?_;subst w;exact aJ ⟨rfl,λh=>by cases h⟩
 |L+1,n,e,c,dc,oq,N,h0,h1=>by
  obtain⟨e1,P,nw,S⟩:=N;have akx:=uJ (L+1) e;unfold rL;have Bv:wr (c+1)=c+1:=bt O;have aoB:wr (6-(((L+1:Nat)):Int)+1)=6-(L:Int):=by rw[bt O];omega
  rw[Bv,aoB];refine bU (λz=>z=ak (12<c+1)) (λj i=>aS (λh=>i _ (cj h).symm) λh=>i _ ?_) λz w=>?_
  ·rw[cc h,cc O]
  subst w;refine aS (λh=>aJ ⟨?_,λh=>by cases h⟩) λch=>?_
  ·rw[cc (show¬c+eO (L+1) e<=12 by omega),mn]
  refine bU (λz=>z= !Bd e) (λj i=>?_) λz w=>?_
  ·rw[aaL,aaM];unfold Bd at i;simp only[ad];by_cases A:e.aU=1
   ·have o: ¬e.aU=2:=O
    have l: ¬e.aU=3:=O
    rw[cj A,cc o,cc l] at*;simp only[Bool.not_true,Bool.not_false,cond_true,cond_false,Bool.true_or,Bool.true_and,Bool.false_or] at*;cases p:j8 e.dp with
    |false=>exact i _ (by rw[p];rfl)
    |true=>exact i _ (by rw[p];rfl)
   rw[cc A] at*;simp only[Bool.not_false,cond_true,Bool.false_or] at*;by_cases y:e.cA=0
   ·rw[cj y] at*;simp only[Bool.not_true,cond_false,Bool.true_and] at*;by_cases o:e.aU=2
    ·have l: ¬e.aU=3:=O
     rw[cj o,cc l] at*;simp only[Bool.not_true,Bool.not_false,cond_true,cond_false,Bool.true_or,Bool.true_and,Bool.false_or] at*;exact i _ rfl
    rw[cc o] at*;simp only[Bool.not_false,cond_true,Bool.false_or] at*;cases p:j8 e.dp with
    |false=>exact i _ (by rw[p];rfl)
    |true=>
     by_cases l:e.aU=3
     ·rw[cj l] at*;exact i _ (by rw[p];rfl)
     rw[cc l] at*;exact i _ (by rw[p];rfl)
   rw[cc y] at*;exact i _ rfl
  subst w;cases C:Bd e with
  |false=>
   refine aJ ⟨?_,λh=>by cases h⟩
   have:fE e d=ao:=by
    unfold Bd at C;unfold fE;by_cases o:e.aU=2
    ·have A: ¬e.aU=1:=O
     have l: ¬e.aU=3:=O
     rw[bk o];rw[cj o,cc A,cc l] at C;revert C;cases ak (e.cA=0)<;>cases lj e.dL<;>simp
    rw[bh o];by_cases l:e.aU=3
    ·have A: ¬e.aU=1:=O
     rw[bk l];rw[cc o,cc A,cj l] at C;revert C;cases ak (e.cA=0)<;>cases j8 e.dp<;>simp
    rw[bh l];rw[cc o,cc l] at C;by_cases A:e.aU=1
    ·rw[bk A];rw[cj A] at C;revert C;cases j8 e.dp<;>cases lj e.dL<;>simp
    rw[bh A];rw[cc A] at C;revert C;cases ak (e.cA=0)<;>cases j8 e.dp<;>cases lj e.dL<;>simp
   unfold dZ;rw[this];simp
  |true=>
   refine cx ?_;unfold Bd at C;simp only[cJ,Bool.or_eq_true,decide_eq_true_eq] at C;obtain⟨wk,T,t⟩:=C;have B: ∀(b:Bool),fE e d=b->gJ e.aU=0-> ∀(z:Bool),z=(b&&ak ((U e.bS:Int)=0))->z=(dZ (L+1) e d&&ak (c+eO (L+1) e<=12))/\(z=I->c+1=c+eO (L+1) e):=by
    intro b br W z w;unfold dZ;rw[br,W];by_cases h:U e.bS=0
    ·have Q:e.bS=[]:=oJ h;have X:eO (L+1) e=1:=by simp[eO,Q]
     rw[X,cj (O:c+1<=12)];rw[cj (show(U e.bS:Int)=0 by omega)] at w;rw[w,Q];simp
    rw[cc (show¬(U e.bS:Int)=0 by omega)] at w;rw[w,cc (show¬(0:Int)=(U e.bS:Int) by omega)];simp
   by_cases A:e.aU=1
   ·have o: ¬e.aU=2:=O
    have l: ¬e.aU=3:=O
    rw[cj A];have m:fE e d=ak (0<=e.cA/\e.cA<=99):=by
     unfold fE;rw[bh o,bh l,bk A];rcases T with h|h
     ·exact bu h o
     rcases t with H|H
     ·exact bu H l
     rw[h,H];simp
    refine cB (bU (λz=>z=(ak (0<=e.cA/\e.cA<=99)&&ak ((U e.bS:Int)=0))) (λj i=>ah (k3 n _ _ _) ?_) λz w=>aJ ?_)
    ·cases G:ak (0<=e.cA/\e.cA<=99) with
     |true=>exact i _ (by rw[G];rfl)
     |false=>exact i _ (by rw[G];rfl)
    exact B _ m (by unfold gJ;rw[bk (Or.inl A)]) _ w
   rw[cc A];refine cx ?_;have y:e.cA=0:=by
    rcases wk with h|h
    ·exact bu h A
    exact h
   by_cases o:e.aU=2
   ·have l: ¬e.aU=3:=O
    rw[cj o];have m:fE e d=gl e.dp d:=by
     unfold fE;rw[bk o,cj y];rcases t with H|H
     ·exact bu H l
     rw[H];simp
    refine cB (bU (λz=>z=(gl e.dp d&&ak ((U e.bS:Int)=0))) (λj i=>ah (Ob O _ P) ?_) λz w=>aJ ?_)
    ·unfold gl at i;cases G:dy e.dp with
     |false=>exact i _ (by rw[G];rfl)
     |true=>
      refine ah (DW O P) (aS (λh=>i _ ?_) λh=>i _ ?_)
      ·rw[G,cj h];rfl
      rw[G,cc h];rfl
    exact B _ m (by unfold gJ;rw[bk (Or.inr (Or.inl o))]) _ w
   rw[cc o];refine cx ?_;have K:j8 e.dp=I:=by
    rcases T with h|h
    ·exact bu h o
    exact h
   by_cases l:e.aU=3
   ·rw[cj l];have m:fE e d=gh e.dL d:=by
     unfold fE;rw[bh o,bk l,cj y,K];simp
    refine cB (bU (λz=>z=(gh e.dL d&&ak ((U e.bS:Int)=0))) (λj i=>ah (PQ O nw d) ?_) λz w=>aJ ?_)
    ·cases G:gh e.dL d with
     |false=>exact i _ (by rw[G];rfl)
     |true=>exact i _ (by rw[G];rfl)
    exact B _ m (by unfold gJ;rw[bk (Or.inr (Or.inr l))]) _ w
   rw[cc l];refine cx ?_;have m:fE e d=I:=by
    unfold fE;rw[bh o,bh l,bh A,cj y,K];rcases t with H|H
    ·exact bu H l
    rw[H];rfl
   have u:uY n e.aU=Y (ak (4<=e.aU/\e.aU<=6)):=by unfold uY;rw[k3];rfl
   have f:(gJ e.aU=2↔(4<=e.aU/\e.aU<=6))/\(gJ e.aU=2\/gJ e.aU= -1):=by
    unfold gJ;rw[bh O];split<;>omega
   refine bU (λz=>z= !(ak (4<=e.aU/\e.aU<=6)&&ak ((U e.bS:Int)=2))) (λj i=>ah u ?_) λz w=>?_
   ·cases G:ak (4<=e.aU/\e.aU<=6) with
    |false=>exact i _ (by rw[G];rfl)
    |true=>exact i _ (by rw[G];rfl)
   subst w;by_cases W:(4<=e.aU/\e.aU<=6)/\(U e.bS:Int)=2
   ·rw[cj W.1,cj W.2];refine cx ?_;obtain⟨a,b,F⟩: ∃a b,e.bS=[a,b]:=by
     have:U e.bS=2:=O
     match dR:e.bS,this with
     | [a,b],_=>exact⟨a,b,rfl⟩
    have v:dZ (L+1) e d=(dZ L a d&&dZ L b d):=by
     show(ak (gJ e.aU=U e.bS)&&(fE e d&&e.bS.all λk=>dZ L k d))=_;rw[m,F,cj (show gJ e.aU=(U ([a,b]:List bW):Int) by rw[f.1.2 W.1];rfl)];simp
    have X:eO (L+1) e=1+(eO L a+eO L b):=by simp[eO,F]
    have aoY:=uJ L a;have s8:=uJ L b;rw[v,X];obtain⟨n,rfl⟩: ∃j,n=j+1:=⟨n-1,O⟩
    refine bU (λz:Int×Bool=>z.2=(dZ L a d&&dZ L b d&&ak (c+(1+(eO L a+eO L b))<=12))/\(z.2=I->z.1=c+(1+(eO L a+eO L b)))) (λj i=>?_) λz w=>aJ w;refine ah (x:=a) (by rw[F];rfl) (dh (OP d L n a (c+1) O O (S a (by rw[F];simp)) O O) λr ⟨R,E⟩=>?_);cases M:r.1 with
    |false=>
     refine i _ ⟨?_,λh=>by cases h⟩;rw[M] at R;show ao=_;by_cases s:dZ L a d=I
     ·rw[s,ic] at R
      have:=of_decide_eq_false R.symm;rw[cc (show¬c+(1+(eO L a+eO L b))<=12 by omega),mn]
     rw[Bool.eq_false_iff.2 s];rfl
    |true=>
     have E:=E M;rw[M] at R;have R:=R.symm;rw[sn,decide_eq_true_eq] at R;refine ah (x:=b) (by rw[F];rfl) ?_;rw[E];refine dh (OP d L n b (c+1+eO L a) O O (S b (by rw[F];simp)) O O) λq ⟨oH,q2⟩=>i _ ⟨?_,λh=>?_⟩
     ·show q.1=_;rw[oH,R.1,ic];congr 1;exact decide_eq_decide.2 O
     show q.2=_;rw[q2 h];omega
   have jK:dZ (L+1) e d=ao:=by
    unfold dZ;rw[cc (show¬gJ e.aU=(U e.bS:Int) by
     intro h;rcases f.2 with V|V
     ·exact W ⟨f.1.1 V,O⟩
     omega)]
    rfl
   have:(ak (4<=e.aU/\e.aU<=6)&&ak ((U e.bS:Int)=2))=ao:=by
    by_cases g:4<=e.aU/\e.aU<=6
    ·rw[cc (show¬(U e.bS:Int)=2 from λh=>W ⟨g,h⟩),mn]
    rw[cc g];rfl
   rw[this,jK];exact aJ ⟨rfl,λh=>by cases h⟩
def ff(s:cT)(d:Int):Bool:=ak (0<=d/\d<=4)&&(gh s.dI d&&(dZ 5 s.cz d&&ak (eO 5 s.cz<=12)))
def sF(s:cT):Prop:=mG s.dI.b7/\Az 5 s.cz
theorem Pk(m:6000<=n)(h:sF s)(d:Int):C2 n s d=Y (ff s d):=by
 obtain⟨n,rfl⟩: ∃j,n=j+1:=⟨n-1,O⟩
 refine bR ?_;unfold C2;generalize a:ff s d=T;unfold ff at a;refine bU (λz:Int×Bool=>z.2=T) (λj c=>ah (k3 _ _ _ _) ?_) λz k=>aJ k;cases e:ak (0<=d/\d<=4) with
 |false=>exact c (0,ao) (by rw[<-a,e];rfl)
 |true=>
  refine cB (ah (PQ O h.1 d) ?_);cases i:gh s.dI d with
  |false=>exact c (0,ao) (by rw[<-a,e,i];rfl)
  |true=>
   refine cB (dh (OP d 5 n s.cz 0 O O h.2 O O) λr ⟨l,o⟩=>c _ ?_);rw[<-a,e,i];show r.1=_;rw[l];simp
theorem Oy(o:6000<=n)(h:sF s)(d:Int):wa n s d=Y (ff s d):=by
 obtain⟨n,rfl⟩: ∃j,n=j+1:=⟨n-1,O⟩
 refine bR ?_;unfold wa;generalize l:ff s d=T;generalize a:(ak (0<=d/\d<=4)&&(gh s.dI d&&dZ 5 s.cz d))=B;have c:T=(B&&ak (eO 5 s.cz<=12)):=by rw[<-l,<-a];unfold ff;simp only[Bool.and_assoc]
 refine bU (λz=>z= !B) (λj e=>aS (λh=>e _ ?_) λq=>aS (λh=>e _ ?_) λr=>ah (PL O h.1 d) ?_) λz m=>?_
 ·rw[<-a,cc (show¬(0<=d/\d<=4) by omega)];rfl
 ·rw[<-a,cc (show¬(0<=d/\d<=4) by omega)];rfl
 ·rw[cj (O:0<=d/\d<=4)] at a;cases k:gh s.dI d with
  |false=>exact cB (e _ (by rw[<-a,k];rfl))
  |true=>exact cx (ah (PY d 5 n s.cz O O h.2) (e _ (by rw[<-a,k];rfl)))
 subst m;cases i:B with
 |false=>exact aJ (by rw[c,i];rfl)
 |true=>
  rw[i] at a;simp only[cJ] at a;refine cx (ah (PZ (d:=d) 5 n s.cz O O a.2.2) (aJ ?_));rw[c,i];rfl
def lD(a:bo):Bool:=ak (1<=U a/\(U a)<=2)&&a.all λd=>decide (1<=d/\d<=6)
def u4(a:List de)(i:Nat)(x:de):Bool:=match i with
 |0=>I
 |i+1=>match a[i]? with
  |some y=>Op.bytesLess y.ed x.ed
  |none=>ao
def pJ(a:List de)(i:Nat)(x:de):Bool:=t8 x.ed&&(u4 a i x&&lD x.cr)
def lb(a:List de):Bool:=AZ (pJ a) a&&ak (U a<=4)
def Ju(a:List de):Prop:=U a<=1000/\ ∀x∈a,U x.cr<=1000
theorem QC{x y:de}(h:r[i]? =Y y):u4 r (i+1) x=Op.bytesLess y.ed x.ed:=by simp only[u4,h]
theorem ahk(a:bo):(a.any λd=> !decide (1<=d/\d<=6))= !(a.all λd=>decide (1<=d/\d<=6)):=by grind
theorem aaN(f:6000<=n){w:List de}(h:Ju w):DX n w=Y (lb w):=by
 obtain⟨g,Q⟩:=h;refine bR ?_;unfold DX;refine sq (l:=w) (p:=pJ w) O O (λa i x m y A=>?_) (λa o=>?_) (λ⟨i,x,m,B⟩=>?_)
 ·have aO:=(cI.1 m).1;have hm:=Q x (ca m);rw[cj (show(i:Int)<(U w:Int) by omega)];have R:oc n x.cr (λC=>tL n C)=Y (!(x.cr.all λd=>decide (1<=d/\d<=6))):=by
   rw[<-ahk];exact Ij (λd _=>by unfold tL;rw[k3];rfl) O O
  refine cB (ah (bF m) (bU (λz=>z= !pJ w i x) (λj k=>ah (P4 n _) ?_) λz W=>?_))
  ·unfold pJ lD at k;cases F:t8 x.ed with
   |false=>exact cB (k _ (by rw[F];rfl))
   |true=>
    rw[F] at k;refine cx ?_;rw[I4];have c:u4 w i x=I->cG (ad (Y (ak (1<=U x.cr/\(U x.cr)<=2))) λX=>bif !X then j I else ad (oc n x.cr λC=>tL n C) λb=>j b) (λr=>r=lb w):=by
     intro B;rw[B] at k;show cG (bif _ then _ else _) _;cases G:ak (1<=U x.cr/\(U x.cr)<=2) with
     |false=>exact cB (k _ (by rw[G];rfl))
     |true=>exact cx (ah R (k _ (by rw[G];rfl)))
    cases i with
    |zero=>exact aS (λh=>bu h (by decide)) (λ_=>c rfl)
    |succ i=>
     have H:=bO (O:i<U w);have e:wr (((i+1:Nat):Int)-1)=(i:Int):=by rw[bt O];omega
     rw[e];refine aS (λ_=>ah (bF H) ?_) λh=>bu (show(0:Int)<((i+1:Nat):Int) by omega) h;have q:=QC (x:=x) H;cases K:Op.bytesLess w[i].ed x.ed with
     |false=>exact cB (k _ (by rw[q,K];rfl))
     |true=>exact cx (c (by rw[q,K]))
  subst W;cases L:pJ w i x with
  |true=>show cG (a _) _;rw[bt O];exact y L
  |false=>exact aJ (A L)
 ·rw[cc (show¬(U w:Int)<(U w:Int) by omega)];refine aJ ?_;unfold lb;rw[Iz o,ic]
  grind
 unfold lb;rw[H4 m B];rfl
theorem afY(s:bq):(!Op.bytesLess s [68]&& !s==[68])= !(Op.bytesLess s [68]||s==[68]):=by grind
theorem aaz(dc:6000<=n){a:List de}(h:Ju a):DH n a=Y (lb a):=by
 obtain⟨h0,v⟩:=h;refine bR ?_;unfold DH;refine sq (l:=a) (p:=pJ a) O O (λq i x A L B=>?_) (λq C=>?_) (λ⟨i,x,A,E⟩=>?_)
 ·have aO:=(cI.1 A).1;have hm:=v x (ca A);rw[cj (show(i:Int)<(U a:Int) by omega)];refine cB (ah (bF A) (bU (λz=>z= !(t8 x.ed&&(u4 a i x&&ak (1<=U x.cr/\(U x.cr)<=2)))) (λj m=>?_) λz Q=>?_))
  ·refine fu (λM=>m _ ?_) λM=>?_
   ·rw[JO O];rfl
   obtain⟨b,o⟩:=MA (O:U x.ed=1);rw[afY];have R: ∀(y:de),Op.bytesLess y.ed x.ed=Op.bytesLess y.ed [b]:=λy=>by rw[o]
   have W:t8 x.ed=ak (65<=b.toNat/\b.toNat<=68):=by rw[o];rfl
   have N:Op.bytesLess x.ed [65]=ak (b.toNat<65):=by rw[o];exact QX b
   have P:(Op.bytesLess x.ed [68]||x.ed==[68])=ak (b.toNat<=68):=by rw[o];exact QW b
   rw[N,P];rw[W] at m;refine aS (λS=>m _ ?_) λS=>fu (λT=>m _ ?_) λT=>?_
   ·rw[cc (show¬(65<=b.toNat/\b.toNat<=68) by omega)];rfl
   ·rw[cc (show¬(65<=b.toNat/\b.toNat<=68) by omega)];rfl
   rw[cj (O:65<=b.toNat/\b.toNat<=68)] at m;have c:u4 a i x=I->cG (bif ak ((U x.cr:Int)<1) then j I else j (ak ((2:Int)<(U x.cr:Int)))) (λr=>r=lb a):=by
    grind
   cases i with
   |zero=>exact aS (λh=>bu h (by decide)) (λ_=>c rfl)
   |succ i=>
    have g:=bO (O:i<U a);have e:wr (((i+1:Nat):Int)-1)=(i:Int):=by rw[bt O];omega
    rw[e];refine aS (λ_=>ah (bF g) ?_) λh=>bu (show(0:Int)<((i+1:Nat):Int) by omega) h;have F:=QC (x:=x) g;cases s:Op.bytesLess a[i].ed x.ed with
    |false=>exact cB (m _ (by rw[F,s];rfl))
    |true=>exact cx (c (by rw[F,s]))
  subst Q;cases o:(t8 x.ed&&(u4 a i x&&ak (1<=U x.cr/\(U x.cr)<=2))) with
  |false=>
   refine aJ (B ?_);unfold pJ lD;rw[<-oL,<-oL];rw[<-oL] at o;rw[o];rfl
  |true=>
   have G:pJ a i x=x.cr.all (λd=>decide (1<=d/\d<=6)):=by
    unfold pJ lD;rw[<-oL,<-oL];rw[<-oL] at o;rw[o];rfl
   refine cx ?_;refine cK (λy:Int=> ∃k:Nat,y=k/\k<=U x.cr/\ ∀(t:Nat) d,t<k->x.cr[t]? =Y d->decide (1<=d/\d<=6)=I) (λy=>U x.cr-y.toNat) ?_ n _ ⟨0,rfl,O,λt d h=>O⟩ bV;rintro K y ⟨k,rfl,hk,u⟩ V;refine aS (λhlt=>?_) λjt=>?_
   ·have cN:=bO (O:k<U x.cr);have aoD:wr ((k:Int)+1)=((k+1:Nat):Int):=by rw[bt O];omega
    refine bU (λz=>z= !decide (1<=x.cr[k]/\x.cr[k]<=6)) (λj m=>ah (bF cN) (aS (λh=>m _ ?_) λh=>m _ ?_)) λz Q=>?_
    ·rw[cc O];rfl
    ·by_cases h6:x.cr[k]<=6
     ·rw[cc (show¬(6:Int)<x.cr[k] by omega),cj (O:1<=x.cr[k]/\x.cr[k]<=6)];rfl
     rw[cj (show(6:Int)<x.cr[k] by omega),cc (show¬(1<=x.cr[k]/\x.cr[k]<=6) by omega)];rfl
    subst Q;cases H:ak (1<=x.cr[k]/\x.cr[k]<=6) with
    |false=>
     refine aJ (B ?_);rw[G];exact nL.2 ⟨_,ca cN,by rw[H];simp⟩
    |true=>
     rw[aoD];refine V _ ⟨k+1,rfl,O,λt d X w=>?_⟩ O;by_cases f:t=k
     ·subst f;rw[cN] at w;cases w;exact H
     exact u t d O w
   have e:wr ((i:Int)+1)=(i:Int)+1:=bt O;rw[e];refine L ?_;rw[G];refine hL.2 λd cN=>?_;obtain⟨t,X⟩:=nK cN
   have:=(cI.1 X).1;exact u t d O X
 ·rw[cc (show¬(U a:Int)<(U a:Int) by omega)];refine aJ ?_;unfold lb;rw[Iz C,ic]
  grind
 unfold lb;rw[H4 A E];rfl
def jB:bo->Int
 | []=>1
 |d::a=>d*jB a
theorem Mg{d:bo}(h:lD d=I):(∃a,d=[a]/\1<=a/\a<=6)\/ ∃a b,d=[a,b]/\(1<=a/\a<=6)/\1<=b/\b<=6:=by
 simp only[lD,cJ,decide_eq_true_eq,hP] at h;obtain⟨⟨e,i⟩,c⟩:=h
 match d,e,i,c with
 | [a],_,_,c=>exact .inl ⟨a,rfl,c a aZ⟩
 | [a,b],_,_,c=>exact .inr ⟨a,b,rfl,c a aZ,c b aZ⟩
theorem PA{a b:Int}(c:1<=a/\a<=6)(d:1<=b/\b<=6):1<=a*b/\a*b<=36:=by
 constructor
 ·have:=uz c.1 d.1 O O;omega
 have:=uz c.2 d.2 O O;omega
theorem u'{d:bo}(h:lD d=I):1<=jB d/\jB d<=36:=by
 rcases Mg h with ⟨a,rfl,c⟩|⟨a,b,rfl,c,e⟩
 ·simp[jB];omega
 have:=PA c e;simp[jB];omega
theorem Jd(l:6000<=n){x:de}(h:lD x.cr=I):Aj n x=Y (jB x.cr):=by
 obtain⟨n,rfl⟩: ∃j,n=j+3:=⟨n-3,O⟩
 unfold Aj;rcases Mg h with ⟨a,e,d⟩|⟨a,b,e,d,i⟩
 ·rw[e];have c:wr a=a:=bt O;simp[bH,aC,jB,c,show wr 1=1 from bt O]
 rw[e]
 have:=PA d i;have c:wr a=a:=bt O;have k:wr (a*b)=a*b:=bt O;simp[bH,aC,jB,c,k,show wr 1=1 from bt O,show wr 2=2 from bt O]
theorem afs(a:6000<=n){x:de}(h:lD x.cr=I):Ie n x=Y (jB x.cr):=Jd a h
def jS:List aR->bo->bo->Int->Int
 |s::c,d::e,p,a=>if 0<=im s p/\im s p<d then jS c e p (a*d+im s p) else-1
 |_,_,_,a=>a
def gg:List de->dr->bo->Int->Int
 | [],_,_,_=> -1
 |x::d,a,p,c=>if x.ed=a.ew then(if U a.b7=U x.cr then(if jS a.b7 x.cr p 0<0 then-1 else c+jS a.b7 x.cr p 0) else-1) else gg d a p (c+jB x.cr)
def mU(a:List de):Prop:= ∀x∈a,lD x.cr=I
theorem YK{d:bo}(e:lD d=I){l:List aR}(c:U l=U d)(p:bo):jS l d p 0= -1\/(0<=jS l d p 0/\jS l d p 0<jB d):=by
 rcases Mg e with ⟨a,rfl,h⟩|⟨a,b,rfl,h,k⟩
 ·match l,c with
  | [s],_=>
   simp only[jS,jB,Int.zero_mul,Int.zero_add,Int.mul_one];split<;>omega
 match l,c with
 | [s,t],_=>
  simp only[jS,jB,Int.zero_mul,Int.zero_add,Int.mul_one];split
  ·rename_i i;split
   ·rename_i m;refine .inr ⟨?_,?_⟩
    ·have:=q3 i.1 (O:0<=b);omega
    have:=Int.mul_le_mul_of_nonneg_right (O:im s p<=a-1) (O:0<=b);rw[Int.sub_mul] at this;omega
   exact .inl rfl
  exact .inl rfl
def jf(a:List de):Int:=(a.map λx=>jB x.cr).sum
theorem UE: ∀{xs:List de},mU xs-> ∀(a:dr) (p:bo) (c:Int),0<=c->gg xs a p c= -1\/(c<=gg xs a p c/\gg xs a p c<c+jf xs)
 | [],_,a,p,c,_=> .inl rfl
 |x::xs,k,a,p,c,n=>by
  have l:=k x aZ;have hs:=u' l;have d:mU xs:=λy i=>k y (by simp[i]);have o:0<=jf xs:=by
   have:=p' (λx:de=>jB x.cr) xs λy i=>(u' (d y i)).1;unfold jf;omega
  have e:jf (x::xs)=jB x.cr+jf xs:=by simp[jf]
  rw[e];simp only[gg];split
  ·split
   ·rename_i m;rcases YK l m p with h|h
    ·rw[bk O];exact .inl rfl
    rw[bh O];exact .inr ⟨O,O⟩
   exact .inl rfl
  rcases UE d a p (c+jB x.cr) O with h|h
  ·exact .inl h
  exact .inr ⟨O,O⟩
theorem px(h:gh a d=I):1<=U a.b7/\(U a.b7)<=2/\ ∀x∈a.b7,dy x=I:=by
 simp only[gh,cJ,decide_eq_true_eq,hP] at h;refine⟨h.2.2.1,h.2.2.2,λx c=>?_⟩
 have:=h.1 x c;simp only[gl,cJ] at this
 grind
theorem nz{k:Type}{l:List k}{x:k}(h:l[i]? =Y x):l.drop i=x::l.drop (i+1):=by obtain⟨a,c⟩:=cI.1 h;rw[lM a,c]
theorem Ty{a v:Int}(c:0<=a/\a<=36)(e:1<=d/\d<=6)(h:0<=v/\v<d):0<=a*d/\a*d<=216/\0<=a*d+v:=by have i:=q3 c.1 (O:0<=d);have k:=uz c.2 e.2 O O;omega
theorem agJ(M:6000<=n)(N:U a.b7<=2)(f: ∀x∈a.b7,dy x=I)(g:lD c=I)(P:U a.b7=U c){p:bo}(j:jY k p)(e:Int)(S:0<=e/\e<=1000000):
  bH (λl ((X,C):Int×Int)=>bif ak (C<(U a.b7:Int)) then(ad (aC a.b7 C) λs=>ad (qw n s p) λq=>ad (aC c C) λr=>ad (gO n q 0 (wr (r-1))) λF=>bif !F then(Y (-1)) else(l (wr ((wr (X*r))+q),wr (C+1)))) else(Y (wr (e+X)))) n (0,0)
   =Y (if jS a.b7 c p 0<0 then-1 else e+jS a.b7 c p 0):=by
 have G: ∀d∈c,1<=d/\d<=6:=by
  simp only[lD,cJ,decide_eq_true_eq,hP] at g
  grind
 refine bR ?_;refine cK (λx:Int×Int=> ∃i:Nat,x.2=i/\i<=U a.b7/\0<=x.1/\x.1<=36*i/\(i=0->x.1=0)/\(i=1->x.1<=5)/\jS a.b7 c p 0=jS (a.b7.drop i) (c.drop i) p x.1) (λx=>U a.b7-x.2.toNat) ?_ n _ ⟨0,rfl,O,aZ,aZ,λ_=>rfl,λh=>O,rfl⟩ bV;rintro H ⟨x,z⟩ ⟨i,b,T,K,L,w,y,m⟩ t;dsimp only at b K L w y m⊢;subst b;refine aS (λu=>?_) λv=>aJ ?_
 ·have hs:=bO (O:i<U a.b7);have o:=bO (O:i<U c);have A:=G _ (ca o);have E:wr (c[i]-1)=c[i]-1:=bt O;rw[nz hs,nz o] at m;simp only[jS] at m;refine ah (bF hs) (ah (Bj O (f _ (ca hs)) j) (ah (bF o) (ah (k3 _ _ _ _) ?_)));rw[E];by_cases Q:0<=im a.b7[i] p/\im a.b7[i] p<c[i]
  ·rw[bk Q] at m;rw[cj (O:0<=im a.b7[i] p/\im a.b7[i] p<=c[i]-1)];obtain⟨V,g2,g3⟩:=Ty (a:=x) O A Q;refine cx ?_;rw[bt (n:=x*c[i]) O,bt (n:=x*c[i]+im a.b7[i] p) O,bt O];have B:i=0\/i=1:=O
   refine t _ ⟨i+1,Z,O,Z,?_,λh=>O,λh=>?_,m⟩ Z
   ·dsimp only;rcases B with rfl|rfl
    ·rw[w rfl];omega
    have:=y rfl
    have:=uz this A.2 O O;omega
   dsimp only
   grind
  rw[bh Q] at m;rw[cc (show¬(0<=im a.b7[i] p/\im a.b7[i] p<=c[i]-1) by omega)];refine cB (aJ ?_)
  grind
 have R:i=U a.b7:=O
 have W:jS (a.b7.drop i) (c.drop i) p x=x:=by
  rw[R,pr];unfold jS;rfl
 rw[W] at m;rw[m,bh O,bt O]
theorem agj(T:6000<=n)(V:1<=U a.b7)(h1:U a.b7<=2)(u: ∀x∈a.b7,dy x=I)(v:lD c=I){p:bo}(E:jY k p)(e:Int)(br:0<=e/\e<=1000000):
  bH (λl ((g,w):Int×Int)=>bif ak (w<(U a.b7:Int)) then(bif !decide ((U a.b7:Int)=(U c:Int)) then(Y (-1)) else(ad (aC a.b7 w) λM=>ad (qQ n M p) λr=>bl (fun(H:Bool)=>bif H then(Y (-1)) else(ad (aC c w) λK=>l (wr ((wr (g*K))+r),wr (w+1)))) λy=>bif ak (r<0) then(y I) else(ad (aC c w) λL=>y (ak (L<=r))))) else(Y (wr (e+g)))) n (0,0)
   =Y (if U a.b7=U c then(if jS a.b7 c p 0<0 then-1 else e+jS a.b7 c p 0) else-1):=by
 by_cases s:U a.b7=U c
 ·rw[bk s];rw[cj (show(U a.b7:Int)=(U c:Int) by omega)];have Q: ∀d∈c,1<=d/\d<=6:=by
   simp only[lD,cJ,decide_eq_true_eq,hP] at v
   grind
  refine bR ?_;refine cK (λx:Int×Int=> ∃i:Nat,x.2=i/\i<=U a.b7/\0<=x.1/\x.1<=36*i/\(i=0->x.1=0)/\(i=1->x.1<=5)/\jS a.b7 c p 0=jS (a.b7.drop i) (c.drop i) p x.1) (λx=>U a.b7-x.2.toNat) ?_ n _ ⟨0,rfl,O,aZ,aZ,λ_=>rfl,λh=>O,rfl⟩ bV;rintro R ⟨x,z⟩ ⟨i,G,aO,W,X,A,B,o⟩ N;dsimp only at G W X A B o⊢;subst G;refine aS (λP=>?_) λS=>aJ ?_
  ·have hs:=bO (O:i<U a.b7);have m:=bO (O:i<U c);have C:=Q _ (ca m);rw[nz hs,nz m] at o;simp only[jS] at o;refine cx (ah (bF hs) (ah (Bi O (u _ (ca hs)) E) (bU (λz=>z= !decide (0<=im a.b7[i] p/\im a.b7[i] p<c[i])) (λj t=>aS (λh=>t _ ?_) λh=>ah (bF m) (t _ ?_)) λz G=>?_)))
   ·rw[cc O];rfl
   ·by_cases q:c[i]<=im a.b7[i] p
    ·rw[cj q,cc O];rfl
    rw[cc q,cj O];rfl
   subst G;by_cases q:0<=im a.b7[i] p/\im a.b7[i] p<c[i]
   ·rw[bk q] at o;rw[cj q];obtain⟨g1,g2,g3⟩:=Ty (a:=x) O C q;refine cx (ah (bF m) ?_);rw[bt (n:=x*c[i]) O,bt (n:=x*c[i]+im a.b7[i] p) O,bt O];have F:i=0\/i=1:=O
    refine N _ ⟨i+1,Z,O,Z,?_,λh=>O,λh=>?_,o⟩ Z
    ·dsimp only;rcases F with rfl|rfl
     ·rw[A rfl];omega
     have:=B rfl
     have:=uz this C.2 O O;omega
    dsimp only
    grind
   rw[bh q] at o;rw[cc q];refine cB (aJ ?_)
   grind
  have b:i=U a.b7:=O
  have f:jS (a.b7.drop i) (c.drop i) p x=x:=by
   rw[b,pr];unfold jS;rfl
  rw[f] at o;rw[o,bh O,bt O]
 rw[bh s,cc (show¬(U a.b7:Int)=(U c:Int) by omega)];obtain⟨n,rfl⟩: ∃j,n=j+1:=⟨n-1,O⟩
 simp only[bH]
 grind
theorem Er(A:6000<=n)(W:U p.a7<=4)(C:mU p.a7)(F:gh a d=I)(G:jY k q):vT n p a q=Y (gg p.a7 a q 0):=by
 obtain⟨a0,aW,a2⟩:=px F;refine bR ?_;unfold vT;refine cK (λx:Int×Int=> ∃i:Nat,x.2=i/\i<=U p.a7/\0<=x.1/\x.1<=36*i/\gg p.a7 a q 0=gg (p.a7.drop i) a q x.1) (λx=>U p.a7-x.2.toNat) ?_ n _ ⟨0,rfl,O,aZ,aZ,rfl⟩ bV;rintro m ⟨x,z⟩ ⟨i,B,X,o,r,c⟩ H;dsimp only at B o r c⊢;subst B;refine aS (λK=>?_) λL=>aJ ?_
 ·have w:=bO (O:i<U p.a7);have h:=C _ (ca w);have jc:=u' h;rw[nz w] at c;simp only[gg] at c;refine ah (bF w) (fu (λl=>?_) λQ=>?_)
  ·rw[bh l] at c;refine ah (afs A h) ?_;rw[bt (n:=x+jB p.a7[i].cr) O,bt O];exact H _ ⟨i+1,Z,O,Z,Z,c⟩ Z
  rw[bk Q] at c;refine fu (λl=>aJ ?_) λR=>?_
  ·rw[c,bh O]
  have e:U a.b7=U p.a7[i].cr:=O
  rw[bk e] at c;exact xm (agJ A aW a2 h e G x O) c.symm
 have y:i=U p.a7:=O
 rw[c,y,pr];rfl
theorem RS(A:6000<=n)(R:U r<=4)(C:mU r)(F:gh a d=I)(G:jY k q):Ak n r a q=Y (gg r a q 0):=by
 obtain⟨a0,aW,a2⟩:=px F;refine bR ?_;unfold Ak;refine cK (λx:Int×Int=> ∃i:Nat,x.2=i/\i<=U r/\0<=x.1/\x.1<=36*i/\gg r a q 0=gg (r.drop i) a q x.1) (λx=>U r-x.2.toNat) ?_ n _ ⟨0,rfl,O,aZ,aZ,rfl⟩ bV;rintro h ⟨x,z⟩ ⟨i,B,W,l,m,c⟩ H;dsimp only at B l m c⊢;subst B;refine aS (λK=>?_) λL=>aJ ?_
 ·have o:=bO (O:i<U r);have e:=C _ (ca o);have jc:=u' e;rw[nz o] at c;simp only[gg] at c;refine ah (bF o) (fu (λw=>?_) λQ=>?_)
  ·rw[bh w] at c;refine ah (Jd A e) ?_;rw[bt (n:=x+jB r[i].cr) O,bt O];exact H _ ⟨i+1,Z,O,Z,Z,c⟩ Z
  rw[bk Q] at c;exact xm (agj A a0 aW a2 e G x O) c.symm
 have y:i=U r:=O
 rw[c,y,pr];rfl
def fv:Nat->bW->List dr
 |0,_=>[]
 |L+1,e=>(if e.aU=3 then [e.dL] else [])++e.bS.flatMap (fv L)
theorem Ke{d:Int}: ∀{L:Nat} {e:bW},dZ L e d=I-> ∀a∈fv L e,gh a d=I
 |0,e,h,a,c=>by cases h
 |L+1,e,h,a,c=>by
  obtain⟨o,i,m⟩:=jI h;simp only[fv,List.mem_append,List.mem_flatMap] at c;rcases c with c|⟨k,n,c⟩
  ·split at c
   ·rename_i l;simp at c;subst c;unfold fE at i;rw[bh O,bk l] at i;simp only[cJ] at i;exact i.2.2
   simp at c
  exact Ke (m k n) a c
theorem Eh: ∀(L:Nat) (e:bW),(U (fv L e):Int)<=eO L e
 |0,e=>by simp[fv,eO]
 |L+1,e=>by
  have h: ∀(l:List bW),(U (l.flatMap (fv L)):Int)<=(l.map (eO L)).sum:=by
   intro l;induction l with
   |nil=>simp
   |cons k l a=>
    have:=Eh L k;simp only[List.flatMap_cons,fH,jn,List.sum_cons];omega
  have:=h e.bS;simp only[fv,eO,fH];split
  ·rw[uD];omega
  rw[ho];omega
theorem JF{d:Int}: ∀(L n:Nat) (e:bW),6000+L<=n->L<=5->dZ L e d=I->tE (n+1) e=Y (fv L e)
 |0,n,e,_,_,h=>by cases h
 |L+1,n,e,G,z,h=>by
  obtain⟨H,K,y⟩:=jI h;have A:=rZ e.aU;unfold tE;refine bR (aS (λc=>aJ ?_) λm=>?_)
  ·have:e.bS=[]:=by
    have Q:gJ e.aU=0:=by unfold gJ;rw[bk (Or.inr (Or.inr c))]
    exact oJ O
   simp[fv,c,this]
  obtain⟨n,rfl⟩: ∃j,n=j+1:=⟨n-1,O⟩
  have o: ∀k∈e.bS,(U (fv L k):Int)<=100:=λk l=>by
   have R:=F5 (y k l);have W:(2:Int)^L<=40:=by
    match L,z with
    |0,_=>decide
    |1,_=>decide
    |2,_=>decide
    |3,_=>decide
    |4,_=>decide
   have:=Eh L k;omega
  refine cK (λx:List dr×Int=> ∃i:Nat,x.2=i/\i<=U e.bS/\x.1=(e.bS.take i).flatMap (fv L)/\(U x.1:Int)<=100*i) (λx=>U e.bS-x.2.toNat) ?_ (n+1) _ ⟨0,rfl,O,aZ,aZ⟩ bV;rintro q ⟨x,k⟩ ⟨i,l,X,r,w⟩ B;dsimp only at l r w⊢;subst l;refine aS (λC=>?_) λF=>aJ ?_
  ·have a:=bO (O:i<U e.bS);have hm:=ca a;have br:=o _ hm;refine ah (bF a) (ah (JF (d:=d) L n _ O O (y _ hm)) (ah (dO O) ?_));rw[bt O];refine B _ ⟨i+1,Z,O,?_,by dsimp only;rw[ea];omega⟩ Z;dsimp only;rw[fs,a,sk,r];simp
  have:i=U e.bS:=O
  rw[r,this,eB];simp[fv,m]
theorem D0(n:Nat){a:aR}(h:U a.bg<=1000):tg n a=Y a:=by
 unfold tg;refine bR (aS (λd=>aJ ?_) λd=>ah (pM _ h) (aJ rfl));obtain⟨cs,c⟩:=a
 have:cs=[]:=oJ (by simpa using d)
 grind
theorem Dy(r:5000<=n)(h:mG a.b7):th n a=Y a:=by
 obtain⟨w,l⟩:=h;refine bR ?_;unfold th;refine cK (λx:List aR×Int=> ∃i:Nat,x.2=i/\i<=U a.b7/\x.1=a.b7.take i) (λx=>U a.b7-x.2.toNat) ?_ n _ ⟨0,rfl,O,aZ⟩ bV;rintro d ⟨x,k⟩ ⟨i,e,y,c⟩ m;dsimp only at e c⊢;subst e;refine aS (λo=>?_) λq=>aJ ?_
 ·have hs:=bO (O:i<U a.b7);have z:U x=i:=by rw[c,dW];omega
  refine ah (bF hs) (ah (D0 n (l _ (ca hs))) (ah (dO bV) ?_));rw[bt O];refine m _ ⟨i+1,Z,O,?_⟩ Z;dsimp only;rw[fs,hs,c];rfl
 have:i=U a.b7:=O
 rw[c,this,eB]
theorem UO{l:List aR}(e:U l<=2)(c: ∀a∈l,dy a=I):mG l:=⟨O,λa d=>by have:=(h8 (c a d)).1;unfold lr;omega⟩
theorem Q1{d:Int}: ∀(L n:Nat) (e:bW) (out:List dr),6000+L<=n->L<=5->dZ L e d=I->(U out:Int)<=1000+200*(6-(L:Int))->wI (n+1) out e=Y (out++fv L e)
 |0,n,e,out,_,_,h,_=>by cases h
 |L+1,n,e,out,b,F,h,f=>by
  obtain⟨g,p,A⟩:=jI h;have G:=rZ e.aU;unfold wI;refine bR (bU (λz=>z=out++(if e.aU=3 then [e.dL] else [])) (λj B=>aS (λa=>?_) λo=>B _ (by rw[bh o];simp)) λz C=>?_)
  ·have H:=Ke h e.dL (by simp[fv,a]);obtain⟨_,K,Q⟩:=px H;exact ah (Dy O (UO K Q)) (ah (dO bV) (B _ (by rw[bk a])))
  subst C;obtain⟨n,rfl⟩: ∃j,n=j+1:=⟨n-1,O⟩
  by_cases a:e.aU=3
  ·have c:e.bS=[]:=by
    have C:gJ e.aU=0:=by unfold gJ;rw[bk (Or.inr (Or.inr a))]
    exact oJ O
   rw[c];refine aJ ?_;simp[fv,a,c]
  have q: ∀k∈e.bS,(U (fv L k):Int)<=100:=λk m=>by
   have s:=F5 (A k m);have t:(2:Int)^L<=40:=by
    match L,F with
    |0,_=>decide
    |1,_=>decide
    |2,_=>decide
    |3,_=>decide
    |4,_=>decide
   have:=Eh L k;omega
  rw[bh a,jj];refine cK (λx:List dr×Int=> ∃i:Nat,x.2=i/\i<=U e.bS/\x.1=out++(e.bS.take i).flatMap (fv L)/\(U x.1:Int)<=U out+100*i) (λx=>U e.bS-x.2.toNat) ?_ (n+1) _ ⟨0,rfl,O,aZ,aZ⟩ bV;rintro r ⟨x,k⟩ ⟨i,m,u,w,y⟩ R;dsimp only at m w y⊢;subst m;refine aS (λW=>?_) λX=>aJ ?_
  ·have l:=bO (O:i<U e.bS);have hm:=ca l;have br:=q _ hm;refine ah (bF l) (ah (Q1 (d:=d) L n _ x O O (A _ hm) O) ?_);rw[bt O];refine R _ ⟨i+1,Z,O,?_,by dsimp only;rw[ea];omega⟩ Z;dsimp only;rw[fs,l,sk,w];simp
  have:i=U e.bS:=O
  rw[w,this,eB];simp[fv,a]
theorem UX{o:List b4}(c:Fit o): ∀(cD:List b4) (k:Nat) (p q:bo),o.drop k=cD->k<=U o->jY k p->q∈hh cD p->jY (U o) q
 | [],k,p,q,d,h,e,a=>by
  have:=E1 d h;simp only[hh,List.mem_singleton] at a;subst a;subst this;exact e
 |l::cD,k,p,q,d,h,e,a=>by obtain⟨i,m,y⟩:=Ev d;obtain⟨n,r⟩:=c.2 k l i;have w:=c.1;simp only[hh,List.mem_flatMap] at a;obtain⟨v,x,a⟩:=a;exact UX c cD (k+1) _ q m O (Fw n r e O (ahU.1 x)) a
theorem vr{o:List b4}{z:dT}(h:lq o=Y z):Fit o/\(U z)<=120/\(∀q∈z,jY (U o) q)/\z=hh o []/\hN o []<=1200:=by
 unfold lq at h;split at h
 ·rename_i a;cases h;have c:=F9 a.1;exact⟨c,a.2.2,λq d=>UX c o 0 [] q rfl O CH d,rfl,a.2.1⟩
 cases h
def jb(c:List de)(s:cT)(q:bo):Bool:=ak (0<=gg c s.dI q 0)&&(fv 5 s.cz).all λa=>decide (0<=gg c a q 0)
theorem mV(h:ff s d=I):gh s.dI d=I/\dZ 5 s.cz d=I/\(∀a∈fv 5 s.cz,gh a d=I)/\(U (fv 5 s.cz))<=12:=by
 simp only[ff,cJ,decide_eq_true_eq] at h;obtain⟨_,e,c,i⟩:=h
 have:=Eh 5 s.cz;exact⟨e,c,Ke c,O⟩
theorem acn(F:7000<=n)(c:U p.a7<=4)(e:mU p.a7)(r:ff s d=I)(i:jY k q):Hg n p s q=Y (jb p.a7 s q):=by
 obtain⟨w,x,y,G⟩:=mV r;obtain⟨n,rfl⟩: ∃j,n=j+1:=⟨n-1,O⟩
 refine bR ?_;unfold Hg;generalize m:jb p.a7 s q=T;unfold jb at m;refine bU (λz=>z=T) (λj o=>ah (Er O c e w i) (aS (λh=>?_) λh=>o _ ?_)) λz A=>aJ A
 ·have ch:=ZP (n:=n+1) (f:=λB=>B4 (n+1) B p q) (p:=λa=>decide (gg p.a7 a q 0<0)) (l:=fv 5 s.cz)
   (λa C=>by unfold B4;rw[Er O c e (y a C) i];rfl) O O
  refine ah (JF (d:=d) 5 n s.cz O O x) (ah ch (o _ ?_))
  grind
 rw[<-m,cc h];rfl
theorem PX(E:7000<=n)(G:U r<=4)(H:mU r)(Q:ff s d=I)(K:jY k q):
  zJ n r s q=Y (if jb r s q=I then((fv 5 s.cz).map λa=>gg r a q 0,gg r s.dI q 0,I) else([],0,ao)):=by
 obtain⟨W,X,b,M⟩:=mV Q;obtain⟨n,rfl⟩: ∃j,n=j+1:=⟨n-1,O⟩
 refine bR ?_;unfold zJ;refine ah (Q1 (d:=d) 5 n s.cz [] O O X aZ) ?_;rw[wO];generalize f:fv 5 s.cz=R at*;have e:jb r s q=(ak (0<=gg r s.dI q 0)&&R.all λa=>decide (0<=gg r a q 0)):=by unfold jb;rw[f]
 refine cK (λx:bo×Int=> ∃i:Nat,x.2=i/\i<=U R/\x.1=(R.take i).map (λa=>gg r a q 0)/\ ∀(t:Nat) a,t<i->R[t]? =Y a->0<=gg r a q 0) (λx=>U R-x.2.toNat) ?_ (n+1) _ ⟨0,rfl,O,aZ,λt a h=>O⟩ Z;rintro y ⟨x,z⟩ ⟨i,L,N,w,A⟩ g;dsimp only at L w A⊢;subst L;refine aS (λp=>?_) λu=>?_
 ·have b9:=bO (O:i<U R);have hm:=ca b9;refine ah (bF b9) (ah (RS O G H (b _ hm) K) (aS (λl=>aJ ?_) λm=>?_))
  ·rw[bh];rw[e];intro h;rw[sn] at h
   have:=hL.1 h.2 _ hm;rw[decide_eq_true_eq] at this;omega
  have v:U x<=12:=by rw[w,er,dW];omega
  refine ah (dO bV) ?_;rw[bt O];refine g _ ⟨i+1,Z,O,?_,λt a B c=>?_⟩ Z
  ·dsimp only;rw[fs,b9,jl,w];rfl
  by_cases C:t=i
  ·subst C;rw[b9] at c;cases c;omega
  exact A t a O c
 have F:i=U R:=O
 have o:R.all (λa=>decide (0<=gg r a q 0))=I:=hL.2 (λa hm=>by
  obtain⟨t,B⟩:=nK hm
  have:=(cI.1 B).1;exact cj (A t a O B))
 rw[e,o,Bool.and_true];refine ah (RS O G H W K) (aS (λl=>aJ ?_) λm=>aJ ?_)
 ·rw[bh (by rw[decide_eq_true_eq];omega)]
 rw[bk (by rw[decide_eq_true_eq];omega),w,F,eB]
def mi(q:bo):Bool:=ak (U q<=4)&&q.all λx=>decide (-9999<=x/\x<=9999)
theorem abQ(c:5000<=n)(h:U q<=1000):Ep n q=Y (mi q):=by
 unfold Ep mi;have ch:=Ij (n:=n) (f:=λa=>CZ n a) (p:=λx=> !decide (-9999<=x/\x<=9999)) (l:=q) (λx _=>by unfold CZ;rw[k3];rfl) O O;simp only[bl,ad]
 grind
theorem abm(w:5000<=n)(h:U q<=1000):Eb n q=Y (mi q):=by
 refine bR ?_;unfold Eb;refine sq (l:=q) (p:=λ_ x=>decide (-9999<=x/\x<=9999)) O O (λa i x e k m=>?_) (λa d=>?_) (λ⟨i,x,e,o⟩=>?_)
 ·have aO:=(cI.1 e).1;rw[cj (show(i:Int)<(U q:Int) by omega)];refine cB (ah (bF e) (ah (CU n x 9999 O) ?_));cases o:ak (-9999<=x/\x<=9999) with
  |true=>show cG (a _) _;rw[bt O];exact k o
  |false=>exact aJ (m o)
 ·rw[cc (show¬(U q:Int)<(U q:Int) by omega)];refine aJ ?_;unfold mi;rw[hL.2 (λc r=>by obtain⟨i,aO⟩:=nK r;exact d i c aO),Bool.and_true]
  grind
 unfold mi
 grind
theorem Tv{k:Type}(p q:k->Bool): ∀l:List k,(l.all p&&l.all q)=l.all (λx=>p x&&q x)
 | []=>rfl
 |x::l=>by simp only[List.all_cons,<-Tv p q l];cases p x<;>cases q x<;>cases l.all p<;>cases l.all q<;>rfl
def ql(a:cq):Bool:=ak (1<=U a.a'/\(U a.a')<=4)&&a.a'.all λs=>ff s (U a.a6:Int)
def k8(a:cq):dT:=(lq a.a6).getD []
def gb(c:List de)(a:cq):Bool:=(lq a.a6).isSome&&(ql a&&a.a'.all λs=>(k8 a).all λq=>jb c s q&&mi q)
def Ga(x:cq):Prop:=sE x.a6/\(U x.a')<=1000/\ ∀s∈x.a',sF s
def kW(p:bx):Prop:=Ju p.a7/\(U p.aq)<=1000/\ ∀x∈p.aq,Ga x
theorem ix(h:gb r x=I):lq x.a6=Y (k8 x)/\(1<=U x.a'/\(U x.a')<=4)/\(∀s∈x.a',ff s (U x.a6:Int)=I)/\ ∀s∈x.a',∀q∈k8 x,jb r s q=I/\mi q=I:=by
 simp only[gb,ql,cJ,decide_eq_true_eq,hP] at h;refine⟨?_,h.2.1.1,h.2.1.2,h.2.2⟩;unfold k8;cases a:lq x.a6 with
 |none=>rw[a] at h;simp at h
 |some c=>rfl
theorem L3{list:List de}(h:lb list=I):U list<=4/\mU list:=by
 simp only[lb,cJ,decide_eq_true_eq] at h;refine⟨h.2,λx a=>?_⟩;obtain⟨i,c⟩:=nK a
 have:=DT h.1 c;simp only[pJ,cJ] at this
 grind
theorem Je(dc:7000<=n){a:List de}(S:U a<=4)(V:mU a)(hx:Ga x):
  xe n a x=Y (if gb a x=I then((U (k8 x):Int)*(U x.a':Int),I) else(0,ao)):=by
 obtain⟨h1,h2,h3⟩:=hx;refine bR ?_;unfold xe;generalize E:(if gb a x=I then((U (k8 x):Int)*(U x.a':Int),I) else((0:Int),ao))=T;refine ah (ZH O h1) ?_;have d:gb a x=ao->((0:Int),ao)=T:=λh=>by rw[<-E,h];rfl
 refine bU (λz=>z= !((lq x.a6).isSome&&ak (1<=U x.a'/\(U x.a')<=4))) (λj m=>?_) λz X=>?_
 ·cases o:lq x.a6 with
  |none=>exact cB (m _ (by rw[o];rfl))
  |some c=>
   refine cx (aS (λh=>m _ ?_) λh=>m _ ?_)
   ·rw[o,cc O];rfl
   rw[o];by_cases h4:U x.a'<=4
   ·rw[cc (show¬(4:Int)<(U x.a':Int) by omega),cj O];rfl
   rw[cj (show(4:Int)<(U x.a':Int) by omega),cc O];rfl
 subst X;cases o:lq x.a6 with
 |none=>exact aJ (d (by unfold gb;rw[o];rfl))
 |some c=>
  obtain⟨jK,alj,b,alm,aln⟩:=vr o;have C:k8 x=c:=by unfold k8;rw[o];rfl
  by_cases R:1<=U x.a'/\(U x.a')<=4
  ·rw[cj R];refine cx ?_;have r:gb a x=x.a'.all (λs=>ff s (U x.a6:Int)&&c.all λq=>jb a s q&&mi q):=by
    unfold gb ql;rw[o,C,cj R,Option.isSome_some,ic,ic];exact Tv _ _ _
   refine cK (λy:Int=> ∃i:Nat,y=i/\i<=U x.a'/\ ∀(t:Nat) s,t<i->x.a'[t]? =Y s->(ff s (U x.a6:Int)&&c.all λq=>jb a s q&&mi q)=I) (λy=>U x.a'-y.toNat) ?_ n _ ⟨0,rfl,O,λt s h=>O⟩ bV;rintro f y ⟨i,rfl,aO,M⟩ cC;refine aS (λhlt=>?_) λjt=>aJ ?_
   ·have b9:=bO (O:i<U x.a');have hm:=ca b9;refine ah (bF b9) (ah (Oy O (h3 _ hm) _) ?_);cases l:ff x.a'[i] (U x.a6:Int) with
    |false=>
     refine cB (aJ (d ?_));rw[r];exact nL.2 ⟨_,hm,by rw[l];simp⟩
    |true=>
     refine cx ?_;show cG (bH (λe (hn:Int)=>bif ak (hn<(U c:Int)) then _ else _) n 0) _;refine cK (λy:Int=> ∃k:Nat,y=k/\k<=U c/\ ∀(t:Nat) q,t<k->c[t]? =Y q->(jb a x.a'[i] q&&mi q)=I) (λy=>U c-y.toNat) ?_ n _ ⟨0,rfl,O,λt s h=>O⟩ bV;rintro e y ⟨k,rfl,hk,F⟩ g;refine aS (λN=>?_) λP=>?_
     ·have w:=bO (O:k<U c);have G:=ca w;have H:=b _ G;have p:U c[k]<=1000:=by have:=H.1;have:=H.2.1;omega
      refine ah (bF w) (ah (PX O S V l H) (bU (λz=>z= !(jb a x.a'[i] c[k]&&mi c[k])) (λj m=>?_) λz X=>?_))
      ·cases K:jb a x.a'[i] c[k] with
       |false=>
        rw[K] at m;exact cB (m _ rfl)
       |true=>
        rw[K] at m;exact cx (ah (abm O p) (m _ rfl))
      subst X;cases K:(jb a x.a'[i] c[k]&&mi c[k]) with
      |false=>
       refine aJ (d ?_);rw[r];refine nL.2 ⟨_,hm,?_⟩;rw[l,ic];rw[nL.2 ⟨_,G,by rw[K];simp⟩];simp
      |true=>
       show cG (e _) _;rw[bt O];refine g _ ⟨k+1,O,O,λt q W A=>?_⟩ O;by_cases u:t=k
       ·subst u;rw[w] at A;cases A;exact K
       exact F t q O A
     rw[bt O];refine cC _ ⟨i+1,O,O,λt s W B=>?_⟩ O;by_cases v:t=i
     ·subst v;rw[b9] at B;cases B;rw[l,ic];refine hL.2 λq H=>?_;obtain⟨lI,L⟩:=nK H
      have:=(cI.1 L).1;exact F lI q O L
     exact M t s O B
   have Q:gb a x=I:=by
    rw[r];refine hL.2 λs hs=>?_;obtain⟨t,W⟩:=nK hs
    have:=(cI.1 W).1;exact M t s O W
   rw[<-E,Q,bk rfl,C];show(wr ((U c:Int)*(U x.a':Int)),I)=_;have o4:(0:Int)<=(U c:Int)*(U x.a':Int):=q3 O O;have yq:(U c:Int)*(U x.a':Int)<=120*4:=uz O O O O;rw[bt O]
  rw[cc R];refine aJ (d ?_);unfold gb ql;rw[cc R];simp
def d7(x:cq):Int:=(U (k8 x):Int)*(U x.a':Int)
def qI(i:Nat)(x:cq):List dz:=(k8 x).flatMap λq=>(List.range (U x.a')).map fun(k:Nat)=>(⟨(i:Int),(k:Int),q⟩:dz)
def b2(a:List cq):List dz:=a.zipIdx.flatMap λy=>qI y.2 y.1
def lL(p:bx):Bool:=lb p.a7&&(ak (U p.aq<=4)&&p.aq.all (gb p.a7))
def cS(p:bx):Bool:=lL p&&ak ((p.aq.map d7).sum<=120)
theorem amj(l:List cq)(x:cq):b2 (l++[x])=b2 l++qI (U l) x:=by
 unfold b2
 grind
theorem NJ{l:List cq}(h:l[i]? =Y x):b2 (l.take (i+1))=b2 (l.take i)++qI i x:=by have aO:=(cI.1 h).1;rw[fs,h];show b2 (l.take i++[x])=_;rw[amj,dW,Nat.min_eq_left (Nat.le_of_lt aO)]
theorem EZ{k R:Type}(f:k->List R)(m:Nat)(h: ∀x,U (f x)=m): ∀l:List k,U (l.flatMap f)=U l*m
 | []=>aZ
 |x::l=>by rw[List.flatMap_cons,ea,h,EZ f m h l,nM,ft];omega
theorem NI(i:Nat)(x:cq):(U (qI i x):Int)=d7 x:=by
 unfold qI d7;rw[EZ _ (U x.a') λq=>aZ]
 grind
theorem SJ{l:List cq}(h:l[i]? =Y x):((l.take (i+1)).map d7).sum=((l.take i).map d7).sum+d7 x:=by rw[fs,h];simp
theorem WO: ∀(l:List cq) (i:Nat),i<=U l->(U (b2 (l.take i)):Int)=((l.take i).map d7).sum
 |l,0,_=>by simp[b2]
 |l,i+1,h=>by
  have b9:=bO (O:i<U l);rw[NJ b9,ea,SJ b9]
  have:=WO l i O
  have:=NI i l[i];omega
theorem GS(l:List cq):(U (b2 l):Int)=(l.map d7).sum:=by
 have:=WO l (U l) (dV _)
 grind
theorem z'(h:gb r x=I):0<=d7 x/\d7 x<=480:=by
 obtain⟨a,c,_⟩:=ix h;obtain⟨_,d,_⟩:=vr a;unfold d7;refine⟨q3 O O,?_⟩
 have:=uz (show(U (k8 x):Int)<=120 by omega) (show(U x.a':Int)<=4 by omega) O O;omega
theorem mH(u:7000<=n)(K:kW p):nu n p=Y (cS p):=by
 obtain⟨L,v,Q⟩:=K;refine bR ?_;unfold nu;generalize q:cS p=T;unfold cS lL at q;refine bU (λz=>z= !(lb p.a7&&ak (U p.aq<=4))) (λj F=>ah (aaz O L) ?_) λz m=>?_
 ·cases e:lb p.a7 with
  |false=>exact cB (F _ (by rw[e];rfl))
  |true=>
   refine cx (F _ ?_);rw[e];by_cases G:U p.aq<=4
   ·rw[cc (show¬(4:Int)<(U p.aq:Int) by omega),cj G];rfl
   rw[cj (show(4:Int)<(U p.aq:Int) by omega),cc G];rfl
 subst m;cases o:(lb p.a7&&ak (U p.aq<=4)) with
 |false=>
  refine aJ ?_;rw[<-q,<-oL,o];rfl
 |true=>
  have k:T=(p.aq.all (gb p.a7)&&ak ((p.aq.map d7).sum<=120)):=by rw[<-q,<-oL,o];rfl
  rw[sn,decide_eq_true_eq] at o;obtain⟨R,W⟩:=L3 o.1;refine cx ?_;refine cK (λx:Int×Int=> ∃i:Nat,x.2=i/\i<=U p.aq/\x.1=((p.aq.take i).map d7).sum/\0<=x.1/\x.1<=480*i/\ ∀(t:Nat) y,t<i->p.aq[t]? =Y y->gb p.a7 y=I) (λx=>U p.aq-x.2.toNat) ?_ n _ ⟨0,rfl,O,aZ,aZ,aZ,λt y h=>O⟩ Z;rintro a ⟨x,z⟩ ⟨i,m,E,H,r,w,e⟩ X;dsimp only at m H r w e⊢;subst m;refine aS (λb=>?_) λf=>aJ ?_
  ·have b9:=bO (O:i<U p.aq);have hm:=ca b9;refine ah (bF b9) (ah (Je O R W (Q _ hm)) ?_);cases c:gb p.a7 p.aq[i] with
   |false=>
    rw[bh aZ];refine aJ ?_;rw[k,nL.2 ⟨_,hm,by rw[c];simp⟩];rfl
   |true=>
    rw[bk rfl];have g:=z' c;show cG (a (wr (x+d7 p.aq[i]),wr ((i:Int)+1))) _;rw[bt (n:=x+d7 p.aq[i]) O,bt O];refine X _ ⟨i+1,Z,O,by dsimp only;rw[SJ b9];omega,Z,Z,λt y A d=>?_⟩ Z;by_cases B:t=i
    ·subst B;rw[b9] at d;cases d;exact c
    exact e t y O d
  have C:i=U p.aq:=O
  have l:p.aq.all (gb p.a7)=I:=hL.2 (λy s=>by
   obtain⟨t,A⟩:=nK s
   have:=(cI.1 A).1;exact e t y O A)
  rw[k,l,ic,H,C,eB]
theorem Pf{R:Type}(f:Nat->R)(k:Nat):(List.range (k+1)).map f=(List.range k).map f++[f k]:=by rw[se,jl];rfl
theorem Ph(dc:7000<=n)(hp:kW p):yk n p=Y (if lL p=I then(b2 p.aq,ak (U (b2 p.aq)<=120)) else([],ao)):=by
 obtain⟨h1,h2,h3⟩:=hp;refine bR ?_;unfold yk;generalize k7:(if lL p=I then(b2 p.aq,ak (U (b2 p.aq)<=120)) else([],ao))=T;have a:lL p=ao->(([]:List dz),ao)=T:=λh=>by rw[<-k7,h];rfl
 refine bU (λz=>z= !(lb p.a7&&ak (U p.aq<=4))) (λj M=>ah (aaN O h1) ?_) λz d=>?_
 ·cases N:lb p.a7 with
  |false=>exact cB (M _ (by rw[N];rfl))
  |true=>
   refine cx (M _ ?_);rw[N];by_cases h4:U p.aq<=4
   ·rw[cc (show¬(4:Int)<(U p.aq:Int) by omega),cj h4];rfl
   rw[cj (show(4:Int)<(U p.aq:Int) by omega),cc h4];rfl
 subst d;cases br:(lb p.a7&&ak (U p.aq<=4)) with
 |false=>exact aJ (a (by unfold lL;rw[<-oL,br];rfl))
 |true=>
  have o:lL p=p.aq.all (gb p.a7):=by unfold lL;rw[<-oL,br];rfl
  rw[sn,decide_eq_true_eq] at br;obtain⟨dm,cN⟩:=L3 br.1;refine cx ?_;refine cK (λx:List dz×Int=> ∃i:Nat,x.2=i/\i<=U p.aq/\x.1=b2 (p.aq.take i)/\(U x.1)<=480*i/\ ∀(t:Nat) y,t<i->p.aq[t]? =Y y->gb p.a7 y=I) (λx=>U p.aq-x.2.toNat) ?_ n _ ⟨0,rfl,O,by simp[b2],aZ,λt y h=>O⟩ Z;rintro again ⟨x,z⟩ ⟨i,d,aO,hx,alU,N⟩ cC;dsimp only at d hx alU N⊢;subst d;refine aS (λhlt=>?_) λjt=>aJ ?_
  ·have b9:=bO (O:i<U p.aq);have hm:=ca b9;obtain⟨s1,s2,aoO⟩:=h3 _ hm;generalize vE:p.aq[i]=P at*;have w:gb p.a7 P=ao->lL p=ao:=λh=>by rw[o];exact nL.2 ⟨_,hm,by rw[h];simp⟩
   refine ah (bF b9) (ah (ZC O s1) (bU (λz=>z= !((lq P.a6).isSome&&ql P)) (λj M=>?_) λz d=>?_))
   ·cases B:lq P.a6 with
    |none=>exact cB (M _ (by rw[B];rfl))
    |some c=>
     refine cx ?_;have hw:gO n (U P.a':Int) 1 4=Y (ak (1<=U P.a'/\(U P.a')<=4)):=by
      rw[k3];congr 1;exact decide_eq_decide.2 O
     refine ah hw ?_;have ch:=aaQ (n:=n) (f:=λrY=>Bw n rY P) (p:=λs=> !ff s (U P.a6:Int)) (l:=P.a') (λs S=>by unfold Bw;rw[Pk O (aoO s S)];rfl) O O;have e:(P.a'.any λs=> !ff s (U P.a6:Int))= !(P.a'.all λs=>ff s (U P.a6:Int)):=by rw[List.all_eq_not_any_not];simp
     cases V:ak (1<=U P.a'/\(U P.a')<=4) with
     |false=>exact cB (M _ (by unfold ql;rw[B,V];rfl))
     |true=>exact cx (ah ch (M _ (by unfold ql;rw[B,V,e];rfl)))
   subst d;cases B:lq P.a6 with
   |none=>exact aJ (a (w (by unfold gb;rw[B];rfl)))
   |some c=>
    obtain⟨jK,alj,alk,alm,aln⟩:=vr B;have Ww:k8 P=c:=by unfold k8;rw[B];rfl
    cases H:ql P with
    |false=>exact aJ (a (w (by unfold gb;rw[H];simp)))
    |true=>
     have C:=H;simp only[ql,cJ,decide_eq_true_eq,hP] at C;obtain⟨⟨o4,yq⟩,BG⟩:=C;have K:gb p.a7 P=P.a'.all (λs=>c.all λq=>jb p.a7 s q&&mi q):=by
      unfold gb;rw[B,H,Ww];rfl
     let row:bo->List dz:=λq=>(List.range (U P.a')).map fun(k:Nat)=>(⟨(i:Int),(k:Int),q⟩:dz)
     have hrl: ∀q,U (row q)=U P.a':=λq=>by simp[row]
     have r:qI i P=c.flatMap row:=by unfold qI;rw[Ww]
     refine cx ?_;rw[show(vq (Y c)).1=c from rfl];refine cK (λy:List dz×Int=> ∃k:Nat,y.2=k/\k<=U c/\y.1=x++(c.take k).flatMap row/\ ∀(t:Nat) q,t<k->c[t]? =Y q->mi q=I/\ ∀s∈P.a',jb p.a7 s q=I) (λy=>U c-y.2.toNat) ?_ n _ ⟨0,rfl,O,aZ,λt q h=>O⟩ Z;rintro anw ⟨y,z⟩ ⟨k,d,hk,L,R⟩ alq;dsimp only at d L R⊢;subst d;refine aS (λhlt2=>?_) λanW=>?_
     ·have A:=bO (O:k<U c);have W:=ca A;generalize M2:c[k]=Q at*;have dR:=alk _ W;have Np:U Q<=4:=by have:=dR.1;have:=dR.2.1;omega
      refine ah (bF A) (ah (abQ O O) ?_);have alZ:U y<=480*4+480:=by
       rw[L,ea,EZ row _ hrl,dW]
       have:min k (U c)*U P.a'<=120*4:=p8 O yq;omega
      cases Wx:mi Q with
      |false=>
       refine cB (aJ (a (w ?_)));rw[K];obtain⟨Oa,WB⟩: ∃Oa,Oa∈P.a':=List.exists_mem_of_length_pos O;refine nL.2 ⟨Oa,WB,?_⟩;rw[nL.2 ⟨Q,W,by rw[Wx];simp⟩];simp
      |true=>
       refine cx ?_;refine cK (λu:List dz×Int=> ∃m:Nat,u.2=m/\m<=U P.a'/\u.1=y++(List.range m).map (fun(k:Nat)=>(⟨(i:Int),(k:Int),Q⟩:dz))/\ ∀(t:Nat) s,t<m->P.a'[t]? =Y s->jb p.a7 s Q=I) (λu=>U P.a'-u.2.toNat) ?_ n _ ⟨0,rfl,O,aZ,λt s h=>O⟩ Z;rintro anx ⟨u,z⟩ ⟨m,d,rD,hu,X⟩ alr;dsimp only at d hu X⊢;subst d;refine aS (λan0=>?_) λakM=>?_
       ·have b:=bO (O:m<U P.a');have F:=ca b;refine ah (bF b) (ah (acn O dm cN (BG _ F) dR) ?_);cases Wc:jb p.a7 P.a'[m] Q with
        |false=>
         refine cB (aJ (a (w ?_)));rw[K];refine nL.2 ⟨_,F,?_⟩;rw[nL.2 ⟨Q,W,by rw[Wc];simp⟩];simp
        |true=>
         have hcl:lE Q=Y Q:=by unfold lE;rw[bk O]
         have o5:U u<=480*4+480+4:=by rw[hu];simp;omega
         refine cx (ah hcl (ah (dO bV) ?_));rw[bt O];refine alr _ ⟨m+1,Z,O,?_,λt s G g=>?_⟩ Z
         ·dsimp only;rw[hu,Pf,hM]
         by_cases alJ:t=m
         ·subst alJ;rw[b] at g;cases g;exact Wc
         exact X t s O g
       have ak9:m=U P.a':=O
       rw[bt O];refine alq _ ⟨k+1,Z,O,?_,λt q G v=>?_⟩ Z
       ·dsimp only;rw[fs,A,sk,<-hM,<-L,hu,ak9];simp[row]
       by_cases yC:t=k
       ·subst yC;rw[A] at v;cases v;refine⟨Wx,λs S=>?_⟩;obtain⟨lI,WE⟩:=nK S
        have:=(cI.1 WE).1;exact X lI s O WE
       exact R t q O v
     have Wj:k=U c:=O
     have GO:gb p.a7 P=I:=by
      rw[K];refine hL.2 λs S=>hL.2 λq dR=>?_;obtain⟨t,G⟩:=nK dR
      have:=(cI.1 G).1;obtain⟨g1,g2⟩:=R t q O G;rw[g1,g2 s S];rfl
     have GK:=z' GO;have Nd:=NI i P;rw[bt O];refine cC _ ⟨i+1,Z,O,?_,?_,λt y G E=>?_⟩ Z
     ·dsimp only;rw[NJ b9,r,L,Wj,eB,hx]
     ·dsimp only;rw[L,Wj,eB,ea,<-r];omega
     by_cases alI:t=i
     ·subst alI;rw[b9] at E;cases E;exact GO
     exact N t y O E
  have akQ:i=U p.aq:=O
  have hall:lL p=I:=by
   rw[o];exact hL.2 (λy L=>by
    obtain⟨t,G⟩:=nK L
    have:=(cI.1 G).1;exact N t y O G)
  rw[<-k7,bk hall,hx,akQ,eB];congr 1;exact decide_eq_decide.2 O
theorem vy(a:7000<=n)(c:kW p):tj n p=Y (cS p):=by
 unfold tj;rw[Ph a c];unfold cS;cases h:lL p with
 |false=>rfl
 |true=>
  rw[bk rfl];show Y (decide _)=_;rw[ic];congr 1
  have:=GS p.aq;exact decide_eq_decide.2 O
theorem gf(h:cS p=I):U p.a7<=4/\mU p.a7/\(U p.aq)<=4/\(∀x∈p.aq,gb p.a7 x=I)/\(U (b2 p.aq))<=120:=by
 simp only[cS,lL,cJ,decide_eq_true_eq,hP] at h;obtain⟨⟨c,d,e⟩,i⟩:=h;obtain⟨a,b⟩:=L3 c
 have:=GS p.aq
 grind
theorem yQ(dc:7000<=n)(b0:cS p=I):rq n p=Y (b2 p.aq):=by
 obtain⟨dm,cN,h4,G,Nd⟩:=gf b0;refine bR ?_;unfold rq;refine cK (λx:List dz×Int=> ∃i:Nat,x.2=i/\i<=U p.aq/\x.1=b2 (p.aq.take i)/\(U x.1)<=480*i) (λx=>U p.aq-x.2.toNat) ?_ n _ ⟨0,rfl,O,by simp[b2],aZ⟩ Z;rintro H ⟨x,z⟩ ⟨i,c,aO,K,L⟩ cC;dsimp only at c K L⊢;subst c;refine aS (λhlt=>?_) λjt=>aJ ?_
 ·have b9:=bO (O:i<U p.aq);have hm:=ca b9;have e:=G _ hm;generalize vE:p.aq[i]=P at*;obtain⟨oH,q2,wx,Xc⟩:=ix e;obtain⟨v,R,W,h,X⟩:=vr oH;generalize b:k8 P=E at*;have GK:=z' e;have M:=NI i P;let row:bo->List dz:=λq=>(List.range (U P.a')).map fun(k:Nat)=>(⟨(i:Int),(k:Int),q⟩:dz)
  have f: ∀q,U (row q)=U P.a':=λq=>by simp[row]
  have a:qI i P=E.flatMap row:=by unfold qI;rw[b]
  refine ah (bF b9) (dh (Jc v P.a6 n 0 [] [] (by have:=v.1;omega) rfl O CH X aZ) λr ⟨wy,uc⟩=>?_);have g:r=E:=by rw[wy (by rw[<-h];simpa using R),h];rfl
  subst g;refine cK (λy:List dz×Int=> ∃k:Nat,y.2=k/\k<=U r/\y.1=x++(r.take k).flatMap row) (λy=>U r-y.2.toNat) ?_ n _ ⟨0,rfl,O,aZ⟩ Z;rintro l ⟨y,z⟩ ⟨k,c,hk,o⟩ w;dsimp only at c o⊢;subst c;refine aS (λN=>?_) λS=>?_
  ·have d:=bO (O:k<U r);have j:=ca d;generalize M2:r[k]=Q at*;have T:=W _ j;have Np:U Q<=4:=by have:=T.1;have:=T.2.1;omega
   have alZ:U y<=480*4+480:=by
    rw[o,ea,EZ row _ f,dW]
    have:min k (U r)*U P.a'<=120*4:=p8 O q2.2;omega
   refine cK (λu:List dz×Int=> ∃m:Nat,u.2=m/\m<=U P.a'/\u.1=y++(List.range m).map (fun(k:Nat)=>(⟨(i:Int),(k:Int),Q⟩:dz))) (λu=>U P.a'-u.2.toNat) ?_ n _ ⟨0,rfl,O,aZ⟩ Z;rintro A ⟨u,z⟩ ⟨m,c,rD,F⟩ B;dsimp only at c F⊢;subst c;refine aS (λV=>?_) λakM=>?_
   ·have o5:U u<=480*4+480+4:=by rw[F];simp;omega
    refine ah (bF d) (ah (pM _ O) (ah (dO bV) ?_));rw[bt O];refine B _ ⟨m+1,Z,O,?_⟩ Z;dsimp only;rw[F,Pf,hM]
   have s:m=U P.a':=O
   rw[bt O];refine w _ ⟨k+1,Z,O,?_⟩ Z;dsimp only;rw[fs,d,sk,<-hM,<-o,F,s];simp[row]
  have C:k=U r:=O
  rw[bt O];refine cC _ ⟨i+1,Z,O,?_,?_⟩ Z
  ·dsimp only;rw[NJ b9,a,o,C,eB,K]
  dsimp only;rw[o,C,eB,ea,<-a];omega
 have t:i=U p.aq:=O
 rw[K,t,eB]
theorem adE{l:List de}{x:de}(h:l[i]? =Y x):jf (l.take (i+1))=jf (l.take i)+jB x.cr:=by unfold jf;rw[List.take_add_one,h];simp
theorem QZ(w:7000<=n)(y:U p.a7<=4)(k:mU p.a7):D' n p=Y (jf p.a7):=by
 refine bR ?_;unfold D';refine cK (λx:Int×Int=> ∃i:Nat,x.2=i/\i<=U p.a7/\x.1=jf (p.a7.take i)/\0<=x.1/\x.1<=36*i) (λx=>U p.a7-x.2.toNat) ?_ n _ ⟨0,rfl,O,by simp[jf],aZ,aZ⟩ Z;rintro c ⟨x,z⟩ ⟨i,h,A,l,d,e⟩ m;dsimp only at h l d e⊢;subst h;refine aS (λo=>?_) λq=>aJ ?_
 ·have b9:=bO (O:i<U p.a7);have a:=k _ (ca b9);have jc:=u' a;refine ah (bF b9) (ah (Jd O a) ?_);rw[bt (n:=x+jB p.a7[i].cr) O,bt O];exact m _ ⟨i+1,Z,O,by dsimp only;rw[adE b9];omega,Z,Z⟩ Z
 have r:i=U p.a7:=O
 grind
theorem Rt(a:7000<=n)(c:U p.a7<=4)(d:mU p.a7):Hq n p=Y (jf p.a7):=QZ a c d
def lU:Nat->List de->bo->bW->bo->Int
 |0,_,_,_,_=>0
 |L+1,c,m,e,q=>
  if e.aU=1 then e.cA
  else if e.aU=2 then im e.dp q%1000
  else if e.aU=3 then m.getD (gg c e.dL q 0).toNat 0
  else match e.bS with
   | [a,b]=>if e.aU=4 then(lU L c m a q+lU L c m b q)%1000 else if e.aU=5 then(lU L c m a q-lU L c m b q)%1000 else(lU L c m a q*lU L c m b q)%1000
   |_=>0
def vm(a:List de)(m:bo):Prop:=(U m:Int)=jf a/\ ∀x∈m,0<=x/\x<=999
theorem ai2(h:vm r m)(i:Nat):0<=m.getD i 0/\m.getD i 0<=999:=by
 rw[fZ];cases a:m[i]? with
 |none=>simp
 |some x=>exact h.2 x (ca a)
theorem ajc(c:vm r m): ∀{L:Nat} {e:bW},dZ L e d=I->0<=lU L r m e q/\lU L r m e q<=999
 |0,e,h=>by cases h
 |L+1,e,h=>by
  obtain⟨k,a,l⟩:=jI h;simp only[lU];split
  ·rename_i i;unfold fE at a;rw[bh O,bh O,bk i] at a;simp only[cJ,decide_eq_true_eq] at a;omega
  split
  ·omega
  split
  ·exact ai2 c _
  split
  ·split
   ·omega
   split<;>omega
  omega
def iN(p:bx)(x:dz):Prop:= ∃(i k:Nat) (P:cq) (s:cT),x.cf=i/\x.stmt=k/\p.aq[i]? =Y P/\P.a'[k]? =Y s/\x.dS∈k8 P
def xL(p:bx)(x:dz):aL cT:=(p.aq[x.cf.toNat]?).bind λP=>P.a'[x.stmt.toNat]?
def kN(p:bx)(m:bo)(x:dz):bo:=match xL p x with
 |some s=>m.set (gg p.a7 s.dI x.dS 0).toNat (lU 5 p.a7 m s.cz x.dS)
 |none=>m
theorem yO(o:cS p=I){x:dz}(q:iN p x): ∃(i k:Nat) (P:cq) (s:cT) (d:Int),x.cf=i/\x.stmt=k/\p.aq[i]? =Y P/\P.a'[k]? =Y s/\xL p x=Y s/\ff s d=I/\jY (U P.a6) x.dS/\jb p.a7 s x.dS=I:=by obtain⟨F,G,H,a,r⟩:=gf o;obtain⟨i,k,P,s,l,m,c,e,n⟩:=q;obtain⟨w,K,y,z⟩:=ix (a P (ca c));obtain⟨L,A,h,B,C⟩:=vr w;have hs:=ca e;exact⟨i,k,P,s,_,l,m,c,e,by unfold xL;rw[l,m,eb,c];exact(by rw[eb];exact e),y s hs,h _ n,(z s hs _ n).1⟩
theorem Ls(h:jb r s q=I):0<=gg r s.dI q 0/\ ∀a∈fv 5 s.cz,0<=gg r a q 0:=by simp only[jb,cJ,decide_eq_true_eq,hP] at h;exact h
theorem KI{k:Type}{l:List k}{c:Int}(a:0<=c)(h:c.toNat<U l)(x:k):cW l c x=Y (l.set c.toNat x):=by unfold cW;rw[bk ⟨a,O⟩]
theorem Bb{k:Type}{l:List k}{c:Int}(a:0<=c)(h:c.toNat<U l):aC l c=Y l[c.toNat]:=by unfold aC;rw[bk a,List.getElem?_eq_getElem h]
theorem TU(e:cS p=I)(a:vm p.a7 m){x:dz}(l:iN p x):vm p.a7 (kN p m x):=by
 obtain⟨i,k,P,s,d,q,r,w,y,n,o,z,A⟩:=yO e l;unfold kN;rw[n];refine⟨by rw[gH];exact a.1,λv c=>?_⟩;rcases zE c with h|h
 ·exact a.2 v h
 rw[h];exact ajc a (mV o).2.1
theorem kJ{l:List cq}{x:dz}(h:x∈b2 l): ∃(i k:Nat) (P:cq) (s:cT),x.cf=i/\x.stmt=k/\l[i]? =Y P/\P.a'[k]? =Y s/\x.dS∈k8 P:=by unfold b2 at h;rw[Df] at h;obtain⟨⟨P,i⟩,d,a⟩:=h;unfold qI at a;rw[Df] at a;obtain⟨q,e,c⟩:=a;rw[fh] at c;obtain⟨k,m,rfl⟩:=c;have n:=uy.1 m;exact⟨i,k,P,P.a'[k],rfl,rfl,Ic.1 d,bO n,e⟩
def t6(p:bx)(m:bo)(l:List dz):bo:=l.foldl (kN p) m
end
section
def eF(B:Nat)(a:aR):Prop:=U a.bg<=B
def gB(B:Nat)(l:List aR):Prop:=U l<=B/\ ∀a∈l,eF B a
def my(B:Nat)(a:List b4):Prop:=U a<=B/\ ∀l∈a,gB B l.bD/\gB B l.aO
def kg(B:Nat):Nat->bW->Prop
 |0,_=>False
 |L+1,e=>U e.bS<=B/\eF B e.dp/\gB B e.dL.b7/\ ∀k∈e.bS,kg B L k
def kD(B:Nat)(s:cT):Prop:=gB B s.dI.b7/\kg B 5 s.cz
def hR(B:Nat)(x:cq):Prop:=my B x.a6/\(U x.a')<=B/\ ∀s∈x.a',kD B s
def uP(B:Nat)(l:List de):Prop:=U l<=B/\ ∀x∈l,U x.cr<=B
def eo(B:Nat)(p:bx):Prop:=uP B p.a7/\(U p.aq)<=B/\ ∀x∈p.aq,hR B x
variable {B C n:Nat}{a b:aR}{s:cT}{p:bx}{k d:Int}{r:e9}{R:Type}{Q:R->Prop}
theorem eF.mono(h:B<=C)(c:eF B a):eF C a:=iD c h
theorem gB.mono(h:B<=C){l:List aR}(c:gB B l):gB C l:=⟨iD c.1 h,λa d=>(c.2 a d).mono h⟩
theorem my.mono(h:B<=C){l:List b4}(c:my B l):my C l:=⟨iD c.1 h,λa d=>⟨(c.2 a d).1.mono h,(c.2 a d).2.mono h⟩⟩
theorem kg.mono{B C:Nat}(h:B<=C): ∀{L M:Nat} {e:bW},L<=M->kg B L e->kg C M e
 |0,_,_,_,a=>a.elim
 |L+1,0,_,c,_=>O
 |L+1,M+1,e,c,a=>⟨iD a.1 h,a.2.1.mono h,a.2.2.1.mono h,λk d=>kg.mono h O (a.2.2.2 k d)⟩
theorem kD.mono(h:B<=C)(a:kD B s):kD C s:=⟨a.1.mono h,a.2.mono h (dV _)⟩
theorem hR.mono(h:B<=C){s:cq}(a:hR B s):hR C s:=⟨a.1.mono h,iD a.2.1 h,λs c=>(a.2.2 s c).mono h⟩
theorem uP.mono(h:B<=C){s:List de}(a:uP B s):uP C s:=⟨iD a.1 h,λs c=>iD (a.2 s c) h⟩
theorem eo.mono(h:B<=C)(a:eo B p):eo C p:=⟨a.1.mono h,iD a.2.1 h,λs c=>(a.2.2 s c).mono h⟩
theorem gB.sm{l:List aR}(h:gB 1000 l):mG l:=⟨h.1,h.2⟩
theorem kg.sm: ∀{L:Nat} (j:Nat) {e:bW},kg 1000 L e->Az j e
 |_,0,_,_=>trivial
 |0,_+1,_,h=>h.elim
 |L+1,j+1,e,h=>⟨h.1,h.2.1,h.2.2.1.sm,λk a=>kg.sm j (h.2.2.2 k a)⟩
theorem kD.sm(h:kD 1000 s):sF s:=⟨h.1.sm,h.2.sm 5⟩
theorem my.sm{l:List b4}(h:my 1000 l):sE l:=⟨h.1,λx a=>⟨(h.2 x a).1.sm,(h.2 x a).2.sm⟩⟩
theorem hR.sm{x:cq}(h:hR 1000 x):Ga x:=⟨h.1.sm,h.2.1,λs a=>(h.2.2 s a).sm⟩
theorem eo.sm(h:eo 1000 p):kW p:=⟨⟨h.1.1,h.1.2⟩,h.2.1,λx a=>(h.2.2 x a).sm⟩
theorem la(n:Nat){m:Int}(a:dU k r)(c:k<=1000000000):cG (iY n r m) (λx=>0<=x.1/\(1<=m->x.1<m)/\dU (k+1) x.2):=T2 a c
theorem jg(n:Nat){l:bo}(a:dU k r)(c:k<=1000000000)(d:l≠[]):cG (hS n r l) (λx=>x.1∈l/\dU (k+1) x.2):=aiP a c d
theorem Gv(n:Nat){l:gS}(c:dU k r)(d:k<=1000000000)(e:l≠[]):cG (rR n r l) (λx=>x.1∈l/\dU (k+1) x.2):=by
 unfold rR;have q:1<=U l:=by cases l;exact bu rfl e;simp
 refine dh (la n c d) λx ⟨h,i,m⟩=>?_;obtain⟨y,o,a⟩:=hE h (i O);exact ah o (aJ ⟨ca a,m⟩)
def oU(a:aR):Prop:=U a.bg=4
theorem jG(n:Nat)(c:Int):iJ n c=Y ⟨[0,0,0,0],c⟩:=rfl
theorem AV(n:Nat){v:Int}(h:0<=v/\v<=3):cG (oB n v) oU:=by
 unfold oB;refine ah (x:=⟨[0,0,0,0],0⟩) rfl ?_;obtain⟨y,a,_⟩:=hE (l:=[(0:Int),0,0,0]) (i:=v) h.1 bV;refine ah a ?_;have c:cW [(0:Int),0,0,0] v 1=Y ([(0:Int),0,0,0].set v.toNat 1):=by unfold cW;rw[bk ⟨h.1,bV⟩]
 exact ah c (aJ (by unfold oU;rw[gH];rfl))
theorem Rb(q:5000<=n)(e:oU a)(h:oU b)(x y:Int):cG (kp n a x b y) oU:=by unfold oU at e h;unfold kp;refine cK (λz:bo×Int=> ∃i:Nat,z.2=i/\i<=4/\(U z.1)=i) (λz=>4-z.2.toNat) ?_ n _ ⟨0,rfl,O,rfl⟩ Z;rintro c ⟨z,w⟩ ⟨i,d,r,k⟩ l;dsimp only at d k⊢;subst d;refine aS (λm=>?_) λo=>aJ (by unfold oU;dsimp only;omega);refine ah (bF (bO (O:i<U a.bg))) (ah (bF (bO (O:i<U b.bg))) (ah (dO bV) ?_));rw[bt (n:=(i:Int)+1) O];exact l _ ⟨i+1,Z,O,by dsimp only;simp;omega⟩ Z
theorem oU.VJ(h:oU a):eF 10 a:=by unfold oU at h;unfold eF;omega
theorem rm(h:eF 10 a):gB 10 [a]:=⟨aZ,λx c=>by simp at c;subst c;exact h⟩
theorem Pv(h:eF 10 a)(k:eF 10 b):gB 10 [a,b]:=⟨aZ,λx c=>by simp at c;rcases c with rfl|rfl;exact h;exact k⟩
theorem aib(b:5000<=n)(f:dU k r)(hk:0<=k/\k<=100000000)(cN:0<=d/\d<=3):cG (EI n r d) (λx=>(gB 10 x.1.bD/\gB 10 x.1.aO)/\dU (k+10) x.2):=by
 unfold EI;refine dh (jg n f O aZ) λgN ⟨_,g⟩=>ah (jG _ _) (dh (jg n g O aZ) λie ⟨_,R⟩=>ah (jG _ _) ?_);refine bU (λz:bq×Int×bo×Int×bo×Int=>dU (k+5) ⟨z.1,z.2.1⟩/\(U z.2.2.1)=4/\(U z.2.2.2.2.1)=4) (λj i=>?_) λz l=>?_
 ·refine bU (λz:bq×Int×Bool=>dU (k+3) ⟨z.1,z.2.1⟩/\(z.2.2=I->0<d)) (λqJ q=>aS (λh=>?_) λh=>q _ ⟨R.mono O,λh=>by cases h⟩) λz l=>?_
  ·exact dh (la n R O) λgy ⟨_,_,p⟩=>q _ ⟨p.mono O,λ_=>h⟩
  obtain⟨s,t,A⟩:=z;obtain⟨a,e⟩:=l;dsimp only at a e⊢;cases A with
  |false=>exact i _ ⟨a.mono O,rfl,rfl⟩
  |true=>
   have u:=e rfl;refine dh (la n a O) λw ⟨v,E,B⟩=>dh (la n B O) λM ⟨_,_,y⟩=>?_;have W:0<=w.1/\w.1<=3:=⟨v,by have:=E O;omega⟩
   refine aS (λ_=>dh (AV n W) λN C=>i _ ⟨y.mono O,C,rfl⟩) λ_=>dh (AV n W) λP F=>ah (jG _ _) (dh (Rb b F (show oU ⟨[0,0,0,0],1⟩ from rfl) 1 1) λS G=>i _ ⟨y.mono O,rfl,G⟩)
 obtain⟨s,t,A,T,V,aoT⟩:=z;obtain⟨a,e,H⟩:=l;dsimp only at a e H⊢;have K:eF 10 ⟨A,T⟩:=by unfold eF;dsimp only;omega
 have L:eF 10 ⟨V,aoT⟩:=by unfold eF;dsimp only;omega
 have X: ∀c:Int,eF 10 ⟨[0,0,0,0],c⟩:=λc=>by unfold eF;simp
 refine bU (λz:bq×Int×List aR×List aR=>dU (k+10) ⟨z.1,z.2.1⟩/\gB 10 z.2.2.1/\gB 10 z.2.2.2) (λj i=>?_) λz l=>aJ ⟨⟨l.2.1,l.2.2⟩,l.1⟩;refine dh (la n a O) λps ⟨_,_,m⟩=>aS (λ_=>?_) λ_=>aS (λ_=>?_) λ_=>i _ ⟨m.mono O,rm K,rm L⟩
 ·exact dh (jg n m O aZ) λQ ⟨_,o⟩=>ah (jG _ _) (ah (dO aZ) (i _ ⟨o.mono O,rm K,Pv L (X _)⟩))
 exact dh (jg n m O aZ) λQ ⟨_,o⟩=>ah (jG _ _) (ah (dO aZ) (i _ ⟨o.mono O,Pv K (X _),rm L⟩))
theorem ah5(w:5000<=n)(y:dU k r)(L:0<=k/\k<=90000000):cG (EH n r) (λx=>(U x.1<=3/\my 10 x.1)/\dU (k+40) x.2):=by
 unfold EH;refine dh (jg n y O aZ) λa ⟨A,B⟩=>?_;have Q:1<=a.1/\a.1<=3:=by simp at A;omega
 refine cK (λz:bq×Int×List b4×Int=>0<=z.2.2.2/\(U z.2.2.1:Int)+z.2.2.2=a.1/\dU (k+1+10*U z.2.2.1) ⟨z.1,z.2.1⟩/\ ∀l∈z.2.2.1,gB 10 l.bD/\gB 10 l.aO) (λz=>z.2.2.2.toNat) ?_ n _ ⟨Z,aZ,by simpa using B,λl h=>by simp at h⟩ Z;rintro e ⟨b,q,cD,c⟩ ⟨C,F,i,o⟩ m;dsimp only at C F i o⊢;refine aS (λG=>?_) λH=>aJ ⟨⟨Z,Z,o⟩,i.mono O⟩;refine dh (aib w i O (d:=(U cD:Int)) O) λR ⟨W,K⟩=>ah (dO bV) ?_;rw[bt O];refine m _ ⟨Z,by dsimp only;simp;omega,K.mono bV,λl X=>?_⟩ Z
 grind
theorem Ux(f:5000<=n)(g:dU k r)(hk:0<=k/\k<=90000000)(cN:0<=d/\d<=3):cG (xg n r d) (λx=>gB 10 x.1.b7/\dU (k+20) x.2):=by
 unfold xg;refine dh (Gv n g O aZ) λgN ⟨m1,p⟩=>?_;refine bU (λz:Int=>1<=z/\z<=2) (λj m=>aS (λ_=>m _ O) λ_=>m _ O) λw hw=>?_;refine cK (λz:bq×Int×List aR×Int=>0<=z.2.2.2/\z.2.2.2<=w/\(U z.2.2.1:Int)=z.2.2.2/\dU (k+1+8*z.2.2.2) ⟨z.1,z.2.1⟩/\ ∀a∈z.2.2.1,eF 10 a) (λz=>(w-z.2.2.2).toNat) ?_ n _ ⟨Z,Z,aZ,by simpa using p,λl h=>by simp at h⟩ Z;rintro A ⟨b,q,cD,c⟩ ⟨s,t,u,B,C⟩ F;dsimp only at s t u B C⊢;refine aS (λv=>?_) λE=>aJ ⟨⟨Z,C⟩,B.mono O⟩;refine dh (jg n B O aZ) λM ⟨_,o⟩=>ah (jG _ _) ?_;refine bU (λz:bq×Int×bo×Int=>dU (k+1+8*c+8) ⟨z.1,z.2.1⟩/\(U z.2.2.1)=4) (λj m=>?_) λz G=>?_
 ·refine bU (λz:bq×Int×Bool=>dU (k+1+8*c+2) ⟨z.1,z.2.1⟩/\(z.2.2=I->0<d)) (λqJ y=>aS (λh=>?_) λh=>y _ ⟨o.mono O,λh=>by cases h⟩) λz G=>?_
  ·exact dh (la n o O) λgy ⟨_,_,N⟩=>y _ ⟨N.mono O,λ_=>h⟩
  obtain⟨P,S,X⟩:=z;obtain⟨e,i⟩:=G;dsimp only at e i⊢;cases X with
  |false=>exact m _ ⟨e.mono O,rfl⟩
  |true=>
   have T:=i rfl;refine dh (la n e O) λV ⟨aoK,wk,H⟩=>dh (AV n ⟨aoK,by have:=wk O;omega⟩) λkB K=>?_;refine dh (jg n H O aZ) λlS ⟨_,L⟩=>dh (jg n L O aZ) λQ ⟨_,R⟩=>ah (jG _ _) ?_;exact dh (Rb f K (show oU ⟨[0,0,0,0],Q.1⟩ from rfl) _ _) λoP W=>m _ ⟨R.mono O,W⟩
 obtain⟨P,S,X,z4⟩:=z;obtain⟨e,i⟩:=G;dsimp only at e i⊢;refine ah (dO bV) ?_;rw[bt O];refine F _ ⟨Z,Z,by dsimp only;simp;omega,e.mono Z,λa hT=>?_⟩ Z;rcases fy.1 hT with h|h
 ·exact C a h
 simp at h;subst h;unfold eF;dsimp only;omega
theorem ahN(Q:5000<=n)(A:dU k r)(R:0<=k/\k<=90000000)(W:0<=d/\d<=3):cG (An n r d) (λx=>eF 10 x.1/\dU (k+10) x.2):=by
 unfold An;refine dh (jg n A O aZ) λX ⟨f,B⟩=>ah (jG _ _) ?_;refine cK (λz:bq×Int×bo×Int=>0<=z.2.2.2/\z.2.2.2<=d/\(U z.2.2.1)=4/\dU (k+1+z.2.2.2) ⟨z.1,z.2.1⟩) (λz=>(d-z.2.2.2).toNat) ?_ n _ ⟨Z,Z,aZ,by simpa using B⟩ Z;rintro a ⟨b,q,cD,c⟩ ⟨e,C,o,h⟩ m;dsimp only at e C o h⊢;refine aS (λF=>?_) λG=>aJ ⟨by unfold eF;dsimp only;omega,h.mono O⟩;refine dh (jg n h O aZ) λw ⟨_,H⟩=>?_;obtain⟨y,K,_⟩:=hE (l:=cD) (i:=c) e O;have L:cW cD c w.1=Y (cD.set c.toNat w.1):=by unfold cW;rw[bk ⟨e,O⟩]
 refine ah K (ah L ?_);rw[bt O];exact m _ ⟨Z,Z,by dsimp only;rw[gH];exact o,H.mono Z⟩ Z
def nQ:Nat->Int
 |0=>30
 |L+1=>30+2*nQ L
theorem Sp: ∀L,30<=nQ L
 |0=>iT _
 |L+1=>by have:=Sp L;simp only[nQ];omega
theorem TH{L:Nat}(h:L<=2):nQ L<=210:=by
 have a:L=0\/L=1\/L=2:=O
 rcases a with rfl|rfl|rfl<;>decide
theorem yc:eF 10 ⟨[],0⟩:=by unfold eF;simp
theorem x7:gB 10 []:=⟨aZ,λx a=>by simp at a⟩
theorem af4(u:0<=d/\d<=3): ∀(L n:Nat) (k:Int) (r:e9),5000+L<=n->L<=2->dU k r->0<=k->k<=80000000+10000*(2-(L:Int))->cG (uj (n+1) r d ((L:Int)+1)) (λx=>kg 10 (L+1) x.1/\dU (k+nQ L) x.2):=by
 have a: ∀(L n:Nat) (k:Int) (r:e9),5000<=n->dU k r->0<=k->k<=80100000->
   cG (ad (iY n r 4) λi=>bif ak (i.1=0) then(ad (hS n i.2 [1,2,0,99,3]) λo=>Y ((⟨1,o.1,(⟨[],0⟩:aR),(⟨[],[]⟩:dr),[]⟩:bW),o.2)) else(bif ak (i.1=1) then(ad (An n i.2 d) λv=>Y ((⟨2,0,v.1,(⟨[],[]⟩:dr),[]⟩:bW),v.2)) else(ad (xg n i.2 d) λE=>Y ((⟨3,0,(⟨[],0⟩:aR),E.1,[]⟩:bW),E.2)))) (λx=>kg 10 (L+1) x.1/\dU (k+25) x.2):=by
  intro L n k r F m H M;refine dh (la n m O) λi ⟨_,_,K⟩=>aS (λ_=>?_) λ_=>aS (λ_=>?_) λ_=>?_
  ·exact dh (jg n K O aZ) λo ⟨_,w⟩=>aJ ⟨⟨aZ,yc,x7,λk h=>by simp at h⟩,w.mono O⟩
  ·exact dh (ahN F K O u) λo ⟨Q,w⟩=>aJ ⟨⟨aZ,Q,x7,λk h=>by simp at h⟩,w.mono O⟩
  exact dh (Ux F K O u) λo ⟨Q,w⟩=>aJ ⟨⟨aZ,yc,Q,λk h=>by simp at h⟩,w.mono O⟩
 intro L;induction L with
 |zero=>
  intro n k r F P m H M;unfold uj;refine bU (λz:bq×Int×Bool=>dU k ⟨z.1,z.2.1⟩/\z.2.2=I) (λj G=>aS (λ_=>G _ ⟨m,rfl⟩) λh=>bu (show((0:Nat):Int)+1<2 by omega) h) λz y=>?_;obtain⟨S,T,N⟩:=z;obtain⟨A,B⟩:=y;dsimp only at A B⊢;subst B;exact(a 0 n k _ O A H O).mono (λx C=>⟨C.1,C.2.mono (by simp only[nQ];omega)⟩)
 |succ L V=>
  intro n k r F P m H M;have akx:=Sp L;have anU:nQ L<=210:=TH O;unfold uj;refine bU (λz:bq×Int×Bool=>dU (k+1) ⟨z.1,z.2.1⟩) (λj G=>aS (λh=>G _ (m.mono O)) λh=>dh (la n m O) λiU ⟨_,_,uc⟩=>G _ uc) λz y=>?_;obtain⟨S,T,N⟩:=z;dsimp only at y⊢;cases N with
  |true=>exact(a (L+1) n (k+1) _ O y O O).mono (λx C=>⟨C.1,C.2.mono (by simp only[nQ];omega)⟩)
  |false=>
   refine cx (dh (jg n y O aZ) λq5 ⟨_,R⟩=>?_);obtain⟨n,rfl⟩: ∃j,n=j+1:=⟨n-1,O⟩
   have Bv:wr (((L+1:Nat):Int)+1-1)=(L:Int)+1:=by rw[bt O];omega
   rw[Bv];refine cK (λz:bq×Int×List bW×Int=>0<=z.2.2.2/\z.2.2.2<=2/\(U z.2.2.1:Int)=z.2.2.2/\dU (k+2+nQ L*z.2.2.2) ⟨z.1,z.2.1⟩/\ ∀e∈z.2.2.1,kg 10 (L+1) e) (λz=>(2-z.2.2.2).toNat) ?_ (n+1) _ ⟨Z,Z,aZ,R.mono bV,λl h=>by simp at h⟩ Z;rintro W ⟨b,q,cD,c⟩ ⟨i1,i2,i3,X,f⟩ g;dsimp only at i1 i2 i3 X f⊢;have anS:0<=nQ L*c/\nQ L*c<=2*nQ L:=by
    have p:c=0\/c=1\/c=2:=O
    rcases p with rfl|rfl|rfl<;>omega
   refine aS (λhlt=>?_) λjt=>aJ ⟨⟨Z,yc,x7,f⟩,X.mono (by simp only[nQ];omega)⟩;refine dh (V n _ _ O O X O O) λkR ⟨s,t⟩=>ah (dO bV) ?_;rw[bt O];refine g _ ⟨Z,Z,by dsimp only;simp;omega,t.mono (by dsimp only;rw[Int.mul_add];omega),λe he=>?_⟩ Z;rcases fy.1 he with h|h
   ·exact f e h
   simp at h;subst h;exact s
theorem agU(F:6000<=n)(m:dU k r)(G:0<=k/\k<=70000000)(c:0<=d/\d<=3):cG (EF n r d) (λx=>kD 10 x.1/\dU (k+300) x.2):=by
 unfold EF;refine dh (Ux O m O c) λo ⟨q,w⟩=>dh (jg n w O aZ) λy ⟨e,z⟩=>?_;obtain⟨L,A,a⟩: ∃L:Nat,y.1=(L:Int)+1/\L<=2:=by
  simp at e;rcases e with h|h|h|h
  ·exact⟨1,O,O⟩
  ·exact⟨2,O,O⟩
  ·exact⟨0,O,O⟩
  exact⟨1,O,O⟩
 obtain⟨n,rfl⟩: ∃j,n=j+1:=⟨n-1,O⟩
 have H:nQ L<=210:=TH a;rw[A];refine dh (af4 c L n _ _ O a z O O) λB ⟨C,i⟩=>?_;have l:kD 10 ⟨o.1,B.1⟩:=⟨q,C.mono (dV _) O⟩
 refine ah (Oy O (l.mono O).sm d) (dM (λ_=>aJ ⟨l,i.mono O⟩) λ_=>ah (x:=⟨[0,0,0,0],0⟩) rfl (aJ ⟨⟨rm (by unfold eF;simp),⟨aZ,yc,x7,λk h=>by simp at h⟩⟩,i.mono O⟩))
theorem afW:Iw N [65,91,105,93,61,40,65,91,105,93,43,123,105,125,41]=Y (⟨⟨[65],[⟨[1,0,0,0],0⟩]⟩,⟨4,0,⟨[],0⟩,⟨[],[]⟩,[⟨3,0,⟨[],0⟩,⟨[65],[⟨[1,0,0,0],0⟩]⟩,[]⟩,⟨2,0,⟨[1,0,0,0],0⟩,⟨[],[]⟩,[]⟩]⟩⟩,I):=J
theorem Yl:Kv N [4]=Y ([⟨[⟨[0,0,0,0],0⟩],[⟨[0,0,0,0],4⟩]⟩],I):=J
def qY:List de:=[⟨[65],[6]⟩,⟨[66],[4,5]⟩,⟨[67],[3]⟩]
theorem EO:U qY<=4/\mU qY:=by refine⟨by decide,λx a=>?_⟩;simp[qY] at a;rcases a with rfl|rfl|rfl<;>decide
theorem Uq:uP 10 qY:=by
 refine⟨by decide,λx a=>?_⟩;simp[qY] at a
 grind
theorem ai4:hR 10 ⟨[⟨[⟨[0,0,0,0],0⟩],[⟨[0,0,0,0],4⟩]⟩],[⟨⟨[65],[⟨[1,0,0,0],0⟩]⟩,⟨4,0,⟨[],0⟩,⟨[],[]⟩,[⟨3,0,⟨[],0⟩,⟨[65],[⟨[1,0,0,0],0⟩]⟩,[]⟩,⟨2,0,⟨[1,0,0,0],0⟩,⟨[],[]⟩,[]⟩]⟩⟩]⟩:=by
 have i: ∀(a b c d e:Int),eF 10 ⟨[a,b,c,d],e⟩:=λa b c d e=>by unfold eF;simp
 refine⟨⟨aZ,λl m=>?_⟩,aZ,λs n=>?_⟩
 ·simp at m;subst m;exact⟨rm (i _ _ _ _ _),rm (i _ _ _ _ _)⟩
 simp at n;subst n;refine⟨rm (i _ _ _ _ _),aZ,yc,x7,λk o=>?_⟩;simp at o;rcases o with rfl|rfl
 ·exact⟨aZ,yc,rm (i _ _ _ _ _),λk h=>by simp at h⟩
 exact⟨aZ,i _ _ _ _ _,x7,λk h=>by simp at h⟩
theorem aiv(T:dU k r)(hk:0<=k/\k<=10000000):cG (EE N r) (λx=>hR 10 x.1/\dU (k+40000) x.2):=by
 have gV:N=100000:=rfl;unfold EE;refine cK (λz:bq×Int×Int=>0<=z.2.2/\z.2.2<=4/\dU (k+10000*z.2.2) ⟨z.1,z.2.1⟩) (λz=>(4-z.2.2).toNat) ?_ N _ ⟨Z,Z,by simpa using T⟩ Z;rintro R ⟨b,q,c⟩ ⟨V,i2,W⟩ X;dsimp only at V i2 W⊢;refine aS (λhlt=>?_) λjt=>ah afW (ah Yl (aJ ⟨ai4,W.mono O⟩));refine dh (ah5 O W O) λi ⟨⟨n3,n5⟩,N2⟩=>dh (jg N N2 O aZ) λe ⟨m6,aoM⟩=>?_;have hm:1<=e.1/\e.1<=3:=by simp at m6;omega
 refine cK (λz:bq×Int×List b4×List cT×Int=>z.2.2.1=i.1/\0<=z.2.2.2.2/\z.2.2.2.2<=e.1/\(U z.2.2.2.1:Int)+z.2.2.2.2<=e.1/\dU (k+10000*c+41+1500*(e.1-z.2.2.2.2)) ⟨z.1,z.2.1⟩/\ ∀s∈z.2.2.2.1,kD 10 s) (λz=>z.2.2.2.2.toNat) ?_ N _ ⟨rfl,Z,Z,aZ,aoM.mono Z,λs h=>by simp at h⟩ Z;rintro m ⟨dQ,oH,aoc,dE,w⟩ ⟨t,rN,kK,NL,K,L⟩ n;dsimp only at t rN kK NL K L⊢;subst t;have a: ∀(l:List cT),U l<=10->(∀s∈l,kD 10 s)->hR 10 ⟨i.1,l⟩:=λl h1 h2=>⟨n5,h1,h2⟩
 refine aS (λu=>?_) λE=>?_
 ·refine bU (λz:bq×Int×List cT=>dU (k+10000*c+41+1500*(e.1-w)+1500) ⟨z.1,z.2.1⟩/\(U z.2.2)<=U dE+1/\ ∀s∈z.2.2,kD 10 s) (λWV o=>?_) λz fo=>?_
  ·refine cK (λz:bq×Int×Int=>0<=z.2.2/\z.2.2<=5/\dU (k+10000*c+41+1500*(e.1-w)+300*z.2.2) ⟨z.1,z.2.1⟩) (λz=>(5-z.2.2).toNat) ?_ N _ ⟨Z,Z,by simpa using K⟩ Z;rintro y ⟨dG,q2,v⟩ ⟨g1,g2,f⟩ A;dsimp only at g1 g2 f⊢;refine aS (λM=>?_) λP=>o _ ⟨f.mono O,Z,L⟩;refine dh (agU O f O (d:=(U i.1:Int)) O) λB ⟨C,F⟩=>ah (x:=qY) rfl ?_;have g:Ga ⟨i.1,[B.1]⟩:=((a [B.1] aZ λs Q=>by simp at Q;subst Q;exact C).mono O).sm;refine ah (Je O EO.1 EO.2 g) (dM (λ_=>ah (dO bV) (o _ ⟨F.mono O,aZ,λs Q=>?_⟩)) λ_=>?_)
   ·rcases fy.1 Q with h|h
    ·exact L s h
    simp at h;subst h;exact C
   rw[bt O];exact A _ ⟨Z,Z,F.mono Z⟩ Z
  obtain⟨w6,z2,z3⟩:=z;obtain⟨G,p,H⟩:=fo;dsimp only at G p H⊢;rw[bt O];exact n _ ⟨rfl,Z,Z,Z,G.mono Z,H⟩ Z
 have S:hR 10 ⟨i.1,dE⟩:=a dE O L;refine ah (x:=qY) rfl (ah (Je O EO.1 EO.2 (S.mono O).sm) ?_);refine bU (λz=>True) (λj o=>dM (λ_=>o _ trivial) λ_=>o _ trivial) λz _=>?_;cases z with
 |true=>exact aJ ⟨S,K.mono O⟩
 |false=>
  refine cx ?_;rw[bt O];exact X _ ⟨Z,Z,K.mono Z⟩ Z
theorem afm(o:dU k r)(K:0<=k/\k<=1000000):cG (EU N r) (λx=>eo 10 x.1/\dU (k+200000) x.2):=by
 have L:N=100000:=rfl;unfold EU;refine ah (x:=qY) rfl (dh (jg N o O aZ) λd ⟨w,y⟩=>?_);have Q:1<=d.1/\d.1<=3:=by simp at w;omega
 refine cK (λz:bq×Int×List cq×Int=>0<=z.2.2.2/\(U z.2.2.1:Int)+z.2.2.2=d.1/\dU (k+1+40000*U z.2.2.1) ⟨z.1,z.2.1⟩/\ ∀x∈z.2.2.1,hR 10 x) (λz=>z.2.2.2.toNat) ?_ N _ ⟨Z,aZ,by simpa using y,λx h=>by simp at h⟩ Z;rintro e ⟨b,q,A,c⟩ ⟨B,C,a,i⟩ l;dsimp only at B C a i⊢;refine aS (λF=>?_) λG=>?_
 ·refine dh (aiv a O) λR ⟨W,H⟩=>ah (dO bV) ?_;rw[bt O];refine l _ ⟨Z,by dsimp only;simp;omega,H.mono bV,λx m=>?_⟩ Z
  grind
 have n:eo 10 ⟨qY,A⟩:=⟨Uq,Z,i⟩
 refine ah (mH O (n.mono O).sm) (dM (λ_=>aJ ⟨n,a.mono O⟩) λ_=>ah (x:=qY) rfl (ah (g' O O O) (aJ ⟨⟨Uq,?_,λx m=>i x ?_⟩,a.mono O⟩)))
 ·simp;omega
 exact hi (hl m)
theorem J8{k h:Type}{l:List k}{f:k->aL h}{g:k->h->k}{K:List k->aL R}(m: ∀x∈l,∃z,f x=Y z/\g x z=x)(C:U l<=1000)(F:5000<=n)(G:cG (K l) Q):
  cG (bH (λa ((x,i):List k×Int)=>bif ak (i<(U l:Int)) then(ad (aC l i) λy=>ad (f y) λz=>ad (app x [g y z]) λw=>a (w,wr (i+1))) else K x) n ([],0)) Q:=by
 refine cK (λz:List k×Int=> ∃i:Nat,z.2=i/\i<=U l/\z.1=l.take i) (λz=>U l-z.2.toNat) ?_ n _ ⟨0,rfl,O,aZ⟩ Z;rintro a ⟨x,z⟩ ⟨i,e,H,c⟩ o;dsimp only at e c⊢;subst e;refine aS (λq=>?_) λr=>?_
 ·have b9:=bO (O:i<U l);have A:U x<=1000:=by rw[c,dW];omega
  obtain⟨y,B,d⟩:=m _ (ca b9);refine ah (bF b9) (ah B (ah (dO bV) ?_));rw[bt O];refine o _ ⟨i+1,Z,O,?_⟩ Z;dsimp only;rw[fs,b9,c,d];rfl
 have:i=U l:=O
 grind
theorem uv{k:Type}{l:List k}{f:k->aL k}{K:List k->aL R}(c: ∀x∈l,f x=Y x)(d:U l<=1000)(e:5000<=n)(h:cG (K l) Q):
  cG (bH (λa ((x,i):List k×Int)=>bif ak (i<(U l:Int)) then(ad (aC l i) λy=>ad (f y) λz=>ad (app x [z]) λw=>a (w,wr (i+1))) else K x) n ([],0)) Q:=
 J8 (g:=λ_ z=>z) (λx m=>⟨x,c x m,rfl⟩) d e h
theorem Qm: ∀(L n:Nat) (e:bW),5000+L<=n->kg 1000 L e->uh (n+1) e=Y e
 |0,_,_,_,h=>h.elim
 |L+1,n,e,m,h=>by
  obtain⟨a,c,d,i⟩:=h;unfold uh;refine bR (ah (D0 n c) (ah (Dy O d.sm) ?_));obtain⟨n,rfl⟩: ∃j,n=j+1:=⟨n-1,O⟩
  exact uv (f:=uh (n+1)) (K:=λk=>Y (⟨e.aU,e.cA,e.dp,e.dL,k⟩:bW)) (λx l=>Qm L n x O (i x l)) a O (aJ (by cases e;rfl))
theorem Qk(a:6000<=n)(h:kD 1000 s):wX n s=Y s:=by
 obtain⟨n,rfl⟩: ∃j,n=j+1:=⟨n-1,O⟩
 unfold wX;rw[Dy O h.1.sm,Qm 5 n s.cz O h.2];rfl
theorem Ql(s:6000<=n){nest:List b4}(h:my 1000 nest):xh n nest=Y nest:=by
 obtain⟨u,G⟩:=h;refine bR ?_;unfold xh;refine cK (λz:List b4×Int=> ∃i:Nat,z.2=i/\i<=U nest/\z.1=nest.take i) (λz=>U nest-z.2.toNat) ?_ n _ ⟨0,rfl,O,aZ⟩ Z;rintro c ⟨x,z⟩ ⟨i,e,v,o⟩ H;dsimp only at e o⊢;subst e;refine aS (λL=>?_) λQ=>aJ ?_
 ·have b9:=bO (O:i<U nest);obtain⟨⟨E,R⟩,⟨W,X⟩⟩:=G _ (ca b9);have b:U x<=1000:=by rw[o,dW];omega
  refine cK (λz:List aR×Int=> ∃t:Nat,z.2=t/\t<=U nest[i].bD/\z.1=nest[i].bD.take t) (λz=>U nest[i].bD-z.2.toNat) ?_ n _ ⟨0,rfl,O,aZ⟩ Z;rintro k ⟨y,z⟩ ⟨t,e,M,m⟩ q;dsimp only at e m⊢;subst e;refine ah (bF b9) (aS (λC=>?_) λF=>?_)
  ·have d:=bO (O:t<U nest[i].bD);have j:U y<=1000:=by rw[m,dW];omega
   refine ah (bF d) (ah (pM _ (R _ (ca d))) (ah (dO bV) ?_));rw[bt O];refine q _ ⟨t+1,Z,O,?_⟩ Z;dsimp only;rw[fs,d,m];rfl
  have r:t=U nest[i].bD:=O
  refine J8 (l:=nest[i].aO) (f:=λa:aR=>app [] a.bg) (g:=λa w=>(⟨w,a.cv⟩:aR)) (K:=λA=>ad (app x [(⟨y,A⟩:b4)]) λB=>c (B,wr ((i:Int)+1))) (λa p=>⟨_,pM _ (X a p),rfl⟩) W O ?_;refine ah (dO bV) ?_;rw[bt O];refine H _ ⟨i+1,Z,O,?_⟩ Z;dsimp only;rw[fs,b9,o,m,r,eB];rfl
 have:i=U nest:=O
 grind
theorem qy(G:6000<=n)(h:eo 1000 p):wW n p=Y p:=by
 obtain⟨⟨aW,a2⟩,P,Q⟩:=h;refine bR ?_;unfold wW;refine J8 (n:=n) (l:=p.a7) (f:=λw:de=>app [] w.cr) (g:=λw R=>(⟨w.ed,R⟩:de)) (K:=λW=>bH (λc ((H,y):(List cq)×Int)=>
    bif ak (y<(U p.aq:Int)) then(
     ad (aC p.aq y) λk=>
     ad (xh n k.a6) λA=>
     bH (λd ((e,m):(List cT)×Int)=>
      bif ak (m<(U k.a':Int)) then(
       ad (aC k.a' m) λB=>
       ad (wX n B) λC=>
       ad (app e [C]) λF=>
       d (F,wr (m+1))
      ) else(
       ad (app H [(⟨A,e⟩:cq)]) λo=>
       c (o,wr (y+1))
      )
     ) n ([],0)
    ) else(
     Y (⟨W,H⟩:bx)
    )
   ) n ([],0)) (λa X=>⟨_,pM _ (a2 a X),rfl⟩) aW O ?_
 refine cK (λz:List cq×Int=> ∃i:Nat,z.2=i/\i<=U p.aq/\z.1=p.aq.take i) (λz=>U p.aq-z.2.toNat) ?_ n _ ⟨0,rfl,O,aZ⟩ Z;rintro q ⟨x,z⟩ ⟨i,L,S,r⟩ b;dsimp only at L r⊢;subst L;refine aS (λj=>?_) λt=>aJ ?_
 ·have b9:=bO (O:i<U p.aq);obtain⟨u,v,E⟩:=Q _ (ca b9);have M:U x<=1000:=by rw[r,dW];omega
  refine ah (bF b9) (ah (Ql G u) ?_);refine uv (f:=wX n) (K:=λe=>ad (app x [(⟨p.aq[i].a6,e⟩:cq)]) λo=>q (o,wr ((i:Int)+1))) (λs N=>Qk G (E s N)) v O ?_;refine ah (dO bV) ?_;rw[bt O];refine b _ ⟨i+1,Z,O,?_⟩ Z;dsimp only;rw[fs,b9,r];rfl
 have:i=U p.aq:=O
 rw[r,this,eB]
theorem r8{k:Type}{l:List k}{i:Nat}{x:k}{P:k->Prop}(h: ∀y∈l,P y)(c:P x): ∀y∈l.set i x,P y:=λy d=>by
 rcases zE d with a|a
 ·exact h y a
 rw[a];exact c
theorem FJ{k:Type}{l:List k}{x:k}{P:k->Prop}(h: ∀y∈l,P y)(c:P x): ∀y∈l++[x],P y:=λy d=>by
 rcases fy.1 d with a|a
 ·exact h y a
 simp at a;rw[a];exact c
theorem eS{k:Type}{l:List k}{i:Int}(h:0<=i/\i<U l)(x:k):cW l i x=Y (l.set i.toNat x):=by unfold cW;rw[bk h]
theorem aiw{l:List aR}(h:gB B l)(c:eF (B+5) a):gB (B+5) (l++[a]):=⟨by have:=h.1;simp;omega,FJ (λy d=>(h.2 y d).mono O) c⟩
theorem Ts{l:List aR}(h:gB B l)(d:eF (B+5) a)(e:eF (B+5) b):gB (B+5) (l++[a,b]):=⟨by have:=h.1;simp;omega,λy i=>by
 rcases fy.1 i with c|c
 ·exact(h.2 y c).mono O
 simp at c;rcases c with rfl|rfl;exact d;exact e⟩
theorem Fp(h:4<=B)(c:Int):eF B ⟨[0,0,0,0],c⟩:=by unfold eF;simpa using h
theorem Lc(p:6000<=n)(gU:10<=B/\B<=900)(X:dU k r)(hk:0<=k/\k<=90000000){c:List b4}(h:my B c):cG (zl n r c) (λx=>my (B+5) x.1/\dU (k+5) x.2):=by
 unfold zl;refine ah (Ql p (h.mono O)) (aS (λ_=>aJ ⟨h.mono O,X.mono O⟩) λs=>?_);have A:0<U c:=O
 have o:=h.mono (O:B<=B+5);have t:=h.1;have u:wr ((U c:Int)-1)=(U c:Int)-1:=bt O;rw[u];refine bU (λz:bq×Int×List b4=>dU (k+5) ⟨z.1,z.2.1⟩/\my (B+5) z.2.2) (λj q=>?_) λz b=>aJ ⟨b.2,b.1⟩;have d: ∀(i:Nat) (l:b4),gB (B+5) l.bD->gB (B+5) l.aO->my (B+5) (c.set i l):=λi l v E=>⟨by rw[gH];exact o.1,r8 o.2 ⟨v,E⟩⟩
 obtain⟨gX,C,e⟩:=hE (l:=c) (i:=0) O O;obtain⟨ao8,F,m⟩:=hE (l:=c) (i:=(U c:Int)-1) O O;have f:=h.2 _ (ca e);have g:=h.2 _ (ca m);have G:=o.2 _ (ca e);have H:=o.2 _ (ca m);refine dh (la n X O) λie ⟨_,_,w⟩=>aS (λ_=>?_) λ_=>aS (λ_=>?_) λ_=>aS (λ_=>?_) λ_=>aS (λ_=>?_) λ_=>aS (λ_=>?_) λ_=>q _ ⟨w.mono O,o⟩
 ·refine ah C (dh (la n w O) λgR ⟨M,N,P⟩=>dh (AV n ⟨M,by have:=N O;omega⟩) λig S=>ah (dO (by have:=f.1.1;simp;omega)) (ah (eS O _) (q _ ⟨P.mono O,d _ _ (aiw f.1 (S.VJ.mono O)) G.2⟩)))
 ·exact ah F (ah (eS O _) (q _ ⟨w.mono O,d _ _ H.1 ⟨aZ,λa K=>by simp at K⟩⟩))
 ·exact ah F (ah (jG _ _) (ah (jG _ _) (ah (dO (by have:=g.2.1;simp;omega)) (ah (eS O _) (q _ ⟨w.mono O,d _ _ H.1 (Ts g.2 (Fp O _) (Fp O _))⟩)))))
 ·exact ah (jG _ _) (ah C (ah (eS O _) (q _ ⟨w.mono O,d _ _ G.1 ⟨aZ,λa K=>by simp at K;subst K;exact Fp O _⟩⟩)))
 refine cK (λz:List b4=>0<U z/\my (B+5) z) (λz=>5-U z) ?_ n _ ⟨A,o⟩ O;rintro L z ⟨w6,Q⟩ R;refine aS (λT=>?_) λ_=>q _ ⟨w.mono O,Q⟩;obtain⟨y,V,W⟩:=hE (l:=z) (i:=0) O O;exact ah V (ah (dO bV) (R _ ⟨aZ,bV,FJ Q.2 (Q.2 _ (ca W))⟩ bV))
theorem Lb(A:6000<=n)(Q:10<=B/\B<=900)(C:dU k r)(R:0<=k/\k<=90000000)(h:kD B s):cG (zk n r s) (λx=>kD (B+5) x.1/\dU (k+5) x.2):=by
 have w:=h.mono (O:B<=B+5);obtain⟨l,m,F,G,c⟩:=w;have H:=h.1.1;have K:=h.2.1;unfold zk;refine ah (Qk A (h.mono O)) ?_;refine bU (λz:bq×Int×List aR×List bW×bq×Int×Int=>dU (k+5) ⟨z.1,z.2.1⟩/\gB (B+5) z.2.2.1/\(U z.2.2.2.1)<=B+5/\ ∀e∈z.2.2.2.1,kg (B+5) 4 e) (λj d=>?_) λz q=>aJ ⟨⟨q.2.1,q.2.2.1,F,G,q.2.2.2⟩,q.1⟩;refine dh (la n C O) λW ⟨_,_,i⟩=>aS (λ_=>?_) λ_=>aS (λ_=>?_) λ_=>aS (λ_=>?_) λ_=>aS (λ_=>?_) λ_=>aS (λ_=>?_) λ_=>d _ ⟨i.mono O,l,m,c⟩
 ·exact dh (Gv n i O aZ) λy ⟨_,o⟩=>d _ ⟨o.mono O,l,m,c⟩
 ·exact dh (AV n (v:=3) O) λX w=>ah (x:=⟨[0,0,0,0],0⟩) rfl (ah (dO bV) (d _ ⟨i.mono O,Ts h.1 (w.VJ.mono O) (Fp O _),m,c⟩))
 ·exact dh (jg n i O aZ) λy ⟨_,o⟩=>d _ ⟨o.mono O,l,m,c⟩
 ·exact dh (jg n i O aZ) λy ⟨_,o⟩=>d _ ⟨o.mono O,l,m,c⟩
 exact ah (dO bV) (d _ ⟨i.mono O,l,bV,FJ c ⟨aZ,by unfold eF;simp,⟨aZ,λa L=>by simp at L⟩,λk h=>by simp at h⟩⟩)
theorem ah7(G:6000<=n)(cC:dU k r)(hk:0<=k/\k<=80000000)(h:eo 10 p):cG (DG n r p) (λx=>eo 30 x.1/\dU (k+30) x.2):=by
 have t:=h.mono (O:10<=30);obtain⟨m,C,o⟩:=t;have hT:=h.1.1;have hp:=h.2.1;unfold DG;refine ah (qy G (h.mono O)) ?_;have Bv:wr ((U p.aq:Int)-1)=(U p.aq:Int)-1:=bt O;rw[Bv];refine bU (λz:bq×Int×List de×List cq=>dU (k+30) ⟨z.1,z.2.1⟩/\uP 30 z.2.2.1/\(U z.2.2.2)<=30/\ ∀x∈z.2.2.2,hR 30 x) (λj X=>?_) λz f=>aJ ⟨⟨f.2.1,f.2.2.1,f.2.2.2⟩,f.1⟩;have q: ∀(i:Nat) (x:cq),hR 30 x->U (p.aq.set i x)<=30/\ ∀y∈p.aq.set i x,hR 30 y:=λi x g=>⟨by rw[gH];exact C,r8 o g⟩
 have a: ∀{u:e9},dU (k+20) u->cG (j (u.b,u.p,p.a7,p.aq)) (λx=>eo 30 x.1/\dU (k+30) x.2):=λv=>X _ ⟨v.mono O,m,C,o⟩;refine dh (la n cC O) λie ⟨_,_,A⟩=>aS (λ_=>?_) λ_=>aS (λ_=>?_) λ_=>aS (λ_=>?_) λ_=>aS (λ_=>?_) λ_=>aS (λ_=>?_) λ_=>a (A.mono O)
 ·refine dh (Gv n A O aZ) λir ⟨_,Xf⟩=>dh (jg n Xf O aZ) λgR ⟨_,N2⟩=>ah (dO bV) (X _ ⟨N2.mono O,⟨bV,FJ m.2 aZ⟩,C,o⟩)
 ·refine aS (λc=>?_) λ_=>a (A.mono O);obtain⟨y,w,d⟩:=hE (l:=p.a7) (i:=0) O c;exact dh (jg n A O aZ) λgy ⟨_,aoN⟩=>ah w (ah (eS O _) (X _ ⟨aoN.mono O,⟨by rw[gH];exact m.1,r8 m.2 aZ⟩,C,o⟩))
 ·refine aS (λc=>?_) λ_=>a (A.mono O);obtain⟨y,w,d⟩:=hE (l:=p.aq) (i:=0) O c;have E:=h.2.2 _ (ca d);have e:=o _ (ca d);refine ah w (dh (Lc G (B:=10) O A O E.1) λM ⟨H,K⟩=>dh (Lc G (B:=15) O K O H) λN ⟨L,Q⟩=>dh (Lc G (B:=20) O Q O L) λP ⟨R,W⟩=>ah (eS O _) ?_);exact X _ ⟨W.mono O,m,q _ _ ⟨R.mono O,e.2.1,e.2.2⟩⟩
 ·refine bU (λz:Bool=>z=I->0<(U p.aq:Int)/\ ∀x,aC p.aq ((U p.aq:Int)-1)=Y x->0<(U x.a':Int)) (λB8 F=>aS (λc=>?_) λ_=>F _ λh=>by cases h) λz f=>?_
  ·obtain⟨y,w,d⟩:=hE (l:=p.aq) (i:=(U p.aq:Int)-1) O O;refine ah w (F _ λcN=>⟨c,λx hx=>?_⟩);rw[w] at hx;cases hx;exact gu cN
  cases z with
  |false=>exact a (A.mono O)
  |true=>
   obtain⟨c,br⟩:=f rfl;obtain⟨y,w,d⟩:=hE (l:=p.aq) (i:=(U p.aq:Int)-1) O O;have S:=br y w;have E:=h.2.2 _ (ca d);have e:=o _ (ca d);obtain⟨s,T,V⟩:=hE (l:=y.a') (i:=0) O S;have ms:=E.2.2 _ (ca V);refine cB (ah w (ah T (dh (Lb G (B:=10) O A O ms) λM ⟨H,K⟩=>dh (Lb G (B:=15) O K O H) λN ⟨L,Q⟩=>dh (Lb G (B:=20) O Q O L) λP ⟨R,W⟩=>ah (eS O _) (ah (eS O _) ?_))));exact X _ ⟨W.mono O,m,q _ _ ⟨e.1,by rw[gH];exact e.2.1,r8 e.2.2 (R.mono O)⟩⟩
 refine aS (λc=>?_) λ_=>a (A.mono O);obtain⟨y,w,d⟩:=hE (l:=p.aq) (i:=(U p.aq:Int)-1) O O;have e:=o _ (ca d);exact ah w (ah (eS O _) (X _ ⟨A.mono O,m,q _ _ ⟨e.1,aZ,λs T=>by simp at T⟩⟩))
theorem ahc{r:List de}(c:mU r):0<=jf r/\jf r<=36*U r:=by have d:=p' (λx:de=>jB x.cr) r λy a=>(u' (c y a)).1;have e:=FV (λx:de=>jB x.cr) 36 r λy a=>(u' (c y a)).2;unfold jf;omega
end
section
variable {k R:Type}{l:List dz}{i q n:Nat}{x a b:dz}{p:bx}{o:bo}{f:k->R}
theorem iI{l:List k}{x:k}(h:l[i]? =Y x):l.take (i+1)=l.take i++[x]:=by rw[fs,h];rfl
def eu(p:bx)(x:dz):Nat:=match xL p x with
 |some s=>(gg p.a7 s.dI x.dS 0).toNat
 |none=>0
def rc(p:bx)(x:dz):bo:=match xL p x with
 |some s=>(fv 5 s.cz).map (λa=>gg p.a7 a x.dS 0)
 |none=>[]
def wV(p:bx)(m:bo)(x:dz):Int:=match xL p x with
 |some s=>lU 5 p.a7 m s.cz x.dS
 |none=>0
theorem UD{list:List de}(c:mU list){a:dr}{q:bo}(h:0<=gg list a q 0):gg list a q 0<jf list:=by rcases UE c a q 0 (iT 0) with ch|ch<;>omega
theorem tG(e:cS p=I)(o:iN p x):(eu p x:Int)<jf p.a7/\(∀c∈rc p x,0<=c/\c<jf p.a7)/\(U (rc p x))<=12/\ ∀m,kN p m x=m.set (eu p x) (wV p m x):=by obtain⟨i,k,P,s,d,F,G,H,K,q,r,L,w⟩:=yO e o;obtain⟨Q,h,R,y,z⟩:=gf e;obtain⟨A,l⟩:=Ls w;obtain⟨W,X,b,B⟩:=mV r;unfold eu rc wV kN;rw[q];dsimp only;refine⟨by have:=UD h A;omega,λc C=>?_,by rw[er];exact B,λm=>rfl⟩;obtain⟨a,n,rfl⟩:=fh.1 C;exact⟨l a n,UD h (l a n)⟩
theorem abO(E:7100<=n)(m:cS p=I)(A:iN p x):G7 n p x=Y (rc p x,(eu p x:Int)):=by
 obtain⟨i,k,P,s,d,B,C,F,G,o,H,q,K⟩:=yO m A;obtain⟨r,w,M,L,Q⟩:=gf m;obtain⟨N,S⟩:=Ls K;obtain⟨W,X,b,T⟩:=mV H;obtain⟨n,rfl⟩: ∃j,n=j+1:=⟨n-1,O⟩
 have h:Hw (n+1) p x=Y s:=by
  unfold Hw;rw[B,C,bF F];show ad (aC P.a' (k:Int)) _=_;rw[bF G];rfl
 have f:(eu p x:Int)=gg p.a7 s.dI x.dS 0:=by unfold eu;rw[o];dsimp only;omega
 have g:rc p x=(fv 5 s.cz).map (λa=>gg p.a7 a x.dS 0):=by unfold rc;rw[o]
 rw[f,g];refine bR ?_;unfold G7;refine ah h (ah (JF (d:=d) 5 n s.cz O O X) ?_);generalize V:fv 5 s.cz=R at*;refine cK (λz:bo×Int=> ∃i:Nat,z.2=i/\i<=U R/\z.1=(R.take i).map λa=>gg p.a7 a x.dS 0) (λz=>U R-z.2.toNat) ?_ (n+1) _ ⟨0,rfl,O,aZ⟩ Z;rintro l ⟨out,z⟩ ⟨i,y,aO,c⟩ t;dsimp only at y c⊢;subst y;refine aS (λu=>?_) λv=>?_
 ·have b9:=bO (O:i<U R);refine ah (bF b9) (ah (Er O r w (b _ (ca b9)) q) (ah (dO (by rw[c,er,dW,uD];omega)) ?_));rw[bt O];refine t _ ⟨i+1,Z,O,?_⟩ Z;dsimp only;rw[iI b9,jl,c];rfl
 have e:i=U R:=O
 refine ah (Er O r w W q) (aJ ?_);rw[c,e,eB]
theorem aeQ(H:7100<=n)(c:cS p=I)(l:iN p x): ∃P s,aC p.aq x.cf=Y P/\aC P.a' x.stmt=Y s/\zJ n p.a7 s x.dS=Y (rc p x,(eu p x:Int),I):=by
 obtain⟨i,k,P,s,d,m,o,q,r,e,w,y,h⟩:=yO c l;obtain⟨z,A,K,B,C⟩:=gf c;obtain⟨L,Q⟩:=Ls h;have F:(eu p x:Int)=gg p.a7 s.dI x.dS 0:=by unfold eu;rw[e];dsimp only;omega
 have G:rc p x=(fv 5 s.cz).map (λa=>gg p.a7 a x.dS 0):=by unfold rc;rw[e]
 refine⟨P,s,by rw[m];exact bF q,by rw[o];exact bF r,?_⟩;rw[PX O z A w y,bk h,F,G]
theorem R4{r:List de}{m l:bo}{q:bo}{d:Int}: ∀{L:Nat} {e:bW},dZ L e d=I->(∀a∈fv L e,m.getD (gg r a q 0).toNat 0=l.getD (gg r a q 0).toNat 0)->lU L r m e q=lU L r l e q
 |0,e,h,_=>by cases h
 |L+1,e,h,n=>by
  obtain⟨z,A,w⟩:=jI h;simp only[lU];split
  ·rfl
  split
  ·rfl
  split
  ·rename_i x;exact n _ (by simp[fv,x])
  have i: ∀c∈e.bS,lU L r m c q=lU L r l c q:=λc o=>
   R4 (w c o) λa y=>n a (by simp only[fv,List.mem_append,List.mem_flatMap];exact .inr ⟨c,o,y⟩)
  split
  ·rename_i a b k;rw[k] at i;rw[i a aZ,i b aZ]
  rfl
theorem ag'(l:cS p=I)(n:iN p x){m e:bo}(h: ∀c∈rc p x,m.getD c.toNat 0=e.getD c.toNat 0):wV p m x=wV p e x:=by obtain⟨i,k,P,s,d,w,y,z,A,o,q,B,C⟩:=yO l n;unfold wV;unfold rc at h;rw[o] at h⊢;exact R4 (mV q).2.1 λa r=>h _ (List.mem_map_of_mem r)
theorem EY(l:List k)(i j:Nat)(x d:k):(l.set i x).getD j d=if i=j/\i<U l then x else l.getD j d:=by
 rw[fZ,fZ,List.getElem?_set];split
 ·rename_i h;subst h;split
  ·rename_i a;rw[bk ⟨rfl,a⟩];rfl
  rename_i a;rw[bh O,zx O]
 rename_i h;rw[bh λa=>h a.1]
def so(l:List Bool):bo:=((List.range (U l)).filter λi=>l.getD i ao).map (fun(i:Nat)=>(i:Int))
theorem acs{l:List Bool}(x:U l<n)(m:U l<=1000):S6 n l=Y (so l):=by
 refine bR ?_;unfold S6;refine cK (λz:bo×Int=> ∃i:Nat,z.2=i/\i<=U l/\(U z.1)<=i/\z.1=((List.range i).filter λi=>l.getD i ao).map (fun(i:Nat)=>(i:Int))) (λz=>U l-z.2.toNat) ?_ n _ ⟨0,rfl,O,aZ,aZ⟩ Z;rintro d ⟨out,z⟩ ⟨i,a,y,rF,c⟩ o;dsimp only at a c rF⊢;subst a;refine aS (λq=>?_) λr=>aJ ?_
 ·have b9:=bO (O:i<U l);have w:l.getD i ao=l[i]:=by rw[fZ,b9];rfl
  refine bU (λz=>U z<=i+1/\z=((List.range (i+1)).filter λi=>l.getD i ao).map (fun(i:Nat)=>(i:Int))) (λj k=>ah (bF b9) (dM (λh=>ah (dO (by rw[uD];omega)) (k _ ?_)) λh=>k _ ?_)) λz a=>?_
  ·refine⟨by rw[ea,uD];omega,?_⟩;rw[se,zA,jl,<-c];simp[b9,h]
  ·refine⟨O,?_⟩;rw[se,zA,jl,<-c];simp[b9,h]
  rw[bt O];exact o _ ⟨i+1,Z,O,a.1,a.2⟩ Z
 have e:i=U l:=O
 rw[c,e];rfl
theorem Qe{l:List Bool}(c:U l<n)(a:U l<=1000):Is n l=Y (so l):=acs c a
theorem Qh(l:List Bool):U (so l)<=U l:=by unfold so;rw[er];exact iD (List.length_filter_le _ _) aZ
theorem Jp{l:List Bool}{c:Int}:c∈so l↔0<=c/\l.getD c.toNat ao=I:=by
 unfold so;simp only[List.mem_map,List.mem_filter,List.mem_range];constructor
 ·rintro⟨i,⟨e,a⟩,rfl⟩;exact⟨O,by rw[eb];exact a⟩
 rintro⟨e,a⟩;refine⟨c.toNat,⟨?_,a⟩,O⟩;refine wN λd=>?_;rw[fZ,zx d] at a;cases a
theorem abR(c:7000<=n)(d:kW p): ∃L,yk n p=Y (L,cS p)/\(cS p=I->L=b2 p.aq):=by
 rw[Ph c d];cases a:lL p with
 |false=>
  refine⟨[],?_,λh=>?_⟩
  ·rw[bh aZ,show cS p=ao by unfold cS;rw[a];rfl]
  unfold cS at h;rw[a] at h;cases h
 |true=>
  refine⟨b2 p.aq,?_,λ_=>rfl⟩;rw[bk rfl,show cS p=ak (U (b2 p.aq)<=120) by
   unfold cS;rw[a,Bool.true_and];exact decide_eq_decide.2 (by have:=GS p.aq;omega)]
abbrev ky(p:bx):Nat:=(jf p.a7).toNat
theorem Vw{n:Int}(h:0<=n/\n<=1000000000)(x:k):mk n x=Y (en n.toNat x):=by unfold mk;rw[bk h]
def xR:List Bool->bo->Bool
 |_,[]=>I
 |f,c::cs=>decide (0<=c/\c<U f)&&(!f.getD c.toNat ao&&xR (f.set c.toNat I) cs)
def Vq(T:Nat)(o:bo):Bool:=xR (en T ao) o&&ak (U o=T)
theorem RW: ∀{o:bo} {f:List Bool},xR f o=I-> ∀c∈o,0<=c/\c<U f
 | [],f,_,c,ch=>by cases ch
 |d::o,f,h,c,ch=>by
  simp only[xR,cJ,decide_eq_true_eq] at h;rcases eN.1 ch with rfl|ch
  ·exact h.1
  have:=RW h.2.2 c ch
  rwa [gH] at this
def pick(l:List dz)(o:bo):List dz:=o.filterMap λc=>l[c.toNat]?
def Pu(p:bx)(a b:dz):Prop:=(eu p a:Int)∈rc p b\/(eu p b:Int)∈rc p a\/eu p a=eu p b
def Br(p:bx)(a b:dz):Prop:= ∀m,vm p.a7 m->kN p (kN p m a) b=kN p (kN p m b) a
theorem UR(a:cS p=I)(d:iN p b){w:Nat}(h:(w:Int)∉rc p b)(m:bo)(v:Int):wV p (m.set w v) b=wV p m b:=by
 refine ag' a d λc e=>?_;have i:=(tG a d).2.1 c e
 grind
theorem swap(c:cS p=I)(d:iN p a)(i:iN p b)(h: ¬Pu p a b):Br p a b:=by intro m _;have n:(eu p a:Int)∉rc p b:=λe=>h (.inl e);have o:(eu p b:Int)∉rc p a:=λe=>h (.inr (.inl e));have q:eu p a≠eu p b:=λe=>h (.inr (.inr e));have k:=(tG c d).2.2.2;have l:=(tG c i).2.2.2;rw[k,l,l,k,UR c i n,UR c d o,List.set_comm _ _ q]
theorem QD: ∀{o:bo} {f:List Bool},xR f o=I->o.Nodup/\ ∀c∈o,f.getD c.toNat ao=ao
 | [],f,_=>⟨List.nodup_nil,λc a=>by cases a⟩
 |c::o,f,h=>by
  simp only[xR,cJ,decide_eq_true_eq,Bool.not_eq_true'] at h;obtain⟨r,i,k⟩:=h;obtain⟨l,m⟩:=QD k;have a: ∀d∈o,d≠c/\f.getD d.toNat ao=ao:=λd cN=>by
   have:=m d cN;rw[EY] at this;split at this
   ·cases this
   rename_i n;exact⟨λe=>n ⟨by rw[e],O⟩,this⟩
  refine⟨List.nodup_cons.2 ⟨λq=>(a c q).1 rfl,l⟩,λd cN=>?_⟩;rcases eN.1 cN with rfl|cN
  ·exact i
  exact(a d cN).2
def qp(p:bx)(a b:dz):Int:=(if(eu p a:Int)∈rc p b then 1 else 0)+(if(eu p b:Int)∈rc p a then 2 else 0)+(if eu p a=eu p b then 4 else 0)
theorem aiR(p:bx)(a b:dz):0<=qp p a b/\qp p a b<=7:=by
 unfold qp
 grind
def o9(p:bx)(l:List dz)(i k:Nat):Int:=match l[i]?,l[k]? with
 |some a,Y b=>qp p a b
 |_,_=>0
theorem Lv{k:Nat}(c:l[i]? =Y a)(d:l[k]? =Y b):o9 p l i k=qp p a b:=by unfold o9;rw[c,d]
theorem YP(p:bx)(l:List dz)(i k:Nat):0<=o9 p l i k/\o9 p l i k<=7:=by
 unfold o9;split
 ·exact aiR _ _ _
 omega
def nG(p:bx)(l:List dz)(i j:Nat):List hr:=((List.range j).filter λk=>decide (i<k)&&ak (o9 p l i k≠0)).map (fun(k:Nat)=>(⟨(i:Int),(k:Int),o9 p l i k⟩:hr))
def iA(p:bx)(l:List dz)(n:Nat):List hr:=(List.range n).flatMap λi=>nG p l i (U l)
theorem IJ(p:bx)(l:List dz){j:Nat}(h:i<j):nG p l i (j+1)=nG p l i j++(if o9 p l i j=0 then [] else [⟨(i:Int),(j:Int),o9 p l i j⟩]):=by
 unfold nG;rw[se,zA,jl]
 grind
theorem JT(p:bx)(l:List dz)(i:Nat): ∀j,j<=i+1->nG p l i j=[]
 |0,_=>rfl
 |j+1,h=>by have a:=JT p l i j O;unfold nG at a⊢;rw[se,zA,jl,a];simp[show¬i<j by omega]
theorem JS(p:bx)(l:List dz)(n:Nat):iA p l (n+1)=iA p l n++nG p l n (U l):=by unfold iA;rw[se,sk];simp
theorem JU(p:bx)(l:List dz)(i j:Nat):U (nG p l i j)<=j:=by
 unfold nG
 grind
theorem z8(p:bx)(l:List dz): ∀n,U (iA p l n)<=n*U l
 |0=>by simp[iA]
 |n+1=>by
  rw[JS,ea,ft,Nat.one_mul]
  have:=z8 p l n
  have:=JU p l n (U l);omega
theorem Tl{d:hr}:d∈iA p l (U l)↔ ∃i k:Nat,i<k/\k<U l/\o9 p l i k≠0/\d=⟨(i:Int),(k:Int),o9 p l i k⟩:=by
 unfold iA nG;simp only[List.mem_flatMap,List.mem_range,List.mem_map,List.mem_filter,cJ,decide_eq_true_eq]
 grind
def places(o:bo):Nat->bo
 |0=>en (U o) 0
 |k+1=>(places o k).set (o.getD k 0).toNat (k:Int)
theorem Q7(o:bo): ∀k,U (places o k)=U o
 |0=>by simp[places]
 |k+1=>by simp[places,Q7 o k]
theorem S8{k:Nat}(h:k<U o):o.getD k 0∈o:=by grind
theorem JM{o:bo}(d:o.Nodup)(a: ∀c∈o,0<=c/\c<(U o:Int)): ∀k,k<=U o-> ∀j,j<k->(places o k).getD (o.getD j 0).toNat 0=(j:Int)
 |0,_,j,h=>bu h (sd _)
 |k+1,q,j,h=>by
  have l:=a _ (S8 (O:k<U o));have m:=a _ (S8 (O:j<U o));show((places o k).set (o.getD k 0).toNat (k:Int)).getD (o.getD j 0).toNat 0=(j:Int)
  rw[EY,Q7];by_cases e:j=k
  ·subst e;rw[bk ⟨rfl,O⟩]
  rw[bh]
  ·exact JM d a k O j O
  rintro⟨r,_⟩;have i:o.getD k 0=o.getD j 0:=O
  rw[fZ,fZ,bO (O:k<U o),bO (O:j<U o)] at i;have n:o[k]=o[j]:=i
  have:=(List.getElem_inj d).1 n;omega
def UZ(o:bo)(d:hr):Bool:= !decide ((places o (U o)).getD d.2.toNat 0<(places o (U o)).getD d.1.toNat 0)
theorem kept(w:Vq (U l) o=I){c:List hr}
  (z: ∀(i k:Nat) a b,i<k->l[i]? =Y a->l[k]? =Y b->(∀d∈c,¬(d.1=(i:Int)/\d.2=(k:Int)))->Br p b a) (A:c.all (UZ o)=I):
  o.Pairwise (λx y=>y<x-> ∀a b,l[x.toNat]? =Y a->l[y.toNat]? =Y b->Br p a b):=by
 have h:=w;simp only[Vq,cJ,decide_eq_true_eq] at h;have br:=RW h.1;rw[Db,<-h.2] at br;have dc:=(QD h.1).1;rw[List.pairwise_iff_getElem];intro i j m n B C a b F q;have H:o.getD i 0=o[i]:=by rw[fZ,bO m];rfl
 have K:o.getD j 0=o[j]:=by rw[fZ,bO n];rfl
 have L:=br _ (gd m);have Q:=br _ (gd n);refine z o[j].toNat o[i].toNat b a O q F λd G e=>?_;have r:=hL.1 A d G;unfold UZ at r;have R:=JM dc br (U o) (dV _) i m;have W:=JM dc br (U o) (dV _) j n
 grind
def q4(p:bx)(l:List dz)(i:Nat):Int:=match l[i]? with
 |some a=>(eu p a:Int)
 |none=> -1
def HE(p:bx)(l:List dz)(i:Nat):bo:=match l[i]? with
 |some a=>rc p a
 |none=>[]
theorem Ac(h:l[i]? =Y a):q4 p l i=(eu p a:Int):=by unfold q4;rw[h]
theorem Fb(h:l[i]? =Y a):HE p l i=rc p a:=by unfold HE;rw[h]
def kV(p:bx)(l:List dz)(c:Int):Nat->Int
 |0=> -1
 |i+1=>if q4 p l i=c then(i:Int) else kV p l c i
theorem U4(p:bx)(l:List dz)(c:Int): ∀i,-1<=kV p l c i/\kV p l c i<(i:Int)
 |0=>by simp[kV]
 |i+1=>by have:=U4 p l c i;unfold kV;split<;>omega
def oW(p:bx)(l:List dz)(i:Nat):Bool:= !(l.drop (i+1)).any λx=>decide ((eu p x:Int)=q4 p l i)
def mC(f:List Bool)(a:bo):List Bool:=a.foldl (λf s=>if 0<=s then f.set s.toNat I else f) f
theorem Ff: ∀(a:bo) (f:List Bool),U (mC f a)=U f
 | [],f=>rfl
 |s::a,f=>by
  show(U (mC (if 0<=s then f.set s.toNat I else f) a))=_;rw[Ff];split
  ·rw[gH]
  rfl
theorem En(f:List Bool)(a:bo)(s:Int):mC f (a++[s])=if 0<=s then(mC f a).set s.toNat I else mC f a:=by unfold mC;rw[List.foldl_append];rfl
theorem Tm{i:Nat}: ∀{a:bo} {f:List Bool},i<U f->((mC f a).getD i ao=I↔f.getD i ao=I\/(i:Int)∈a)
 | [],f,_=>by simp[mC]
 |s::a,f,h=>by
  show(mC (if 0<=s then f.set s.toNat I else f) a).getD i ao=I↔_;rw[Tm (by split;rw[gH];exact h;exact h),eN];by_cases c:0<=s
  ·rw[bk c,EY];by_cases e:s.toNat=i
   ·rw[bk ⟨e,O⟩];simp[show(i:Int)=s by omega]
   rw[bh λd=>e d.1]
   have: ¬(i:Int)=s:=O
   simp[this]
  rw[bh c]
  have: ¬(i:Int)=s:=O
  simp[this]
def kc(p:bx)(l:List dz)(i:Nat):bo:=(HE p l i).map λc=>kV p l c i
def na(p:bx)(l:List dz):Nat->List Bool
 |0=>en (U l) ao
 |j+1=>if(na p l j).getD (U l-1-j) ao=I\/oW p l (U l-1-j)=I then mC ((na p l j).set (U l-1-j) I) (kc p l (U l-1-j)) else na p l j
theorem wB(p:bx)(l:List dz): ∀j,U (na p l j)=U l
 |0=>by simp[na]
 |j+1=>by
  unfold na;split
  ·rw[Ff,gH,wB p l j]
  exact wB p l j
abbrev nb(p:bx)(l:List dz):List Bool:=na p l (U l)
def x3(a b:aR):Bool:=ak (a.bg=b.bg)&&ak (a.cv=b.cv)
def q9:List aR->List aR->Bool
 | [],[]=>I
 |a::as,b::c=>x3 a b&&q9 as c
 |_,_=>ao
theorem U5: ∀d∈iA p l (U l),0<=d.1/\d.1<d.2/\d.2<(U l:Int):=by
 intro d a;obtain⟨i,k,c,e,h,rfl⟩:=Tl.1 a
 grind
theorem I5{l:bo}(o:U l<n)(q:U l<=1000)(v:Int):yR n l v=Y (ak (v∈l)):=by
 refine bR ?_;unfold yR;refine dh (P:=λi=>decide ((0:Int)<=i)=ak (v∈l)) ?_ λx c=>aJ c;unfold Jm;refine cK (λz:Int=> ∃i:Nat,z=i/\i<=U l/\v∉l.take i) (λz=>U l-z.toNat) ?_ n 0 ⟨0,rfl,O,aZ⟩ O;rintro a z ⟨i,rfl,r,d⟩ h;refine aS (λk=>?_) λm=>aJ ?_
 ·have b9:=bO (O:i<U l);refine ah (bF b9) (aS (λe=>aJ ?_) λe=>?_)
  ·rw[cj O,cj];rw[e];exact ca b9
  rw[bt O];refine h _ ⟨i+1,O,O,?_⟩ O;rw[iI b9,fy,q1]
  grind
 have e:i=U l:=O
 grind
theorem KN{l:bo}(m:U l<n)(o:U l<=1000)(v:Int):xt n l v=Y (ak (v∈l)):=by
 refine bR ?_;unfold xt;refine cK (λz:Int=> ∃i:Nat,z=i/\i<=U l/\v∉l.take i) (λz=>U l-z.toNat) ?_ n 0 ⟨0,rfl,O,aZ⟩ O;rintro a z ⟨i,rfl,q,c⟩ d;refine aS (λh=>?_) λk=>aJ ?_
 ·have b9:=bO (O:i<U l);refine ah (bF b9) (aS (λe=>aJ ?_) λe=>?_)
  ·rw[cj];rw[<-e];exact ca b9
  rw[bt O];refine d _ ⟨i+1,O,O,?_⟩ O;rw[iI b9,fy,q1]
  grind
 have e:i=U l:=O
 grind
def iB(p:bx):qk:=⟨p,b2 p.aq,(b2 p.aq).map (rc p),(b2 p.aq).map λx=>(eu p x:Int)⟩
theorem nB{l:List k}{x:k}(h:l[i]? =Y x):(l.map f)[i]? =Y (f x):=by rw[fG,h];rfl
theorem Fg{l:List k}{x:k}(h:l[i]? =Y x):(l.take (i+1)).map f=(l.take i).map f++[f x]:=by rw[iI h,jl];rfl
theorem Ds(B:7100<=n)(m:kW p):r7 n p=Y (if cS p=I then(Y (iB p),I) else(none,ao)):=by
 obtain⟨L,o,q⟩:=abR (n:=n) O m;refine bR ?_;unfold r7;refine ah o ?_;dsimp only;cases h:cS p with
 |false=>exact aJ rfl
 |true=>
  rw[q h];have r:=(gf h).2.2.2.2;refine cx (cK (λz:dT×bo×Int=> ∃i:Nat,z.2.2=i/\i<=U (b2 p.aq)/\z.1=((b2 p.aq).take i).map (rc p)/\z.2.1=((b2 p.aq).take i).map λx=>(eu p x:Int)) (λz=>U (b2 p.aq)-z.2.2.toNat) ?_ n _ ⟨0,rfl,O,rfl,rfl⟩ (by first|omega|(dsimp only;omega)));rintro k ⟨a,b,z⟩ ⟨i,l,C,c,d⟩ w;dsimp only at l c d⊢;subst l;refine aS (λy=>?_) λA=>aJ ?_
  ·have b9:=bO (O:i<U (b2 p.aq));refine ah (bF b9) (ah (abO O h (kJ (ca b9))) (ah (dO (by rw[c,er,dW,uD];omega)) (ah (dO (by rw[d,er,dW,uD];omega)) ?_)));rw[bt O];exact w _ ⟨i+1,Z,O,by dsimp only;rw[Fg b9,c],by dsimp only;rw[Fg b9,d]⟩ Z
  have e:i=U (b2 p.aq):=O
  rw[c,d,e,eB];rfl
def nW(p:bx):List nk:=(b2 p.aq).map λx=>(⟨rc p x,(eu p x:Int)⟩:nk)
theorem Ks(l:7100<=n)(c:cS p=I):xc n p=Y (nW p):=by
 have m:=(gf c).2.2.2.2;refine bR ?_;unfold xc nW;refine ah (yQ O c) (cK (λz:List nk×Int=> ∃i:Nat,z.2=i/\i<=U (b2 p.aq)/\z.1=((b2 p.aq).take i).map λx=>(⟨rc p x,(eu p x:Int)⟩:nk)) (λz=>U (b2 p.aq)-z.2.toNat) ?_ n _ ⟨0,rfl,O,rfl⟩ Z);rintro d ⟨a,z⟩ ⟨i,k,B,h⟩ o;dsimp only at k h⊢;subst k;refine aS (λq=>?_) λr=>aJ ?_
 ·have b9:=bO (O:i<U (b2 p.aq));obtain⟨P,s,w,y,A⟩:=aeQ l c (kJ (ca b9));refine ah (bF b9) (ah w (ah y (ah A (ah (dO (by rw[h,er,dW,uD];omega)) ?_))));rw[bt O];exact o _ ⟨i+1,Z,O,by dsimp only;rw[Fg b9,h]⟩ Z
 have e:i=U (b2 p.aq):=O
 grind
theorem u3(c:cS p=I)(d: ∀x∈l,iN p x)(h:l[i]? =Y a):U (rc p a)<=12:=(tG c (d _ (ca h))).2.2.1
theorem Ua{Q:R->Prop}{A B:aL Bool}(q:A=Y (ak ((eu p a:Int)∈rc p b)))(r:B=Y (ak ((eu p b:Int)∈rc p a))){c:Int->aL R}(h:cG (c (qp p a b)) Q):
  cG (bl (fun(m:Int)=>bl (fun(i:Int)=>bl c λk=>bif ak ((eu p a:Int)=(eu p b:Int)) then(k (wr (i+4))) else(k i))
   λn=>ad B λw=>bif w then(n (wr (m+2))) else(n m))
   λo=>ad A λx=>bif x then(o (wr (0+1))) else(o 0)) Q:=by
 refine bU (λz=>z=if(eu p a:Int)∈rc p b then 1 else 0) (λj d=>ah q (aS (λe=>d _ (by rw[bk e];rfl)) λe=>d _ (by rw[bh e]))) λz l=>?_;subst l;refine bU (λz=>z=(if(eu p a:Int)∈rc p b then 1 else 0)+if(eu p b:Int)∈rc p a then 2 else 0) (λj d=>ah r (aS (λe=>d _ ?_) λe=>d _ ?_)) λz l=>?_
 ·rw[bk e];split<;>rfl
 ·rw[bh e,Int.add_zero]
 subst l;refine bU (λz=>z=qp p a b) (λj d=>aS (λe=>d _ ?_) λe=>d _ ?_) λz l=>by subst l;exact h
 ·unfold qp;rw[bk (O:eu p a=eu p b)];split<;>split<;>rfl
 unfold qp;rw[bh (show¬eu p a=eu p b by omega),Int.add_zero]
theorem abT(r:7100<=n)(h:cS p=I){k:Nat}(c:(b2 p.aq)[i]? =Y a)(d:(b2 p.aq)[k]? =Y b):Hf n (iB p) (i:Int) (k:Int)=Y (o9 p (b2 p.aq) i k):=by rw[Lv c d];have w:=u3 h (λx e=>kJ e) c;have y:=u3 h (λx e=>kJ e) d;have l:aC (iB p).reads (i:Int)=Y (rc p a):=bF (nB c);have m:aC (iB p).reads (k:Int)=Y (rc p b):=bF (nB d);have o:aC (iB p).kP (i:Int)=Y (eu p a:Int):=bF (nB c);have q:aC (iB p).kP (k:Int)=Y (eu p b:Int):=bF (nB d);refine bR ?_;unfold Hf;rw[l,m,o,q];exact Ua (I5 O O _) (I5 O O _) (aJ rfl)
theorem adJ(c:7100<=n)(d:U (rc p a)<=12)(e:U (rc p b)<=12):D9 n ⟨rc p a,(eu p a:Int)⟩ ⟨rc p b,(eu p b:Int)⟩=Y (qp p a b):=by refine bR ?_;unfold D9;exact Ua (KN O O _) (KN O O _) (aJ rfl)
theorem Km(Q:7100<=n)(G:cS p=I):yW n (iB p)=Y (iA p (b2 p.aq) (U (b2 p.aq))):=by
 have w:=(gf G).2.2.2.2;refine bR ?_;unfold yW;rw[show(iB p).list=b2 p.aq from rfl];generalize m:b2 p.aq=l at*;have R: ∀x∈l,iN p x:=λx W=>kJ (by rw[m];exact W);refine cK (λz:List hr×Int=> ∃i:Nat,z.2=i/\i<=U l/\z.1=iA p l i) (λz=>U l-z.2.toNat) ?_ n _ ⟨0,rfl,O,rfl⟩ Z;rintro A ⟨a,z⟩ ⟨i,o,t,B⟩ X;dsimp only at o B⊢;subst o;refine aS (λf=>?_) λg=>aJ ?_
 ·have b9:=bO (O:i<U l);rw[bt O];refine cK (λz:List hr×Int=> ∃j:Nat,z.2=j/\i<j/\j<=U l/\z.1=iA p l i++nG p l i j) (λz=>U l-z.2.toNat) ?_ n _ ⟨i+1,Z,O,O,by dsimp only;rw[B,JT p l i _ (dV _),jj]⟩ Z;rintro q ⟨b,y⟩ ⟨j,H,c,u,r⟩ C;dsimp only at H r⊢;subst H;refine aS (λK=>?_) λL=>?_
  ·have F:=bO (O:j<U l);have d:=abT Q G (i:=i) (k:=j) (by rw[m];exact b9) (by rw[m];exact F);rw[m] at d;have s:=(YP p l i j).1;refine bU (λz=>z=iA p l i++nG p l i (j+1)) (λv h=>ah d (aS (λe=>ah (dO ?_) (h _ ?_)) λe=>h _ ?_)) λz o=>?_
   ·have E:=z8 p l i;have M:=JU p l i j;have N:i*U l<=120*120:=p8 O w
    grind
   ·rw[r,IJ p l c,bh O,hM]
   ·rw[r,IJ p l c,bk O,jj]
   subst o;rw[bt O];exact C _ ⟨j+1,Z,O,O,rfl⟩ Z
  have e:j=U l:=O
  try rw[bt O]
  exact X _ ⟨i+1,Z,O,by dsimp only;rw[r,e,JS]⟩ Z
 have e:i=U l:=O
 rw[B,e]
theorem Ku(K:7100<=n)(q:cS p=I):xd n p=Y (iA p (b2 p.aq) (U (b2 p.aq))):=by
 have B:=(gf q).2.2.2.2;refine bR ?_;unfold xd;refine ah (Ks K q) ?_;have C:U (nW p)=U (b2 p.aq):=by unfold nW;rw[er]
 have d: ∀(i:Nat) x,(b2 p.aq)[i]? =Y x->aC (nW p) (i:Int)=Y ⟨rc p x,(eu p x:Int)⟩:=λi x h=>bF (nB h);rw[C];generalize nW p=u at*;generalize W:b2 p.aq=l at*;have k: ∀x∈l,iN p x:=λx X=>kJ (by rw[W];exact X);refine cK (λz:List hr×Int=> ∃i:Nat,z.2=i/\i<=U l/\z.1=iA p l i) (λz=>U l-z.2.toNat) ?_ n _ ⟨0,rfl,O,rfl⟩ Z;rintro F ⟨a,z⟩ ⟨i,r,v,G⟩ f;dsimp only at r G⊢;subst r;refine aS (λg=>?_) λs=>aJ ?_
 ·have b9:=bO (O:i<U l);rw[bt O];refine cK (λz:List hr×Int=> ∃j:Nat,z.2=j/\i<j/\j<=U l/\z.1=iA p l i++nG p l i j) (λz=>U l-z.2.toNat) ?_ n _ ⟨i+1,Z,O,O,by dsimp only;rw[G,JT p l i _ (dV _),jj]⟩ Z;rintro w ⟨b,y⟩ ⟨j,L,m,E,A⟩ H;dsimp only at L A⊢;subst L;refine aS (λQ=>?_) λR=>?_
  ·have c:=bO (O:j<U l);have t:=adJ K (u3 q k b9) (u3 q k c);refine bU (λz=>z=iA p l i++nG p l i (j+1)) (λM o=>ah (d _ _ b9) (ah (d _ _ c) (ah t (fu (λe=>ah (dO ?_) (o _ ?_)) λe=>o _ ?_)))) λz r=>?_
   ·have N:=z8 p l i;have P:=JU p l i j;have S:i*U l<=120*120:=p8 O B
    grind
   ·rw[A,IJ p l m,Lv b9 c,bh e,hM]
   ·rw[A,IJ p l m,Lv b9 c,bk e,jj]
   subst r;rw[bt O];exact H _ ⟨j+1,Z,O,O,rfl⟩ Z
  have e:j=U l:=O
  try rw[bt O]
  exact f _ ⟨i+1,Z,O,by dsimp only;rw[A,e,JS]⟩ Z
 have e:i=U l:=O
 rw[G,e]
theorem D7(p:bx)(l:List dz)(c:Int)(i:Nat):kV p l c (i+1)=if q4 p l i=c then(i:Int) else kV p l c i:=rfl
theorem abP(M:7100<=n)(K:cS p=I)(R:i<U (b2 p.aq)):He n (iB p) (i:Int)=Y (kc p (b2 p.aq) i):=by
 have W:=(gf K).2.2.2.2;have r: ∀x∈b2 p.aq,iN p x:=λx X=>kJ X;have w:=bO R;have N:=u3 K r w;have b:aC (iB p).reads (i:Int)=Y (rc p (b2 p.aq)[i]):=bF (nB w);refine bR ?_;unfold He kc;rw[Fb w,b];generalize rc p (b2 p.aq)[i]=d at*;have A:wr ((i:Int)-1)=(i:Int)-1:=bt O;rw[A];refine ah rfl (cK (λz:bo×Int=> ∃k:Nat,z.2=k/\k<=U d/\z.1=(d.take k).map λc=>kV p (b2 p.aq) c i) (λz=>U d-z.2.toNat) ?_ n _ ⟨0,rfl,O,rfl⟩ Z);rintro h ⟨a,z⟩ ⟨k,m,P,B⟩ f;dsimp only at m B⊢;subst m;refine aS (λg=>?_) λt=>aJ ?_
 ·have b9:=bO (O:k<U d);refine ah (bF b9) ?_;have C: ∀y:Int,y=kV p (b2 p.aq) d[k] i->cG (ad (app a [y]) λF=>h (F,wr ((k:Int)+1))) (λx=>x=d.map λc=>kV p (b2 p.aq) c i):=by
   intro y u;refine ah (dO (by rw[B,er,dW,uD];omega)) ?_;rw[bt O];exact f _ ⟨k+1,Z,O,by dsimp only;rw[Fg b9,B,u]⟩ Z
  refine cK (λz:Int=> ∃s:Nat,z=(s:Int)-1/\s<=i/\kV p (b2 p.aq) d[k] i=kV p (b2 p.aq) d[k] s) (λz=>(z+1).toNat) ?_ n _ ⟨i,rfl,dV _,rfl⟩ O;rintro o z ⟨s,rfl,S,l⟩ G;refine bU (λz=>z=I/\(∃q,s=q+1/\q4 p (b2 p.aq) q≠d[k])\/z=ao/\(s:Int)-1=kV p (b2 p.aq) d[k] i) (λj L=>aS (λv=>?_) λv=>L _ (.inr ⟨rfl,?_⟩)) λz m=>?_
  ·obtain⟨q,rfl⟩: ∃q,s=q+1:=⟨s-1,O⟩
   have Q:=bO (O:q<U (b2 p.aq));have E:aC (iB p).kP (((q+1:Nat):Int)-1)=Y (q4 p (b2 p.aq) q):=by
    rw[show((q+1:Nat):Int)-1=(q:Int) by omega,Ac Q];exact bF (nB Q)
   refine ah E ?_;by_cases e:q4 p (b2 p.aq) q=d[k]
   ·rw[cj e];refine L _ (.inr ⟨rfl,?_⟩);rw[l,D7,bk e];omega
   rw[cc e]
   grind
  ·have:s=0:=O
   subst this;rw[l];rfl
  rcases m with ⟨rfl,q,rfl,H⟩|⟨rfl,m⟩
  ·refine cB ?_;rw[bt O];exact G _ ⟨q,O,O,by rw[l,D7,bh H]⟩ O
  exact cx (C _ m)
 have e:k=U d:=O
 grind
theorem abZ(B:7100<=n)(o:cS p=I)(C:i<=U (b2 p.aq))(c:Int):DF n (nW p) (i:Int) c=Y (kV p (b2 p.aq) c i):=by
 have r:=(gf o).2.2.2.2;have k: ∀(i:Nat) x,(b2 p.aq)[i]? =Y x->aC (nW p) (i:Int)=Y ⟨rc p x,(eu p x:Int)⟩:=λi x h=>bF (nB h);refine bR ?_;unfold DF;rw[bt O];refine cK (λz:Int=> ∃s:Nat,z=(s:Int)-1/\s<=i/\kV p (b2 p.aq) c i=kV p (b2 p.aq) c s) (λz=>(z+1).toNat) ?_ n _ ⟨i,rfl,dV _,rfl⟩ O;rintro d z ⟨s,rfl,F,a⟩ l;refine aS (λw=>?_) λw=>aJ ?_
 ·obtain⟨q,rfl⟩: ∃q,s=q+1:=⟨s-1,O⟩
  have m:=bO (O:q<U (b2 p.aq));have y:=k _ _ m;have A:((q+1:Nat):Int)-1=(q:Int):=O
  rw[A];refine ah y (aS (λe=>aJ ?_) λe=>?_)
  ·dsimp only at e;rw[a,D7,Ac m,bk e]
  dsimp only at e;rw[bt O];exact l _ ⟨q,O,O,by rw[a,D7,Ac m,bh e]⟩ O
 have:s=0:=O
 subst this;rw[a];rfl
theorem aix{f:dz->Int}{w:Int}:ak (w∈l.map f)=l.any (λx=>decide (f x=w)):=by grind
theorem QU(p:bx)(l:List dz)(j q:Nat)(h:U l-1-j=q):na p l (j+1)=if(na p l j).getD q ao=I\/oW p l q=I then mC ((na p l j).set q I) (kc p l q) else na p l j:=by subst h;rfl
theorem SO{k:Nat}{y:Int}(h:(kc p l q)[k]? =Y y): -1<=y/\y<(q:Int):=by
 unfold kc at h;rw[fG] at h;cases a:(HE p l q)[k]? with
 |none=>rw[a] at h;cases h
 |some c=>rw[a] at h;cases h;exact U4 p l c q
theorem afv(v:7100<=n)(L:cS p=I):HS n (iB p)=Y (nb p (b2 p.aq)):=by
 have E:=(gf L).2.2.2.2;have Q: ∀x∈b2 p.aq,iN p x:=λx M=>kJ M;have R:=fun(i:Nat) h=>abP v L (i:=i) h;have a:U (iB p).kP=U (b2 p.aq):=by unfold iB;dsimp only;rw[er]
 have A:(iB p).kP=(b2 p.aq).map (λx=>(eu p x:Int)):=rfl;refine bR ?_;unfold HS;refine ah (Vw (n:=(U (iB p).list:Int)) (x:=ao) (by show _/\(U (b2 p.aq):Int)<=_;omega)) ?_;rw[show(U (iB p).list:Int)=(U (b2 p.aq):Int) from rfl,eb,a,bt O];generalize oq:b2 p.aq=l at*;refine cK (λz:List Bool×Int=> ∃j:Nat,z.2=(U l:Int)-1-j/\j<=U l/\z.1=na p l j) (λz=>(z.2+1).toNat) ?_ n _ ⟨0,Z,O,rfl⟩ Z;rintro W ⟨f,z⟩ ⟨j,o,hj,G⟩ N;dsimp only at o G⊢;refine aS (λP=>?_) λP=>aJ ?_
 ·obtain⟨q,S⟩: ∃q,U l-1-j=q:=⟨_,rfl⟩
  have X:z=(q:Int):=O
  subst X;have B:q<U l:=O
  have b:U f=U l:=by rw[G,wB]
  have b9:=bO B;have w:=bO (O:q<U f);have s:f.getD q ao=f[q]:=by rw[fZ,w];rfl
  have c:=QU p l j q S;rw[<-G] at c;refine bU (λz=>z=na p l (j+1)) (λqJ C=>?_) λz o=>?_
  ·refine bU (λz=>z= !decide (f.getD q ao=I\/oW p l q=I)) (λGU d=>ah (bF w) ?_) λz o=>?_
   ·rw[s] at d;cases br:f[q] with
    |true=>rw[br] at d;exact cx (d _ aZ)
    |false=>
     rw[br] at d;have t:aC (iB p).kP (q:Int)=Y (eu p l[q]:Int):=by rw[A];exact bF (nB b9)
     rw[bt O];refine cB (ah (g' O O (by rw[a];omega)) (ah t (ah (I5 ?_ ?_ _) (d _ ?_))))
     ·rw[hY,dW,a];omega
     ·rw[hY,dW,a];omega
     rw[show(((U l:Nat):Int)).toNat=U l by omega,<-a,eB,show(((q:Int)+1)).toNat=q+1 by omega,A,<-List.map_drop,aix];unfold oW;rw[Ac b9];cases (List.drop (q+1) l).any (λx=>decide ((eu p x:Int)=(eu p l[q]:Int)))<;>simp
   subst o;by_cases H:f.getD q ao=I\/oW p l q=I
   ·rw[cj H];rw[bk H] at c;refine cx (ah (bF w) (ah (eS ⟨O,O⟩ I) (ah (R q B) ?_)));rw[eb];have T:U (kc p l q)<=12:=by unfold kc;rw[er,Fb b9];exact u3 L Q b9
    refine cK (λz:List Bool×Int=> ∃k:Nat,z.2=k/\k<=U (kc p l q)/\z.1=mC (f.set q I) ((kc p l q).take k)) (λz=>U (kc p l q)-z.2.toNat) ?_ n _ ⟨0,rfl,O,rfl⟩ Z;rintro K ⟨g,z⟩ ⟨k,o,hk,m⟩ u;dsimp only at o m⊢;subst o;refine aS (λV=>?_) λjt=>C _ ?_
    ·have r:=bO (O:k<U (kc p l q));have br:=SO r;have akO:U g=U l:=by rw[m,Ff,gH,b]
     refine bU (λz=>z=mC (f.set q I) ((kc p l q).take (k+1))) (λyP F=>ah (bF r) (aS (λe=>?_) λe=>F _ ?_)) λz o=>?_
     ·obtain⟨y,hy,_⟩:=hE (l:=g) e O;refine ah hy (ah (eS ⟨e,O⟩ I) (F _ ?_));rw[iI r,En,bk e,m]
     ·rw[iI r,En,bh e,m]
     subst o;rw[bt O];exact u _ ⟨k+1,Z,O,rfl⟩ Z
    have e:k=U (kc p l q):=O
    rw[m,e,eB,c]
   rw[cc H];rw[bh H] at c;exact cB (C _ c.symm)
  subst o;rw[bt O];exact N _ ⟨j+1,Z,O,rfl⟩ Z
 have e:j=U l:=O
 rw[G,e]
def uX(p:bx)(l:List dz)(q k:Nat):Bool:= !((l.take k).drop (q+1)).any λx=>decide ((eu p x:Int)=q4 p l q)
theorem ach{k:Nat}(h:q<k)(a:l[k]? =Y b):uX p l q (k+1)=(uX p l q k&& !decide ((eu p b:Int)=q4 p l q)):=by have c:=(cI.1 a).1;unfold uX;rw[iI a,Ov (by rw[dW];omega),wP];simp
theorem Y3(dc:7100<=n)(hp:kW p):Ho n p=Y (if cS p=I then so (nb p (b2 p.aq)) else []):=by
 refine bR ?_;unfold Ho;refine ah (mH O hp) ?_;cases P:cS p with
 |false=>exact aJ rfl
 |true=>
  have Nd:=(gf P).2.2.2.2;have V: ∀x∈b2 p.aq,iN p x:=λx hx=>kJ hx;have o5:U (nW p)=U (b2 p.aq):=by unfold nW;rw[er]
  have r: ∀(i:Nat) x,(b2 p.aq)[i]? =Y x->aC (nW p) (i:Int)=Y ⟨rc p x,(eu p x:Int)⟩:=λi x h=>bF (nB h);have alG:=fun(i:Nat) h=>abZ dc P (i:=i) h;refine cx (ah (Ks dc P) ?_);rw[o5,bk rfl];generalize nW p=u at*;generalize oq:b2 p.aq=l at*;refine ah (Vw (n:=(U l:Int)) (x:=ao) O) ?_;rw[eb,bt O];refine cK (λz:List Bool×Int=> ∃j:Nat,z.2=(U l:Int)-1-j/\j<=U l/\z.1=na p l j) (λz=>(z.2+1).toNat) ?_ n _ ⟨0,Z,O,rfl⟩ Z;rintro F ⟨f,z⟩ ⟨j,a,hj,S⟩ cC;dsimp only at a S⊢;refine aS (λh0=>?_) λh0=>?_
  ·obtain⟨q,dR⟩: ∃q,U l-1-j=q:=⟨_,rfl⟩
   have al4:z=(q:Int):=O
   subst al4;have Np:q<U l:=O
   have akI:U f=U l:=by rw[S,wB]
   have b9:=bO Np;have G:=bO (O:q<U f);have L:f.getD q ao=f[q]:=by rw[fZ,G];rfl
   have w:=QU p l j q dR;rw[<-S] at w;have Q: ∀y:Int,y=(q:Int)-1->cG (F (na p l (j+1),y)) _:=λy hy=>cC _ ⟨j+1,Z,O,rfl⟩ Z;have jR:wr ((q:Int)+1)=((q+1:Nat):Int):=by rw[bt O];omega
   have aoQ:wr ((q:Int)-1)=(q:Int)-1:=bt O;rw[jR,aoQ];refine cK (λz:Bool×Int=> ∃k:Nat,z.2=k/\q<k/\k<=U l/\z.1=uX p l q k) (λz=>U l-z.2.toNat) ?_ n _ ⟨q+1,rfl,O,O,?_⟩ Z
   ·rintro T ⟨b,z⟩ ⟨k,a,alo,hk,br⟩ yy;dsimp only at a br⊢;subst a;refine aS (λhlt=>?_) λjt=>?_
    ·have m:=bO (O:k<U l);have R:=ach (p:=p) alo m;refine bU (λz=>z=uX p l q (k+1)) (λB7 B=>?_) λz a=>?_
     ·cases W:b with
      |false=>exact cx (B _ (by rw[R,<-br,W];rfl))
      |true=>
       refine cB (ah (r _ _ m) (ah (r _ _ b9) (B _ ?_)));rw[R,<-br,W,Ac b9];rfl
     subst a;rw[bt O];exact yy _ ⟨k+1,Z,O,O,rfl⟩ Z
    have e:k=U l:=O
    have GI:b=oW p l q:=by rw[br,e];unfold uX oW;rw[eB]
    refine bU (λz=>z=f.set q (f.getD q ao||oW p l q)) (λB8 c=>ah (bF G) ?_) λz a=>?_
    ·rw[L] at c;cases X:f[q] with
     |true=>
      rw[X] at c;refine cB (ah (eS ⟨O,O⟩ I) (c _ ?_));rw[eb];rfl
     |false=>
      rw[X] at c;refine cx (ah (eS ⟨O,O⟩ b) (c _ ?_));rw[eb,GI];rfl
    subst a;have hrl:=u3 P V b9;by_cases K:f.getD q ao=I\/oW p l q=I
    ·rw[bk K] at w;have H:(f.getD q ao||oW p l q)=I:=by rcases K with h|h<;>rw[h]<;>simp
     rw[H];have alF:U (kc p l q)=U (rc p l[q]):=by unfold kc;rw[er,Fb b9]
     refine cK (λz:List Bool×Int=> ∃k:Nat,z.2=k/\k<=U (rc p l[q])/\z.1=mC (f.set q I) ((kc p l q).take k)) (λz=>U (rc p l[q])-z.2.toNat) ?_ n _ ⟨0,rfl,O,rfl⟩ Z;rintro A ⟨g,z⟩ ⟨k,a,hk,o⟩ s;dsimp only at a o⊢;subst a;have akO:U g=U l:=by rw[o,Ff,gH,akI]
     have t:=bO (O:q<U g);have hgt:g[q]=I:=by
      have v:g.getD q ao=I:=by
       rw[o,Tm (by rw[gH];omega),EY,bk ⟨rfl,O⟩];exact .inl rfl
      rwa [fZ,t] at v
     refine bU (λz=>z=ak (k<U (rc p l[q]))) (λB9 d=>ah (r _ _ b9) (aS (λe=>ah (bF t) (d _ ?_)) λe=>d _ ?_)) λz a=>?_
     ·dsimp only at e;rw[hgt,cj O]
     ·dsimp only at e;rw[cc O]
     subst a;refine aS (λe=>?_) λe=>?_
     ·have E:=bO e;have m:(kc p l q)[k]? =Y (kV p l (rc p l[q])[k] q):=by unfold kc;rw[Fb b9];exact nB E
      have br:=SO m;refine bU (λz=>z=mC (f.set q I) ((kc p l q).take (k+1))) (λyP M=>ah (r _ _ b9) (ah (bF E) (ah (alG q O _) (aS (λe=>?_) λe=>M _ ?_)))) λz a=>?_
      ·obtain⟨y,hy,_⟩:=hE (l:=g) e O;refine ah hy (ah (eS ⟨e,O⟩ I) (M _ ?_));rw[iI m,En,bk e,o]
      ·rw[iI m,En,bh e,o]
      subst a;rw[bt O];exact s _ ⟨k+1,Z,O,rfl⟩ Z
     have e2:k=U (kc p l q):=O
     rw[o,e2,eB,<-w];exact Q _ rfl
    rw[bh K] at w;have H:(f.getD q ao||oW p l q)=ao:=by
     cases v:f.getD q ao with
     |true=>exact bu (.inl v) K
     |false=>
      cases h2:oW p l q with
      |true=>exact bu (.inr h2) K
      |false=>rfl
    have C:f[q]=ao:=by
     rw[<-L];cases v:f.getD q ao with
     |true=>exact bu (.inl v) K
     |false=>rfl
    have N:f.set q ao=f:=by
     have h:=List.set_getElem_self (as:=f) (i:=q) O
     rwa [C] at h
    rw[H,N];refine cK (λz:List Bool×Int=>z=(f,0)) (λ_=>0) ?_ n _ rfl O;rintro A z rfl s;dsimp only;refine bU (λz=>z=ao) (λB9 d=>ah (r _ _ b9) (dM (λ_=>ah (bF G) (d _ C)) λ_=>d _ rfl)) λz a=>?_;subst a;refine cx ?_;rw[<-w];exact Q _ rfl
   dsimp only;unfold uX;rw[List.drop_of_length_le (by rw[dW];omega)];rfl
  have e:j=U l:=O
  rw[S,e];exact ah (Qe (by rw[wB];omega) (by rw[wB];omega)) (aJ rfl)
theorem K3(a:U l<=120):U (iA p l (U l))<=15000:=by have c:=z8 p l (U l);have d:U l*U l<=120*120:=p8 a a;omega
def m'{k:Type}(p:k->k->Bool):List k->List k->Bool
 | [],[]=>I
 |a::as,b::c=>p a b&&m' p as c
 |_,_=>ao
theorem Kr{k:Type}{p:k->k->Bool}: ∀{a b:List k},m' p a b=I->U a=U b
 | [],[],_=>rfl
 |a::as,b::c,h=>by
  simp only[m',cJ] at h;simp[Kr h.2]
 | [],b::c,h=>by cases h
 |a::as,[],h=>by cases h
theorem KJ{f:k->k->aL Bool}{p:k->k->Bool}{a b:List k}(w: ∀x∈a,∀y∈b,f x y=Y (p x y))(L:U a<n)(Q:U a<=1000000):
  (bif !decide ((U a:Int)=(U b:Int)) then(Y ao) else(bH (λd (e:Int)=>bif ak (e<(U a:Int)) then(ad (aC a e) λz=>ad (aC b e) λA=>ad (f z A) λB=>bif !B then(Y ao) else(d (wr (e+1)))) else(Y I)) n 0))=Y (m' p a b):=by
 refine bR (fu (λh=>aJ ?_) λh=>?_)
 ·cases c:m' p a b with
  |false=>rfl
  |true=>exact bu (by rw[Kr c]) h
 refine cK (λx:Int=> ∃i:Nat,x=i/\i<=U a/\m' p (a.drop i) (b.drop i)=m' p a b) (λx=>U a-x.toNat) ?_ n 0 ⟨0,rfl,O,rfl⟩ O;rintro l x ⟨i,rfl,R,c⟩ C;refine aS (λF=>?_) λG=>aJ ?_
 ·have m:i<U a:=O
  have o:i<U b:=O
  have q:=bO m;have br:=bO o;refine ah (bF q) (ah (bF br) (ah (w _ (ca q) _ (ca br)) ?_));rw[lM m,lM o] at c;simp only[m'] at c;cases r:p a[i] b[i] with
  |false=>rw[r] at c;exact cB (aJ c)
  |true=>
   rw[r,ic] at c;refine cx ?_;rw[bt O];exact C _ ⟨i+1,O,O,c⟩ O
 have H:a.drop i=[]:=mX O;have K:b.drop i=[]:=mX O;rw[H,K] at c;exact c
theorem Sc{a b:bo}(F:U a<n)(G:U a<=1000000):
  (bif !decide ((U a:Int)=(U b:Int)) then(Y ao) else(bH (λc (d:Int)=>bif ak (d<(U a:Int)) then(ad (aC a d) λo=>ad (aC b d) λq=>bif !decide (o=q) then(Y ao) else(c (wr (d+1)))) else(Y I)) n 0))=Y (ak (a=b)):=by
 refine bR (fu (λh=>aJ ?_) λh=>?_)
 ·exact(cc λe=>h (by rw[e])).symm
 refine cK (λx:Int=> ∃i:Nat,x=i/\i<=U a/\a.take i=b.take i) (λx=>U a-x.toNat) ?_ n 0 ⟨0,rfl,O,rfl⟩ O;rintro k x ⟨i,rfl,H,r⟩ w;refine aS (λy=>?_) λz=>aJ ?_
 ·have A:i<U a:=O
  have B:i<U b:=O
  have m:=bO A;have br:=bO B;refine ah (bF m) (ah (bF br) ?_);refine fu (λl=>aJ ?_) λC=>?_
  ·exact(cc λe=>l (by subst e;rfl)).symm
  rw[bt O];exact w _ ⟨i+1,O,O,by rw[iI m,iI br,r,C]⟩ O
 have K:a.take i=a:=lO O
 grind
theorem Z6{a b:bo}(c:U a<n)(d:U a<=1000000):wb n a b=Y (ak (a=b)):=by unfold wb;exact Sc c d
theorem Qy{a b:bo}(c:U a<n)(d:U a<=1000000):Am n a b=Y (ak (a=b)):=by unfold Am;exact Sc c d
theorem ZD(k:5000<=n){a b:aR}(d:lr a):lZ n a b=Y (x3 a b):=by unfold lr at d;unfold lZ x3;have h:=Z6 (n:=n) (a:=a.bg) (b:=b.bg) O O;refine bR (bU (λz=>z=(ak (a.bg=b.bg)&&ak (a.cv=b.cv))) (λj c=>ah h (dM (λe=>c _ (by rw[e];rfl)) λe=>c _ (by rw[e];rfl))) λz i=>aJ i)
theorem ZI(k:5000<=n){a b:aR}(d:lr a):CG n a b=Y (x3 a b):=by unfold lr at d;unfold CG x3;have h:=Qy (n:=n) (a:=a.bg) (b:=b.bg) O O;refine bR (bU (λz=>z=(ak (a.bg=b.bg)&&ak (a.cv=b.cv))) (λj c=>dM (λe=>ah h (c _ (by rw[e,Bool.and_true]))) λe=>c _ (by rw[e,mn])) λz i=>aJ i)
theorem JI: ∀a b:List aR,m' x3 a b=q9 a b
 | [],[]=>rfl
 |a::as,b::c=>by simp only[m',q9,JI as c]
 | [],b::c=>rfl
 |a::as,[]=>rfl
theorem PN(h:5000<=n){a b:List aR}(c:mG a):ta n a b (λd e=>lZ n d e)=Y (q9 a b):=by unfold ta;rw[<-JI];exact KJ (f:=λd e=>lZ n d e) (λx i y _=>ZD h (c.2 x i)) (by have:=c.1;omega) (by have:=c.1;omega)
theorem PK(d:5000<=n){a b:List aR}(c:mG a):CF n a b=Y (q9 a b):=by unfold CF;rw[<-JI];exact KJ (f:=λe h=>CG n e h) (λx i y _=>ZI d (c.2 x i)) (by have:=c.1;omega) (by have:=c.1;omega)
end
section
def ya(B:Nat)(l:List aR):Bool:=eh (U l) B&&l.all λa=>eh (U a.bg) B
def yb(B:Nat)(a:List b4):Bool:=eh (U a) B&&a.all λl=>ya B l.bD&&ya B l.aO
def Bn(B:Nat):Nat->bW->Bool
 |0,_=>ao
 |L+1,e=>eh (U e.bS) B&&(eh (U e.dp.bg) B&&(ya B e.dL.b7&&e.bS.all (Bn B L)))
def s4(B:Nat)(s:cT):Bool:=ya B s.dI.b7&&Bn B 5 s.cz
def VH(B:Nat)(x:cq):Bool:=yb B x.a6&&(eh (U x.a') B&&x.a'.all (s4 B))
def VI(B:Nat)(l:List de):Bool:=eh (U l) B&&l.all λx=>eh (U x.cr) B
def MG(B:Nat)(p:bx):Bool:=VI B p.a7&&(eh (U p.aq) B&&p.aq.all (VH B))
variable {B:Nat}{l:gS}{s:bq}{k:Int}{r:e9}
theorem F3{l:List aR}(h:ya B l=I):gB B l:=by simp only[ya,cJ,hP] at h;exact⟨fJ h.1,λa c=>fJ (h.2 a c)⟩
theorem Yz{l:List b4}(h:yb B l=I):my B l:=by simp only[yb,cJ,hP] at h;exact⟨fJ h.1,λa c=>⟨F3 (h.2 a c).1,F3 (h.2 a c).2⟩⟩
theorem VG{B:Nat}: ∀{L:Nat} {e:bW},Bn B L e=I->kg B L e
 |0,e,h=>by simp[Bn] at h
 |L+1,e,h=>by simp only[Bn,cJ,hP] at h;exact⟨fJ h.1,fJ h.2.1,F3 h.2.2.1,λk a=>VG (h.2.2.2 k a)⟩
theorem YA{p:bx}(h:MG B p=I):eo B p:=by simp only[MG,VI,VH,s4,cJ,hP] at h;exact⟨⟨fJ h.1.1,λa e=>fJ (h.1.2 a e)⟩,fJ h.2.1,λx c=>⟨Yz (h.2.2 x c).1,fJ (h.2.2 x c).2.1,λs d=>⟨F3 ((h.2.2 x c).2.2 s d).1,VG ((h.2.2 x c).2.2 s d).2⟩⟩⟩
def Mt(a t:bq):Bool:=match cat a t with
 |some x=>match vS N x with
  |some (p,_)=>MG 10 p
  |none=>ao
 |none=>ao
theorem agL{t:bq}(h:l.all (Mt s)=I)(d:t∈l): ∃x q,cat s t=Y x/\vS N x=Y q/\eo 10 q.1:=by
 have h:=hL.1 h t d;unfold Mt at h;cases c:cat s t with
 |none=>rw[c] at h;cases h
 |some x=>
  rw[c] at h;dsimp only at h;cases a:vS N x with
  |none=>rw[a] at h;cases h
  |some q=>rw[a] at h;exact⟨x,q,rfl,a,YA h⟩
theorem Uh{R:Type}(e:dU k r)(i:k<=1000000000)(m:l≠[])(h:l.all (Mt s)=I){K:bq×e9->bq->bx×Bool->aL R}{Q:R->Prop}
  (o: ∀a c d,dU (k+1) a.2->eo 10 d.1->cG (K a c d) Q):cG (ad (rR N r l) λa=>ad (cat s a.1) λc=>ad (vS N c) λd=>K a c d) Q:=by
 refine dh (Gv N e i m) λa ⟨n,w⟩=>?_;obtain⟨x,q,y,z,A⟩:=agL h n
 grind
theorem afk(e:dU k r)(n:0<=k/\k<=900000):cG (ES N r) (λx=>eo 10 x.1/\dU (k+210000) x.2):=by
 unfold ES;refine Uh e O aZ J λo q w a h=>?_;refine bU (λz=>dU (k+2) ⟨z.1,z.2.1⟩) (λj c=>?_) λz d=>?_
 ·exact dM (λ_=>dh (la N a O) λy ⟨_,_,i⟩=>c _ (i.mono O)) λ_=>c _ (a.mono O)
 exact dM (λ_=>aJ ⟨h,d.mono O⟩) λ_=>dh (afm d O) λA ⟨l,m⟩=>aJ ⟨l,m.mono O⟩
theorem adp(e:dU k r)(n:0<=k/\k<=800000):cG (Ee N r) (λx=>eo 10 x.1/\dU (k+220000) x.2):=by
 unfold Ee;refine Uh e O aZ J λo q w a h=>?_;refine bU (λz=>dU (k+2) ⟨z.1,z.2.1⟩) (λj c=>?_) λz d=>?_
 ·exact dM (λ_=>dh (la N a O) λy ⟨_,_,i⟩=>c _ (i.mono O)) λ_=>c _ (a.mono O)
 exact dM (λ_=>aJ ⟨h,d.mono O⟩) λ_=>dh (afk d O) λA ⟨l,m⟩=>aJ ⟨l,m.mono O⟩
end
section
def hJ(k:Int):Nat:=if k=1\/k=2\/k=7\/k=8 then 2 else if k=3\/k=4\/k=5 then 3 else if k=6\/k=9\/k=10 then 1 else 0
def gD(n:Int):Bool:=ak (-99<=n/\n<=99)
def fW(s:e7):Bool:=ak (1<=s.aU/\s.aU<=11)&&(ak (hJ s.aU<1->s.cf=0)&&(ak (hJ s.aU<2->s.a=0)&&(ak (hJ s.aU<3->s.b=0)&&(gD s.cf&&(gD s.a&&gD s.b)))))
def uG:gS:=[[105,110,116,101,114,99,104,97,110,103,101],[114,101,118,101,114,115,101],[115,107,101,119],[115,104,105,102,116],[115,116,114,105,112],[102,117,115,101],[100,105,115,116,114,105,98,117,116,101],[115,112,108,105,116],[115,119,97,112],[100,114,111,112],[102,111,108,100]]
def pv(k:Int):bq:=uG.getD (k-1).toNat []
def args(s:e7):bo:=[s.cf,s.a,s.b].take (hJ s.aU)
def tail:bo->bq
 | []=>[]
 |v::r=>32::eK v++tail r
def hb(s:e7):bq:=pv s.aU++tail (args s)
variable {k:Int}
theorem kinds(h:1<=k/\k<=11):k=1\/k=2\/k=3\/k=4\/k=5\/k=6\/k=7\/k=8\/k=9\/k=10\/k=11:=O
theorem Jo(h:1<=k/\k<=11):r1 N k=Y (hJ k:Int):=by rcases kinds h with rfl|rfl|rfl|rfl|rfl|rfl|rfl|rfl|rfl|rfl|rfl<;>decide
theorem abS(h: ¬(1<=k/\k<=11)):r1 N k=Y (-1):=by
 have a:k≠1/\k≠2/\k≠3/\k≠4/\k≠5/\k≠6/\k≠7/\k≠8/\k≠9/\k≠10/\k≠11:=O
 obtain⟨aW,a2,a3,a4,a5,kX,ko,gY,a9,Ps,Yt⟩:=a;simp[r1,bl, *]
theorem abN(f:Int->aL Bool)(p:Int->Bool)(m: ∀x,f x=Y (p x))(l:bo)(A:U l<1000): ∃r:Int,tc N l f=Y r/\(0<=r↔l.any p=I):=by
 suffices h:cG (tc N l f) (λr=>(0<=r↔l.any p=I)) by exact h
 unfold tc;refine cK (λx:Int=>0<=x/\x<=U l/\(l.take x.toNat).any p=ao) (λx:Int=>U l-x.toNat) ?_ N 0 ⟨O,O,aZ⟩ (by simp[N];omega);rintro c x ⟨k,B,d⟩ n;refine aS (λe=>?_) λo=>?_
 ·obtain⟨y,q,a⟩:=hE k e;refine ah q (ah (m y) (dM (λw=>aJ ?_) λi=>?_))
  ·constructor
   ·intro _;rw[kA];exact⟨y,ca a,w⟩
   intro _;exact k
  rw[bt O];refine n _ ⟨O,O,?_⟩ O;rw[show(x+1).toNat=x.toNat+1 by omega,fs,a];simp[d,i]
 refine aJ ?_;have z:x.toNat=U l:=O
 rw[z,eB] at d;rw[d];simp
theorem Cl(f:Int->aL Bool)(p:Int->Bool)(a: ∀x,f x=Y (p x))(l:bo)(c:U l<1000):oc N l f=Y (l.any p):=by obtain⟨r,d,e⟩:=abN f p a l c;unfold oc;rw[d];show Y (ak (0<=r))=_;congr 1;rw[jk,decide_eq_true_eq];exact e
theorem Rv(s:e7):zZ N s=Y (fW s):=by
 have d: ∀x,IA N x=Y (!decide (x=0)):=λ_=>rfl;have e: ∀x,C0 N x=Y (!gD x):=λx=>by
  unfold C0 zX gO gD;by_cases a: -99<=x<;>by_cases b:x<=99<;>simp[bl,a,b]
 have i:wD N s=Y (ak (1<=s.aU/\s.aU<=11)&&(ak (hJ s.aU<1->s.cf=0)&&(ak (hJ s.aU<2->s.a=0)&&ak (hJ s.aU<3->s.b=0)))):=by
  unfold wD;by_cases c:1<=s.aU/\s.aU<=11
  ·rw[Jo c];have k:hJ s.aU=0\/hJ s.aU=1\/hJ s.aU=2\/hJ s.aU=3:=by unfold hJ;split;simp;split;simp;split<;>simp
   simp only[ad,bl,tN];rcases k with h|h|h|h<;>rw[h]
   ·simp[sub,Cl _ _ d,c]
   ·simp[sub,Cl _ _ d,c]
   ·simp[sub,Cl _ _ d,c]
   simp[sub,Cl _ _ d,c]
  rw[abS c];simp[bl,c]
 unfold zZ;rw[i];simp only[bl,ad,tN,fW];generalize ak (1<=s.aU/\s.aU<=11)=aW;generalize ak (hJ s.aU<1->s.cf=0)=a2;generalize ak (hJ s.aU<2->s.a=0)=a3;generalize ak (hJ s.aU<3->s.b=0)=a4;cases aW<;>cases a2<;>cases a3<;>cases a4<;>simp[Cl _ _ e]
end
section
variable {v k i:Int}{s:e7}{l:List e7}
theorem FW{P:Int->Bool}(h:(List.range 199).all (λk=>P ((k:Int)-99))=I)(a:gD v=I):P v=I:=by
 simp only[gD,decide_eq_true_eq] at a
 have:=hL.1 h (v+99).toNat bV
 rwa [show(((v+99).toNat:Int)-99)=v by omega] at this
theorem rQ(a:gD v=I):U (eK v)<=3/\(32:UInt8)∉eK v/\(10:UInt8)∉eK v/\eK v≠[]:=by have:=FW (P:=λv=>decide (U (eK v)<=3)&&(!(eK v).contains 32&&(!(eK v).contains 10&& !(eK v).isEmpty))) (by decide+kernel) a;simpa using this
theorem DE(c:gD v=I):nC (eK v)=Y (v,ao):=by have a:=FW (P:=λv=>decide (Lib.atoiAll (eK v)= .ok v)) (by decide+kernel) c;have a:=gu a;unfold nC;rw[bk (by have:=(rQ c).1;omega),a]
theorem Ir(a:gD v=I): -99<=v/\v<=99:=by simpa[gD] using a
theorem tZ(h:fW s=I):1<=s.aU/\s.aU<=11:=by simp only[fW,cJ] at h;exact gu h.1
theorem adb(h:fW s=I):gD s.cf=I/\gD s.a=I/\gD s.b=I:=by simp only[fW,cJ] at h;exact⟨h.2.2.2.2.1,h.2.2.2.2.2.1,h.2.2.2.2.2.2⟩
theorem z6(h:fW s=I)(a:v∈args s):gD v=I:=by
 obtain⟨c,d,e⟩:=adb h
 have:=hi a;simp at this;rcases this with rfl|rfl|rfl<;>assumption
theorem Gd(k:Int):hJ k<=3:=by unfold hJ;split;simp;split;simp;split<;>simp
theorem AB(s:e7):U (args s)=hJ s.aU:=by have:=Gd s.aU;simp[args];omega
theorem SI: ∀{l:bo},(∀v∈l,gD v=I)->U (tail l)<=4*U l
 | [],_=>by simp[tail]
 |v::l,h=>by have c:=(rQ (h v aZ)).1;have d:=SI (l:=l) λx a=>h x (by simp[a]);simp[tail];omega
theorem Uj{c:UInt8}(a:c=10): ∀{l:bo},(∀v∈l,gD v=I)->c∉tail l
 | [],_=>by simp[tail]
 |v::l,h=>by subst a;have d:=(rQ (h v aZ)).2.2.1;have e:=Uj rfl (l:=l) λx i=>h x (by simp[i]);simp[tail];exact⟨d,e⟩
theorem AE(a:1<=k/\k<=11):U (pv k)<=11/\(32:UInt8)∉pv k/\(10:UInt8)∉pv k/\pv k≠[]/\aC uG (wr (k-1))=Y (pv k):=by rcases kinds a with rfl|rfl|rfl|rfl|rfl|rfl|rfl|rfl|rfl|rfl|rfl<;>decide+kernel
theorem aeU(a:1<=k/\k<=11):Cp N uG (pv k)=Y (k-1):=by rcases kinds a with rfl|rfl|rfl|rfl|rfl|rfl|rfl|rfl|rfl|rfl|rfl<;>decide+kernel
theorem xi(h:fW s=I):U (hb s)<=23:=by
 have d:=(AE (tZ h)).1;have a:=SI λv c=>z6 h c;rw[AB] at a
 have:=Gd s.aU;simp[hb];omega
theorem aid(h:fW s=I):(10:UInt8)∉hb s:=by have a:=(AE (tZ h)).2.2.1;have c:=Uj rfl λv d=>z6 h d;simp[hb];exact⟨a,c⟩
theorem aen{k:Type}{l:List k}{x:k}(d:0<=i)(h:l[i.toNat]? =Y x):l.drop i.toNat=x::l.drop (i+1).toNat:=by obtain⟨a,c⟩:=cI.1 h;rw[lM a,c,show(i+1).toNat=i.toNat+1 by omega]
theorem Qv(h:fW s=I):Du N s=Y (hb s):=by
 have n:=tZ h;have o:=xi h;have q:=AB s;have dc:=Gd s.aU;refine bR ?_;unfold Du;refine ah (show CY N=Y uG from rfl) (ah (AE n).2.2.2.2 (ah (show tN N s=Y [s.cf,s.a,s.b] from rfl) (ah (Jo n)
  (ah (g' O O bV) ?_))))
 rw[show(List.take (hJ s.aU:Int).toNat [s.cf,s.a,s.b]).drop (0:Int).toNat=args s from by simp[args]];refine cK (λx:bq×Int=>0<=x.2/\x.2<=U (args s)/\x.1++tail ((args s).drop x.2.toNat)=hb s) (λx=>U (args s)-x.2.toNat) ?_ N _ ⟨aZ,aZ,rfl⟩ (by simp[N];omega);rintro k ⟨x,i⟩ ⟨l,r,c⟩ w;dsimp only at l r c⊢;refine aS (λm=>?_) λy=>?_
 ·obtain⟨v,z,d⟩:=hE l m;have e:=z6 h (ca d);have A:=Ir e;have cN:=aen l d;rw[cN] at c;have B:U x<=23:=by have:=congrArg U c;simp at this;omega
  have C:=(rQ e).1;refine ah z (ah (show oC v=Y (eK v) by unfold oC;rw[bk O]) (ah (fA bV) (ah (fA bV) ?_)));rw[bt O];refine w _ ⟨Z,Z,?_⟩ Z;dsimp only;rw[<-c];simp[tail]
 refine aJ ?_;have F:i.toNat=U (args s):=O
 rw[F,pr] at c;simpa[tail] using c
def o0(l:List e7):bq:=(l.map λs=>hb s++[10]).flatten
def sR(l:List e7):Bool:=ak (U l<=12)&&l.all fW
def fmt(l:List e7):bq:=bif sR l then o0 l else []
theorem afE(h:l.all fW=I):U (o0 l)<=24*U l:=by
 induction l with
 |nil=>simp[o0]
 |cons s l a=>
  simp only[List.all_cons,cJ] at h
  have:=a h.2
  have:=xi h.1;simp[o0] at *; omega
theorem ahJ(a:s∈l)(h:fW s=ao):fmt l=[]:=by
 have:l.all fW=ao:=by rw[nL];exact⟨s,a,by rw[h];simp⟩
 simp[fmt,sR,this]
theorem ahI{x:bq}(c:x=o0 (l.take i.toNat))(d:(l.take i.toNat).all fW=I)(a:i.toNat=0\/U l<=12)(m:i<=U l)(e: ¬i<U l):x=fmt l:=by
 have k:i.toNat=U l:=O
 rw[k,eB] at c d;unfold fmt sR;rw[d]
 have:U l<=12:=by rcases a with h|h<;>omega
 simp[this,c]
theorem afF(a:0<=i)(h:l[i.toNat]? =Y s):o0 (l.take (i+1).toNat)=o0 (l.take i.toNat)++(hb s++[10]):=by rw[show(i+1).toNat=i.toNat+1 by omega,fs,h];simp[o0]
theorem afC(d:0<=i)(h:l[i.toNat]? =Y s)(a:(l.take i.toNat).all fW=I)(c:fW s=I):(l.take (i+1).toNat).all fW=I:=by rw[show(i+1).toNat=i.toNat+1 by omega,fs,h];simp only[Option.toList_some,List.all_append,a,List.all_cons,c,List.all_nil,Bool.and_true]
theorem aee(a:i.toNat=0\/U l<=12)(c:(l.take i.toNat).all fW=I):U (o0 (l.take i.toNat))<=300:=by
 have d:=afE c;have e:U (l.take i.toNat)<=12:=by rcases a with h|h<;>simp<;>omega
 omega
theorem acp(l:List e7)(G:U l<=10000):HV N l=Y (fmt l):=by
 refine bR ?_;unfold HV;refine cK (λx:bq×Int=>0<=x.2/\x.2<=U l/\x.1=o0 (l.take x.2.toNat)/\(l.take x.2.toNat).all fW=I/\(x.2.toNat=0\/U l<=12)) (λx=>U l-x.2.toNat) ?_ N _ ⟨aZ,aZ,by simp[o0],aZ,.inl rfl⟩ (by simp[N];omega);rintro n ⟨x,i⟩ ⟨e,r,k,m,w⟩ z;dsimp only at e r k m w⊢;refine aS (λo=>?_) λq=>aJ (ahI k m w r q);obtain⟨s,A,a⟩:=hE e o;refine ah A (bU (λb=>b=(ak (12<(U l:Int))|| !fW s)) (λj y=>?_) λb br=>?_)
 ·refine aS (λh=>y _ (by simp[h])) λh=>ah (Rv s) (y _ (by simp[h]))
 subst br;refine dM (λbr=>aJ ?_) λbr=>?_
 ·simp only[Bool.or_eq_true,decide_eq_true_eq,Bool.not_eq_true'] at br;rcases br with br|br
  ·have: ¬U l<=12:=O
   simp[fmt,sR,this]
  rw[ahJ (ca a) br]
 simp only[Bool.or_eq_false_iff,decide_eq_false_iff_not,Bool.not_eq_false'] at br;obtain⟨B,c⟩:=br;have d:U l<=12:=O
 have C:=xi c;have F:=aee (.inr d) m;refine ah (Qv c) (ah (fA bV) (ah (fA (by subst k;simp;omega)) ?_));rw[bt O];exact z _ ⟨Z,Z,by dsimp only;rw[afF e a,k],afC e a m c,.inr d⟩ Z
end
theorem KR: ∀{l:bo} (w:bq),(32:UInt8)∉w->(∀v∈l,gD v=I)->hW 32 (w++tail l)=w::l.map eK
 | [],w,a,_=>by simp[tail,Ax a]
 |v::l,w,a,h=>by rw[show w++tail (v::l)=w++32::(eK v++tail l) from rfl,w4 _ a,KR (eK v) (rQ (h v aZ)).2.1 λx c=>h x (by simp[c])];rfl
theorem agl{s:e7}(h:fW s=I):hW 32 (hb s)=pv s.aU::(args s).map eK:=
 KR _ (AE (tZ h)).2.1 λv a=>z6 h a
theorem ahF{s:e7}(h:fW s=I){p a b:Int}(l:p=(args s).getD 0 0)(m:a=(args s).getD 1 0)(n:b=(args s).getD 2 0):(⟨s.aU,p,a,b⟩:e7)=s:=by
 obtain⟨k,q,r,w⟩:=s;simp only[fW,cJ,decide_eq_true_eq] at h;obtain⟨_,i,d,c,_⟩:=h;have o:hJ k=0\/hJ k=1\/hJ k=2\/hJ k=3:=by unfold hJ;split;simp;split;simp;split<;>simp
 subst l;subst m;subst n;rcases o with e|e|e|e<;>simp only[e] at i d c<;>simp[args,e]
 ·exact⟨(i O).symm,(d O).symm,(c O).symm⟩
 ·exact⟨(d O).symm,(c O).symm⟩
 exact(c O).symm
section
variable {s:e7}{j:Nat}
theorem ahj(a:j<hJ s.aU):(args s)[j]? =Y ((args s).getD j 0):=by rw[List.getD,bO (by rw[AB];exact a)];rfl
theorem K5(a: ¬j<hJ s.aU):(args s).getD j 0=0:=by rw[List.getD,zx (by rw[AB];omega)];rfl
theorem agF(w:bq):cG (Cp N uG w) (λr=> -1<=r/\r<=10):=by unfold Cp;refine cK (λi:Int=>0<=i/\i<=11) (λi:Int=>11-i.toNat) ?_ N 0 ⟨O,O⟩ (by simp[N]);rintro c i ⟨d,m⟩ e;refine aS (λa=>?_) λh=>aJ ⟨O,O⟩;have a:i<11:=a;obtain⟨x,k,_⟩:=hE (l:=uG) (i:=i) d (show i<(11:Int) from a);refine ah k (aS (λ_=>aJ ⟨O,O⟩) λ_=>?_);rw[bt O];exact e _ ⟨O,O⟩ O
theorem adQ(w:bq)(a:U w<=1000000): ∃r,nC w=Y r:=by unfold nC;rw[bk O];exact⟨_,rfl⟩
theorem TY(l:bq)(dm:U l<=1000000):cG (wq N l) (λr=>(r.2=I->fW r.1=I/\hb r.1=l)/\ ∀s,fW s=I->l=hb s->r=(s,I)):=by
 unfold wq;refine ah (zm 32 O) (ah (show CY N=Y uG from rfl) ?_);have B: ∀s,fW s=I->l=hb s->hW 32 l=pv s.aU::(args s).map eK:=λs d k=>by rw[k];exact agl d
 have W: ∀w∈hW 32 l,U w<=1000000:=λw T=>by have:=(E2 T).2;omega
 have f:=TF 32 l;have g:=Lp 32 l;generalize hW 32 l=X at B W f g;obtain⟨h,t,rfl⟩: ∃h t,X=h::t:=by cases X with|nil=>exact bu rfl g|cons h t=>exact⟨h,t,rfl⟩
 refine ah (show aC (h::t) 0=Y h from rfl) ?_;obtain⟨r,C,yy⟩:=agF h;have q: ∀s,fW s=I->l=hb s->r=s.aU-1:=λs d k=>by
  have:=B s d k;simp only[List.cons.injEq] at this;rw[this.1,aeU (tZ d)] at C;exact(Option.some.inj C).symm
 have p: ∀s,fW s=I->l=hb s->t=(args s).map eK:=λs d k=>by
  have:=B s d k;simp only[List.cons.injEq] at this;exact this.2
 refine ah C ?_;rw[bt (n:=1+r) O,bt (n:=(U (h::t):Int)-1) (by simp at f ⊢; omega)];have m:(¬ ∃s,fW s=I/\l=hb s)->cG (Y ((⟨0,0,0,0⟩:e7),ao)) (λr:e7×Bool=>(r.2=I->fW r.1=I/\hb r.1=l)/\ ∀s,fW s=I->l=hb s->r=(s,I)):=λdc=>
  aJ ⟨λh=>(by cases h),λs d k=>bu ⟨s,d,k⟩ dc⟩
 refine bU (λb=>(b=I-> ¬ ∃s,fW s=I/\l=hb s)/\(b=ao->0<=r/\(U t)=hJ (1+r))) (λj u=>?_) λb br=>?_
 ·refine aS (λE=>u _ ⟨λ_ ⟨s,d,k⟩=>?_,λh=>by cases h⟩) λV=>?_
  ·have:=q s d k;have:=tZ d;omega
  refine ah (Jo ⟨O,O⟩) (u _ ⟨λK ⟨s,d,k⟩=>?_,λK=>?_⟩)
  ·have h1:=q s d k;have F:=p s d k;simp only[Bool.not_eq_true',decide_eq_false_iff_not] at K;apply K;rw[h1,F,show 1+(s.aU-1)=s.aU by omega];simp[AB]
  simp at K;exact⟨O,O⟩
 refine dM (λakr=>m (br.1 akr)) λako=>?_;obtain⟨yx,M⟩:=br.2 ako;have an3:=Gd (1+r);refine ah (g' O bV O) ?_;rw[show((h::t).take (U (h::t):Int).toNat).drop (1:Int).toNat=t by simp];refine cK (λx:Int×Int×Int×Int=>0<=x.2.2.2/\x.2.2.2<=U t/\ ∀s,fW s=I->l=hb s->x.1=(if 0<x.2.2.2 then(args s).getD 0 0 else 0)/\x.2.1=(if 1<x.2.2.2 then(args s).getD 1 0 else 0)/\x.2.2.1=(if 2<x.2.2.2 then(args s).getD 2 0 else 0))
  (λx=>U t-x.2.2.2.toNat) ?_ N _ ⟨aZ,aZ,λs _ _=>aZ⟩ (by simp[N];omega)
 rintro again ⟨a,dQ,c,i⟩ ⟨h0,h1,F⟩ G;dsimp only at h0 h1 F⊢;refine aS (λE=>?_) λV=>?_
 ·obtain⟨w,T,o⟩:=hE h0 E;obtain⟨v,b0⟩:=adQ w (W w (eT _ (ca o)));have y: ∀s,fW s=I->l=hb s->v=((args s).getD i.toNat 0,ao):=λs d k=>by
   have e:=p s d k;have hk:=q s d k;have A:i.toNat<hJ s.aU:=by rw[show s.aU=1+r by omega,<-M];omega
   have:=ahj A;rw[e,fG,this] at o;have o:eK ((args s).getD i.toNat 0)=w:=Option.some.inj o;rw[<-o,DE (z6 d (ca this))] at b0;exact(Option.some.inj b0).symm
  refine ah T (ah b0 (dM (λH=>m (λ⟨s,d,k⟩=>?_)) λH=>?_))
  ·rw[y s d k] at H;cases H
  rw[bt (n:=i+1) O];refine aS (λA=>?_) λyt=>aS (λA=>?_) λpR=>aS (λA=>?_) λhi2=>?_
  ·subst A;refine G _ ⟨Z,Z,λs d k=>?_⟩ Z;obtain⟨L,Q,R⟩:=F s d k;rw[y s d k];exact⟨rfl,by dsimp only;rw[Q];rfl,by dsimp only;rw[R];rfl⟩
  ·subst A;refine G _ ⟨Z,Z,λs d k=>?_⟩ Z;obtain⟨L,Q,R⟩:=F s d k;rw[y s d k];exact⟨by dsimp only;rw[L];rfl,rfl,by dsimp only;rw[R];rfl⟩
  ·subst A;refine G _ ⟨Z,Z,λs d k=>?_⟩ Z;obtain⟨L,Q,R⟩:=F s d k;rw[y s d k];exact⟨by dsimp only;rw[L];rfl,by dsimp only;rw[Q];rfl,rfl⟩
  omega
 have A:i=U t:=O
 have P: ∀s,fW s=I->l=hb s->(⟨1+r,a,dQ,c⟩:e7)=s:=λs d k=>by
  obtain⟨L,Q,R⟩:=F s d k;have hk:=q s d k;rw[show 1+r=s.aU by omega];have an4:(hJ s.aU:Int)=i:=by rw[A,M,show s.aU=1+r by omega]
  refine ahF d ?_ ?_ ?_
  ·rw[L];split
   ·rfl
   exact(K5 O).symm
  ·rw[Q];split
   ·rfl
   exact(K5 O).symm
  rw[R];split
  ·rfl
  exact(K5 O).symm
 refine bU (λz=>(z=I↔fW ⟨1+r,a,dQ,c⟩=I/\hb ⟨1+r,a,dQ,c⟩=l)) (λj u=>ah (Rv _) (dM (λS=>ah (Qv S) (u _ (by simp[S]))) λS=>u _ (by simp[S]))) λz fo=>aJ ⟨λK=>fo.1 K,λs d k=>?_⟩;have e:=P s d k;rw[e] at fo⊢;rw[fo.2 ⟨d,k.symm⟩]
end
section
def j9(v:Nat)(c:Int):bq:=if v=4 then eK (max c (-c)) else(if 1<max c (-c) then eK (max c (-c))++[42] else [])++[UInt8.ofNat (105+v)]
def oI(o:bq)(c:Int):bq:=if c<0 then o++[45] else if o=[] then o else o++[43]
def ib(o:bq)(t:Nat×Int):bq:=if t.2=0 then o else oI o t.2++j9 t.1 t.2
def ra(v:Nat)(c:Int):Bool:=
 let b:=j9 v c;let a:=if v=4 then [] else [UInt8.ofNat (105+v)]
 let dg:=if v=4\/1<max c (-c) then eK (max c (-c)) else []
 decide (b≠[])&&(b.all (λx=>decide (x.toNat<128/\x≠43/\x≠45/\x≠44/\x≠32/\x≠10/\x≠93/\x≠125))&&(ak (U b<=4)&&
 (ak (Lib.trimLeftS b [48,49,50,51,52,53,54,55,56,57,42]=a)&&(ak (Lib.trimSuffix (Lib.trimSuffix b a) [42]=dg)))))
variable {v:Nat}{c:Int}{t:Nat×Int}{a:aR}
theorem ahf(a:v<4)(e: -9<=c/\c<=9):ra v c=I:=by
 have h:(List.range 4).all (λv=>(List.range 19).all λk=>ra v ((k:Int)-9))=I:=by decide+kernel
 have d:=hL.1 h v (uy.2 a);have i:=hL.1 d (c+9).toNat (uy.2 O)
 grind
theorem ahh(a:gD c=I):ra 4 c=I:=FW (P:=ra 4) (by decide+kernel) a
theorem FH(h:v<4/\(-9<=c/\c<=9)\/v=4/\gD c=I):ra v c=I:=by
 rcases h with ⟨d,a⟩|⟨rfl,a⟩
 ·exact ahf d a
 exact ahh a
def kb(t:Nat×Int):Prop:=t.1<4/\(-9<=t.2/\t.2<=9)\/t.1=4/\gD t.2=I
theorem Ll(h:kb t):j9 t.1 t.2≠[]:=by
 have:=FH h;simp only[ra,cJ,decide_eq_true_eq] at this
 grind
theorem Fo(h:kb t):U (j9 t.1 t.2)<=4:=by
 have:=FH h;simp only[ra,cJ,decide_eq_true_eq] at this
 grind
def okB(x:UInt8):Prop:=x.toNat<128/\x≠43/\x≠45/\x≠44/\x≠32/\x≠10/\x≠93/\x≠125
theorem EV(h:kb t): ∀x∈j9 t.1 t.2,okB x:=by have:=FH h;simp only[ra,cJ,decide_eq_true_eq,hP] at this;exact this.2.1
def ku:List (Nat×Int)->bq
 | []=>[]
 |t::l=>(if t.2<0 then [45] else [43])++(j9 t.1 t.2++ku l)
def pw:List (Nat×Int)->bq
 | []=>[]
 |t::l=>(if t.2<0 then [45] else [])++(j9 t.1 t.2++ku l)
theorem Lx: ∀{l:List (Nat×Int)} {o:bq},o≠[]->l.foldl ib o=o++ku (l.filter λt=>decide (t.2≠0))
 | [],o,h=>by simp[ku]
 |t::l,o,h=>by
  rw[zD];by_cases a:t.2=0
  ·rw[show ib o t=o from bk a,Lx h];simp[a]
  have e:ib o t=o++(if t.2<0 then [45] else [43])++j9 t.1 t.2:=by
   unfold ib oI;rw[bh a,bh h];split<;>rfl
  rw[e,Lx (by simp[h]),List.filter_cons_of_pos (by simp[a]),ku];simp[List.append_assoc]
theorem SY: ∀{l:List (Nat×Int)},(∀t∈l,kb t)->l.foldl ib []=pw (l.filter λt=>decide (t.2≠0))
 | [],h=>rfl
 |t::l,h=>by
  rw[zD];by_cases a:t.2=0
  ·rw[show ib [] t=[] from bk a,SY λx c=>h x (eT _ c)];simp[a]
  have e:ib [] t=(if t.2<0 then [45] else [])++j9 t.1 t.2:=by
   unfold ib oI;rw[bh a,bk rfl];split<;>rfl
  rw[e,Lx (by simp[Ll (h t List.mem_cons_self)]),List.filter_cons_of_pos (by simp[a]),pw];simp[List.append_assoc]
def jN(a:aR):List (Nat×Int):=[(0,a.bg.getD 0 0),(1,a.bg.getD 1 0),(2,a.bg.getD 2 0),(3,a.bg.getD 3 0),(4,a.cv)]
def jW(a:aR):bq:=let o:=(jN a).foldl ib [];if o=[] then [48] else o
def mZ(a:aR):List (Nat×Int):=let l:=(jN a).filter (λt=>decide (t.2≠0));if l=[] then [(4,0)] else l
theorem AD(h:dy a=I): ∃d e i l,a.bg=[d,e,i,l]/\(-9<=d/\d<=9)/\(-9<=e/\e<=9)/\(-9<=i/\i<=9)/\(-9<=l/\l<=9)/\gD a.cv=I:=by
 simp only[dy,cJ,decide_eq_true_eq,hP] at h;obtain⟨m,n,c⟩:=h;obtain⟨cs,k⟩:=a
 match cs,m,c with
 | [d,e,i,l],_,c=>exact⟨d,e,i,l,rfl,c _ aZ,c _ aZ,c _ aZ,c _ aZ,by simpa[gD] using n⟩
theorem A5(h:dy a=I): ∀t∈jN a,kb t:=by
 obtain⟨n,o,q,r,e,d,i,k,l,m⟩:=AD h;intro t c;simp only[jN,e,List.mem_cons,List.not_mem_nil,or_false] at c;rcases c with rfl|rfl|rfl|rfl|rfl
 ·exact .inl ⟨aZ,d⟩
 ·exact .inl ⟨aZ,i⟩
 ·exact .inl ⟨aZ,k⟩
 ·exact .inl ⟨aZ,l⟩
 exact .inr ⟨rfl,m⟩
theorem EL(h:dy a=I): ∀t∈mZ a,kb t:=by
 unfold mZ;intro t c;dsimp only at c;split at c
 ·simp at c;subst c;exact .inr ⟨rfl,by decide⟩
 exact A5 h t (List.mem_filter.1 c).1
theorem S7{l:List (Nat×Int)}(h:l≠[])(a: ∀t∈l,kb t):pw l≠[]:=by
 match l,h with
 |t::l,_=>simp[pw,Ll (a t List.mem_cons_self)]
theorem LL(h:dy a=I):jW a=pw (mZ a):=by
 unfold jW mZ;dsimp only;rw[SY (A5 h)];by_cases c:(jN a).filter (λt=>decide (t.2≠0))=[]
 ·rw[c];decide+kernel
 rw[bh c,bh (S7 c λt d=>A5 h t (List.mem_filter.1 d).1)]
theorem KV: ∀{l:List (Nat×Int)} {o:bq},(∀t∈l,kb t)->U (l.foldl ib o)<=U o+5*U l
 | [],o,h=>aZ
 |t::l,o,h=>by
  rw[zD];have c:= @KV l (ib o t) λx a=>h x (eT _ a);have d:U (ib o t)<=U o+5:=by
   have:=Fo (h t fi);unfold ib oI;split;omega;split<;>(try split)<;>simp<;>omega
  simp only[fP];omega
end
section
theorem UL(n:Nat)(c:Int){o:bq}(d:U o<=1000):Cq n c o=Y (oI o c):=by
 unfold Cq;refine bR (aS (λh=>?_) λh=>fu (λa=>?_) λa=>?_)
 ·exact ah (fA bV) (aJ (by simp[oI,h]))
 ·exact ah (fA bV) (aJ (by simp[oI,h,a]))
 exact aJ (by simp[oI,h,a])
theorem Ut(o:bq)(c:Int):U (oI o c)<=U o+1:=by unfold oI;split;simp;split<;>simp
variable {c:Int}{a:aR}{j:Nat}
theorem Pw(h: -99<=c/\c<=99):max c (wr (0-c))=max c (-c)/\0<=max c (-c)/\max c (-c)<=99:=by rw[bt O];omega
theorem FA(h:0<=c/\c<=99):oC c=Y (eK c):=by unfold oC;rw[bk O]
theorem agn(h:dy a=I)(c:j<4):a.bg[j]? =Y (a.bg.getD j 0)/\(jN a)[j]? =Y (j,a.bg.getD j 0)/\sub [105,106,107,108] (j:Int) ((j:Int)+1)=Y [UInt8.ofNat (105+j)]:=by
 obtain⟨d,i,k,l,e,_⟩:=AD h;rw[jN,e]
 match j,c with
 |0,_=>exact⟨rfl,rfl,rfl⟩
 |1,_=>exact⟨rfl,rfl,rfl⟩
 |2,_=>exact⟨rfl,rfl,rfl⟩
 |3,_=>exact⟨rfl,rfl,rfl⟩
theorem Sh{l:List (Nat×Int)}{t:Nat×Int}(h:l[j]? =Y t)(o:bq):(l.take (j+1)).foldl ib o=ib ((l.take j).foldl ib o) t:=by rw[fs,h,Option.toList_some,List.foldl_append];rfl
theorem IV{n:Nat}(E:5000<=n)(h:dy a=I):y8 n a=Y (jW a):=by
 have dm:=A5 h;have H:U a.bg=4:=by obtain⟨_,_,_,_,e,_⟩:=AD h;rw[e];rfl
 have Q: ∀j,U ((jN a).take j)<=5:=λj=>by rw[dW];exact iD (Nat.min_le_right _ _) (by simp[jN])
 have R: ∀j,U (((jN a).take j).foldl ib [])<=25:=λj=>by
  have:=KV (o:=[]) (show∀t∈(jN a).take j,kb t from λt y=>dm t (hi y))
  have:=Q j;simp at *; omega
 unfold y8;refine bR (cK (λz:bq×Int=> ∃j:Nat,z.2=j/\j<=4/\z.1=((jN a).take j).foldl ib []) (λz=>4-z.2.toNat) ?_ n _ ⟨0,rfl,O,rfl⟩ Z);rintro A ⟨o,i⟩ ⟨j,rfl,M,rfl⟩ W;dsimp only;have eI:=R j;refine aS (λX=>?_) λb=>?_
 ·have m:j<4:=O
  obtain⟨K,q,f⟩:=agn h m;have y:=dm _ (ca q);generalize a.bg.getD j 0=c at K q y;have N: -9<=c/\c<=9:=by rcases y with ⟨_,g⟩|⟨r,_⟩;exact g;dsimp only at r;omega
  obtain⟨B,C,F⟩:=Pw (c:=c) O;refine bU (λz=>z=((jN a).take (j+1)).foldl ib []) (λp l=>?_) λz w=>?_
  ·rw[Sh q] at l;generalize ((jN a).take j).foldl ib []=o at eI l;refine ah (bF K) (aS (λd=>l _ (by simp[ib,d])) λd=>?_);refine ah (UL n c O) ?_;have hs:=Ut o c;have e:ib o (j,c)=oI o c++j9 j c:=bh d;rw[e] at l;refine bU (λz=>z=oI o c++(if 1<max c (-c) then eK (max c (-c))++[42] else [])) (λP x=>?_) λz w=>?_
   ·rw[B];refine aS (λr=>?_) λr=>x _ (by simp[r]);have k:gD (max c (-c))=I:=by simp[gD];omega
    have L:=(rQ k).1;refine ah (FA ⟨C,F⟩) (ah (fA bV) (ah (fA bV) (x _ (by rw[bk r]))))
   subst w;have G:U (oI o c++(if 1<max c (-c) then eK (max c (-c))++[42] else []))<=40:=by
    have k:gD (max c (-c))=I:=by simp[gD];omega
    have L:=(rQ k).1;split<;>simp<;>omega
   rw[bt (n:=(j:Int)+1) O];refine ah f (ah (fA (by simp only[fP,ho];omega)) (l _ ?_));rw[j9,bh (show¬j=4 by omega),hM]
  subst w;rw[bt O];exact W _ ⟨j+1,aZ,O,rfl⟩ Z
 have m:j=4:=O
 subst m;obtain⟨_,_,_,_,_,_,_,_,_,s⟩:=AD h;have q:(jN a)[4]? =Y (4,a.cv):=rfl;have k:=Ir s;obtain⟨B,C,F⟩:=Pw k;refine bU (λz=>z=(jN a).foldl ib []) (λp l=>?_) λz w=>?_
 ·have u:(jN a).foldl ib []=((jN a).take 5).foldl ib []:=by rw[lO (by simp[jN])]
  rw[u,Sh q] at l;generalize ((jN a).take 4).foldl ib []=o at eI l;refine fu (λd=>?_) λd=>l _ (by simp[ib,d]);have hs:=Ut o a.cv;have L:=(rQ (v:=max a.cv (-a.cv)) (by simp[gD];omega)).1;rw[B];exact ah (UL n _ O) (ah (FA ⟨C,F⟩) (ah (fA O) (l _ (by simp[ib,d,j9]))))
 subst w;unfold jW;dsimp only;exact aS (λd=>aJ (by rw[bk d])) λd=>aJ (by rw[bh d])
end
section
def am9(t:Nat×Int):Prop:=kb t/\(t.1=4\/t.2≠0)
variable {a:aR}{l:List (Nat×Int)}
theorem ahd(h:dy a=I): ∀t∈mZ a,am9 t:=λt c=>⟨EL h t c,by
 unfold mZ at c;dsimp only at c;split at c
 ·simp at c;subst c;exact .inl rfl
 exact .inr (by have:=(List.mem_filter.1 c).2;simpa using this)⟩
theorem SH(a:aR):mZ a≠[]:=by
 unfold mZ;dsimp only;split
 ·simp
 assumption
def wi(x:UInt8):Prop:=x.toNat<128/\x≠44/\x≠32/\x≠10/\x≠93/\x≠125
theorem Vr{x:UInt8}(h:okB x):wi x:=⟨h.1,h.2.2.2.1,h.2.2.2.2.1,h.2.2.2.2.2.1,h.2.2.2.2.2.2⟩
theorem Kd: ∀{l:List (Nat×Int)},(∀t∈l,kb t)-> ∀x∈ku l,wi x
 | [],_,x,a=>by simp[ku] at a
 |t::l,h,x,a=>by
  simp only[ku,List.mem_append] at a;rcases a with a|a|a
  ·split at a<;>simp at a<;>subst a<;>(unfold wi;decide)
  ·exact Vr (EV (h t fi) x a)
  exact Kd (λy c=>h y (eT _ c)) x a
theorem afB(h: ∀t∈l,kb t): ∀x∈pw l,wi x:=by
 intro x a
 match l,h with
 | [],_=>simp[pw] at a
 |t::l,h=>
  simp only[pw,List.mem_append] at a;rcases a with a|a|a
  ·split at a<;>simp at a;subst a;unfold wi;decide
  ·exact Vr (EV (h t fi) x a)
  exact Kd (λy c=>h y (eT _ c)) x a
theorem Fu(h:dy a=I): ∀x∈jW a,wi x:=by rw[LL h];exact afB (EL h)
theorem w5(h:dy a=I):U (jW a)<=25:=by
 unfold jW;dsimp only;split
 ·simp
 exact KV (o:=[]) (A5 h)
theorem aiz(h:dy a=I):jW a≠[]:=by rw[LL h];exact S7 (SH a) (EL h)
theorem Qg: ∀{b r:bq},(∀x∈b,okB x)->(r=[]\/ ∃a,r=43::a\/r=45::a)->Lib.indexAny (b++r) [43,45]=if r=[] then-1 else(U b:Int)
 | [],r,h,c=>by
  rcases c with rfl|⟨a,rfl|rfl⟩<;>simp[Lib.indexAny]
 |x::b,r,h,c=>by
  have e:=Qg (λy i=>h y (eT _ i)) c;have d:=h x fi;rw[De,Lib.indexAny,e,bh (by simp[d.2.1,d.2.2.1])];split
  ·simp
  rw[bh aZ];simp
theorem afR:ku l=[]\/ ∃a,ku l=43::a\/ku l=45::a:=by
 cases l with
 |nil=>exact .inl rfl
 |cons t l=>exact .inr ⟨j9 t.1 t.2++ku l,by rw[ku];split;exact .inr rfl;exact .inl rfl⟩
def sP(z:bo×Int)(t:Nat×Int):bo×Int:=if t.1=4 then(z.1,z.2+t.2) else(z.1.set t.1 (z.1.getD t.1 0+t.2),z.2)
def GA(k:Nat)(z:bo×Int):Prop:=U z.1=4/\(∀v,-(100*k:Int)<=z.1.getD v 0/\z.1.getD v 0<=100*k)/\ -(100*k:Int)<=z.2/\z.2<=100*k
theorem ahb{k:Nat}{z:bo×Int}{t:Nat×Int}(h:GA k z)(d:kb t):GA (k+1) (sP z t):=by
 obtain⟨c,a,e,i⟩:=h;have l: -99<=t.2/\t.2<=99:=by
  rcases d with ⟨_,h⟩|⟨_,h⟩
  ·omega
  exact Ir h
 unfold sP;split
 ·exact⟨c,λv=>⟨by have:=(a v).1;dsimp only;omega,by have:=(a v).2;dsimp only;omega⟩,Z,Z⟩
 refine⟨by simpa using c,λv=>?_,Z,Z⟩;dsimp only;rw[fZ,List.getElem?_set];split
 ·split
  ·have:=a t.1;simp only[Option.getD_some];omega
  simp only[Option.getD_none];omega
 rw[<-fZ];have:=a v;omega
theorem Uv: ∀{l:List (Nat×Int)} {k:Nat} {z:bo×Int},GA k z->(∀t∈l,kb t)->GA (k+U l) (l.foldl sP z)
 | [],k,z,h,_=>h
 |t::l,k,z,h,a=>by rw[zD,nM,show k+(U l+1)=(k+1)+U l by omega];exact Uv (ahb h (a t fi)) λx c=>a x (eT _ c)
theorem adF(h:dy a=I):(mZ a).foldl sP ([0,0,0,0],0)=(a.bg,a.cv):=by obtain⟨c,d,i,k,e,_⟩:=AD h;unfold mZ jN;rw[e];by_cases l:c=0<;>by_cases m:d=0<;>by_cases n:i=0<;>by_cases o:k=0<;>by_cases q:a.cv=0<;>simp[l,m,n,o,q,sP]
theorem aeF(a:aR):U (mZ a)<=5:=by
 unfold mZ;dsimp only;split
 ·simp
 exact iD (List.length_filter_le _ _) (by simp[jN])
end
section
def tV(v:Nat):bq:=if v=4 then [] else [UInt8.ofNat (105+v)]
def vu(v:Nat)(c:Int):bq:=if v=4\/1<max c (-c) then eK (max c (-c)) else []
variable {t:Nat×Int}{s:bq}
theorem ahg(h:kb t):Lib.trimLeftS (j9 t.1 t.2) [48,49,50,51,52,53,54,55,56,57,42]=tV t.1/\Lib.trimSuffix (Lib.trimSuffix (j9 t.1 t.2) (tV t.1)) [42]=vu t.1 t.2:=by have:=FH h;simp only[ra,cJ,decide_eq_true_eq] at this;exact this.2.2.2
theorem afZ{v:Nat}(h:v<=4): ∃i:Int,Ha [105,106,107,108] (tV v)=Y i/\(v<4->i=v):=by
 match v,h with
 |0,_=>exact⟨_,rfl,λ_=>by decide+kernel⟩
 |1,_=>exact⟨_,rfl,λ_=>by decide+kernel⟩
 |2,_=>exact⟨_,rfl,λ_=>by decide+kernel⟩
 |3,_=>exact⟨_,rfl,λ_=>by decide+kernel⟩
 |4,_=>exact⟨_,rfl,λh=>O⟩
theorem af8(h:kb t):t.1<=4/\ -99<=t.2/\t.2<=99:=by
 rcases h with ⟨c,a⟩|⟨c,a⟩
 ·omega
 have:=Ir a;omega
theorem aiZ(h:kb t){r:bq}(e:r=[]\/ ∃d,r=43::d\/r=45::d)(i: ∀x∈r,wi x)(l:U r<=100):
  Cs (j9 t.1 t.2++r) [43,45]=Y (if r=[] then-1 else(U (j9 t.1 t.2):Int)):=by
 have br:=Fo h;have a:=EV h;have k: ∀x∈j9 t.1 t.2++r,x.toNat<128:=λx c=>by
  rcases fy.1 c with c|c
  ·exact(a x c).1
  exact(i x c).1
 unfold Cs;rw[bk ⟨⟨bV,aZ⟩,k,by decide⟩,Qg a e]
theorem af5{b:bq}(h:Lib.trimLeftS b [48,49,50,51,52,53,54,55,56,57,42]=s):Cu b [48,49,50,51,52,53,54,55,56,57,42]=Y s:=by unfold Cu;rw[bk ⟨aZ,by decide⟩,h]
theorem SE{t:bq}(h:U s<=100000):y5 s t=Y (Lib.trimSuffix s t):=by unfold y5;rw[bk O]
theorem RV: ∀{l:List (Nat×Int)},(∀t∈l,kb t)->U (ku l)<=5*U l
 | [],_=>by simp[ku]
 |t::l,h=>by
  have c:=RV (show∀x∈l,kb x from λx a=>h x (eT _ a));have d:=Fo (h t fi);rw[ku,ea,ea,nM]
  have:U (if t.2<0 then([45]:bq) else [43])=1:=by split<;>rfl
  omega
theorem ME(c:UInt8)(r:bq):sub (c::r) 1 (U (c::r):Int)=Y r:=by rw[g' O bV O];simp
theorem SG{x y:UInt8}(h:x≠y): ¬((x.toNat:Int)=(y.toNat:Int)):=λe=>h (UInt8.toNat_inj.1 O)
theorem Pg{n:Nat}(Q:5000<=n){a:aR}(h:dy a=I):CC n (jW a)=Y (a,I):=by
 have hlen:=w5 h;have y:=EL h;have BU:=ahd h;have r:pW n 0=Y ⟨[0,0,0,0],0⟩:=by rfl
 unfold CC;refine bR (ah r (aS (λh=>bu h O) λ_=>?_));refine cK (λz:bo×Int×bq=> ∃pre l,mZ a=pre++l/\(z.1,z.2.1)=pre.foldl sP ([0,0,0,0],0)/\z.2.2=if pre=[] then pw l else ku l) (λz=>U z.2.2) ?_ n _ ⟨[],mZ a,rfl,rfl,by rw[bk rfl,LL h]⟩ Z;rintro A ⟨cs,k,rest⟩ ⟨pre,l,e,G,rfl⟩ W;dsimp only at G W⊢;have GO: ∀t∈pre,kb t:=λt V=>y t (by rw[e];exact q0 _ V);have X:=Uv (k:=0) (z:=([0,0,0,0],0)) ⟨rfl,λv=>by match v with|0=>decide|1=>decide|2=>decide|3=>decide|v+4=>simp[List.getD],by decide,by decide⟩ GO;rw[<-G] at X;have w:U pre+U l<=5:=by have:=aeF a;rw[e,ea] at this;exact this
 obtain⟨dQ,dG,fb,aot⟩:=X;dsimp only at dQ dG fb aot
 match l,e,W,w with
 | [],e,W,w=>
  have hp:pre≠[]:=by rintro rfl;exact SH a (by simpa using e)
  rw[bh hp];rw[jj] at e;rw[<-e,adF h] at G;simp only[Prod.mk.injEq] at G;obtain⟨rfl,rfl⟩:=G;refine fu (λdc=>bu rfl dc) λ_=>?_;refine bU (λz=>z=ao) (λj d=>?_) λz c=>by subst c;exact aJ rfl
  have f:=Ob (n:=n) Q a O;rw[h] at f;exact ah f (cx (ah (IV Q h) (d _ aZ)))
 |t::l,e,W,w=>
  have V:t∈mZ a:=by rw[e];simp
  have H:=y t V;have g: ∀x∈l,kb x:=λx hx=>y x (by rw[e];simp[hx]);have br:=Fo H;have m:=Ll H;have akq:=EV H;obtain⟨b0,ch⟩:=af8 H;have hrl:=RV g;have dc:=(BU t V).2;rw[nM] at w;have p:=Kd g;have s:=afR (l:=l);generalize pO:ku l=R at hrl p s;have o:(if pre=[] then pw (t::l) else ku (t::l))=(if t.2<0 then [45] else if pre=[] then [] else [43])++(j9 t.1 t.2++R):=by
   rw[<-pO];split<;>simp only[pw,ku]
  have q: ∀B dn,(B,dn)=sP (cs,k) t->cG (A (B,dn,R)) (λx=>x=(a,I)):=λB dn u=>by
   refine W _ ⟨pre++[t],l,by simp[e],?_,by rw[bh aZ,pO]⟩ ?_
   ·rw[List.foldl_append,<-G];exact u
   dsimp only;rw[o,ea,ea]
   have:0<U (j9 t.1 t.2):=List.length_pos_iff.2 m;omega
  rw[o];obtain⟨c1,c2⟩:=ahg H;have E:=aiZ H s p O;have M:gD (max t.2 (-t.2))=I:=by simp[gD];omega
  have akz:vu t.1 t.2=[]->max t.2 (-t.2)=1:=λh=>by
   unfold vu at h;split at h
   ·exact bu h (rQ M).2.2.2
   omega
  have N:vu t.1 t.2≠[]->vu t.1 t.2=eK (max t.2 (-t.2)):=λh=>by
   unfold vu at h⊢;split
   ·rfl
   rename_i mQ;rw[bh mQ] at h;exact bu rfl h
  obtain⟨i,aO,akV⟩:=afZ b0;have C:tV t.1=[]↔t.1=4:=by unfold tV;split<;>simp[*]
  have P:t.1≠4->U (tV t.1)=1:=λh=>by unfold tV;rw[bh h];rfl
  generalize tV t.1=W7 at c1 c2 aO C P;have hu:sP (cs,k) t=if t.1=4 then(cs,k+t.2) else(cs.set t.1 (cs.getD t.1 0+t.2),k):=rfl
  generalize j9 t.1 t.2=b at*;generalize vu t.1 t.2=dg at*;refine fu (λ_=>?_) λu=>bu u (by simp[m]);refine bU (λz=>z=(b++R,if t.2<0 then-1 else 1)) (λj d=>?_) λz c=>?_
  ·by_cases rv:t.2<0
   ·rw[bk rv] at d⊢;have r:aC ([45]++(b++R)) 0=Y 45:=rfl;refine bU (λz=>z=I) (λyP K=>ah r (aS (λ_=>K _ rfl) λ_=>K _ (by decide))) λz c=>?_;subst c;refine cB (bU (λz=>z= -1) (λB7 F=>ah r (aS (λ_=>F _ rfl) λh=>bu (by decide) h)) λz c=>?_);subst c;exact ah (ME 45 (b++R)) (d _ rfl)
   rw[bh rv] at d⊢;by_cases hp:pre=[]
   ·rw[bk hp];obtain⟨S,iG,rfl⟩:=List.exists_cons_of_ne_nil m;have r:aC ([]++(S::iG++R)) 0=Y S:=rfl;have L:=akq S fi;have n1: ¬((S.toNat:Int)=43):=SG L.2.1;have n2: ¬((S.toNat:Int)=45):=SG L.2.2.1;refine bU (λz=>z=ao) (λyP K=>ah r (aS (λh=>bu h n1) λ_=>K _ (by simpa using n2))) λz c=>?_;subst c;exact cx (d _ rfl)
   rw[bh hp];have r:aC ([43]++(b++R)) 0=Y 43:=rfl;refine bU (λz=>z=I) (λyP K=>ah r (aS (λ_=>K _ rfl) λh=>bu (by decide) h)) λz c=>?_;subst c;refine cB (bU (λz=>z=1) (λB7 F=>ah r (aS (λh=>bu h (by decide)) λ_=>F _ rfl)) λz c=>?_);subst c;exact ah (ME 43 (b++R)) (d _ rfl)
  subst c;dsimp only;refine ah E (bU (λz=>z=(U b:Int)) (λj d=>?_) λz c=>?_)
  ·by_cases L:R=[]
   ·rw[bk L];refine aS (λ_=>d _ ?_) λh=>bu h O;rw[L,jj]
   rw[bh L];exact aS (λh=>bu h O) λ_=>d _ rfl
  subst c;have s1:sub (b++R) 0 (U b:Int)=Y b:=by rw[g' O O (by rw[ea];omega)];simp
  have s2:sub (b++R) (U b:Int) (U (b++R):Int)=Y R:=by rw[g' O (by rw[ea];omega) O,eb,lO O,List.drop_left]
  refine ah s1 (ah s2 (ah (af5 c1) (bU (λz=>z=max t.2 (-t.2)) (λj d=>?_) λz c=>?_)))
  ·have t1:U (Lib.trimSuffix b W7)<=100000:=by have:=Lib.trimSuffix_le b W7;omega
   refine ah (SE O) (ah (SE t1) ?_);rw[c2];refine fu (λhne=>?_) λu=>d _ (akz u).symm;rw[N hne];exact ah (DE M) (cx (aS (λh=>by dsimp only at h;omega) λ_=>d _ rfl))
  subst c;have yv:wr ((if t.2<0 then-1 else 1)*max t.2 (-t.2))=t.2:=by
   have:(if t.2<0 then-1 else 1)*max t.2 (-t.2)=t.2:=by split<;>omega
   rw[this,bt O]
  refine ah aO ?_;rw[yv];by_cases T:t.1=4
  ·refine aS (λ_=>q _ _ ?_) λh=>bu (C.2 T) h;rw[hu,bk T,bt O]
  refine aS (λh=>bu (C.1 h) T) λ_=>?_;have tq:i=(t.1:Int):=akV O;subst tq;refine bU (λz=>z=I) (λj d=>aS (λ_=>d _ aZ) λh=>bu (by rw[P T];rfl) h) λz c=>?_;subst c;have ry:=dG t.1;have hx:cs[t.1]? =Y (cs.getD t.1 0):=by rw[fZ,bO O];rfl
  refine cB (ah (bF hx) (ah (eS O _) (q _ _ ?_)));rw[hu,bh T,bt O,eb]
end
section
def gK:List aR->bq
 | []=>[]
 | [a]=>jW a
 |a::b::_=>jW a++44::jW b
def qc(l:List aR):Prop:=(1<=U l/\(U l)<=2)/\ ∀a∈l,dy a=I
variable {l:List aR}{n:Nat}{c:UInt8}{p:bq}
theorem K7(h:qc l):(∃a,l=[a]/\dy a=I)\/ ∃a b,l=[a,b]/\dy a=I/\dy b=I:=by
 obtain⟨d,c⟩:=h
 match l,d,c with
 | [a],_,c=>exact .inl ⟨a,rfl,c a aZ⟩
 | [a,b],_,c=>exact .inr ⟨a,b,rfl,c a aZ,c b aZ⟩
def hK(x:UInt8):Prop:=x.toNat<128/\x≠32/\x≠10/\x≠93/\x≠125
theorem pb(h:qc l):(∀x∈gK l,hK x)/\(U (gK l))<=51/\gK l≠[]:=by
 have e: ∀{a},dy a=I-> ∀x∈jW a,hK x:=λc x d=>by have:=Fu c x d;exact⟨this.1,this.2.2⟩
 rcases K7 h with ⟨a,rfl,c⟩|⟨a,b,rfl,c,i⟩
 ·exact⟨e c,by have:=w5 c;simp only[gK];omega,aiz c⟩
 refine⟨λx d=>?_,by have:=w5 c;have:=w5 i;simp only[gK,fH,fP];omega,by simp[gK]⟩;simp only[gK,List.mem_append,List.mem_cons] at d;rcases d with d|rfl|d
 ·exact e c x d
 ·unfold hK;decide
 exact e i x d
theorem LK{a:aR}(h:dy a=I):(44:UInt8)∉jW a:=λc=>(Fu h _ c).2.1 rfl
theorem JB(r:5000<=n)(h:qc l):y1 n l=Y (gK l):=by
 obtain⟨m,d⟩:=h;have w:Ct (l.map jW) [44]=Y (gK l):=by
  have e:Lib.join (l.map jW) [44]=gK l:=by
   rcases K7 ⟨m,d⟩ with ⟨a,rfl,_⟩|⟨a,b,rfl,_,_⟩
   ·exact Lib.join_one _ _
   rw[si,Lib.join_cons];simp[Lib.joinTail,gK]
  unfold Ct;rw[bk ⟨bV,by rw[e];have:=(pb ⟨m,d⟩).2.1;omega⟩,e]
 unfold y1;refine bR (cK (λz:gS×Int=> ∃j:Nat,z.2=j/\j<=U l/\z.1=(l.take j).map jW) (λz=>U l-z.2.toNat) ?_ n _ ⟨0,rfl,O,rfl⟩ Z);rintro k ⟨o,i⟩ ⟨j,rfl,x,rfl⟩ y;dsimp only;refine aS (λc=>?_) λA=>?_
 ·have c:j<U l:=O
  have q:=bO c;refine ah (bF q) (ah (IV r (d _ (gd c))) (ah (dO bV) ?_));rw[bt O];refine y _ ⟨j+1,aZ,c,?_⟩ Z;dsimp only;rw[fs,q,jl];rfl
 rw[show j=U l by omega,eB];exact ah w (aJ rfl)
theorem agm(h:qc l):ma (gK l) [44]=Y (l.map jW):=by
 rw[zm 44 (by have:=(pb h).2.1;omega)];rcases K7 h with ⟨a,rfl,c⟩|⟨a,b,rfl,c,d⟩
 ·rw[gK,Ax (LK c)];rfl
 rw[gK,w4 _ (LK c),Ax (LK d)];rfl
theorem Jh(d:5000<=n)(h:qc l):yZ n (gK l)=Y (l,I):=by
 unfold yZ;refine bR (ah (agm h) ?_);obtain⟨y,e⟩:=h;refine cK (λz:List aR×Int=> ∃j:Nat,z.2=j/\j<=U l/\z.1=l.take j) (λz=>U l-z.2.toNat) ?_ n _ ⟨0,rfl,O,rfl⟩ Z;rintro c ⟨o,i⟩ ⟨j,rfl,k,rfl⟩ m;dsimp only;rw[er];refine aS (λa=>?_) λq=>?_
 ·have a:j<U l:=O
  have r:(l.map jW)[j]? =Y (jW l[j]):=by rw[fG,bO a];rfl
  refine ah (bF r) (ah (Pg d (e _ (gd a))) ?_);refine bU (λz=>z=ao) (λA w=>cx (w _ (by rw[dW];simp;omega))) λz x=>?_;subst x;refine cx (ah (dO bV) ?_);rw[bt O];refine m _ ⟨j+1,aZ,a,?_⟩ Z;dsimp only;rw[fs,bO a];simp
 rw[show j=U l by omega,eB];exact aJ rfl
theorem S5{c:UInt8}: ∀{p:bq} (q:bq),c∉p->Lib.index (p++c::q) [c]=(U p:Int)
 | [],q,_=>by simp[Lib.index]
 |x::p,q,h=>by have a:=S5 q λd=>h (eT _ d);have i: ¬c=x:=λe=>h (by rw[e];exact fi);rw[De,Lib.index,a,bh (by simp[i]),bh aZ];simp
theorem S4{c:UInt8}: ∀{p:bq},c∉p->Lib.index p [c]= -1
 | [],_=>by simp[Lib.index]
 |x::p,h=>by have a:Lib.index p [c]= -1:=S4 λd=>h (eT _ d);have i: ¬c=x:=λe=>h (by rw[e];exact fi);rw[Lib.index,a,bh (by simp[i])];simp
theorem Le{q:bq}(h:c∉p)(a:U p+U q<=1000000):pZ (p++c::q) [c]=Y (p,q,I):=by unfold pZ Lib.cut;rw[bk bV,S5 q h,bk O];simp
theorem Fz(h:c∉p)(a:U p<=1000000):pZ p [c]=Y (p,[],ao):=by unfold pZ Lib.cut;rw[bk O,S4 h,bh O]
end
section
def np(a:dr):bq:=a.ew++91::(gK a.b7++[93])
variable {a:dr}{d:Int}{n:Nat}{b:UInt8}{s q:bq}
theorem xy(h:gh a d=I):qc a.b7/\ ∃b:UInt8,a.ew=[b]/\65<=b.toNat/\b.toNat<=68:=by
 simp only[gh,cJ,decide_eq_true_eq,hP] at h;obtain⟨c,e,i⟩:=h;refine⟨⟨i,λx k=>?_⟩,?_⟩
 ·have:=c x k;simp only[gl,cJ] at this
  grind
 unfold t8 at e
 grind
theorem K8(h:gh a d=I):U (np a)<=54:=by
 obtain⟨c,b,e,_⟩:=xy h
 have:=(pb c).2.1;simp[np,e];omega
theorem RA(i:5000<=n)(h:gh a d=I):CI n a=Y (np a):=by obtain⟨c,b,e,_⟩:=xy h;have dm:=(pb c).2.1;unfold CI;refine bR (ah (fA (by rw[e];simp)) (ah (JB i c) (ah (fA (by rw[e];simp;omega)) (ah (fA (by rw[e];simp;omega)) (aJ ?_)))));simp[np]
theorem La(n:Nat):yY n ⟨b::s,ao⟩=Y b:=rfl
theorem A2(n:Nat)(h:b.toNat≠0):tJ n ⟨b::s,ao⟩=Y (b,⟨s,ao⟩):=by unfold tJ;exact bR (ah (La n) (aS (λe=>bu e O) λ_=>ah (ME b s) (aJ rfl)))
theorem Li(n:Nat)(h:b.toNat≠0):yX n ⟨b::s,ao⟩ b=Y ⟨s,ao⟩:=by unfold yX;exact bR (ah (A2 n h) (fu (λe=>bu rfl e) λ_=>aJ rfl))
theorem Ue(n:Nat){p:bq}(h:b∉p)(a:U p+U q<=1000000):Cz n ⟨p++b::q,ao⟩ b=Y (p,⟨q,ao⟩):=by unfold Cz;dsimp only;rw[Le h a];rfl
theorem St(k:5000<=n)(h:gh a d=I)(o:U q<=100000):Cd n ⟨np a++q,ao⟩=Y (a,⟨q,ao⟩):=by
 obtain⟨i,b,e,w⟩:=xy h;obtain⟨l,x,_⟩:=pb i;have m:np a++q=b::91::(gK a.b7++93::q):=by simp[np,e]
 unfold Cd;rw[m];refine bR (ah (A2 n O) (ah (Li n (by decide)) (ah (Ue n (λc=>(l _ c).2.2.2.1 rfl) O) (ah (Jh k i) ?_))));refine xm (r:=((⟨[b],a.b7⟩:dr),(⟨q,ao⟩:lo))) rfl ?_;obtain⟨y,z⟩:=a
 grind
def fc(e:bW)(i:Nat):bW:=e.bS.getD i default
def lh:Nat->bW->bq
 |0,_=>[]
 |L+1,e=>if e.aU=1 then eK e.cA else if e.aU=2 then 123::(jW e.dp++[125]) else if e.aU=3 then np e.dL
  else 40::(lh L (fc e 0)++([43,45,42].getD (e.aU-4).toNat 0::(lh L (fc e 1)++[41])))
theorem FO{L:Nat}{e:bW}(h:dZ (L+1) e d=I):
  (e=⟨1,e.cA,⟨[],0⟩,⟨[],[]⟩,[]⟩/\0<=e.cA/\e.cA<=99)\/(e=⟨2,0,e.dp,⟨[],[]⟩,[]⟩/\dy e.dp=I)\/(e=⟨3,0,⟨[],0⟩,e.dL,[]⟩/\gh e.dL d=I)\/
  (∃(k:Int) (x y:bW),(k=4\/k=5\/k=6)/\e=⟨k,0,⟨[],0⟩,⟨[],[]⟩,[x,y]⟩/\dZ L x d=I/\dZ L y d=I):=by
 rw[dZ] at h;simp only[cJ,decide_eq_true_eq,hP] at h;obtain⟨m,l,o⟩:=h;obtain⟨k,num,aC,rd,i⟩:=e;dsimp only at*;have q: ∀{a:aR},j8 a=I->a=⟨[],0⟩:=fun {a} h=>by
  obtain⟨c,k⟩:=a;simp[j8] at h;simp[h]
 have r: ∀{a:dr},lj a=I->a=⟨[],[]⟩:=fun {a} h=>by
  obtain⟨c,k⟩:=a;simp[lj] at h;simp[h]
 by_cases w:k=1
 ·subst w;have n:i=[]:=Da.1 (by simp[gJ] at m;omega);simp only[fE] at l
  grind
 by_cases z:k=2
 ·subst z;have n:i=[]:=Da.1 (by simp[gJ] at m;omega);simp[fE,gl] at l
  grind
 by_cases A:k=3
 ·subst A;have n:i=[]:=Da.1 (by simp[gJ] at m;omega);simp[fE] at l
  grind
 have n:(k=4\/k=5\/k=6)/\(U i)=2:=by
  unfold gJ at m;rw[bh O] at m;split at m<;>omega
 simp[fE,w,z,A] at l
 match i,n.2,o with
 | [x,y],_,o=>exact .inr (.inr (.inr ⟨k,x,y,n.1,by rw[q l.2.1,r l.2.2,l.1],o x aZ,o y aZ⟩))
end
theorem Be{v:Int}(h:0<=v/\v<=99):(∀x∈eK v,48<=x.toNat/\x.toNat<=57)/\1<=U (eK v)/\(U (eK v))<=2:=by
 have a:=FW (P:=λv=>decide (v<0)||((eK v).all (λx=>decide (48<=x.toNat/\x.toNat<=57))&&ak (1<=U (eK v)/\(U (eK v))<=2))) (by decide+kernel) (v:=v) (by simp[gD];omega)
 grind
theorem ua: ∀(L:Nat) (e:bW) (d:Int),dZ L e d=I->U (lh L e)+3<=57*2^(L-1)
 |0,e,d,h=>by simp[dZ] at h
 |L+1,e,d,h=>by
  have o:1<=2^L:=Nat.one_le_two_pow;rw[lh,Nat.add_sub_cancel];rcases FO h with ⟨a,c⟩|⟨a,c⟩|⟨a,c⟩|⟨k,x,y,q,a,i,l⟩
  ·rw[a,bk rfl];have:=(Be c).2.2;dsimp only;omega
  ·rw[a,bh aZ,bk rfl];have:=w5 c;simp only[fP,fH,ho];omega
  ·rw[a,bh aZ,bh aZ,bk rfl];have:=K8 c;dsimp only;omega
  have m:=ua L x d i;have n:=ua L y d l
  match L,i with
  |L+1,_=>
   rw[Nat.add_sub_cancel] at m n;rw[Nat.pow_succ];rw[a,bh Z,bh Z,bh Z];simp only[fc,List.getD_cons_zero,List.getD_cons_succ,fP,fH,ho];omega
theorem Ur{k:Int}(h:k=4\/k=5\/k=6):sub [43,45,42] (wr (k-4)) (wr (wr (k-4)+1))=Y [([43,45,42]:bq).getD (k-4).toNat 0]/\Hb [43,45,42] (([43,45,42]:bq).getD (k-4).toNat 0)=Y (k-4)/\(([43,45,42]:bq).getD (k-4).toNat 0).toNat≠0/\ ¬(48<=(([43,45,42]:bq).getD (k-4).toNat 0).toNat/\(([43,45,42]:bq).getD (k-4).toNat 0).toNat<=57):=by rcases h with rfl|rfl|rfl<;>exact⟨by decide+kernel,by decide+kernel,by decide,by decide⟩
theorem Jq{d:Int}: ∀(L n:Nat) (e:bW),5000+L<=n->L<=5->dZ L e d=I->tB n e=Y (lh L e)
 |0,n,e,_,_,h=>by simp[dZ] at h
 |L+1,0,e,o,_,_=>O
 |L+1,n+1,e,o,B,h=>by
  have a:=ua (L+1) e d h;rw[Nat.add_sub_cancel] at a;have q:2^L<=2^5:=Nat.pow_le_pow_right O O;rw[lh] at a⊢;unfold tB;rcases FO h with ⟨c,i⟩|⟨c,i⟩|⟨c,i⟩|⟨k,x,y,r,c,l,m⟩
  ·rw[c,bk rfl];exact bR (aS (λ_=>ah (FA i) (aJ rfl)) λh=>bu rfl h)
  ·rw[c,bh aZ,bk rfl]
   have:=w5 i;exact bR (aS (λh=>bu h aZ) λ_=>aS (λ_=>ah (IV O i) (ah (fA bV) (ah (fA bV) (aJ rfl)))) λh=>bu rfl h)
  ·rw[c,bh aZ,bh aZ,bk rfl];exact bR (aS (λh=>bu h aZ) λ_=>aS (λh=>bu h aZ) λ_=>aS (λ_=>ah (RA O i) (aJ rfl)) λh=>bu rfl h)
  have w:=Jq L n x O O l;have z:=Jq L n y O O m;have C:=ua L x d l;have F:=ua L y d m;have A:2^(L-1)<=2^5:=Nat.pow_le_pow_right O O;rw[c,bh Z,bh Z,bh Z];simp only[fc,List.getD_cons_zero,List.getD_cons_succ];refine bR (aS (λh=>O) λ_=>aS (λh=>O) λ_=>aS (λh=>O) λ_=>?_);refine ah (x:=x) rfl (ah w (ah (fA bV) (ah (Ur r).1 (ah (fA bV) (ah (x:=y) rfl (ah z (ah (fA bV) (ah (fA bV) (aJ ?_)))))))));simp
def Vs(q:bq):Prop:= ∀b,q.head? =Y b-> ¬(48<=b.toNat/\b.toNat<=57)
theorem ahZ{n:Nat}(K:1000<=n){v:Int}(A:0<=v/\v<=99){q:bq}(L:U q<=100000)(cN:Vs q){F:Int->aL (bW×lo)}{Q:bW×lo->Prop}(k:cG (F (U (eK v):Int)) Q):
  cG (bH (λc (e:Int)=>bl (fun(o:Bool)=>bif o then c (wr (e+1)) else F e) (λl=>
   bif ak (e<(U (eK v++q):Int)) then(bif ak (e<3) then(ad (aC (eK v++q) e) λy=>bif ak ((48:Int)<=(y.toNat:Int)) then l (ak ((y.toNat:Int)<=57)) else l ao) else l ao) else l ao)) n 0) Q:=by
 obtain⟨B,R,W⟩:=Be A;generalize eK v=w at*;refine cK (λz:Int=> ∃j:Nat,z=j/\j<=U w) (λz=>U w-z.toNat) ?_ n _ ⟨0,rfl,O⟩ O;rintro r i ⟨j,rfl,X⟩ C;refine bU (λz=>z=ak (j<U w)) (λf d=>?_) λz G=>?_
 ·by_cases a:j<U w
  ·have x:(w++q)[j]? =Y w[j]:=by rw[ll a,bO a]
   have cN:=B _ (gd a);refine aS (λ_=>aS (λ_=>ah (bF x) (aS (λ_=>d _ ?_) λh=>bu h O)) λh=>bu h O) (λh=>bu h (by rw[ea];omega))
   grind
  have H:ak (j<U w)=ao:=cc a;rw[H] at d;refine aS (λm=>aS (λ_=>?_) λh=>d _ rfl) (λh=>d _ rfl)
  match q,cN,m with
  | [],_,m=>exact bu m (by rw[jj];omega)
  |b::q,cN,m=>
   have x:(w++b::q)[j]? =Y b:=by rw[lk O,show j-U w=0 by omega];rfl
   have:=cN b rfl;exact ah (bF x) (aS (λg=>d _ (cc O)) λh=>d _ rfl)
 subst G;by_cases a:j<U w
 ·rw[cj a];refine C _ ⟨j+1,by rw[bt O];rfl,a⟩ (by rw[bt O];omega)
 rw[cc a,show j=U w by omega];exact k
theorem Jg{d:Int}: ∀(L n:Nat) (e:bW) (a:Int) (q:bq),5000+L<=n->1<=a->a+L<=6->dZ L e d=I->U (lh L e++q)<=60000->Vs q->tD n ⟨lh L e++q,ao⟩ a=Y (e,⟨q,ao⟩)
 |0,n,e,_,q,_,_,_,h,_,_=>by simp[dZ] at h
 |L+1,0,e,_,q,p,_,_,_,_,_=>O
 |L+1,n+1,e,a,q,p,s,cN,h,B,G=>by
  unfold tD;refine bR (bU (λz=>z=ao) (λj i=>aS (λh=>bu h O) λ_=>i _ rfl) λz m=>?_);subst m;dsimp only;have t:U q<=60000:=by rw[ea] at B;omega
  rw[lh] at B⊢;rcases FO h with ⟨l,o⟩|⟨l,o⟩|⟨l,o⟩|⟨k,x,y,u,l,v,E⟩
  ·have c:e.aU=1:=by rw[l]
   rw[bk c];obtain⟨M,Q,Xa⟩:=Be o;obtain⟨R,w,W⟩:=List.exists_cons_of_ne_nil (show eK e.cA≠[] by rintro h;rw[h] at Q;simp at Q);have N:=M R (by rw[W];simp);have A:yY n ⟨eK e.cA++q,ao⟩=Y R:=by rw[W];rfl
   refine ah A (aS (λh=>bu h O) λ_=>?_);refine bU (λz=>z=I) (λj i=>aS (λ_=>i _ (cj O)) λh=>bu h O) λz m=>?_;subst m;refine cB (ahZ O o O G ?_);have H:gD e.cA=I:=by simp[gD];omega
   have P:sub (eK e.cA++q) 0 (U (eK e.cA):Int)=Y (eK e.cA):=by rw[g' O O (by rw[ea];omega)];simp
   have S:sub (eK e.cA++q) (U (eK e.cA):Int) (U (eK e.cA++q):Int)=Y q:=by rw[g' O (by rw[ea];omega) O,eb,lO O,List.drop_left]
   exact ah P (ah (DE H) (cx (ah S (aJ (by rw[<-l])))))
  ·have c:e.aU=2:=by rw[l]
   rw[bh O,bk c,De];have dm:=w5 o;have hm:=Fu o;refine ah (La n) (aS (λh=>bu h (by decide)) λ_=>?_);refine bU (λz=>z=ao) (λj i=>aS (λ_=>i _ (by decide)) λh=>i _ rfl) λz m=>?_;subst m;refine cx (aS (λ_=>?_) λh=>bu (by decide) h);rw[hM,List.singleton_append];refine ah (A2 n (by decide)) (ah (Ue n (λK=>(hm _ K).2.2.2.2.2 rfl) O) (ah (Pg O o) ?_));exact xm (r:=(⟨2,0,e.dp,⟨[],[]⟩,[]⟩,⟨q,ao⟩)) rfl (by rw[<-l])
  ·have c:e.aU=3:=by rw[l]
   rw[bh O,bh O,bk c];obtain⟨_,b,T,C⟩:=xy o;have A:yY n ⟨np e.dL++q,ao⟩=Y b:=by rw[np,T];rfl
   refine ah A (aS (λh=>bu h O) λ_=>?_);refine bU (λz=>z=ao) (λj i=>aS (λ_=>i _ (cc O)) λh=>i _ rfl) λz m=>?_;subst m;refine cx (aS (λh=>bu h O) λ_=>aS (λh=>bu h O) λ_=>?_);exact ah (St O o O) (aJ (by rw[<-l]))
  have c:e.aU=k:=by rw[l]
  have F:fc e 0=x/\fc e 1=y:=by rw[l];exact⟨rfl,rfl⟩
  rw[bh O,bh O,bh O,F.1,F.2,c] at B⊢;obtain⟨_,X,f,g⟩:=Ur u;generalize ([43,45,42]:bq).getD (k-4).toNat 0=H0 at X f g B⊢;have V:40::(lh L x++(H0::(lh L y++[41])))++q=40::(lh L x++(H0::(lh L y++(41::q)))):=aZ
  rw[V] at B⊢;simp only[fP,fH] at B;have i1:=Jg L n x (wr (a+1)) (H0::(lh L y++(41::q))) O (by rw[bt O];omega) (by rw[bt O];omega) v (by simp only[fP,fH];omega) λb C=>by simp at C;subst C;exact g
  have i2:=Jg L n y (wr (a+1)) (41::q) O (by rw[bt O];omega) (by rw[bt O];omega) E (by simp only[fP,fH];omega) λb C=>by simp at C;subst C;decide
  refine ah (La n) (aS (λh=>bu h (by decide)) λ_=>?_);refine bU (λz=>z=ao) (λj i=>aS (λh=>bu h (by decide)) λh=>i _ rfl) λz m=>?_;subst m;refine cx (aS (λh=>bu h (by decide)) λ_=>aS (λ_=>?_) λh=>bu (by decide) h);refine ah (A2 n (by decide)) (ah i1 (ah (A2 n f) (ah X (ah i2 (ah (Li n (by decide)) ?_)))));refine bU (λz=>z=ao) (λj i=>i _ (cc O)) λz m=>?_;subst m;refine aJ ?_;rw[bt O,show 4+(k-4)=k by omega,<-l]
section
variable {d b:Int}{s:cT}{n:Nat}{l:b4}
theorem Ss{a:aR}(h:gl a d=I)(c:d<=b):gl a b=I:=by
 simp only[gl,cJ,decide_eq_true_eq] at h⊢
 grind
theorem UN{a:dr}(h:gh a d=I)(c:d<=b):gh a b=I:=by simp only[gh,cJ,hP] at h⊢;exact⟨λx e=>Ss (h.1 x e) c,h.2⟩
theorem Us{d a:Int}(l:d<=a): ∀{L:Nat} {e:bW},dZ L e d=I->dZ L e a=I
 |0,e,h=>by simp[dZ] at h
 |L+1,e,h=>by
  rw[dZ] at h⊢;simp only[cJ,decide_eq_true_eq,hP] at h⊢;refine⟨h.1,?_,λk i=>Us l (h.2.2 k i)⟩;have c:=h.2.1;unfold fE at c⊢;split
  ·rename_i i;rw[bk i] at c;simp only[cJ] at c⊢;exact⟨c.1,c.2.1,Ss c.2.2 l⟩
  rename_i i;rw[bh i] at c;split
  ·rename_i i;rw[bk i] at c;simp only[cJ] at c⊢;exact⟨c.1,c.2.1,UN c.2.2 l⟩
  rename_i i;rw[bh i] at c;exact c
def iz(s:cT):bq:=np s.dI++61::lh 5 s.cz
theorem AH(h:ff s d=I):gh s.dI d=I/\dZ 5 s.cz d=I/\ff s 4=I:=by simp only[ff,cJ,decide_eq_true_eq] at h⊢;exact⟨h.2.1,h.2.2.1,O,UN h.2.1 O,Us O h.2.2.1,h.2.2.2⟩
theorem zH(h:ff s d=I):U (iz s)<=964:=by
 obtain⟨a,c,_⟩:=AH h
 have:=K8 a
 have:=ua 5 _ _ c;simp[iz];omega
theorem Qu(e:6000<=n)(h:ff s d=I):Dt n s=Y (iz s):=by obtain⟨a,c,_⟩:=AH h;have i:=K8 a;have k:=ua 5 _ _ c;unfold Dt;exact bR (ah (RA O a) (ah (fA bV) (ah (Jq 5 n _ O O c) (ah (fA bV) (aJ (by simp[iz]))))))
theorem abo(a:6000<=n)(i:sF s)(h:ff s d=I):IF n (iz s)=Y (s,I):=by
 obtain⟨k,c,l⟩:=AH h;have dm:=zH h;have m:EW n s=Y I:=by
  unfold EW;rw[Pk a i 4,l];rfl
 unfold IF;refine bR (aS (λh=>bu h O) λ_=>?_);have e:U (61::lh 5 s.cz)<=100000:=by unfold iz at dm;rw[ea] at dm;omega
 refine ah (St O k e) (ah (Li n (by decide)) ?_);have cC:=Jg 5 n s.cz 1 [] O O O c (by rw[jj];rw[nM] at e;have:=ua 5 _ _ c;omega) λb o=>by simp at o
 rw[jj] at cC;refine ah cC (bU (λz=>z=ao) (λj q=>cx (fu (λh=>bu rfl h) λ_=>ah m (cx (ah (Qu a h) (q _ aZ))))) λz r=>?_);subst r;exact cx (aJ rfl)
def il(l:b4):bq:=[102,111,114,32]++(gK l.bD++32::gK l.aO)
def xF(l:b4):Prop:=qc l.bD/\qc l.aO
theorem Ft{l:List aR}(h:qc l):(32:UInt8)∉gK l/\(10:UInt8)∉gK l:=⟨λa=>((pb h).1 _ a).2.1 rfl,λa=>((pb h).1 _ a).2.2.1 rfl⟩
theorem zu(h:xF l):U (il l)<=107:=by
 have:=(pb h.1).2.1
 have:=(pb h.2).2.1;simp[il];omega
theorem acw(a:5000<=n)(h:xF l):DU n (il l)=Y (l,I):=by
 have c:ma (il l) [32]=Y [[102,111,114],gK l.bD,gK l.aO]:=by
  rw[zm 32 (by have:=zu h;omega)];rw[show il l=[102,111,114]++32::(gK l.bD++32::gK l.aO) from rfl,w4 _ (by decide),w4 _ (Ft h.1).1,Ax (Ft h.2).1]
 unfold DU;refine bR (ah c (bU (λz=>z=ao) (λj d=>fu (λh=>bu rfl h) λ_=>ah (x:=[102,111,114]) rfl (d _ aZ)) λz e=>?_));subst e;exact cx (ah (x:=gK l.bD) rfl (ah (Jh a h.1) (ah (x:=gK l.aO) rfl (ah (Jh a h.2) (xm (r:=(l,I)) rfl rfl)))))
def e3(l:gS):bq:=(l.map λx=>x++[10]).flatten
theorem lu(a b:gS):e3 (a++b)=e3 a++e3 b:=by simp[e3]
theorem wo{k:Nat}: ∀{l:gS},(∀x∈l,U x<=k)->U (e3 l)<=(k+1)*U l
 | [],_=>by simp[e3]
 |x::l,h=>by have c:=wo (show∀y∈l,U y<=k from λy a=>h y (eT _ a));have d:=h x fi;rw[show x::l=[x]++l from rfl,lu,ea,ea,Nat.mul_add];simp only[e3,jn,List.map_nil,List.flatten_cons,List.flatten_nil,List.append_nil,fH,fP,ho] at*;omega
theorem acA(e:5000<=n){q:List b4}(m:U q<=4)(h: ∀l∈q,xF l):DV n q=Y (e3 (q.map il)):=by
 have r: ∀j,U (e3 ((q.take j).map il))<=432:=λj=>by
  have:=wo (k:=107) (l:=(q.take j).map il) (λx c=>by
   obtain⟨l,m,rfl⟩:=fh.1 c;exact zu (h l (hi m)))
  grind
 unfold DV;refine bR (cK (λz:bq×Int=> ∃j:Nat,z.2=j/\j<=U q/\z.1=e3 ((q.take j).map il)) (λz=>U q-z.2.toNat) ?_ n _ ⟨0,rfl,O,rfl⟩ Z);rintro d ⟨o,i⟩ ⟨j,rfl,w,rfl⟩ y;dsimp only;refine aS (λa=>?_) λA=>?_
 ·have a:j<U q:=O
  have c:=bO a;have eI:=h _ (gd a);have dQ:=(pb eI.1).2.1;have dG:=(pb eI.2).2.1;have B:=r j;refine ah (bF c) (ah (JB e eI.1) (ah (fA (by simp only[fP,ho];omega)) (ah (fA (by simp only[fH,fP,ho];omega)) (ah (JB e eI.2) (ah (fA (by simp only[fH,fP,ho];omega)) (ah (fA (by simp only[fH,fP,ho];omega)) (ah (fA (by simp only[fH,fP,ho];omega)) ?_)))))));rw[bt O];refine y _ ⟨j+1,aZ,a,?_⟩ Z;dsimp only;rw[fs,c,jl,lu];simp[e3,il]
 rw[show j=U q by omega,eB];exact aJ rfl
end
section
def jm(a:de):bq:=[97,114,114,97,121,32]++(a.ed++(a.cr.map λd=>32::eK d).flatten)
def x8(a:de):Prop:=(∃b:UInt8,a.ed=[b]/\65<=b.toNat/\b.toNat<=68)/\(1<=U a.cr/\(U a.cr)<=2)/\ ∀d∈a.cr,1<=d/\d<=6
def vf(x:cq):Prop:=(U x.a6<=4/\ ∀l∈x.a6,xF l)/\(U x.a')<=4/\ ∀s∈x.a',sF s/\ff s (U x.a6:Int)=I
def qj(p:bx):Prop:=(U p.a7<=4/\ ∀a∈p.a7,x8 a)/\(U p.aq)<=4/\ ∀x∈p.aq,vf x
variable {d:Int}{p:bx}
theorem SP{l:List aR}(h:gP l d=I):qc l:=by
 simp only[gP,cJ,decide_eq_true_eq,hP] at h;refine⟨h.2,λa c=>?_⟩
 have:=h.1 a c;simp only[gl,cJ] at this
 grind
theorem xu(d:kW p)(h:cS p=I):qj p:=by
 simp only[cS,lL,lb,cJ,decide_eq_true_eq,hP] at h;obtain⟨⟨⟨r,w⟩,y,z⟩,_⟩:=h;refine⟨⟨w,λa A=>?_⟩,y,λx c=>?_⟩
 ·obtain⟨i,m,c⟩:=List.getElem_of_mem A
  have:=DT r (bO m);rw[c] at this;simp only[pJ,lD,cJ,decide_eq_true_eq,hP] at this;obtain⟨n,_,e,k⟩:=this;refine⟨?_,?_,?_⟩
  ·unfold t8 at n
   grind
  ·first|exact e|exact k
  first|exact k|exact e
 obtain⟨n,e,k,_⟩:=ix (z x c);have o:=d.2.2 x c;have q:me x.a6=I:=by
  unfold lq at n
  grind
 simp only[me,cJ,decide_eq_true_eq] at q;refine⟨⟨q.2,λl B=>?_⟩,e.2,λs d=>⟨o.2.2 s d,k s d⟩⟩;obtain⟨i,m,c⟩:=List.getElem_of_mem B
 have:=DT q.1 (bO m);rw[c] at this;simp only[cJ] at this;exact⟨SP this.1,SP this.2⟩
def ml(x:cq):gS:=[112,97,114,116]::(x.a6.map il++x.a'.map iz)
def hD(p:bx):gS:=p.a7.map jm++(p.aq.map ml).flatten
def jO:bq:=[112,114,111,103,114,97,109,10]
def ia(p:bx):bq:=jO++e3 (hD p)
theorem sK(h:1<=d/\d<=6):U (eK d)<=2/\(32:UInt8)∉eK d/\(10:UInt8)∉eK d:=by
 have:=Be (v:=d) O
 grind
theorem K4{a:de}(h:x8 a):U (jm a)<=13:=by
 obtain⟨⟨b,e,_⟩,d,c⟩:=h;rw[jm,e]
 match i:a.cr,d,c with
 | [x],_,c=>have:=(sK (c x aZ)).1;simp;omega
 | [x,y],_,c=>have:=(sK (c x aZ)).1;have:=(sK (c y aZ)).1;simp;omega
theorem aet{x:cq}(h:vf x):U (e3 (ml x))<=4297:=by
 obtain⟨⟨o,d⟩,q,i⟩:=h;have m:=wo (k:=107) (l:=x.a6.map il) λy a=>by obtain⟨l,c,rfl⟩:=fh.1 a;exact zu (d l c)
 have n:=wo (k:=964) (l:=x.a'.map iz) λy a=>by obtain⟨l,c,rfl⟩:=fh.1 a;exact zH (i l c).2
 rw[er] at m n;have e:e3 (ml x)=[112,97,114,116,10]++(e3 (x.a6.map il)++e3 (x.a'.map iz)):=by
  rw[ml,show [112,97,114,116]::(x.a6.map il++x.a'.map iz)=[[112,97,114,116]]++(x.a6.map il++x.a'.map iz) from rfl,lu,lu];rfl
 grind
theorem Kg: ∀{l:List cq},(∀x∈l,vf x)->U (e3 (l.map ml).flatten)<=4297*U l
 | [],_=>by simp[e3]
 |x::l,h=>by have c:=Kg (show∀y∈l,vf y from λy a=>h y (eT _ a));have d:=aet (h x fi);rw[si,zB,lu,ea,nM];omega
theorem Tt{l:List de}(h: ∀x∈l,x8 x):U (e3 (l.map jm))<=14*U l:=by
 have:=wo (k:=13) (l:=l.map jm) (λy c=>by obtain⟨a,d,rfl⟩:=fh.1 c;exact K4 (h a d))
 grind
theorem v6(h:qj p):U (ia p)<=17252:=by
 have a:=Tt h.1.2;have c:=Kg h.2.2
 have:=h.1.1
 have:=h.2.1;rw[ia,hD,lu,ea,ea];simp only[jO,fP,ho];omega
end
theorem EM{k R:Type}{l:List k}{f:k->R}{j:Nat}(h:j<U l):(l.take (j+1)).map f=(l.take j).map f++[f l[j]]:=by rw[fs,bO h,jl];rfl
theorem DQ(x:bq):e3 [x]=x++[10]:=by simp[e3]
theorem Oz{n:Nat}(dc:7000<=n){p:bx}(h:qj p):y0 n p=Y (ia p):=by
 obtain⟨⟨T,F⟩,V,G⟩:=h;have P: ∀j,U (e3 ((p.a7.take j).map jm))<=56:=λj=>by
  have:=Tt (l:=p.a7.take j) λx r=>F x (hi r);rw[dW] at this;omega
 have aov: ∀j,U (e3 ((p.aq.take j).map ml).flatten)<=17188:=λj=>by
  have:=Kg (l:=p.aq.take j) λx r=>G x (hi r);rw[dW] at this;omega
 unfold y0;refine bR (cK (λz:bq×Int=> ∃j:Nat,z.2=j/\j<=U p.a7/\z.1=jO++e3 ((p.a7.take j).map jm)) (λz=>U p.a7-z.2.toNat) ?_ n _ ⟨0,rfl,O,rfl⟩ Z);rintro B ⟨o,i⟩ ⟨j,rfl,hj,rfl⟩ W;dsimp only;refine aS (λq=>?_) λX=>?_
 ·have q:j<U p.a7:=O
  have r:=bO q;have br:=P j;have c:=W (jO++e3 ((p.a7.take (j+1)).map jm),wr ((j:Int)+1)) ⟨j+1,by rw[bt O];simp,q,rfl⟩ (by dsimp only;rw[bt O];omega);rw[EM q,lu,DQ] at c;have b0:=F _ (gd q);generalize e3 ((p.a7.take j).map jm)=o at br c⊢;generalize p.a7[j]=a at r b0 c;obtain⟨⟨b,w,_⟩,f,H⟩:=b0;have aou: ∀k,U ((a.cr.take k).map λd=>32::eK d).flatten<=6:=λk=>by
   match cN:a.cr,f,H with
   | [x],_,R=>have:=(sK (R x aZ)).1;match k with|0=>simp|k+1=>simp;omega
   | [x,y],_,R=>have:=(sK (R x aZ)).1;have:=(sK (R y aZ)).1;match k with|0=>simp|1=>simp;omega|k+2=>simp;omega
  refine ah (bF r) (ah (fA (by rw[w];simp)) (ah (fA (by rw[w];simp[jO];omega)) ?_));refine cK (λz:bq×Int=> ∃k:Nat,z.2=k/\k<=U a.cr/\z.1=jO++o++([97,114,114,97,121,32]++a.ed)++((a.cr.take k).map λd=>32::eK d).flatten) (λz=>U a.cr-z.2.toNat) ?_ n _ ⟨0,rfl,O,aZ⟩ Z;rintro A ⟨lF,i⟩ ⟨k,rfl,hk,rfl⟩ C;dsimp only;have g:=aou k;refine aS (λm=>?_) λK=>?_
  ·have m:k<U a.cr:=O
   have cN:=H _ (gd m);have s:=(sK cN).1;refine ah (bF (bO m)) (ah (FA O) (ah (fA bV) (ah (fA (by rw[w];simp only[jO,fH,fP,ho];omega)) ?_)));rw[bt O];refine C _ ⟨k+1,aZ,m,?_⟩ Z;dsimp only;rw[EM m,List.flatten_append];simp
  refine ah (fA (by rw[w];simp only[jO,fH,fP,ho];omega)) ?_;rw[show k=U a.cr by omega,eB];have e:jO++o++([97,114,114,97,121,32]++a.ed)++(a.cr.map λd=>32::eK d).flatten++[10]=jO++(o++(jm a++[10])):=by simp[jm]
  rw[e];exact c
 rw[show j=U p.a7 by omega,eB];have S:=P (U p.a7);rw[eB] at S;refine cK (λz:bq×Int=> ∃j:Nat,z.2=j/\j<=U p.aq/\z.1=jO++e3 (p.a7.map jm)++e3 ((p.aq.take j).map ml).flatten) (λz=>U p.aq-z.2.toNat) ?_ n _ ⟨0,rfl,O,by simp[e3]⟩ Z;rintro B ⟨o,i⟩ ⟨j,rfl,hj,rfl⟩ W;dsimp only;refine aS (λq=>?_) λX=>?_
 ·have q:j<U p.aq:=O
  have r:=bO q;have br:=aov j;have c:=W (jO++e3 (p.a7.map jm)++e3 ((p.aq.take (j+1)).map ml).flatten,wr ((j:Int)+1)) ⟨j+1,by rw[bt O];simp,q,rfl⟩ (by dsimp only;rw[bt O];omega);rw[EM q,List.flatten_append,lu] at c;have b0:=G _ (gd q);generalize e3 ((p.aq.take j).map ml).flatten=o at br c⊢;generalize e3 (p.a7.map jm)=t at S c⊢;generalize p.aq[j]=x at r b0 c;obtain⟨⟨u,L⟩,yB,Q⟩:=b0;have yb:=wo (k:=107) (l:=x.a6.map il) λy v=>by obtain⟨l,E,rfl⟩:=fh.1 v;exact zu (L l E)
  have s4: ∀k,U (e3 ((x.a'.take k).map iz))<=3860:=λk=>by
   have:=wo (k:=964) (l:=(x.a'.take k).map iz) λy v=>by obtain⟨l,E,rfl⟩:=fh.1 v;exact zH (Q l (hi E)).2
   rw[er,dW] at this;omega
  rw[er] at yb;refine ah (bF r) (ah (acA O u L) ?_);have M:e3 (ml x)=[112,97,114,116,10]++(e3 (x.a6.map il)++e3 (x.a'.map iz)):=by
   rw[ml,show [112,97,114,116]::(x.a6.map il++x.a'.map iz)=[[112,97,114,116]]++(x.a6.map il++x.a'.map iz) from rfl,lu,lu];rfl
  simp only[List.flatten_cons,List.flatten_nil,List.append_nil] at c;rw[M] at c;generalize e3 (x.a6.map il)=N at yb c⊢;refine ah (fA (by simp only[fP,ho];omega)) (ah (fA (by simp only[jO,fH,fP,ho];omega)) ?_);refine cK (λz:bq×Int=> ∃k:Nat,z.2=k/\k<=U x.a'/\z.1=jO++t++o++([112,97,114,116,10]++N)++e3 ((x.a'.take k).map iz)) (λz=>U x.a'-z.2.toNat) ?_ n _ ⟨0,rfl,O,by simp[e3]⟩ Z;rintro A ⟨lF,i⟩ ⟨k,rfl,hk,rfl⟩ C;dsimp only;have g:=s4 k;refine aS (λm=>?_) λK=>?_
  ·have m:k<U x.a':=O
   have cN:=Q _ (gd m);have s:=zH cN.2;refine ah (bF (bO m)) (ah (Qu O cN.2) (ah (fA (by simp only[fP,ho];omega)) (ah (fA (by simp only[jO,fH,fP,ho];omega)) ?_)));rw[bt O];refine C _ ⟨k+1,aZ,m,?_⟩ Z;dsimp only;rw[EM m,lu,DQ];simp
  rw[show k=U x.a' by omega,eB];have e:jO++t++o++([112,97,114,116,10]++N)++e3 (x.a'.map iz)=jO++t++(o++([112,97,114,116,10]++(N++e3 (x.a'.map iz)))):=aZ
  rw[e];exact c
 rw[show j=U p.aq by omega,eB];exact aJ (by rw[ia,hD,lu,hM])
section
theorem R5: ∀l:bo,(l.map λd=>32::eK d).flatten=tail l
 | []=>rfl
 |v::l=>by rw[si,zB,R5 l];rfl
def Hs(x:UInt8):Prop:=x≠32/\x≠10
theorem aiy{l:List aR}(h:qc l): ∀x∈gK l,Hs x:=λx a=>by have:=(pb h).1 x a;exact⟨this.2.1,this.2.2.1⟩
variable {d:Int}{s:cT}{n:Nat}{A:List de}{P:List cq}{x:cq}
theorem Vj{a:dr}(h:gh a d=I): ∀x∈np a,Hs x:=by
 obtain⟨k,b,e,i⟩:=xy h;intro x c;simp only[np,e,List.mem_append,List.mem_cons,List.not_mem_nil,or_false] at c;rcases c with rfl|rfl|c|rfl
 ·exact⟨by rintro rfl;simp at i,by rintro rfl;simp at i⟩
 ·exact⟨by decide,by decide⟩
 ·exact aiy k x c
 exact⟨by decide,by decide⟩
theorem LB{d:Int}: ∀{L:Nat} {e:bW},dZ L e d=I-> ∀x∈lh L e,Hs x
 |0,e,h=>by simp[dZ] at h
 |L+1,e,h=>by
  intro x a;rw[lh] at a;rcases FO h with ⟨i,l⟩|⟨i,l⟩|⟨i,l⟩|⟨k,u,y,n,i,o,q⟩
  ·rw[bk (by rw[i])] at a
   have:=(Be l).1 x a;exact⟨by rintro rfl;simp at this,by rintro rfl;simp at this⟩
  ·have c:e.aU=2:=by rw[i]
   rw[bh O,bk c] at a;simp only[List.mem_append,List.mem_cons,List.not_mem_nil,or_false] at a;rcases a with rfl|a|rfl
   ·exact⟨by decide,by decide⟩
   ·have:=Fu l x a;exact⟨this.2.2.1,this.2.2.2.1⟩
   exact⟨by decide,by decide⟩
  ·have c:e.aU=3:=by rw[i]
   rw[bh O,bh O,bk c] at a;exact Vj l x a
  have c:e.aU=k:=by rw[i]
  have m:fc e 0=u/\fc e 1=y:=by rw[i];exact⟨rfl,rfl⟩
  rw[bh O,bh O,bh O,m.1,m.2,c] at a;simp only[List.mem_append,List.mem_cons,List.not_mem_nil,or_false] at a;rcases a with rfl|a|a|a|rfl
  ·exact⟨by decide,by decide⟩
  ·exact LB o x a
  ·rcases n with rfl|rfl|rfl<;>subst a<;>exact⟨by decide,by decide⟩
  ·exact LB q x a
  exact⟨by decide,by decide⟩
theorem Up(h:ff s d=I): ∀x∈iz s,Hs x:=by
 obtain⟨c,e,_⟩:=AH h;intro x a;simp only[iz,List.mem_append,List.mem_cons] at a;rcases a with a|rfl|a
 ·exact Vj c x a
 ·exact⟨by decide,by decide⟩
 exact LB e x a
theorem SN(h:ff s d=I): ∃(b:UInt8) (r:bq),iz s=b::r/\65<=b.toNat/\b.toNat<=68:=by obtain⟨a,_,_⟩:=AH h;obtain⟨_,b,e,c⟩:=xy a;exact⟨b,_,by rw[iz,np,e];rfl,c⟩
theorem afM(X:7000<=n)(f:U A<4){a:de}(y:x8 a):pK n ⟨A,P⟩ (jm a)=Y (I,⟨A++[a],P⟩):=by
 have d:=K4 y;obtain⟨⟨b,e,B⟩,g,C⟩:=y;have l: ∀v∈a.cr,gD v=I:=λv F=>by have:=C v F;simp[gD];omega
 have m:(32:UInt8)∉[b]:=by simp;rintro rfl;simp at B
 have r:jm a=[97,114,114,97,121]++32::(a.ed++tail a.cr):=by rw[jm,R5];rfl
 have G:ma (jm a) [32]=Y ([97,114,114,97,121]::a.ed::a.cr.map eK):=by
  rw[zm 32 O,r,w4 _ (by decide),e,KR _ m l]
 have H:pZ (jm a) [32]=Y ([97,114,114,97,121],a.ed++tail a.cr,I):=by
  have p:U (a.ed++tail a.cr)<=100:=by rw[r] at d;simp at d ⊢; omega
  rw[r];exact Le (by decide) (by simp only[fP,ho];omega)
 unfold pK;refine bR (ah H (aS (λ_=>?_) λh=>bu rfl h));refine ah G (bU (λz=>z=ao) (λj K=>aS (λh=>by simp at h;omega) λ_=>aS (λh=>by simp at h;omega) λ_=>K _ bV) λz L=>?_);subst L;refine cx (ah (x:=a.ed) rfl ?_);have q:sub ([97,114,114,97,121]::a.ed::a.cr.map eK) 2 (U ([97,114,114,97,121]::a.ed::a.cr.map eK):Int)=Y (a.cr.map eK):=by
  rw[g' O bV O,eb,eB];rfl
 refine ah q ?_;refine cK (λz:bo×Int=> ∃k:Nat,z.2=k/\k<=U a.cr/\z.1=a.cr.take k) (λz=>U a.cr-z.2.toNat) ?_ n _ ⟨0,rfl,O,rfl⟩ Z;rintro w ⟨o,i⟩ ⟨k,rfl,s,rfl⟩ Q;dsimp only;rw[er];refine aS (λc=>?_) λR=>?_
 ·have c:k<U a.cr:=O
  have W:(a.cr.map eK)[k]? =Y (eK a.cr[k]):=by rw[fG,bO c];rfl
  refine ah (bF W) (ah (DE (l _ (gd c))) (cx (ah (dO bV) ?_)));rw[bt O];refine Q _ ⟨k+1,aZ,c,?_⟩ Z;dsimp only;rw[fs,bO c];rfl
 rw[show k=U a.cr by omega,eB];exact ah (dO bV) (aJ rfl)
theorem ahX(a:U P<4):pK n ⟨A,P⟩ [112,97,114,116]=Y (I,⟨A,P++[⟨[],[]⟩]⟩):=by unfold pK;refine bR (ah (Fz (by decide) (by decide)) (aS (λh=>bu h (by decide)) λ_=>aS (λ_=>?_) λh=>bu rfl h));refine ah (dO bV) (aJ ?_);rw[cj bV]
theorem T'(x:cq)(a:U P<4):wr ((U (P++[x]):Int)-1)=(U P:Int)/\aC (P++[x]) (U P:Int)=Y x/\ ∀y,cW (P++[x]) (U P:Int) y=Y (P++[y]):=by refine⟨by rw[bt bV];simp,bF aZ,λy=>?_⟩;rw[eS bV,eb,p6 _ _ O,pq];rfl
theorem ahY(r:7000<=n)(e:U P<4)(w:U x.a6<4){l:b4}(h:xF l):pK n ⟨A,P++[x]⟩ (il l)=Y (I,⟨A,P++[⟨x.a6++[l],x.a'⟩]⟩):=by
 obtain⟨i,c,k⟩:=T' x e;have a:=zu h;have m:pZ (il l) [32]=Y ([102,111,114],gK l.bD++32::gK l.aO,I):=by
  have d:il l=[102,111,114]++32::(gK l.bD++32::gK l.aO):=rfl;have y:U (gK l.bD++32::gK l.aO)<=200:=by rw[d] at a;simp at a ⊢; omega
  rw[d];exact Le (by decide) (by simp only[fP,ho];omega)
 unfold pK;refine bR (ah m (aS (λh=>bu h aZ) λ_=>aS (λh=>bu h aZ) λ_=>aS (λ_=>?_) λh=>bu rfl h));refine ah (acw O h) ?_;dsimp only;rw[i];refine bU (λz=>z=ao) (λj o=>cx (aS (λh=>bu h O) λ_=>ah c (o _ bV))) λz q=>?_;subst q;exact cx (ah c (ah (dO bV) (ah (k _) (aJ rfl))))
theorem ahW(F:7000<=n)(l:U P<4)(G:U x.a'<4)(m:sF s)(h:ff s d=I):pK n ⟨A,P++[x]⟩ (iz s)=Y (I,⟨A,P++[⟨x.a6,x.a'++[s]⟩]⟩):=by
 obtain⟨o,i,q⟩:=T' x l;have k:=zH h;obtain⟨b,r,e,H⟩:=SN h;have a: ∀{c:UInt8} {w:bq},97<=c.toNat->iz s≠c::w:=fun {c w} K L=>by
  grind
 unfold pK;refine bR (ah (Fz (λy=>(Up h _ y).1 rfl) O) (aS (λh=>bu h (a (by decide))) λ_=>aS (λh=>bu h (a (by decide))) λ_=>aS (λh=>bu h (a (by decide))) λ_=>?_));refine ah (abo O m h) ?_;dsimp only;rw[o];refine bU (λz=>z=ao) (λj B=>cx (aS (λh=>bu h O) λ_=>ah i (B _ bV))) λz C=>?_;subst C;exact cx (ah i (ah (dO bV) (ah (q _) (aJ rfl))))
end
section
def Rd(n:Nat):bx->gS->bx->Prop
 |p,[],q=>p=q
 |p,l::cD,q=> ∃a,pK n p l=Y (I,a)/\Rd n a cD q
theorem Rd.app{n:Nat}: ∀{a b:gS} {p q r:bx},Rd n p a q->Rd n q b r->Rd n p (a++b) r
 | [],b,p,q,r,c,d=>by rw[show p=q from c];exact d
 |l::a,b,p,q,r,⟨h,c,e⟩,d=>⟨h,c,Rd.app e d⟩
theorem TZ{n:Nat}(c:7000<=n){P:List cq}: ∀{l A:List de},U A+U l<=4->(∀a∈l,x8 a)->Rd n ⟨A,P⟩ (l.map jm) ⟨A++l,P⟩
 | [],A,_,_=>by show _=_;rw[jj]
 |a::l,A,h,d=>by
  rw[nM] at h;refine⟨_,afM c O (d a fi),?_⟩
  have:=TZ c (P:=P) (A:=A++[a]) (l:=l) bV (λx e=>d x (eT _ e))
  rwa [hM] at this
theorem Tf{n:Nat}(c:7000<=n){A:List de}{P:List cq}(d:U P<4): ∀{l:List b4} {x:cq},U x.a6+U l<=4->(∀a∈l,xF a)->Rd n ⟨A,P++[x]⟩ (l.map il) ⟨A,P++[⟨x.a6++l,x.a'⟩]⟩
 | [],x,_,_=>by show _=_;rw[jj]
 |a::l,x,h,e=>by
  rw[nM] at h;refine⟨_,ahY c d O (e a fi),?_⟩
  have:=Tf c (A:=A) d (x:=⟨x.a6++[a],x.a'⟩) (l:=l) bV (λx i=>e x (eT _ i))
  rwa [hM] at this
theorem Td{n:Nat}(e:7000<=n){A:List de}{P:List cq}(i:U P<4){d:Int}: ∀{l:List cT} {x:cq},U x.a'+U l<=4->(∀a∈l,sF a/\ff a d=I)->Rd n ⟨A,P++[x]⟩ (l.map iz) ⟨A,P++[⟨x.a6,x.a'++l⟩]⟩
 | [],x,_,_=>by show _=_;rw[jj]
 |a::l,x,h,c=>by
  rw[nM] at h;refine⟨_,ahW e i O (c a fi).1 (c a fi).2,?_⟩
  have:=Td e (A:=A) i (x:=⟨x.a6,x.a'++[a]⟩) (l:=l) bV (λx k=>c x (eT _ k))
  rwa [hM] at this
theorem Te{n:Nat}(a:7000<=n){A:List de}: ∀{l P:List cq},U P+U l<=4->(∀x∈l,vf x)->Rd n ⟨A,P⟩ (l.map ml).flatten ⟨A,P++l⟩
 | [],P,_,_=>by show _=_;rw[jj]
 |x::l,P,h,c=>by rw[nM] at h;obtain⟨⟨e,i⟩,k,m⟩:=c x fi;rw[si,zB,ml,De];refine⟨_,ahX O,?_⟩;have o:=Tf a (A:=A) (P:=P) O (x:=⟨[],[]⟩) (l:=x.a6) (by simpa using e) i;have q:=Td a (A:=A) (P:=P) O (x:=⟨[]++x.a6,[]⟩) (l:=x.a') (by simpa using k) m;have d:=Te a (A:=A) (P:=P++[x]) (l:=l) bV λy r=>c y (eT _ r);rw[hM] at d;exact Rd.app (Rd.app o q) d
variable {n:Nat}{p:bx}
theorem ah0(a:7000<=n)(h:qj p):Rd n ⟨[],[]⟩ (hD p) p:=by have c:=TZ a (P:=[]) (A:=[]) (l:=p.a7) (by simpa using h.1.1) h.1.2;have d:=Te a (A:=[]++p.a7) (P:=[]) (l:=p.aq) (by simpa using h.2.1) h.2.2;exact Rd.app c d
theorem Ym{a:de}(h:x8 a):(10:UInt8)∉jm a:=by
 obtain⟨⟨b,e,c⟩,l,i⟩:=h;intro hm;rw[jm,e] at hm;simp only[List.mem_append,List.mem_cons,List.not_mem_nil,or_false,List.mem_flatten,List.mem_map] at hm;rcases hm with hm|rfl|⟨w,⟨d,k,rfl⟩,hm⟩
 ·revert hm;decide
 ·simp at c
 rcases eN.1 hm with hm|hm
 ·revert hm;decide
 exact(sK (i d k)).2.2 hm
theorem Tn(h:qj p): ∀x∈hD p,(10:UInt8)∉x:=by
 intro x c;rcases fy.1 c with c|c
 ·obtain⟨a,d,rfl⟩:=fh.1 c;exact Ym (h.1.2 a d)
 obtain⟨w,e,c⟩:=List.mem_flatten.1 c;obtain⟨y,i,rfl⟩:=fh.1 e;obtain⟨⟨_,k⟩,_,m⟩:=h.2.2 y i;rcases eN.1 c with rfl|c
 ·decide
 rcases fy.1 c with c|c
 ·obtain⟨l,n,rfl⟩:=fh.1 c;have eI:=k l n;intro hm;rw[il] at hm;rcases fy.1 hm with hm|hm
  ·revert hm;decide
  rcases fy.1 hm with hm|hm
  ·exact(Ft eI.1).2 hm
  rcases eN.1 hm with hm|hm
  ·revert hm;decide
  exact(Ft eI.2).2 hm
 obtain⟨s,o,rfl⟩:=fh.1 c;exact λhm=>(Up (m s o).2 _ hm).2 rfl
theorem RX: ∀{l:List cq},(∀x∈l,vf x)->U (l.map ml).flatten<=9*U l
 | [],_=>aZ
 |x::l,h=>by
  have c:=RX (show∀y∈l,vf y from λy a=>h y (eT _ a));obtain⟨⟨d,_⟩,e,_⟩:=h x fi;rw[si,zB,ea,nM]
  have:U (ml x)<=9:=by simp[ml];omega
  omega
theorem QV(h:qj p):U (hD p)<=40:=by
 have:=RX h.2.2
 have:=h.2.1
 have:=h.1.1;rw[hD,ea,er];omega
theorem J7: ∀{l:gS},(∀x∈l,(10:UInt8)∉x)->hW 10 (e3 l)=l++[[]]
 | [],_=>rfl
 |x::l,h=>by rw[show x::l=[x]++l from rfl,lu,DQ,hM,List.singleton_append,w4 _ (h x fi),J7 λy a=>h y (eT _ a)];rfl
theorem acx(p:bx):ia p=e3 ([112,114,111,103,114,97,109]::hD p):=by rw[show([112,114,111,103,114,97,109]::hD p:gS)=[[112,114,111,103,114,97,109]]++hD p from rfl,lu];rfl
theorem ZB(l:7000<=n)(y:kW p)(B:cS p=I):Hy n (ia p)=Y (p,I):=by
 have h:=xu y B;have C:=v6 h;have m:ma (ia p) [10]=Y ([112,114,111,103,114,97,109]::(hD p++[[]])):=by
  rw[zm 10 O,acx,J7 λx o=>?_];rfl;rcases eN.1 o with rfl|o
  ·decide
  exact Tn h x o
 have F:=QV h;unfold Hy;refine bR (ah m ?_);have q:wr ((U ([112,114,111,103,114,97,109]::(hD p++[[]])):Int)-1)=(U (hD p):Int)+1:=by
  rw[bt bV];simp
 rw[q];refine bU (λz=>z=ao) (λj k=>ah (x:=[112,114,111,103,114,97,109]) rfl (fu (λh=>bu rfl h) λ_=>ah (bF (i:=U (hD p)+1) (x:=[]) aZ) (fu (λh=>bu rfl h) λ_=>k _ bV))) λz r=>?_;subst r;refine cx ?_;have e:sub ([112,114,111,103,114,97,109]::(hD p++[[]])) 1 ((U (hD p):Int)+1)=Y (hD p):=by
  rw[g' O O bV];rw[show((U (hD p):Int)+1).toNat=U (hD p)+1 by omega];simp
 refine ah e ?_;refine cK (λz:List de×List cq×Int=> ∃j:Nat,z.2.2=j/\j<=U (hD p)/\Rd n ⟨z.1,z.2.1⟩ ((hD p).drop j) p) (λz=>U (hD p)-z.2.2.toNat) ?_ n _ ⟨0,rfl,O,ah0 l h⟩ ?_
 ·rintro w ⟨A,P,i⟩ ⟨j,rfl,k,a⟩ G;dsimp only at a⊢;refine aS (λc=>?_) λH=>?_
  ·have c:j<U (hD p):=O
   rw[lM c] at a;obtain⟨Q,K,L⟩:=a;refine ah (bF (bO c)) (ah K (cx ?_));rw[bt O];exact G _ ⟨j+1,aZ,c,L⟩ Z
  rw[show j=U (hD p) by omega,pr] at a;have a:(⟨A,P⟩:bx)=p:=a;have d:=vy (n:=n) l y;rw[B] at d;rw[a];refine bU (λz=>z=ao) (λj k=>ah d (cx (ah (Oz l h) (k _ aZ)))) λz r=>?_;subst r;exact cx (aJ rfl)
 dsimp only;omega
end
section
variable {s t:bq}{p:bx}
theorem xw(n:Nat)(h:U s<=1000000):p9 n s=Y (s++[10]):=by unfold p9;exact bR (ah (fA bV) (aJ rfl))
theorem T3{l:bq}(c:U l<=1000000)(a: ∀k,1<=k/\k<=11-> ∀r,pv k++r≠l): ∃s,wq N l=Y (s,ao):=by
 obtain⟨r,e,d,_⟩:=TY l c;obtain⟨s,b⟩:=r;cases b with
 |false=>exact⟨s,e⟩
 |true=>
  obtain⟨h,i⟩:=d rfl;exact bu i (a _ (tZ h) _)
theorem aex: ∃s,wq N [98,101,103,105,110]=Y (s,ao):=T3 (by decide) (λk a r h=>by rcases kinds a with rfl|rfl|rfl|rfl|rfl|rfl|rfl|rfl|rfl|rfl|rfl<;>exact bu (List.cons.inj h).1 (by decide))
theorem afX: ∃s,wq N [115,104,111,119]=Y (s,ao):=T3 (by decide) (λk a r h=>by rcases kinds a with rfl|rfl|rfl|rfl|rfl|rfl|rfl|rfl|rfl|rfl|rfl<;>simp[pv,uG] at h)
theorem agE(p:bx)(t:bq):od N ⟨p,t,ao⟩ [98,101,103,105,110]=Y ([],⟨p,jO,I⟩):=by
 obtain⟨s,e⟩:=aex;unfold od;refine bR (cx (ah e (cx (ah (Fz (by decide) (by decide)) (cB ?_)))));have a:yj N ⟨p,t,ao⟩ [98,101,103,105,110]=Y ([],⟨p,jO,I⟩):=by
  unfold yj;exact bR (aS (λ_=>ah (xw N (by decide)) (aJ rfl)) λh=>bu rfl h)
 exact ah a (aJ rfl)
theorem ahQ(p:bx)(a:s≠[101,110,100])(c:U s<=1000)(d:U t<=100000):od N ⟨p,t,I⟩ s=Y ([],⟨p,t++(s++[10]),I⟩):=by unfold od;exact bR (cB (fu (λ_=>ah (xw N O) (ah (fA bV) (aJ rfl))) λh=>bu h a))
theorem aiG(a:bx)(c:kW p)(d:cS p=I):od N ⟨a,ia p,I⟩ [101,110,100]=Y ([111,107,10],⟨p,ia p,ao⟩):=by
 unfold od;refine bR (cB (fu (λh=>bu rfl h) λ_=>ah (ZB (by decide) c d) ?_));have e:vw N ⟨a,ia p,ao⟩ p I [119,104,97,116]=Y ([111,107,10],⟨p,ia p,ao⟩):=by
  unfold vw;exact bR (cx (ah (xw N (by decide)) (aJ rfl)))
 exact ah e (aJ rfl)
theorem ahO{q:bx}{s:e7}{b:Bool}(a:fW s=I)(c:tO N p s=Y (q,b)):od N ⟨p,t,ao⟩ (hb s)=Y (if b then [111,107,10] else [110,111,10],⟨if b then q else p,t,ao⟩):=by
 obtain⟨r,e,_,d⟩:=TY (hb s) (by have:=xi a;omega);rw[d s a rfl] at e;unfold od;refine bR (cx (ah e (cB (ah c ?_))));have h:vw N ⟨p,t,ao⟩ q b [110,111]=Y (if b then [111,107,10] else [110,111,10],⟨if b then q else p,t,ao⟩):=by
  unfold vw;cases b with
  |true=>exact bR (cx (ah (xw N (by decide)) (aJ rfl)))
  |false=>exact bR (cB (ah (xw N (by decide)) (aJ rfl)))
 exact ah h (aJ rfl)
theorem ahP(h:qj p):od N ⟨p,t,ao⟩ [115,104,111,119]=Y (ia p++[101,110,100,10],⟨p,t,ao⟩):=by
 obtain⟨s,e⟩:=afX;have dm:=v6 h;unfold od;refine bR (cx (ah e (cx (ah (Fz (by decide) (by decide)) (cB ?_)))));have a:yj N ⟨p,t,ao⟩ [115,104,111,119]=Y (ia p++[101,110,100,10],⟨p,t,ao⟩):=by
  unfold yj;exact bR (aS (λh=>bu h (by decide)) λ_=>aS (λ_=>ah (Oz (by decide) h) (ah (xw N (by decide)) (ah (fA bV) (aJ rfl)))) λh=>bu rfl h)
 exact ah a (aJ rfl)
def Do:nj->gS->bq->Prop
 |_,[],o=>o=[]
 |x,l::cD,o=>l≠[]/\ ∃a c d,od N x l=Y (a,d)/\o=a++c/\Do d cD c
theorem afi(h:qj p): ∀x∈hD p,x≠[]/\x≠[101,110,100]/\(U x)<=964:=by
 intro x c;rcases fy.1 c with c|c
 ·obtain⟨a,n,rfl⟩:=fh.1 c
  have:=K4 (h.1.2 a n);exact⟨by simp[jm],by simp[jm],O⟩
 obtain⟨w,o,c⟩:=List.mem_flatten.1 c;obtain⟨y,q,rfl⟩:=fh.1 o;obtain⟨⟨_,z⟩,_,d⟩:=h.2.2 y q;rcases eN.1 c with rfl|c
 ·exact⟨by decide,by decide,by decide⟩
 rcases fy.1 c with c|c
 ·obtain⟨l,A,rfl⟩:=fh.1 c
  have:=zu (z l A);exact⟨by simp[il],by simp[il],O⟩
 obtain⟨s,i,rfl⟩:=fh.1 c;obtain⟨b,r,e,k⟩:=SN (d s i).2
 have:=zH (d s i).2;refine⟨by rw[e];simp,?_,this⟩;rw[e];rintro m;simp only[List.cons.injEq] at m;rw[m.1] at k;simp at k
theorem TC(a:bx): ∀{cD:gS} {t:bq} {r:gS} {o:bq},(∀x∈cD,x≠[]/\x≠[101,110,100]/\(U x)<=964)->U t+1000*U cD<=60000->Do ⟨a,t++e3 cD,I⟩ r o->Do ⟨a,t,I⟩ (cD++r) o
 | [],t,r,o,_,_,h=>by simpa[e3] using h
 |l::cD,t,r,o,d,e,h=>by
  rw[nM] at e;obtain⟨i,k,m⟩:=d l fi;refine⟨i,[],o,_,ahQ a k O O,rfl,?_⟩;refine TC a (λx c=>d x (eT _ c)) bV ?_;rw[show l::cD=[l]++cD from rfl,lu,DQ] at h
  rwa [hM]
end
theorem abn{l:gS}{o:bq}(A: ∀x∈l,(10:UInt8)∉x)(H:U (e3 l)<=20000)(K:U l<=100)(B:U o<=40000)(m:o≠[])(h:Do ⟨⟨[],[]⟩,[],ao⟩ l o):C3 N (e3 l)=Y o:=by
 have n:ma (e3 l) [10]=Y (l++[[]]):=by rw[zm 10 O,J7 A]
 unfold C3;refine bR (aS (λh=>bu h O) λ_=>ah n ?_);refine cK (λz:bq×nj×Int=> ∃j:Nat,z.2.2=j/\((j<=U l/\ ∃e,o=z.1++e/\Do z.2.1 (l.drop j) e)\/(j=U l+1/\z.1=o))) (λz=>U l+1-z.2.2.toNat) ?_ N _ ⟨0,rfl,.inl ⟨O,o,rfl,h⟩⟩ (by dsimp only[N];omega);rintro q ⟨L,x,i⟩ ⟨j,rfl,k⟩ y;dsimp only at k⊢;rcases k with ⟨k,e,rfl,c⟩|⟨k,rfl⟩
 ·refine aS (λ_=>?_) λh=>bu bV h;by_cases a:j<U l
  ·rw[lM a] at c;obtain⟨C,Q,F,R,G,rfl,r⟩:=c;simp only[fH] at B;have w:(l++[[]])[j]? =Y l[j]:=by rw[ll a,bO a]
   refine ah (bF w) (aS (λh=>bu h C) λ_=>?_);refine aS (λh=>bu h O) λ_=>aS (λh=>bu h O) λ_=>ah G (ah (dO Z) ?_);rw[bt O];exact y _ ⟨j+1,aZ,.inl ⟨a,F,aZ,r⟩⟩ Z
  have d:j=U l:=O
  rw[d,pr] at c;have c:e=[]:=c;subst c;have w:(l++[[]])[j]? =Y []:=by rw[d];simp
  refine ah (bF w) (aS (λ_=>?_) λh=>bu rfl h);rw[bt O];exact y _ ⟨j+1,aZ,.inr ⟨O,aZ⟩⟩ Z
 refine aS (λh=>bu h bV) λ_=>aS (λh=>bu h m) λ_=>aJ rfl
theorem aeN{p q:bx}{s:e7}{ok:Bool}(e:kW p)(i:cS p=I)(n:ok=I->qj q)(d:fW s=I)(o:tO N p s=Y (q,ok)):
  C3 N ([98,101,103,105,110,10]++(ia p).drop 8++[101,110,100,10]++(hb s++[10])++[115,104,111,119,10])=Y ([111,107,10]++(if ok then [111,107,10] else [110,111,10])++(ia (if ok then q else p)++[101,110,100,10])):=by
 have h:=xu e i;have k:=v6 h;have r:=QV h;have w:=xi d;have l:(ia p).drop 8=e3 (hD p):=by rw[ia];rfl
 have c:qj (if ok then q else p):=by cases ok with|true=>exact n rfl|false=>exact h
 have y:=v6 c;have m:[98,101,103,105,110,10]++(ia p).drop 8++[101,110,100,10]++(hb s++[10])++[115,104,111,119,10]=e3 ([98,101,103,105,110]::(hD p++[[101,110,100],hb s,[115,104,111,119]])):=by
  rw[l,show([98,101,103,105,110]::(hD p++[[101,110,100],hb s,[115,104,111,119]]):gS)=[[98,101,103,105,110]]++(hD p++[[101,110,100],hb s,[115,104,111,119]]) from rfl,lu,lu];simp[e3]
 rw[m];refine abn (λx a=>?_) ?_ ?_ ?_ aZ ?_
 ·rcases eN.1 a with rfl|a
  ·decide
  rcases fy.1 a with a|a
  ·exact Tn h x a
  simp only[List.mem_cons,List.not_mem_nil,or_false] at a;rcases a with rfl|rfl|rfl
  ·decide
  ·exact aid d
  decide
 ·rw[<-m,l]
  have:U (e3 (hD p))+8=U (ia p):=by rw[ia,ea];simp[jO];omega
  simp only[fH,fP,ho];omega
 ·simp;omega
 ·simp only[fH,fP,ho]
  have:U (if ok then([111,107,10]:bq) else [110,111,10])=3:=by cases ok<;>rfl
  omega
 refine⟨by decide,[],_,_,agE _ _,rfl,?_⟩;refine TC _ (afi h) (by simp only[jO,fP,ho];omega) ?_;refine⟨by decide,[111,107,10],(if ok then [111,107,10] else [110,111,10])++(ia (if ok then q else p)++[101,110,100,10]),_,aiG _ e i,rfl,?_⟩;refine⟨?_,_,_,_,ahO d o,rfl,?_⟩
 ·have:=(AE (tZ d)).2.2.2.1;simp[hb,this]
 exact⟨by decide,_,[],_,ahP c,(jj _).symm,rfl⟩
end Go.Lift
