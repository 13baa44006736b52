/- Tools. -/
import Derived.Test.YteifkndfpnkalaaGreatELiftLaw
set_option maxRecDepth 100000
set_option linter.unusedVariables false
namespace Go.Lift
open Go
open Option renaming some -> aa, bind -> bN
open Bool renaming true -> ab, false -> ak, and_eq_true -> b9
open Decidable renaming decide -> ag
open List renaming length_append -> im, all_eq_true -> hT, map_cons -> gf
section
abbrev N:Nat:=100000
def c7(k:Int)(r:cJ):Prop:=0<=r.p/\r.p<=k/\r.b.length<=2000
variable {k:Int}{r:cJ}
theorem c7.mono{a:Int}(h:c7 k r)(c:k<=a):c7 a r:=⟨h.1,by have:=h.2.1;omega,h.2.2⟩
theorem aeB(a:List UInt8):ad (A5 N a) (c7 0):=by unfold A5;refine ad.aD (λx=>x.length<=2000) (λj c=>aW (λh=>ae (iR O O O) (c _ bQ)) λh=>c _ O) λz d=>ad.some ⟨gu 0,gu 0,d⟩
theorem RF(x:UInt8):(x.toNat:Int)<=255:=by have:=UInt8.toNat_lt x;omega
theorem yg{n:Int}(h:n≠0):mR n=aa ():=by unfold mR;rw[aP h]
theorem PX{m:Int}(B:c7 k r)(U:k<=1000000000):ad (hE N r m) (λx=>0<=x.1/\(1<=m->x.1<m)/\c7 (k+1) x.2):=by
 obtain⟨b,p⟩:=r;obtain⟨c,C,w⟩:=B;dsimp only at c C w;unfold hE;dsimp only;have F:wr (p+1)=p+1:=bc O;have G:wr (p+1-1)=p:=by rw[bc O];omega
 rw[F,G];have a:c7 (k+1) ⟨b,p+1⟩:=⟨by show 0<=p+1;omega,by show p+1<=k+1;omega,w⟩
 refine ad.aD (λz=>z=ak->1<=m/\b.length≠0) (λj A=>aW (λh=>A _ λh=>by cases h) λh=>A _ λH=>⟨O,by simpa using H⟩) λz K=>?_;refine ad.cond (λ_=>ad.some ⟨aX,λh=>bQ,a⟩) λd=>?_;obtain⟨V,bb⟩:=K d;refine aW (λe=>?_) λL=>?_
 ·obtain⟨x,n,_⟩:=gU c e;refine ae n (ae (yg O) (ad.some ⟨?_,λ_=>?_,a⟩))
  ·exact Int.tmod_nonneg _ O
  exact Int.tmod_lt_of_pos _ O
 have rJ:1<=(b.length:Int)/\(b.length:Int)<=2000:=O
 have Q:wr (p*7)=p*7:=bc O;have R:wr (p*7+3)=p*7+3:=bc O;rw[Q,R];obtain⟨x,n,_⟩:=gU (l:=b) (i:=Int.tmod p b.length) (Int.tmod_nonneg _ c) (Int.tmod_lt_of_pos _ O);obtain⟨y,W,_⟩:=gU (l:=b) (i:=Int.tmod (p*7+3) b.length) (Int.tmod_nonneg _ O) (Int.tmod_lt_of_pos _ O);refine ae (yg O) (ae n (ae (yg O) (ae W (ae (yg O) (ae (yg O) (ad.some ⟨?_,λ_=>Int.tmod_lt_of_pos _ O,a⟩))))));refine Int.tmod_nonneg _ ?_;have X:=RF x;have Z:=RF y;have o:0<=Int.tdiv p b.length:=Int.tdiv_nonneg c O;have s:Int.tdiv p b.length<=p:=Int.tdiv_le_self _ c;generalize Int.tdiv p b.length=q at o s;have f:wr ((x.toNat:Int)*131)=(x.toNat:Int)*131:=bc O;have g:wr ((y.toNat:Int)*1117)=(y.toNat:Int)*1117:=bc O;have t:wr (p*29)=p*29:=bc O;have u:wr q=q:=bc O;have v:wr (q*53)=q*53:=bc O;rw[f,g,t,u,v];have D:wr ((x.toNat:Int)*131+(y.toNat:Int)*1117)=(x.toNat:Int)*131+(y.toNat:Int)*1117:=bc O;rw[D];have E:wr ((x.toNat:Int)*131+(y.toNat:Int)*1117+p*29)=(x.toNat:Int)*131+(y.toNat:Int)*1117+p*29:=bc O;rw[E];have I:wr ((x.toNat:Int)*131+(y.toNat:Int)*1117+p*29+q*53)=(x.toNat:Int)*131+(y.toNat:Int)*1117+p*29+q*53:=bc O;rw[I];obtain⟨M,P⟩: ∃M:Nat,(x.toNat:Int)*131+(y.toNat:Int)*1117+p*29+q*53=M:=⟨((x.toNat:Int)*131+(y.toNat:Int)*1117+p*29+q*53).toNat,O⟩
 rw[P];have S:(M:Int)<=100000000000000:=O
 have T:Int.tdiv (M:Int) 64=((M / 64:Nat):Int):=by rw[EY O];omega
 rw[T,bc O,XP _ _ O O];omega
theorem afk{l:List Int}(c:c7 k r)(d:k<=1000000000)(e:l≠[]):ad (gh N r l) (λx=>x.1∈l/\c7 (k+1) x.2):=by
 unfold gh;have o:1<=l.length:=by cases l;exact bB rfl e;simp
 refine cq (PX c d) λx ⟨h,i,m⟩=>?_;obtain⟨y,n,a⟩:=gU h (i O);exact ae n (ad.some ⟨bx a,m⟩)
end
section
def dx:List Int->List Int->Int
 |c::cs,x::xs=>c*x+dx cs xs
 |_,_=>0
def cV(m:Int)(x:Int):Prop:= -m<=x/\x<=m
variable {a:az}{b c x d hi v M:Int}{i k n:Nat}{p l:List Int}{R:Type}{A B:Option R}{o:List Loop}{s:List UInt8}{Q:R->Prop}
theorem C4{a:Int}(i:0<=a)(l:0<=b)(d:cV a c)(e:cV b x):cV (a*b) (c*x):=by
 obtain⟨m,n⟩:=d;obtain⟨o,p⟩:=e;constructor
 ·have h:=mV (O:0<=a+c) (O:0<=b+x);have k:=mV (O:0<=a-c) (O:0<=b-x)
  grind
 have h:=mV (O:0<=a+c) (O:0<=b-x);have k:=mV (O:0<=a-c) (O:0<=b+x)
 grind
theorem H'(a:List Int):dx a []=0:=by cases a<;>rfl
theorem Pq: ∀{cs a:List Int} {c x:Int},cs[a.length]? =aa c->dx cs (a++[x])=dx cs a+c*x
 | [],a,c,x,h=>by simp at h
 |d::cs,[],c,x,h=>by simp at h;subst h;simp[dx,H']
 |d::cs,y::a,c,x,h=>by
  have h:cs[a.length]? =aa c:=by simpa using h
  simp only[List.cons_append,dx];rw[Pq h];omega
theorem Pp{d e:List Int}(h:d[i]? =aa c)(a:e[i]? =aa x):dx d (e.take (i+1))=dx d (e.take i)+c*x:=by have hi:=(bS.1 a).1;rw[eO,a];exact Pq (by simpa[Nat.min_eq_left (Nat.le_of_lt hi)] using h)
theorem IK{M:Int}(a:0<=M): ∀{cs xs:List Int},(∀c∈cs,cV 9 c)->(∀x∈xs,cV M x)->cV (9*M*xs.length) (dx cs xs)
 | [],xs,_,_=>by
  have:0<=9*M*(xs.length:Int):=mV O O;simp only[dx,cV];omega
 |d::cs,[],_,_=>by simp[dx,cV]
 |d::cs,y::xs,i,k=>by
  have l:=IK a (cs:=cs) (xs:=xs) (λc h=>i c (by simp[h])) λx h=>k x (by simp[h]);have m:=C4 O a (i d aX) (k y aX);have e:9*M*((y::xs).length:Int)=9*M*(xs.length:Int)+9*M:=by simp[Int.mul_add]
  rw[e];simp only[dx,cV] at*;omega
def cL(a c:Int):List Int:=(List.range (c-a).toNat).map (fun(i:Nat)=>a+(i:Int))
theorem x3{a:Int}:v∈cL a hi↔a<=v/\v<hi:=by
 simp only[cL,List.mem_map,List.mem_range];constructor
 ·rintro⟨i,hi,rfl⟩;omega
 intro h;exact⟨(v-a).toNat,O,O⟩
theorem ks{a:Int}(h:b<=a):cL a b=[]:=by unfold cL;rw[show(b-a).toNat=0 by omega];rfl
theorem pv{a:Int}(h:b<=a):cL b (a+1)=cL b a++[a]:=by
 unfold cL;rw[show(a+1-b).toNat=(a-b).toNat+1 by omega,pI,eN]
 grind
theorem A8{a:Int}(c:a<=v)(d:v<hi):cL a hi=cL a v++v::cL (v+1) hi:=by
 obtain⟨k,e⟩: ∃k:Nat,hi=v+1+k:=⟨(hi-v-1).toNat,O⟩
 subst e;clear d;induction k with
 |zero=>
  rw[show v+1+((0:Nat):Int)=v+1 by omega,pv c,ks (gu _)]
 |succ k h=>
  rw[show v+1+((k+1:Nat):Int)=v+1+(k:Int)+1 by omega,pv O,h,pv O];simp
theorem Cr{k:Type}{f:k->Option Bool}{p:k->Bool}{l:List k}(s: ∀x∈l,f x=aa (p x))(G:l.length<n)(w:l.length<=1000000):
  ∃r:Int,bm (λa (c:Int)=>bif ag (c<(l.length:Int)) then(bN (ax l c) λe=>bN (f e) λi=>bif i then(aa c) else(a (wr (c+1)))) else(aa (-1))) n 0=aa r/\ag (0<=r)=l.any p:=by
 suffices h:ad (bm (λa (c:Int)=>bif ag (c<(l.length:Int)) then(bN (ax l c) λe=>bN (f e) λi=>bif i then(aa c) else(a (wr (c+1)))) else(aa (-1))) n 0) (λr=>decide (0<=r)=l.any p) by exact h
 refine ad.loop (λx:Int=>0<=x/\x<=l.length/\(l.take x.toNat).any p=ak) (λx:Int=>l.length-x.toNat) ?_ n 0 ⟨O,O,aX⟩ bQ;rintro m x ⟨q,H,K⟩ z;refine aW (λo=>?_) λA=>?_
 ·obtain⟨y,B,d⟩:=gU q o;have hm:=bx d;refine ae B (ae (s y hm) (ad.cond (λC=>ad.some ?_) λF=>?_))
  ·rw[show l.any p=ab from iX.2 ⟨y,hm,C⟩];simp[q]
  rw[bc O];refine z _ ⟨O,O,?_⟩ O;rw[show(x+1).toNat=x.toNat+1 by omega,eO,d]
  grind
 refine ad.some ?_;have L:x.toNat=l.length:=O
 grind
theorem zA{f:Int->Option Bool}{p:Int->Bool}(c: ∀x∈l,f x=aa (p x))(d:l.length<n)(a:l.length<=1000000):oe n l f=aa (l.any p):=by
 obtain⟨r,e,h⟩:=Cr c d a;unfold oe zc
 grind
theorem zj{f:az->Option Bool}{p:az->Bool}{l:List az}(c: ∀x∈l,f x=aa (p x))(d:l.length<n)(a:l.length<=1000000):qb n l f=aa (l.any p):=by
 obtain⟨r,e,h⟩:=Cr c d a;unfold qb DN
 grind
theorem WN{f:Stmt->Option Bool}{p:Stmt->Bool}{l:List Stmt}(c: ∀x∈l,f x=aa (p x))(d:l.length<n)(a:l.length<=1000000):DL n l f=aa (l.any p):=by
 obtain⟨r,e,h⟩:=Cr c d a;unfold DL Kw
 grind
theorem VD{f:b0->Option Bool}{p:b0->Bool}{l:List b0}(c: ∀x∈l,f x=aa (p x))(d:l.length<n)(a:l.length<=1000000):DG n l f=aa (l.any p):=by
 obtain⟨r,e,h⟩:=Cr c d a;unfold DG Kp
 grind
theorem q3{k:Type}{l:List k}{p:Nat->k->Bool}{Q:Bool->Prop}{m:(Int->Option Bool)->Int->Option Bool}(A:l.length<n)(s:l.length<=1000000)
  (c: ∀a (i:Nat) x,l[i]? =aa x->(p i x=ab->ad (a ((i:Int)+1)) Q)->(p i x=ak->Q ak)->ad (m a (i:Int)) Q)
  (o: ∀a,(∀(i:Nat) x,l[i]? =aa x->p i x=ab)->ad (m a (l.length:Int)) Q) (d:(∃(i:Nat) (x:k),l[i]? =aa x/\p i x=ak)->Q ak):ad (bm m n 0) Q:=by
 refine ad.loop (λx:Int=> ∃i:Nat,x=i/\i<=l.length/\ ∀(j:Nat) y,j<i->l[j]? =aa y->p j y=ab) (λx:Int=>l.length-x.toNat) ?_ n 0 ⟨0,rfl,O,λj y h=>O⟩ bQ;rintro a x ⟨i,rfl,B,C⟩ w;by_cases e:i<l.length
 ·have q:=bp e;refine c a i _ q (λr=>w _ ⟨i+1,O,O,λj y F G=>?_⟩ O) (λr=>d ⟨i,_,q,r⟩)
  grind
 have z:i=l.length:=O
 grind
def cN(a:az):Bool:=ag (a.aT.length=4)&&(ag (-99<=a.const/\a.const<=99)&&a.aT.all λc=>decide (-9<=c/\c<=9))
theorem fo(h:cN a=ab):a.aT.length=4/\cV 99 a.const/\ ∀c∈a.aT,cV 9 c:=by simp only[cN,b9,decide_eq_true_eq,hT] at h;exact⟨h.1,h.2.1,h.2.2⟩
theorem jE(n:Nat)(x a b:Int):fG n x a b=aa (ag (a<=x/\x<=b)):=by unfold fG;by_cases c:a<=x<;>by_cases d:x<=b<;>simp[aD,c,d]
theorem Lf(i:5000<=n)(a:az)(k:a.aT.length<=1000):wu n a=aa (cN a):=by
 have h: ∀x∈a.aT,zi n x=aa (!decide (-9<=x/\x<=9)):=λx _=>by unfold zi;rw[jE];rfl
 have bT:=zA (n:=n) h O O;unfold wu GQ;rw[jE];simp only[aD,bN];rw[bT];unfold cN;have e:(a.aT.any λx=> !decide (-9<=x/\x<=9))= !(a.aT.all λc=>decide (-9<=c/\c<=9)):=by
  grind
 rw[e];by_cases d:a.aT.length=4
 ·rw[bK (show(a.aT.length:Int)=4 by omega),bK d]
  grind
 rw[bJ (show¬(a.aT.length:Int)=4 by omega),bJ d];rfl
theorem zI(n:Nat)(x m:Int)(d:0<=m/\m<=1000000000):r4 n x m=aa (ag (-m<=x/\x<=m)):=by
 unfold r4;rw[bc O];by_cases a: -m<=x<;>by_cases c:x<=m
 ·simp[aD,a,c]
 ·simp[aD,a,c]
 ·simp[aD,a,c]
 simp[aD,a,c]
theorem Kv(A:5000<=n)(a:az)(B:a.aT.length<=1000):tS n a=aa (cN a):=by
 refine ad.eq ?_;unfold tS;refine q3 (l:=a.aT) (p:=λ_ c=>decide (-9<=c/\c<=9)) O O (λd i x m o q=>?_) (λd k=>?_) (λ⟨i,x,m,r⟩=>?_)
 ·rw[bK (show(i:Int)<(a.aT.length:Int) by have:=(bS.1 m).1;omega)];refine ae (bl m) (ae (zI n x 9 O) ?_);have hi:=(bS.1 m).1;cases r:ag (-9<=x/\x<=9) with
  |true=>show ad (d _) _;rw[bc O];exact o r
  |false=>exact ad.some (q r)
 ·rw[bJ (show¬(a.aT.length:Int)<(a.aT.length:Int) by omega)];have e:a.aT.all (λc=>decide (-9<=c/\c<=9))=ab:=gQ.2 λc w=>by obtain⟨i,hi⟩:=mb w;exact k i c hi
  refine ad.cond (λh=>(by cases h)) λ_=>?_;unfold cN;rw[e];refine ad.aD (λz:Bool=>z=(ag (a.aT.length=4)&&(ag (-99<=a.const/\a.const<=99)&&ab))) (λj s=>?_) λz y=>ad.some y;refine aW (λh=>ae (zI n a.const 99 O) (s _ ?_)) λh=>s _ ?_
  ·rw[bK (O:a.aT.length=4)];simp
  rw[bJ (show¬a.aT.length=4 by omega)];rfl
 unfold cN
 grind
def cT(a:az)(p:List Int):Int:=a.const+dx a.aT p
def Eh(M:Int)(p:List Int):Prop:= ∀x∈p,cV M x
theorem Bp(c:cN a=ab)(l:p.length<=4)(d:0<=M/\M<=1000000000)(e:Eh M p)(i:Nat)(m:i<=p.length):cV 1000000000000 (a.const+dx a.aT (p.take i)):=by
 obtain⟨n,o,h⟩:=fo c;have q:=IK (M:=M) d.1 (cs:=a.aT) (xs:=p.take i) h λx k=>e x (gP k);have r:(p.take i).length<=4:=bQ
 have s:9*M*((p.take i).length:Int)<=9*M*4:=Int.mul_le_mul_of_nonneg_left O O;simp only[cV] at*;omega
theorem aaH(G:5000<=n)(h:cN a=ab)(q:p.length<=4)(l:0<=M/\M<=1000000000)(m:Eh M p):oh n a p=aa (cT a p):=by
 obtain⟨H,K,y⟩:=fo h;refine ad.eq ?_;unfold oh;refine ad.loop (λx:Int×Int=> ∃i:Nat,x.2=i/\i<=p.length/\x.1=a.const+dx a.aT (p.take i)) (λx=>p.length-x.2.toNat) ?_ n _ ⟨0,rfl,O,by simp[H']⟩ bQ;rintro o ⟨x,k⟩ ⟨i,r,z,s⟩ A;dsimp only at r s⊢;subst r;refine aW (λe=>?_) λB=>ad.some ?_
 ·have e:i<p.length:=O
  have c:=bp e;have d:=bp (O:i<a.aT.length);have cD:=Pp d c;have C:=Bp h q l m i z;have w:=Bp h q l m (i+1) O;rw[cD] at w;have F:=C4 O l.1 (y _ (bx d)) (m _ (bx c));refine ae (bl c) (ae (bl d) ?_);simp only[cV] at C w F;rw[bc (n:=a.aT[i]*p[i]) O,bc O,bc O];refine A _ ⟨i+1,J,O,?_⟩ J
  grind
 have:i=p.length:=O
 rw[s,this,dW];rfl
theorem aa2(Q:5000<=n)(e:cN a=ab)(r:p.length<=4)(l:0<=M/\M<=1000000000)(m:Eh M p):pt n a p=aa (cT a p):=by
 obtain⟨R,W,B⟩:=fo e;refine ad.eq ?_;unfold pt;refine ad.loop (λx:Int×Int=> ∃i:Nat,x.2=i/\i<=p.length/\x.1=a.const+dx a.aT (p.take i)) (λx=>p.length-x.2.toNat) ?_ n _ ⟨0,rfl,O,by simp[H']⟩ bQ;rintro o ⟨x,k⟩ ⟨i,s,C,w⟩ F;dsimp only at s w⊢;subst s;refine ad.aD (λz=>z=ag (i<p.length)) (λj y=>aW (λh=>y _ ?_) λh=>y _ ?_) λz G=>?_
 ·rw[bK (O:i<p.length),bK (show(i:Int)<(a.aT.length:Int) by omega)]
 ·rw[bJ (show¬i<p.length by omega)]
 subst G;refine aW (λq=>?_) λH=>ad.some ?_
 ·have c:=bp q;have d:=bp (O:i<a.aT.length);have cD:=Pp d c;have K:=Bp e r l m i C;have A:=Bp e r l m (i+1) O;rw[cD] at A;have L:=C4 O l.1 (B _ (bx d)) (m _ (bx c));refine ae (bl d) (ae (bl c) ?_);simp only[cV] at K A L;rw[bc (n:=a.aT[i]*p[i]) O,bc O,bc O];refine F _ ⟨i+1,J,O,?_⟩ J
  grind
 have:i=p.length:=O
 rw[w,this,dW];rfl
theorem bY(h:ad A Q):ad (bif ab then A else B) Q:=h
theorem b6(h:ad B Q):ad (bif ak then A else B) Q:=h
def e8:List Int->Nat
 | []=>0
 |c::cs=>if e8 cs=0 then(if c=0 then 0 else 1) else e8 cs+1
theorem Mr: ∀(l:List Int) (c:Int),e8 (l++[c])=if c=0 then e8 l else l.length+1
 | [],c=>by simp[e8]
 |d::l,c=>by
  have e:=Mr l c;simp only[List.cons_append,e8,e];by_cases a:c=0
  ·simp[a]
  simp[a]
theorem Mq(h:l[i]? =aa c):e8 (l.take (i+1))=if c=0 then e8 (l.take i) else i+1:=by have hi:=(bS.1 h).1;rw[eO,h];show e8 (l.take i++[c])=_;rw[Mr,cZ,Nat.min_eq_left (Nat.le_of_lt hi)]
theorem ua: ∀{l:List Int} {i:Nat} {c:Int},l[i]? =aa c->e8 l<=i->c=0
 | [],i,c,h,_=>by simp at h
 |d::l,0,c,h,a=>by
  simp at h;subst h;simp only[e8] at a;by_cases e:e8 l=0
  ·by_cases k:d=0
   ·exact k
   simp[e,k] at a
  simp[e] at a
 |d::l,i+1,c,h,a=>by
  have h:l[i]? =aa c:=by simpa using h
  refine ua h ?_;simp only[e8] at a;by_cases e:e8 l=0
  ·omega
  rw[aP e] at a;omega
def ki(a:az):Prop:=a.aT.length<=1000
def ln(l:List az):Prop:=l.length<=1000/\ ∀a∈l,ki a
theorem zR(s:5000<=n)(h:ki a):po n a=aa (e8 a.aT:Int):=by
 have h:a.aT.length<=1000:=h;refine ad.eq ?_;unfold po;refine ad.loop (λx:Int×Int=> ∃i:Nat,x.2=i/\i<=a.aT.length/\x.1=(e8 (a.aT.take i):Int)) (λx=>a.aT.length-x.2.toNat) ?_ n _ ⟨0,rfl,O,by simp[e8]⟩ bQ;rintro d ⟨x,k⟩ ⟨i,l,w,m⟩ p;dsimp only at l m⊢;subst l;refine aW (λc=>?_) λq=>ad.some ?_
 ·have c:i<a.aT.length:=O
  have bT:=bp c;have cD:=Mq bT;refine ad.aD (λz:Int=>z=(e8 (a.aT.take (i+1)):Int)) (λj o=>ae (bl bT) (fl (λe=>o _ ?_) λe=>o _ ?_)) λz r=>?_
  ·rw[cD,aP e,bc O];omega
  ·rw[cD,aR e,m]
  rw[bc O];exact p _ ⟨i+1,J,O,r⟩ J
 have:i=a.aT.length:=O
 grind
theorem AF(r:5000<=n)(p:ki a):rF n a=aa (e8 a.aT:Int):=by
 have p:a.aT.length<=1000:=p;refine ad.eq ?_;unfold rF;refine ad.loop (λx:Int=> ∃i:Nat,x=i/\i<=a.aT.length/\e8 a.aT=e8 (a.aT.take i)) (λx=>x.toNat) ?_ n _ ⟨a.aT.length,rfl,O,by rw[dW]⟩ bQ;rintro c x ⟨i,rfl,s,d⟩ q;cases i with
 |zero=>
  refine ad.aD (λz=>z=ak) (λj k=>aW (λh=>bB h (by decide)) λh=>k _ rfl) λz l=>?_;subst l;exact ad.some (by rw[d];rfl)
 |succ i=>
  have m:i<a.aT.length:=O
  have bT:=bp m;have cD:=Mq bT;have e:wr (((i+1:Nat):Int)-1)=(i:Int):=by rw[bc O];omega
  rw[e];refine ad.aD (λz=>z=ag (a.aT[i]=0)) (λj k=>aW (λh=>ae (bl bT) (k _ rfl)) λh=>bB (show(0:Int)<((i+1:Nat):Int) by omega) h) λz l=>?_;subst l;refine aW (λo=>?_) λo=>ad.some ?_
  ·exact q _ ⟨i,rfl,O,by rw[d,cD,aR o]⟩ O
  rw[d,cD,aP o]
def fz(a:az)(d:Int):Bool:=cN a&&ag ((e8 a.aT:Int)<=d)
def fB(l:List az)(d:Int):Bool:=l.all (λa=>fz a d)&&ag (1<=l.length/\l.length<=2)
theorem Kj(a b:Int):ag (a<b)= !decide (b<=a):=by grind
theorem MF(y:5000<=n){l:List az}(C:ln l)(d:Int):xI n l d=aa (fB l d):=by
 obtain⟨H,F⟩:=C;refine ad.eq ?_;unfold xI;refine q3 (l:=l) (p:=λ_ a=>fz a d) O O (λk i x q r s=>?_) (λk m=>?_) (λ⟨i,x,q,K⟩=>?_)
 ·have hi:=(bS.1 q).1;have hm:=F x (bx q);rw[bK (show(i:Int)<(l.length:Int) by omega)];refine bY (ad.aD (λz=>z= !fz x d) (λj o=>ae (bl q) (ae (Kv y x hm) ?_)) λz w=>?_)
  ·cases A:cN x with
   |false=>exact o _ (by unfold fz;rw[A];rfl)
   |true=>exact ae (zR y hm) (o _ (by unfold fz;rw[A,Kj];simp))
  subst w;cases B:fz x d with
  |true=>show ad (k _) _;rw[bc O];exact r B
  |false=>exact ad.some (s B)
 ·rw[bJ (show¬(l.length:Int)<(l.length:Int) by omega)];have e:l.all (λa=>fz a d)=ab:=gQ.2 λc G=>by obtain⟨i,hi⟩:=mb G;exact m i c hi
  unfold fB;rw[e];refine b6 (ad.aD (λz=>z=ag (1<=l.length/\l.length<=2)) (λj o=>aW (λh=>o _ ?_) λh=>o _ ?_) λz w=>ad.some (by rw[w];rfl))
  ·by_cases L:l.length<=2
   ·rw[bK (show(l.length:Int)<=2 by omega),bK O]
   rw[bJ (show¬(l.length:Int)<=2 by omega),bJ O]
  rw[bJ O]
 unfold fB
 grind
theorem MU(c:5000<=n)(e:ki a)(d:Int):m7 n a d=aa (!fz a d):=by
 unfold m7;rw[Lf c a e];simp only[aD,bN];cases h:cN a with
 |false=>simp[fz,h]
 |true=>
  rw[AF c e];simp only[fz,h,Bool.not_true,cond_false,Bool.true_and];rw[Kj]
theorem FF(n k:Nat):fG n (k:Int) 1 2=aa (ag (1<=k/\k<=2)):=by
 rw[jE];congr 1
 grind
theorem LN(c:5000<=n){l:List az}(e:ln l)(d:Int):z8 n l d=aa (fB l d):=by
 obtain⟨m,h⟩:=e;unfold z8;rw[FF];have bT:=zj (n:=n) (f:=λi=>m7 n i d) (p:=λa=> !fz a d) (l:=l) (λx k=>MU c (h x k) d) O O;simp only[aD,bN];rw[bT];unfold fB
 grind
def ye{k:Type}(p:Nat->k->Bool)(l:List k):Bool:=l.zipIdx.all λq=>p q.2 q.1
theorem E'{k:Type}{p:Nat->k->Bool}{l:List k}(h: ∀(i:Nat) x,l[i]? =aa x->p i x=ab):ye p l=ab:=
 gQ.2 λq a=>h q.2 q.1 (w4.1 a)
theorem EN{k:Type}{p:Nat->k->Bool}{l:List k}{x:k}(h:l[i]? =aa x)(a:p i x=ak):ye p l=ak:=
 mZ.2 ⟨(x,i),w4.2 h,by rw[a];simp⟩
theorem MS{k:Type}{p:Nat->k->Bool}{l:List k}(h:ye p l=ab){x:k}(a:l[i]? =aa x):p i x=ab:=
 gQ.1 h (x,i) (w4.2 a)
def l5(a:List Loop):Bool:=ye (λi l=>fB l.lo (i:Int)&&fB l.hi (i:Int)) a&&ag (a.length<=4)
def rm(a:List Loop):Prop:=a.length<=1000/\ ∀l∈a,ln l.lo/\ln l.hi
theorem Wr(m:5000<=n)(h:rm o):Ft n o=aa (l5 o):=by
 obtain⟨F,w⟩:=h;refine ad.eq ?_;unfold Ft;refine q3 (l:=o) (p:=λi l=>fB l.lo (i:Int)&&fB l.hi (i:Int)) O O (λa i x c e k=>?_) (λa d=>?_) (λ⟨i,x,c,y⟩=>?_)
 ·have hi:=(bS.1 c).1;obtain⟨A,B⟩:=w x (bx c);rw[bK (show(i:Int)<(o.length:Int) by omega)];refine ae (bl c) (ad.aD (λz=>z= !(fB x.lo (i:Int)&&fB x.hi (i:Int))) (λj q=>ae (LN m A _) ?_) λz C=>?_)
  ·cases r:fB x.lo (i:Int) with
   |false=>exact q _ (by rw[r];rfl)
   |true=>exact ae (LN m B _) (q _ (by rw[r];rfl))
  subst C;cases s:(fB x.lo (i:Int)&&fB x.hi (i:Int)) with
  |true=>show ad (a _) _;rw[bc O];exact e s
  |false=>exact ad.some (k s)
 ·rw[bJ (show¬(o.length:Int)<(o.length:Int) by omega)];refine ad.some ?_;unfold l5;rw[E' d,gr]
  grind
 unfold l5;rw[EN c y];rfl
theorem V5(s:5000<=n)(h:rm o):Fi n o=aa (l5 o):=by
 obtain⟨H,B⟩:=h;unfold Fi;by_cases w:o.length<=4
 ·rw[bK (show(o.length:Int)<=4 by omega)];refine ad.eq ?_;refine q3 (l:=o) (p:=λi l=>fB l.lo (i:Int)&&fB l.hi (i:Int)) O O (λa i x d q r=>?_) (λa e=>?_) (λ⟨i,x,d,C⟩=>?_)
  ·have hi:=(bS.1 d).1;obtain⟨F,G⟩:=B x (bx d);rw[bK (show(i:Int)<(o.length:Int) by omega)];refine ad.aD (λz=>z=ab) (λj c=>bY (c _ rfl)) λz m=>?_;subst m;refine bY (ad.aD (λz=>z= !(fB x.lo (i:Int)&&fB x.hi (i:Int))) (λj c=>ae (bl d) (ae (MF s F _) ?_)) λz m=>?_)
   ·cases y:fB x.lo (i:Int) with
    |false=>exact c _ (by rw[y];rfl)
    |true=>exact ae (MF s G _) (c _ (by rw[y];rfl))
   subst m;cases A:(fB x.lo (i:Int)&&fB x.hi (i:Int)) with
   |true=>show ad (a _) _;rw[bc O];exact q A
   |false=>exact ad.some (r A)
  ·rw[bJ (show¬(o.length:Int)<(o.length:Int) by omega)];refine ad.aD (λz=>z=ak) (λj c=>b6 (c _ rfl)) λz m=>?_;subst m;refine ad.some ?_;unfold l5;rw[E' e,bK w];rfl
  unfold l5;rw[EN d C];rfl
 obtain⟨k,rfl⟩: ∃k,n=k+1:=⟨n-1,O⟩
 rw[bJ (show¬(o.length:Int)<=4 by omega)];unfold l5;rw[bJ w,k7];simp only[bm,aD]
 grind
def iU:List Int->Int
 | []=>0
 |x::a=>a.foldl max x
def kZ:List Int->Int
 | []=>0
 |x::a=>a.foldl min x
theorem aeE(h:l≠[])(x:Int):iU (l++[x])=max (iU l) x:=by
 cases l with
 |nil=>exact bB rfl h
 |cons a l=>simp[iU,List.foldl_append]
theorem aeH(h:l≠[])(x:Int):kZ (l++[x])=min (kZ l) x:=by
 cases l with
 |nil=>exact bB rfl h
 |cons a l=>simp[kZ,List.foldl_append]
theorem Rn: ∀(l:List Int) (a:Int),a<=l.foldl max a
 | [],a=>gu _
 |x::l,a=>Int.le_trans (Int.le_max_left a x) (Rn l (max a x))
theorem Rp: ∀(l:List Int) (a:Int),l.foldl min a<=a
 | [],a=>gu _
 |x::l,a=>Int.le_trans (Rp l (min a x)) (Int.min_le_left a x)
def fi(l:List az)(p:List Int):List Int:=l.map λa=>cT a p
def cP(l:Loop)(p:List Int):Int:=iU (fi l.lo p)
def dd(l:Loop)(p:List Int):Int:=kZ (fi l.hi p)
def iG(k:Nat)(p:List Int):Prop:=p.length=k/\k<=4/\Eh (100*40^k) p
theorem s8(h:k<=4):(0:Int)<=100*40^k/\(100:Int)*40^k<=1000000000:=by
 match k,h with
 |0,_=>decide
 |1,_=>decide
 |2,_=>decide
 |3,_=>decide
 |4,_=>decide
theorem pP{l:List az}(h:fB l d=ab):1<=l.length/\l.length<=2/\ ∀a∈l,cN a=ab:=by
 simp only[fB,b9,decide_eq_true_eq,hT] at h;refine⟨h.2.1,h.2.2,λa c=>?_⟩
 have:=h.1 a c;simp only[fz,b9] at this
 grind
theorem QY(c:cN a=ab)(d:iG k p)(e:k<=3): -(40*(100*40^k))<=cT a p/\cT a p<=40*(100*40^k):=by
 obtain⟨n,o,h⟩:=fo c;obtain⟨q,r,i⟩:=d;obtain⟨l,s⟩:=s8 (k:=k) O;have w:(100:Int)<=100*40^k:=by
  match k,e with
  |0,_=>decide
  |1,_=>decide
  |2,_=>decide
  |3,_=>decide
 generalize (100*40^k:Int)=M at*;have y:=IK (M:=M) l (cs:=a.aT) (xs:=p) h λx m=>i x m;have z:9*M*(p.length:Int)<=9*M*3:=Int.mul_le_mul_of_nonneg_left O O;simp only[cV] at*;unfold cT;omega
theorem yw(d:5000<=n)(e:cN a=ab)(c:iG k p):pt n a p=aa (cT a p):=
 aa2 d e (by have:=c.1;have:=c.2.1;omega) (s8 c.2.1) c.2.2
theorem vv(d:5000<=n)(e:cN a=ab)(c:iG k p):oh n a p=aa (cT a p):=
 aaH d e (by have:=c.1;have:=c.2.1;omega) (s8 c.2.1) c.2.2
theorem pA{l:List az}(h:l[i]? =aa a):(fi l p)[i]? =aa (cT a p):=by unfold fi;rw[List.getElem?_map,h];rfl
theorem Cg(l:List az)(p:List Int):(fi l p).length=l.length:=dJ ..
theorem P4{k:Type}{l:List k}(h:1<=i)(a:1<=l.length):l.take i≠[]:=by
 intro e
 have:(l.take i).length=0:=by rw[e];rfl
 grind
theorem Qu(h:l[i]? =aa x)(a:1<=i):iU (l.take (i+1))=max (iU (l.take i)) x:=by have:=(bS.1 h).1;rw[eO,h];exact aeE (P4 a O) x
theorem Qw(h:l[i]? =aa x)(a:1<=i):kZ (l.take (i+1))=min (kZ (l.take i)) x:=by have:=(bS.1 h).1;rw[eO,h];exact aeH (P4 a O) x
theorem Iy(h:l[0]? =aa x):iU (l.take 1)=x:=by
 cases l with
 |nil=>simp at h
 |cons a l=>simp at h;subst h;rfl
theorem Iz(h:l[0]? =aa x):kZ (l.take 1)=x:=by
 cases l with
 |nil=>simp at h
 |cons a l=>simp at h;subst h;rfl
theorem Nb(r:5000<=n){l:Loop}{a:Int}(W:fB l.lo d=ab)(X:fB l.hi a=ab)(s:iG k p):Ai n l p=aa (cP l p,dd l p):=by
 obtain⟨aN,a2,a3⟩:=pP W;obtain⟨f,t,R⟩:=pP X;have C:=bp (O:0<l.lo.length);have F:=bp (O:0<l.hi.length);refine ad.eq ?_;unfold Ai;refine ae (bl (i:=0) C) (ae (yw r (a3 _ (bx C)) s) (ae (bl (i:=0) F) (ae (yw r (R _ (bx F)) s) ?_)));refine ad.loop (λx:Int×Int=> ∃i:Nat,x.2=i/\1<=i/\i<=l.lo.length/\x.1=iU ((fi l.lo p).take i)) (λx=>l.lo.length-x.2.toNat) ?_ n _ ⟨1,rfl,O,O,(Iy (pA C)).symm⟩ J;rintro G ⟨x,z⟩ ⟨i,c,m,Z,w⟩ b;dsimp only at c w⊢;subst c;refine aW (λH=>?_) λK=>?_
 ·have g:=bp (O:i<l.lo.length);have e:=Qu (pA (p:=p) g) m;refine ad.aD (λz=>z=iU ((fi l.lo p).take (i+1))) (λj q=>ae (bl g) (ae (yw r (a3 _ (bx g)) s) (aW (λh=>q _ ?_) λh=>q _ ?_))) λz c=>?_
  ·rw[e,<-w];omega
  ·rw[e,<-w];omega
  rw[bc O];exact b _ ⟨i+1,J,O,O,c⟩ J
 have o:i=l.lo.length:=O
 have L:x=cP l p:=by rw[w,o,<-Cg l.lo p,dW];rfl
 refine ad.loop (λx:Int×Int=> ∃i:Nat,x.2=i/\1<=i/\i<=l.hi.length/\x.1=kZ ((fi l.hi p).take i)) (λx=>l.hi.length-x.2.toNat) ?_ n _ ⟨1,rfl,O,O,(Iz (pA F)).symm⟩ J;rintro A ⟨y,z⟩ ⟨i,c,m,Z,B⟩ Q;dsimp only at c B⊢;subst c;refine aW (λH=>?_) λK=>ad.some ?_
 ·have g:=bp (O:i<l.hi.length);have e:=Qw (pA (p:=p) g) m;refine ad.aD (λz=>z=kZ ((fi l.hi p).take (i+1))) (λj q=>ae (bl g) (ae (yw r (R _ (bx g)) s) (aW (λh=>q _ ?_) λh=>q _ ?_))) λz c=>?_
  ·rw[e,<-B];omega
  ·rw[e,<-B];omega
  rw[bc O];exact Q _ ⟨i+1,J,O,O,c⟩ J
 have o:i=l.hi.length:=O
 rw[L,B,o,<-Cg l.hi p,dW];rfl
theorem aaB(h:5000<=n){l:Loop}{a:Int}(K:fB l.lo d=ab)(L:fB l.hi a=ab)(m:iG k p):Fv n l p=aa (cP l p,dd l p):=by
 obtain⟨aN,a2,a3⟩:=pP K;obtain⟨W,X,H⟩:=pP L;have s:=bp (O:0<l.lo.length);have w:=bp (O:0<l.hi.length);refine ad.eq ?_;unfold Fv;refine ae (bl (i:=0) s) (ae (vv h (a3 _ (bx s)) m) (ae (bl (i:=0) w) (ae (vv h (H _ (bx w)) m) ?_)));refine ad.loop (λx:Int×Int=> ∃i:Nat,x.2=i/\i<=l.lo.length/\x.1=iU ((fi l.lo p).take (max i 1))) (λx=>l.lo.length-x.2.toNat) ?_ n _ ⟨0,rfl,O,(Iy (pA s)).symm⟩ J;rintro A ⟨x,z⟩ ⟨i,e,Q,o⟩ R;dsimp only at e o⊢;subst e;refine aW (λB=>?_) λC=>?_
 ·have g:=bp (O:i<l.lo.length);refine ae (bl g) (ae (vv h (a3 _ (bx g)) m) ?_);rw[bc O];refine R _ ⟨i+1,J,O,?_⟩ J;dsimp only;rw[show max (i+1) 1=i+1 by omega];cases i with
  |zero=>rw[o,show max 0 1=1 by rfl,dQ,Iy (pA g)];omega
  |succ i=>rw[Qu (pA (p:=p) g) O,o,show max (i+1) 1=i+1 by omega]
 have c:i=l.lo.length:=O
 have F:x=cP l p:=by rw[o,c,Nat.max_eq_left O,<-Cg l.lo p,dW];rfl
 refine ad.loop (λx:Int×Int=> ∃i:Nat,x.2=i/\i<=l.hi.length/\x.1=kZ ((fi l.hi p).take (max i 1))) (λx=>l.hi.length-x.2.toNat) ?_ n _ ⟨0,rfl,O,(Iz (pA w)).symm⟩ J;rintro q ⟨y,z⟩ ⟨i,e,Q,r⟩ G;dsimp only at e r⊢;subst e;refine aW (λB=>?_) λC=>ad.some ?_
 ·have g:=bp (O:i<l.hi.length);refine ae (bl g) (ae (vv h (H _ (bx g)) m) ?_);rw[bc O];refine G _ ⟨i+1,J,O,?_⟩ J;dsimp only;rw[show max (i+1) 1=i+1 by omega];cases i with
  |zero=>rw[r,show max 0 1=1 by rfl,dQ,Iz (pA g)];omega
  |succ i=>rw[Qw (pA (p:=p) g) O,r,show max (i+1) 1=i+1 by omega]
 have c:i=l.hi.length:=O
 rw[F,r,c,Nat.max_eq_left O,<-Cg l.hi p,dW];rfl
theorem CB{l:Loop}(n:fB l.lo d=ab)(o:fB l.hi b=ab)(e:iG k p)(i:k<=3)(A:cP l p<=v/\v<dd l p):iG (k+1) (p++[v]):=by
 obtain⟨aN,a2,a3⟩:=pP n;obtain⟨m,B,r⟩:=pP o;have C: -(40*(100*40^k))<=cP l p:=by
  cases c:l.lo with
  |nil=>rw[c] at aN;simp at aN
  |cons a as=>
   have:=(QY (a3 a (by rw[c];simp)) e i).1;unfold cP fi;rw[c];exact Int.le_trans this (Rn _ _)
 have F:dd l p<=40*(100*40^k):=by
  cases c:l.hi with
  |nil=>rw[c] at m;simp at m
  |cons a as=>
   have:=(QY (r a (by rw[c];simp)) e i).2;unfold dd fi;rw[c];exact Int.le_trans (Rp _ _) this
 obtain⟨s,G,w⟩:=e;have y:(100*40^(k+1):Int)=40*(100*40^k):=by rw[Int.pow_succ];omega
 have q:=(s8 (k:=k) O).1;refine⟨by simp[s],O,λx z=>?_⟩;rw[y];rcases eC.1 z with h|h
 ·have:=w x h;simp only[cV] at this⊢;omega
 simp at h;subst h;simp only[cV];omega
def cW:List Loop->List Int->List (List Int)
 | [],p=>[p]
 |l::ls,p=>(cL (cP l p) (dd l p)).flatMap λv=>cW ls (p++[v])
def gd:List Loop->List Int->Int
 | [],_=>1
 |l::ls,p=>1+((cL (cP l p) (dd l p)).map λv=>gd ls (p++[v])).sum
theorem oK{k:Type}(f:k->Int): ∀(l:List k),(∀x∈l,1<=f x)->(l.length:Int)<=(l.map f).sum
 | [],_=>aX
 |x::l,h=>by have c:=oK f l λy a=>h y (by simp[a]);have d:=h x aX;simp only[gf,List.sum_cons,List.length_cons];omega
theorem CH: ∀(ls:List Loop) (p:List Int),1<=gd ls p
 | [],p=>gu _
 |l::ls,p=>by have:=oK (λv=>gd ls (p++[v])) (cL (cP l p) (dd l p)) λv _=>CH ls _;simp only[gd];omega
def Fit(a:List Loop):Prop:=a.length<=4/\ ∀(i:Nat) l,a[i]? =aa l->fB l.lo (i:Int)=ab/\fB l.hi (i:Int)=ab
theorem CZ{nest:List Loop}(h:l5 nest=ab):Fit nest:=by
 simp only[l5,b9,decide_eq_true_eq] at h;refine⟨h.2,λi l a=>?_⟩
 have:=MS h.1 a
 grind
theorem Bq{l:Loop}{q:List Loop}(h:o.drop k=l::q):o[k]? =aa l/\o.drop (k+1)=q/\k<o.length:=by
 have a:(o.drop k)[0]? =aa l:=by rw[h];rfl
 rw[gZ,sw] at a;refine⟨a,?_,(bS.1 a).1⟩
 have:(o.drop k).drop 1=q:=by rw[h];rfl
 rwa [List.drop_drop] at this
theorem BQ(h:o.drop k=[])(a:k<=o.length):k=o.length:=by
 have:(o.drop k).length=0:=by rw[h];rfl
 grind
theorem oj(p:List Int)(h:p.length<=1000):app [] p=aa p:=by rw[c' bQ];rfl
theorem Pf(l:List Int)(f:Int->Int)(v:Int):((l++[v]).map f).sum=(l.map f).sum+f v:=aX
theorem adj{lo:Int}(h:lo<=v):((cL lo v).length:Int)=v-lo:=by unfold cL;simp;omega
theorem Og{c:List Loop}(C:Fit c): ∀(ls:List Loop) (n k:Nat) (p:List Int) (a:Int),5000+ls.length<=n->c.drop k=ls->k<=c.length->iG k p->0<=a->a<=1200->
  ad (sk n c p a) (λr=>(gd ls p<=a->r=gd ls p)/\(a<gd ls p->a<r)/\1<=r/\r<=a+1)
 | [],n,k,p,a,Q,F,R,o,M,N=>by
  obtain⟨n,rfl⟩: ∃j,n=j+1:=⟨n-1,O⟩
  have P:=BQ F R;have q:=o.1;unfold sk;rw[bK (show(p.length:Int)=(c.length:Int) by omega)];exact ad.some ⟨λ_=>rfl,λh=>by simp only[gd] at h;omega,O,O⟩
 |l::ls,n,k,p,a,Q,F,R,o,M,N=>by
  obtain⟨n,rfl⟩: ∃j,n=j+1:=⟨n-1,O⟩
  obtain⟨W,S,d3⟩:=Bq F;obtain⟨X,Z⟩:=C.2 k l W;have q:=o.1;have G:k<=3:=by have:=C.1;omega
  simp only[List.length_cons] at Q;unfold sk;rw[bJ (show¬(p.length:Int)=(c.length:Int) by omega)];refine b6 (ae (x:=l) (by rw[q];exact bl W) (ae (Nb O X Z o) ?_));let f:Int->Int:=λv=>gd ls (p++[v]);have s: ∀v,1<=f v:=λv=>CH _ _;have T:gd (l::ls) p=1+((cL (cP l p) (dd l p)).map f).sum:=rfl;refine ad.loop (λx:Int×Int=>cP l p<=x.2/\(x.2<=dd l p\/x.2=cP l p)/\(1+((cL (cP l p) x.2).map f).sum<=a->x.1=1+((cL (cP l p) x.2).map f).sum)/\(a<1+((cL (cP l p) x.2).map f).sum->a<x.1)/\1<=x.1/\x.1<=a+1)
   (λx=>(a+1-x.1).toNat) ?_ n _ ⟨gu _,.inr rfl,λ_=>by rw[ks (gu _)];rfl,λh=>by rw[ks (gu _)] at h;simp at h;dsimp only;omega,J,J⟩ J
  rintro H ⟨x,v⟩ ⟨B,b,K,L,g,t⟩ U;dsimp only at B b K L g t⊢;refine ad.aD (λz=>z=ag (v<dd l p/\x<=a)) (λj u=>aW (λh=>u _ ?_) λh=>u _ ?_) λz V=>?_
  ·by_cases e:x<=a
   ·rw[bK e,bK ⟨h,e⟩]
   rw[bJ e,bJ λh=>e h.2]
  ·rw[bJ λD=>h D.1]
  subst V;refine aW (λ⟨i,e⟩=>?_) λw=>ad.some ?_
  ·have A:x=1+((cL (cP l p) v).map f).sum:=K (by apply Int.not_lt.1;intro h;have:=L h;omega);have m:=CB X Z o G ⟨B,i⟩;have e1:wr (a-x)=a-x:=by rw[bc O]
   rw[e1];refine ae (oj p O) (ae (c' bQ) (cq (Og C ls n (k+1) (p++[v]) (a-x) O S O m O O) λr ⟨uo,wN,al6,al7⟩=>?_));have ak0:v<dd l p:=i;have S1: -1000000000<=v/\v<=1000000000:=by
    have h9:=m.2.2 v aX;have qj:=s8 m.2.1;simp only[cV] at h9;omega
   rw[bc (n:=v+1) O,bc (n:=x+r) O];have E:1+((cL (cP l p) (v+1)).map f).sum=x+f v:=by rw[pv B,Pf,A];omega
   refine U _ ⟨J,.inl J,?_,?_,J,J⟩ J
   ·dsimp only;rw[E];intro h
    have:r=f v:=uo (O:f v<=a-x);omega
   dsimp only;rw[E];intro h
   have:a-x<r:=wN (O:a-x<f v);omega
  have d:1+((cL (cP l p) v).map f).sum<=gd (l::ls) p/\(dd l p<=v->1+((cL (cP l p) v).map f).sum=gd (l::ls) p):=by
   rw[T];by_cases h:v<dd l p
   ·refine⟨?_,λD=>O⟩;rw[A8 B h,eN,List.sum_append,w7,List.sum_cons]
    have:=oK f (cL (v+1) (dd l p)) λy _=>s y
    have:=s v;omega
   have:cL (cP l p) v=cL (cP l p) (dd l p):=by
    rcases b with I|I
    ·rw[show v=dd l p by omega]
    subst I;rw[ks (gu _),ks O]
   rw[this];exact⟨gu _,λ_=>rfl⟩
  refine⟨λh=>?_,λh=>?_,g,t⟩
  ·have e:=K O;rw[e];apply d.2;apply Int.not_lt.1;intro i;exact w ⟨i,O⟩
  apply Int.not_le.1;intro e;have i:dd l p<=v:=by apply Int.not_lt.1;intro i;exact w ⟨i,e⟩
  have:=L (by rw[d.2 i];exact h);omega
theorem FN{a:List Loop}(B:Fit a): ∀(ls:List Loop) (n k:Nat) (p:List Int) (out:List (List Int)),5000+ls.length<=n->a.drop k=ls->k<=a.length->iG k p->gd ls p<=1200->out.length<=120->
  ad (qS n out a p) (λr=>(out.length+(cW ls p).length<=120->r=out++cW ls p)/\(120<out.length+(cW ls p).length->120<r.length))
 | [],n,k,p,out,W,C,X,q,Z,S=>by
  obtain⟨n,rfl⟩: ∃j,n=j+1:=⟨n-1,O⟩
  have T:=BQ C X;have s:=q.1;have F:=B.1;unfold qS;rw[bK (show(p.length:Int)=(a.length:Int) by omega)];refine bY (ae (oj p O) (ae (c' bQ) (ad.some ⟨λ_=>rfl,λh=>by simp[cW] at h ⊢; omega⟩)))
 |l::ls,n,k,p,out,W,C,X,q,Z,S=>by
  obtain⟨n,rfl⟩: ∃j,n=j+1:=⟨n-1,O⟩
  obtain⟨b,U,d3⟩:=Bq C;obtain⟨t,u⟩:=B.2 k l b;have s:=q.1;have F:=B.1;have G:k<=3:=O
  simp only[List.length_cons] at W;unfold qS;rw[bJ (show¬(p.length:Int)=(a.length:Int) by omega)];refine b6 (ae (x:=l) (by rw[s];exact bl b) (ae (Nb O t u q) ?_));let f:Int->Int:=λv=>gd ls (p++[v]);have i: ∀v,1<=f v:=λv=>CH _ _;have V:gd (l::ls) p=1+((cL (cP l p) (dd l p)).map f).sum:=rfl;let g:Int->List (List Int):=λv=>cW ls (p++[v]);have yM:cW (l::ls) p=(cL (cP l p) (dd l p)).flatMap g:=rfl;have D:cP l p<=dd l p->dd l p-cP l p<=1199:=λH=>by
   have:=oK f (cL (cP l p) (dd l p)) λy _=>i y
   have:=adj H;omega
  refine ad.loop (λx:List (List Int)×Int=>cP l p<=x.2/\(x.2<=dd l p\/x.2=cP l p)/\(out.length+((cL (cP l p) x.2).flatMap g).length<=120->x.1=out++(cL (cP l p) x.2).flatMap g)/\(120<out.length+((cL (cP l p) x.2).flatMap g).length->120<x.1.length))
   (λx=>(dd l p-x.2).toNat) ?_ n _ ⟨gu _,.inr rfl,λ_=>by rw[ks (gu _)];simp,λh=>by rw[ks (gu _)] at h;simp at h;omega⟩ J
  rintro K ⟨x,v⟩ ⟨w,E,L,Q⟩ b8;dsimp only at w E L Q⊢;refine ad.aD (λz=>z=ag (v<dd l p/\x.length<=120)) (λj I=>aW (λh=>I _ ?_) λh=>I _ ?_) λz fr=>?_
  ·by_cases d:x.length<=120
   ·rw[bK (show(x.length:Int)<=120 by omega),bK ⟨h,d⟩]
   rw[bJ (show¬(x.length:Int)<=120 by omega),bJ λh=>d h.2]
  ·rw[bJ λM=>h M.1]
  subst fr;refine aW (λ⟨e,d⟩=>?_) λA=>ad.some ?_
  ·have m:x=out++(cL (cP l p) v).flatMap g:=L (by apply Nat.not_lt.1;intro h;have:=Q h;omega);have o:=CB t u q G ⟨w,e⟩;have R:f v<=1200:=by
    rw[V,A8 w e,eN,List.sum_append,w7,List.sum_cons] at Z
    have:=oK f (cL (v+1) (dd l p)) λy _=>i y
    have:=oK f (cL (cP l p) v) λy _=>i y;omega
   refine ae (oj p O) (ae (c' bQ) (cq (FN B ls n (k+1) (p++[v]) x O U O o R d) λr ⟨uo,wN⟩=>?_));have S1: -1000000000<=v/\v<=1000000000:=by
    have h9:=o.2.2 v aX;have qj:=s8 o.2.1;simp only[cV] at h9;omega
   rw[bc (n:=v+1) O];have N:(cL (cP l p) (v+1)).flatMap g=(cL (cP l p) v).flatMap g++g v:=by rw[pv w,mc];simp
   refine b8 _ ⟨J,.inl J,?_,?_⟩ J
   ·dsimp only;rw[N];intro h;simp only[im] at h;have cI:x.length=out.length+((cL (cP l p) v).flatMap g).length:=by rw[m,ea]
    rw[uo (O:x.length+(g v).length<=120),m,fN]
   dsimp only;rw[N];intro h;simp only[im] at h;have cI:x.length=out.length+((cL (cP l p) v).flatMap g).length:=by rw[m,ea]
   exact wN (O:120<x.length+(g v).length)
  have c:((cL (cP l p) v).flatMap g).length<=(cW (l::ls) p).length/\(dd l p<=v->(cL (cP l p) v).flatMap g=cW (l::ls) p):=by
   rw[yM];by_cases h:v<dd l p
   ·refine⟨?_,λM=>O⟩;rw[A8 w h,mc,ea];omega
   have:cL (cP l p) v=cL (cP l p) (dd l p):=by
    rcases E with P|P
    ·rw[show v=dd l p by omega]
    subst P;rw[ks (gu _),ks O]
   rw[this];exact⟨cR _,λ_=>rfl⟩
  refine⟨λh=>?_,λh=>?_⟩
  ·have d:=L O;rw[d,c.2];apply Int.not_lt.1;intro e;exact A ⟨e,by rw[d,ea];omega⟩
  apply Nat.not_le.1;intro d;have e:dd l p<=v:=by apply Int.not_lt.1;intro e;exact A ⟨e,d⟩
  have:=Q (by rw[c.2 e];exact h);omega
theorem NQ{a:List Loop}(B:Fit a): ∀(ls:List Loop) (n k:Nat) (p:List Int) (st:Int) (out:List (List Int)),5000+ls.length<=n->a.drop k=ls->k<=a.length->iG k p->0<=st->st<=1199->out.length<=120->
  ad (rU n ⟨a,st,out⟩ p) (λr=>(st+gd ls p<=1200/\out.length+(cW ls p).length<=120->r=(ab,⟨a,st+gd ls p-1,out++cW ls p⟩))/\(¬(st+gd ls p<=1200/\out.length+(cW ls p).length<=120)->r.1=ak))
 | [],n,k,p,st,out,X,F,Z,m,b,t,q=>by
  obtain⟨n,rfl⟩: ∃j,n=j+1:=⟨n-1,O⟩
  have qn:=BQ F Z;have s:=m.1;have G:=B.1;unfold rU;dsimp only;rw[bK (show(p.length:Int)=(a.length:Int) by omega)];have d:jj p=aa p:=by unfold jj;rw[aR O]
  refine bY (ae d (ae (c' bQ) (ad.some ⟨λh=>?_,λh=>?_⟩)))
  ·simp only[gd,cW,List.length_singleton] at h⊢;rw[bK bQ,show st+1-1=st by omega]
  simp only[gd,cW,List.length_singleton] at h⊢;exact bJ bQ
 |l::ls,n,k,p,st,out,X,F,Z,m,b,t,q=>by
  obtain⟨n,rfl⟩: ∃j,n=j+1:=⟨n-1,O⟩
  obtain⟨u,d2,d3⟩:=Bq F;obtain⟨D,E⟩:=B.2 k l u;have s:=m.1;have G:=B.1;have H:k<=3:=O
  simp only[List.length_cons] at X;unfold rU;dsimp only;rw[bJ (show¬(p.length:Int)=(a.length:Int) by omega)];refine b6 (ae (x:=l) (by rw[s];exact bl u) (ae (aaB O D E m) ?_));let f:Int->Int:=λv=>gd ls (p++[v]);have c: ∀v,1<=f v:=λv=>CH _ _;have I:gd (l::ls) p=1+((cL (cP l p) (dd l p)).map f).sum:=rfl;let g:Int->List (List Int):=λv=>cW ls (p++[v]);have M:cW (l::ls) p=(cL (cP l p) (dd l p)).flatMap g:=rfl;refine ad.loop (λx:List Loop×Int×List (List Int)×Int=>x.1=a/\cP l p<=x.2.2.2/\(x.2.2.2<=dd l p\/x.2.2.2=cP l p)/\x.2.1=st+((cL (cP l p) x.2.2.2).map f).sum/\x.2.2.1=out++(cL (cP l p) x.2.2.2).flatMap g/\0<=x.2.1/\x.2.1<=1199/\x.2.2.1.length<=120)
   (λx=>(1200-x.2.1).toNat) ?_ n _ ⟨rfl,gu _,.inr rfl,by dsimp only;rw[ks (gu _)];simp,by dsimp only;rw[ks (gu _)];simp,b,t,q⟩ J
  rintro K ⟨L,x,o,v⟩ ⟨N,w,P,C,i,i5,i6,S⟩ b8;dsimp only at N w P C i i5 i6 S⊢;subst N;have qt:o.length=out.length+((cL (cP l p) v).flatMap g).length:=by rw[i,ea]
  refine aW (λQ=>?_) λQ=>ad.some ?_
  ·have e:=CB D E m H ⟨w,Q⟩;have R:gd (l::ls) p≥1+((cL (cP l p) v).map f).sum+f v/\(cW (l::ls) p).length≥((cL (cP l p) v).flatMap g).length+(g v).length:=by
    rw[I,M,A8 w Q,eN,List.sum_append,w7,List.sum_cons,mc,ea,nS,ea]
    have:=oK f (cL (v+1) (dd l p)) λy _=>c y;constructor
    ·omega
    omega
   have S1: -1000000000<=v/\v<=1000000000:=by
    have h9:=e.2.2 v aX;have qj:=s8 e.2.1;simp only[cV] at h9;omega
   have e1:wr (x+1)=x+1:=by rw[bc O]
   have e2:wr (x+1+1)=x+1+1:=by rw[bc O]
   have nu:wr (v+1)=v+1:=by rw[bc O]
   rw[e1,e2,nu];refine ad.aD (λz:List Loop×Int×List (List Int)×Bool=>(z.2.2.2=ak->z.1=L/\x+f v<=1199/\o.length+(g v).length<=120/\z.2.1=x+f v/\z.2.2.1=o++g v)/\(z.2.2.2=ab-> ¬(st+gd (l::ls) p<=1200/\out.length+(cW (l::ls) p).length<=120)))
    (λj W=>aW (λh=>W _ ⟨λnv=>(by cases nv),λ_=>?_⟩) λh=>?_) λz fr=>?_
   ·have:=c v;omega
   ·have d:jj p=aa p:=by unfold jj;rw[aR O]
    refine ae d (ae (c' bQ) (cq (NQ B ls n (k+1) (p++[v]) (x+1) o O d2 O e O O S) λr ⟨uo,wN⟩=>?_));by_cases d:x+1+f v<=1200/\o.length+(g v).length<=120
    ·rw[uo d];exact W _ ⟨λ_=>⟨rfl,O,d.2,show x+1+f v-1=x+f v by omega,rfl⟩,λh=>(by cases h)⟩
    have A:=wN d;obtain⟨al8,⟨dT,al9,ro⟩⟩:=r;dsimp only at A⊢;subst A;exact W _ ⟨λh=>(by cases h),λ_=>O⟩
   obtain⟨Le,ama,amb,alV⟩:=z;obtain⟨T,U⟩:=fr;dsimp only at T U⊢;cases alV with
   |true=>exact ad.some ⟨λh=>bB h (U rfl),λ_=>rfl⟩
   |false=>
    obtain⟨rfl,Uk,K3,Ul,V⟩:=T rfl;refine b8 _ ⟨rfl,J,.inl J,?_,?_,by dsimp only;have:=c v;omega,J,?_⟩ (by dsimp only;have:=c v;omega)
    ·dsimp only;rw[pv w,Pf,Ul,C];omega
    ·dsimp only;rw[V,i,pv w,mc];simp
    dsimp only;rw[V,ea];exact K3
  have:cL (cP l p) v=cL (cP l p) (dd l p):=by
   rcases P with q|q
   ·rw[show v=dd l p by omega]
   subst q;rw[ks (gu _),ks O]
  rw[this] at C i qt;rw[<-M] at i qt;refine⟨λh=>?_,λh=>?_⟩
  ·rw[i,C,I,show st+(1+((cL (cP l p) (dd l p)).map f).sum)-1=st+((cL (cP l p) (dd l p)).map f).sum by omega]
  exact bB ⟨O,O⟩ h
def kI(a:List Loop):Option (List (List Int)):=if l5 a=ab/\gd a []<=1200/\(cW a []).length<=120 then aa (cW a []) else none
def tf:Option (List (List Int))->List (List Int)×Bool
 |none=>([],ak)
 |some l=>(l,ab)
theorem zE:iG 0 []:=⟨rfl,O,λx h=>by cases h⟩
theorem VB(k:6000<=n)(h:rm o):t8 n o=aa (tf (kI o)):=by
 refine ad.eq ?_;unfold t8;refine ae (Wr O h) ?_;unfold kI;cases d:l5 o with
 |false=>exact ad.some (by simp[tf])
 |true=>
  have c:=CZ d;refine cq (NQ c o n 0 [] 0 [] (by have:=c.1;omega) rfl O zE O O aX) λr ⟨e,i⟩=>?_;by_cases a:(0:Int)+gd o []<=1200/\([]:List (List Int)).length+(cW o []).length<=120
  ·rw[e a,aR ⟨rfl,O,by simpa using a.2⟩];exact ad.some (by simp[tf])
  rw[i a,aP λh=>a ⟨O,by simpa using h.2.2⟩];exact ad.some rfl
theorem VI(p:6000<=n)(h:rm o):EJ n o=aa (tf (kI o)):=by
 refine ad.eq ?_;unfold EJ;refine ad.aD (λz=>z= !(l5 o&&ag (gd o []<=1200))) (λj l=>ae (V5 O h) ?_) λz m=>?_
 ·cases c:l5 o with
  |false=>exact l _ (by rw[c];rfl)
  |true=>
   have d:=CZ c;refine cq (Og d o n 0 [] 1200 (by have:=d.1;omega) rfl O zE O O) λr ⟨e,i,q,s⟩=>l _ ?_;rw[c,gr];by_cases a:gd o []<=1200
   ·rw[bK a,bJ (by rw[e a];omega)];rfl
   rw[bJ a,bK (i O)];rfl
 subst m;unfold kI;cases c:l5 o with
 |false=>exact ad.some (by simp[tf])
 |true=>
  have d:=CZ c;by_cases a:gd o []<=1200
  ·rw[bK a];refine cq (FN d o n 0 [] [] (by have:=d.1;omega) rfl O zE a aX) λr ⟨e,i⟩=>?_;by_cases k:(cW o []).length<=120
   ·rw[e (by simpa using k),aR ⟨rfl,a,k⟩];refine aW (λh=>bB h bQ) λ_=>ad.some (by simp[tf])
   have:=i bQ;rw[aP λh=>k h.2.2];exact aW (λ_=>ad.some rfl) λh=>bB h O
  rw[bJ a,aP λh=>a h.2.1];exact ad.some rfl
def pT(s:List UInt8):Bool:=match s with
 | [b]=>decide (65<=b.toNat/\b.toNat<=68)
 |_=>ak
theorem Gh(h:s.length≠1):pT s=ak:=by
 match s,h with
 | [],_=>rfl
 | [b],h=>exact bB rfl h
 |_::_::_,_=>rfl
theorem I5(h:s.length=1): ∃b,s=[b]:=by
 match s,h with
 | [b],_=>exact⟨b,rfl⟩
theorem yy(b:UInt8)(k:Nat)(a:k<256):(b=UInt8.ofNat k)↔b.toNat=k:=by
 constructor
 ·intro h;rw[h];simp;omega
 intro h;rw[<-h];simp
theorem WM(b:UInt8):Lib.contains [65,66,67,68] [b]=ag (65<=b.toNat/\b.toNat<=68):=by
 have h:(b=65)↔b.toNat=65:=yy b 65 O;have i:(b=66)↔b.toNat=66:=yy b 66 O;have k:(b=67)↔b.toNat=67:=yy b 67 O;have l:(b=68)↔b.toNat=68:=yy b 68 O;by_cases a:b=65
 ·subst a;decide
 by_cases c:b=66
 ·subst c;decide
 by_cases d:b=67
 ·subst d;decide
 by_cases e:b=68
 ·subst e;decide
 rw[h] at a;rw[i] at c;rw[k] at d;rw[l] at e;rw[bJ O];rw[<-h] at a;rw[<-i] at c;rw[<-k] at d;rw[<-l] at e;simp[Lib.contains,Lib.index,a,c,d,e]
theorem Me(n:Nat)(s:List UInt8):xp n s=aa (pT s):=by
 unfold xp;by_cases h:s.length=1
 ·obtain⟨b,rfl⟩:=I5 h;simp only[aD,zk];rw[aR aX,WM];rfl
 rw[bJ (show¬(s.length:Int)=1 by omega),Gh h];rfl
theorem M5(b:UInt8):Op.bytesLess [b] [65]=ag (b.toNat<65):=by simp[Op.bytesLess,UInt8.lt_iff_toNat_lt]
theorem M4(b:UInt8):(Op.bytesLess [b] [68]||[b]==[68])=ag (b.toNat<=68):=by
 have e:(b=68)↔b.toNat=68:=yy b 68 O;by_cases h:b=68
 ·subst h;decide
 have c:b.toNat≠68:=λa=>h (e.2 a)
 have:([b]==[(68:UInt8)])=ak:=by simp[h]
 rw[this,Bool.or_false];simp only[Op.bytesLess,Bool.and_false,Bool.or_false,UInt8.lt_iff_toNat_lt]
 grind
def fY(a:b0)(d:Int):Bool:=a.bz.all (λx=>fz x d)&&(pT a.array&&ag (1<=a.bz.length/\a.bz.length<=2))
theorem aaI(c:5000<=n)(e:ki a)(d:Int):zy n a d=aa (!fz a d):=MU c e d
theorem LO(c:5000<=n){a:b0}(e:ln a.bz)(d:Int):Ab n a d=aa (fY a d):=by
 obtain⟨m,h⟩:=e;unfold Ab;rw[Me,FF];have bT:=zj (n:=n) (f:=λi=>zy n i d) (p:=λa=> !fz a d) (l:=a.bz) (λx k=>aaI c (h x k) d) O O;simp only[aD,bN];rw[bT];unfold fY
 grind
theorem LJ(B:5000<=n){a:b0}(q:ln a.bz)(d:Int):zQ n a d=aa (fY a d):=by
 obtain⟨G,C⟩:=q;refine ad.eq ?_;unfold zQ;refine q3 (l:=a.bz) (p:=λ_ a=>fz a d) O O (λk i x r w y=>?_) (λk o=>?_) (λ⟨i,x,r,H⟩=>?_)
 ·have hi:=(bS.1 r).1;have hm:=C x (bx r);rw[bK (show(i:Int)<(a.bz.length:Int) by omega)];refine bY (ad.aD (λz=>z= !fz x d) (λj m=>ae (bl r) (ae (Kv B x hm) ?_)) λz A=>?_)
  ·cases q:cN x with
   |false=>exact m _ (by unfold fz;rw[q];rfl)
   |true=>exact ae (zR B hm) (m _ (by unfold fz;rw[q,Kj];simp))
  subst A;cases s:fz x d with
  |true=>show ad (k _) _;rw[bc O];exact w s
  |false=>exact ad.some (y s)
 ·rw[bJ (show¬(a.bz.length:Int)<(a.bz.length:Int) by omega)];have e:a.bz.all (λa=>fz a d)=ab:=gQ.2 λc F=>by obtain⟨i,hi⟩:=mb F;exact o i c hi
  unfold fY;rw[e,gr];refine b6 (ad.aD (λz=>z=(pT a.array&&ag (1<=a.bz.length/\a.bz.length<=2))) (λj m=>?_) λz A=>ad.some A);by_cases h:a.array.length=1
  ·rw[bK (show(a.array.length:Int)=1 by omega)];obtain⟨b,s⟩:=I5 h;rw[s] at m⊢;rw[M5,M4];show ad (bif _ then _ else _) _;simp only[pT] at m⊢
   grind
  rw[bJ (show¬(a.array.length:Int)=1 by omega)];exact m _ (by rw[Gh h];rfl)
 unfold fY
 grind
def jN(a:az):Bool:=ag (a.aT.length=0)&&ag (a.const=0)
def k6(a:b0):Bool:=ag (a.array=[])&&ag (a.bz.length=0)
theorem Dc(k:Nat):ag ((k:Int)=0)=ag (k=0):=decide_eq_decide.2 O
theorem WI(n:Nat)(a:az):z7 n a=aa (jN a):=by unfold z7 jN;rw[Dc];cases ag (a.aT.length=0)<;>rfl
theorem X4(n:Nat)(a:az):xi n a=aa (jN a):=by unfold xi jN;rw[Dc];cases ag (a.aT.length=0)<;>rfl
theorem WJ(n:Nat)(a:b0):uf n a=aa (k6 a):=by unfold uf k6;rw[Dc];cases ag (a.array=[])<;>rfl
theorem Xm(n:Nat)(a:b0):wU n a=aa (k6 a):=by unfold wU k6;rw[Dc];cases ag (a.array=[])<;>rfl
def eY(e:Expr)(d:Int):Bool:=
 if e.kind=2 then ag (e.num=0)&&(k6 e.read&&fz e.index d)
 else if e.kind=3 then ag (e.num=0)&&(jN e.index&&fY e.read d)
 else if e.kind=1 then ag (0<=e.num/\e.num<=99)&&(jN e.index&&k6 e.read)
 else ag (e.num=0)&&(jN e.index&&k6 e.read)
def fJ(k:Int):Int:=if k=1\/k=2\/k=3 then 0 else if k=4\/k=5\/k=6 then 2 else-1
theorem X5(n:Nat)(k:Int):BU n k=aa (fJ k):=by
 unfold BU fJ;by_cases a:k=1
 ·subst a;rfl
 by_cases c:k=2
 ·subst c;rfl
 by_cases d:k=3
 ·subst d;rfl
 by_cases e:k=4
 ·subst e;rfl
 by_cases h:k=5
 ·subst h;rfl
 by_cases i:k=6
 ·subst i;rfl
 simp[aD,a,c,d,e,h,i]
theorem YN(a:5000<=n){e:Expr}(c:ki e.index)(h:ln e.read.bz)(d:Int):Cx n e d=aa (eY e d):=by
 unfold Cx eY;rw[Xm,X4,Kv a _ c,zR a c,LJ a h];by_cases cF:e.kind=2
 ·rw[aR cF,bK cF];simp only[aD,bN,cond_true,fz]
  grind
 rw[aP cF,bJ cF];by_cases ey:e.kind=3
 ·rw[aR ey,bK ey];simp only[aD,bN,cond_true,cond_false]
  grind
 rw[aP ey,bJ ey];by_cases eM:e.kind=1
 ·rw[aR eM,bK eM];simp only[aD,bN,cond_true,cond_false]
  grind
 rw[aP eM,bJ eM];simp only[aD,bN,cond_false]
 grind
end
section
def xW:Nat->Expr->Prop
 |0,_=>True
 |L+1,e=>e.bk.length<=1000/\ki e.index/\ln e.read.bz/\ ∀k∈e.bk,xW L k
def dq:Nat->Expr->Int->Bool
 |0,_,_=>ak
 |L+1,e,d=>decide (fJ e.kind=e.bk.length)&&(eY e d&&e.bk.all λk=>dq L k d)
def dM:Nat->Expr->Int
 |0,_=>1
 |L+1,e=>1+(e.bk.map (dM L)).sum
theorem qN(k:Int):fJ k<=2:=by unfold fJ;split;omega;split<;>omega
theorem Ml(d:Int): ∀(L n:Nat) (e:Expr),5000+L<=n->L<=1000->xW L e->sn (n+1) e d (L:Int)=aa (dq L e d)
 |0,n,e,_,_,_=>by unfold sn;rfl
 |L+1,n,e,R,W,A=>by
  obtain⟨X,B,C,F⟩:=A;unfold sn;refine ad.eq ?_;refine ad.aD (λz=>z= !(ag (fJ e.kind=e.bk.length)&&eY e d)) (λj s=>aW (λh=>O) λh=>ae (X5 n _) (fl (λh=>s _ ?_) λh=>ae (YN O B C d) (s _ ?_))) λz G=>?_
  ·rw[bJ h];rfl
  ·rw[bK h];rfl
  subst G;unfold dq;cases w:(ag (fJ e.kind=e.bk.length)&&eY e d) with
  |false=>exact ad.some (by rw[<-mW,w];rfl)
  |true=>
   rw[<-mW,w,gr];refine b6 ?_;obtain⟨n,rfl⟩: ∃j,n=j+1:=⟨n-1,O⟩
   have H:wr (((L+1:Nat):Int)-1)=(L:Int):=by rw[bc O];omega
   rw[H];refine q3 (l:=e.bk) (p:=λ_ k=>dq L k d) O O (λa i x m q r=>?_) (λa o=>?_) (λ⟨i,x,m,K⟩=>?_)
   ·have hi:=(bS.1 m).1;rw[bK (show(i:Int)<(e.bk.length:Int) by omega)];refine bY (ae (bl m) (ae (Ml d L n x O O (F x (bx m))) ?_));cases y:dq L x d with
    |true=>show ad (a _) _;rw[bc O];exact q y
    |false=>exact ad.some (r y)
   ·rw[bJ (show¬(e.bk.length:Int)<(e.bk.length:Int) by omega)];refine ad.some ?_;exact(gQ.2 λc Q=>by obtain⟨i,hi⟩:=mb Q;exact o i c hi).symm
   exact(mZ.2 ⟨x,bx m,by rw[K];simp⟩).symm
theorem sD: ∀(L:Nat) (e:Expr),1<=dM L e
 |0,_=>gu _
 |L+1,e=>by have:=oK (dM L) e.bk λk _=>sD L k;simp only[dM];omega
theorem CJ{k:Type}(f:k->Int)(M:Int): ∀(l:List k),(∀x∈l,f x<=M)->(l.map f).sum<=l.length*M
 | [],_=>aX
 |x::l,h=>by have c:=CJ f M l λy a=>h y (by simp[a]);have d:=h x aX;simp only[gf,List.sum_cons,List.length_cons,Int.natCast_add,Int.add_mul];omega
variable {L n i k:Nat}{e:Expr}{d b c:Int}{s:Stmt}{r:List cg}{x:Part}{a:b0}{p:Prog}{q m:List Int}
theorem gk(h:dq (L+1) e d=ab):fJ e.kind=e.bk.length/\eY e d=ab/\ ∀k∈e.bk,dq L k d=ab:=by
 simp only[dq,b9,decide_eq_true_eq,hT] at h
 grind
theorem CQ: ∀{L:Nat} {e:Expr} {d:Int},dq L e d=ab->dM L e+1<=2^L
 |0,e,d,h=>by cases h
 |L+1,e,d,h=>by
  obtain⟨i,_,a⟩:=gk h;have l:=CJ (dM L) ((2:Int)^L-1) e.bk λk c=>by have:=CQ (a k c);omega
  have m:=qN e.kind;have n:(e.bk.length:Int)*((2:Int)^L-1)<=2*((2:Int)^L-1):=by
   refine Int.mul_le_mul_of_nonneg_right O ?_
   have:(0:Int)<2^L:=Int.pow_pos O;omega
  simp only[dM];rw[Int.pow_succ];omega
theorem Mm{d:Int}: ∀(L n:Nat) (e:Expr),5000+L<=n->L<=5->dq L e d=ab->uv (n+1) e (L:Int)=aa (dM L e)
 |0,n,e,_,_,h=>by cases h
 |L+1,n,e,Q,s,h=>by
  obtain⟨R,_,p⟩:=gk h;have W:=qN e.kind;have q: ∀k∈e.bk,dM L k<=40:=λk c=>by
   have X:=CQ (p k c);have Z:(2:Int)^L<=40:=by
    match L,s with
    |0,_=>decide
    |1,_=>decide
    |2,_=>decide
    |3,_=>decide
    |4,_=>decide
   omega
  unfold uv;refine ad.eq ?_;obtain⟨n,rfl⟩: ∃j,n=j+1:=⟨n-1,O⟩
  have w:wr (((L+1:Nat):Int)-1)=(L:Int):=by rw[bc O];omega
  rw[w];refine ad.loop (λx:Int×Int=> ∃i:Nat,x.2=i/\i<=e.bk.length/\x.1=1+((e.bk.take i).map (dM L)).sum) (λx=>e.bk.length-x.2.toNat) ?_ (n+1) _ ⟨0,rfl,O,aX⟩ bQ;rintro l ⟨x,k⟩ ⟨i,c,b,m⟩ A;dsimp only at c m⊢;subst c;refine ad.aD (λz=>z=ag (i<e.bk.length)) (λj r=>aW (λh=>r _ ?_) λh=>r _ ?_) λz B=>?_
  ·rw[bK (show(0:Int)<((L+1:Nat):Int) by omega),bK O]
  ·rw[bJ O]
  subst B;refine aW (λo=>?_) λC=>ad.some ?_
  ·have a:=bp o;have hm:=bx a;refine ae (bl a) (ae (Mm (d:=d) L n _ O O (p _ hm)) ?_);have hs:=CJ (dM L) 40 (e.bk.take i) λy F=>q y (gP F);have G:=oK (dM L) (e.bk.take i) λy _=>sD L y;have H:=q _ hm;have K:=sD L e.bk[i];have f:((e.bk.take i).length:Int)<=2:=bQ
   rw[bc (n:=x+dM L e.bk[i]) O,bc O];refine A _ ⟨i+1,J,O,?_⟩ J;dsimp only;rw[eO,a,eN,List.sum_append,m];simp;omega
  have:i=e.bk.length:=O
  rw[m,this,dW];rfl
def yp(e:Expr):Bool:=(ag (e.kind=1)||decide (e.num=0))&&((ag (e.kind=2)||jN e.index)&&(ag (e.kind=3)||k6 e.read))
theorem K8(d:Int): ∀(L n:Nat) (e:Expr) (c:Int),5000+L<=n->L<=5->xW L e->0<=c->c<=12->
  ad (qy (n+1) e d (6-(L:Int)) c) (λr=>r.1=(dq L e d&&ag (c+dM L e<=12))/\(r.1=ab->r.2=c+dM L e))
 |0,n,e,c,M,N,u,P,S=>by
  unfold qy;refine ad.aD (λz=>z=ab) (λj i=>aW (λh=>i _ rfl) λh=>i _ (by decide)) λz m=>?_;subst m;exact ad.some ⟨rfl,λh=>by cases h⟩
 |L+1,n,e,c,M,N,u,P,S=>by
  obtain⟨e1,v,T,D⟩:=u;have U:=sD (L+1) e;unfold qy;have V:wr (c+1)=c+1:=bc O;have alz:wr (6-(((L+1:Nat)):Int)+1)=6-(L:Int):=by rw[bc O];omega
  rw[V,alz];refine ad.aD (λz=>z=ag (12<c+1)) (λj i=>aW (λh=>i _ (bK h).symm) λh=>i _ ?_) λz m=>?_
  ·rw[bJ h,bJ O]
  subst m;refine aW (λh=>ad.some ⟨?_,λh=>by cases h⟩) λbT=>?_
  ·rw[bJ (show¬c+dM (L+1) e<=12 by omega),k7]
  refine ad.aD (λz=>z= !yp e) (λj i=>?_) λz m=>?_
  ·rw[WI,WJ];unfold yp at i;simp only[bN];by_cases eM:e.kind=1
   ·have cF: ¬e.kind=2:=O
    have ey: ¬e.kind=3:=O
    rw[bK eM,bJ cF,bJ ey] at*;simp only[Bool.not_true,Bool.not_false,cond_true,cond_false,Bool.true_or,Bool.true_and,Bool.false_or] at*;cases Q:jN e.index with
    |false=>exact i _ (by rw[Q];rfl)
    |true=>exact i _ (by rw[Q];rfl)
   rw[bJ eM] at*;simp only[Bool.not_false,cond_true,Bool.false_or] at*;by_cases o:e.num=0
   ·rw[bK o] at*;simp only[Bool.not_true,cond_false,Bool.true_and] at*;by_cases cF:e.kind=2
    ·have ey: ¬e.kind=3:=O
     rw[bK cF,bJ ey] at*;simp only[Bool.not_true,Bool.not_false,cond_true,cond_false,Bool.true_or,Bool.true_and,Bool.false_or] at*;exact i _ rfl
    rw[bJ cF] at*;simp only[Bool.not_false,cond_true,Bool.false_or] at*;cases Q:jN e.index with
    |false=>exact i _ (by rw[Q];rfl)
    |true=>
     by_cases ey:e.kind=3
     ·rw[bK ey] at*;exact i _ (by rw[Q];rfl)
     rw[bJ ey] at*;exact i _ (by rw[Q];rfl)
   rw[bJ o] at*;exact i _ rfl
  subst m;cases s:yp e with
  |false=>
   refine ad.some ⟨?_,λh=>by cases h⟩
   have:eY e d=ak:=by
    unfold yp at s;unfold eY;by_cases cF:e.kind=2
    ·have eM: ¬e.kind=1:=O
     have ey: ¬e.kind=3:=O
     rw[aR cF];rw[bK cF,bJ eM,bJ ey] at s;revert s;cases ag (e.num=0)<;>cases k6 e.read<;>simp
    rw[aP cF];by_cases ey:e.kind=3
    ·have eM: ¬e.kind=1:=O
     rw[aR ey];rw[bJ cF,bJ eM,bK ey] at s;revert s;cases ag (e.num=0)<;>cases jN e.index<;>simp
    rw[aP ey];rw[bJ cF,bJ ey] at s;by_cases eM:e.kind=1
    ·rw[aR eM];rw[bK eM] at s;revert s;cases jN e.index<;>cases k6 e.read<;>simp
    rw[aP eM];rw[bJ eM] at s;revert s;cases ag (e.num=0)<;>cases jN e.index<;>cases k6 e.read<;>simp
   unfold dq;rw[this];simp
  |true=>
   refine b6 ?_;unfold yp at s;simp only[b9,Bool.or_eq_true,decide_eq_true_eq] at s;obtain⟨zt,E,W⟩:=s;have p: ∀(b:Bool),eY e d=b->fJ e.kind=0-> ∀(z:Bool),z=(b&&ag ((e.bk.length:Int)=0))->z=(dq (L+1) e d&&ag (c+dM (L+1) e<=12))/\(z=ab->c+1=c+dM (L+1) e):=by
    intro b bb G z m;unfold dq;rw[bb,G];by_cases h:e.bk.length=0
    ·have C:e.bk=[]:=oN h;have H:dM (L+1) e=1:=by simp[dM,C]
     rw[H,bK (O:c+1<=12)];rw[bK (show(e.bk.length:Int)=0 by omega)] at m;rw[m,C];simp
    rw[bJ (show¬(e.bk.length:Int)=0 by omega)] at m;rw[m,bJ (show¬(0:Int)=(e.bk.length:Int) by omega)];simp
   by_cases eM:e.kind=1
   ·have cF: ¬e.kind=2:=O
    have ey: ¬e.kind=3:=O
    rw[bK eM];have l:eY e d=ag (0<=e.num/\e.num<=99):=by
     unfold eY;rw[aP cF,aP ey,aR eM];rcases E with h|h
     ·exact bB h cF
     rcases W with A|A
     ·exact bB A ey
     rw[h,A];simp
    refine bY (ad.aD (λz=>z=(ag (0<=e.num/\e.num<=99)&&ag ((e.bk.length:Int)=0))) (λj i=>ae (jE n _ _ _) ?_) λz m=>ad.some ?_)
    ·cases y:ag (0<=e.num/\e.num<=99) with
     |true=>exact i _ (by rw[y];rfl)
     |false=>exact i _ (by rw[y];rfl)
    exact p _ l (by unfold fJ;rw[aR (Or.inl eM)]) _ m
   rw[bJ eM];refine b6 ?_;have o:e.num=0:=by
    rcases zt with h|h
    ·exact bB h eM
    exact h
   by_cases cF:e.kind=2
   ·have ey: ¬e.kind=3:=O
    rw[bK cF];have l:eY e d=fz e.index d:=by
     unfold eY;rw[aR cF,bK o];rcases W with A|A
     ·exact bB A ey
     rw[A];simp
    refine bY (ad.aD (λz=>z=(fz e.index d&&ag ((e.bk.length:Int)=0))) (λj i=>ae (Lf O _ v) ?_) λz m=>ad.some ?_)
    ·unfold fz at i;cases y:cN e.index with
     |false=>exact i _ (by rw[y];rfl)
     |true=>
      refine ae (AF O v) (aW (λh=>i _ ?_) λh=>i _ ?_)
      ·rw[y,bK h];rfl
      rw[y,bJ h];rfl
    exact p _ l (by unfold fJ;rw[aR (Or.inr (Or.inl cF))]) _ m
   rw[bJ cF];refine b6 ?_;have B:jN e.index=ab:=by
    rcases E with h|h
    ·exact bB h cF
    exact h
   by_cases ey:e.kind=3
   ·rw[bK ey];have l:eY e d=fY e.read d:=by
     unfold eY;rw[aP cF,aR ey,bK o,B];simp
    refine bY (ad.aD (λz=>z=(fY e.read d&&ag ((e.bk.length:Int)=0))) (λj i=>ae (LO O T d) ?_) λz m=>ad.some ?_)
    ·cases y:fY e.read d with
     |false=>exact i _ (by rw[y];rfl)
     |true=>exact i _ (by rw[y];rfl)
    exact p _ l (by unfold fJ;rw[aR (Or.inr (Or.inr ey))]) _ m
   rw[bJ ey];refine b6 ?_;have l:eY e d=ab:=by
    unfold eY;rw[aP cF,aP ey,aP eM,bK o,B];rcases W with A|A
    ·exact bB A ey
    rw[A];rfl
   have X:sW n e.kind=aa (ag (4<=e.kind/\e.kind<=6)):=by unfold sW;rw[jE];rfl
   have K:(fJ e.kind=2↔(4<=e.kind/\e.kind<=6))/\(fJ e.kind=2\/fJ e.kind= -1):=by
    unfold fJ;rw[aP O];split<;>omega
   refine ad.aD (λz=>z= !(ag (4<=e.kind/\e.kind<=6)&&ag ((e.bk.length:Int)=2))) (λj i=>ae X ?_) λz m=>?_
   ·cases y:ag (4<=e.kind/\e.kind<=6) with
    |false=>exact i _ (by rw[y];rfl)
    |true=>exact i _ (by rw[y];rfl)
   subst m;by_cases G:(4<=e.kind/\e.kind<=6)/\(e.bk.length:Int)=2
   ·rw[bK G.1,bK G.2];refine b6 ?_;obtain⟨a,b,w⟩: ∃a b,e.bk=[a,b]:=by
     have:e.bk.length=2:=O
     match dI:e.bk,this with
     | [a,b],_=>exact⟨a,b,rfl⟩
    have Z:dq (L+1) e d=(dq L a d&&dq L b d):=by
     show(ag (fJ e.kind=e.bk.length)&&(eY e d&&e.bk.all λk=>dq L k d))=_;rw[l,w,bK (show fJ e.kind=(([a,b]:List Expr).length:Int) by rw[K.1.2 G.1];rfl)];simp
    have H:dM (L+1) e=1+(dM L a+dM L b):=by simp[dM,w]
    have alX:=sD L a;have alY:=sD L b;rw[Z,H];obtain⟨n,rfl⟩: ∃j,n=j+1:=⟨n-1,O⟩
    refine ad.aD (λz:Int×Bool=>z.2=(dq L a d&&dq L b d&&ag (c+(1+(dM L a+dM L b))<=12))/\(z.2=ab->z.1=c+(1+(dM L a+dM L b)))) (λj i=>?_) λz m=>ad.some m;refine ae (x:=a) (by rw[w];rfl) (cq (K8 d L n a (c+1) O O (D a (by rw[w];simp)) O O) λr ⟨F,f⟩=>?_);cases t:r.1 with
    |false=>
     refine i _ ⟨?_,λh=>by cases h⟩;rw[t] at F;show ak=_;by_cases R:dq L a d=ab
     ·rw[R,gr] at F
      have:=of_decide_eq_false F.symm;rw[bJ (show¬c+(1+(dM L a+dM L b))<=12 by omega),k7]
     rw[Bool.eq_false_iff.2 R];rfl
    |true=>
     have f:=f t;rw[t] at F;have F:=F.symm;rw[nT,decide_eq_true_eq] at F;refine ae (x:=b) (by rw[w];rfl) ?_;rw[f];refine cq (K8 d L n b (c+1+dM L a) O O (D b (by rw[w];simp)) O O) λq ⟨oG,q2⟩=>i _ ⟨?_,λh=>?_⟩
     ·show q.1=_;rw[oG,F.1,gr];congr 1;exact decide_eq_decide.2 O
     show q.2=_;rw[q2 h];omega
   have ji:dq (L+1) e d=ak:=by
    unfold dq;rw[bJ (show¬fJ e.kind=(e.bk.length:Int) by
     intro h;rcases K.2 with I|I
     ·exact G ⟨K.1.1 I,O⟩
     omega)]
    rfl
   have:(ag (4<=e.kind/\e.kind<=6)&&ag ((e.bk.length:Int)=2))=ak:=by
    by_cases g:4<=e.kind/\e.kind<=6
    ·rw[bJ (show¬(e.bk.length:Int)=2 from λh=>G ⟨g,h⟩),k7]
    rw[bJ g];rfl
   rw[this,ji];exact ad.some ⟨rfl,λh=>by cases h⟩
def eT(s:Stmt)(d:Int):Bool:=ag (0<=d/\d<=4)&&(fY s.write d&&(dq 5 s.value d&&ag (dM 5 s.value<=12)))
def Bj(s:Stmt):Prop:=ln s.write.bz/\xW 5 s.value
theorem Wq(m:6000<=n)(h:Bj s)(d:Int):Fp n s d=aa (eT s d):=by
 obtain⟨n,rfl⟩: ∃j,n=j+1:=⟨n-1,O⟩
 refine ad.eq ?_;unfold Fp;generalize a:eT s d=T;unfold eT at a;refine ad.aD (λz:Int×Bool=>z.2=T) (λj c=>ae (jE _ _ _ _) ?_) λz k=>ad.some k;cases e:ag (0<=d/\d<=4) with
 |false=>exact c (0,ak) (by rw[<-a,e];rfl)
 |true=>
  refine bY (ae (LO O h.1 d) ?_);cases i:fY s.write d with
  |false=>exact c (0,ak) (by rw[<-a,e,i];rfl)
  |true=>
   refine bY (cq (K8 d 5 n s.value 0 O O h.2 O O) λr ⟨l,o⟩=>c _ ?_);rw[<-a,e,i];show r.1=_;rw[l];simp
theorem KO(o:6000<=n)(h:Bj s)(d:Int):tY n s d=aa (eT s d):=by
 obtain⟨n,rfl⟩: ∃j,n=j+1:=⟨n-1,O⟩
 refine ad.eq ?_;unfold tY;generalize l:eT s d=T;generalize a:(ag (0<=d/\d<=4)&&(fY s.write d&&dq 5 s.value d))=B;have c:T=(B&&ag (dM 5 s.value<=12)):=by rw[<-l,<-a];unfold eT;simp only[Bool.and_assoc]
 refine ad.aD (λz=>z= !B) (λj e=>aW (λh=>e _ ?_) λp=>aW (λh=>e _ ?_) λq=>ae (LJ O h.1 d) ?_) λz m=>?_
 ·rw[<-a,bJ (show¬(0<=d/\d<=4) by omega)];rfl
 ·rw[<-a,bJ (show¬(0<=d/\d<=4) by omega)];rfl
 ·rw[bK (O:0<=d/\d<=4)] at a;cases k:fY s.write d with
  |false=>exact bY (e _ (by rw[<-a,k];rfl))
  |true=>exact b6 (ae (Ml d 5 n s.value O O h.2) (e _ (by rw[<-a,k];rfl)))
 subst m;cases i:B with
 |false=>exact ad.some (by rw[c,i];rfl)
 |true=>
  rw[i] at a;simp only[b9] at a;refine b6 (ae (Mm (d:=d) 5 n s.value O O a.2.2) (ad.some ?_));rw[c,i];rfl
def k1(a:List Int):Bool:=ag (1<=a.length/\a.length<=2)&&a.all λd=>decide (1<=d/\d<=6)
def sR(a:List cg)(i:Nat)(x:cg):Bool:=match i with
 |0=>ab
 |i+1=>match a[i]? with
  |some y=>Op.bytesLess y.name x.name
  |none=>ak
def o6(a:List cg)(i:Nat)(x:cg):Bool:=pT x.name&&(sR a i x&&k1 x.b1)
def kv(a:List cg):Bool:=ye (o6 a) a&&ag (a.length<=4)
def F5(a:List cg):Prop:=a.length<=1000/\ ∀x∈a,x.b1.length<=1000
theorem MK{x y:cg}(h:r[i]? =aa y):sR r (i+1) x=Op.bytesLess y.name x.name:=by simp only[sR,h]
theorem acW(a:List Int):(a.any λd=> !decide (1<=d/\d<=6))= !(a.all λd=>decide (1<=d/\d<=6)):=by grind
theorem WK(Z:6000<=n){w:List cg}(h:F5 w):AH n w=aa (kv w):=by
 obtain⟨b,L⟩:=h;refine ad.eq ?_;unfold AH;refine q3 (l:=w) (p:=o6 w) O O (λa i x m s y=>?_) (λa o=>?_) (λ⟨i,x,m,A⟩=>?_)
 ·have hi:=(bS.1 m).1;have hm:=L x (bx m);rw[bK (show(i:Int)<(w.length:Int) by omega)];have Q:oe n x.b1 (λB=>rP n B)=aa (!(x.b1.all λd=>decide (1<=d/\d<=6))):=by
   rw[<-acW];exact zA (λd _=>by unfold rP;rw[jE];rfl) O O
  refine bY (ae (bl m) (ad.aD (λz=>z= !o6 w i x) (λj k=>ae (Me n _) ?_) λz R=>?_))
  ·unfold o6 k1 at k;cases C:pT x.name with
   |false=>exact bY (k _ (by rw[C];rfl))
   |true=>
    rw[C] at k;refine b6 ?_;rw[FF];have c:sR w i x=ab->ad (bN (aa (ag (1<=x.b1.length/\x.b1.length<=2))) λW=>bif !W then j ab else bN (oe n x.b1 λB=>rP n B) λX=>j X) (λr=>r=kv w):=by
     intro A;rw[A] at k;show ad (bif _ then _ else _) _;cases F:ag (1<=x.b1.length/\x.b1.length<=2) with
     |false=>exact bY (k _ (by rw[F];rfl))
     |true=>exact b6 (ae Q (k _ (by rw[F];rfl)))
    cases i with
    |zero=>exact aW (λh=>bB h (by decide)) (λ_=>c rfl)
    |succ i=>
     have G:=bp (O:i<w.length);have e:wr (((i+1:Nat):Int)-1)=(i:Int):=by rw[bc O];omega
     rw[e];refine aW (λ_=>ae (bl G) ?_) λh=>bB (show(0:Int)<((i+1:Nat):Int) by omega) h;have q:=MK (x:=x) G;cases H:Op.bytesLess w[i].name x.name with
     |false=>exact bY (k _ (by rw[q,H];rfl))
     |true=>exact b6 (c (by rw[q,H]))
  subst R;cases K:o6 w i x with
  |true=>show ad (a _) _;rw[bc O];exact s K
  |false=>exact ad.some (y K)
 ·rw[bJ (show¬(w.length:Int)<(w.length:Int) by omega)];refine ad.some ?_;unfold kv;rw[E' o,gr]
  grind
 unfold kv;rw[EN m A];rfl
theorem acI(s:List UInt8):(!Op.bytesLess s [68]&& !s==[68])= !(Op.bytesLess s [68]||s==[68]):=by grind
theorem Xd(V:6000<=n){a:List cg}(h:F5 a):Aq n a=aa (kv a):=by
 obtain⟨h0,u⟩:=h;refine ad.eq ?_;unfold Aq;refine q3 (l:=a) (p:=o6 a) O O (λq i x w K A=>?_) (λq B=>?_) (λ⟨i,x,w,v⟩=>?_)
 ·have hi:=(bS.1 w).1;have hm:=u x (bx w);rw[bK (show(i:Int)<(a.length:Int) by omega)];refine bY (ae (bl w) (ad.aD (λz=>z= !(pT x.name&&(sR a i x&&ag (1<=x.b1.length/\x.b1.length<=2)))) (λj m=>?_) λz L=>?_))
  ·refine fl (λD=>m _ ?_) λD=>?_
   ·rw[Gh O];rfl
   obtain⟨b,o⟩:=I5 (O:x.name.length=1);rw[acI];have Q: ∀(y:cg),Op.bytesLess y.name x.name=Op.bytesLess y.name [b]:=λy=>by rw[o]
   have R:pT x.name=ag (65<=b.toNat/\b.toNat<=68):=by rw[o];rfl
   have E:Op.bytesLess x.name [65]=ag (b.toNat<65):=by rw[o];exact M5 b
   have I:(Op.bytesLess x.name [68]||x.name==[68])=ag (b.toNat<=68):=by rw[o];exact M4 b
   rw[E,I];rw[R] at m;refine aW (λM=>m _ ?_) λM=>fl (λN=>m _ ?_) λN=>?_
   ·rw[bJ (show¬(65<=b.toNat/\b.toNat<=68) by omega)];rfl
   ·rw[bJ (show¬(65<=b.toNat/\b.toNat<=68) by omega)];rfl
   rw[bK (O:65<=b.toNat/\b.toNat<=68)] at m;have c:sR a i x=ab->ad (bif ag ((x.b1.length:Int)<1) then j ab else j (ag ((2:Int)<(x.b1.length:Int)))) (λr=>r=kv a):=by
    grind
   cases i with
   |zero=>exact aW (λh=>bB h (by decide)) (λ_=>c rfl)
   |succ i=>
    have Z:=bp (O:i<a.length);have e:wr (((i+1:Nat):Int)-1)=(i:Int):=by rw[bc O];omega
    rw[e];refine aW (λ_=>ae (bl Z) ?_) λh=>bB (show(0:Int)<((i+1:Nat):Int) by omega) h;have C:=MK (x:=x) Z;cases f:Op.bytesLess a[i].name x.name with
    |false=>exact bY (m _ (by rw[C,f];rfl))
    |true=>exact b6 (c (by rw[C,f]))
  subst L;cases o:(pT x.name&&(sR a i x&&ag (1<=x.b1.length/\x.b1.length<=2))) with
  |false=>
   refine ad.some (A ?_);unfold o6 k1;rw[<-mW,<-mW];rw[<-mW] at o;rw[o];rfl
  |true=>
   have F:o6 a i x=x.b1.all (λd=>decide (1<=d/\d<=6)):=by
    unfold o6 k1;rw[<-mW,<-mW];rw[<-mW] at o;rw[o];rfl
   refine b6 ?_;refine ad.loop (λy:Int=> ∃k:Nat,y=k/\k<=x.b1.length/\ ∀(t:Nat) d,t<k->x.b1[t]? =aa d->decide (1<=d/\d<=6)=ab) (λy=>x.b1.length-y.toNat) ?_ n _ ⟨0,rfl,O,λt d h=>O⟩ bQ;rintro H y ⟨k,rfl,hk,g⟩ P;refine aW (λS=>?_) λT=>?_
   ·have cD:=bp (O:k<x.b1.length);have U:wr ((k:Int)+1)=((k+1:Nat):Int):=by rw[bc O];omega
    refine ad.aD (λz=>z= !decide (1<=x.b1[k]/\x.b1[k]<=6)) (λj m=>ae (bl cD) (aW (λh=>m _ ?_) λh=>m _ ?_)) λz L=>?_
    ·rw[bJ O];rfl
    ·by_cases h6:x.b1[k]<=6
     ·rw[bJ (show¬(6:Int)<x.b1[k] by omega),bK (O:1<=x.b1[k]/\x.b1[k]<=6)];rfl
     rw[bK (show(6:Int)<x.b1[k] by omega),bJ (show¬(1<=x.b1[k]/\x.b1[k]<=6) by omega)];rfl
    subst L;cases G:ag (1<=x.b1[k]/\x.b1[k]<=6) with
    |false=>
     refine ad.some (A ?_);rw[F];exact mZ.2 ⟨_,bx cD,by rw[G];simp⟩
    |true=>
     rw[U];refine P _ ⟨k+1,rfl,O,λt d W s=>?_⟩ O;by_cases X:t=k
     ·subst X;rw[cD] at s;cases s;exact G
     exact g t d O s
   have e:wr ((i:Int)+1)=(i:Int)+1:=bc O;rw[e];refine K ?_;rw[F];refine gQ.2 λd cD=>?_;obtain⟨t,W⟩:=mb cD
   have:=(bS.1 W).1;exact g t d O W
 ·rw[bJ (show¬(a.length:Int)<(a.length:Int) by omega)];refine ad.some ?_;unfold kv;rw[E' B,gr]
  grind
 unfold kv;rw[EN w v];rfl
def ih:List Int->Int
 | []=>1
 |d::a=>d*ih a
theorem Iw{d:List Int}(h:k1 d=ab):(∃a,d=[a]/\1<=a/\a<=6)\/ ∃a b,d=[a,b]/\(1<=a/\a<=6)/\1<=b/\b<=6:=by
 simp only[k1,b9,decide_eq_true_eq,hT] at h;obtain⟨⟨e,i⟩,c⟩:=h
 match d,e,i,c with
 | [a],_,_,c=>exact .inl ⟨a,rfl,c a aX⟩
 | [a,b],_,_,c=>exact .inr ⟨a,b,rfl,c a aX,c b aX⟩
theorem RR{a:Int}(c:1<=a/\a<=6)(d:1<=b/\b<=6):1<=a*b/\a*b<=36:=by
 constructor
 ·have:=q7 c.1 d.1 O O;omega
 have:=q7 c.2 d.2 O O;omega
theorem sZ{d:List Int}(h:k1 d=ab):1<=ih d/\ih d<=36:=by
 rcases Iw h with ⟨a,rfl,c⟩|⟨a,b,rfl,c,e⟩
 ·simp[ih];omega
 have:=RR c e;simp[ih];omega
theorem FO(l:6000<=n){x:cg}(h:k1 x.b1=ab):xG n x=aa (ih x.b1):=by
 obtain⟨n,rfl⟩: ∃j,n=j+3:=⟨n-3,O⟩
 unfold xG;rcases Iw h with ⟨a,e,d⟩|⟨a,b,e,d,i⟩
 ·rw[e];have c:wr a=a:=bc O;simp[bm,ax,ih,c,show wr 1=1 from bc O]
 rw[e]
 have:=RR d i;have c:wr a=a:=bc O;have k:wr (a*b)=a*b:=bc O;simp[bm,ax,ih,c,k,show wr 1=1 from bc O,show wr 2=2 from bc O]
theorem aaC(a:6000<=n){x:cg}(h:k1 x.b1=ab):ER n x=aa (ih x.b1):=FO a h
def gN:List az->List Int->List Int->Int->Int
 |s::c,d::e,p,a=>if 0<=cT s p/\cT s p<d then gN c e p (a*d+cT s p) else-1
 |_,_,_,a=>a
def dS:List cg->b0->List Int->Int->Int
 | [],_,_,_=> -1
 |x::d,a,p,c=>if x.name=a.array then(if a.bz.length=x.b1.length then(if gN a.bz x.b1 p 0<0 then-1 else c+gN a.bz x.b1 p 0) else-1) else dS d a p (c+ih x.b1)
def i8(a:List cg):Prop:= ∀x∈a,k1 x.b1=ab
theorem UU{d:List Int}(e:k1 d=ab){l:List az}(c:l.length=d.length)(p:List Int):gN l d p 0= -1\/(0<=gN l d p 0/\gN l d p 0<ih d):=by
 rcases Iw e with ⟨a,rfl,h⟩|⟨a,b,rfl,h,k⟩
 ·match l,c with
  | [s],_=>
   simp only[gN,ih,Int.zero_mul,Int.zero_add,Int.mul_one];split<;>omega
 match l,c with
 | [s,t],_=>
  simp only[gN,ih,Int.zero_mul,Int.zero_add,Int.mul_one];split
  ·rename_i i;split
   ·rename_i m;refine .inr ⟨?_,?_⟩
    ·have:=mV i.1 (O:0<=b);omega
    have:=Int.mul_le_mul_of_nonneg_right (O:cT s p<=a-1) (O:0<=b);rw[Int.sub_mul] at this;omega
   exact .inl rfl
  exact .inl rfl
def gK(a:List cg):Int:=(a.map λx=>ih x.b1).sum
theorem Cm: ∀{xs:List cg},i8 xs-> ∀(a:b0) (p:List Int) (c:Int),0<=c->dS xs a p c= -1\/(c<=dS xs a p c/\dS xs a p c<c+gK xs)
 | [],_,a,p,c,_=> .inl rfl
 |x::xs,k,a,p,c,n=>by
  have l:=k x aX;have hs:=sZ l;have d:i8 xs:=λy i=>k y (by simp[i]);have o:0<=gK xs:=by
   have:=oK (λx:cg=>ih x.b1) xs λy i=>(sZ (d y i)).1;unfold gK;omega
  have e:gK (x::xs)=ih x.b1+gK xs:=by simp[gK]
  rw[e];simp only[dS];split
  ·split
   ·rename_i m;rcases UU l m p with h|h
    ·rw[aR O];exact .inl rfl
    rw[aP O];exact .inr ⟨O,O⟩
   exact .inl rfl
  rcases Cm d a p (c+ih x.b1) O with h|h
  ·exact .inl h
  exact .inr ⟨O,O⟩
theorem lO(h:fY a d=ab):1<=a.bz.length/\a.bz.length<=2/\ ∀x∈a.bz,cN x=ab:=by
 simp only[fY,b9,decide_eq_true_eq,hT] at h;refine⟨h.2.2.1,h.2.2.2,λx c=>?_⟩
 have:=h.1 x c;simp only[fz,b9] at this
 grind
theorem hW{k:Type}{l:List k}{x:k}(h:l[i]? =aa x):l.drop i=x::l.drop (i+1):=by obtain⟨a,c⟩:=bS.1 h;rw[lI a,c]
theorem PM{a v:Int}(c:0<=a/\a<=36)(e:1<=d/\d<=6)(h:0<=v/\v<d):0<=a*d/\a*d<=216/\0<=a*d+v:=by have i:=mV c.1 (O:0<=d);have k:=q7 c.2 e.2 O O;omega
theorem acn(D:6000<=n)(E:a.bz.length<=2)(Z: ∀x∈a.bz,cN x=ab){e:List Int}(b:k1 e=ab)(I:a.bz.length=e.length){p:List Int}(f:iG k p)(c:Int)(M:0<=c/\c<=1000000):
  bm (λl ((W,B):Int×Int)=>bif ag (B<(a.bz.length:Int)) then(bN (ax a.bz B) λg=>bN (oh n g p) λq=>bN (ax e B) λr=>bN (fG n q 0 (wr (r-1))) λC=>bif !C then(aa (-1)) else(l (wr ((wr (W*r))+q),wr (B+1)))) else(aa (wr (c+W)))) n (0,0)
   =aa (if gN a.bz e p 0<0 then-1 else c+gN a.bz e p 0):=by
 have F: ∀d∈e,1<=d/\d<=6:=by
  simp only[k1,b9,decide_eq_true_eq,hT] at b
  grind
 refine ad.eq ?_;refine ad.loop (λx:Int×Int=> ∃i:Nat,x.2=i/\i<=a.bz.length/\0<=x.1/\x.1<=36*i/\(i=0->x.1=0)/\(i=1->x.1<=5)/\gN a.bz e p 0=gN (a.bz.drop i) (e.drop i) p x.1) (λx=>a.bz.length-x.2.toNat) ?_ n _ ⟨0,rfl,O,aX,aX,λ_=>rfl,λh=>O,rfl⟩ bQ;rintro G ⟨x,z⟩ ⟨i,X,N,H,K,s,w,m⟩ j;dsimp only at X H K s w m⊢;subst X;refine aW (λt=>?_) λu=>ad.some ?_
 ·have hs:=bp (O:i<a.bz.length);have o:=bp (O:i<e.length);have y:=F _ (bx o);have v:wr (e[i]-1)=e[i]-1:=bc O;rw[hW hs,hW o] at m;simp only[gN] at m;refine ae (bl hs) (ae (vv O (Z _ (bx hs)) f) (ae (bl o) (ae (jE _ _ _ _) ?_)));rw[v];by_cases L:0<=cT a.bz[i] p/\cT a.bz[i] p<e[i]
  ·rw[aR L] at m;rw[bK (O:0<=cT a.bz[i] p/\cT a.bz[i] p<=e[i]-1)];obtain⟨P,S,T⟩:=PM (a:=x) O y L;refine b6 ?_;rw[bc (n:=x*e[i]) O,bc (n:=x*e[i]+cT a.bz[i] p) O,bc O];have A:i=0\/i=1:=O
   refine j _ ⟨i+1,J,O,J,?_,λh=>O,λh=>?_,m⟩ J
   ·dsimp only;rcases A with rfl|rfl
    ·rw[s rfl];omega
    have:=w rfl
    have:=q7 this y.2 O O;omega
   dsimp only
   grind
  rw[aP L] at m;rw[bJ (show¬(0<=cT a.bz[i] p/\cT a.bz[i] p<=e[i]-1) by omega)];refine bY (ad.some ?_)
  grind
 have Q:i=a.bz.length:=O
 have R:gN (a.bz.drop i) (e.drop i) p x=x:=by
  rw[Q,oO];unfold gN;rfl
 rw[R] at m;rw[m,aP O,bc O]
theorem abn(N:6000<=n)(P:1<=a.bz.length)(S:a.bz.length<=2)(t: ∀x∈a.bz,cN x=ab){c:List Int}(u:k1 c=ab){p:List Int}(v:iG k p)(e:Int)(T:0<=e/\e<=1000000):
  bm (λl ((b,s):Int×Int)=>bif ag (s<(a.bz.length:Int)) then(bif !decide ((a.bz.length:Int)=(c.length:Int)) then(aa (-1)) else(bN (ax a.bz s) λD=>bN (pt n D p) λr=>aD (fun(G:Bool)=>bif G then(aa (-1)) else(bN (ax c s) λH=>l (wr ((wr (b*H))+r),wr (s+1)))) λw=>bif ag (r<0) then(w ab) else(bN (ax c s) λK=>w (ag (K<=r))))) else(aa (wr (e+b)))) n (0,0)
   =aa (if a.bz.length=c.length then(if gN a.bz c p 0<0 then-1 else e+gN a.bz c p 0) else-1):=by
 by_cases f:a.bz.length=c.length
 ·rw[aR f];rw[bK (show(a.bz.length:Int)=(c.length:Int) by omega)];have L: ∀d∈c,1<=d/\d<=6:=by
   simp only[k1,b9,decide_eq_true_eq,hT] at u
   grind
  refine ad.eq ?_;refine ad.loop (λx:Int×Int=> ∃i:Nat,x.2=i/\i<=a.bz.length/\0<=x.1/\x.1<=36*i/\(i=0->x.1=0)/\(i=1->x.1<=5)/\gN a.bz c p 0=gN (a.bz.drop i) (c.drop i) p x.1) (λx=>a.bz.length-x.2.toNat) ?_ n _ ⟨0,rfl,O,aX,aX,λ_=>rfl,λh=>O,rfl⟩ bQ;rintro Q ⟨x,z⟩ ⟨i,F,U,R,W,y,A,o⟩ E;dsimp only at F R W y A o⊢;subst F;refine aW (λI=>?_) λM=>ad.some ?_
  ·have hs:=bp (O:i<a.bz.length);have m:=bp (O:i<c.length);have B:=L _ (bx m);rw[hW hs,hW m] at o;simp only[gN] at o;refine b6 (ae (bl hs) (ae (yw O (t _ (bx hs)) v) (ad.aD (λz=>z= !decide (0<=cT a.bz[i] p/\cT a.bz[i] p<c[i])) (λj g=>aW (λh=>g _ ?_) λh=>ae (bl m) (g _ ?_)) λz F=>?_)))
   ·rw[bJ O];rfl
   ·by_cases q:c[i]<=cT a.bz[i] p
    ·rw[bK q,bJ O];rfl
    rw[bJ q,bK O];rfl
   subst F;by_cases q:0<=cT a.bz[i] p/\cT a.bz[i] p<c[i]
   ·rw[aR q] at o;rw[bK q];obtain⟨V,g2,g3⟩:=PM (a:=x) O B q;refine b6 (ae (bl m) ?_);rw[bc (n:=x*c[i]) O,bc (n:=x*c[i]+cT a.bz[i] p) O,bc O];have C:i=0\/i=1:=O
    refine E _ ⟨i+1,J,O,J,?_,λh=>O,λh=>?_,o⟩ J
    ·dsimp only;rcases C with rfl|rfl
     ·rw[y rfl];omega
     have:=A rfl
     have:=q7 this B.2 O O;omega
    dsimp only
    grind
   rw[aP q] at o;rw[bJ q];refine bY (ad.some ?_)
   grind
  have X:i=a.bz.length:=O
  have Z:gN (a.bz.drop i) (c.drop i) p x=x:=by
   rw[X,oO];unfold gN;rfl
  rw[Z] at o;rw[o,aP O,bc O]
 rw[aP f,bJ (show¬(a.bz.length:Int)=(c.length:Int) by omega)];obtain⟨n,rfl⟩: ∃j,n=j+1:=⟨n-1,O⟩
 simp only[bm]
 grind
theorem wX(y:6000<=n)(R:p.aQ.length<=4)(B:i8 p.aQ)(C:fY a d=ab)(F:iG k q):qe n p a q=aa (dS p.aQ a q 0):=by
 obtain⟨a0,aN,a2⟩:=lO C;refine ad.eq ?_;unfold qe;refine ad.loop (λx:Int×Int=> ∃i:Nat,x.2=i/\i<=p.aQ.length/\0<=x.1/\x.1<=36*i/\dS p.aQ a q 0=dS (p.aQ.drop i) a q x.1) (λx=>p.aQ.length-x.2.toNat) ?_ n _ ⟨0,rfl,O,aX,aX,rfl⟩ bQ;rintro m ⟨x,z⟩ ⟨i,A,W,o,r,c⟩ G;dsimp only at A o r c⊢;subst A;refine aW (λH=>?_) λK=>ad.some ?_
 ·have s:=bp (O:i<p.aQ.length);have h:=B _ (bx s);have lX:=sZ h;rw[hW s] at c;simp only[dS] at c;refine ae (bl s) (fl (λl=>?_) λL=>?_)
  ·rw[aP l] at c;refine ae (aaC y h) ?_;rw[bc (n:=x+ih p.aQ[i].b1) O,bc O];exact G _ ⟨i+1,J,O,J,J,c⟩ J
  rw[aR L] at c;refine fl (λl=>ad.some ?_) λQ=>?_
  ·rw[c,aP O]
  have e:a.bz.length=p.aQ[i].b1.length:=O
  rw[aR e] at c;exact ad.of (acn y aN a2 h e F x O) c.symm
 have w:i=p.aQ.length:=O
 rw[c,w,oO];rfl
theorem Om(w:6000<=n)(L:r.length<=4)(A:i8 r)(B:fY a d=ab)(C:iG k q):xH n r a q=aa (dS r a q 0):=by
 obtain⟨a0,aN,a2⟩:=lO B;refine ad.eq ?_;unfold xH;refine ad.loop (λx:Int×Int=> ∃i:Nat,x.2=i/\i<=r.length/\0<=x.1/\x.1<=36*i/\dS r a q 0=dS (r.drop i) a q x.1) (λx=>r.length-x.2.toNat) ?_ n _ ⟨0,rfl,O,aX,aX,rfl⟩ bQ;rintro h ⟨x,z⟩ ⟨i,y,Q,l,m,c⟩ F;dsimp only at y l m c⊢;subst y;refine aW (λG=>?_) λH=>ad.some ?_
 ·have o:=bp (O:i<r.length);have e:=A _ (bx o);have lX:=sZ e;rw[hW o] at c;simp only[dS] at c;refine ae (bl o) (fl (λp=>?_) λK=>?_)
  ·rw[aP p] at c;refine ae (FO w e) ?_;rw[bc (n:=x+ih r[i].b1) O,bc O];exact F _ ⟨i+1,J,O,J,J,c⟩ J
  rw[aR K] at c;exact ad.of (abn w a0 aN a2 e C x O) c.symm
 have s:i=r.length:=O
 rw[c,s,oO];rfl
def dv:Nat->Expr->List b0
 |0,_=>[]
 |L+1,e=>(if e.kind=3 then [e.read] else [])++e.bk.flatMap (dv L)
theorem Ba{d:Int}: ∀{L:Nat} {e:Expr},dq L e d=ab-> ∀a∈dv L e,fY a d=ab
 |0,e,h,a,c=>by cases h
 |L+1,e,h,a,c=>by
  obtain⟨o,i,m⟩:=gk h;simp only[dv,List.mem_append,List.mem_flatMap] at c;rcases c with c|⟨k,n,c⟩
  ·split at c
   ·rename_i l;simp at c;subst c;unfold eY at i;rw[aP O,aR l] at i;simp only[b9] at i;exact i.2.2
   simp at c
  exact Ba (m k n) a c
theorem A': ∀(L:Nat) (e:Expr),((dv L e).length:Int)<=dM L e
 |0,e=>by simp[dv,dM]
 |L+1,e=>by
  have h: ∀(l:List Expr),((l.flatMap (dv L)).length:Int)<=(l.map (dM L)).sum:=by
   intro l;induction l with
   |nil=>simp
   |cons k l a=>
    have:=A' L k;simp only[List.flatMap_cons,im,gf,List.sum_cons];omega
  have:=h e.bk;simp only[dv,dM,im];split
  ·rw[sv];omega
  rw[List.length_nil];omega
theorem Gk{d:Int}: ∀(L n:Nat) (e:Expr),6000+L<=n->L<=5->dq L e d=ab->rT (n+1) e=aa (dv L e)
 |0,n,e,_,_,h=>by cases h
 |L+1,n,e,C,w,h=>by
  obtain⟨F,G,s⟩:=gk h;have y:=qN e.kind;unfold rT;refine ad.eq (aW (λc=>ad.some ?_) λm=>?_)
  ·have:e.bk=[]:=by
    have H:fJ e.kind=0:=by unfold fJ;rw[aR (Or.inr (Or.inr c))]
    exact oN O
   simp[dv,c,this]
  obtain⟨n,rfl⟩: ∃j,n=j+1:=⟨n-1,O⟩
  have o: ∀k∈e.bk,((dv L k).length:Int)<=100:=λk l=>by
   have K:=CQ (s k l);have Q:(2:Int)^L<=40:=by
    match L,w with
    |0,_=>decide
    |1,_=>decide
    |2,_=>decide
    |3,_=>decide
    |4,_=>decide
   have:=A' L k;omega
  refine ad.loop (λx:List b0×Int=> ∃i:Nat,x.2=i/\i<=e.bk.length/\x.1=(e.bk.take i).flatMap (dv L)/\(x.1.length:Int)<=100*i) (λx=>e.bk.length-x.2.toNat) ?_ (n+1) _ ⟨0,rfl,O,aX,aX⟩ bQ;rintro p ⟨x,k⟩ ⟨i,l,R,q,r⟩ z;dsimp only at l q r⊢;subst l;refine aW (λA=>?_) λB=>ad.some ?_
  ·have a:=bp (O:i<e.bk.length);have hm:=bx a;have bb:=o _ hm;refine ae (bl a) (ae (Gk (d:=d) L n _ O O (s _ hm)) (ae (c' O) ?_));rw[bc O];refine z _ ⟨i+1,J,O,?_,by dsimp only;rw[ea];omega⟩ J;dsimp only;rw[eO,a,mc,q];simp
  have:i=e.bk.length:=O
  rw[q,this,dW];simp[dv,m]
theorem AN(n:Nat){a:az}(h:a.aT.length<=1000):rD n a=aa a:=by
 unfold rD;refine ad.eq (aW (λd=>ad.some ?_) λd=>ae (oj _ h) (ad.some rfl));obtain⟨cs,c⟩:=a
 have:cs=[]:=oN (by simpa using d)
 grind
theorem v6(q:5000<=n)(h:ln a.bz):rE n a=aa a:=by
 obtain⟨r,l⟩:=h;refine ad.eq ?_;unfold rE;refine ad.loop (λx:List az×Int=> ∃i:Nat,x.2=i/\i<=a.bz.length/\x.1=a.bz.take i) (λx=>a.bz.length-x.2.toNat) ?_ n _ ⟨0,rfl,O,aX⟩ bQ;rintro d ⟨x,k⟩ ⟨i,e,s,c⟩ m;dsimp only at e c⊢;subst e;refine aW (λo=>?_) λp=>ad.some ?_
 ·have hs:=bp (O:i<a.bz.length);have w:x.length=i:=by rw[c,cZ];omega
  refine ae (bl hs) (ae (AN n (l _ (bx hs))) (ae (c' bQ) ?_));rw[bc O];refine m _ ⟨i+1,J,O,?_⟩ J;dsimp only;rw[eO,hs,c];rfl
 have:i=a.bz.length:=O
 rw[c,this,dW]
theorem Qs{l:List az}(e:l.length<=2)(c: ∀a∈l,cN a=ab):ln l:=⟨O,λa d=>by have:=(fo (c a d)).1;unfold ki;omega⟩
theorem Na{d:Int}: ∀(L n:Nat) (e:Expr) (out:List b0),6000+L<=n->L<=5->dq L e d=ab->(out.length:Int)<=1000+200*(6-(L:Int))->uw (n+1) out e=aa (out++dv L e)
 |0,n,e,out,_,_,h,_=>by cases h
 |L+1,n,e,out,W,B,h,X=>by
  obtain⟨Z,b,w⟩:=gk h;have C:=qN e.kind;unfold uw;refine ad.eq (ad.aD (λz=>z=out++(if e.kind=3 then [e.read] else [])) (λj y=>aW (λa=>?_) λo=>y _ (by rw[aP o];simp)) λz A=>?_)
  ·have F:=Ba h e.read (by simp[dv,a]);obtain⟨_,G,H⟩:=lO F;exact ae (v6 O (Qs G H)) (ae (c' bQ) (y _ (by rw[aR a])))
  subst A;obtain⟨n,rfl⟩: ∃j,n=j+1:=⟨n-1,O⟩
  by_cases a:e.kind=3
  ·have c:e.bk=[]:=by
    have A:fJ e.kind=0:=by unfold fJ;rw[aR (Or.inr (Or.inr a))]
    exact oN O
   rw[c];refine ad.some ?_;simp[dv,a,c]
  have p: ∀k∈e.bk,((dv L k).length:Int)<=100:=λk m=>by
   have f:=CQ (w k m);have g:(2:Int)^L<=40:=by
    match L,B with
    |0,_=>decide
    |1,_=>decide
    |2,_=>decide
    |3,_=>decide
    |4,_=>decide
   have:=A' L k;omega
  rw[aP a,ke];refine ad.loop (λx:List b0×Int=> ∃i:Nat,x.2=i/\i<=e.bk.length/\x.1=out++(e.bk.take i).flatMap (dv L)/\(x.1.length:Int)<=out.length+100*i) (λx=>e.bk.length-x.2.toNat) ?_ (n+1) _ ⟨0,rfl,O,aX,aX⟩ bQ;rintro q ⟨x,k⟩ ⟨i,m,t,r,s⟩ K;dsimp only at m r s⊢;subst m;refine aW (λQ=>?_) λR=>ad.some ?_
  ·have l:=bp (O:i<e.bk.length);have hm:=bx l;have bb:=p _ hm;refine ae (bl l) (ae (Na (d:=d) L n _ x O O (w _ hm) O) ?_);rw[bc O];refine K _ ⟨i+1,J,O,?_,by dsimp only;rw[ea];omega⟩ J;dsimp only;rw[eO,l,mc,r];simp
  have:i=e.bk.length:=O
  rw[r,this,dW];simp[dv,a]
theorem Q5{o:List Loop}(c:Fit o): ∀(ls:List Loop) (k:Nat) (p q:List Int),o.drop k=ls->k<=o.length->iG k p->q∈cW ls p->iG o.length q
 | [],k,p,q,d,h,e,a=>by
  have:=BQ d h;simp only[cW,List.mem_singleton] at a;subst a;subst this;exact e
 |l::ls,k,p,q,d,h,e,a=>by obtain⟨i,m,x⟩:=Bq d;obtain⟨n,r⟩:=c.2 k l i;have s:=c.1;simp only[cW,List.mem_flatMap] at a;obtain⟨v,w,a⟩:=a;exact Q5 c ls (k+1) _ q m O (CB n r e O (x3.1 w)) a
theorem o7{o:List Loop}{z:List (List Int)}(h:kI o=aa z):Fit o/\z.length<=120/\(∀q∈z,iG o.length q)/\z=cW o []/\gd o []<=1200:=by
 unfold kI at h;split at h
 ·rename_i a;cases h;have c:=CZ a.1;exact⟨c,a.2.2,λq d=>Q5 c o 0 [] q rfl O zE d,rfl,a.2.1⟩
 cases h
def hL(c:List cg)(s:Stmt)(q:List Int):Bool:=ag (0<=dS c s.write q 0)&&(dv 5 s.value).all λa=>decide (0<=dS c a q 0)
theorem gl(h:eT s d=ab):fY s.write d=ab/\dq 5 s.value d=ab/\(∀a∈dv 5 s.value,fY a d=ab)/\(dv 5 s.value).length<=12:=by
 simp only[eT,b9,decide_eq_true_eq] at h;obtain⟨_,e,c,i⟩:=h
 have:=A' 5 s.value;exact⟨e,c,Ba c,O⟩
theorem YF(F:7000<=n)(c:p.aQ.length<=4)(e:i8 p.aQ)(r:eT s d=ab)(i:iG k q):D4 n p s q=aa (hL p.aQ s q):=by
 obtain⟨w,x,y,G⟩:=gl r;obtain⟨n,rfl⟩: ∃j,n=j+1:=⟨n-1,O⟩
 refine ad.eq ?_;unfold D4;generalize m:hL p.aQ s q=T;unfold hL at m;refine ad.aD (λz=>z=T) (λj o=>ae (wX O c e w i) (aW (λh=>?_) λh=>o _ ?_)) λz A=>ad.some A
 ·have bT:=VD (n:=n+1) (f:=λB=>y3 (n+1) B p q) (p:=λa=>decide (dS p.aQ a q 0<0)) (l:=dv 5 s.value)
   (λa C=>by unfold y3;rw[wX O c e (y a C) i];rfl) O O
  refine ae (Gk (d:=d) 5 n s.value O O x) (ae bT (o _ ?_))
  grind
 rw[<-m,bJ h];rfl
theorem L7(v:7000<=n)(F:r.length<=4)(G:i8 r)(L:eT s d=ab)(H:iG k q):
  wT n r s q=aa (if hL r s q=ab then((dv 5 s.value).map λa=>dS r a q 0,dS r s.write q 0,ab) else([],0,ak)):=by
 obtain⟨Q,W,X,D⟩:=gl L;obtain⟨n,rfl⟩: ∃j,n=j+1:=⟨n-1,O⟩
 refine ad.eq ?_;unfold wT;refine ae (Na (d:=d) 5 n s.value [] O O W aX) ?_;rw[uG];generalize Z:dv 5 s.value=R at*;have e:hL r s q=(ag (0<=dS r s.write q 0)&&R.all λa=>decide (0<=dS r a q 0)):=by unfold hL;rw[Z]
 refine ad.loop (λx:List Int×Int=> ∃i:Nat,x.2=i/\i<=R.length/\x.1=(R.take i).map (λa=>dS r a q 0)/\ ∀(t:Nat) a,t<i->R[t]? =aa a->0<=dS r a q 0) (λx=>R.length-x.2.toNat) ?_ (n+1) _ ⟨0,rfl,O,aX,λt a h=>O⟩ J;rintro w ⟨x,z⟩ ⟨i,K,E,p,y⟩ b;dsimp only at K p y⊢;subst K;refine aW (λf=>?_) λg=>?_
 ·have bL:=bp (O:i<R.length);have hm:=bx bL;refine ae (bl bL) (ae (Om O F G (X _ hm) H) (aW (λl=>ad.some ?_) λm=>?_))
  ·rw[aP];rw[e];intro h;rw[nT] at h
   have:=gQ.1 h.2 _ hm;rw[decide_eq_true_eq] at this;omega
  have u:x.length<=12:=by rw[p,dJ,cZ];omega
  refine ae (c' bQ) ?_;rw[bc O];refine b _ ⟨i+1,J,O,?_,λt a A c=>?_⟩ J
  ·dsimp only;rw[eO,bL,eN,p];rfl
  by_cases B:t=i
  ·subst B;rw[bL] at c;cases c;omega
  exact y t a O c
 have C:i=R.length:=O
 have o:R.all (λa=>decide (0<=dS r a q 0))=ab:=gQ.2 (λa hm=>by
  obtain⟨t,A⟩:=mb hm
  have:=(bS.1 A).1;exact bK (y t a O A))
 rw[e,o,Bool.and_true];refine ae (Om O F G Q H) (aW (λl=>ad.some ?_) λm=>ad.some ?_)
 ·rw[aP (by rw[decide_eq_true_eq];omega)]
 rw[aR (by rw[decide_eq_true_eq];omega),p,C,dW]
def k2(q:List Int):Bool:=ag (q.length<=4)&&q.all λx=>decide (-9999<=x/\x<=9999)
theorem XS(c:5000<=n)(h:q.length<=1000):Bm n q=aa (k2 q):=by
 unfold Bm k2;have bT:=zA (n:=n) (f:=λa=>zL n a) (p:=λx=> !decide (-9999<=x/\x<=9999)) (l:=q) (λx _=>by unfold zL;rw[jE];rfl) O O;simp only[aD,bN]
 grind
theorem Xn(s:5000<=n)(h:q.length<=1000):A4 n q=aa (k2 q):=by
 refine ad.eq ?_;unfold A4;refine q3 (l:=q) (p:=λ_ x=>decide (-9999<=x/\x<=9999)) O O (λa i x e k m=>?_) (λa d=>?_) (λ⟨i,x,e,o⟩=>?_)
 ·have hi:=(bS.1 e).1;rw[bK (show(i:Int)<(q.length:Int) by omega)];refine bY (ae (bl e) (ae (zI n x 9999 O) ?_));cases o:ag (-9999<=x/\x<=9999) with
  |true=>show ad (a _) _;rw[bc O];exact k o
  |false=>exact ad.some (m o)
 ·rw[bJ (show¬(q.length:Int)<(q.length:Int) by omega)];refine ad.some ?_;unfold k2;rw[gQ.2 (λc r=>by obtain⟨i,hi⟩:=mb r;exact d i c hi),Bool.and_true]
  grind
 unfold k2
 grind
theorem PJ{k:Type}(p q:k->Bool): ∀l:List k,(l.all p&&l.all q)=l.all (λx=>p x&&q x)
 | []=>rfl
 |x::l=>by simp only[List.all_cons,<-PJ p q l];cases p x<;>cases q x<;>cases l.all p<;>cases l.all q<;>rfl
def o1(a:Part):Bool:=ag (1<=a.body.length/\a.body.length<=4)&&a.body.all λs=>eT s (a.nest.length:Int)
def dG(a:Part):List (List Int):=(kI a.nest).getD []
def d'(c:List cg)(a:Part):Bool:=(kI a.nest).isSome&&(o1 a&&a.body.all λs=>(dG a).all λq=>hL c s q&&k2 q)
def CV(x:Part):Prop:=rm x.nest/\x.body.length<=1000/\ ∀s∈x.body,Bj s
def jB(p:Prog):Prop:=F5 p.aQ/\p.parts.length<=1000/\ ∀x∈p.parts,CV x
theorem gy(h:d' r x=ab):kI x.nest=aa (dG x)/\(1<=x.body.length/\x.body.length<=4)/\(∀s∈x.body,eT s (x.nest.length:Int)=ab)/\ ∀s∈x.body,∀q∈dG x,hL r s q=ab/\k2 q=ab:=by
 simp only[d',o1,b9,decide_eq_true_eq,hT] at h;refine⟨?_,h.2.1.1,h.2.1.2,h.2.2⟩;unfold dG;cases a:kI x.nest with
 |none=>rw[a] at h;simp at h
 |some c=>rfl
theorem IE{list:List cg}(h:kv list=ab):list.length<=4/\i8 list:=by
 simp only[kv,b9,decide_eq_true_eq] at h;refine⟨h.2,λx a=>?_⟩;obtain⟨i,c⟩:=mb a
 have:=MS h.1 c;simp only[o6,b9] at this
 grind
theorem FP(cY:7000<=n){a:List cg}(M:a.length<=4)(N:i8 a)(P:CV x):
  xh n a x=aa (if d' a x=ab then(((dG x).length:Int)*(x.body.length:Int),ab) else(0,ak)):=by
 obtain⟨S,h2,U⟩:=P;refine ad.eq ?_;unfold xh;generalize v:(if d' a x=ab then(((dG x).length:Int)*(x.body.length:Int),ab) else((0:Int),ak))=T;refine ae (VI O S) ?_;have d:d' a x=ak->((0:Int),ak)=T:=λh=>by rw[<-v,h];rfl
 refine ad.aD (λz=>z= !((kI x.nest).isSome&&ag (1<=x.body.length/\x.body.length<=4))) (λj m=>?_) λz W=>?_
 ·cases o:kI x.nest with
  |none=>exact bY (m _ (by rw[o];rfl))
  |some c=>
   refine b6 (aW (λh=>m _ ?_) λh=>m _ ?_)
   ·rw[o,bJ O];rfl
   rw[o];by_cases h4:x.body.length<=4
   ·rw[bJ (show¬(4:Int)<(x.body.length:Int) by omega),bK O];rfl
   rw[bK (show(4:Int)<(x.body.length:Int) by omega),bJ O];rfl
 subst W;cases o:kI x.nest with
 |none=>exact ad.some (d (by unfold d';rw[o];rfl))
 |some c=>
  obtain⟨ji,V,X,ah0,ah1⟩:=o7 o;have B:dG x=c:=by unfold dG;rw[o];rfl
  by_cases Q:1<=x.body.length/\x.body.length<=4
  ·rw[bK Q];refine b6 ?_;have p:d' a x=x.body.all (λs=>eT s (x.nest.length:Int)&&c.all λq=>hL a s q&&k2 q):=by
    unfold d' o1;rw[o,B,bK Q,Option.isSome_some,gr,gr];exact PJ _ _ _
   refine ad.loop (λy:Int=> ∃i:Nat,y=i/\i<=x.body.length/\ ∀(t:Nat) s,t<i->x.body[t]? =aa s->(eT s (x.nest.length:Int)&&c.all λq=>hL a s q&&k2 q)=ab) (λy=>x.body.length-y.toNat) ?_ n _ ⟨0,rfl,O,λt s h=>O⟩ bQ;rintro Z y ⟨i,rfl,hi,D⟩ b8;refine aW (λhlt=>?_) λkr=>ad.some ?_
   ·have bL:=bp (O:i<x.body.length);have hm:=bx bL;refine ae (bl bL) (ae (KO O (U _ hm) _) ?_);cases l:eT x.body[i] (x.nest.length:Int) with
    |false=>
     refine bY (ad.some (d ?_));rw[p];exact mZ.2 ⟨_,hm,by rw[l];simp⟩
    |true=>
     refine b6 ?_;show ad (bm (λe (iI:Int)=>bif ag (iI<(c.length:Int)) then _ else _) n 0) _;refine ad.loop (λy:Int=> ∃k:Nat,y=k/\k<=c.length/\ ∀(t:Nat) q,t<k->c[t]? =aa q->(hL a x.body[i] q&&k2 q)=ab) (λy=>c.length-y.toNat) ?_ n _ ⟨0,rfl,O,λt s h=>O⟩ bQ;rintro e y ⟨k,rfl,hk,C⟩ b;refine aW (λE=>?_) λI=>?_
     ·have r:=bp (O:k<c.length);have F:=bx r;have G:=X _ F;have f:c[k].length<=1000:=by have:=G.1;have:=G.2.1;omega
      refine ae (bl r) (ae (L7 O M N l G) (ad.aD (λz=>z= !(hL a x.body[i] c[k]&&k2 c[k])) (λj m=>?_) λz W=>?_))
      ·cases H:hL a x.body[i] c[k] with
       |false=>
        rw[H] at m;exact bY (m _ rfl)
       |true=>
        rw[H] at m;exact b6 (ae (Xn O f) (m _ rfl))
      subst W;cases H:(hL a x.body[i] c[k]&&k2 c[k]) with
      |false=>
       refine ad.some (d ?_);rw[p];refine mZ.2 ⟨_,hm,?_⟩;rw[l,gr];rw[mZ.2 ⟨_,F,by rw[H];simp⟩];simp
      |true=>
       show ad (e _) _;rw[bc O];refine b _ ⟨k+1,O,O,λt q R w=>?_⟩ O;by_cases g:t=k
       ·subst g;rw[r] at w;cases w;exact H
       exact C t q O w
     rw[bc O];refine b8 _ ⟨i+1,O,O,λt s R A=>?_⟩ O;by_cases u:t=i
     ·subst u;rw[bL] at A;cases A;rw[l,gr];refine gQ.2 λq G=>?_;obtain⟨mU,K⟩:=mb G
      have:=(bS.1 K).1;exact C mU q O K
     exact D t s O A
   have L:d' a x=ab:=by
    rw[p];refine gQ.2 λs hs=>?_;obtain⟨t,R⟩:=mb hs
    have:=(bS.1 R).1;exact D t s O R
   rw[<-v,L,aR rfl,B];show(wr ((c.length:Int)*(x.body.length:Int)),ab)=_;have nw:(0:Int)<=(c.length:Int)*(x.body.length:Int):=mV O O;have vO:(c.length:Int)*(x.body.length:Int)<=120*4:=q7 O O O O;rw[bc O]
  rw[bJ Q];refine ad.some (d ?_);unfold d' o1;rw[bJ Q];simp
def d6(x:Part):Int:=((dG x).length:Int)*(x.body.length:Int)
def ew(i:Nat)(x:Part):List bO:=(dG x).flatMap λq=>(List.range x.body.length).map fun(k:Nat)=>(⟨(i:Int),(k:Int),q⟩:bO)
def I(a:List Part):List bO:=a.zipIdx.flatMap λy=>ew y.2 y.1
def kz(p:Prog):Bool:=kv p.aQ&&(ag (p.parts.length<=4)&&p.parts.all (d' p.aQ))
def bG(p:Prog):Bool:=kz p&&ag ((p.parts.map d6).sum<=120)
theorem aiT(l:List Part)(x:Part):I (l++[x])=I l++ew l.length x:=by
 unfold I
 grind
theorem J'{l:List Part}(h:l[i]? =aa x):I (l.take (i+1))=I (l.take i)++ew i x:=by have hi:=(bS.1 h).1;rw[eO,h];show I (l.take i++[x])=_;rw[aiT,cZ,Nat.min_eq_left (Nat.le_of_lt hi)]
theorem BO{k R:Type}(f:k->List R)(m:Nat)(h: ∀x,(f x).length=m): ∀l:List k,(l.flatMap f).length=l.length*m
 | []=>aX
 |x::l=>by rw[nS,ea,h,BO f m h l,List.length_cons,eu];omega
theorem J7(i:Nat)(x:Part):((ew i x).length:Int)=d6 x:=by
 unfold ew d6;rw[BO _ x.body.length λq=>aX]
 grind
theorem Pe{l:List Part}(h:l[i]? =aa x):((l.take (i+1)).map d6).sum=((l.take i).map d6).sum+d6 x:=by rw[eO,h];simp
theorem S8: ∀(l:List Part) (i:Nat),i<=l.length->((I (l.take i)).length:Int)=((l.take i).map d6).sum
 |l,0,_=>by simp[I]
 |l,i+1,h=>by
  have bL:=bp (O:i<l.length);rw[J' bL,ea,Pe bL]
  have:=S8 l i O
  have:=J7 i l[i];omega
theorem y6(l:List Part):((I l).length:Int)=(l.map d6).sum:=by
 have:=S8 l l.length (cR _)
 grind
theorem xu(h:d' r x=ab):0<=d6 x/\d6 x<=480:=by
 obtain⟨a,c,_⟩:=gy h;obtain⟨_,d,_⟩:=o7 a;unfold d6;refine⟨mV O O,?_⟩
 have:=q7 (show((dG x).length:Int)<=120 by omega) (show(x.body.length:Int)<=4 by omega) O O;omega
theorem kN(g:7000<=n)(H:jB p):lu n p=aa (bG p):=by
 obtain⟨K,u,L⟩:=H;refine ad.eq ?_;unfold lu;generalize q:bG p=T;unfold bG kz at q;refine ad.aD (λz=>z= !(kv p.aQ&&ag (p.parts.length<=4))) (λj C=>ae (Xd O K) ?_) λz m=>?_
 ·cases e:kv p.aQ with
  |false=>exact bY (C _ (by rw[e];rfl))
  |true=>
   refine b6 (C _ ?_);rw[e];by_cases F:p.parts.length<=4
   ·rw[bJ (show¬(4:Int)<(p.parts.length:Int) by omega),bK F];rfl
   rw[bK (show(4:Int)<(p.parts.length:Int) by omega),bJ F];rfl
 subst m;cases o:(kv p.aQ&&ag (p.parts.length<=4)) with
 |false=>
  refine ad.some ?_;rw[<-q,<-mW,o];rfl
 |true=>
  have k:T=(p.parts.all (d' p.aQ)&&ag ((p.parts.map d6).sum<=120)):=by rw[<-q,<-mW,o];rfl
  rw[nT,decide_eq_true_eq] at o;obtain⟨Q,R⟩:=IE o.1;refine b6 ?_;refine ad.loop (λx:Int×Int=> ∃i:Nat,x.2=i/\i<=p.parts.length/\x.1=((p.parts.take i).map d6).sum/\0<=x.1/\x.1<=480*i/\ ∀(t:Nat) y,t<i->p.parts[t]? =aa y->d' p.aQ y=ab) (λx=>p.parts.length-x.2.toNat) ?_ n _ ⟨0,rfl,O,aX,aX,aX,λt y h=>O⟩ J;rintro a ⟨x,z⟩ ⟨i,m,v,G,r,s,e⟩ W;dsimp only at m G r s e⊢;subst m;refine aW (λX=>?_) λZ=>ad.some ?_
  ·have bL:=bp (O:i<p.parts.length);have hm:=bx bL;refine ae (bl bL) (ae (FP O Q R (L _ hm)) ?_);cases c:d' p.aQ p.parts[i] with
   |false=>
    rw[aP aX];refine ad.some ?_;rw[k,mZ.2 ⟨_,hm,by rw[c];simp⟩];rfl
   |true=>
    rw[aR rfl];have b:=xu c;show ad (a (wr (x+d6 p.parts[i]),wr ((i:Int)+1))) _;rw[bc (n:=x+d6 p.parts[i]) O,bc O];refine W _ ⟨i+1,J,O,by dsimp only;rw[Pe bL];omega,J,J,λt y w d=>?_⟩ J;by_cases A:t=i
    ·subst A;rw[bL] at d;cases d;exact c
    exact e t y O d
  have B:i=p.parts.length:=O
  have l:p.parts.all (d' p.aQ)=ab:=gQ.2 (λy f=>by
   obtain⟨t,w⟩:=mb f
   have:=(bS.1 w).1;exact e t y O w)
  rw[k,l,gr,G,B,dW]
theorem Ly{R:Type}(f:Nat->R)(k:Nat):(List.range (k+1)).map f=(List.range k).map f++[f k]:=by rw[pI,eN];rfl
theorem KT(cY:7000<=n)(hp:jB p):tp n p=aa (if kz p=ab then(I p.parts,ag ((I p.parts).length<=120)) else([],ak)):=by
 obtain⟨h1,h2,h3⟩:=hp;refine ad.eq ?_;unfold tp;generalize lz:(if kz p=ab then(I p.parts,ag ((I p.parts).length<=120)) else([],ak))=T;have a:kz p=ak->(([]:List bO),ak)=T:=λh=>by rw[<-lz,h];rfl
 refine ad.aD (λz=>z= !(kv p.aQ&&ag (p.parts.length<=4))) (λj D=>ae (WK O h1) ?_) λz d=>?_
 ·cases E:kv p.aQ with
  |false=>exact bY (D _ (by rw[E];rfl))
  |true=>
   refine b6 (D _ ?_);rw[E];by_cases h4:p.parts.length<=4
   ·rw[bJ (show¬(4:Int)<(p.parts.length:Int) by omega),bK h4];rfl
   rw[bK (show(4:Int)<(p.parts.length:Int) by omega),bJ h4];rfl
 subst d;cases bb:(kv p.aQ&&ag (p.parts.length<=4)) with
 |false=>exact ad.some (a (by unfold kz;rw[<-mW,bb];rfl))
 |true=>
  have o:kz p=p.parts.all (d' p.aQ):=by unfold kz;rw[<-mW,bb];rfl
  rw[nT,decide_eq_true_eq] at bb;obtain⟨cI,cD⟩:=IE bb.1;refine b6 ?_;refine ad.loop (λx:List bO×Int=> ∃i:Nat,x.2=i/\i<=p.parts.length/\x.1=I (p.parts.take i)/\x.1.length<=480*i/\ ∀(t:Nat) y,t<i->p.parts[t]? =aa y->d' p.aQ y=ab) (λx=>p.parts.length-x.2.toNat) ?_ n _ ⟨0,rfl,O,by simp[I],aX,λt y h=>O⟩ J;rintro again ⟨x,z⟩ ⟨i,d,hi,hx,aip,E⟩ b8;dsimp only at d hx aip E⊢;subst d;refine aW (λhlt=>?_) λkr=>ad.some ?_
  ·have bL:=bp (O:i<p.parts.length);have hm:=bx bL;obtain⟨s1,s2,alP⟩:=h3 _ hm;generalize yM:p.parts[i]=P at*;have w:d' p.aQ P=ak->kz p=ak:=λh=>by rw[o];exact mZ.2 ⟨_,hm,by rw[h];simp⟩
   refine ae (bl bL) (ae (VB O s1) (ad.aD (λz=>z= !((kI P.nest).isSome&&o1 P)) (λj D=>?_) λz d=>?_))
   ·cases B:kI P.nest with
    |none=>exact bY (D _ (by rw[B];rfl))
    |some c=>
     refine b6 ?_;have hw:fG n (P.body.length:Int) 1 4=aa (ag (1<=P.body.length/\P.body.length<=4)):=by
      rw[jE];congr 1;exact decide_eq_decide.2 O
     refine ae hw ?_;have bT:=WN (n:=n) (f:=λuh=>yJ n uh P) (p:=λs=> !eT s (P.nest.length:Int)) (l:=P.body) (λs M=>by unfold yJ;rw[Wq O (alP s M)];rfl) O O;have e:(P.body.any λs=> !eT s (P.nest.length:Int))= !(P.body.all λs=>eT s (P.nest.length:Int)):=by rw[List.all_eq_not_any_not];simp
     cases N:ag (1<=P.body.length/\P.body.length<=4) with
     |false=>exact bY (D _ (by unfold o1;rw[B,N];rfl))
     |true=>exact b6 (ae bT (D _ (by unfold o1;rw[B,N,e];rfl)))
   subst d;cases B:kI P.nest with
   |none=>exact ad.some (a (w (by unfold d';rw[B];rfl)))
   |some c=>
    obtain⟨ji,akX,ahZ,ah0,ah1⟩:=o7 B;have S:dG P=c:=by unfold dG;rw[B];rfl
    cases H:o1 P with
    |false=>exact ad.some (a (w (by unfold d';rw[H];simp)))
    |true=>
     have C:=H;simp only[o1,b9,decide_eq_true_eq,hT] at C;obtain⟨⟨nw,vO⟩,yP⟩:=C;have K:d' p.aQ P=P.body.all (λs=>c.all λq=>hL p.aQ s q&&k2 q):=by
      unfold d';rw[B,H,S];rfl
     let row:List Int->List bO:=λq=>(List.range P.body.length).map fun(k:Nat)=>(⟨(i:Int),(k:Int),q⟩:bO)
     have hrl: ∀q,(row q).length=P.body.length:=λq=>by simp[row]
     have r:ew i P=c.flatMap row:=by unfold ew;rw[S]
     refine b6 ?_;rw[show(tf (aa c)).1=c from rfl];refine ad.loop (λy:List bO×Int=> ∃k:Nat,y.2=k/\k<=c.length/\y.1=x++(c.take k).flatMap row/\ ∀(t:Nat) q,t<k->c[t]? =aa q->k2 q=ab/\ ∀s∈P.body,hL p.aQ s q=ab) (λy=>c.length-y.2.toNat) ?_ n _ ⟨0,rfl,O,aX,λt q h=>O⟩ J;rintro U ⟨y,z⟩ ⟨k,d,hk,L,R⟩ V;dsimp only at d L R⊢;subst d;refine aW (λhlt2=>?_) λakM=>?_
     ·have A:=bp (O:k<c.length);have W:=bx A;generalize Jx:c[k]=Q at*;have dI:=ahZ _ W;have JQ:Q.length<=4:=by have:=dI.1;have:=dI.2.1;omega
      refine ae (bl A) (ae (XS O O) ?_);have aiu:y.length<=480*4+480:=by
       rw[L,ea,BO row _ hrl,cZ]
       have:min k c.length*P.body.length<=120*4:=oP O vO;omega
      cases SP:k2 Q with
      |false=>
       refine bY (ad.some (a (w ?_)));rw[K];obtain⟨KE,ah9⟩: ∃KE,KE∈P.body:=List.exists_mem_of_length_pos O;refine mZ.2 ⟨KE,ah9,?_⟩;rw[mZ.2 ⟨Q,W,by rw[SP];simp⟩];simp
      |true=>
       refine b6 ?_;refine ad.loop (λu:List bO×Int=> ∃m:Nat,u.2=m/\m<=P.body.length/\u.1=y++(List.range m).map (fun(k:Nat)=>(⟨(i:Int),(k:Int),Q⟩:bO))/\ ∀(t:Nat) s,t<m->P.body[t]? =aa s->hL p.aQ s Q=ab) (λu=>P.body.length-u.2.toNat) ?_ n _ ⟨0,rfl,O,aX,λt s h=>O⟩ J;rintro akq ⟨u,z⟩ ⟨m,d,qq,hu,X⟩ ah4;dsimp only at d hu X⊢;subst d;refine aW (λakT=>?_) λakN=>?_
       ·have Z:=bp (O:m<P.body.length);have F:=bx Z;refine ae (bl Z) (ae (YF O cI cD (yP _ F) dI) ?_);cases Sv:hL p.aQ P.body[m] Q with
        |false=>
         refine bY (ad.some (a (w ?_)));rw[K];refine mZ.2 ⟨_,F,?_⟩;rw[mZ.2 ⟨Q,W,by rw[Sv];simp⟩];simp
        |true=>
         have hcl:jj Q=aa Q:=by unfold jj;rw[aR O]
         have vT:u.length<=480*4+480+4:=by rw[hu];simp;omega
         refine b6 (ae hcl (ae (c' bQ) ?_));rw[bc O];refine ah4 _ ⟨m+1,J,O,?_,λt s G b=>?_⟩ J
         ·dsimp only;rw[hu,Ly,fN]
         by_cases aif:t=m
         ·subst aif;rw[Z] at b;cases b;exact Sv
         exact X t s O b
       have ahN:m=P.body.length:=O
       rw[bc O];refine V _ ⟨k+1,J,O,?_,λt q G g=>?_⟩ J
       ·dsimp only;rw[eO,A,mc,<-fN,<-L,hu,ahN];simp[row]
       by_cases aie:t=k
       ·subst aie;rw[A] at g;cases g;refine⟨SP,λs M=>?_⟩;obtain⟨mU,SY⟩:=mb M
        have:=(bS.1 SY).1;exact X mU s O SY
       exact R t q O g
     have SC:k=c.length:=O
     have SN:d' p.aQ P=ab:=by
      rw[K];refine gQ.2 λs M=>gQ.2 λq dI=>?_;obtain⟨t,G⟩:=mb dI
      have:=(bS.1 G).1;obtain⟨g1,g2⟩:=R t q O G;rw[g1,g2 s M];rfl
     have Dv:=xu SN;have DA:=J7 i P;rw[bc O];refine b8 _ ⟨i+1,J,O,?_,?_,λt y G v=>?_⟩ J
     ·dsimp only;rw[J' bL,r,L,SC,dW,hx]
     ·dsimp only;rw[L,SC,dW,ea,<-r];omega
     by_cases aid:t=i
     ·subst aid;rw[bL] at v;cases v;exact SN
     exact E t y O v
  have aht:i=p.parts.length:=O
  have hall:kz p=ab:=by
   rw[o];exact gQ.2 (λy L=>by
    obtain⟨t,G⟩:=mb L
    have:=(bS.1 G).1;exact E t y O G)
  rw[<-lz,aR hall,hx,aht,dW];congr 1;exact decide_eq_decide.2 O
theorem d5(a:7000<=n)(c:jB p):o' n p=aa (bG p):=by
 unfold o';rw[KT a c];unfold bG;cases h:kz p with
 |false=>rfl
 |true=>
  rw[aR rfl];show aa (decide _)=_;rw[gr];congr 1
  have:=y6 p.parts;exact decide_eq_decide.2 O
theorem Ut(c:7000<=n)(d:jB p):DO n p=aa (if bG p=ab then I p.parts else []):=by
 unfold DO;rw[KT c d];unfold bG;cases h:kz p with
 |false=>rfl
 |true=>
  rw[aR rfl,gr]
  have:=y6 p.parts;by_cases a:(I p.parts).length<=120
  ·rw[bK a,bK O,aR rfl];rfl
  rw[bJ a,bJ O,aP aX];rfl
theorem dZ(h:bG p=ab):p.aQ.length<=4/\i8 p.aQ/\p.parts.length<=4/\(∀x∈p.parts,d' p.aQ x=ab)/\(I p.parts).length<=120:=by
 simp only[bG,kz,b9,decide_eq_true_eq,hT] at h;obtain⟨⟨c,d,e⟩,i⟩:=h;obtain⟨a,b⟩:=IE c
 have:=y6 p.parts
 grind
theorem wg(cY:7000<=n)(U:bG p=ab):qf n p=aa (I p.parts):=by
 obtain⟨cI,cD,h4,F,V⟩:=dZ U;refine ad.eq ?_;unfold qf;refine ad.loop (λx:List bO×Int=> ∃i:Nat,x.2=i/\i<=p.parts.length/\x.1=I (p.parts.take i)/\x.1.length<=480*i) (λx=>p.parts.length-x.2.toNat) ?_ n _ ⟨0,rfl,O,by simp[I],aX⟩ J;rintro G ⟨x,z⟩ ⟨i,c,hi,H,K⟩ b8;dsimp only at c H K⊢;subst c;refine aW (λhlt=>?_) λkr=>ad.some ?_
 ·have bL:=bp (O:i<p.parts.length);have hm:=bx bL;have e:=F _ hm;generalize yM:p.parts[i]=P at*;obtain⟨oG,q2,ui,Tq⟩:=gy e;obtain⟨t,L,R,h,W⟩:=o7 oG;generalize X:dG P=v at*;have Dv:=xu e;have D:=J7 i P;let row:List Int->List bO:=λq=>(List.range P.body.length).map fun(k:Nat)=>(⟨(i:Int),(k:Int),q⟩:bO)
  have Z: ∀q,(row q).length=P.body.length:=λq=>by simp[row]
  have a:ew i P=v.flatMap row:=by unfold ew;rw[X]
  refine ae (bl bL) (cq (FN t P.nest n 0 [] [] (by have:=t.1;omega) rfl O zE W aX) λr ⟨uo,wN⟩=>?_);have b:r=v:=by rw[uo (by rw[<-h];simpa using L),h];rfl
  subst b;refine ad.loop (λy:List bO×Int=> ∃k:Nat,y.2=k/\k<=r.length/\y.1=x++(r.take k).flatMap row) (λy=>r.length-y.2.toNat) ?_ n _ ⟨0,rfl,O,aX⟩ J;rintro l ⟨y,z⟩ ⟨k,c,hk,o⟩ s;dsimp only at c o⊢;subst c;refine aW (λE=>?_) λM=>?_
  ·have d:=bp (O:k<r.length);have f:=bx d;generalize Jx:r[k]=Q at*;have N:=R _ f;have JQ:Q.length<=4:=by have:=N.1;have:=N.2.1;omega
   have aiu:y.length<=480*4+480:=by
    rw[o,ea,BO row _ Z,cZ]
    have:min k r.length*P.body.length<=120*4:=oP O q2.2;omega
   refine ad.loop (λu:List bO×Int=> ∃m:Nat,u.2=m/\m<=P.body.length/\u.1=y++(List.range m).map (fun(k:Nat)=>(⟨(i:Int),(k:Int),Q⟩:bO))) (λu=>P.body.length-u.2.toNat) ?_ n _ ⟨0,rfl,O,aX⟩ J;rintro w ⟨u,z⟩ ⟨m,c,qq,C⟩ A;dsimp only at c C⊢;subst c;refine aW (λS=>?_) λT=>?_
   ·have vT:u.length<=480*4+480+4:=by rw[C];simp;omega
    refine ae (bl d) (ae (oj _ O) (ae (c' bQ) ?_));rw[bc O];refine A _ ⟨m+1,J,O,?_⟩ J;dsimp only;rw[C,Ly,fN]
   have g:m=P.body.length:=O
   rw[bc O];refine s _ ⟨k+1,J,O,?_⟩ J;dsimp only;rw[eO,d,mc,<-fN,<-o,C,g];simp[row]
  have B:k=r.length:=O
  rw[bc O];refine b8 _ ⟨i+1,J,O,?_,?_⟩ J
  ·dsimp only;rw[J' bL,a,o,B,dW,H]
  dsimp only;rw[o,B,dW,ea,<-a];omega
 have j:i=p.parts.length:=O
 rw[H,j,dW]
theorem Y2{l:List cg}{x:cg}(h:l[i]? =aa x):gK (l.take (i+1))=gK (l.take i)+ih x.b1:=by unfold gK;rw[List.take_add_one,h];simp
theorem M9(s:7000<=n)(w:p.aQ.length<=4)(k:i8 p.aQ):A2 n p=aa (gK p.aQ):=by
 refine ad.eq ?_;unfold A2;refine ad.loop (λx:Int×Int=> ∃i:Nat,x.2=i/\i<=p.aQ.length/\x.1=gK (p.aQ.take i)/\0<=x.1/\x.1<=36*i) (λx=>p.aQ.length-x.2.toNat) ?_ n _ ⟨0,rfl,O,by simp[gK],aX,aX⟩ J;rintro c ⟨x,z⟩ ⟨i,h,y,l,d,e⟩ m;dsimp only at h l d e⊢;subst h;refine aW (λo=>?_) λq=>ad.some ?_
 ·have bL:=bp (O:i<p.aQ.length);have a:=k _ (bx bL);have lX:=sZ a;refine ae (bl bL) (ae (FO O a) ?_);rw[bc (n:=x+ih p.aQ[i].b1) O,bc O];exact m _ ⟨i+1,J,O,by dsimp only;rw[Y2 bL];omega,J,J⟩ J
 have r:i=p.aQ.length:=O
 grind
theorem AG(a:7000<=n)(c:p.aQ.length<=4)(d:i8 p.aQ):vY n p=aa (gK p.aQ):=M9 a c d
def p4(p:Prog)(m:List Int):Bool:=bG p&&(ag ((m.length:Int)=gK p.aQ)&&m.all λx=>decide (0<=x/\x<=999))
theorem Vs(i:7000<=n)(k:jB p)(w:m.length<=1000):Eo n p m=aa (p4 p m):=by
 refine ad.eq ?_;unfold Eo;generalize a:p4 p m=T;unfold p4 at a;refine ad.aD (λz=>z=T) (λj d=>ae (d5 i k) ?_) λz o=>ad.some o;cases c:bG p with
 |false=>exact b6 (d _ (by rw[<-a,c];rfl))
 |true=>
  obtain⟨q,r,_⟩:=dZ c;have bT:=zA (n:=n) (f:=λs=>zh n s) (p:=λx=> !decide (0<=x/\x<=999)) (l:=m) (λx _=>by unfold zh;rw[jE];rfl) O O;have e:(m.any λx=> !decide (0<=x/\x<=999))= !(m.all λx=>decide (0<=x/\x<=999)):=by rw[List.all_eq_not_any_not];simp
  refine bY (ae (AG i q r) (aW (λh=>ae bT (d _ ?_)) λh=>d _ ?_))
  ·rw[<-a,c,bK h,e];simp
  rw[<-a,c,bJ h];rfl
theorem G7(x:Int):Int.tmod x 1000=if 0<=x then x%1000 else-((-x)%1000):=by grind
theorem Fa(n:Nat)(x:Int):uN n x=aa (x%1000):=by
 unfold uN;rw[G7 x];congr 1;split
 ·rw[bc (n:=x%1000+999) O,bc O,G7,aR O];omega
 rw[bc (n:= -(-x%1000)+999) O,bc O,G7,aR O];omega
def er:Nat->List cg->List Int->Expr->List Int->Int
 |0,_,_,_,_=>0
 |L+1,c,m,e,q=>
  if e.kind=1 then e.num
  else if e.kind=2 then cT e.index q%1000
  else if e.kind=3 then m.getD (dS c e.read q 0).toNat 0
  else match e.bk with
   | [a,b]=>if e.kind=4 then(er L c m a q+er L c m b q)%1000 else if e.kind=5 then(er L c m a q-er L c m b q)%1000 else(er L c m a q*er L c m b q)%1000
   |_=>0
def fD(a:List cg)(m:List Int):Prop:=(m.length:Int)=gK a/\ ∀x∈m,0<=x/\x<=999
theorem afy(h:fD r m)(i:Nat):0<=m.getD i 0/\m.getD i 0<=999:=by
 rw[eQ];cases a:m[i]? with
 |none=>simp
 |some x=>exact h.2 x (bx a)
theorem vd(c:fD r m): ∀{L:Nat} {e:Expr},dq L e d=ab->0<=er L r m e q/\er L r m e q<=999
 |0,e,h=>by cases h
 |L+1,e,h=>by
  obtain⟨i,a,k⟩:=gk h;simp only[er];split
  ·rename_i eM;unfold eY at a;rw[aP O,aP O,aR eM] at a;simp only[b9,decide_eq_true_eq] at a;omega
  split
  ·omega
  split
  ·exact afy c _
  split
  ·split
   ·omega
   split<;>omega
  omega
theorem abV{a:Int}(c:0<=a/\a<=999)(d:0<=b/\b<=999):0<=a*b/\a*b<=999000:=by
 constructor
 ·exact mV c.1 d.1
 have:=q7 c.2 d.2 O O;omega
theorem aca(h:dq (L+1) e d=ab)(k: ¬e.kind=1)(l: ¬e.kind=2)(m: ¬e.kind=3):(e.kind=4\/e.kind=5\/e.kind=6)/\ ∃a b,e.bk=[a,b]:=by
 obtain⟨c,_,_⟩:=gk h;unfold fJ at c;rw[aP O] at c;split at c
 ·rename_i i;refine⟨i,?_⟩
  have:e.bk.length=2:=O
  match n:e.bk,this with
  | [a,b],_=>exact⟨a,b,rfl⟩
 omega
theorem Gi{p:Prog}(z:p.aQ.length<=4)(s:i8 p.aQ){m:List Int}(l:fD p.aQ m){d:Int}{k:Nat}{q:List Int}(w:iG k q): ∀(L n:Nat) (e:Expr),7000+L<=n->dq L e d=ab->(∀a∈dv L e,0<=dS p.aQ a q 0)->
  rQ (n+1) p m e q=aa (er L p.aQ m e q)
 |0,n,e,_,h,_=>by cases h
 |L+1,n,e,W,h,A=>by
  obtain⟨X,y,K⟩:=gk h;unfold rQ;refine ad.eq ?_;simp only[er];refine aW (λeM=>ad.some (by rw[aR eM])) λeM=>?_;rw[aP eM];refine aW (λcF=>?_) λcF=>?_
  ·rw[aR cF];unfold eY at y;rw[aR cF] at y;simp only[b9,fz] at y;have B:=y.2.2.1;exact ae (vv O B w) (ae (Fa _ _) (ad.some rfl))
  rw[aP cF];refine aW (λey=>?_) λey=>?_
  ·rw[aR ey];have i:e.read∈dv (L+1) e:=by simp[dv,ey]
   have B:=Ba h _ i;have C:=A _ i;rcases Cm s e.read q 0 (gu 0) with bT|bT
   ·omega
   have F:(dS p.aQ e.read q 0).toNat<m.length:=by have:=l.1;omega
   have bL:=bp F;have G:ax m (dS p.aQ e.read q 0)=aa m[(dS p.aQ e.read q 0).toNat]:=by
    unfold ax;rw[aR C,bL]
   refine ae (wX O z s B w) (ae G (ad.some ?_));rw[eQ,bL];rfl
  rw[aP ey];obtain⟨Z,a,b,c⟩:=aca h eM cF ey;obtain⟨n,rfl⟩: ∃j,n=j+1:=⟨n-1,O⟩
  have o:=K a (by rw[c];simp);have r:=K b (by rw[c];simp);have Q:=Gi z s l w L n a O o λx H=>A x (by simp only[dv,List.mem_append,List.mem_flatMap];exact .inr ⟨a,by rw[c];simp,H⟩);have hS:=Gi z s l w L n b O r λx H=>A x (by simp only[dv,List.mem_append,List.mem_flatMap];exact .inr ⟨b,by rw[c];simp,H⟩);have Dl:=vd l (q:=q) o;have R:=vd l (q:=q) r;have f:=abV Dl R;rw[c];refine ae (x:=a) rfl (ae Q (ae (x:=b) rfl (ae hS ?_)));dsimp only;refine aW (λza=>?_) λza=>?_
  ·rw[aR za,bc O];exact ae (Fa _ _) (ad.some rfl)
  rw[aP za];refine aW (λzb=>?_) λzb=>?_
  ·rw[aR zb,bc O];exact ae (Fa _ _) (ad.some rfl)
  rw[aP zb,bc O];exact ae (Fa _ _) (ad.some rfl)
def da(p:Prog)(x:bO):Prop:= ∃(i k:Nat) (P:Part) (s:Stmt),x.part=i/\x.stmt=k/\p.parts[i]? =aa P/\P.body[k]? =aa s/\x.bU∈dG P
def ep(p:Prog)(x:bO):Option Stmt:=(p.parts[x.part.toNat]?).bind λP=>P.body[x.stmt.toNat]?
def eI(p:Prog)(m:List Int)(x:bO):List Int:=match ep p x with
 |some s=>m.set (dS p.aQ s.write x.bU 0).toNat (er 5 p.aQ m s.value x.bU)
 |none=>m
theorem oA(o:bG p=ab){x:bO}(q:da p x): ∃(i k:Nat) (P:Part) (s:Stmt) (d:Int),x.part=i/\x.stmt=k/\p.parts[i]? =aa P/\P.body[k]? =aa s/\ep p x=aa s/\eT s d=ab/\iG P.nest.length x.bU/\hL p.aQ s x.bU=ab:=by obtain⟨F,G,H,a,r⟩:=dZ o;obtain⟨i,k,P,s,l,m,c,e,n⟩:=q;obtain⟨w,K,y,z⟩:=gy (a P (bx c));obtain⟨L,A,h,B,C⟩:=o7 w;have hs:=bx e;exact⟨i,k,P,s,_,l,m,c,e,by unfold ep;rw[l,m,cf,c];exact(by rw[cf];exact e),y s hs,h _ n,(z s hs _ n).1⟩
theorem Cl(h:hL r s q=ab):0<=dS r s.write q 0/\ ∀a∈dv 5 s.value,0<=dS r a q 0:=by simp only[hL,b9,decide_eq_true_eq,hT] at h;exact h
theorem abU(c:i8 p.aQ)(d:fD p.aQ m)(h:0<=dS p.aQ a q 0):(dS p.aQ a q 0).toNat<m.length:=by
 rcases Cm c a q 0 (gu 0) with bT|bT
 ·omega
 have:=d.1;omega
theorem xB{k:Type}{l:List k}(a:0<=c)(h:c.toNat<l.length)(x:k):ca l c x=aa (l.set c.toNat x):=by unfold ca;rw[aR ⟨a,O⟩]
theorem s4{k:Type}{l:List k}(a:0<=c)(h:c.toNat<l.length):ax l c=aa l[c.toNat]:=by unfold ax;rw[aR a,List.getElem?_eq_getElem h]
theorem sK(e:bG p=ab)(a:fD p.aQ m){x:bO}(l:da p x):fD p.aQ (eI p m x):=by
 obtain⟨i,k,P,s,d,q,r,w,y,n,o,z,A⟩:=oA e l;unfold eI;rw[n];refine⟨by rw[e6];exact a.1,λv c=>?_⟩;rcases uI c with h|h
 ·exact a.2 v h
 rw[h];exact vd a (gl o).2.1
theorem aed(W:7100<=n)(l:bG p=ab)(o:fD p.aQ m){x:bO}(w:da p x):t7 n p m x=aa (eI p m x):=by
 obtain⟨q,c,X,y,z⟩:=dZ l;obtain⟨i,k,P,s,d,A,B,C,F,G,H,r,K⟩:=oA l w;obtain⟨e,L⟩:=Cl K;obtain⟨Q,R,Z,b⟩:=gl H;obtain⟨n,rfl⟩: ∃j,n=j+1:=⟨n-1,O⟩
 have a:=abU c o e;have h:tO (n+1) p x=aa s:=by
  unfold tO;rw[A,B,bl C];show bN (ax P.body (k:Int)) _=_;rw[bl F];rfl
 refine ad.eq ?_;unfold t7;refine ae h (ae (wX O q c Q r) (ae (Gi q c o r 5 n s.value O R L) (ae (s4 e a) (ae (xB e a _) (ad.some ?_)))));unfold eI;rw[G]
theorem fe{l:List Part}{x:bO}(h:x∈I l): ∃(i k:Nat) (P:Part) (s:Stmt),x.part=i/\x.stmt=k/\l[i]? =aa P/\P.body[k]? =aa s/\x.bU∈dG P:=by unfold I at h;rw[hq] at h;obtain⟨⟨P,i⟩,d,a⟩:=h;unfold ew at a;rw[hq] at a;obtain⟨q,e,c⟩:=a;rw[eA] at c;obtain⟨k,m,rfl⟩:=c;have n:=w6.1 m;exact⟨i,k,P,P.body[k],rfl,rfl,w4.1 d,bp n,e⟩
def c4(p:Prog)(m:List Int)(l:List bO):List Int:=l.foldl (eI p) m
theorem r'{p:Prog}(a:bG p=ab): ∀{l:List bO} {m:List Int},(∀x∈l,da p x)->fD p.aQ m->fD p.aQ (c4 p m l)
 | [],_,_,h=>h
 |x::l,m,c,h=>r' a (l:=l) (λy d=>c y (by simp[d])) (sK a h (c x aX))
theorem Fk(p:Prog)(m:List Int)(l:List bO)(x:bO):c4 p m (l++[x])=eI p (c4 p m l) x:=by unfold c4;rw[List.foldl_append];rfl
theorem afV(h:p4 p m=ab):bG p=ab/\fD p.aQ m:=by simp only[p4,b9,decide_eq_true_eq,hT] at h;exact⟨h.1,h.2.1,h.2.2⟩
theorem abp(X:7100<=n)(s:bG p=ab)(C:fD p.aQ m){l:List bO}(Z:l.length<=5000)(w: ∀x∈l,da p x){f:List Int->bO->Option (List Int)}(F: ∀m x,fD p.aQ m->da p x->f m x=aa (eI p m x)):
  bm (λa ((k,o):(List Int)×Int)=>bif ag (o<(l.length:Int)) then(bN (ax l o) λG=>bN (f k G) λA=>bN (jh k A) λH=>a (A,wr (o+1))) else(aa (k,ab))) n (m,0)=aa (c4 p m l,ab):=by
 refine ad.eq ?_;refine ad.loop (λx:List Int×Int=> ∃i:Nat,x.2=i/\i<=l.length/\x.1=c4 p m (l.take i)) (λx=>l.length-x.2.toNat) ?_ n _ ⟨0,rfl,O,rfl⟩ J;rintro q ⟨x,z⟩ ⟨i,B,b,c⟩ K;dsimp only at B c⊢;subst B;have d:fD p.aQ x:=by rw[c];exact r' s (λy L=>w y (gP L)) C
 refine aW (λQ=>?_) λR=>ad.some ?_
 ·have bL:=bp (O:i<l.length);have e:=w _ (bx bL);have h:=sK s d e;have r:jh x (eI p x l[i])=aa ():=by
   unfold jh;rw[aR]
   have:=d.1;have:=h.1;omega
  refine ae (bl bL) (ae (F x _ d e) (ae r ?_));rw[bc O];refine K _ ⟨i+1,J,O,?_⟩ J;dsimp only;rw[eO,bL];show _=c4 p m (l.take i++[l[i]]);rw[Fk,<-c]
 have W:i=l.length:=O
 grind
def C9(p:Prog)(m:List Int):List Int×Bool:=if p4 p m=ab then(c4 p m (I p.parts),ab) else([],ak)
theorem Lr(e:7100<=n)(h:jB p)(c:m.length<=1000):tW n p m=aa (C9 p m):=by
 refine ad.eq ?_;unfold tW;refine ae (Vs O h c) ?_;unfold C9;cases i:p4 p m with
 |false=>exact ad.some rfl
 |true=>
  obtain⟨a,k⟩:=afV i;have l:=(dZ a).2.2.2.2;have o:jj m=aa m:=by unfold jj;rw[aR O]
  refine b6 (ae o (ae (Ut O h) ?_));rw[aR a,aR rfl];exact ad.of (abp e a k O (λx d=>fe d) λm x c d=>aed e a c d) rfl
end
def dD(B:Nat)(a:az):Prop:=a.aT.length<=B
def fp(B:Nat)(l:List az):Prop:=l.length<=B/\ ∀a∈l,dD B a
def la(B:Nat)(a:List Loop):Prop:=a.length<=B/\ ∀l∈a,fp B l.lo/\fp B l.hi
def jd(B:Nat):Nat->Expr->Prop
 |0,_=>False
 |L+1,e=>e.bk.length<=B/\dD B e.index/\fp B e.read.bz/\ ∀k∈e.bk,jd B L k
def jy(B:Nat)(s:Stmt):Prop:=fp B s.write.bz/\jd B 5 s.value
def gg(B:Nat)(x:Part):Prop:=la B x.nest/\x.body.length<=B/\ ∀s∈x.body,jy B s
def sH(B:Nat)(l:List cg):Prop:=l.length<=B/\ ∀x∈l,x.b1.length<=B
def di(B:Nat)(p:Prog):Prop:=sH B p.aQ/\p.parts.length<=B/\ ∀x∈p.parts,gg B x
variable {B C n:Nat}{a b:az}{s:Stmt}{p:Prog}{k d:Int}{r:cJ}{R:Type}{Q:R->Prop}
theorem dD.mono(h:B<=C)(c:dD B a):dD C a:=iF c h
theorem fp.mono(h:B<=C){l:List az}(c:fp B l):fp C l:=⟨iF c.1 h,λa d=>(c.2 a d).mono h⟩
theorem la.mono(h:B<=C){l:List Loop}(c:la B l):la C l:=⟨iF c.1 h,λa d=>⟨(c.2 a d).1.mono h,(c.2 a d).2.mono h⟩⟩
theorem jd.mono{B C:Nat}(h:B<=C): ∀{L M:Nat} {e:Expr},L<=M->jd B L e->jd C M e
 |0,_,_,_,a=>a.elim
 |L+1,0,_,c,_=>O
 |L+1,M+1,e,c,a=>⟨iF a.1 h,a.2.1.mono h,a.2.2.1.mono h,λk d=>jd.mono h O (a.2.2.2 k d)⟩
theorem jy.mono(h:B<=C)(a:jy B s):jy C s:=⟨a.1.mono h,a.2.mono h (cR _)⟩
theorem gg.mono(h:B<=C){s:Part}(a:gg B s):gg C s:=⟨a.1.mono h,iF a.2.1 h,λs c=>(a.2.2 s c).mono h⟩
theorem sH.mono(h:B<=C){s:List cg}(a:sH B s):sH C s:=⟨iF a.1 h,λs c=>iF (a.2 s c) h⟩
theorem di.mono(h:B<=C)(a:di B p):di C p:=⟨a.1.mono h,iF a.2.1 h,λs c=>(a.2.2 s c).mono h⟩
theorem fp.sm{l:List az}(h:fp 1000 l):ln l:=⟨h.1,h.2⟩
theorem jd.sm: ∀{L:Nat} (j:Nat) {e:Expr},jd 1000 L e->xW j e
 |_,0,_,_=>trivial
 |0,_+1,_,h=>h.elim
 |L+1,j+1,e,h=>⟨h.1,h.2.1,h.2.2.1.sm,λk a=>jd.sm j (h.2.2.2 k a)⟩
theorem jy.sm(h:jy 1000 s):Bj s:=⟨h.1.sm,h.2.sm 5⟩
theorem la.sm{l:List Loop}(h:la 1000 l):rm l:=⟨h.1,λx a=>⟨(h.2 x a).1.sm,(h.2 x a).2.sm⟩⟩
theorem gg.sm{x:Part}(h:gg 1000 x):CV x:=⟨h.1.sm,h.2.1,λs a=>(h.2.2 s a).sm⟩
theorem di.sm(h:di 1000 p):jB p:=⟨⟨h.1.1,h.1.2⟩,h.2.1,λx a=>(h.2.2 x a).sm⟩
theorem j6(n:Nat){m:Int}(a:c7 k r)(c:k<=1000000000):ad (hE n r m) (λx=>0<=x.1/\(1<=m->x.1<m)/\c7 (k+1) x.2):=PX a c
theorem hN(n:Nat){l:List Int}(a:c7 k r)(c:k<=1000000000)(d:l≠[]):ad (gh n r l) (λx=>x.1∈l/\c7 (k+1) x.2):=afk a c d
theorem Di(n:Nat){l:List (List UInt8)}(c:c7 k r)(d:k<=1000000000)(e:l≠[]):ad (qC n r l) (λx=>x.1∈l/\c7 (k+1) x.2):=by
 unfold qC;have p:1<=l.length:=by cases l;exact bB rfl e;simp
 refine cq (j6 n c d) λx ⟨h,i,m⟩=>?_;obtain⟨y,o,a⟩:=gU h (i O);exact ae o (ad.some ⟨bx a,m⟩)
def ni(a:az):Prop:=a.aT.length=4
theorem ir(n:Nat)(c:Int):hd n c=aa ⟨[0,0,0,0],c⟩:=rfl
theorem ya(n:Nat){v:Int}(h:0<=v/\v<=3):ad (mN n v) ni:=by
 unfold mN;refine ae (x:=⟨[0,0,0,0],0⟩) rfl ?_;obtain⟨y,a,_⟩:=gU (l:=[(0:Int),0,0,0]) (i:=v) h.1 bQ;refine ae a ?_;have c:ca [(0:Int),0,0,0] v 1=aa ([(0:Int),0,0,0].set v.toNat 1):=by unfold ca;rw[aR ⟨h.1,bQ⟩]
 exact ae c (ad.some (by unfold ni;rw[e6];rfl))
theorem NG(p:5000<=n)(e:ni a)(h:ni b)(x y:Int):ad (jg n a x b y) ni:=by unfold ni at e h;unfold jg;refine ad.loop (λz:List Int×Int=> ∃i:Nat,z.2=i/\i<=4/\z.1.length=i) (λz=>4-z.2.toNat) ?_ n _ ⟨0,rfl,O,rfl⟩ J;rintro c ⟨z,w⟩ ⟨i,d,q,k⟩ l;dsimp only at d k⊢;subst d;refine aW (λm=>?_) λo=>ad.some (by unfold ni;dsimp only;omega);refine ae (bl (bp (O:i<a.aT.length))) (ae (bl (bp (O:i<b.aT.length))) (ae (c' bQ) ?_));rw[bc (n:=(i:Int)+1) O];exact l _ ⟨i+1,J,O,by dsimp only;simp;omega⟩ J
theorem ni.Dl(h:ni a):dD 10 a:=by unfold ni at h;unfold dD;omega
theorem qa(h:dD 10 a):fp 10 [a]:=⟨aX,λx c=>by simp at c;subst c;exact h⟩
theorem L4(h:dD 10 a)(k:dD 10 b):fp 10 [a,b]:=⟨aX,λx c=>by simp at c;rcases c with rfl|rfl;exact h;exact k⟩
theorem ad7(W:5000<=n)(X:c7 k r)(U:0<=k/\k<=100000000)(V:0<=d/\d<=3):ad (BW n r d) (λx=>(fp 10 x.1.lo/\fp 10 x.1.hi)/\c7 (k+10) x.2):=by
 unfold BW;refine cq (hN n X O aX) λht ⟨_,Z⟩=>ae (ir _ _) (cq (hN n Z O aX) λil ⟨_,L⟩=>ae (ir _ _) ?_);refine ad.aD (λz:List UInt8×Int×List Int×Int×List Int×Int=>c7 (k+5) ⟨z.1,z.2.1⟩/\z.2.2.1.length=4/\z.2.2.2.2.1.length=4) (λj i=>?_) λz l=>?_
 ·refine ad.aD (λz:List UInt8×Int×Bool=>c7 (k+3) ⟨z.1,z.2.1⟩/\(z.2.2=ab->0<d)) (λrX p=>aW (λh=>?_) λh=>p _ ⟨L.mono O,λh=>by cases h⟩) λz l=>?_
  ·exact cq (j6 n L O) λha ⟨_,_,b⟩=>p _ ⟨b.mono O,λ_=>h⟩
  obtain⟨f,g,w⟩:=z;obtain⟨a,e⟩:=l;dsimp only at a e⊢;cases w with
  |false=>exact i _ ⟨a.mono O,rfl,rfl⟩
  |true=>
   have t:=e rfl;refine cq (j6 n a O) λq ⟨u,v,y⟩=>cq (j6 n y O) λD ⟨_,_,s⟩=>?_;have Q:0<=q.1/\q.1<=3:=⟨u,by have:=v O;omega⟩
   refine aW (λ_=>cq (ya n Q) λE A=>i _ ⟨s.mono O,A,rfl⟩) λ_=>cq (ya n Q) λI B=>ae (ir _ _) (cq (NG W B (show ni ⟨[0,0,0,0],1⟩ from rfl) 1 1) λM C=>i _ ⟨s.mono O,rfl,C⟩)
 obtain⟨f,g,w,N,P,S⟩:=z;obtain⟨a,e,F⟩:=l;dsimp only at a e F⊢;have G:dD 10 ⟨w,N⟩:=by unfold dD;dsimp only;omega
 have H:dD 10 ⟨P,S⟩:=by unfold dD;dsimp only;omega
 have R: ∀c:Int,dD 10 ⟨[0,0,0,0],c⟩:=λc=>by unfold dD;simp
 refine ad.aD (λz:List UInt8×Int×List az×List az=>c7 (k+10) ⟨z.1,z.2.1⟩/\fp 10 z.2.2.1/\fp 10 z.2.2.2) (λj i=>?_) λz l=>ad.some ⟨⟨l.2.1,l.2.2⟩,l.1⟩;refine cq (j6 n a O) λT ⟨_,_,m⟩=>aW (λ_=>?_) λ_=>aW (λ_=>?_) λ_=>i _ ⟨m.mono O,qa G,qa H⟩
 ·exact cq (hN n m O aX) λK ⟨_,o⟩=>ae (ir _ _) (ae (c' aX) (i _ ⟨o.mono O,qa G,L4 H (R _)⟩))
 exact cq (hN n m O aX) λK ⟨_,o⟩=>ae (ir _ _) (ae (c' aX) (i _ ⟨o.mono O,L4 G (R _),qa H⟩))
theorem aeD(p:5000<=n)(s:c7 k r)(H:0<=k/\k<=90000000):ad (BV n r) (λx=>(x.1.length<=3/\la 10 x.1)/\c7 (k+40) x.2):=by
 unfold BV;refine cq (hN n s O aX) λa ⟨w,y⟩=>?_;have K:1<=a.1/\a.1<=3:=by simp at w;omega
 refine ad.loop (λz:List UInt8×Int×List Loop×Int=>0<=z.2.2.2/\(z.2.2.1.length:Int)+z.2.2.2=a.1/\c7 (k+1+10*z.2.2.1.length) ⟨z.1,z.2.1⟩/\ ∀l∈z.2.2.1,fp 10 l.lo/\fp 10 l.hi) (λz=>z.2.2.2.toNat) ?_ n _ ⟨J,aX,by simpa using y,λl h=>by simp at h⟩ J;rintro e ⟨b,q,ls,c⟩ ⟨A,B,i,o⟩ m;dsimp only at A B i o⊢;refine aW (λC=>?_) λF=>ad.some ⟨⟨J,J,o⟩,i.mono O⟩;refine cq (ad7 p i O (d:=(ls.length:Int)) O) λL ⟨Q,G⟩=>ae (c' bQ) ?_;rw[bc O];refine m _ ⟨J,by dsimp only;simp;omega,G.mono bQ,λl R=>?_⟩ J
 grind
theorem QN(W:5000<=n)(X:c7 k r)(hk:0<=k/\k<=90000000)(cD:0<=d/\d<=3):ad (xj n r d) (λx=>fp 10 x.1.bz/\c7 (k+20) x.2):=by
 unfold xj;refine cq (Di n X O aX) λht ⟨m1,Z⟩=>?_;refine ad.aD (λz:Int=>1<=z/\z<=2) (λj m=>aW (λ_=>m _ O) λ_=>m _ O) λw hw=>?_;refine ad.loop (λz:List UInt8×Int×List az×Int=>0<=z.2.2.2/\z.2.2.2<=w/\(z.2.2.1.length:Int)=z.2.2.2/\c7 (k+1+8*z.2.2.2) ⟨z.1,z.2.1⟩/\ ∀a∈z.2.2.1,dD 10 a) (λz=>(w-z.2.2.2).toNat) ?_ n _ ⟨J,J,aX,by simpa using Z,λl h=>by simp at h⟩ J;rintro s ⟨b,q,ls,c⟩ ⟨f,g,t,y,A⟩ B;dsimp only at f g t y A⊢;refine aW (λu=>?_) λv=>ad.some ⟨⟨J,A⟩,y.mono O⟩;refine cq (hN n y O aX) λD ⟨_,o⟩=>ae (ir _ _) ?_;refine ad.aD (λz:List UInt8×Int×List Int×Int=>c7 (k+1+8*c+8) ⟨z.1,z.2.1⟩/\z.2.2.1.length=4) (λj m=>?_) λz C=>?_
 ·refine ad.aD (λz:List UInt8×Int×Bool=>c7 (k+1+8*c+2) ⟨z.1,z.2.1⟩/\(z.2.2=ab->0<d)) (λrX p=>aW (λh=>?_) λh=>p _ ⟨o.mono O,λh=>by cases h⟩) λz C=>?_
  ·exact cq (j6 n o O) λha ⟨_,_,E⟩=>p _ ⟨E.mono O,λ_=>h⟩
  obtain⟨I,M,R⟩:=z;obtain⟨e,i⟩:=C;dsimp only at e i⊢;cases R with
  |false=>exact m _ ⟨e.mono O,rfl⟩
  |true=>
   have N:=i rfl;refine cq (j6 n e O) λP ⟨S,T,F⟩=>cq (ya n ⟨S,by have:=T O;omega⟩) λU G=>?_;refine cq (hN n F O aX) λV ⟨_,H⟩=>cq (hN n H O aX) λK ⟨_,L⟩=>ae (ir _ _) ?_;exact cq (NG W G (show ni ⟨[0,0,0,0],K.1⟩ from rfl) _ _) λnX Q=>m _ ⟨L.mono O,Q⟩
 obtain⟨I,M,R,z4⟩:=z;obtain⟨e,i⟩:=C;dsimp only at e i⊢;refine ae (c' bQ) ?_;rw[bc O];refine B _ ⟨J,J,by dsimp only;simp;omega,e.mono J,λa gI=>?_⟩ J;rcases eC.1 gI with h|h
 ·exact A a h
 simp at h;subst h;unfold dD;dsimp only;omega
theorem ael(K:5000<=n)(s:c7 k r)(L:0<=k/\k<=90000000)(Q:0<=d/\d<=3):ad (xK n r d) (λx=>dD 10 x.1/\c7 (k+10) x.2):=by
 unfold xK;refine cq (hN n s O aX) λR ⟨W,w⟩=>ae (ir _ _) ?_;refine ad.loop (λz:List UInt8×Int×List Int×Int=>0<=z.2.2.2/\z.2.2.2<=d/\z.2.2.1.length=4/\c7 (k+1+z.2.2.2) ⟨z.1,z.2.1⟩) (λz=>(d-z.2.2.2).toNat) ?_ n _ ⟨J,J,aX,by simpa using w⟩ J;rintro a ⟨b,q,ls,c⟩ ⟨e,A,o,h⟩ m;dsimp only at e A o h⊢;refine aW (λB=>?_) λC=>ad.some ⟨by unfold dD;dsimp only;omega,h.mono O⟩;refine cq (hN n h O aX) λp ⟨_,F⟩=>?_;obtain⟨y,G,_⟩:=gU (l:=ls) (i:=c) e O;have H:ca ls c p.1=aa (ls.set c.toNat p.1):=by unfold ca;rw[aR ⟨e,O⟩]
 refine ae G (ae H ?_);rw[bc O];exact m _ ⟨J,J,by dsimp only;rw[e6];exact o,F.mono J⟩ J
def mh:Nat->Int
 |0=>30
 |L+1=>30+2*mh L
theorem OC: ∀L,30<=mh L
 |0=>gu _
 |L+1=>by have:=OC L;simp only[mh];omega
theorem Pv{L:Nat}(h:L<=2):mh L<=210:=by
 have a:L=0\/L=1\/L=2:=O
 rcases a with rfl|rfl|rfl<;>decide
theorem vz:dD 10 ⟨[],0⟩:=by unfold dD;simp
theorem vu:fp 10 []:=⟨aX,λx a=>by simp at a⟩
theorem ab0(t:0<=d/\d<=3): ∀(L n:Nat) (k:Int) (r:cJ),5000+L<=n->L<=2->c7 k r->0<=k->k<=80000000+10000*(2-(L:Int))->ad (so (n+1) r d ((L:Int)+1)) (λx=>jd 10 (L+1) x.1/\c7 (k+mh L) x.2):=by
 have a: ∀(L n:Nat) (k:Int) (r:cJ),5000<=n->c7 k r->0<=k->k<=80100000->
   ad (bN (hE n r 4) λi=>bif ag (i.1=0) then(bN (gh n i.2 [1,2,0,99,3]) λo=>aa ((⟨1,o.1,(⟨[],0⟩:az),(⟨[],[]⟩:b0),[]⟩:Expr),o.2)) else(bif ag (i.1=1) then(bN (xK n i.2 d) λu=>aa ((⟨2,0,u.1,(⟨[],[]⟩:b0),[]⟩:Expr),u.2)) else(bN (xj n i.2 d) λv=>aa ((⟨3,0,(⟨[],0⟩:az),v.1,[]⟩:Expr),v.2)))) (λx=>jd 10 (L+1) x.1/\c7 (k+25) x.2):=by
  intro L n k r B m F D;refine cq (j6 n m O) λi ⟨_,_,G⟩=>aW (λ_=>?_) λ_=>aW (λ_=>?_) λ_=>?_
  ·exact cq (hN n G O aX) λo ⟨_,p⟩=>ad.some ⟨⟨aX,vz,vu,λk h=>by simp at h⟩,p.mono O⟩
  ·exact cq (ael B G O t) λo ⟨H,p⟩=>ad.some ⟨⟨aX,H,vu,λk h=>by simp at h⟩,p.mono O⟩
  exact cq (QN B G O t) λo ⟨H,p⟩=>ad.some ⟨⟨aX,vz,H,λk h=>by simp at h⟩,p.mono O⟩
 intro L;induction L with
 |zero=>
  intro n k r B I m F D;unfold so;refine ad.aD (λz:List UInt8×Int×Bool=>c7 k ⟨z.1,z.2.1⟩/\z.2.2=ab) (λj C=>aW (λ_=>C _ ⟨m,rfl⟩) λh=>bB (show((0:Nat):Int)+1<2 by omega) h) λz s=>?_;obtain⟨M,N,E⟩:=z;obtain⟨w,y⟩:=s;dsimp only at w y⊢;subst y;exact(a 0 n k _ O w F O).mono (λx A=>⟨A.1,A.2.mono (by simp only[mh];omega)⟩)
 |succ L P=>
  intro n k r B I m F D;have S:=OC L;have T:mh L<=210:=Pv O;unfold so;refine ad.aD (λz:List UInt8×Int×Bool=>c7 (k+1) ⟨z.1,z.2.1⟩) (λj C=>aW (λh=>C _ (m.mono O)) λh=>cq (j6 n m O) λjS ⟨_,_,U⟩=>C _ U) λz s=>?_;obtain⟨M,N,E⟩:=z;dsimp only at s⊢;cases E with
  |true=>exact(a (L+1) n (k+1) _ O s O O).mono (λx A=>⟨A.1,A.2.mono (by simp only[mh];omega)⟩)
  |false=>
   refine b6 (cq (hN n s O aX) λV ⟨_,K⟩=>?_);obtain⟨n,rfl⟩: ∃j,n=j+1:=⟨n-1,O⟩
   have alA:wr (((L+1:Nat):Int)+1-1)=(L:Int)+1:=by rw[bc O];omega
   rw[alA];refine ad.loop (λz:List UInt8×Int×List Expr×Int=>0<=z.2.2.2/\z.2.2.2<=2/\(z.2.2.1.length:Int)=z.2.2.2/\c7 (k+2+mh L*z.2.2.2) ⟨z.1,z.2.1⟩/\ ∀e∈z.2.2.1,jd 10 (L+1) e) (λz=>(2-z.2.2.2).toNat) ?_ (n+1) _ ⟨J,J,aX,K.mono bQ,λl h=>by simp at h⟩ J;rintro Q ⟨b,q,ls,c⟩ ⟨i1,i2,i3,R,W⟩ X;dsimp only at i1 i2 i3 R W⊢;have akH:0<=mh L*c/\mh L*c<=2*mh L:=by
    have Z:c=0\/c=1\/c=2:=O
    rcases Z with rfl|rfl|rfl<;>omega
   refine aW (λhlt=>?_) λkr=>ad.some ⟨⟨J,vz,vu,W⟩,R.mono (by simp only[mh];omega)⟩;refine cq (P n _ _ O O R O O) λna ⟨f,g⟩=>ae (c' bQ) ?_;rw[bc O];refine X _ ⟨J,J,by dsimp only;simp;omega,g.mono (by dsimp only;rw[Int.mul_add];omega),λe he=>?_⟩ J;rcases eC.1 he with h|h
   ·exact W e h
   simp at h;subst h;exact f
theorem adE(B:6000<=n)(m:c7 k r)(C:0<=k/\k<=70000000)(c:0<=d/\d<=3):ad (BT n r d) (λx=>jy 10 x.1/\c7 (k+300) x.2):=by
 unfold BT;refine cq (QN O m O c) λo ⟨p,q⟩=>cq (hN n q O aX) λs ⟨e,w⟩=>?_;obtain⟨L,y,a⟩: ∃L:Nat,s.1=(L:Int)+1/\L<=2:=by
  simp at e;rcases e with h|h|h|h
  ·exact⟨1,O,O⟩
  ·exact⟨2,O,O⟩
  ·exact⟨0,O,O⟩
  exact⟨1,O,O⟩
 obtain⟨n,rfl⟩: ∃j,n=j+1:=⟨n-1,O⟩
 have F:mh L<=210:=Pv a;rw[y];refine cq (ab0 c L n _ _ O a w O O) λz ⟨A,i⟩=>?_;have l:jy 10 ⟨o.1,z.1⟩:=⟨p,A.mono (cR _) O⟩
 refine ae (KO O (l.mono O).sm d) (ad.cond (λ_=>ad.some ⟨l,i.mono O⟩) λ_=>ae (x:=⟨[0,0,0,0],0⟩) rfl (ad.some ⟨⟨qa (by unfold dD;simp),⟨aX,vz,vu,λk h=>by simp at h⟩⟩,i.mono O⟩))
theorem acH:Fh N [65,91,105,93,61,40,65,91,105,93,43,123,105,125,41]=aa (⟨⟨[65],[⟨[1,0,0,0],0⟩]⟩,⟨4,0,⟨[],0⟩,⟨[],[]⟩,[⟨3,0,⟨[],0⟩,⟨[65],[⟨[1,0,0,0],0⟩]⟩,[]⟩,⟨2,0,⟨[1,0,0,0],0⟩,⟨[],[]⟩,[]⟩]⟩⟩,ab):=Y
theorem afd:GZ N [4]=aa ([⟨[⟨[0,0,0,0],0⟩],[⟨[0,0,0,0],4⟩]⟩],ab):=Y
def pD:List cg:=[⟨[65],[6]⟩,⟨[66],[4,5]⟩,⟨[67],[3]⟩]
theorem Bz:pD.length<=4/\i8 pD:=by refine⟨by decide,λx a=>?_⟩;simp[pD] at a;rcases a with rfl|rfl|rfl<;>decide
theorem Qb:sH 10 pD:=by
 refine⟨by decide,λx a=>?_⟩;simp[pD] at a
 grind
theorem ae9:gg 10 ⟨[⟨[⟨[0,0,0,0],0⟩],[⟨[0,0,0,0],4⟩]⟩],[⟨⟨[65],[⟨[1,0,0,0],0⟩]⟩,⟨4,0,⟨[],0⟩,⟨[],[]⟩,[⟨3,0,⟨[],0⟩,⟨[65],[⟨[1,0,0,0],0⟩]⟩,[]⟩,⟨2,0,⟨[1,0,0,0],0⟩,⟨[],[]⟩,[]⟩]⟩⟩]⟩:=by
 have i: ∀(a b c d e:Int),dD 10 ⟨[a,b,c,d],e⟩:=λa b c d e=>by unfold dD;simp
 refine⟨⟨aX,λl m=>?_⟩,aX,λs n=>?_⟩
 ·simp at m;subst m;exact⟨qa (i _ _ _ _ _),qa (i _ _ _ _ _)⟩
 simp at n;subst n;refine⟨qa (i _ _ _ _ _),aX,vz,vu,λk o=>?_⟩;simp at o;rcases o with rfl|rfl
 ·exact⟨aX,vz,qa (i _ _ _ _ _),λk h=>by simp at h⟩
 exact⟨aX,i _ _ _ _ _,vu,λk h=>by simp at h⟩
theorem ae1(M:c7 k r)(hk:0<=k/\k<=10000000):ad (BS N r) (λx=>gg 10 x.1/\c7 (k+40000) x.2):=by
 have gz:N=100000:=rfl;unfold BS;refine ad.loop (λz:List UInt8×Int×Int=>0<=z.2.2/\z.2.2<=4/\c7 (k+10000*z.2.2) ⟨z.1,z.2.1⟩) (λz=>(4-z.2.2).toNat) ?_ N _ ⟨J,J,by simpa using M⟩ J;rintro Q ⟨b,q,c⟩ ⟨P,S,R⟩ W;dsimp only at P S R⊢;refine aW (λT=>?_) λU=>ae acH (ae afd (ad.some ⟨ae9,R.mono O⟩));refine cq (aeD O R O) λi ⟨⟨n3,V⟩,KA⟩=>cq (hN N KA O aX) λe ⟨m6,alN⟩=>?_;have hm:1<=e.1/\e.1<=3:=by simp at m6;omega
 refine ad.loop (λz:List UInt8×Int×List Loop×List Stmt×Int=>z.2.2.1=i.1/\0<=z.2.2.2.2/\z.2.2.2.2<=e.1/\(z.2.2.2.1.length:Int)+z.2.2.2.2<=e.1/\c7 (k+10000*c+41+1500*(e.1-z.2.2.2.2)) ⟨z.1,z.2.1⟩/\ ∀s∈z.2.2.2.1,jy 10 s) (λz=>z.2.2.2.2.toNat) ?_ N _ ⟨rfl,J,J,aX,alN.mono J,λs h=>by simp at h⟩ J;rintro m ⟨dc,oG,alb,c5,w⟩ ⟨g,rW,jJ,Tf,H,K⟩ n;dsimp only at g rW jJ Tf H K⊢;subst g;have a: ∀(l:List Stmt),l.length<=10->(∀s∈l,jy 10 s)->gg 10 ⟨i.1,l⟩:=λl h1 h2=>⟨V,h1,h2⟩
 refine aW (λt=>?_) λu=>?_
 ·refine ad.aD (λz:List UInt8×Int×List Stmt=>c7 (k+10000*c+41+1500*(e.1-w)+1500) ⟨z.1,z.2.1⟩/\z.2.2.length<=c5.length+1/\ ∀s∈z.2.2,jy 10 s) (λTe o=>?_) λz fr=>?_
  ·refine ad.loop (λz:List UInt8×Int×Int=>0<=z.2.2/\z.2.2<=5/\c7 (k+10000*c+41+1500*(e.1-w)+300*z.2.2) ⟨z.1,z.2.1⟩) (λz=>(5-z.2.2).toNat) ?_ N _ ⟨J,J,by simpa using H⟩ J;rintro p ⟨cS,q2,v⟩ ⟨g1,g2,X⟩ y;dsimp only at g1 g2 X⊢;refine aW (λD=>?_) λE=>o _ ⟨X.mono O,J,K⟩;refine cq (adE O X O (d:=(i.1.length:Int)) O) λA ⟨B,C⟩=>ae (x:=pD) rfl ?_;have Z:CV ⟨i.1,[A.1]⟩:=((a [A.1] aX λs L=>by simp at L;subst L;exact B).mono O).sm;refine ae (FP O Bz.1 Bz.2 Z) (ad.cond (λ_=>ae (c' bQ) (o _ ⟨C.mono O,aX,λs L=>?_⟩)) λ_=>?_)
   ·rcases eC.1 L with h|h
    ·exact K s h
    simp at h;subst h;exact B
   rw[bc O];exact y _ ⟨J,J,C.mono J⟩ J
  obtain⟨Ag,z2,z3⟩:=z;obtain⟨F,f,G⟩:=fr;dsimp only at F f G⊢;rw[bc O];exact n _ ⟨rfl,J,J,J,F.mono J,G⟩ J
 have I:gg 10 ⟨i.1,c5⟩:=a c5 O K;refine ae (x:=pD) rfl (ae (FP O Bz.1 Bz.2 (I.mono O).sm) ?_);refine ad.aD (λz=>True) (λj o=>ad.cond (λ_=>o _ trivial) λ_=>o _ trivial) λz _=>?_;cases z with
 |true=>exact ad.some ⟨I,H.mono O⟩
 |false=>
  refine b6 ?_;rw[bc O];exact W _ ⟨J,J,H.mono J⟩ J
theorem abe(o:c7 k r)(G:0<=k/\k<=1000000):ad (BE N r) (λx=>di 10 x.1/\c7 (k+200000) x.2):=by
 have H:N=100000:=rfl;unfold BE;refine ae (x:=pD) rfl (cq (hN N o O aX) λd ⟨p,s⟩=>?_);have K:1<=d.1/\d.1<=3:=by simp at p;omega
 refine ad.loop (λz:List UInt8×Int×List Part×Int=>0<=z.2.2.2/\(z.2.2.1.length:Int)+z.2.2.2=d.1/\c7 (k+1+40000*z.2.2.1.length) ⟨z.1,z.2.1⟩/\ ∀x∈z.2.2.1,gg 10 x) (λz=>z.2.2.2.toNat) ?_ N _ ⟨J,aX,by simpa using s,λx h=>by simp at h⟩ J;rintro e ⟨b,q,w,c⟩ ⟨y,A,a,i⟩ l;dsimp only at y A a i⊢;refine aW (λB=>?_) λC=>?_
 ·refine cq (ae1 a O) λL ⟨Q,F⟩=>ae (c' bQ) ?_;rw[bc O];refine l _ ⟨J,by dsimp only;simp;omega,F.mono bQ,λx m=>?_⟩ J
  grind
 have n:di 10 ⟨pD,w⟩:=⟨Qb,J,i⟩
 refine ae (kN O (n.mono O).sm) (ad.cond (λ_=>ad.some ⟨n,a.mono O⟩) λ_=>ae (x:=pD) rfl (ae (iR O O O) (ad.some ⟨⟨Qb,?_,λx m=>i x ?_⟩,a.mono O⟩)))
 ·simp;omega
 exact gP (fq m)
theorem GC{k h:Type}{l:List k}{f:k->Option h}{g:k->h->k}{K:List k->Option R}(m: ∀x∈l,∃z,f x=aa z/\g x z=x)(A:l.length<=1000)(B:5000<=n)(C:ad (K l) Q):
  ad (bm (λa ((x,i):List k×Int)=>bif ag (i<(l.length:Int)) then(bN (ax l i) λy=>bN (f y) λz=>bN (app x [g y z]) λw=>a (w,wr (i+1))) else K x) n ([],0)) Q:=by
 refine ad.loop (λz:List k×Int=> ∃i:Nat,z.2=i/\i<=l.length/\z.1=l.take i) (λz=>l.length-z.2.toNat) ?_ n _ ⟨0,rfl,O,aX⟩ J;rintro a ⟨x,z⟩ ⟨i,e,F,c⟩ o;dsimp only at e c⊢;subst e;refine aW (λp=>?_) λq=>?_
 ·have bL:=bp (O:i<l.length);have r:x.length<=1000:=by rw[c,cZ];omega
  obtain⟨y,s,d⟩:=m _ (bx bL);refine ae (bl bL) (ae s (ae (c' bQ) ?_));rw[bc O];refine o _ ⟨i+1,J,O,?_⟩ J;dsimp only;rw[eO,bL,c,d];rfl
 have:i=l.length:=O
 grind
theorem sg{k:Type}{l:List k}{f:k->Option k}{K:List k->Option R}(c: ∀x∈l,f x=aa x)(d:l.length<=1000)(e:5000<=n)(h:ad (K l) Q):
  ad (bm (λa ((x,i):List k×Int)=>bif ag (i<(l.length:Int)) then(bN (ax l i) λy=>bN (f y) λz=>bN (app x [z]) λw=>a (w,wr (i+1))) else K x) n ([],0)) Q:=
 GC (g:=λ_ z=>z) (λx m=>⟨x,c x m,rfl⟩) d e h
theorem Mu: ∀(L n:Nat) (e:Expr),5000+L<=n->jd 1000 L e->sl (n+1) e=aa e
 |0,_,_,_,h=>h.elim
 |L+1,n,e,m,h=>by
  obtain⟨a,c,d,i⟩:=h;unfold sl;refine ad.eq (ae (AN n c) (ae (v6 O d.sm) ?_));obtain⟨n,rfl⟩: ∃j,n=j+1:=⟨n-1,O⟩
  exact sg (f:=sl (n+1)) (K:=λk=>aa (⟨e.kind,e.num,e.index,e.read,k⟩:Expr)) (λx l=>Mu L n x O (i x l)) a O (ad.some (by cases e;rfl))
theorem Ms(a:6000<=n)(h:jy 1000 s):uz n s=aa s:=by
 obtain⟨n,rfl⟩: ∃j,n=j+1:=⟨n-1,O⟩
 unfold uz;rw[v6 O h.1.sm,Mu 5 n s.value O h.2];rfl
theorem Mt(X:6000<=n){nest:List Loop}(h:la 1000 nest):xk n nest=aa nest:=by
 obtain⟨Z,C⟩:=h;refine ad.eq ?_;unfold xk;refine ad.loop (λz:List Loop×Int=> ∃i:Nat,z.2=i/\i<=nest.length/\z.1=nest.take i) (λz=>nest.length-z.2.toNat) ?_ n _ ⟨0,rfl,O,aX⟩ J;rintro c ⟨x,z⟩ ⟨i,e,b,o⟩ F;dsimp only at e o⊢;subst e;refine aW (λG=>?_) λH=>ad.some ?_
 ·have bL:=bp (O:i<nest.length);obtain⟨⟨j,L⟩,⟨eM,cF⟩⟩:=C _ (bx bL);have Q:x.length<=1000:=by rw[o,cZ];omega
  refine ad.loop (λz:List az×Int=> ∃t:Nat,z.2=t/\t<=nest[i].lo.length/\z.1=nest[i].lo.take t) (λz=>nest[i].lo.length-z.2.toNat) ?_ n _ ⟨0,rfl,O,aX⟩ J;rintro k ⟨y,z⟩ ⟨t,e,u,m⟩ p;dsimp only at e m⊢;subst e;refine ae (bl bL) (aW (λA=>?_) λB=>?_)
  ·have d:=bp (O:t<nest[i].lo.length);have R:y.length<=1000:=by rw[m,cZ];omega
   refine ae (bl d) (ae (oj _ (L _ (bx d))) (ae (c' bQ) ?_));rw[bc O];refine p _ ⟨t+1,J,O,?_⟩ J;dsimp only;rw[eO,d,m];rfl
  have q:t=nest[i].lo.length:=O
  refine GC (l:=nest[i].hi) (f:=λa:az=>app [] a.aT) (g:=λa r=>(⟨r,a.const⟩:az)) (K:=λs=>bN (app x [(⟨y,s⟩:Loop)]) λw=>c (w,wr ((i:Int)+1))) (λa W=>⟨_,oj _ (cF a W),rfl⟩) eM O ?_;refine ae (c' bQ) ?_;rw[bc O];refine F _ ⟨i+1,J,O,?_⟩ J;dsimp only;rw[eO,bL,o,m,q,dW];rfl
 have:i=nest.length:=O
 grind
theorem oi(G:6000<=n)(h:di 1000 p):sc n p=aa p:=by
 obtain⟨⟨aN,a2⟩,I,Q⟩:=h;refine ad.eq ?_;unfold sc;refine GC (n:=n) (l:=p.aQ) (f:=λw:cg=>app [] w.b1) (g:=λw R=>(⟨w.name,R⟩:cg)) (K:=λW=>bm (λc ((H,y):(List Part)×Int)=>
    bif ag (y<(p.parts.length:Int)) then(
     bN (ax p.parts y) λk=>
     bN (xk n k.nest) λA=>
     bm (λd ((e,m):(List Stmt)×Int)=>
      bif ag (m<(k.body.length:Int)) then(
       bN (ax k.body m) λB=>
       bN (uz n B) λC=>
       bN (app e [C]) λF=>
       d (F,wr (m+1))
      ) else(
       bN (app H [(⟨A,e⟩:Part)]) λo=>
       c (o,wr (y+1))
      )
     ) n ([],0)
    ) else(
     aa (⟨W,H⟩:Prog)
    )
   ) n ([],0)) (λa X=>⟨_,oj _ (a2 a X),rfl⟩) aN O ?_
 refine ad.loop (λz:List Part×Int=> ∃i:Nat,z.2=i/\i<=p.parts.length/\z.1=p.parts.take i) (λz=>p.parts.length-z.2.toNat) ?_ n _ ⟨0,rfl,O,aX⟩ J;rintro q ⟨x,z⟩ ⟨i,L,M,r⟩ Z;dsimp only at L r⊢;subst L;refine aW (λb=>?_) λj=>ad.some ?_
 ·have bL:=bp (O:i<p.parts.length);obtain⟨t,u,v⟩:=Q _ (bx bL);have D:x.length<=1000:=by rw[r,cZ];omega
  refine ae (bl bL) (ae (Mt G t) ?_);refine sg (f:=uz n) (K:=λe=>bN (app x [(⟨p.parts[i].nest,e⟩:Part)]) λo=>q (o,wr ((i:Int)+1))) (λs E=>Ms G (v s E)) u O ?_;refine ae (c' bQ) ?_;rw[bc O];refine Z _ ⟨i+1,J,O,?_⟩ J;dsimp only;rw[eO,bL,r];rfl
 have:i=p.parts.length:=O
 rw[r,this,dW]
theorem qY{k:Type}{l:List k}{i:Nat}{x:k}{P:k->Prop}(h: ∀y∈l,P y)(c:P x): ∀y∈l.set i x,P y:=λy d=>by
 rcases uI d with a|a
 ·exact h y a
 rw[a];exact c
theorem Cq{k:Type}{l:List k}{x:k}{P:k->Prop}(h: ∀y∈l,P y)(c:P x): ∀y∈l++[x],P y:=λy d=>by
 rcases eC.1 d with a|a
 ·exact h y a
 simp at a;rw[a];exact c
theorem dU{k:Type}{l:List k}{i:Int}(h:0<=i/\i<l.length)(x:k):ca l i x=aa (l.set i.toNat x):=by unfold ca;rw[aR h]
theorem ae2{l:List az}(h:fp B l)(c:dD (B+5) a):fp (B+5) (l++[a]):=⟨by have:=h.1;simp;omega,Cq (λy d=>(h.2 y d).mono O) c⟩
theorem PH{l:List az}(h:fp B l)(d:dD (B+5) a)(e:dD (B+5) b):fp (B+5) (l++[a,b]):=⟨by have:=h.1;simp;omega,λy i=>by
 rcases eC.1 i with c|c
 ·exact(h.2 y c).mono O
 simp at c;rcases c with rfl|rfl;exact d;exact e⟩
theorem Cb(h:4<=B)(c:Int):dD B ⟨[0,0,0,0],c⟩:=by unfold dD;simpa using h
theorem HJ(b:6000<=n)(S:10<=B/\B<=900)(R:c7 k r)(T:0<=k/\k<=90000000){c:List Loop}(h:la B c):ad (wM n r c) (λx=>la (B+5) x.1/\c7 (k+5) x.2):=by
 unfold wM;refine ae (Mt b (h.mono O)) (aW (λ_=>ad.some ⟨h.mono O,R.mono O⟩) λf=>?_);have s:0<c.length:=O
 have o:=h.mono (O:B<=B+5);have g:=h.1;have t:wr ((c.length:Int)-1)=(c.length:Int)-1:=bc O;rw[t];refine ad.aD (λz:List UInt8×Int×List Loop=>c7 (k+5) ⟨z.1,z.2.1⟩/\la (B+5) z.2.2) (λj p=>?_) λz W=>ad.some ⟨W.2,W.1⟩;have d: ∀(i:Nat) (l:Loop),fp (B+5) l.lo->fp (B+5) l.hi->la (B+5) (c.set i l):=λi l u v=>⟨by rw[e6];exact o.1,qY o.2 ⟨u,v⟩⟩
 obtain⟨U,w,e⟩:=gU (l:=c) (i:=0) O O;obtain⟨V,A,m⟩:=gU (l:=c) (i:=(c.length:Int)-1) O O;have X:=h.2 _ (bx e);have Z:=h.2 _ (bx m);have C:=o.2 _ (bx e);have F:=o.2 _ (bx m);refine cq (j6 n R O) λil ⟨_,_,q⟩=>aW (λ_=>?_) λ_=>aW (λ_=>?_) λ_=>aW (λ_=>?_) λ_=>aW (λ_=>?_) λ_=>aW (λ_=>?_) λ_=>p _ ⟨q.mono O,o⟩
 ·refine ae w (cq (j6 n q O) λk8 ⟨D,E,I⟩=>cq (ya n ⟨D,by have:=E O;omega⟩) λnc M=>ae (c' (by have:=X.1.1;simp;omega)) (ae (dU O _) (p _ ⟨I.mono O,d _ _ (ae2 X.1 (M.Dl.mono O)) C.2⟩)))
 ·exact ae A (ae (dU O _) (p _ ⟨q.mono O,d _ _ F.1 ⟨aX,λa G=>by simp at G⟩⟩))
 ·exact ae A (ae (ir _ _) (ae (ir _ _) (ae (c' (by have:=Z.2.1;simp;omega)) (ae (dU O _) (p _ ⟨q.mono O,d _ _ F.1 (PH Z.2 (Cb O _) (Cb O _))⟩)))))
 ·exact ae (ir _ _) (ae w (ae (dU O _) (p _ ⟨q.mono O,d _ _ C.1 ⟨aX,λa G=>by simp at G;subst G;exact Cb O _⟩⟩)))
 refine ad.loop (λz:List Loop=>0<z.length/\la (B+5) z) (λz=>5-z.length) ?_ n _ ⟨s,o⟩ O;rintro H z ⟨Ag,K⟩ L;refine aW (λN=>?_) λ_=>p _ ⟨q.mono O,K⟩;obtain⟨y,P,Q⟩:=gU (l:=z) (i:=0) O O;exact ae P (ae (c' bQ) (L _ ⟨aX,bQ,Cq K.2 (K.2 _ (bx Q))⟩ bQ))
theorem HI(y:6000<=n)(L:10<=B/\B<=900)(A:c7 k r)(Q:0<=k/\k<=90000000)(h:jy B s):ad (wL n r s) (λx=>jy (B+5) x.1/\c7 (k+5) x.2):=by
 have q:=h.mono (O:B<=B+5);obtain⟨l,m,C,F,c⟩:=q;have G:=h.1.1;have H:=h.2.1;unfold wL;refine ae (Ms y (h.mono O)) ?_;refine ad.aD (λz:List UInt8×Int×List az×List Expr×List UInt8×Int×Int=>c7 (k+5) ⟨z.1,z.2.1⟩/\fp (B+5) z.2.2.1/\z.2.2.2.1.length<=B+5/\ ∀e∈z.2.2.2.1,jd (B+5) 4 e) (λj d=>?_) λz p=>ad.some ⟨⟨p.2.1,p.2.2.1,C,F,p.2.2.2⟩,p.1⟩;refine cq (j6 n A O) λR ⟨_,_,i⟩=>aW (λ_=>?_) λ_=>aW (λ_=>?_) λ_=>aW (λ_=>?_) λ_=>aW (λ_=>?_) λ_=>aW (λ_=>?_) λ_=>d _ ⟨i.mono O,l,m,c⟩
 ·exact cq (Di n i O aX) λw ⟨_,o⟩=>d _ ⟨o.mono O,l,m,c⟩
 ·exact cq (ya n (v:=3) O) λW q=>ae (x:=⟨[0,0,0,0],0⟩) rfl (ae (c' bQ) (d _ ⟨i.mono O,PH h.1 (q.Dl.mono O) (Cb O _),m,c⟩))
 ·exact cq (hN n i O aX) λw ⟨_,o⟩=>d _ ⟨o.mono O,l,m,c⟩
 ·exact cq (hN n i O aX) λw ⟨_,o⟩=>d _ ⟨o.mono O,l,m,c⟩
 exact ae (c' bQ) (d _ ⟨i.mono O,l,bQ,Cq c ⟨aX,by unfold dD;simp,⟨aX,λa K=>by simp at K⟩,λk h=>by simp at h⟩⟩)
theorem aeF(G:6000<=n)(T:c7 k r)(hk:0<=k/\k<=80000000)(h:di 10 p):ad (Ap n r p) (λx=>di 30 x.1/\c7 (k+30) x.2):=by
 have f:=h.mono (O:10<=30);obtain⟨m,C,o⟩:=f;have gI:=h.1.1;have hp:=h.2.1;unfold Ap;refine ae (oi G (h.mono O)) ?_;have U:wr ((p.parts.length:Int)-1)=(p.parts.length:Int)-1:=bc O;rw[U];refine ad.aD (λz:List UInt8×Int×List cg×List Part=>c7 (k+30) ⟨z.1,z.2.1⟩/\sH 30 z.2.2.1/\z.2.2.2.length<=30/\ ∀x∈z.2.2.2,gg 30 x) (λj X=>?_) λz Z=>ad.some ⟨⟨Z.2.1,Z.2.2.1,Z.2.2.2⟩,Z.1⟩;have q: ∀(i:Nat) (x:Part),gg 30 x->(p.parts.set i x).length<=30/\ ∀y∈p.parts.set i x,gg 30 y:=λi x g=>⟨by rw[e6];exact C,qY o g⟩
 have a: ∀{t:cJ},c7 (k+20) t->ad (j (t.b,t.p,p.aQ,p.parts)) (λx=>di 30 x.1/\c7 (k+30) x.2):=λu=>X _ ⟨u.mono O,m,C,o⟩;refine cq (j6 n T O) λil ⟨_,_,A⟩=>aW (λ_=>?_) λ_=>aW (λ_=>?_) λ_=>aW (λ_=>?_) λ_=>aW (λ_=>?_) λ_=>aW (λ_=>?_) λ_=>a (A.mono O)
 ·refine cq (Di n A O aX) λkE ⟨_,V⟩=>cq (hN n V O aX) λk8 ⟨_,KA⟩=>ae (c' bQ) (X _ ⟨KA.mono O,⟨bQ,Cq m.2 aX⟩,C,o⟩)
 ·refine aW (λc=>?_) λ_=>a (A.mono O);obtain⟨y,w,d⟩:=gU (l:=p.aQ) (i:=0) O c;exact cq (hN n A O aX) λha ⟨_,alO⟩=>ae w (ae (dU O _) (X _ ⟨alO.mono O,⟨by rw[e6];exact m.1,qY m.2 aX⟩,C,o⟩))
 ·refine aW (λc=>?_) λ_=>a (A.mono O);obtain⟨y,w,d⟩:=gU (l:=p.parts) (i:=0) O c;have v:=h.2.2 _ (bx d);have e:=o _ (bx d);refine ae w (cq (HJ G (B:=10) O A O v.1) λD ⟨H,K⟩=>cq (HJ G (B:=15) O K O H) λE ⟨L,Q⟩=>cq (HJ G (B:=20) O Q O L) λI ⟨R,W⟩=>ae (dU O _) ?_);exact X _ ⟨W.mono O,m,q _ _ ⟨R.mono O,e.2.1,e.2.2⟩⟩
 ·refine ad.aD (λz:Bool=>z=ab->0<(p.parts.length:Int)/\ ∀x,ax p.parts ((p.parts.length:Int)-1)=aa x->0<(x.body.length:Int)) (λKb F=>aW (λc=>?_) λ_=>F _ λh=>by cases h) λz Z=>?_
  ·obtain⟨y,w,d⟩:=gU (l:=p.parts) (i:=(p.parts.length:Int)-1) O O;refine ae w (F _ λcD=>⟨c,λx S=>?_⟩);rw[w] at S;cases S;exact fF cD
  cases z with
  |false=>exact a (A.mono O)
  |true=>
   obtain⟨c,bb⟩:=Z rfl;obtain⟨y,w,d⟩:=gU (l:=p.parts) (i:=(p.parts.length:Int)-1) O O;have M:=bb y w;have v:=h.2.2 _ (bx d);have e:=o _ (bx d);obtain⟨s,N,P⟩:=gU (l:=y.body) (i:=0) O M;have ms:=v.2.2 _ (bx P);refine bY (ae w (ae N (cq (HI G (B:=10) O A O ms) λD ⟨H,K⟩=>cq (HI G (B:=15) O K O H) λE ⟨L,Q⟩=>cq (HI G (B:=20) O Q O L) λI ⟨R,W⟩=>ae (dU O _) (ae (dU O _) ?_))));exact X _ ⟨W.mono O,m,q _ _ ⟨e.1,by rw[e6];exact e.2.1,qY e.2.2 (R.mono O)⟩⟩
 refine aW (λc=>?_) λ_=>a (A.mono O);obtain⟨y,w,d⟩:=gU (l:=p.parts) (i:=(p.parts.length:Int)-1) O O;have e:=o _ (bx d);exact ae w (ae (dU O _) (X _ ⟨A.mono O,m,q _ _ ⟨e.1,aX,λs N=>by simp at N⟩⟩))
theorem P2{r:List cg}(c:i8 r):0<=gK r/\gK r<=36*r.length:=by have d:=oK (λx:cg=>ih x.b1) r λy a=>(sZ (c y a)).1;have e:=CJ (λx:cg=>ih x.b1) 36 r λy a=>(sZ (c y a)).2;unfold gK;omega
end Go.Lift
