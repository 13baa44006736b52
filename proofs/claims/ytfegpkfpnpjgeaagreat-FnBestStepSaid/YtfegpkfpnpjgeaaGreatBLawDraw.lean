/- Tools. -/
import Derived.Test.YtfegpkfpnpjgeaaGreatBLiftLaw
set_option maxRecDepth 100000
set_option linter.unusedVariables false
namespace Go.Lift
open Go
section
abbrev N:Nat:=100000
def cX(k:Int)(r:cH):Prop:=0<=r.p/\r.p<=k/\r.b.length<=2000
variable {k:Int}{r:cH}
theorem cX.mono{a:Int}(h:cX k r)(c:k<=a):cX a r:=⟨h.1,by have:=h.2.1;omega,h.2.2⟩
theorem abh(a:List UInt8):aa (zK N a) (cX 0):=by unfold zK;refine aa.ay (λx=>x.length<=2000) (λj c=>aN (λh=>ab (gE O O O) (c _ bN)) λh=>c _ O) λz d=>aa.some ⟨fT 0,fT 0,d⟩
theorem Pn(x:UInt8):(x.toNat:Int)<=255:=by have:=UInt8.toNat_lt x;omega
theorem xd{n:Int}(h:n≠0):kb n=some ():=by unfold kb;rw[aZ h]
theorem N6{m:Int}(B:cX k r)(V:k<=1000000000):aa (hG N r m) (λx=>0<=x.1/\(1<=m->x.1<m)/\cX (k+1) x.2):=by
 obtain⟨b,p⟩:=r;obtain⟨c,C,w⟩:=B;dsimp only at c C w;unfold hG;dsimp only;have F:wr (p+1)=p+1:=bb O;have G:wr (p+1-1)=p:=by rw[bb O];omega
 rw[F,G];have a:cX (k+1) ⟨b,p+1⟩:=⟨by show 0<=p+1;omega,by show p+1<=k+1;omega,w⟩
 refine aa.ay (λz=>z=false->1<=m/\b.length≠0) (λj A=>aN (λh=>A _ λh=>by cases h) λh=>A _ λH=>⟨O,by simpa using H⟩) λz K=>?_;refine aa.cond (λ_=>aa.some ⟨aP,λh=>bN,a⟩) λd=>?_;obtain⟨Y,aY⟩:=K d;refine aN (λe=>?_) λL=>?_
 ·obtain⟨x,n,_⟩:=gu c e;refine ab n (ab (xd O) (aa.some ⟨?_,λ_=>?_,a⟩))
  ·exact Int.tmod_nonneg _ O
  exact Int.tmod_lt_of_pos _ O
 have su:1<=(b.length:Int)/\(b.length:Int)<=2000:=O
 have Q:wr (p*7)=p*7:=bb O;have R:wr (p*7+3)=p*7+3:=bb O;rw[Q,R];obtain⟨x,n,_⟩:=gu (l:=b) (i:=Int.tmod p b.length) (Int.tmod_nonneg _ c) (Int.tmod_lt_of_pos _ O);obtain⟨y,W,_⟩:=gu (l:=b) (i:=Int.tmod (p*7+3) b.length) (Int.tmod_nonneg _ O) (Int.tmod_lt_of_pos _ O);refine ab (xd O) (ab n (ab (xd O) (ab W (ab (xd O) (ab (xd O) (aa.some ⟨?_,λ_=>Int.tmod_lt_of_pos _ O,a⟩))))));refine Int.tmod_nonneg _ ?_;have X:=Pn x;have f:=Pn y;have o:0<=Int.tdiv p b.length:=Int.tdiv_nonneg c O;have s:Int.tdiv p b.length<=p:=Int.tdiv_le_self _ c;generalize Int.tdiv p b.length=q at o s;have g:wr ((x.toNat:Int)*131)=(x.toNat:Int)*131:=bb O;have t:wr ((y.toNat:Int)*1117)=(y.toNat:Int)*1117:=bb O;have u:wr (p*29)=p*29:=bb O;have v:wr q=q:=bb O;have D:wr (q*53)=q*53:=bb O;rw[g,t,u,v,D];have E:wr ((x.toNat:Int)*131+(y.toNat:Int)*1117)=(x.toNat:Int)*131+(y.toNat:Int)*1117:=bb O;rw[E];have I:wr ((x.toNat:Int)*131+(y.toNat:Int)*1117+p*29)=(x.toNat:Int)*131+(y.toNat:Int)*1117+p*29:=bb O;rw[I];have P:wr ((x.toNat:Int)*131+(y.toNat:Int)*1117+p*29+q*53)=(x.toNat:Int)*131+(y.toNat:Int)*1117+p*29+q*53:=bb O;rw[P];obtain⟨M,S⟩: ∃M:Nat,(x.toNat:Int)*131+(y.toNat:Int)*1117+p*29+q*53=M:=⟨((x.toNat:Int)*131+(y.toNat:Int)*1117+p*29+q*53).toNat,O⟩
 rw[S];have T:(M:Int)<=100000000000000:=O
 have U:Int.tdiv (M:Int) 64=((M / 64:Nat):Int):=by rw[Int.tdiv_eq_ediv_of_nonneg O];omega
 rw[U,bb O,U9 _ _ O O];omega
theorem OM{l:List Int}(c:cX k r)(d:k<=1000000000)(e:l≠[]):aa (gg N r l) (λx=>x.1∈l/\cX (k+1) x.2):=by
 unfold gg;have o:1<=l.length:=by cases l;exact bz rfl e;simp
 refine cr (N6 c d) λx ⟨h,i,m⟩=>?_;obtain⟨y,n,a⟩:=gu h (i O);exact ab n (aa.some ⟨bE a,m⟩)
end
section
def dot:List Int->List Int->Int
 |c::cs,x::xs=>c*x+dot cs xs
 |_,_=>0
def cF(m:Int)(x:Int):Prop:= -m<=x/\x<=m
variable {a:aw}{b c x d aE v M:Int}{i n k:Nat}{p l:List Int}{R:Type}{A B:Option R}{o:List Loop}{s:List UInt8}{Q:R->Prop}
theorem BH{a:Int}(m:0<=a)(n:0<=b)(i:cF a c)(l:cF b x):cF (a*b) (c*x):=by
 obtain⟨o,p⟩:=i;obtain⟨q,r⟩:=l;constructor
 ·have h:=oQ (O:0<=a+c) (O:0<=b+x);have k:=oQ (O:0<=a-c) (O:0<=b-x);have d:(a+c)*(b+x)=a*b+a*x+c*b+c*x:=by rw[Int.add_mul,Int.mul_add,Int.mul_add];omega
  have e:(a-c)*(b-x)=a*b-a*x-c*b+c*x:=by rw[Int.sub_mul,Int.mul_sub,Int.mul_sub];omega
  rw[d] at h;rw[e] at k;omega
 have h:=oQ (O:0<=a+c) (O:0<=b-x);have k:=oQ (O:0<=a-c) (O:0<=b+x);have d:(a+c)*(b-x)=a*b-a*x+c*b-c*x:=by rw[Int.add_mul,Int.mul_sub,Int.mul_sub];omega
 have e:(a-c)*(b+x)=a*b+a*x-c*b-c*x:=by rw[Int.sub_mul,Int.mul_add,Int.mul_add];omega
 rw[d] at h;rw[e] at k;omega
theorem Gw(a:List Int):dot a []=0:=by cases a<;>rfl
theorem Ny: ∀{cs a:List Int} {c x:Int},cs[a.length]? =some c->dot cs (a++[x])=dot cs a+c*x
 | [],a,c,x,h=>by simp at h
 |d::cs,[],c,x,h=>by simp at h;subst h;simp[dot,Gw]
 |d::cs,y::a,c,x,h=>by
  have h:cs[a.length]? =some c:=by simpa using h
  simp only[List.cons_append,dot];rw[Ny h];omega
theorem Nx{d e:List Int}(h:d[i]? =some c)(a:e[i]? =some x):dot d (e.take (i+1))=dot d (e.take i)+c*x:=by have aE:=(bU.1 a).1;rw[eg,a];exact Ny (by simpa[Nat.min_eq_left (Nat.le_of_lt aE)] using h)
theorem G9{M:Int}(a:0<=M): ∀{cs xs:List Int},(∀c∈cs,cF 9 c)->(∀x∈xs,cF M x)->cF (9*M*xs.length) (dot cs xs)
 | [],xs,_,_=>by
  have:0<=9*M*(xs.length:Int):=oQ O O;simp only[dot,cF];omega
 |d::cs,[],_,_=>by simp[dot,cF]
 |d::cs,y::xs,i,k=>by
  have l:=G9 a (cs:=cs) (xs:=xs) (λc h=>i c (by simp[h])) λx h=>k x (by simp[h]);have m:=BH O a (i d aP) (k y aP);have e:9*M*((y::xs).length:Int)=9*M*(xs.length:Int)+9*M:=by simp[Int.mul_add]
  rw[e];simp only[dot,cF] at*;omega
def dA(a c:Int):List Int:=(List.range (c-a).toNat).map (fun(i:Nat)=>a+(i:Int))
theorem abc{a:Int}:v∈dA a aE↔a<=v/\v<aE:=by
 simp only[dA,List.mem_map,List.mem_range];constructor
 ·rintro⟨i,aE,rfl⟩;omega
 intro h;exact⟨(v-a).toNat,O,O⟩
theorem lT{a:Int}(h:b<=a):dA a b=[]:=by unfold dA;rw[show(b-a).toNat=0 by omega];rfl
theorem tj{a:Int}(h:b<=a):dA b (a+1)=dA b a++[a]:=by unfold dA;rw[show(a+1-b).toNat=(a-b).toNat+1 by omega,nO,ho];simp;omega
theorem zN{a:Int}(c:a<=v)(d:v<aE):dA a aE=dA a v++v::dA (v+1) aE:=by
 obtain⟨k,e⟩: ∃k:Nat,aE=v+1+k:=⟨(aE-v-1).toNat,O⟩
 subst e;clear d;induction k with
 |zero=>
  rw[show v+1+((0:Nat):Int)=v+1 by omega,tj c,lT (fT _)]
 |succ k h=>
  rw[show v+1+((k+1:Nat):Int)=v+1+(k:Int)+1 by omega,tj O,h,tj O];simp
theorem A3{a:Type}{f:a->Option Bool}{p:a->Bool}{l:List a}(s: ∀x∈l,f x=some (p x))(G:l.length<n)(w:l.length<=1000000):
  ∃r:Int,bd (λc (d:Int)=>bif decide (d<(l.length:Int)) then(Option.bind (ar l d) λi=>Option.bind (f i) λk=>bif k then(some d) else(c (wr (d+1)))) else(some (-1))) n 0=some r/\decide (0<=r)=l.any p:=by
 suffices h:aa (bd (λc (d:Int)=>bif decide (d<(l.length:Int)) then(Option.bind (ar l d) λi=>Option.bind (f i) λk=>bif k then(some d) else(c (wr (d+1)))) else(some (-1))) n 0) (λr=>decide (0<=r)=l.any p) by exact h
 refine aa.loop (λx:Int=>0<=x/\x<=l.length/\(l.take x.toNat).any p=false) (λx:Int=>l.length-x.toNat) ?_ n 0 ⟨O,O,aP⟩ bN;rintro m x ⟨q,H,K⟩ z;refine aN (λo=>?_) λA=>?_
 ·obtain⟨y,B,e⟩:=gu q o;have hm:=bE e;refine ab B (ab (s y hm) (aa.cond (λC=>aa.some ?_) λF=>?_))
  ·rw[show l.any p=true from iU.2 ⟨y,hm,C⟩];simp[q]
  rw[bb O];refine z _ ⟨O,O,?_⟩ O;rw[show(x+1).toNat=x.toNat+1 by omega,eg,e]
  grind
 refine aa.some ?_;have L:x.toNat=l.length:=O
 grind
theorem Dn{f:Int->Option Bool}{p:Int->Bool}(c: ∀x∈l,f x=some (p x))(d:l.length<n)(a:l.length<=1000000):oh n l f=some (l.any p):=by
 obtain⟨r,e,h⟩:=A3 c d a;unfold oh yf
 grind
theorem yh{f:aw->Option Bool}{p:aw->Bool}{l:List aw}(c: ∀x∈l,f x=some (p x))(d:l.length<n)(a:l.length<=1000000):pc n l f=some (l.any p):=by
 obtain⟨r,e,h⟩:=A3 c d a;unfold pc Co
 grind
theorem T5{f:Stmt->Option Bool}{p:Stmt->Bool}{l:List Stmt}(c: ∀x∈l,f x=some (p x))(d:l.length<n)(a:l.length<=1000000):Cm n l f=some (l.any p):=by
 obtain⟨r,e,h⟩:=A3 c d a;unfold Cm Je
 grind
theorem Ta{f:bX->Option Bool}{p:bX->Bool}{l:List bX}(c: ∀x∈l,f x=some (p x))(d:l.length<n)(a:l.length<=1000000):Ci n l f=some (l.any p):=by
 obtain⟨r,e,h⟩:=A3 c d a;unfold Ci I8
 grind
theorem pR{a:Type}{l:List a}{p:Nat->a->Bool}{Q:Bool->Prop}{k:(Int->Option Bool)->Int->Option Bool}(A:l.length<n)(s:l.length<=1000000)
  (d: ∀c (i:Nat) x,l[i]? =some x->(p i x=true->aa (c ((i:Int)+1)) Q)->(p i x=false->Q false)->aa (k c (i:Int)) Q)
  (o: ∀c,(∀(i:Nat) x,l[i]? =some x->p i x=true)->aa (k c (l.length:Int)) Q) (e:(∃(i:Nat) (x:a),l[i]? =some x/\p i x=false)->Q false):aa (bd k n 0) Q:=by
 refine aa.loop (λx:Int=> ∃i:Nat,x=i/\i<=l.length/\ ∀(j:Nat) y,j<i->l[j]? =some y->p j y=true) (λx:Int=>l.length-x.toNat) ?_ n 0 ⟨0,rfl,O,λj y h=>O⟩ bN;rintro c x ⟨i,rfl,B,C⟩ w;by_cases m:i<l.length
 ·have q:=bo m;refine d c i _ q (λr=>w _ ⟨i+1,O,O,λj y F G=>?_⟩ O) (λr=>e ⟨i,_,q,r⟩)
  grind
 have z:i=l.length:=O
 grind
def cO(a:aw):Bool:=decide (a.aQ.length=4)&&(decide (-99<=a.const/\a.const<=99)&&a.aQ.all λc=>decide (-9<=c/\c<=9))
theorem fF(h:cO a=true):a.aQ.length=4/\cF 99 a.const/\ ∀c∈a.aQ,cF 9 c:=by simp only[cO,Bool.and_eq_true,decide_eq_true_eq,List.all_eq_true] at h;exact⟨h.1,h.2.1,h.2.2⟩
theorem d7(n:Nat)(x a b:Int):e9 n x a b=some (decide (a<=x/\x<=b)):=by unfold e9;by_cases c:a<=x<;>by_cases d:x<=b<;>simp[ay,c,d]
theorem R2(i:5000<=n)(a:aw)(k:a.aQ.length<=1000):vc n a=some (cO a):=by
 have h: ∀x∈a.aQ,yg n x=some (!decide (-9<=x/\x<=9)):=λx _=>by unfold yg;rw[d7];rfl
 have bG:=Dn (n:=n) h O O;unfold vc Fp;rw[d7];simp only[ay,Option.bind];rw[bG];unfold cO;have e:(a.aQ.any λx=> !decide (-9<=x/\x<=9))= !(a.aQ.all λc=>decide (-9<=c/\c<=9)):=by
  grind
 rw[e];by_cases d:a.aQ.length=4
 ·rw[bF (show(a.aQ.length:Int)=4 by omega),bF d]
  grind
 rw[bD (show¬(a.aQ.length:Int)=4 by omega),bD d];rfl
theorem yI(n:Nat)(x m:Int)(d:0<=m/\m<=1000000000):qU n x m=some (decide (-m<=x/\x<=m)):=by
 unfold qU;rw[bb O];by_cases a: -m<=x<;>by_cases c:x<=m
 ·simp[ay,a,c]
 ·simp[ay,a,c]
 ·simp[ay,a,c]
 simp[ay,a,c]
theorem Jd(A:5000<=n)(a:aw)(B:a.aQ.length<=1000):sN n a=some (cO a):=by
 refine aa.eq ?_;unfold sN;refine pR (l:=a.aQ) (p:=λ_ c=>decide (-9<=c/\c<=9)) O O (λd i x m o q=>?_) (λd k=>?_) (λ⟨i,x,m,r⟩=>?_)
 ·rw[bF (show(i:Int)<(a.aQ.length:Int) by have:=(bU.1 m).1;omega)];refine ab (be m) (ab (yI n x 9 O) ?_);have aE:=(bU.1 m).1;cases r:decide (-9<=x/\x<=9) with
  |true=>show aa (d _) _;rw[bb O];exact o r
  |false=>exact aa.some (q r)
 ·rw[bD (show¬(a.aQ.length:Int)<(a.aQ.length:Int) by omega)];have e:a.aQ.all (λc=>decide (-9<=c/\c<=9))=true:=fZ.2 λc w=>by obtain⟨i,aE⟩:=lh w;exact k i c aE
  refine aa.cond (λh=>(by cases h)) λ_=>?_;unfold cO;rw[e];refine aa.ay (λz:Bool=>z=(decide (a.aQ.length=4)&&(decide (-99<=a.const/\a.const<=99)&&true))) (λj s=>?_) λz y=>aa.some y;refine aN (λh=>ab (yI n a.const 99 O) (s _ ?_)) λh=>s _ ?_
  ·rw[bF (O:a.aQ.length=4)];simp
  rw[bD (show¬a.aQ.length=4 by omega)];rfl
 unfold cO
 grind
def fQ(a:aw)(p:List Int):Int:=a.const+dot a.aQ p
def CT(M:Int)(p:List Int):Prop:= ∀x∈p,cF M x
theorem z7(c:cO a=true)(l:p.length<=4)(d:0<=M/\M<=1000000000)(e:CT M p)(i:Nat)(m:i<=p.length):cF 1000000000000 (a.const+dot a.aQ (p.take i)):=by
 obtain⟨n,o,h⟩:=fF c;have q:=G9 (M:=M) d.1 (cs:=a.aQ) (xs:=p.take i) h λx k=>e x (gb k);have r:(p.take i).length<=4:=bN
 have s:9*M*((p.take i).length:Int)<=9*M*4:=Int.mul_le_mul_of_nonneg_left O O;simp only[cF] at*;omega
theorem YE(G:5000<=n)(h:cO a=true)(q:p.length<=4)(l:0<=M/\M<=1000000000)(m:CT M p):oi n a p=some (fQ a p):=by
 obtain⟨H,K,y⟩:=fF h;refine aa.eq ?_;unfold oi;refine aa.loop (λx:Int×Int=> ∃i:Nat,x.2=i/\i<=p.length/\x.1=a.const+dot a.aQ (p.take i)) (λx=>p.length-x.2.toNat) ?_ n _ ⟨0,rfl,O,by simp[Gw]⟩ bN;rintro o ⟨x,k⟩ ⟨i,r,z,s⟩ A;dsimp only at r s⊢;subst r;refine aN (λe=>?_) λB=>aa.some ?_
 ·have e:i<p.length:=O
  have c:=bo e;have d:=bo (O:i<a.aQ.length);have cu:=Nx d c;have C:=z7 h q l m i z;have w:=z7 h q l m (i+1) O;rw[cu] at w;have F:=BH O l.1 (y _ (bE d)) (m _ (bE c));refine ab (be c) (ab (be d) ?_);simp only[cF] at C w F;rw[bb (n:=a.aQ[i]*p[i]) O,bb O,bb O];refine A _ ⟨i+1,Z,O,?_⟩ Z
  grind
 have:i=p.length:=O
 rw[s,this,dz];rfl
theorem XX(Q:5000<=n)(e:cO a=true)(r:p.length<=4)(l:0<=M/\M<=1000000000)(m:CT M p):oF n a p=some (fQ a p):=by
 obtain⟨R,W,B⟩:=fF e;refine aa.eq ?_;unfold oF;refine aa.loop (λx:Int×Int=> ∃i:Nat,x.2=i/\i<=p.length/\x.1=a.const+dot a.aQ (p.take i)) (λx=>p.length-x.2.toNat) ?_ n _ ⟨0,rfl,O,by simp[Gw]⟩ bN;rintro o ⟨x,k⟩ ⟨i,s,C,w⟩ F;dsimp only at s w⊢;subst s;refine aa.ay (λz=>z=decide (i<p.length)) (λj y=>aN (λh=>y _ ?_) λh=>y _ ?_) λz G=>?_
 ·rw[bF (O:i<p.length),bF (show(i:Int)<(a.aQ.length:Int) by omega)]
 ·rw[bD (show¬i<p.length by omega)]
 subst G;refine aN (λq=>?_) λH=>aa.some ?_
 ·have c:=bo q;have d:=bo (O:i<a.aQ.length);have cu:=Nx d c;have K:=z7 e r l m i C;have A:=z7 e r l m (i+1) O;rw[cu] at A;have L:=BH O l.1 (B _ (bE d)) (m _ (bE c));refine ab (be d) (ab (be c) ?_);simp only[cF] at K A L;rw[bb (n:=a.aQ[i]*p[i]) O,bb O,bb O];refine F _ ⟨i+1,Z,O,?_⟩ Z
  grind
 have:i=p.length:=O
 rw[w,this,dz];rfl
theorem b1(h:aa A Q):aa (bif true then A else B) Q:=h
theorem b3(h:aa B Q):aa (bif false then A else B) Q:=h
def d6:List Int->Nat
 | []=>0
 |c::cs=>if d6 cs=0 then(if c=0 then 0 else 1) else d6 cs+1
theorem K7: ∀(l:List Int) (c:Int),d6 (l++[c])=if c=0 then d6 l else l.length+1
 | [],c=>by simp[d6]
 |d::l,c=>by
  have e:=K7 l c;simp only[List.cons_append,d6,e];by_cases a:c=0
  ·simp[a]
  simp[a]
theorem K6(h:l[i]? =some c):d6 (l.take (i+1))=if c=0 then d6 (l.take i) else i+1:=by have aE:=(bU.1 h).1;rw[eg,h];show d6 (l.take i++[c])=_;rw[K7,cE,tr (Nat.le_of_lt aE)]
theorem yL: ∀{l:List Int} {i:Nat} {c:Int},l[i]? =some c->d6 l<=i->c=0
 | [],i,c,h,_=>by simp at h
 |d::l,0,c,h,a=>by
  simp at h;subst h;simp only[d6] at a;by_cases e:d6 l=0
  ·by_cases k:d=0
   ·exact k
   simp[e,k] at a
  simp[e] at a
 |d::l,i+1,c,h,a=>by
  have h:l[i]? =some c:=by simpa using h
  refine yL h ?_;simp only[d6] at a;by_cases e:d6 l=0
  ·omega
  rw[aZ e] at a;omega
def jy(a:aw):Prop:=a.aQ.length<=1000
def kp(l:List aw):Prop:=l.length<=1000/\ ∀a∈l,jy a
theorem yT(s:5000<=n)(h:jy a):oz n a=some (d6 a.aQ:Int):=by
 have h:a.aQ.length<=1000:=h;refine aa.eq ?_;unfold oz;refine aa.loop (λx:Int×Int=> ∃i:Nat,x.2=i/\i<=a.aQ.length/\x.1=(d6 (a.aQ.take i):Int)) (λx=>a.aQ.length-x.2.toNat) ?_ n _ ⟨0,rfl,O,by simp[d6]⟩ bN;rintro d ⟨x,k⟩ ⟨i,l,w,m⟩ p;dsimp only at l m⊢;subst l;refine aN (λc=>?_) λq=>aa.some ?_
 ·have c:i<a.aQ.length:=O
  have bG:=bo c;have cu:=K6 bG;refine aa.ay (λz:Int=>z=(d6 (a.aQ.take (i+1)):Int)) (λj o=>ab (be bG) (eV (λe=>o _ ?_) λe=>o _ ?_)) λz r=>?_
  ·rw[cu,aZ e,bb O];omega
  ·rw[cu,a1 e,m]
  rw[bb O];exact p _ ⟨i+1,Z,O,r⟩ Z
 have:i=a.aQ.length:=O
 grind
theorem zm(r:5000<=n)(p:jy a):qx n a=some (d6 a.aQ:Int):=by
 have p:a.aQ.length<=1000:=p;refine aa.eq ?_;unfold qx;refine aa.loop (λx:Int=> ∃i:Nat,x=i/\i<=a.aQ.length/\d6 a.aQ=d6 (a.aQ.take i)) (λx=>x.toNat) ?_ n _ ⟨a.aQ.length,rfl,O,by rw[dz]⟩ bN;rintro c x ⟨i,rfl,s,d⟩ q;cases i with
 |zero=>
  refine aa.ay (λz=>z=false) (λj k=>aN (λh=>bz h (by decide)) λh=>k _ rfl) λz l=>?_;subst l;exact aa.some (by rw[d];rfl)
 |succ i=>
  have m:i<a.aQ.length:=O
  have bG:=bo m;have cu:=K6 bG;have e:wr (((i+1:Nat):Int)-1)=(i:Int):=by rw[bb O];omega
  rw[e];refine aa.ay (λz=>z=decide (a.aQ[i]=0)) (λj k=>aN (λh=>ab (be bG) (k _ rfl)) λh=>bz (show(0:Int)<((i+1:Nat):Int) by omega) h) λz l=>?_;subst l;refine aN (λo=>?_) λo=>aa.some ?_
  ·exact q _ ⟨i,rfl,O,by rw[d,cu,a1 o]⟩ O
  rw[d,cu,aZ o]
def eU(a:aw)(d:Int):Bool:=cO a&&decide ((d6 a.aQ:Int)<=d)
def fa(l:List aw)(d:Int):Bool:=l.all (λa=>eU a d)&&decide (1<=l.length/\l.length<=2)
theorem I6(a b:Int):decide (a<b)= !decide (b<=a):=by grind
theorem KX(y:5000<=n){l:List aw}(C:kp l)(d:Int):wD n l d=some (fa l d):=by
 obtain⟨H,F⟩:=C;refine aa.eq ?_;unfold wD;refine pR (l:=l) (p:=λ_ a=>eU a d) O O (λk i x q r s=>?_) (λk m=>?_) (λ⟨i,x,q,K⟩=>?_)
 ·have aE:=(bU.1 q).1;have hm:=F x (bE q);rw[bF (show(i:Int)<(l.length:Int) by omega)];refine b1 (aa.ay (λz=>z= !eU x d) (λj o=>ab (be q) (ab (Jd y x hm) ?_)) λz w=>?_)
  ·cases A:cO x with
   |false=>exact o _ (by unfold eU;rw[A];rfl)
   |true=>exact ab (yT y hm) (o _ (by unfold eU;rw[A,I6];simp))
  subst w;cases B:eU x d with
  |true=>show aa (k _) _;rw[bb O];exact r B
  |false=>exact aa.some (s B)
 ·rw[bD (show¬(l.length:Int)<(l.length:Int) by omega)];have e:l.all (λa=>eU a d)=true:=fZ.2 λc G=>by obtain⟨i,aE⟩:=lh G;exact m i c aE
  unfold fa;rw[e];refine b3 (aa.ay (λz=>z=decide (1<=l.length/\l.length<=2)) (λj o=>aN (λh=>o _ ?_) λh=>o _ ?_) λz w=>aa.some (by rw[w];rfl))
  ·by_cases L:l.length<=2
   ·rw[bF (show(l.length:Int)<=2 by omega),bF O]
   rw[bD (show¬(l.length:Int)<=2 by omega),bD O]
  rw[bD O]
 unfold fa
 grind
theorem LY(c:5000<=n)(e:jy a)(d:Int):vd n a d=some (!eU a d):=by
 unfold vd;rw[R2 c a e];simp only[ay,Option.bind];cases h:cO a with
 |false=>simp[eU,h]
 |true=>
  rw[zm c e];simp only[eU,h,Bool.not_true,cond_false,Bool.true_and];rw[I6]
theorem Ee(n k:Nat):e9 n (k:Int) 1 2=some (decide (1<=k/\k<=2)):=by
 rw[d7];congr 1
 grind
theorem Kg(c:5000<=n){l:List aw}(e:kp l)(d:Int):yX n l d=some (fa l d):=by
 obtain⟨m,h⟩:=e;unfold yX;rw[Ee];have bG:=yh (n:=n) (f:=λi=>vd n i d) (p:=λa=> !eU a d) (l:=l) (λx k=>LY c (h x k) d) O O;simp only[ay,Option.bind];rw[bG];unfold fa
 grind
def xk{a:Type}(p:Nat->a->Bool)(l:List a):Bool:=l.zipIdx.all λq=>p q.2 q.1
theorem v6{a:Type}{p:Nat->a->Bool}{l:List a}(h: ∀(i:Nat) x,l[i]? =some x->p i x=true):xk p l=true:=
 fZ.2 λq c=>h q.2 q.1 (Dv.1 c)
theorem Dj{a:Type}{p:Nat->a->Bool}{l:List a}{x:a}(h:l[i]? =some x)(c:p i x=false):xk p l=false:=
 lj.2 ⟨(x,i),Dv.2 h,by rw[c];simp⟩
theorem LV{a:Type}{p:Nat->a->Bool}{l:List a}(h:xk p l=true){x:a}(c:l[i]? =some x):p i x=true:=
 fZ.1 h (x,i) (Dv.2 c)
def kF(a:List Loop):Bool:=xk (λi l=>fa l.lo (i:Int)&&fa l.aE (i:Int)) a&&decide (a.length<=4)
def p'(a:List Loop):Prop:=a.length<=1000/\ ∀l∈a,kp l.lo/\kp l.aE
theorem Tx(m:5000<=n)(h:p' o):DT n o=some (kF o):=by
 obtain⟨F,w⟩:=h;refine aa.eq ?_;unfold DT;refine pR (l:=o) (p:=λi l=>fa l.lo (i:Int)&&fa l.aE (i:Int)) O O (λa i x c e k=>?_) (λa d=>?_) (λ⟨i,x,c,y⟩=>?_)
 ·have aE:=(bU.1 c).1;obtain⟨A,B⟩:=w x (bE c);rw[bF (show(i:Int)<(o.length:Int) by omega)];refine ab (be c) (aa.ay (λz=>z= !(fa x.lo (i:Int)&&fa x.aE (i:Int))) (λj q=>ab (Kg m A _) ?_) λz C=>?_)
  ·cases r:fa x.lo (i:Int) with
   |false=>exact q _ (by rw[r];rfl)
   |true=>exact ab (Kg m B _) (q _ (by rw[r];rfl))
  subst C;cases s:(fa x.lo (i:Int)&&fa x.aE (i:Int)) with
  |true=>show aa (a _) _;rw[bb O];exact e s
  |false=>exact aa.some (k s)
 ·rw[bD (show¬(o.length:Int)<(o.length:Int) by omega)];refine aa.some ?_;unfold kF;rw[v6 d,fK]
  grind
 unfold kF;rw[Dj c y];rfl
theorem Tm(s:5000<=n)(h:p' o):DI n o=some (kF o):=by
 obtain⟨H,B⟩:=h;unfold DI;by_cases w:o.length<=4
 ·rw[bF (show(o.length:Int)<=4 by omega)];refine aa.eq ?_;refine pR (l:=o) (p:=λi l=>fa l.lo (i:Int)&&fa l.aE (i:Int)) O O (λa i x d q r=>?_) (λa e=>?_) (λ⟨i,x,d,C⟩=>?_)
  ·have aE:=(bU.1 d).1;obtain⟨F,G⟩:=B x (bE d);rw[bF (show(i:Int)<(o.length:Int) by omega)];refine aa.ay (λz=>z=true) (λj c=>b1 (c _ rfl)) λz m=>?_;subst m;refine b1 (aa.ay (λz=>z= !(fa x.lo (i:Int)&&fa x.aE (i:Int))) (λj c=>ab (be d) (ab (KX s F _) ?_)) λz m=>?_)
   ·cases y:fa x.lo (i:Int) with
    |false=>exact c _ (by rw[y];rfl)
    |true=>exact ab (KX s G _) (c _ (by rw[y];rfl))
   subst m;cases A:(fa x.lo (i:Int)&&fa x.aE (i:Int)) with
   |true=>show aa (a _) _;rw[bb O];exact q A
   |false=>exact aa.some (r A)
  ·rw[bD (show¬(o.length:Int)<(o.length:Int) by omega)];refine aa.ay (λz=>z=false) (λj c=>b3 (c _ rfl)) λz m=>?_;subst m;refine aa.some ?_;unfold kF;rw[v6 e,bF w];rfl
  unfold kF;rw[Dj d C];rfl
 obtain⟨k,rfl⟩: ∃k,n=k+1:=⟨n-1,O⟩
 rw[bD (show¬(o.length:Int)<=4 by omega)];unfold kF;rw[bD w,kg];simp only[bd,ay]
 grind
def mE:List Int->Int
 | []=>0
 |x::a=>a.foldl max x
def oD:List Int->Int
 | []=>0
 |x::a=>a.foldl min x
theorem abk(h:l≠[])(x:Int):mE (l++[x])=max (mE l) x:=by
 cases l with
 |nil=>exact bz rfl h
 |cons a l=>simp[mE,List.foldl_append]
theorem aaL(h:l≠[])(x:Int):oD (l++[x])=min (oD l) x:=by
 cases l with
 |nil=>exact bz rfl h
 |cons a l=>simp[oD,List.foldl_append]
theorem Pu: ∀(l:List Int) (a:Int),a<=l.foldl max a
 | [],a=>fT _
 |x::l,a=>Int.le_trans (Int.le_max_left a x) (Pu l (max a x))
theorem O8: ∀(l:List Int) (a:Int),l.foldl min a<=a
 | [],a=>fT _
 |x::l,a=>Int.le_trans (O8 l (min a x)) (Int.min_le_left a x)
def lF(l:List aw)(p:List Int):List Int:=l.map λa=>fQ a p
def dB(l:Loop)(p:List Int):Int:=mE (lF l.lo p)
def eo(l:Loop)(p:List Int):Int:=oD (lF l.aE p)
def hY(k:Nat)(p:List Int):Prop:=p.length=k/\k<=4/\CT (100*40^k) p
theorem rU(h:k<=4):(0:Int)<=100*40^k/\(100:Int)*40^k<=1000000000:=by
 match k,h with
 |0,_=>decide
 |1,_=>decide
 |2,_=>decide
 |3,_=>decide
 |4,_=>decide
theorem p3{l:List aw}(h:fa l d=true):1<=l.length/\l.length<=2/\ ∀a∈l,cO a=true:=by
 simp only[fa,Bool.and_eq_true,decide_eq_true_eq,List.all_eq_true] at h;refine⟨h.2.1,h.2.2,λa c=>?_⟩
 have:=h.1 a c;simp only[eU,Bool.and_eq_true] at this
 grind
theorem OZ(c:cO a=true)(d:hY k p)(e:k<=3): -(40*(100*40^k))<=fQ a p/\fQ a p<=40*(100*40^k):=by
 obtain⟨n,o,h⟩:=fF c;obtain⟨q,r,i⟩:=d;obtain⟨l,s⟩:=rU (k:=k) O;have w:(100:Int)<=100*40^k:=by
  match k,e with
  |0,_=>decide
  |1,_=>decide
  |2,_=>decide
  |3,_=>decide
 generalize (100*40^k:Int)=M at*;have y:=G9 (M:=M) l (cs:=a.aQ) (xs:=p) h λx m=>i x m;have z:9*M*(p.length:Int)<=9*M*3:=Int.mul_le_mul_of_nonneg_left O O;simp only[cF] at*;unfold fQ;omega
theorem xw(d:5000<=n)(e:cO a=true)(c:hY k p):oF n a p=some (fQ a p):=
 XX d e (by have:=c.1;have:=c.2.1;omega) (rU c.2.1) c.2.2
theorem xz(d:5000<=n)(e:cO a=true)(c:hY k p):oi n a p=some (fQ a p):=
 YE d e (by have:=c.1;have:=c.2.1;omega) (rU c.2.1) c.2.2
theorem oL{l:List aw}(h:l[i]? =some a):(lF l p)[i]? =some (fQ a p):=by unfold lF;rw[List.getElem?_map,h];rfl
theorem Bf(l:List aw)(p:List Int):(lF l p).length=l.length:=dn ..
theorem NR{a:Type}{l:List a}(h:1<=i)(c:1<=l.length):l.take i≠[]:=by
 intro e
 have:(l.take i).length=0:=by rw[e];rfl
 grind
theorem N8(h:l[i]? =some x)(a:1<=i):mE (l.take (i+1))=max (mE (l.take i)) x:=by have:=(bU.1 h).1;rw[eg,h];exact abk (NR a O) x
theorem Oa(h:l[i]? =some x)(a:1<=i):oD (l.take (i+1))=min (oD (l.take i)) x:=by have:=(bU.1 h).1;rw[eg,h];exact aaL (NR a O) x
theorem GA(h:l[0]? =some x):mE (l.take 1)=x:=by
 cases l with
 |nil=>simp at h
 |cons a l=>simp at h;subst h;rfl
theorem GB(h:l[0]? =some x):oD (l.take 1)=x:=by
 cases l with
 |nil=>simp at h
 |cons a l=>simp at h;subst h;rfl
theorem Lu(r:5000<=n){l:Loop}{a:Int}(W:fa l.lo d=true)(X:fa l.aE a=true)(s:hY k p):y' n l p=some (dB l p,eo l p):=by
 obtain⟨aI,a2,a3⟩:=p3 W;obtain⟨t,u,R⟩:=p3 X;have C:=bo (O:0<l.lo.length);have F:=bo (O:0<l.aE.length);refine aa.eq ?_;unfold y';refine ab (be (i:=0) C) (ab (xw r (a3 _ (bE C)) s) (ab (be (i:=0) F) (ab (xw r (R _ (bE F)) s) ?_)));refine aa.loop (λx:Int×Int=> ∃i:Nat,x.2=i/\1<=i/\i<=l.lo.length/\x.1=mE ((lF l.lo p).take i)) (λx=>l.lo.length-x.2.toNat) ?_ n _ ⟨1,rfl,O,O,(GA (oL C)).symm⟩ Z;rintro G ⟨x,z⟩ ⟨i,c,m,b,w⟩ f;dsimp only at c w⊢;subst c;refine aN (λH=>?_) λK=>?_
 ·have g:=bo (O:i<l.lo.length);have e:=N8 (oL (p:=p) g) m;refine aa.ay (λz=>z=mE ((lF l.lo p).take (i+1))) (λj q=>ab (be g) (ab (xw r (a3 _ (bE g)) s) (aN (λh=>q _ ?_) λh=>q _ ?_))) λz c=>?_
  ·rw[e,<-w];omega
  ·rw[e,<-w];omega
  rw[bb O];exact f _ ⟨i+1,Z,O,O,c⟩ Z
 have o:i=l.lo.length:=O
 have L:x=dB l p:=by rw[w,o,<-Bf l.lo p,dz];rfl
 refine aa.loop (λx:Int×Int=> ∃i:Nat,x.2=i/\1<=i/\i<=l.aE.length/\x.1=oD ((lF l.aE p).take i)) (λx=>l.aE.length-x.2.toNat) ?_ n _ ⟨1,rfl,O,O,(GB (oL F)).symm⟩ Z;rintro A ⟨y,z⟩ ⟨i,c,m,b,B⟩ Q;dsimp only at c B⊢;subst c;refine aN (λH=>?_) λK=>aa.some ?_
 ·have g:=bo (O:i<l.aE.length);have e:=Oa (oL (p:=p) g) m;refine aa.ay (λz=>z=oD ((lF l.aE p).take (i+1))) (λj q=>ab (be g) (ab (xw r (R _ (bE g)) s) (aN (λh=>q _ ?_) λh=>q _ ?_))) λz c=>?_
  ·rw[e,<-B];omega
  ·rw[e,<-B];omega
  rw[bb O];exact Q _ ⟨i+1,Z,O,O,c⟩ Z
 have o:i=l.aE.length:=O
 rw[L,B,o,<-Bf l.aE p,dz];rfl
theorem Yy(h:5000<=n){l:Loop}{a:Int}(K:fa l.lo d=true)(L:fa l.aE a=true)(m:hY k p):DV n l p=some (dB l p,eo l p):=by
 obtain⟨aI,a2,a3⟩:=p3 K;obtain⟨W,X,H⟩:=p3 L;have s:=bo (O:0<l.lo.length);have w:=bo (O:0<l.aE.length);refine aa.eq ?_;unfold DV;refine ab (be (i:=0) s) (ab (xz h (a3 _ (bE s)) m) (ab (be (i:=0) w) (ab (xz h (H _ (bE w)) m) ?_)));refine aa.loop (λx:Int×Int=> ∃i:Nat,x.2=i/\i<=l.lo.length/\x.1=mE ((lF l.lo p).take (max i 1))) (λx=>l.lo.length-x.2.toNat) ?_ n _ ⟨0,rfl,O,(GA (oL s)).symm⟩ Z;rintro A ⟨x,z⟩ ⟨i,e,Q,o⟩ R;dsimp only at e o⊢;subst e;refine aN (λB=>?_) λC=>?_
 ·have g:=bo (O:i<l.lo.length);refine ab (be g) (ab (xz h (a3 _ (bE g)) m) ?_);rw[bb O];refine R _ ⟨i+1,Z,O,?_⟩ Z;dsimp only;rw[show max (i+1) 1=i+1 by omega];cases i with
  |zero=>rw[o,show max 0 1=1 by rfl,dt,GA (oL g)];omega
  |succ i=>rw[N8 (oL (p:=p) g) O,o,show max (i+1) 1=i+1 by omega]
 have c:i=l.lo.length:=O
 have F:x=dB l p:=by rw[o,c,Nat.max_eq_left O,<-Bf l.lo p,dz];rfl
 refine aa.loop (λx:Int×Int=> ∃i:Nat,x.2=i/\i<=l.aE.length/\x.1=oD ((lF l.aE p).take (max i 1))) (λx=>l.aE.length-x.2.toNat) ?_ n _ ⟨0,rfl,O,(GB (oL w)).symm⟩ Z;rintro q ⟨y,z⟩ ⟨i,e,Q,r⟩ G;dsimp only at e r⊢;subst e;refine aN (λB=>?_) λC=>aa.some ?_
 ·have g:=bo (O:i<l.aE.length);refine ab (be g) (ab (xz h (H _ (bE g)) m) ?_);rw[bb O];refine G _ ⟨i+1,Z,O,?_⟩ Z;dsimp only;rw[show max (i+1) 1=i+1 by omega];cases i with
  |zero=>rw[r,show max 0 1=1 by rfl,dt,GB (oL g)];omega
  |succ i=>rw[Oa (oL (p:=p) g) O,r,show max (i+1) 1=i+1 by omega]
 have c:i=l.aE.length:=O
 rw[F,r,c,Nat.max_eq_left O,<-Bf l.aE p,dz];rfl
theorem A9{l:Loop}(n:fa l.lo d=true)(o:fa l.aE b=true)(e:hY k p)(i:k<=3)(A:dB l p<=v/\v<eo l p):hY (k+1) (p++[v]):=by
 obtain⟨aI,a2,a3⟩:=p3 n;obtain⟨m,B,r⟩:=p3 o;have C: -(40*(100*40^k))<=dB l p:=by
  cases c:l.lo with
  |nil=>rw[c] at aI;simp at aI
  |cons a as=>
   have:=(OZ (a3 a (by rw[c];simp)) e i).1;unfold dB lF;rw[c];exact Int.le_trans this (Pu _ _)
 have F:eo l p<=40*(100*40^k):=by
  cases c:l.aE with
  |nil=>rw[c] at m;simp at m
  |cons a as=>
   have:=(OZ (r a (by rw[c];simp)) e i).2;unfold eo lF;rw[c];exact Int.le_trans (O8 _ _) this
 obtain⟨s,G,w⟩:=e;have y:(100*40^(k+1):Int)=40*(100*40^k):=by rw[Int.pow_succ];omega
 have q:=(rU (k:=k) O).1;refine⟨by simp[s],O,λx z=>?_⟩;rw[y];rcases eh.1 z with h|h
 ·have:=w x h;simp only[cF] at this⊢;omega
 simp at h;subst h;simp only[cF];omega
def ff:List Loop->List Int->List (List Int)
 | [],p=>[p]
 |l::bS,p=>(dA (dB l p) (eo l p)).flatMap λv=>ff bS (p++[v])
def fq:List Loop->List Int->Int
 | [],_=>1
 |l::bS,p=>1+((dA (dB l p) (eo l p)).map λv=>fq bS (p++[v])).sum
theorem nH{a:Type}(f:a->Int): ∀(l:List a),(∀x∈l,1<=f x)->(l.length:Int)<=(l.map f).sum
 | [],_=>aP
 |x::l,h=>by have d:=nH f l λy c=>h y (by simp[c]);have e:=h x aP;simp only[List.map_cons,List.sum_cons,List.length_cons];omega
theorem Bo: ∀(bS:List Loop) (p:List Int),1<=fq bS p
 | [],p=>fT _
 |l::bS,p=>by have:=nH (λv=>fq bS (p++[v])) (dA (dB l p) (eo l p)) λv _=>Bo bS _;simp only[fq];omega
def Fit(a:List Loop):Prop:=a.length<=4/\ ∀(i:Nat) l,a[i]? =some l->fa l.lo (i:Int)=true/\fa l.aE (i:Int)=true
theorem BC{nest:List Loop}(h:kF nest=true):Fit nest:=by
 simp only[kF,Bool.and_eq_true,decide_eq_true_eq] at h;refine⟨h.2,λi l a=>?_⟩
 have:=LV h.1 a
 grind
theorem z8{l:Loop}{q:List Loop}(h:o.drop k=l::q):o[k]? =some l/\o.drop (k+1)=q/\k<o.length:=by
 have a:(o.drop k)[0]? =some l:=by rw[h];rfl
 rw[gy,rm] at a;refine⟨a,?_,(bU.1 a).1⟩
 have:(o.drop k).drop 1=q:=by rw[h];rfl
 rwa [List.drop_drop] at this
theorem A1(h:o.drop k=[])(a:k<=o.length):k=o.length:=by
 have:(o.drop k).length=0:=by rw[h];rfl
 grind
theorem nn(p:List Int)(h:p.length<=1000):app [] p=some p:=by rw[cB bN];rfl
theorem Na(l:List Int)(f:Int->Int)(v:Int):((l++[v]).map f).sum=(l.map f).sum+f v:=aP
theorem abd{lo:Int}(h:lo<=v):((dA lo v).length:Int)=v-lo:=by unfold dA;simp;omega
theorem Ma{c:List Loop}(C:Fit c): ∀(bS:List Loop) (n k:Nat) (p:List Int) (a:Int),5000+bS.length<=n->c.drop k=bS->k<=c.length->hY k p->0<=a->a<=1200->
  aa (q7 n c p a) (λr=>(fq bS p<=a->r=fq bS p)/\(a<fq bS p->a<r)/\1<=r/\r<=a+1)
 | [],n,k,p,a,Q,F,R,o,N,P=>by
  obtain⟨n,rfl⟩: ∃j,n=j+1:=⟨n-1,O⟩
  have S:=A1 F R;have q:=o.1;unfold q7;rw[bF (show(p.length:Int)=(c.length:Int) by omega)];exact aa.some ⟨λ_=>rfl,λh=>by simp only[fq] at h;omega,O,O⟩
 |l::bS,n,k,p,a,Q,F,R,o,N,P=>by
  obtain⟨n,rfl⟩: ∃j,n=j+1:=⟨n-1,O⟩
  obtain⟨W,T,d3⟩:=z8 F;obtain⟨X,b⟩:=C.2 k l W;have q:=o.1;have G:k<=3:=by have:=C.1;omega
  simp only[List.length_cons] at Q;unfold q7;rw[bD (show¬(p.length:Int)=(c.length:Int) by omega)];refine b3 (ab (x:=l) (by rw[q];exact be W) (ab (Lu O X b o) ?_));let f:Int->Int:=λv=>fq bS (p++[v]);have s: ∀v,1<=f v:=λv=>Bo _ _;have U:fq (l::bS) p=1+((dA (dB l p) (eo l p)).map f).sum:=rfl;refine aa.loop (λx:Int×Int=>dB l p<=x.2/\(x.2<=eo l p\/x.2=dB l p)/\(1+((dA (dB l p) x.2).map f).sum<=a->x.1=1+((dA (dB l p) x.2).map f).sum)/\(a<1+((dA (dB l p) x.2).map f).sum->a<x.1)/\1<=x.1/\x.1<=a+1)
   (λx=>(a+1-x.1).toNat) ?_ n _ ⟨fT _,.inr rfl,λ_=>by rw[lT (fT _)];rfl,λh=>by rw[lT (fT _)] at h;simp at h;dsimp only;omega,Z,Z⟩ Z
  rintro H ⟨x,v⟩ ⟨B,g,K,L,t,u⟩ V;dsimp only at B g K L t u⊢;refine aa.ay (λz=>z=decide (v<eo l p/\x<=a)) (λj D=>aN (λh=>D _ ?_) λh=>D _ ?_) λz Y=>?_
  ·by_cases e:x<=a
   ·rw[bF e,bF ⟨h,e⟩]
   rw[bD e,bD λh=>e h.2]
  ·rw[bD λE=>h E.1]
  subst Y;refine aN (λ⟨i,e⟩=>?_) λw=>aa.some ?_
  ·have A:x=1+((dA (dB l p) v).map f).sum:=K (by apply Int.not_lt.1;intro h;have:=L h;omega);have m:=A9 X b o G ⟨B,i⟩;have e1:wr (a-x)=a-x:=by rw[bb O]
   rw[e1];refine ab (nn p O) (ab (cB bN) (cr (Ma C bS n (k+1) (p++[v]) (a-x) O T O m O O) λr ⟨tb,vA,aiP,aiQ⟩=>?_));have ahN:v<eo l p:=i;have QE: -1000000000<=v/\v<=1000000000:=by
    have h9:=m.2.2 v aP;have kX:=rU m.2.1;simp only[cF] at h9;omega
   rw[bb (n:=v+1) O,bb (n:=x+r) O];have I:1+((dA (dB l p) (v+1)).map f).sum=x+f v:=by rw[tj B,Na,A];omega
   refine V _ ⟨Z,.inl Z,?_,?_,Z,Z⟩ Z
   ·dsimp only;rw[I];intro h
    have:r=f v:=tb (O:f v<=a-x);omega
   dsimp only;rw[I];intro h
   have:a-x<r:=vA (O:a-x<f v);omega
  have d:1+((dA (dB l p) v).map f).sum<=fq (l::bS) p/\(eo l p<=v->1+((dA (dB l p) v).map f).sum=fq (l::bS) p):=by
   rw[U];by_cases h:v<eo l p
   ·refine⟨?_,λE=>O⟩;rw[zN B h,ho,List.sum_append,List.map_cons,List.sum_cons]
    have:=nH f (dA (v+1) (eo l p)) λy _=>s y
    have:=s v;omega
   have:dA (dB l p) v=dA (dB l p) (eo l p):=by
    rcases g with M|M
    ·rw[show v=eo l p by omega]
    subst M;rw[lT (fT _),lT O]
   rw[this];exact⟨fT _,λ_=>rfl⟩
  refine⟨λh=>?_,λh=>?_,t,u⟩
  ·have e:=K O;rw[e];apply d.2;apply Int.not_lt.1;intro i;exact w ⟨i,O⟩
  apply Int.not_le.1;intro e;have i:eo l p<=v:=by apply Int.not_lt.1;intro i;exact w ⟨i,e⟩
  have:=L (by rw[d.2 i];exact h);omega
theorem Eo{a:List Loop}(B:Fit a): ∀(bS:List Loop) (n k:Nat) (p:List Int) (out:List (List Int)),5000+bS.length<=n->a.drop k=bS->k<=a.length->hY k p->fq bS p<=1200->out.length<=120->
  aa (pL n out a p) (λr=>(out.length+(ff bS p).length<=120->r=out++ff bS p)/\(120<out.length+(ff bS p).length->120<r.length))
 | [],n,k,p,out,W,C,X,q,b,T=>by
  obtain⟨n,rfl⟩: ∃j,n=j+1:=⟨n-1,O⟩
  have U:=A1 C X;have s:=q.1;have F:=B.1;unfold pL;rw[bF (show(p.length:Int)=(a.length:Int) by omega)];refine b1 (ab (nn p O) (ab (cB bN) (aa.some ⟨λ_=>rfl,λh=>by simp[ff] at h ⊢; omega⟩)))
 |l::bS,n,k,p,out,W,C,X,q,b,T=>by
  obtain⟨n,rfl⟩: ∃j,n=j+1:=⟨n-1,O⟩
  obtain⟨t,V,d3⟩:=z8 C;obtain⟨u,D⟩:=B.2 k l t;have s:=q.1;have F:=B.1;have G:k<=3:=O
  simp only[List.length_cons] at W;unfold pL;rw[bD (show¬(p.length:Int)=(a.length:Int) by omega)];refine b3 (ab (x:=l) (by rw[s];exact be t) (ab (Lu O u D q) ?_));let f:Int->Int:=λv=>fq bS (p++[v]);have i: ∀v,1<=f v:=λv=>Bo _ _;have Y:fq (l::bS) p=1+((dA (dB l p) (eo l p)).map f).sum:=rfl;let g:Int->List (List Int):=λv=>ff bS (p++[v]);have xR:ff (l::bS) p=(dA (dB l p) (eo l p)).flatMap g:=rfl;have E:dB l p<=eo l p->eo l p-dB l p<=1199:=λH=>by
   have:=nH f (dA (dB l p) (eo l p)) λy _=>i y
   have:=abd H;omega
  refine aa.loop (λx:List (List Int)×Int=>dB l p<=x.2/\(x.2<=eo l p\/x.2=dB l p)/\(out.length+((dA (dB l p) x.2).flatMap g).length<=120->x.1=out++(dA (dB l p) x.2).flatMap g)/\(120<out.length+((dA (dB l p) x.2).flatMap g).length->120<x.1.length))
   (λx=>(eo l p-x.2).toNat) ?_ n _ ⟨fT _,.inr rfl,λ_=>by rw[lT (fT _)];simp,λh=>by rw[lT (fT _)] at h;simp at h;omega⟩ Z
  rintro K ⟨x,v⟩ ⟨w,I,L,Q⟩ bR;dsimp only at w I L Q⊢;refine aa.ay (λz=>z=decide (v<eo l p/\x.length<=120)) (λj M=>aN (λh=>M _ ?_) λh=>M _ ?_) λz eD=>?_
  ·by_cases d:x.length<=120
   ·rw[bF (show(x.length:Int)<=120 by omega),bF ⟨h,d⟩]
   rw[bD (show¬(x.length:Int)<=120 by omega),bD λh=>d h.2]
  ·rw[bD λN=>h N.1]
  subst eD;refine aN (λ⟨e,d⟩=>?_) λA=>aa.some ?_
  ·have m:x=out++(dA (dB l p) v).flatMap g:=L (by apply Nat.not_lt.1;intro h;have:=Q h;omega);have o:=A9 u D q G ⟨w,e⟩;have R:f v<=1200:=by
    rw[Y,zN w e,ho,List.sum_append,List.map_cons,List.sum_cons] at b
    have:=nH f (dA (v+1) (eo l p)) λy _=>i y
    have:=nH f (dA (dB l p) v) λy _=>i y;omega
   refine ab (nn p O) (ab (cB bN) (cr (Eo B bS n (k+1) (p++[v]) x O V O o R d) λr ⟨tb,vA⟩=>?_));have QE: -1000000000<=v/\v<=1000000000:=by
    have h9:=o.2.2 v aP;have kX:=rU o.2.1;simp only[cF] at h9;omega
   rw[bb (n:=v+1) O];have P:(dA (dB l p) (v+1)).flatMap g=(dA (dB l p) v).flatMap g++g v:=by rw[tj w,mT];simp
   refine bR _ ⟨Z,.inl Z,?_,?_⟩ Z
   ·dsimp only;rw[P];intro h;simp only[List.length_append] at h;have b8:x.length=out.length+((dA (dB l p) v).flatMap g).length:=by rw[m,cV]
    rw[tb (O:x.length+(g v).length<=120),m,fy]
   dsimp only;rw[P];intro h;simp only[List.length_append] at h;have b8:x.length=out.length+((dA (dB l p) v).flatMap g).length:=by rw[m,cV]
   exact vA (O:120<x.length+(g v).length)
  have c:((dA (dB l p) v).flatMap g).length<=(ff (l::bS) p).length/\(eo l p<=v->(dA (dB l p) v).flatMap g=ff (l::bS) p):=by
   rw[xR];by_cases h:v<eo l p
   ·refine⟨?_,λN=>O⟩;rw[zN w h,mT,cV];omega
   have:dA (dB l p) v=dA (dB l p) (eo l p):=by
    rcases I with S|S
    ·rw[show v=eo l p by omega]
    subst S;rw[lT (fT _),lT O]
   rw[this];exact⟨cJ _,λ_=>rfl⟩
  refine⟨λh=>?_,λh=>?_⟩
  ·have d:=L O;rw[d,c.2];apply Int.not_lt.1;intro e;exact A ⟨e,by rw[d,cV];omega⟩
  apply Nat.not_le.1;intro d;have e:eo l p<=v:=by apply Int.not_lt.1;intro e;exact A ⟨e,d⟩
  have:=Q (by rw[c.2 e];exact h);omega
theorem L'{a:List Loop}(B:Fit a): ∀(bS:List Loop) (n k:Nat) (p:List Int) (st:Int) (out:List (List Int)),5000+bS.length<=n->a.drop k=bS->k<=a.length->hY k p->0<=st->st<=1199->out.length<=120->
  aa (qK n ⟨a,st,out⟩ p) (λr=>(st+fq bS p<=1200/\out.length+(ff bS p).length<=120->r=(true,⟨a,st+fq bS p-1,out++ff bS p⟩))/\(¬(st+fq bS p<=1200/\out.length+(ff bS p).length<=120)->r.1=false))
 | [],n,k,p,st,out,X,F,b,m,t,u,q=>by
  obtain⟨n,rfl⟩: ∃j,n=j+1:=⟨n-1,O⟩
  have pn:=A1 F b;have s:=m.1;have G:=B.1;unfold qK;dsimp only;rw[bF (show(p.length:Int)=(a.length:Int) by omega)];have d:jL p=some p:=by unfold jL;rw[a1 O]
  refine b1 (ab d (ab (cB bN) (aa.some ⟨λh=>?_,λh=>?_⟩)))
  ·simp only[fq,ff,List.length_singleton] at h⊢;rw[bF bN,show st+1-1=st by omega]
  simp only[fq,ff,List.length_singleton] at h⊢;exact bD bN
 |l::bS,n,k,p,st,out,X,F,b,m,t,u,q=>by
  obtain⟨n,rfl⟩: ∃j,n=j+1:=⟨n-1,O⟩
  obtain⟨D,d2,d3⟩:=z8 F;obtain⟨E,I⟩:=B.2 k l D;have s:=m.1;have G:=B.1;have H:k<=3:=O
  simp only[List.length_cons] at X;unfold qK;dsimp only;rw[bD (show¬(p.length:Int)=(a.length:Int) by omega)];refine b3 (ab (x:=l) (by rw[s];exact be D) (ab (Yy O E I m) ?_));let f:Int->Int:=λv=>fq bS (p++[v]);have c: ∀v,1<=f v:=λv=>Bo _ _;have M:fq (l::bS) p=1+((dA (dB l p) (eo l p)).map f).sum:=rfl;let g:Int->List (List Int):=λv=>ff bS (p++[v]);have N:ff (l::bS) p=(dA (dB l p) (eo l p)).flatMap g:=rfl;refine aa.loop (λx:List Loop×Int×List (List Int)×Int=>x.1=a/\dB l p<=x.2.2.2/\(x.2.2.2<=eo l p\/x.2.2.2=dB l p)/\x.2.1=st+((dA (dB l p) x.2.2.2).map f).sum/\x.2.2.1=out++(dA (dB l p) x.2.2.2).flatMap g/\0<=x.2.1/\x.2.1<=1199/\x.2.2.1.length<=120)
   (λx=>(1200-x.2.1).toNat) ?_ n _ ⟨rfl,fT _,.inr rfl,by dsimp only;rw[lT (fT _)];simp,by dsimp only;rw[lT (fT _)];simp,t,u,q⟩ Z
  rintro K ⟨L,x,o,v⟩ ⟨P,w,S,C,i,i5,i6,T⟩ bR;dsimp only at P w S C i i5 i6 T⊢;subst P;have ny:o.length=out.length+((dA (dB l p) v).flatMap g).length:=by rw[i,cV]
  refine aN (λQ=>?_) λQ=>aa.some ?_
  ·have e:=A9 E I m H ⟨w,Q⟩;have R:fq (l::bS) p≥1+((dA (dB l p) v).map f).sum+f v/\(ff (l::bS) p).length≥((dA (dB l p) v).flatMap g).length+(g v).length:=by
    rw[M,N,zN w Q,ho,List.sum_append,List.map_cons,List.sum_cons,mT,cV,y5,cV]
    have:=nH f (dA (v+1) (eo l p)) λy _=>c y;constructor
    ·omega
    omega
   have QE: -1000000000<=v/\v<=1000000000:=by
    have h9:=e.2.2 v aP;have kX:=rU e.2.1;simp only[cF] at h9;omega
   have e1:wr (x+1)=x+1:=by rw[bb O]
   have e2:wr (x+1+1)=x+1+1:=by rw[bb O]
   have mq:wr (v+1)=v+1:=by rw[bb O]
   rw[e1,e2,mq];refine aa.ay (λz:List Loop×Int×List (List Int)×Bool=>(z.2.2.2=false->z.1=L/\x+f v<=1199/\o.length+(g v).length<=120/\z.2.1=x+f v/\z.2.2.1=o++g v)/\(z.2.2.2=true-> ¬(st+fq (l::bS) p<=1200/\out.length+(ff (l::bS) p).length<=120)))
    (λj W=>aN (λh=>W _ ⟨λh'=>(by cases h'),λ_=>?_⟩) λh=>?_) λz eD=>?_
   ·have:=c v;omega
   ·have d:jL p=some p:=by unfold jL;rw[a1 O]
    refine ab d (ab (cB bN) (cr (L' B bS n (k+1) (p++[v]) (x+1) o O d2 O e O O T) λr ⟨tb,vA⟩=>?_));by_cases d:x+1+f v<=1200/\o.length+(g v).length<=120
    ·rw[tb d];exact W _ ⟨λ_=>⟨rfl,O,d.2,show x+1+f v-1=x+f v by omega,rfl⟩,λh=>(by cases h)⟩
    have A:=vA d;obtain⟨aiR,⟨ed,aiS,ro⟩⟩:=r;dsimp only at A⊢;subst A;exact W _ ⟨λh=>(by cases h),λ_=>O⟩
   obtain⟨aiV,aiW,aiX,aiH⟩:=z;obtain⟨U,V⟩:=eD;dsimp only at U V⊢;cases aiH with
   |true=>exact aa.some ⟨λh=>bz h (V rfl),λ_=>rfl⟩
   |false=>
    obtain⟨rfl,RZ,JU,R1,Y⟩:=U rfl;refine bR _ ⟨rfl,Z,.inl Z,?_,?_,by dsimp only;have:=c v;omega,Z,?_⟩ (by dsimp only;have:=c v;omega)
    ·dsimp only;rw[tj w,Na,R1,C];omega
    ·dsimp only;rw[Y,i,tj w,mT];simp
    dsimp only;rw[Y,cV];exact JU
  have:dA (dB l p) v=dA (dB l p) (eo l p):=by
   rcases S with q|q
   ·rw[show v=eo l p by omega]
   subst q;rw[lT (fT _),lT O]
  rw[this] at C i ny;rw[<-N] at i ny;refine⟨λh=>?_,λh=>?_⟩
  ·rw[i,C,M,show st+(1+((dA (dB l p) (eo l p)).map f).sum)-1=st+((dA (dB l p) (eo l p)).map f).sum by omega]
  exact bz ⟨O,O⟩ h
def jx(a:List Loop):Option (List (List Int)):=if kF a=true/\fq a []<=1200/\(ff a []).length<=120 then some (ff a []) else none
def r8:Option (List (List Int))->List (List Int)×Bool
 |none=>([],false)
 |some l=>(l,true)
theorem yG:hY 0 []:=⟨rfl,O,λx h=>by cases h⟩
theorem S9(k:6000<=n)(h:p' o):Dk n o=some (r8 (jx o)):=by
 refine aa.eq ?_;unfold Dk;refine ab (Tx O h) ?_;unfold jx;cases d:kF o with
 |false=>exact aa.some (by simp[r8])
 |true=>
  have c:=BC d;refine cr (L' c o n 0 [] 0 [] (by have:=c.1;omega) rfl O yG O O aP) λr ⟨e,i⟩=>?_;by_cases a:(0:Int)+fq o []<=1200/\([]:List (List Int)).length+(ff o []).length<=120
  ·rw[e a,a1 ⟨rfl,O,by simpa using a.2⟩];exact aa.some (by simp[r8])
  rw[i a,aZ λh=>a ⟨O,by simpa using h.2.2⟩];exact aa.some rfl
theorem S6(p:6000<=n)(h:p' o):Df n o=some (r8 (jx o)):=by
 refine aa.eq ?_;unfold Df;refine aa.ay (λz=>z= !(kF o&&decide (fq o []<=1200))) (λj l=>ab (Tm O h) ?_) λz m=>?_
 ·cases c:kF o with
  |false=>exact l _ (by rw[c];rfl)
  |true=>
   have d:=BC c;refine cr (Ma d o n 0 [] 1200 (by have:=d.1;omega) rfl O yG O O) λr ⟨e,i,q,s⟩=>l _ ?_;rw[c,fK];by_cases a:fq o []<=1200
   ·rw[bF a,bD (by rw[e a];omega)];rfl
   rw[bD a,bF (i O)];rfl
 subst m;unfold jx;cases c:kF o with
 |false=>exact aa.some (by simp[r8])
 |true=>
  have d:=BC c;by_cases a:fq o []<=1200
  ·rw[bF a];refine cr (Eo d o n 0 [] [] (by have:=d.1;omega) rfl O yG a aP) λr ⟨e,i⟩=>?_;by_cases k:(ff o []).length<=120
   ·rw[e (by simpa using k),a1 ⟨rfl,a,k⟩];refine aN (λh=>bz h bN) λ_=>aa.some (by simp[r8])
   have:=i bN;rw[aZ λh=>k h.2.2];exact aN (λ_=>aa.some rfl) λh=>bz h O
  rw[bD a,aZ λh=>a h.2.1];exact aa.some rfl
def nL(s:List UInt8):Bool:=match s with
 | [b]=>decide (65<=b.toNat/\b.toNat<=68)
 |_=>false
theorem EN(h:s.length≠1):nL s=false:=by
 match s,h with
 | [],_=>rfl
 | [b],h=>exact bz rfl h
 |_::_::_,_=>rfl
theorem Ht(h:s.length=1): ∃b,s=[b]:=by
 match s,h with
 | [b],_=>exact⟨b,rfl⟩
theorem xy(b:UInt8)(k:Nat)(a:k<256):(b=UInt8.ofNat k)↔b.toNat=k:=by
 constructor
 ·intro h;rw[h];simp;omega
 intro h;rw[<-h];simp
theorem T4(b:UInt8):Lib.contains [65,66,67,68] [b]=decide (65<=b.toNat/\b.toNat<=68):=by
 have h:(b=65)↔b.toNat=65:=xy b 65 O;have i:(b=66)↔b.toNat=66:=xy b 66 O;have k:(b=67)↔b.toNat=67:=xy b 67 O;have l:(b=68)↔b.toNat=68:=xy b 68 O;by_cases a:b=65
 ·subst a;decide
 by_cases c:b=66
 ·subst c;decide
 by_cases d:b=67
 ·subst d;decide
 by_cases e:b=68
 ·subst e;decide
 rw[h] at a;rw[i] at c;rw[k] at d;rw[l] at e;rw[bD O];rw[<-h] at a;rw[<-i] at c;rw[<-k] at d;rw[<-l] at e;simp[Lib.contains,Lib.index,a,c,d,e]
theorem Kr(n:Nat)(s:List UInt8):zf n s=some (nL s):=by
 unfold zf;by_cases h:s.length=1
 ·obtain⟨b,rfl⟩:=Ht h;simp only[ay,yn];rw[a1 aP,T4];rfl
 rw[bD (show¬(s.length:Int)=1 by omega),EN h];rfl
theorem Ld(b:UInt8):Op.bytesLess [b] [65]=decide (b.toNat<65):=by simp[Op.bytesLess,UInt8.lt_iff_toNat_lt]
theorem Lc(b:UInt8):(Op.bytesLess [b] [68]||[b]==[68])=decide (b.toNat<=68):=by
 have e:(b=68)↔b.toNat=68:=xy b 68 O;by_cases h:b=68
 ·subst h;decide
 have c:b.toNat≠68:=λa=>h (e.2 a)
 have:([b]==[(68:UInt8)])=false:=by simp[h]
 rw[this,Bool.or_false];simp only[Op.bytesLess,Bool.and_false,Bool.or_false,UInt8.lt_iff_toNat_lt];apply decide_eq_decide.2;show b.toNat<68↔_;omega
def fR(a:bX)(d:Int):Bool:=a.bx.all (λx=>eU x d)&&(nL a.array&&decide (1<=a.bx.length/\a.bx.length<=2))
theorem YF(c:5000<=n)(e:jy a)(d:Int):yA n a d=some (!eU a d):=LY c e d
theorem Kh(c:5000<=n){a:bX}(h:kp a.bx)(d:Int):yY n a d=some (fR a d):=by
 obtain⟨o,i⟩:=h;unfold yY;rw[Kr,Ee];have bG:=yh (n:=n) (f:=λk=>yA n k d) (p:=λa=> !eU a d) (l:=a.bx) (λx m=>YF c (i x m) d) O O;simp only[ay,Option.bind];rw[bG];unfold fR;have e:(a.bx.any λa=> !eU a d)= !(a.bx.all λa=>eU a d):=by
  rw[List.all_eq_not_any_not];simp
 rw[e];cases nL a.array<;>cases decide (1<=a.bx.length/\a.bx.length<=2)<;>simp
theorem Ke(B:5000<=n){a:bX}(r:kp a.bx)(d:Int):yS n a d=some (fR a d):=by
 obtain⟨L,G⟩:=r;refine aa.eq ?_;unfold yS;refine pR (l:=a.bx) (p:=λ_ a=>eU a d) O O (λk i x o w y=>?_) (λk q=>?_) (λ⟨i,x,o,H⟩=>?_)
 ·have aE:=(bU.1 o).1;have hm:=G x (bE o);rw[bF (show(i:Int)<(a.bx.length:Int) by omega)];refine b1 (aa.ay (λz=>z= !eU x d) (λj m=>ab (be o) (ab (Jd B x hm) ?_)) λz A=>?_)
  ·cases r:cO x with
   |false=>exact m _ (by unfold eU;rw[r];rfl)
   |true=>exact ab (yT B hm) (m _ (by unfold eU;rw[r,I6];simp))
  subst A;cases s:eU x d with
  |true=>show aa (k _) _;rw[bb O];exact w s
  |false=>exact aa.some (y s)
 ·rw[bD (show¬(a.bx.length:Int)<(a.bx.length:Int) by omega)];have e:a.bx.all (λa=>eU a d)=true:=fZ.2 λc K=>by obtain⟨i,aE⟩:=lh K;exact q i c aE
  unfold fR;rw[e,fK];refine b3 (aa.ay (λz=>z=(nL a.array&&decide (1<=a.bx.length/\a.bx.length<=2))) (λj m=>?_) λz A=>aa.some A);by_cases h:a.array.length=1
  ·rw[bF (show(a.array.length:Int)=1 by omega)];obtain⟨b,s⟩:=Ht h;rw[s] at m⊢;rw[Ld,Lc];show aa (bif _ then _ else _) _;simp only[nL] at m⊢;by_cases C:b.toNat<65
   ·rw[bF C];exact m _ (by rw[bD (show¬(65<=b.toNat/\b.toNat<=68) by omega)];rfl)
   rw[bD C];by_cases F:b.toNat<=68
   ·rw[bF F];rw[bF (O:65<=b.toNat/\b.toNat<=68)] at m⊢;refine aN (λh=>m _ ?_) λh=>m _ ?_
    ·by_cases Q:a.bx.length<=2
     ·rw[bF (show(a.bx.length:Int)<=2 by omega),bF O];rfl
     rw[bD (show¬(a.bx.length:Int)<=2 by omega),bD O];rfl
    rw[bD O];rfl
   rw[bD F];exact m _ (by rw[bD (show¬(65<=b.toNat/\b.toNat<=68) by omega)];rfl)
  rw[bD (show¬(a.array.length:Int)=1 by omega)];exact m _ (by rw[EN h];rfl)
 unfold fR;rw[lj.2 ⟨x,bE o,by rw[H];simp⟩];rfl
def hf(a:aw):Bool:=decide (a.aQ.length=0)&&decide (a.const=0)
def jN(a:bX):Bool:=decide (a.array=[])&&decide (a.bx.length=0)
theorem BP(k:Nat):decide ((k:Int)=0)=decide (k=0):=decide_eq_decide.2 O
theorem TX(n:Nat)(a:aw):yW n a=some (hf a):=by unfold yW hf;rw[BP];cases decide (a.aQ.length=0)<;>rfl
theorem Vq(n:Nat)(a:aw):wb n a=some (hf a):=by unfold wb hf;rw[BP];cases decide (a.aQ.length=0)<;>rfl
theorem TY(n:Nat)(a:bX):sW n a=some (jN a):=by unfold sW jN;rw[BP];cases decide (a.array=[])<;>rfl
theorem UL(n:Nat)(a:bX):vJ n a=some (jN a):=by unfold vJ jN;rw[BP];cases decide (a.array=[])<;>rfl
def ek(e:Expr)(d:Int):Bool:=
 if e.kind=2 then decide (e.num=0)&&(jN e.read&&eU e.index d)
 else if e.kind=3 then decide (e.num=0)&&(hf e.index&&fR e.read d)
 else if e.kind=1 then decide (0<=e.num/\e.num<=99)&&(hf e.index&&jN e.read)
 else decide (e.num=0)&&(hf e.index&&jN e.read)
def fj(k:Int):Int:=if k=1\/k=2\/k=3 then 0 else if k=4\/k=5\/k=6 then 2 else-1
theorem Vr(n:Nat)(k:Int):AU n k=some (fj k):=by
 unfold AU fj;by_cases a:k=1
 ·subst a;rfl
 by_cases c:k=2
 ·subst c;rfl
 by_cases d:k=3
 ·subst d;rfl
 by_cases e:k=4
 ·subst e;rfl
 by_cases h:k=5
 ·subst h;rfl
 by_cases i:k=6
 ·subst i;rfl
 simp[ay,a,c,d,e,h,i]
theorem Wm(a:5000<=n){e:Expr}(c:jy e.index)(h:kp e.read.bx)(d:Int):A7 n e d=some (ek e d):=by
 unfold A7 ek;rw[UL,Vq,Jd a _ c,yT a c,Ke a h];by_cases cx:e.kind=2
 ·rw[a1 cx,bF cx];simp only[ay,Option.bind,cond_true,eU];cases decide (e.num=0)<;>cases jN e.read<;>cases cO e.index<;>simp
 rw[aZ cx,bD cx];by_cases d':e.kind=3
 ·rw[a1 d',bF d'];simp only[ay,Option.bind,cond_true,cond_false];cases decide (e.num=0)<;>cases hf e.index<;>simp
 rw[aZ d',bD d'];by_cases eI:e.kind=1
 ·rw[a1 eI,bF eI];simp only[ay,Option.bind,cond_true,cond_false];by_cases i:0<=e.num<;>by_cases k:e.num<=99<;>cases hf e.index<;>simp[i,k]
 rw[aZ eI,bD eI];simp only[ay,Option.bind,cond_false];cases decide (e.num=0)<;>cases hf e.index<;>simp
end
section
def wR:Nat->Expr->Prop
 |0,_=>True
 |L+1,e=>e.bm.length<=1000/\jy e.index/\kp e.read.bx/\ ∀k∈e.bm,wR L k
def dw:Nat->Expr->Int->Bool
 |0,_,_=>false
 |L+1,e,d=>decide (fj e.kind=e.bm.length)&&(ek e d&&e.bm.all λk=>dw L k d)
def du:Nat->Expr->Int
 |0,_=>1
 |L+1,e=>1+(e.bm.map (du L)).sum
theorem pF(k:Int):fj k<=2:=by unfold fj;split;omega;split<;>omega
theorem KA(d:Int): ∀(L n:Nat) (e:Expr),5000+L<=n->L<=1000->wR L e->q9 (n+1) e d (L:Int)=some (dw L e d)
 |0,n,e,_,_,_=>by unfold q9;rfl
 |L+1,n,e,R,W,A=>by
  obtain⟨X,B,C,F⟩:=A;unfold q9;refine aa.eq ?_;refine aa.ay (λz=>z= !(decide (fj e.kind=e.bm.length)&&ek e d)) (λj s=>aN (λh=>O) λh=>ab (Vr n _) (eV (λh=>s _ ?_) λh=>ab (Wm O B C d) (s _ ?_))) λz G=>?_
  ·rw[bD h];rfl
  ·rw[bF h];rfl
  subst G;unfold dw;cases w:(decide (fj e.kind=e.bm.length)&&ek e d) with
  |false=>exact aa.some (by rw[<-l3,w];rfl)
  |true=>
   rw[<-l3,w,fK];refine b3 ?_;obtain⟨n,rfl⟩: ∃j,n=j+1:=⟨n-1,O⟩
   have H:wr (((L+1:Nat):Int)-1)=(L:Int):=by rw[bb O];omega
   rw[H];refine pR (l:=e.bm) (p:=λ_ k=>dw L k d) O O (λa i x m q r=>?_) (λa o=>?_) (λ⟨i,x,m,K⟩=>?_)
   ·have aE:=(bU.1 m).1;rw[bF (show(i:Int)<(e.bm.length:Int) by omega)];refine b1 (ab (be m) (ab (KA d L n x O O (F x (bE m))) ?_));cases y:dw L x d with
    |true=>show aa (a _) _;rw[bb O];exact q y
    |false=>exact aa.some (r y)
   ·rw[bD (show¬(e.bm.length:Int)<(e.bm.length:Int) by omega)];refine aa.some ?_;exact(fZ.2 λc Q=>by obtain⟨i,aE⟩:=lh Q;exact o i c aE).symm
   exact(lj.2 ⟨x,bE m,by rw[K];simp⟩).symm
theorem rs: ∀(L:Nat) (e:Expr),1<=du L e
 |0,_=>fT _
 |L+1,e=>by have:=nH (du L) e.bm λk _=>rs L k;simp only[du];omega
theorem Bp{a:Type}(f:a->Int)(M:Int): ∀(l:List a),(∀x∈l,f x<=M)->(l.map f).sum<=l.length*M
 | [],_=>aP
 |x::l,h=>by have d:=Bp f M l λy c=>h y (by simp[c]);have e:=h x aP;simp only[List.map_cons,List.sum_cons,List.length_cons,Int.natCast_add,Int.add_mul];omega
variable {d c:Int}{n i k:Nat}{s:Stmt}{r:List cI}{x:Part}{a:bX}{p:Prog}{q m:List Int}
theorem ha{L:Nat}{e:Expr}(h:dw (L+1) e d=true):fj e.kind=e.bm.length/\ek e d=true/\ ∀k∈e.bm,dw L k d=true:=by
 simp only[dw,Bool.and_eq_true,decide_eq_true_eq,List.all_eq_true] at h
 grind
theorem BE: ∀{L:Nat} {e:Expr} {d:Int},dw L e d=true->du L e+1<=2^L
 |0,e,d,h=>by cases h
 |L+1,e,d,h=>by
  obtain⟨i,_,a⟩:=ha h;have l:=Bp (du L) ((2:Int)^L-1) e.bm λk c=>by have:=BE (a k c);omega
  have m:=pF e.kind;have n:(e.bm.length:Int)*((2:Int)^L-1)<=2*((2:Int)^L-1):=by
   refine Int.mul_le_mul_of_nonneg_right O ?_
   have:(0:Int)<2^L:=Int.pow_pos O;omega
  simp only[du];rw[Int.pow_succ];omega
theorem Ks{d:Int}: ∀(L n:Nat) (e:Expr),5000+L<=n->L<=5->dw L e d=true->td (n+1) e (L:Int)=some (du L e)
 |0,n,e,_,_,h=>by cases h
 |L+1,n,e,Q,s,h=>by
  obtain⟨R,_,p⟩:=ha h;have W:=pF e.kind;have q: ∀k∈e.bm,du L k<=40:=λk c=>by
   have X:=BE (p k c);have b:(2:Int)^L<=40:=by
    match L,s with
    |0,_=>decide
    |1,_=>decide
    |2,_=>decide
    |3,_=>decide
    |4,_=>decide
   omega
  unfold td;refine aa.eq ?_;obtain⟨n,rfl⟩: ∃j,n=j+1:=⟨n-1,O⟩
  have w:wr (((L+1:Nat):Int)-1)=(L:Int):=by rw[bb O];omega
  rw[w];refine aa.loop (λx:Int×Int=> ∃i:Nat,x.2=i/\i<=e.bm.length/\x.1=1+((e.bm.take i).map (du L)).sum) (λx=>e.bm.length-x.2.toNat) ?_ (n+1) _ ⟨0,rfl,O,aP⟩ bN;rintro l ⟨x,k⟩ ⟨i,c,f,m⟩ A;dsimp only at c m⊢;subst c;refine aa.ay (λz=>z=decide (i<e.bm.length)) (λj r=>aN (λh=>r _ ?_) λh=>r _ ?_) λz B=>?_
  ·rw[bF (show(0:Int)<((L+1:Nat):Int) by omega),bF O]
  ·rw[bD O]
  subst B;refine aN (λo=>?_) λC=>aa.some ?_
  ·have a:=bo o;have hm:=bE a;refine ab (be a) (ab (Ks (d:=d) L n _ O O (p _ hm)) ?_);have hs:=Bp (du L) 40 (e.bm.take i) λy F=>q y (gb F);have G:=nH (du L) (e.bm.take i) λy _=>rs L y;have H:=q _ hm;have K:=rs L e.bm[i];have g:((e.bm.take i).length:Int)<=2:=bN
   rw[bb (n:=x+du L e.bm[i]) O,bb O];refine A _ ⟨i+1,Z,O,?_⟩ Z;dsimp only;rw[eg,a,ho,List.sum_append,m];simp;omega
  have:i=e.bm.length:=O
  rw[m,this,dz];rfl
def xq(e:Expr):Bool:=(decide (e.kind=1)||decide (e.num=0))&&((decide (e.kind=2)||hf e.index)&&(decide (e.kind=3)||jN e.read))
theorem JP(d:Int): ∀(L n:Nat) (e:Expr) (c:Int),5000+L<=n->L<=5->wR L e->0<=c->c<=12->
  aa (px (n+1) e d (6-(L:Int)) c) (λr=>r.1=(dw L e d&&decide (c+du L e<=12))/\(r.1=true->r.2=c+du L e))
 |0,n,e,c,N,P,v,S,T=>by
  unfold px;refine aa.ay (λz=>z=true) (λj i=>aN (λh=>i _ rfl) λh=>i _ (by decide)) λz m=>?_;subst m;exact aa.some ⟨rfl,λh=>by cases h⟩
 |L+1,n,e,c,N,P,v,S,T=>by
  obtain⟨e1,D,U,E⟩:=v;have V:=rs (L+1) e;unfold px;have Y:wr (c+1)=c+1:=bb O;have aij:wr (6-(((L+1:Nat)):Int)+1)=6-(L:Int):=by rw[bb O];omega
  rw[Y,aij];refine aa.ay (λz=>z=decide (12<c+1)) (λj i=>aN (λh=>i _ (bF h).symm) λh=>i _ ?_) λz m=>?_
  ·rw[bD h,bD O]
  subst m;refine aN (λh=>aa.some ⟨?_,λh=>by cases h⟩) λbG=>?_
  ·rw[bD (show¬c+du (L+1) e<=12 by omega),kg]
  refine aa.ay (λz=>z= !xq e) (λj i=>?_) λz m=>?_
  ·rw[TX,TY];unfold xq at i;simp only[Option.bind];by_cases eI:e.kind=1
   ·have cx: ¬e.kind=2:=O
    have d': ¬e.kind=3:=O
    rw[bF eI,bD cx,bD d'] at*;simp only[Bool.not_true,Bool.not_false,cond_true,cond_false,Bool.true_or,Bool.true_and,Bool.false_or] at*;cases Q:hf e.index with
    |false=>exact i _ (by rw[Q];rfl)
    |true=>exact i _ (by rw[Q];rfl)
   rw[bD eI] at*;simp only[Bool.not_false,cond_true,Bool.false_or] at*;by_cases o:e.num=0
   ·rw[bF o] at*;simp only[Bool.not_true,cond_false,Bool.true_and] at*;by_cases cx:e.kind=2
    ·have d': ¬e.kind=3:=O
     rw[bF cx,bD d'] at*;simp only[Bool.not_true,Bool.not_false,cond_true,cond_false,Bool.true_or,Bool.true_and,Bool.false_or] at*;exact i _ rfl
    rw[bD cx] at*;simp only[Bool.not_false,cond_true,Bool.false_or] at*;cases Q:hf e.index with
    |false=>exact i _ (by rw[Q];rfl)
    |true=>
     by_cases d':e.kind=3
     ·rw[bF d'] at*;exact i _ (by rw[Q];rfl)
     rw[bD d'] at*;exact i _ (by rw[Q];rfl)
   rw[bD o] at*;exact i _ rfl
  subst m;cases s:xq e with
  |false=>
   refine aa.some ⟨?_,λh=>by cases h⟩
   have:ek e d=false:=by
    unfold xq at s;unfold ek;by_cases cx:e.kind=2
    ·have eI: ¬e.kind=1:=O
     have d': ¬e.kind=3:=O
     rw[a1 cx];rw[bF cx,bD eI,bD d'] at s;revert s;cases decide (e.num=0)<;>cases jN e.read<;>simp
    rw[aZ cx];by_cases d':e.kind=3
    ·have eI: ¬e.kind=1:=O
     rw[a1 d'];rw[bD cx,bD eI,bF d'] at s;revert s;cases decide (e.num=0)<;>cases hf e.index<;>simp
    rw[aZ d'];rw[bD cx,bD d'] at s;by_cases eI:e.kind=1
    ·rw[a1 eI];rw[bF eI] at s;revert s;cases hf e.index<;>cases jN e.read<;>simp
    rw[aZ eI];rw[bD eI] at s;revert s;cases decide (e.num=0)<;>cases hf e.index<;>cases jN e.read<;>simp
   unfold dw;rw[this];simp
  |true=>
   refine b3 ?_;unfold xq at s;simp only[Bool.and_eq_true,Bool.or_eq_true,decide_eq_true_eq] at s;obtain⟨yz,I,W⟩:=s;have p: ∀(b:Bool),ek e d=b->fj e.kind=0-> ∀(z:Bool),z=(b&&decide ((e.bm.length:Int)=0))->z=(dw (L+1) e d&&decide (c+du (L+1) e<=12))/\(z=true->c+1=c+du (L+1) e):=by
    intro b aY G z m;unfold dw;rw[aY,G];by_cases h:e.bm.length=0
    ·have C:e.bm=[]:=l1 h;have H:du (L+1) e=1:=by simp[du,C]
     rw[H,bF (O:c+1<=12)];rw[bF (show(e.bm.length:Int)=0 by omega)] at m;rw[m,C];simp
    rw[bD (show¬(e.bm.length:Int)=0 by omega)] at m;rw[m,bD (show¬(0:Int)=(e.bm.length:Int) by omega)];simp
   by_cases eI:e.kind=1
   ·have cx: ¬e.kind=2:=O
    have d': ¬e.kind=3:=O
    rw[bF eI];have l:ek e d=decide (0<=e.num/\e.num<=99):=by
     unfold ek;rw[aZ cx,aZ d',a1 eI];rcases I with h|h
     ·exact bz h cx
     rcases W with A|A
     ·exact bz A d'
     rw[h,A];simp
    refine b1 (aa.ay (λz=>z=(decide (0<=e.num/\e.num<=99)&&decide ((e.bm.length:Int)=0))) (λj i=>ab (d7 n _ _ _) ?_) λz m=>aa.some ?_)
    ·cases y:decide (0<=e.num/\e.num<=99) with
     |true=>exact i _ (by rw[y];rfl)
     |false=>exact i _ (by rw[y];rfl)
    exact p _ l (by unfold fj;rw[a1 (Or.inl eI)]) _ m
   rw[bD eI];refine b3 ?_;have o:e.num=0:=by
    rcases yz with h|h
    ·exact bz h eI
    exact h
   by_cases cx:e.kind=2
   ·have d': ¬e.kind=3:=O
    rw[bF cx];have l:ek e d=eU e.index d:=by
     unfold ek;rw[a1 cx,bF o];rcases W with A|A
     ·exact bz A d'
     rw[A];simp
    refine b1 (aa.ay (λz=>z=(eU e.index d&&decide ((e.bm.length:Int)=0))) (λj i=>ab (R2 O _ D) ?_) λz m=>aa.some ?_)
    ·unfold eU at i;cases y:cO e.index with
     |false=>exact i _ (by rw[y];rfl)
     |true=>
      refine ab (zm O D) (aN (λh=>i _ ?_) λh=>i _ ?_)
      ·rw[y,bF h];rfl
      rw[y,bD h];rfl
    exact p _ l (by unfold fj;rw[a1 (Or.inr (Or.inl cx))]) _ m
   rw[bD cx];refine b3 ?_;have B:hf e.index=true:=by
    rcases I with h|h
    ·exact bz h cx
    exact h
   by_cases d':e.kind=3
   ·rw[bF d'];have l:ek e d=fR e.read d:=by
     unfold ek;rw[aZ cx,a1 d',bF o,B];simp
    refine b1 (aa.ay (λz=>z=(fR e.read d&&decide ((e.bm.length:Int)=0))) (λj i=>ab (Kh O U d) ?_) λz m=>aa.some ?_)
    ·cases y:fR e.read d with
     |false=>exact i _ (by rw[y];rfl)
     |true=>exact i _ (by rw[y];rfl)
    exact p _ l (by unfold fj;rw[a1 (Or.inr (Or.inr d'))]) _ m
   rw[bD d'];refine b3 ?_;have l:ek e d=true:=by
    unfold ek;rw[aZ cx,aZ d',aZ eI,bF o,B];rcases W with A|A
    ·exact bz A d'
    rw[A];rfl
   have X:rO n e.kind=some (decide (4<=e.kind/\e.kind<=6)):=by unfold rO;rw[d7];rfl
   have K:(fj e.kind=2↔(4<=e.kind/\e.kind<=6))/\(fj e.kind=2\/fj e.kind= -1):=by
    unfold fj;rw[aZ O];split<;>omega
   refine aa.ay (λz=>z= !(decide (4<=e.kind/\e.kind<=6)&&decide ((e.bm.length:Int)=2))) (λj i=>ab X ?_) λz m=>?_
   ·cases y:decide (4<=e.kind/\e.kind<=6) with
    |false=>exact i _ (by rw[y];rfl)
    |true=>exact i _ (by rw[y];rfl)
   subst m;by_cases G:(4<=e.kind/\e.kind<=6)/\(e.bm.length:Int)=2
   ·rw[bF G.1,bF G.2];refine b3 ?_;obtain⟨a,b,w⟩: ∃a b,e.bm=[a,b]:=by
     have:e.bm.length=2:=O
     match hq:e.bm,this with
     | [a,b],_=>exact⟨a,b,rfl⟩
    have f:dw (L+1) e d=(dw L a d&&dw L b d):=by
     show(decide (fj e.kind=e.bm.length)&&(ek e d&&e.bm.all λk=>dw L k d))=_;rw[l,w,bF (show fj e.kind=(([a,b]:List Expr).length:Int) by rw[K.1.2 G.1];rfl)];simp
    have H:du (L+1) e=1+(du L a+du L b):=by simp[du,w]
    have aiI:=rs L a;have aiJ:=rs L b;rw[f,H];obtain⟨n,rfl⟩: ∃j,n=j+1:=⟨n-1,O⟩
    refine aa.ay (λz:Int×Bool=>z.2=(dw L a d&&dw L b d&&decide (c+(1+(du L a+du L b))<=12))/\(z.2=true->z.1=c+(1+(du L a+du L b)))) (λj i=>?_) λz m=>aa.some m;refine ab (x:=a) (by rw[w];rfl) (cr (JP d L n a (c+1) O O (E a (by rw[w];simp)) O O) λr ⟨F,t⟩=>?_);cases u:r.1 with
    |false=>
     refine i _ ⟨?_,λh=>by cases h⟩;rw[u] at F;show false=_;by_cases R:dw L a d=true
     ·rw[R,fK] at F
      have:=of_decide_eq_false F.symm;rw[bD (show¬c+(1+(du L a+du L b))<=12 by omega),kg]
     rw[Bool.eq_false_iff.2 R];rfl
    |true=>
     have t:=t u;rw[u] at F;have F:=F.symm;rw[oW,decide_eq_true_eq] at F;refine ab (x:=b) (by rw[w];rfl) ?_;rw[t];refine cr (JP d L n b (c+1+du L a) O O (E b (by rw[w];simp)) O O) λq ⟨lb,q2⟩=>i _ ⟨?_,λh=>?_⟩
     ·show q.1=_;rw[lb,F.1,fK];congr 1;exact decide_eq_decide.2 O
     show q.2=_;rw[q2 h];omega
   have ik:dw (L+1) e d=false:=by
    unfold dw;rw[bD (show¬fj e.kind=(e.bm.length:Int) by
     intro h;rcases K.2 with M|M
     ·exact G ⟨K.1.1 M,O⟩
     omega)]
    rfl
   have:(decide (4<=e.kind/\e.kind<=6)&&decide ((e.bm.length:Int)=2))=false:=by
    by_cases g:4<=e.kind/\e.kind<=6
    ·rw[bD (show¬(e.bm.length:Int)=2 from λh=>G ⟨g,h⟩),kg]
    rw[bD g];rfl
   rw[this,ik];exact aa.some ⟨rfl,λh=>by cases h⟩
def er(s:Stmt)(d:Int):Bool:=decide (0<=d/\d<=4)&&(fR s.write d&&(dw 5 s.value d&&decide (du 5 s.value<=12)))
def Ah(s:Stmt):Prop:=kp s.write.bx/\wR 5 s.value
theorem Tw(m:6000<=n)(h:Ah s)(d:Int):DQ n s d=some (er s d):=by
 obtain⟨n,rfl⟩: ∃j,n=j+1:=⟨n-1,O⟩
 refine aa.eq ?_;unfold DQ;generalize a:er s d=T;unfold er at a;refine aa.ay (λz:Int×Bool=>z.2=T) (λj c=>ab (d7 _ _ _ _) ?_) λz k=>aa.some k;cases e:decide (0<=d/\d<=4) with
 |false=>exact c (0,false) (by rw[<-a,e];rfl)
 |true=>
  refine b1 (ab (Kh O h.1 d) ?_);cases i:fR s.write d with
  |false=>exact c (0,false) (by rw[<-a,e,i];rfl)
  |true=>
   refine b1 (cr (JP d 5 n s.value 0 O O h.2 O O) λr ⟨l,o⟩=>c _ ?_);rw[<-a,e,i];show r.1=_;rw[l];simp
theorem Jy(o:6000<=n)(h:Ah s)(d:Int):sR n s d=some (er s d):=by
 obtain⟨n,rfl⟩: ∃j,n=j+1:=⟨n-1,O⟩
 refine aa.eq ?_;unfold sR;generalize l:er s d=T;generalize a:(decide (0<=d/\d<=4)&&(fR s.write d&&dw 5 s.value d))=B;have c:T=(B&&decide (du 5 s.value<=12)):=by rw[<-l,<-a];unfold er;simp only[Bool.and_assoc]
 refine aa.ay (λz=>z= !B) (λj e=>aN (λh=>e _ ?_) λp=>aN (λh=>e _ ?_) λq=>ab (Ke O h.1 d) ?_) λz m=>?_
 ·rw[<-a,bD (show¬(0<=d/\d<=4) by omega)];rfl
 ·rw[<-a,bD (show¬(0<=d/\d<=4) by omega)];rfl
 ·rw[bF (O:0<=d/\d<=4)] at a;cases k:fR s.write d with
  |false=>exact b1 (e _ (by rw[<-a,k];rfl))
  |true=>exact b3 (ab (KA d 5 n s.value O O h.2) (e _ (by rw[<-a,k];rfl)))
 subst m;cases i:B with
 |false=>exact aa.some (by rw[c,i];rfl)
 |true=>
  rw[i] at a;simp only[Bool.and_eq_true] at a;refine b3 (ab (Ks (d:=d) 5 n s.value O O a.2.2) (aa.some ?_));rw[c,i];rfl
def ka(a:List Int):Bool:=decide (1<=a.length/\a.length<=2)&&a.all λd=>decide (1<=d/\d<=6)
def rJ(a:List cI)(i:Nat)(x:cI):Bool:=match i with
 |0=>true
 |i+1=>match a[i]? with
  |some y=>Op.bytesLess y.name x.name
  |none=>false
def oe(a:List cI)(i:Nat)(x:cI):Bool:=nL x.name&&(rJ a i x&&ka x.b2)
def jK(a:List cI):Bool:=xk (oe a) a&&decide (a.length<=4)
def EG(a:List cI):Prop:=a.length<=1000/\ ∀x∈a,x.b2.length<=1000
theorem K3{x y:cI}(h:r[i]? =some y):rJ r (i+1) x=Op.bytesLess y.name x.name:=by simp only[rJ,h]
theorem aau(a:List Int):(a.any λd=> !decide (1<=d/\d<=6))= !(a.all λd=>decide (1<=d/\d<=6)):=by grind
theorem TZ(b:6000<=n){w:List cI}(h:EG w):zn n w=some (jK w):=by
 obtain⟨f,L⟩:=h;refine aa.eq ?_;unfold zn;refine pR (l:=w) (p:=oe w) O O (λa i x m s y=>?_) (λa o=>?_) (λ⟨i,x,m,A⟩=>?_)
 ·have aE:=(bU.1 m).1;have hm:=L x (bE m);rw[bF (show(i:Int)<(w.length:Int) by omega)];have Q:oh n x.b2 (λB=>qG n B)=some (!(x.b2.all λd=>decide (1<=d/\d<=6))):=by
   rw[<-aau];exact Dn (λd _=>by unfold qG;rw[d7];rfl) O O
  refine b1 (ab (be m) (aa.ay (λz=>z= !oe w i x) (λj k=>ab (Kr n _) ?_) λz R=>?_))
  ·unfold oe ka at k;cases C:nL x.name with
   |false=>exact b1 (k _ (by rw[C];rfl))
   |true=>
    rw[C] at k;refine b3 ?_;rw[Ee];have c:rJ w i x=true->aa (Option.bind (some (decide (1<=x.b2.length/\x.b2.length<=2))) λW=>bif !W then j true else Option.bind (oh n x.b2 λB=>qG n B) λX=>j X) (λr=>r=jK w):=by
     intro A;rw[A] at k;show aa (bif _ then _ else _) _;cases F:decide (1<=x.b2.length/\x.b2.length<=2) with
     |false=>exact b1 (k _ (by rw[F];rfl))
     |true=>exact b3 (ab Q (k _ (by rw[F];rfl)))
    cases i with
    |zero=>exact aN (λh=>bz h (by decide)) (λ_=>c rfl)
    |succ i=>
     have G:=bo (O:i<w.length);have e:wr (((i+1:Nat):Int)-1)=(i:Int):=by rw[bb O];omega
     rw[e];refine aN (λ_=>ab (be G) ?_) λh=>bz (show(0:Int)<((i+1:Nat):Int) by omega) h;have q:=K3 (x:=x) G;cases H:Op.bytesLess w[i].name x.name with
     |false=>exact b1 (k _ (by rw[q,H];rfl))
     |true=>exact b3 (c (by rw[q,H]))
  subst R;cases K:oe w i x with
  |true=>show aa (a _) _;rw[bb O];exact s K
  |false=>exact aa.some (y K)
 ·rw[bD (show¬(w.length:Int)<(w.length:Int) by omega)];refine aa.some ?_;unfold jK;rw[v6 o,fK]
  grind
 unfold jK;rw[Dj m A];rfl
theorem Zc(s:List UInt8):(!Op.bytesLess s [68]&& !s==[68])= !(Op.bytesLess s [68]||s==[68]):=by grind
theorem TL(Y:6000<=n){a:List cI}(h:EG a):D4 n a=some (jK a):=by
 obtain⟨h0,v⟩:=h;refine aa.eq ?_;unfold D4;refine pR (l:=a) (p:=oe a) O O (λq i x w K A=>?_) (λq B=>?_) (λ⟨i,x,w,D⟩=>?_)
 ·have aE:=(bU.1 w).1;have hm:=v x (bE w);rw[bF (show(i:Int)<(a.length:Int) by omega)];refine b1 (ab (be w) (aa.ay (λz=>z= !(nL x.name&&(rJ a i x&&decide (1<=x.b2.length/\x.b2.length<=2)))) (λj m=>?_) λz L=>?_))
  ·refine eV (λE=>m _ ?_) λE=>?_
   ·rw[EN O];rfl
   obtain⟨b,o⟩:=Ht (O:x.name.length=1);rw[Zc];have Q: ∀(y:cI),Op.bytesLess y.name x.name=Op.bytesLess y.name [b]:=λy=>by rw[o]
   have R:nL x.name=decide (65<=b.toNat/\b.toNat<=68):=by rw[o];rfl
   have I:Op.bytesLess x.name [65]=decide (b.toNat<65):=by rw[o];exact Ld b
   have M:(Op.bytesLess x.name [68]||x.name==[68])=decide (b.toNat<=68):=by rw[o];exact Lc b
   rw[I,M];rw[R] at m;refine aN (λN=>m _ ?_) λN=>eV (λP=>m _ ?_) λP=>?_
   ·rw[bD (show¬(65<=b.toNat/\b.toNat<=68) by omega)];rfl
   ·rw[bD (show¬(65<=b.toNat/\b.toNat<=68) by omega)];rfl
   rw[bF (O:65<=b.toNat/\b.toNat<=68)] at m;have c:rJ a i x=true->aa (bif decide ((x.b2.length:Int)<1) then j true else j (decide ((2:Int)<(x.b2.length:Int)))) (λr=>r=jK a):=by
    grind
   cases i with
   |zero=>exact aN (λh=>bz h (by decide)) (λ_=>c rfl)
   |succ i=>
    have f:=bo (O:i<a.length);have e:wr (((i+1:Nat):Int)-1)=(i:Int):=by rw[bb O];omega
    rw[e];refine aN (λ_=>ab (be f) ?_) λh=>bz (show(0:Int)<((i+1:Nat):Int) by omega) h;have C:=K3 (x:=x) f;cases g:Op.bytesLess a[i].name x.name with
    |false=>exact b1 (m _ (by rw[C,g];rfl))
    |true=>exact b3 (c (by rw[C,g]))
  subst L;cases o:(nL x.name&&(rJ a i x&&decide (1<=x.b2.length/\x.b2.length<=2))) with
  |false=>
   refine aa.some (A ?_);unfold oe ka;rw[<-l3,<-l3];rw[<-l3] at o;rw[o];rfl
  |true=>
   have F:oe a i x=x.b2.all (λd=>decide (1<=d/\d<=6)):=by
    unfold oe ka;rw[<-l3,<-l3];rw[<-l3] at o;rw[o];rfl
   refine b3 ?_;refine aa.loop (λy:Int=> ∃k:Nat,y=k/\k<=x.b2.length/\ ∀(t:Nat) d,t<k->x.b2[t]? =some d->decide (1<=d/\d<=6)=true) (λy=>x.b2.length-y.toNat) ?_ n _ ⟨0,rfl,O,λt d h=>O⟩ bN;rintro H y ⟨k,rfl,hk,u⟩ S;refine aN (λT=>?_) λU=>?_
   ·have cu:=bo (O:k<x.b2.length);have V:wr ((k:Int)+1)=((k+1:Nat):Int):=by rw[bb O];omega
    refine aa.ay (λz=>z= !decide (1<=x.b2[k]/\x.b2[k]<=6)) (λj m=>ab (be cu) (aN (λh=>m _ ?_) λh=>m _ ?_)) λz L=>?_
    ·rw[bD O];rfl
    ·by_cases h6:x.b2[k]<=6
     ·rw[bD (show¬(6:Int)<x.b2[k] by omega),bF (O:1<=x.b2[k]/\x.b2[k]<=6)];rfl
     rw[bF (show(6:Int)<x.b2[k] by omega),bD (show¬(1<=x.b2[k]/\x.b2[k]<=6) by omega)];rfl
    subst L;cases G:decide (1<=x.b2[k]/\x.b2[k]<=6) with
    |false=>
     refine aa.some (A ?_);rw[F];exact lj.2 ⟨_,bE cu,by rw[G];simp⟩
    |true=>
     rw[V];refine S _ ⟨k+1,rfl,O,λt d W s=>?_⟩ O;by_cases X:t=k
     ·subst X;rw[cu] at s;cases s;exact G
     exact u t d O s
   have e:wr ((i:Int)+1)=(i:Int)+1:=bb O;rw[e];refine K ?_;rw[F];refine fZ.2 λd cu=>?_;obtain⟨t,W⟩:=lh cu
   have:=(bU.1 W).1;exact u t d O W
 ·rw[bD (show¬(a.length:Int)<(a.length:Int) by omega)];refine aa.some ?_;unfold jK;rw[v6 B,fK]
  grind
 unfold jK;rw[Dj w D];rfl
def gY:List Int->Int
 | []=>1
 |d::a=>d*gY a
theorem GS{d:List Int}(h:ka d=true):(∃a,d=[a]/\1<=a/\a<=6)\/ ∃a b,d=[a,b]/\(1<=a/\a<=6)/\1<=b/\b<=6:=by
 simp only[ka,Bool.and_eq_true,decide_eq_true_eq,List.all_eq_true] at h;obtain⟨⟨e,i⟩,c⟩:=h
 match d,e,i,c with
 | [a],_,_,c=>exact .inl ⟨a,rfl,c a aP⟩
 | [a,b],_,_,c=>exact .inr ⟨a,b,rfl,c a aP,c b aP⟩
theorem PB{a b:Int}(c:1<=a/\a<=6)(d:1<=b/\b<=6):1<=a*b/\a*b<=36:=by
 constructor
 ·have:=rl c.1 d.1 O O;omega
 have:=rl c.2 d.2 O O;omega
theorem rW{d:List Int}(h:ka d=true):1<=gY d/\gY d<=36:=by
 rcases GS h with ⟨a,rfl,c⟩|⟨a,b,rfl,c,e⟩
 ·simp[gY];omega
 have:=PB c e;simp[gY];omega
theorem Ep(l:6000<=n){x:cI}(h:ka x.b2=true):wB n x=some (gY x.b2):=by
 obtain⟨n,rfl⟩: ∃j,n=j+3:=⟨n-3,O⟩
 unfold wB;rcases GS h with ⟨a,e,d⟩|⟨a,b,e,d,i⟩
 ·rw[e];have c:wr a=a:=bb O;simp[bd,ar,gY,c,show wr 1=1 from bb O]
 rw[e]
 have:=PB d i;have c:wr a=a:=bb O;have k:wr (a*b)=a*b:=bb O;simp[bd,ar,gY,c,k,show wr 1=1 from bb O,show wr 2=2 from bb O]
theorem Yz(a:6000<=n){x:cI}(h:ka x.b2=true):Dm n x=some (gY x.b2):=Ep a h
def hv:List aw->List Int->List Int->Int->Int
 |s::c,d::e,p,a=>if 0<=fQ s p/\fQ s p<d then hv c e p (a*d+fQ s p) else-1
 |_,_,_,a=>a
def eB:List cI->bX->List Int->Int->Int
 | [],_,_,_=> -1
 |x::d,a,p,c=>if x.name=a.array then(if a.bx.length=x.b2.length then(if hv a.bx x.b2 p 0<0 then-1 else c+hv a.bx x.b2 p 0) else-1) else eB d a p (c+gY x.b2)
def kC(a:List cI):Prop:= ∀x∈a,ka x.b2=true
theorem acD{d:List Int}(e:ka d=true){l:List aw}(c:l.length=d.length)(p:List Int):hv l d p 0= -1\/(0<=hv l d p 0/\hv l d p 0<gY d):=by
 rcases GS e with ⟨a,rfl,h⟩|⟨a,b,rfl,h,k⟩
 ·match l,c with
  | [s],_=>
   simp only[hv,gY,Int.zero_mul,Int.zero_add,Int.mul_one];split<;>omega
 match l,c with
 | [s,t],_=>
  simp only[hv,gY,Int.zero_mul,Int.zero_add,Int.mul_one];split
  ·rename_i i;split
   ·rename_i m;refine .inr ⟨?_,?_⟩
    ·have:=oQ i.1 (O:0<=b);omega
    have:=Int.mul_le_mul_of_nonneg_right (O:fQ s p<=a-1) (O:0<=b);rw[Int.sub_mul] at this;omega
   exact .inl rfl
  exact .inl rfl
def gH(a:List cI):Int:=(a.map λx=>gY x.b2).sum
theorem Ow: ∀{xs:List cI},kC xs-> ∀(a:bX) (p:List Int) (c:Int),0<=c->eB xs a p c= -1\/(c<=eB xs a p c/\eB xs a p c<c+gH xs)
 | [],_,a,p,c,_=> .inl rfl
 |x::xs,k,a,p,c,n=>by
  have l:=k x aP;have hs:=rW l;have d:kC xs:=λy i=>k y (by simp[i]);have o:0<=gH xs:=by
   have:=nH (λx:cI=>gY x.b2) xs λy i=>(rW (d y i)).1;unfold gH;omega
  have e:gH (x::xs)=gY x.b2+gH xs:=by simp[gH]
  rw[e];simp only[eB];split
  ·split
   ·rename_i m;rcases acD l m p with h|h
    ·rw[a1 O];exact .inl rfl
    rw[aZ O];exact .inr ⟨O,O⟩
   exact .inl rfl
  rcases Ow d a p (c+gY x.b2) O with h|h
  ·exact .inl h
  exact .inr ⟨O,O⟩
theorem mZ(h:fR a d=true):1<=a.bx.length/\a.bx.length<=2/\ ∀x∈a.bx,cO x=true:=by
 simp only[fR,Bool.and_eq_true,decide_eq_true_eq,List.all_eq_true] at h;refine⟨h.2.2.1,h.2.2.2,λx c=>?_⟩
 have:=h.1 x c;simp only[eU,Bool.and_eq_true] at this
 grind
theorem k5{a:Type}{l:List a}{x:a}(h:l[i]? =some x):l.drop i=x::l.drop (i+1):=by obtain⟨c,d⟩:=bU.1 h;rw[kN c,d]
theorem ND{a v:Int}(c:0<=a/\a<=36)(e:1<=d/\d<=6)(h:0<=v/\v<d):0<=a*d/\a*d<=216/\0<=a*d+v:=by have i:=oQ c.1 (O:0<=d);have k:=rl c.2 e.2 O O;omega
theorem ZV(E:6000<=n)(I:a.bx.length<=2)(b: ∀x∈a.bx,cO x=true){e:List Int}(f:ka e=true)(M:a.bx.length=e.length){p:List Int}(g:hY k p)(c:Int)(N:0<=c/\c<=1000000):
  bd (λl ((W,B):Int×Int)=>bif decide (B<(a.bx.length:Int)) then(Option.bind (ar a.bx B) λj=>Option.bind (oi n j p) λq=>Option.bind (ar e B) λr=>Option.bind (e9 n q 0 (wr (r-1))) λC=>bif !C then(some (-1)) else(l (wr ((wr (W*r))+q),wr (B+1)))) else(some (wr (c+W)))) n (0,0)
   =some (if hv a.bx e p 0<0 then-1 else c+hv a.bx e p 0):=by
 have F: ∀d∈e,1<=d/\d<=6:=by
  simp only[ka,Bool.and_eq_true,decide_eq_true_eq,List.all_eq_true] at f
  grind
 refine aa.eq ?_;refine aa.loop (λx:Int×Int=> ∃i:Nat,x.2=i/\i<=a.bx.length/\0<=x.1/\x.1<=36*i/\(i=0->x.1=0)/\(i=1->x.1<=5)/\hv a.bx e p 0=hv (a.bx.drop i) (e.drop i) p x.1) (λx=>a.bx.length-x.2.toNat) ?_ n _ ⟨0,rfl,O,aP,aP,λ_=>rfl,λh=>O,rfl⟩ bN;rintro G ⟨x,z⟩ ⟨i,X,P,H,K,s,w,m⟩ t;dsimp only at X H K s w m⊢;subst X;refine aN (λu=>?_) λv=>aa.some ?_
 ·have hs:=bo (O:i<a.bx.length);have o:=bo (O:i<e.length);have y:=F _ (bE o);have D:wr (e[i]-1)=e[i]-1:=bb O;rw[k5 hs,k5 o] at m;simp only[hv] at m;refine ab (be hs) (ab (xz O (b _ (bE hs)) g) (ab (be o) (ab (d7 _ _ _ _) ?_)));rw[D];by_cases L:0<=fQ a.bx[i] p/\fQ a.bx[i] p<e[i]
  ·rw[a1 L] at m;rw[bF (O:0<=fQ a.bx[i] p/\fQ a.bx[i] p<=e[i]-1)];obtain⟨S,T,U⟩:=ND (a:=x) O y L;refine b3 ?_;rw[bb (n:=x*e[i]) O,bb (n:=x*e[i]+fQ a.bx[i] p) O,bb O];have A:i=0\/i=1:=O
   refine t _ ⟨i+1,Z,O,Z,?_,λh=>O,λh=>?_,m⟩ Z
   ·dsimp only;rcases A with rfl|rfl
    ·rw[s rfl];omega
    have:=w rfl
    have:=rl this y.2 O O;omega
   dsimp only
   grind
  rw[aZ L] at m;rw[bD (show¬(0<=fQ a.bx[i] p/\fQ a.bx[i] p<=e[i]-1) by omega)];refine b1 (aa.some ?_)
  grind
 have Q:i=a.bx.length:=O
 have R:hv (a.bx.drop i) (e.drop i) p x=x:=by
  rw[Q,pZ];unfold hv;rfl
 rw[R] at m;rw[m,aZ O,bb O]
theorem Y2(P:6000<=n)(S:1<=a.bx.length)(T:a.bx.length<=2)(u: ∀x∈a.bx,cO x=true){c:List Int}(v:ka c=true){p:List Int}(D:hY k p)(e:Int)(U:0<=e/\e<=1000000):
  bd (λl ((f,s):Int×Int)=>bif decide (s<(a.bx.length:Int)) then(bif !decide ((a.bx.length:Int)=(c.length:Int)) then(some (-1)) else(Option.bind (ar a.bx s) λE=>Option.bind (oF n E p) λr=>ay (fun(G:Bool)=>bif G then(some (-1)) else(Option.bind (ar c s) λH=>l (wr ((wr (f*H))+r),wr (s+1)))) λw=>bif decide (r<0) then(w true) else(Option.bind (ar c s) λK=>w (decide (K<=r))))) else(some (wr (e+f)))) n (0,0)
   =some (if a.bx.length=c.length then(if hv a.bx c p 0<0 then-1 else e+hv a.bx c p 0) else-1):=by
 by_cases g:a.bx.length=c.length
 ·rw[a1 g];rw[bF (show(a.bx.length:Int)=(c.length:Int) by omega)];have L: ∀d∈c,1<=d/\d<=6:=by
   simp only[ka,Bool.and_eq_true,decide_eq_true_eq,List.all_eq_true] at v
   grind
  refine aa.eq ?_;refine aa.loop (λx:Int×Int=> ∃i:Nat,x.2=i/\i<=a.bx.length/\0<=x.1/\x.1<=36*i/\(i=0->x.1=0)/\(i=1->x.1<=5)/\hv a.bx c p 0=hv (a.bx.drop i) (c.drop i) p x.1) (λx=>a.bx.length-x.2.toNat) ?_ n _ ⟨0,rfl,O,aP,aP,λ_=>rfl,λh=>O,rfl⟩ bN;rintro Q ⟨x,z⟩ ⟨i,F,V,R,W,y,A,o⟩ I;dsimp only at F R W y A o⊢;subst F;refine aN (λM=>?_) λN=>aa.some ?_
  ·have hs:=bo (O:i<a.bx.length);have m:=bo (O:i<c.length);have B:=L _ (bE m);rw[k5 hs,k5 m] at o;simp only[hv] at o;refine b3 (ab (be hs) (ab (xw O (u _ (bE hs)) D) (aa.ay (λz=>z= !decide (0<=fQ a.bx[i] p/\fQ a.bx[i] p<c[i])) (λj t=>aN (λh=>t _ ?_) λh=>ab (be m) (t _ ?_)) λz F=>?_)))
   ·rw[bD O];rfl
   ·by_cases q:c[i]<=fQ a.bx[i] p
    ·rw[bF q,bD O];rfl
    rw[bD q,bF O];rfl
   subst F;by_cases q:0<=fQ a.bx[i] p/\fQ a.bx[i] p<c[i]
   ·rw[a1 q] at o;rw[bF q];obtain⟨Y,g2,g3⟩:=ND (a:=x) O B q;refine b3 (ab (be m) ?_);rw[bb (n:=x*c[i]) O,bb (n:=x*c[i]+fQ a.bx[i] p) O,bb O];have C:i=0\/i=1:=O
    refine I _ ⟨i+1,Z,O,Z,?_,λh=>O,λh=>?_,o⟩ Z
    ·dsimp only;rcases C with rfl|rfl
     ·rw[y rfl];omega
     have:=A rfl
     have:=rl this B.2 O O;omega
    dsimp only
    grind
   rw[aZ q] at o;rw[bD q];refine b1 (aa.some ?_)
   grind
  have X:i=a.bx.length:=O
  have b:hv (a.bx.drop i) (c.drop i) p x=x:=by
   rw[X,pZ];unfold hv;rfl
  rw[b] at o;rw[o,aZ O,bb O]
 rw[aZ g,bD (show¬(a.bx.length:Int)=(c.length:Int) by omega)];obtain⟨n,rfl⟩: ∃j,n=j+1:=⟨n-1,O⟩
 simp only[bd]
 grind
theorem zZ(y:6000<=n)(R:p.aR.length<=4)(B:kC p.aR)(C:fR a d=true)(F:hY k q):sM n p a q=some (eB p.aR a q 0):=by
 obtain⟨a0,aI,a2⟩:=mZ C;refine aa.eq ?_;unfold sM;refine aa.loop (λx:Int×Int=> ∃i:Nat,x.2=i/\i<=p.aR.length/\0<=x.1/\x.1<=36*i/\eB p.aR a q 0=eB (p.aR.drop i) a q x.1) (λx=>p.aR.length-x.2.toNat) ?_ n _ ⟨0,rfl,O,aP,aP,rfl⟩ bN;rintro m ⟨x,z⟩ ⟨i,A,W,o,r,c⟩ G;dsimp only at A o r c⊢;subst A;refine aN (λH=>?_) λK=>aa.some ?_
 ·have s:=bo (O:i<p.aR.length);have h:=B _ (bE s);have k3:=rW h;rw[k5 s] at c;simp only[eB] at c;refine ab (be s) (eV (λl=>?_) λL=>?_)
  ·rw[aZ l] at c;refine ab (Yz y h) ?_;rw[bb (n:=x+gY p.aR[i].b2) O,bb O];exact G _ ⟨i+1,Z,O,Z,Z,c⟩ Z
  rw[a1 L] at c;refine eV (λl=>aa.some ?_) λQ=>?_
  ·rw[c,aZ O]
  have e:a.bx.length=p.aR[i].b2.length:=O
  rw[a1 e] at c;exact aa.of (ZV y aI a2 h e F x O) c.symm
 have w:i=p.aR.length:=O
 rw[c,w,pZ];rfl
theorem Mf(w:6000<=n)(L:r.length<=4)(A:kC r)(B:fR a d=true)(C:hY k q):wC n r a q=some (eB r a q 0):=by
 obtain⟨a0,aI,a2⟩:=mZ B;refine aa.eq ?_;unfold wC;refine aa.loop (λx:Int×Int=> ∃i:Nat,x.2=i/\i<=r.length/\0<=x.1/\x.1<=36*i/\eB r a q 0=eB (r.drop i) a q x.1) (λx=>r.length-x.2.toNat) ?_ n _ ⟨0,rfl,O,aP,aP,rfl⟩ bN;rintro h ⟨x,z⟩ ⟨i,y,Q,l,m,c⟩ F;dsimp only at y l m c⊢;subst y;refine aN (λG=>?_) λH=>aa.some ?_
 ·have o:=bo (O:i<r.length);have e:=A _ (bE o);have k3:=rW e;rw[k5 o] at c;simp only[eB] at c;refine ab (be o) (eV (λp=>?_) λK=>?_)
  ·rw[aZ p] at c;refine ab (Ep w e) ?_;rw[bb (n:=x+gY r[i].b2) O,bb O];exact F _ ⟨i+1,Z,O,Z,Z,c⟩ Z
  rw[a1 K] at c;exact aa.of (Y2 w a0 aI a2 e C x O) c.symm
 have s:i=r.length:=O
 rw[c,s,pZ];rfl
def dU:Nat->Expr->List bX
 |0,_=>[]
 |L+1,e=>(if e.kind=3 then [e.read] else [])++e.bm.flatMap (dU L)
theorem E8{d:Int}: ∀{L:Nat} {e:Expr},dw L e d=true-> ∀a∈dU L e,fR a d=true
 |0,e,h,a,c=>by cases h
 |L+1,e,h,a,c=>by
  obtain⟨o,i,m⟩:=ha h;simp only[dU,List.mem_append,List.mem_flatMap] at c;rcases c with c|⟨k,n,c⟩
  ·split at c
   ·rename_i l;simp at c;subst c;unfold ek at i;rw[aZ O,a1 l] at i;simp only[Bool.and_eq_true] at i;exact i.2.2
   simp at c
  exact E8 (m k n) a c
theorem zP: ∀(L:Nat) (e:Expr),((dU L e).length:Int)<=du L e
 |0,e=>by simp[dU,du]
 |L+1,e=>by
  have h: ∀(l:List Expr),((l.flatMap (dU L)).length:Int)<=(l.map (du L)).sum:=by
   intro l;induction l with
   |nil=>simp
   |cons k l a=>
    have:=zP L k;simp only[List.flatMap_cons,List.length_append,List.map_cons,List.sum_cons];omega
  have:=h e.bm;simp only[dU,du,List.length_append];split
  ·rw[mS];omega
  rw[List.length_nil];omega
theorem ER{d:Int}: ∀(L n:Nat) (e:Expr),6000+L<=n->L<=5->dw L e d=true->qJ (n+1) e=some (dU L e)
 |0,n,e,_,_,h=>by cases h
 |L+1,n,e,C,w,h=>by
  obtain⟨F,G,s⟩:=ha h;have y:=pF e.kind;unfold qJ;refine aa.eq (aN (λc=>aa.some ?_) λm=>?_)
  ·have:e.bm=[]:=by
    have H:fj e.kind=0:=by unfold fj;rw[a1 (Or.inr (Or.inr c))]
    exact l1 O
   simp[dU,c,this]
  obtain⟨n,rfl⟩: ∃j,n=j+1:=⟨n-1,O⟩
  have o: ∀k∈e.bm,((dU L k).length:Int)<=100:=λk l=>by
   have K:=BE (s k l);have Q:(2:Int)^L<=40:=by
    match L,w with
    |0,_=>decide
    |1,_=>decide
    |2,_=>decide
    |3,_=>decide
    |4,_=>decide
   have:=zP L k;omega
  refine aa.loop (λx:List bX×Int=> ∃i:Nat,x.2=i/\i<=e.bm.length/\x.1=(e.bm.take i).flatMap (dU L)/\(x.1.length:Int)<=100*i) (λx=>e.bm.length-x.2.toNat) ?_ (n+1) _ ⟨0,rfl,O,aP,aP⟩ bN;rintro p ⟨x,k⟩ ⟨i,l,R,q,r⟩ z;dsimp only at l q r⊢;subst l;refine aN (λA=>?_) λB=>aa.some ?_
  ·have a:=bo (O:i<e.bm.length);have hm:=bE a;have aY:=o _ hm;refine ab (be a) (ab (ER (d:=d) L n _ O O (s _ hm)) (ab (cB O) ?_));rw[bb O];refine z _ ⟨i+1,Z,O,?_,by dsimp only;rw[cV];omega⟩ Z;dsimp only;rw[eg,a,mT,q];simp
  have:i=e.bm.length:=O
  rw[q,this,dz];simp[dU,m]
theorem zt(n:Nat){a:aw}(h:a.aQ.length<=1000):qu n a=some a:=by
 unfold qu;refine aa.eq (aN (λd=>aa.some ?_) λd=>ab (nn _ h) (aa.some rfl));obtain⟨cs,c⟩:=a
 have:cs=[]:=l1 (by simpa using d)
 grind
theorem yZ(q:5000<=n)(h:kp a.bx):qv n a=some a:=by
 obtain⟨r,l⟩:=h;refine aa.eq ?_;unfold qv;refine aa.loop (λx:List aw×Int=> ∃i:Nat,x.2=i/\i<=a.bx.length/\x.1=a.bx.take i) (λx=>a.bx.length-x.2.toNat) ?_ n _ ⟨0,rfl,O,aP⟩ bN;rintro d ⟨x,k⟩ ⟨i,e,s,c⟩ m;dsimp only at e c⊢;subst e;refine aN (λo=>?_) λp=>aa.some ?_
 ·have hs:=bo (O:i<a.bx.length);have w:x.length=i:=by rw[c,cE];omega
  refine ab (be hs) (ab (zt n (l _ (bE hs))) (ab (cB bN) ?_));rw[bb O];refine m _ ⟨i+1,Z,O,?_⟩ Z;dsimp only;rw[eg,hs,c];rfl
 have:i=a.bx.length:=O
 rw[c,this,dz]
theorem OB{l:List aw}(e:l.length<=2)(c: ∀a∈l,cO a=true):kp l:=⟨O,λa d=>by have:=(fF (c a d)).1;unfold jy;omega⟩
theorem Lt{d:Int}: ∀(L n:Nat) (e:Expr) (out:List bX),6000+L<=n->L<=5->dw L e d=true->(out.length:Int)<=1000+200*(6-(L:Int))->te (n+1) out e=some (out++dU L e)
 |0,n,e,out,_,_,h,_=>by cases h
 |L+1,n,e,out,W,B,h,X=>by
  obtain⟨b,f,w⟩:=ha h;have C:=pF e.kind;unfold te;refine aa.eq (aa.ay (λz=>z=out++(if e.kind=3 then [e.read] else [])) (λj y=>aN (λa=>?_) λo=>y _ (by rw[aZ o];simp)) λz A=>?_)
  ·have F:=E8 h e.read (by simp[dU,a]);obtain⟨_,G,H⟩:=mZ F;exact ab (yZ O (OB G H)) (ab (cB bN) (y _ (by rw[a1 a])))
  subst A;obtain⟨n,rfl⟩: ∃j,n=j+1:=⟨n-1,O⟩
  by_cases a:e.kind=3
  ·have c:e.bm=[]:=by
    have A:fj e.kind=0:=by unfold fj;rw[a1 (Or.inr (Or.inr a))]
    exact l1 O
   rw[c];refine aa.some ?_;simp[dU,a,c]
  have p: ∀k∈e.bm,((dU L k).length:Int)<=100:=λk m=>by
   have g:=BE (w k m);have t:(2:Int)^L<=40:=by
    match L,B with
    |0,_=>decide
    |1,_=>decide
    |2,_=>decide
    |3,_=>decide
    |4,_=>decide
   have:=zP L k;omega
  rw[aZ a,kP];refine aa.loop (λx:List bX×Int=> ∃i:Nat,x.2=i/\i<=e.bm.length/\x.1=out++(e.bm.take i).flatMap (dU L)/\(x.1.length:Int)<=out.length+100*i) (λx=>e.bm.length-x.2.toNat) ?_ (n+1) _ ⟨0,rfl,O,aP,aP⟩ bN;rintro q ⟨x,k⟩ ⟨i,m,u,r,s⟩ K;dsimp only at m r s⊢;subst m;refine aN (λQ=>?_) λR=>aa.some ?_
  ·have l:=bo (O:i<e.bm.length);have hm:=bE l;have aY:=p _ hm;refine ab (be l) (ab (Lt (d:=d) L n _ x O O (w _ hm) O) ?_);rw[bb O];refine K _ ⟨i+1,Z,O,?_,by dsimp only;rw[cV];omega⟩ Z;dsimp only;rw[eg,l,mT,r];simp
  have:i=e.bm.length:=O
  rw[r,this,dz];simp[dU,a]
theorem OL{o:List Loop}(c:Fit o): ∀(bS:List Loop) (k:Nat) (p q:List Int),o.drop k=bS->k<=o.length->hY k p->q∈ff bS p->hY o.length q
 | [],k,p,q,d,h,e,a=>by
  have:=A1 d h;simp only[ff,List.mem_singleton] at a;subst a;subst this;exact e
 |l::bS,k,p,q,d,h,e,a=>by obtain⟨i,m,x⟩:=z8 d;obtain⟨n,r⟩:=c.2 k l i;have s:=c.1;simp only[ff,List.mem_flatMap] at a;obtain⟨v,w,a⟩:=a;exact OL c bS (k+1) _ q m O (A9 n r e O (abc.1 w)) a
theorem sc{o:List Loop}{z:List (List Int)}(h:jx o=some z):Fit o/\z.length<=120/\(∀q∈z,hY o.length q)/\z=ff o []/\fq o []<=1200:=by
 unfold jx at h;split at h
 ·rename_i a;cases h;have c:=BC a.1;exact⟨c,a.2.2,λq d=>OL c o 0 [] q rfl O yG d,rfl,a.2.1⟩
 cases h
def gC(c:List cI)(s:Stmt)(q:List Int):Bool:=decide (0<=eB c s.write q 0)&&(dU 5 s.value).all λa=>decide (0<=eB c a q 0)
theorem kD(h:er s d=true):fR s.write d=true/\dw 5 s.value d=true/\(∀a∈dU 5 s.value,fR a d=true)/\(dU 5 s.value).length<=12:=by
 simp only[er,Bool.and_eq_true,decide_eq_true_eq] at h;obtain⟨_,e,c,i⟩:=h
 have:=zP 5 s.value;exact⟨e,c,E8 c,O⟩
theorem V6(F:7000<=n)(c:p.aR.length<=4)(e:kC p.aR)(r:er s d=true)(i:hY k q):CE n p s q=some (gC p.aR s q):=by
 obtain⟨w,x,y,G⟩:=kD r;obtain⟨n,rfl⟩: ∃j,n=j+1:=⟨n-1,O⟩
 refine aa.eq ?_;unfold CE;generalize m:gC p.aR s q=T;unfold gC at m;refine aa.ay (λz=>z=T) (λj o=>ab (zZ O c e w i) (aN (λh=>?_) λh=>o _ ?_)) λz A=>aa.some A
 ·have bG:=Ta (n:=n+1) (f:=λB=>xQ (n+1) B p q) (p:=λa=>decide (eB p.aR a q 0<0)) (l:=dU 5 s.value)
   (λa C=>by unfold xQ;rw[zZ O c e (y a C) i];rfl) O O
  refine ab (ER (d:=d) 5 n s.value O O x) (ab bG (o _ ?_))
  grind
 rw[<-m,bD h];rfl
theorem Kz(D:7000<=n)(F:r.length<=4)(G:kC r)(L:er s d=true)(H:hY k q):
  vI n r s q=some (if gC r s q=true then((dU 5 s.value).map λa=>eB r a q 0,eB r s.write q 0,true) else([],0,false)):=by
 obtain⟨Q,W,X,E⟩:=kD L;obtain⟨n,rfl⟩: ∃j,n=j+1:=⟨n-1,O⟩
 refine aa.eq ?_;unfold vI;refine ab (Lt (d:=d) 5 n s.value [] O O W aP) ?_;rw[rk];generalize b:dU 5 s.value=R at*;have e:gC r s q=(decide (0<=eB r s.write q 0)&&R.all λa=>decide (0<=eB r a q 0)):=by unfold gC;rw[b]
 refine aa.loop (λx:List Int×Int=> ∃i:Nat,x.2=i/\i<=R.length/\x.1=(R.take i).map (λa=>eB r a q 0)/\ ∀(t:Nat) a,t<i->R[t]? =some a->0<=eB r a q 0) (λx=>R.length-x.2.toNat) ?_ (n+1) _ ⟨0,rfl,O,aP,λt a h=>O⟩ Z;rintro w ⟨x,z⟩ ⟨i,K,I,p,y⟩ f;dsimp only at K p y⊢;subst K;refine aN (λg=>?_) λu=>?_
 ·have bI:=bo (O:i<R.length);have hm:=bE bI;refine ab (be bI) (ab (Mf O F G (X _ hm) H) (aN (λl=>aa.some ?_) λm=>?_))
  ·rw[aZ];rw[e];intro h;rw[oW] at h
   have:=fZ.1 h.2 _ hm;rw[decide_eq_true_eq] at this;omega
  have v:x.length<=12:=by rw[p,dn,cE];omega
  refine ab (cB bN) ?_;rw[bb O];refine f _ ⟨i+1,Z,O,?_,λt a A c=>?_⟩ Z
  ·dsimp only;rw[eg,bI,ho,p];rfl
  by_cases B:t=i
  ·subst B;rw[bI] at c;cases c;omega
  exact y t a O c
 have C:i=R.length:=O
 have o:R.all (λa=>decide (0<=eB r a q 0))=true:=fZ.2 (λa hm=>by
  obtain⟨t,A⟩:=lh hm
  have:=(bU.1 A).1;exact bF (y t a O A))
 rw[e,o,Bool.and_true];refine ab (Mf O F G Q H) (aN (λl=>aa.some ?_) λm=>aa.some ?_)
 ·rw[aZ (by rw[decide_eq_true_eq];omega)]
 rw[a1 (by rw[decide_eq_true_eq];omega),p,C,dz]
def kc(q:List Int):Bool:=decide (q.length<=4)&&q.all λx=>decide (-9999<=x/\x<=9999)
theorem UC(c:5000<=n)(h:q.length<=1000):zY n q=some (kc q):=by
 unfold zY kc;have bG:=Dn (n:=n) (f:=λa=>yJ n a) (p:=λx=> !decide (-9999<=x/\x<=9999)) (l:=q) (λx _=>by unfold yJ;rw[d7];rfl) O O;simp only[ay,Option.bind]
 grind
theorem UM(s:5000<=n)(h:q.length<=1000):zJ n q=some (kc q):=by
 refine aa.eq ?_;unfold zJ;refine pR (l:=q) (p:=λ_ x=>decide (-9999<=x/\x<=9999)) O O (λa i x e k m=>?_) (λa d=>?_) (λ⟨i,x,e,o⟩=>?_)
 ·have aE:=(bU.1 e).1;rw[bF (show(i:Int)<(q.length:Int) by omega)];refine b1 (ab (be e) (ab (yI n x 9999 O) ?_));cases o:decide (-9999<=x/\x<=9999) with
  |true=>show aa (a _) _;rw[bb O];exact k o
  |false=>exact aa.some (m o)
 ·rw[bD (show¬(q.length:Int)<(q.length:Int) by omega)];refine aa.some ?_;unfold kc;rw[fZ.2 (λc r=>by obtain⟨i,aE⟩:=lh r;exact d i c aE),Bool.and_true]
  grind
 unfold kc
 grind
theorem Nk{a:Type}(p q:a->Bool): ∀l:List a,(l.all p&&l.all q)=l.all (λx=>p x&&q x)
 | []=>rfl
 |x::l=>by simp only[List.all_cons,<-Nk p q l];cases p x<;>cases q x<;>cases l.all p<;>cases l.all q<;>rfl
def n'(a:Part):Bool:=decide (1<=a.body.length/\a.body.length<=4)&&a.body.all λs=>er s (a.nest.length:Int)
def jj(a:Part):List (List Int):=(jx a.nest).getD []
def ej(c:List cI)(a:Part):Bool:=(jx a.nest).isSome&&(n' a&&a.body.all λs=>(jj a).all λq=>gC c s q&&kc q)
def BA(x:Part):Prop:=p' x.nest/\x.body.length<=1000/\ ∀s∈x.body,Ah s
def ja(p:Prog):Prop:=EG p.aR/\p.parts.length<=1000/\ ∀x∈p.parts,BA x
theorem gk(h:ej r x=true):jx x.nest=some (jj x)/\(1<=x.body.length/\x.body.length<=4)/\(∀s∈x.body,er s (x.nest.length:Int)=true)/\ ∀s∈x.body,∀q∈jj x,gC r s q=true/\kc q=true:=by
 simp only[ej,n',Bool.and_eq_true,decide_eq_true_eq,List.all_eq_true] at h;refine⟨?_,h.2.1.1,h.2.1.2,h.2.2⟩;unfold jj;cases a:jx x.nest with
 |none=>rw[a] at h;simp at h
 |some c=>rfl
theorem G5{list:List cI}(h:jK list=true):list.length<=4/\kC list:=by
 simp only[jK,Bool.and_eq_true,decide_eq_true_eq] at h;refine⟨h.2,λx a=>?_⟩;obtain⟨i,c⟩:=lh a
 have:=LV h.1 c;simp only[oe,Bool.and_eq_true] at this
 grind
theorem Er(cy:7000<=n){a:List cI}(N:a.length<=4)(P:kC a)(S:BA x):
  wa n a x=some (if ej a x=true then(((jj x).length:Int)*(x.body.length:Int),true) else(0,false)):=by
 obtain⟨U,h2,V⟩:=S;refine aa.eq ?_;unfold wa;generalize D:(if ej a x=true then(((jj x).length:Int)*(x.body.length:Int),true) else((0:Int),false))=T;refine ab (S6 O U) ?_;have d:ej a x=false->((0:Int),false)=T:=λh=>by rw[<-D,h];rfl
 refine aa.ay (λz=>z= !((jx x.nest).isSome&&decide (1<=x.body.length/\x.body.length<=4))) (λj m=>?_) λz W=>?_
 ·cases o:jx x.nest with
  |none=>exact b1 (m _ (by rw[o];rfl))
  |some c=>
   refine b3 (aN (λh=>m _ ?_) λh=>m _ ?_)
   ·rw[o,bD O];rfl
   rw[o];by_cases h4:x.body.length<=4
   ·rw[bD (show¬(4:Int)<(x.body.length:Int) by omega),bF O];rfl
   rw[bF (show(4:Int)<(x.body.length:Int) by omega),bD O];rfl
 subst W;cases o:jx x.nest with
 |none=>exact aa.some (d (by unfold ej;rw[o];rfl))
 |some c=>
  obtain⟨ik,Y,X,aeT,aeU⟩:=sc o;have B:jj x=c:=by unfold jj;rw[o];rfl
  by_cases Q:1<=x.body.length/\x.body.length<=4
  ·rw[bF Q];refine b3 ?_;have p:ej a x=x.body.all (λs=>er s (x.nest.length:Int)&&c.all λq=>gC a s q&&kc q):=by
    unfold ej n';rw[o,B,bF Q,Option.isSome_some,fK,fK];exact Nk _ _ _
   refine aa.loop (λy:Int=> ∃i:Nat,y=i/\i<=x.body.length/\ ∀(t:Nat) s,t<i->x.body[t]? =some s->(er s (x.nest.length:Int)&&c.all λq=>gC a s q&&kc q)=true) (λy=>x.body.length-y.toNat) ?_ n _ ⟨0,rfl,O,λt s h=>O⟩ bN;rintro b y ⟨i,rfl,aE,E⟩ bR;refine aN (λhlt=>?_) λji=>aa.some ?_
   ·have bI:=bo (O:i<x.body.length);have hm:=bE bI;refine ab (be bI) (ab (Jy O (V _ hm) _) ?_);cases l:er x.body[i] (x.nest.length:Int) with
    |false=>
     refine b1 (aa.some (d ?_));rw[p];exact lj.2 ⟨_,hm,by rw[l];simp⟩
    |true=>
     refine b3 ?_;show aa (bd (λe (gM:Int)=>bif decide (gM<(c.length:Int)) then _ else _) n 0) _;refine aa.loop (λy:Int=> ∃k:Nat,y=k/\k<=c.length/\ ∀(t:Nat) q,t<k->c[t]? =some q->(gC a x.body[i] q&&kc q)=true) (λy=>c.length-y.toNat) ?_ n _ ⟨0,rfl,O,λt s h=>O⟩ bN;rintro e y ⟨k,rfl,hk,C⟩ f;refine aN (λI=>?_) λM=>?_
     ·have r:=bo (O:k<c.length);have F:=bE r;have G:=X _ F;have g:c[k].length<=1000:=by have:=G.1;have:=G.2.1;omega
      refine ab (be r) (ab (Kz O N P l G) (aa.ay (λz=>z= !(gC a x.body[i] c[k]&&kc c[k])) (λj m=>?_) λz W=>?_))
      ·cases H:gC a x.body[i] c[k] with
       |false=>
        rw[H] at m;exact b1 (m _ rfl)
       |true=>
        rw[H] at m;exact b3 (ab (UM O g) (m _ rfl))
      subst W;cases H:(gC a x.body[i] c[k]&&kc c[k]) with
      |false=>
       refine aa.some (d ?_);rw[p];refine lj.2 ⟨_,hm,?_⟩;rw[l,fK];rw[lj.2 ⟨_,F,by rw[H];simp⟩];simp
      |true=>
       show aa (e _) _;rw[bb O];refine f _ ⟨k+1,O,O,λt q R w=>?_⟩ O;by_cases u:t=k
       ·subst u;rw[r] at w;cases w;exact H
       exact C t q O w
     rw[bb O];refine bR _ ⟨i+1,O,O,λt s R A=>?_⟩ O;by_cases v:t=i
     ·subst v;rw[bI] at A;cases A;rw[l,fK];refine fZ.2 λq G=>?_;obtain⟨lZ,K⟩:=lh G
      have:=(bU.1 K).1;exact C lZ q O K
     exact E t s O A
   have L:ej a x=true:=by
    rw[p];refine fZ.2 λs hs=>?_;obtain⟨t,R⟩:=lh hs
    have:=(bU.1 R).1;exact E t s O R
   rw[<-D,L,a1 rfl,B];show(wr ((c.length:Int)*(x.body.length:Int)),true)=_;have ky:(0:Int)<=(c.length:Int)*(x.body.length:Int):=oQ O O;have B7:(c.length:Int)*(x.body.length:Int)<=120*4:=rl O O O O;rw[bb O]
  rw[bD Q];refine aa.some (d ?_);unfold ej n';rw[bD Q];simp
def fs(x:Part):Int:=((jj x).length:Int)*(x.body.length:Int)
def ow(i:Nat)(x:Part):List cb:=(jj x).flatMap λq=>(List.range x.body.length).map fun(k:Nat)=>(⟨(i:Int),(k:Int),q⟩:cb)
def bn(a:List Part):List cb:=a.zipIdx.flatMap λy=>ow y.2 y.1
def jq(p:Prog):Bool:=jK p.aR&&(decide (p.parts.length<=4)&&p.parts.all (ej p.aR))
def bT(p:Prog):Bool:=jq p&&decide ((p.parts.map fs).sum<=120)
theorem afG(l:List Part)(x:Part):bn (l++[x])=bn l++ow l.length x:=by
 unfold bn
 grind
theorem IK{l:List Part}(h:l[i]? =some x):bn (l.take (i+1))=bn (l.take i)++ow i x:=by have aE:=(bU.1 h).1;rw[eg,h];show bn (l.take i++[x])=_;rw[afG,cE,tr (Nat.le_of_lt aE)]
theorem AZ{a R:Type}(f:a->List R)(m:Nat)(h: ∀x,(f x).length=m): ∀l:List a,(l.flatMap f).length=l.length*m
 | []=>aP
 |x::l=>by rw[y5,cV,h,AZ f m h l,ri,dG];omega
theorem IJ(i:Nat)(x:Part):((ow i x).length:Int)=fs x:=by
 unfold ow fs;rw[AZ _ x.body.length λq=>aP]
 grind
theorem M'{l:List Part}(h:l[i]? =some x):((l.take (i+1)).map fs).sum=((l.take i).map fs).sum+fs x:=by rw[eg,h];simp
theorem QK: ∀(l:List Part) (i:Nat),i<=l.length->((bn (l.take i)).length:Int)=((l.take i).map fs).sum
 |l,0,_=>by simp[bn]
 |l,i+1,h=>by
  have bI:=bo (O:i<l.length);rw[IK bI,cV,M' bI]
  have:=QK l i O
  have:=IJ i l[i];omega
theorem Ck(l:List Part):((bn l).length:Int)=(l.map fs).sum:=by
 have:=QK l l.length (cJ _)
 grind
theorem zi(h:ej r x=true):0<=fs x/\fs x<=480:=by
 obtain⟨a,c,_⟩:=gk h;obtain⟨_,d,_⟩:=sc a;unfold fs;refine⟨oQ O O,?_⟩
 have:=rl (show((jj x).length:Int)<=120 by omega) (show(x.body.length:Int)<=4 by omega) O O;omega
theorem jB(u:7000<=n)(H:ja p):jc n p=some (bT p):=by
 obtain⟨K,v,L⟩:=H;refine aa.eq ?_;unfold jc;generalize q:bT p=T;unfold bT jq at q;refine aa.ay (λz=>z= !(jK p.aR&&decide (p.parts.length<=4))) (λj C=>ab (TL O K) ?_) λz m=>?_
 ·cases e:jK p.aR with
  |false=>exact b1 (C _ (by rw[e];rfl))
  |true=>
   refine b3 (C _ ?_);rw[e];by_cases F:p.parts.length<=4
   ·rw[bD (show¬(4:Int)<(p.parts.length:Int) by omega),bF F];rfl
   rw[bF (show(4:Int)<(p.parts.length:Int) by omega),bD F];rfl
 subst m;cases o:(jK p.aR&&decide (p.parts.length<=4)) with
 |false=>
  refine aa.some ?_;rw[<-q,<-l3,o];rfl
 |true=>
  have k:T=(p.parts.all (ej p.aR)&&decide ((p.parts.map fs).sum<=120)):=by rw[<-q,<-l3,o];rfl
  rw[oW,decide_eq_true_eq] at o;obtain⟨Q,R⟩:=G5 o.1;refine b3 ?_;refine aa.loop (λx:Int×Int=> ∃i:Nat,x.2=i/\i<=p.parts.length/\x.1=((p.parts.take i).map fs).sum/\0<=x.1/\x.1<=480*i/\ ∀(t:Nat) y,t<i->p.parts[t]? =some y->ej p.aR y=true) (λx=>p.parts.length-x.2.toNat) ?_ n _ ⟨0,rfl,O,aP,aP,aP,λt y h=>O⟩ Z;rintro a ⟨x,z⟩ ⟨i,m,D,G,r,s,e⟩ W;dsimp only at m G r s e⊢;subst m;refine aN (λX=>?_) λb=>aa.some ?_
  ·have bI:=bo (O:i<p.parts.length);have hm:=bE bI;refine ab (be bI) (ab (Er O Q R (L _ hm)) ?_);cases c:ej p.aR p.parts[i] with
   |false=>
    rw[aZ aP];refine aa.some ?_;rw[k,lj.2 ⟨_,hm,by rw[c];simp⟩];rfl
   |true=>
    rw[a1 rfl];have f:=zi c;show aa (a (wr (x+fs p.parts[i]),wr ((i:Int)+1))) _;rw[bb (n:=x+fs p.parts[i]) O,bb O];refine W _ ⟨i+1,Z,O,by dsimp only;rw[M' bI];omega,Z,Z,λt y w d=>?_⟩ Z;by_cases A:t=i
    ·subst A;rw[bI] at d;cases d;exact c
    exact e t y O d
  have B:i=p.parts.length:=O
  have l:p.parts.all (ej p.aR)=true:=fZ.2 (λy g=>by
   obtain⟨t,w⟩:=lh g
   have:=(bU.1 w).1;exact e t y O w)
  rw[k,l,fK,G,B,dz]
theorem J7{a:Type}(f:Nat->a)(k:Nat):(List.range (k+1)).map f=(List.range k).map f++[f k]:=by rw[nO,ho];rfl
theorem J8(cy:7000<=n)(hp:ja p):uG n p=some (if jq p=true then(bn p.parts,decide ((bn p.parts).length<=120)) else([],false)):=by
 obtain⟨h1,h2,h3⟩:=hp;refine aa.eq ?_;unfold uG;generalize kx:(if jq p=true then(bn p.parts,decide ((bn p.parts).length<=120)) else([],false))=T;have a:jq p=false->(([]:List cb),false)=T:=λh=>by rw[<-kx,h];rfl
 refine aa.ay (λz=>z= !(jK p.aR&&decide (p.parts.length<=4))) (λj E=>ab (TZ O h1) ?_) λz d=>?_
 ·cases I:jK p.aR with
  |false=>exact b1 (E _ (by rw[I];rfl))
  |true=>
   refine b3 (E _ ?_);rw[I];by_cases h4:p.parts.length<=4
   ·rw[bD (show¬(4:Int)<(p.parts.length:Int) by omega),bF h4];rfl
   rw[bF (show(4:Int)<(p.parts.length:Int) by omega),bD h4];rfl
 subst d;cases aY:(jK p.aR&&decide (p.parts.length<=4)) with
 |false=>exact aa.some (a (by unfold jq;rw[<-l3,aY];rfl))
 |true=>
  have o:jq p=p.parts.all (ej p.aR):=by unfold jq;rw[<-l3,aY];rfl
  rw[oW,decide_eq_true_eq] at aY;obtain⟨b8,cu⟩:=G5 aY.1;refine b3 ?_;refine aa.loop (λx:List cb×Int=> ∃i:Nat,x.2=i/\i<=p.parts.length/\x.1=bn (p.parts.take i)/\x.1.length<=480*i/\ ∀(t:Nat) y,t<i->p.parts[t]? =some y->ej p.aR y=true) (λx=>p.parts.length-x.2.toNat) ?_ n _ ⟨0,rfl,O,by simp[bn],aP,λt y h=>O⟩ Z;rintro again ⟨x,z⟩ ⟨i,d,aE,hx,afh,I⟩ bR;dsimp only at d hx afh I⊢;subst d;refine aN (λhlt=>?_) λji=>aa.some ?_
  ·have bI:=bo (O:i<p.parts.length);have hm:=bE bI;obtain⟨s1,s2,aiy⟩:=h3 _ hm;generalize xR:p.parts[i]=P at*;have w:ej p.aR P=false->jq p=false:=λh=>by rw[o];exact lj.2 ⟨_,hm,by rw[h];simp⟩
   refine ab (be bI) (ab (S9 O s1) (aa.ay (λz=>z= !((jx P.nest).isSome&&n' P)) (λj E=>?_) λz d=>?_))
   ·cases B:jx P.nest with
    |none=>exact b1 (E _ (by rw[B];rfl))
    |some c=>
     refine b3 ?_;have hw:e9 n (P.body.length:Int) 1 4=some (decide (1<=P.body.length/\P.body.length<=4)):=by
      rw[d7];congr 1;exact decide_eq_decide.2 O
     refine ab hw ?_;have bG:=T5 (n:=n) (f:=λoH=>xM n oH P) (p:=λs=> !er s (P.nest.length:Int)) (l:=P.body) (λs M=>by unfold xM;rw[Tw O (aiy s M)];rfl) O O;have e:(P.body.any λs=> !er s (P.nest.length:Int))= !(P.body.all λs=>er s (P.nest.length:Int)):=by rw[List.all_eq_not_any_not];simp
     cases N:decide (1<=P.body.length/\P.body.length<=4) with
     |false=>exact b1 (E _ (by unfold n';rw[B,N];rfl))
     |true=>exact b3 (ab bG (E _ (by unfold n';rw[B,N,e];rfl)))
   subst d;cases B:jx P.nest with
   |none=>exact aa.some (a (w (by unfold ej;rw[B];rfl)))
   |some c=>
    obtain⟨ik,ahK,aeS,aeT,aeU⟩:=sc B;have S:jj P=c:=by unfold jj;rw[B];rfl
    cases H:n' P with
    |false=>exact aa.some (a (w (by unfold ej;rw[H];simp)))
    |true=>
     have C:=H;simp only[n',Bool.and_eq_true,decide_eq_true_eq,List.all_eq_true] at C;obtain⟨⟨ky,B7⟩,xU⟩:=C;have K:ej p.aR P=P.body.all (λs=>c.all λq=>gC p.aR s q&&kc q):=by
      unfold ej;rw[B,H,S];rfl
     let row:List Int->List cb:=λq=>(List.range P.body.length).map fun(k:Nat)=>(⟨(i:Int),(k:Int),q⟩:cb)
     have hrl: ∀q,(row q).length=P.body.length:=λq=>by simp[row]
     have r:ow i P=c.flatMap row:=by unfold ow;rw[S]
     refine b3 ?_;rw[show(r8 (some c)).1=c from rfl];refine aa.loop (λy:List cb×Int=> ∃k:Nat,y.2=k/\k<=c.length/\y.1=x++(c.take k).flatMap row/\ ∀(t:Nat) q,t<k->c[t]? =some q->kc q=true/\ ∀s∈P.body,gC p.aR s q=true) (λy=>c.length-y.2.toNat) ?_ n _ ⟨0,rfl,O,aP,λt q h=>O⟩ Z;rintro U ⟨y,z⟩ ⟨k,d,hk,L,R⟩ V;dsimp only at d L R⊢;subst d;refine aN (λhlt2=>?_) λahB=>?_
     ·have A:=bo (O:k<c.length);have W:=bE A;generalize H0:c[k]=Q at*;have Y:=aeS _ W;have aeW:Q.length<=4:=by have:=Y.1;have:=Y.2.1;omega
      refine ab (be A) (ab (UC O O) ?_);have afj:y.length<=480*4+480:=by
       rw[L,cV,AZ row _ hrl,cE]
       have:min k c.length*P.body.length<=120*4:=nP O B7;omega
      cases Qy:kc Q with
      |false=>
       refine b1 (aa.some (a (w ?_)));rw[K];obtain⟨Jm,ae2⟩: ∃Jm,Jm∈P.body:=List.exists_mem_of_length_pos O;refine lj.2 ⟨Jm,ae2,?_⟩;rw[lj.2 ⟨Q,W,by rw[Qy];simp⟩];simp
      |true=>
       refine b3 ?_;refine aa.loop (λu:List cb×Int=> ∃m:Nat,u.2=m/\m<=P.body.length/\u.1=y++(List.range m).map (fun(k:Nat)=>(⟨(i:Int),(k:Int),Q⟩:cb))/\ ∀(t:Nat) s,t<m->P.body[t]? =some s->gC p.aR s Q=true) (λu=>P.body.length-u.2.toNat) ?_ n _ ⟨0,rfl,O,aP,λt s h=>O⟩ Z;rintro ahh ⟨u,z⟩ ⟨m,d,mv,hu,X⟩ aeY;dsimp only at d hu X⊢;subst d;refine aN (λahH=>?_) λahC=>?_
       ·have b:=bo (O:m<P.body.length);have F:=bE b;refine ab (be b) (ab (V6 O b8 cu (xU _ F) Y) ?_);cases Qf:gC p.aR P.body[m] Q with
        |false=>
         refine b1 (aa.some (a (w ?_)));rw[K];refine lj.2 ⟨_,F,?_⟩;rw[lj.2 ⟨Q,W,by rw[Qf];simp⟩];simp
        |true=>
         have hcl:jL Q=some Q:=by unfold jL;rw[a1 O]
         have pt:u.length<=480*4+480+4:=by rw[hu];simp;omega
         refine b3 (ab hcl (ab (cB bN) ?_));rw[bb O];refine aeY _ ⟨m+1,Z,O,?_,λt s G g=>?_⟩ Z
         ·dsimp only;rw[hu,J7,fy]
         by_cases ae':t=m
         ·subst ae';rw[b] at g;cases g;exact Qf
         exact X t s O g
       have aeE:m=P.body.length:=O
       rw[bb O];refine V _ ⟨k+1,Z,O,?_,λt q G v=>?_⟩ Z
       ·dsimp only;rw[eg,A,mT,<-fy,<-L,hu,aeE];simp[row]
       by_cases ae9:t=k
       ·subst ae9;rw[A] at v;cases v;refine⟨Qy,λs M=>?_⟩;obtain⟨lZ,QC⟩:=lh M
        have:=(bU.1 QC).1;exact X lZ s O QC
       exact R t q O v
     have Ql:k=c.length:=O
     have Qx:ej p.aR P=true:=by
      rw[K];refine fZ.2 λs M=>fZ.2 λq Y=>?_;obtain⟨t,G⟩:=lh Y
      have:=(bU.1 G).1;obtain⟨g1,g2⟩:=R t q O G;rw[g1,g2 s M];rfl
     have B8:=zi Qx;have Cc:=IJ i P;rw[bb O];refine bR _ ⟨i+1,Z,O,?_,?_,λt y G D=>?_⟩ Z
     ·dsimp only;rw[IK bI,r,L,Ql,dz,hx]
     ·dsimp only;rw[L,Ql,dz,cV,<-r];omega
     by_cases ae8:t=i
     ·subst ae8;rw[bI] at D;cases D;exact Qx
     exact I t y O D
  have aeo:i=p.parts.length:=O
  have hall:jq p=true:=by
   rw[o];exact fZ.2 (λy L=>by
    obtain⟨t,G⟩:=lh L
    have:=(bU.1 G).1;exact I t y O G)
  rw[<-kx,a1 hall,hx,aeo,dz];congr 1;exact decide_eq_decide.2 O
theorem sf(a:7000<=n)(c:ja p):qw n p=some (bT p):=by
 unfold qw;rw[J8 a c];unfold bT;cases h:jq p with
 |false=>rfl
 |true=>
  rw[a1 rfl];show some (decide _)=_;rw[fK];congr 1
  have:=Ck p.parts;exact decide_eq_decide.2 O
theorem ei(h:bT p=true):p.aR.length<=4/\kC p.aR/\p.parts.length<=4/\(∀x∈p.parts,ej p.aR x=true)/\(bn p.parts).length<=120:=by
 simp only[bT,jq,Bool.and_eq_true,decide_eq_true_eq,List.all_eq_true] at h;obtain⟨⟨c,d,e⟩,i⟩:=h;obtain⟨a,b⟩:=G5 c
 have:=Ck p.parts
 grind
theorem u3(cy:7000<=n)(U:bT p=true):pd n p=some (bn p.parts):=by
 obtain⟨b8,cu,h4,F,V⟩:=ei U;refine aa.eq ?_;unfold pd;refine aa.loop (λx:List cb×Int=> ∃i:Nat,x.2=i/\i<=p.parts.length/\x.1=bn (p.parts.take i)/\x.1.length<=480*i) (λx=>p.parts.length-x.2.toNat) ?_ n _ ⟨0,rfl,O,by simp[bn],aP⟩ Z;rintro G ⟨x,z⟩ ⟨i,c,aE,H,K⟩ Y;dsimp only at c H K⊢;subst c;refine aN (λhlt=>?_) λji=>aa.some ?_
 ·have bI:=bo (O:i<p.parts.length);have hm:=bE bI;have e:=F _ hm;generalize xR:p.parts[i]=P at*;obtain⟨lb,q2,qZ,Q2⟩:=gk e;obtain⟨v,L,R,h,W⟩:=sc lb;generalize X:jj P=D at*;have B8:=zi e;have E:=IJ i P;let row:List Int->List cb:=λq=>(List.range P.body.length).map fun(k:Nat)=>(⟨(i:Int),(k:Int),q⟩:cb)
  have b: ∀q,(row q).length=P.body.length:=λq=>by simp[row]
  have a:ow i P=D.flatMap row:=by unfold ow;rw[X]
  refine ab (be bI) (cr (Eo v P.nest n 0 [] [] (by have:=v.1;omega) rfl O yG W aP) λr ⟨tb,vA⟩=>?_);have f:r=D:=by rw[tb (by rw[<-h];simpa using L),h];rfl
  subst f;refine aa.loop (λy:List cb×Int=> ∃k:Nat,y.2=k/\k<=r.length/\y.1=x++(r.take k).flatMap row) (λy=>r.length-y.2.toNat) ?_ n _ ⟨0,rfl,O,aP⟩ Z;rintro l ⟨y,z⟩ ⟨k,c,hk,o⟩ s;dsimp only at c o⊢;subst c;refine aN (λI=>?_) λM=>?_
  ·have d:=bo (O:k<r.length);have g:=bE d;generalize H0:r[k]=Q at*;have N:=R _ g;have aeW:Q.length<=4:=by have:=N.1;have:=N.2.1;omega
   have afj:y.length<=480*4+480:=by
    rw[o,cV,AZ row _ b,cE]
    have:min k r.length*P.body.length<=120*4:=nP O q2.2;omega
   refine aa.loop (λu:List cb×Int=> ∃m:Nat,u.2=m/\m<=P.body.length/\u.1=y++(List.range m).map (fun(k:Nat)=>(⟨(i:Int),(k:Int),Q⟩:cb))) (λu=>P.body.length-u.2.toNat) ?_ n _ ⟨0,rfl,O,aP⟩ Z;rintro w ⟨u,z⟩ ⟨m,c,mv,C⟩ A;dsimp only at c C⊢;subst c;refine aN (λS=>?_) λT=>?_
   ·have pt:u.length<=480*4+480+4:=by rw[C];simp;omega
    refine ab (be d) (ab (nn _ O) (ab (cB bN) ?_));rw[bb O];refine A _ ⟨m+1,Z,O,?_⟩ Z;dsimp only;rw[C,J7,fy]
   have j:m=P.body.length:=O
   rw[bb O];refine s _ ⟨k+1,Z,O,?_⟩ Z;dsimp only;rw[eg,d,mT,<-fy,<-o,C,j];simp[row]
  have B:k=r.length:=O
  rw[bb O];refine Y _ ⟨i+1,Z,O,?_,?_⟩ Z
  ·dsimp only;rw[IK bI,a,o,B,dz,H]
  dsimp only;rw[o,B,dz,cV,<-a];omega
 have t:i=p.parts.length:=O
 rw[H,t,dz]
theorem Wj{l:List cI}{x:cI}(h:l[i]? =some x):gH (l.take (i+1))=gH (l.take i)+gY x.b2:=by unfold gH;rw[List.take_add_one,h];simp
theorem Lr(s:7000<=n)(w:p.aR.length<=4)(k:kC p.aR):zH n p=some (gH p.aR):=by
 refine aa.eq ?_;unfold zH;refine aa.loop (λx:Int×Int=> ∃i:Nat,x.2=i/\i<=p.aR.length/\x.1=gH (p.aR.take i)/\0<=x.1/\x.1<=36*i) (λx=>p.aR.length-x.2.toNat) ?_ n _ ⟨0,rfl,O,by simp[gH],aP,aP⟩ Z;rintro c ⟨x,z⟩ ⟨i,h,y,l,d,e⟩ m;dsimp only at h l d e⊢;subst h;refine aN (λo=>?_) λq=>aa.some ?_
 ·have bI:=bo (O:i<p.aR.length);have a:=k _ (bE bI);have k3:=rW a;refine ab (be bI) (ab (Ep O a) ?_);rw[bb (n:=x+gY p.aR[i].b2) O,bb O];exact m _ ⟨i+1,Z,O,by dsimp only;rw[Wj bI];omega,Z,Z⟩ Z
 have r:i=p.aR.length:=O
 grind
theorem LX(a:7000<=n)(c:p.aR.length<=4)(d:kC p.aR):CJ n p=some (gH p.aR):=Lr a c d
def jW:Nat->List cI->List Int->Expr->List Int->Int
 |0,_,_,_,_=>0
 |L+1,c,m,e,q=>
  if e.kind=1 then e.num
  else if e.kind=2 then fQ e.index q%1000
  else if e.kind=3 then m.getD (eB c e.read q 0).toNat 0
  else match e.bm with
   | [a,b]=>if e.kind=4 then(jW L c m a q+jW L c m b q)%1000 else if e.kind=5 then(jW L c m a q-jW L c m b q)%1000 else(jW L c m a q*jW L c m b q)%1000
   |_=>0
def r5(a:List cI)(m:List Int):Prop:=(m.length:Int)=gH a/\ ∀x∈m,0<=x/\x<=999
theorem abQ(h:r5 r m)(i:Nat):0<=m.getD i 0/\m.getD i 0<=999:=by
 rw[eL];cases a:m[i]? with
 |none=>simp
 |some x=>exact h.2 x (bE a)
theorem abr(c:r5 r m): ∀{L:Nat} {e:Expr},dw L e d=true->0<=jW L r m e q/\jW L r m e q<=999
 |0,e,h=>by cases h
 |L+1,e,h=>by
  obtain⟨i,a,k⟩:=ha h;simp only[jW];split
  ·rename_i eI;unfold ek at a;rw[aZ O,aZ O,a1 eI] at a;simp only[Bool.and_eq_true,decide_eq_true_eq] at a;omega
  split
  ·omega
  split
  ·exact abQ c _
  split
  ·split
   ·omega
   split<;>omega
  omega
def gn(p:Prog)(x:cb):Prop:= ∃(i k:Nat) (P:Part) (s:Stmt),x.part=i/\x.stmt=k/\p.parts[i]? =some P/\P.body[k]? =some s/\x.cK∈jj P
def tT(p:Prog)(x:cb):Option Stmt:=(p.parts[x.part.toNat]?).bind λP=>P.body[x.stmt.toNat]?
def jw(p:Prog)(m:List Int)(x:cb):List Int:=match tT p x with
 |some s=>m.set (eB p.aR s.write x.cK 0).toNat (jW 5 p.aR m s.value x.cK)
 |none=>m
theorem u2(o:bT p=true){x:cb}(q:gn p x): ∃(i k:Nat) (P:Part) (s:Stmt) (d:Int),x.part=i/\x.stmt=k/\p.parts[i]? =some P/\P.body[k]? =some s/\tT p x=some s/\er s d=true/\hY P.nest.length x.cK/\gC p.aR s x.cK=true:=by obtain⟨F,G,H,a,r⟩:=ei o;obtain⟨i,k,P,s,l,m,c,e,n⟩:=q;obtain⟨w,K,y,z⟩:=gk (a P (bE c));obtain⟨L,A,h,B,C⟩:=sc w;have hs:=bE e;exact⟨i,k,P,s,_,l,m,c,e,by unfold tT;rw[l,m,m7,c];exact(by rw[m7];exact e),y s hs,h _ n,(z s hs _ n).1⟩
theorem Gy(h:gC r s q=true):0<=eB r s.write q 0/\ ∀a∈dU 5 s.value,0<=eB r a q 0:=by simp only[gC,Bool.and_eq_true,decide_eq_true_eq,List.all_eq_true] at h;exact h
theorem FP{a:Type}{l:List a}(d:0<=c)(h:c.toNat<l.length)(x:a):b6 l c x=some (l.set c.toNat x):=by unfold b6;rw[a1 ⟨d,O⟩]
theorem xo{a:Type}{l:List a}(d:0<=c)(h:c.toNat<l.length):ar l c=some l[c.toNat]:=by unfold ar;rw[a1 d,List.getElem?_eq_getElem h]
theorem N2(e:bT p=true)(a:r5 p.aR m){x:cb}(l:gn p x):r5 p.aR (jw p m x):=by
 obtain⟨i,k,P,s,d,q,r,w,y,n,o,z,A⟩:=u2 e l;unfold jw;rw[n];refine⟨by rw[eR];exact a.1,λv c=>?_⟩;rcases vU c with h|h
 ·exact a.2 v h
 rw[h];exact abr a (kD o).2.1
theorem hd{l:List Part}{x:cb}(h:x∈bn l): ∃(i k:Nat) (P:Part) (s:Stmt),x.part=i/\x.stmt=k/\l[i]? =some P/\P.body[k]? =some s/\x.cK∈jj P:=by unfold bn at h;rw[tq] at h;obtain⟨⟨P,i⟩,d,a⟩:=h;unfold ow at a;rw[tq] at a;obtain⟨q,e,c⟩:=a;rw[ey] at c;obtain⟨k,m,rfl⟩:=c;have n:=pU.1 m;exact⟨i,k,P,P.body[k],rfl,rfl,Dv.1 d,bo n,e⟩
def mL(p:Prog)(m:List Int)(l:List cb):List Int:=l.foldl (jw p) m
end
def dq(B:Nat)(a:aw):Prop:=a.aQ.length<=B
def eQ(B:Nat)(l:List aw):Prop:=l.length<=B/\ ∀a∈l,dq B a
def kR(B:Nat)(a:List Loop):Prop:=a.length<=B/\ ∀l∈a,eQ B l.lo/\eQ B l.aE
def iG(B:Nat):Nat->Expr->Prop
 |0,_=>False
 |L+1,e=>e.bm.length<=B/\dq B e.index/\eQ B e.read.bx/\ ∀k∈e.bm,iG B L k
def iX(B:Nat)(s:Stmt):Prop:=eQ B s.write.bx/\iG B 5 s.value
def fB(B:Nat)(x:Part):Prop:=kR B x.nest/\x.body.length<=B/\ ∀s∈x.body,iX B s
def rE(B:Nat)(l:List cI):Prop:=l.length<=B/\ ∀x∈l,x.b2.length<=B
def db(B:Nat)(p:Prog):Prop:=rE B p.aR/\p.parts.length<=B/\ ∀x∈p.parts,fB B x
variable {B C n:Nat}{a b:aw}{s:Stmt}{p:Prog}{k d:Int}{r:cH}{R:Type}{Q:R->Prop}
theorem dq.mono(h:B<=C)(c:dq B a):dq C a:=f' c h
theorem eQ.mono(h:B<=C){l:List aw}(c:eQ B l):eQ C l:=⟨f' c.1 h,λa d=>(c.2 a d).mono h⟩
theorem kR.mono(h:B<=C){l:List Loop}(c:kR B l):kR C l:=⟨f' c.1 h,λa d=>⟨(c.2 a d).1.mono h,(c.2 a d).2.mono h⟩⟩
theorem iG.mono{B C:Nat}(h:B<=C): ∀{L M:Nat} {e:Expr},L<=M->iG B L e->iG C M e
 |0,_,_,_,a=>a.elim
 |L+1,0,_,c,_=>O
 |L+1,M+1,e,c,a=>⟨f' a.1 h,a.2.1.mono h,a.2.2.1.mono h,λk d=>iG.mono h O (a.2.2.2 k d)⟩
theorem iX.mono(h:B<=C)(a:iX B s):iX C s:=⟨a.1.mono h,a.2.mono h (cJ _)⟩
theorem fB.mono(h:B<=C){s:Part}(a:fB B s):fB C s:=⟨a.1.mono h,f' a.2.1 h,λs c=>(a.2.2 s c).mono h⟩
theorem rE.mono(h:B<=C){s:List cI}(a:rE B s):rE C s:=⟨f' a.1 h,λs c=>f' (a.2 s c) h⟩
theorem db.mono(h:B<=C)(a:db B p):db C p:=⟨a.1.mono h,f' a.2.1 h,λs c=>(a.2.2 s c).mono h⟩
theorem eQ.sm{l:List aw}(h:eQ 1000 l):kp l:=⟨h.1,h.2⟩
theorem iG.sm: ∀{L:Nat} (j:Nat) {e:Expr},iG 1000 L e->wR j e
 |_,0,_,_=>trivial
 |0,_+1,_,h=>h.elim
 |L+1,j+1,e,h=>⟨h.1,h.2.1,h.2.2.1.sm,λk a=>iG.sm j (h.2.2.2 k a)⟩
theorem iX.sm(h:iX 1000 s):Ah s:=⟨h.1.sm,h.2.sm 5⟩
theorem kR.sm{l:List Loop}(h:kR 1000 l):p' l:=⟨h.1,λx a=>⟨(h.2 x a).1.sm,(h.2 x a).2.sm⟩⟩
theorem fB.sm{x:Part}(h:fB 1000 x):BA x:=⟨h.1.sm,h.2.1,λs a=>(h.2.2 s a).sm⟩
theorem db.sm(h:db 1000 p):ja p:=⟨⟨h.1.1,h.1.2⟩,h.2.1,λx a=>(h.2.2 x a).sm⟩
theorem kE(n:Nat){m:Int}(a:cX k r)(c:k<=1000000000):aa (hG n r m) (λx=>0<=x.1/\(1<=m->x.1<m)/\cX (k+1) x.2):=N6 a c
theorem iQ(n:Nat){l:List Int}(a:cX k r)(c:k<=1000000000)(d:l≠[]):aa (gg n r l) (λx=>x.1∈l/\cX (k+1) x.2):=OM a c d
theorem BX(n:Nat){l:List (List UInt8)}(c:cX k r)(d:k<=1000000000)(e:l≠[]):aa (pz n r l) (λx=>x.1∈l/\cX (k+1) x.2):=by
 unfold pz;have p:1<=l.length:=by cases l;exact bz rfl e;simp
 refine cr (kE n c d) λx ⟨h,i,m⟩=>?_;obtain⟨y,o,a⟩:=gu h (i O);exact ab o (aa.some ⟨bE a,m⟩)
def ma(a:aw):Prop:=a.aQ.length=4
theorem d4(n:Nat)(c:Int):gj n c=some ⟨[0,0,0,0],c⟩:=rfl
theorem w7(n:Nat){v:Int}(h:0<=v/\v<=3):aa (lS n v) ma:=by
 unfold lS;refine ab (x:=⟨[0,0,0,0],0⟩) rfl ?_;obtain⟨y,a,_⟩:=gu (l:=[(0:Int),0,0,0]) (i:=v) h.1 bN;refine ab a ?_;have c:b6 [(0:Int),0,0,0] v 1=some ([(0:Int),0,0,0].set v.toNat 1):=by unfold b6;rw[a1 ⟨h.1,bN⟩]
 exact ab c (aa.some (by unfold ma;rw[eR];rfl))
theorem LH(p:5000<=n)(e:ma a)(h:ma b)(x y:Int):aa (ic n a x b y) ma:=by unfold ma at e h;unfold ic;refine aa.loop (λz:List Int×Int=> ∃i:Nat,z.2=i/\i<=4/\z.1.length=i) (λz=>4-z.2.toNat) ?_ n _ ⟨0,rfl,O,rfl⟩ Z;rintro c ⟨z,w⟩ ⟨i,d,q,k⟩ l;dsimp only at d k⊢;subst d;refine aN (λm=>?_) λo=>aa.some (by unfold ma;dsimp only;omega);refine ab (be (bo (O:i<a.aQ.length))) (ab (be (bo (O:i<b.aQ.length))) (ab (cB bN) ?_));rw[bb (n:=(i:Int)+1) O];exact l _ ⟨i+1,Z,O,by dsimp only;simp;omega⟩ Z
theorem ma.PL(h:ma a):dq 10 a:=by unfold ma at h;unfold dq;omega
theorem pb(h:dq 10 a):eQ 10 [a]:=⟨aP,λx c=>by simp at c;subst c;exact h⟩
theorem Pz(h:dq 10 a)(k:dq 10 b):eQ 10 [a,b]:=⟨aP,λx c=>by simp at c;rcases c with rfl|rfl;exact h;exact k⟩
theorem aaQ(W:5000<=n)(X:cX k r)(V:0<=k/\k<=100000000)(Y:0<=d/\d<=3):aa (Aq n r d) (λx=>(eQ 10 x.1.lo/\eQ 10 x.1.aE)/\cX (k+10) x.2):=by
 unfold Aq;refine cr (iQ n X O aP) λe5 ⟨_,b⟩=>ab (d4 _ _) (cr (iQ n b O aP) λhA ⟨_,L⟩=>ab (d4 _ _) ?_);refine aa.ay (λz:List UInt8×Int×List Int×Int×List Int×Int=>cX (k+5) ⟨z.1,z.2.1⟩/\z.2.2.1.length=4/\z.2.2.2.2.1.length=4) (λj i=>?_) λz l=>?_
 ·refine aa.ay (λz:List UInt8×Int×Bool=>cX (k+3) ⟨z.1,z.2.1⟩/\(z.2.2=true->0<d)) (λqP p=>aN (λh=>?_) λh=>p _ ⟨L.mono O,λh=>by cases h⟩) λz l=>?_
  ·exact cr (kE n L O) λfA ⟨_,_,f⟩=>p _ ⟨f.mono O,λ_=>h⟩
  obtain⟨g,t,w⟩:=z;obtain⟨a,e⟩:=l;dsimp only at a e⊢;cases w with
  |false=>exact i _ ⟨a.mono O,rfl,rfl⟩
  |true=>
   have u:=e rfl;refine cr (kE n a O) λq ⟨v,D,y⟩=>cr (kE n y O) λE ⟨_,_,s⟩=>?_;have Q:0<=q.1/\q.1<=3:=⟨v,by have:=D O;omega⟩
   refine aN (λ_=>cr (w7 n Q) λI A=>i _ ⟨s.mono O,A,rfl⟩) λ_=>cr (w7 n Q) λM B=>ab (d4 _ _) (cr (LH W B (show ma ⟨[0,0,0,0],1⟩ from rfl) 1 1) λN C=>i _ ⟨s.mono O,rfl,C⟩)
 obtain⟨g,t,w,P,S,T⟩:=z;obtain⟨a,e,F⟩:=l;dsimp only at a e F⊢;have G:dq 10 ⟨w,P⟩:=by unfold dq;dsimp only;omega
 have H:dq 10 ⟨S,T⟩:=by unfold dq;dsimp only;omega
 have R: ∀c:Int,dq 10 ⟨[0,0,0,0],c⟩:=λc=>by unfold dq;simp
 refine aa.ay (λz:List UInt8×Int×List aw×List aw=>cX (k+10) ⟨z.1,z.2.1⟩/\eQ 10 z.2.2.1/\eQ 10 z.2.2.2) (λj i=>?_) λz l=>aa.some ⟨⟨l.2.1,l.2.2⟩,l.1⟩;refine cr (kE n a O) λU ⟨_,_,m⟩=>aN (λ_=>?_) λ_=>aN (λ_=>?_) λ_=>i _ ⟨m.mono O,pb G,pb H⟩
 ·exact cr (iQ n m O aP) λK ⟨_,o⟩=>ab (d4 _ _) (ab (cB aP) (i _ ⟨o.mono O,pb G,Pz H (R _)⟩))
 exact cr (iQ n m O aP) λK ⟨_,o⟩=>ab (d4 _ _) (ab (cB aP) (i _ ⟨o.mono O,Pz G (R _),pb H⟩))
theorem abj(p:5000<=n)(s:cX k r)(H:0<=k/\k<=90000000):aa (Ap n r) (λx=>(x.1.length<=3/\kR 10 x.1)/\cX (k+40) x.2):=by
 unfold Ap;refine cr (iQ n s O aP) λa ⟨w,y⟩=>?_;have K:1<=a.1/\a.1<=3:=by simp at w;omega
 refine aa.loop (λz:List UInt8×Int×List Loop×Int=>0<=z.2.2.2/\(z.2.2.1.length:Int)+z.2.2.2=a.1/\cX (k+1+10*z.2.2.1.length) ⟨z.1,z.2.1⟩/\ ∀l∈z.2.2.1,eQ 10 l.lo/\eQ 10 l.aE) (λz=>z.2.2.2.toNat) ?_ n _ ⟨Z,aP,by simpa using y,λl h=>by simp at h⟩ Z;rintro e ⟨b,q,bS,c⟩ ⟨A,B,i,o⟩ m;dsimp only at A B i o⊢;refine aN (λC=>?_) λF=>aa.some ⟨⟨Z,Z,o⟩,i.mono O⟩;refine cr (aaQ p i O (d:=(bS.length:Int)) O) λL ⟨Q,G⟩=>ab (cB bN) ?_;rw[bb O];refine m _ ⟨Z,by dsimp only;simp;omega,G.mono bN,λl R=>?_⟩ Z
 grind
theorem Ol(W:5000<=n)(X:cX k r)(hk:0<=k/\k<=90000000)(cu:0<=d/\d<=3):aa (wc n r d) (λx=>eQ 10 x.1.bx/\cX (k+20) x.2):=by
 unfold wc;refine cr (BX n X O aP) λe5 ⟨m1,f⟩=>?_;refine aa.ay (λz:Int=>1<=z/\z<=2) (λj m=>aN (λ_=>m _ O) λ_=>m _ O) λw hw=>?_;refine aa.loop (λz:List UInt8×Int×List aw×Int=>0<=z.2.2.2/\z.2.2.2<=w/\(z.2.2.1.length:Int)=z.2.2.2/\cX (k+1+8*z.2.2.2) ⟨z.1,z.2.1⟩/\ ∀a∈z.2.2.1,dq 10 a) (λz=>(w-z.2.2.2).toNat) ?_ n _ ⟨Z,Z,aP,by simpa using f,λl h=>by simp at h⟩ Z;rintro s ⟨b,q,bS,c⟩ ⟨g,t,u,y,A⟩ B;dsimp only at g t u y A⊢;refine aN (λv=>?_) λD=>aa.some ⟨⟨Z,A⟩,y.mono O⟩;refine cr (iQ n y O aP) λE ⟨_,o⟩=>ab (d4 _ _) ?_;refine aa.ay (λz:List UInt8×Int×List Int×Int=>cX (k+1+8*c+8) ⟨z.1,z.2.1⟩/\z.2.2.1.length=4) (λj m=>?_) λz C=>?_
 ·refine aa.ay (λz:List UInt8×Int×Bool=>cX (k+1+8*c+2) ⟨z.1,z.2.1⟩/\(z.2.2=true->0<d)) (λqP p=>aN (λh=>?_) λh=>p _ ⟨o.mono O,λh=>by cases h⟩) λz C=>?_
  ·exact cr (kE n o O) λfA ⟨_,_,I⟩=>p _ ⟨I.mono O,λ_=>h⟩
  obtain⟨M,N,R⟩:=z;obtain⟨e,i⟩:=C;dsimp only at e i⊢;cases R with
  |false=>exact m _ ⟨e.mono O,rfl⟩
  |true=>
   have P:=i rfl;refine cr (kE n e O) λS ⟨T,U,F⟩=>cr (w7 n ⟨T,by have:=U O;omega⟩) λV G=>?_;refine cr (iQ n F O aP) λY ⟨_,H⟩=>cr (iQ n H O aP) λK ⟨_,L⟩=>ab (d4 _ _) ?_;exact cr (LH W G (show ma ⟨[0,0,0,0],K.1⟩ from rfl) _ _) λmX Q=>m _ ⟨L.mono O,Q⟩
 obtain⟨M,N,R,z4⟩:=z;obtain⟨e,i⟩:=C;dsimp only at e i⊢;refine ab (cB bN) ?_;rw[bb O];refine B _ ⟨Z,Z,by dsimp only;simp;omega,e.mono Z,λa fP=>?_⟩ Z;rcases eh.1 fP with h|h
 ·exact A a h
 simp at h;subst h;unfold dq;dsimp only;omega
theorem aa1(K:5000<=n)(s:cX k r)(L:0<=k/\k<=90000000)(Q:0<=d/\d<=3):aa (wF n r d) (λx=>dq 10 x.1/\cX (k+10) x.2):=by
 unfold wF;refine cr (iQ n s O aP) λR ⟨W,w⟩=>ab (d4 _ _) ?_;refine aa.loop (λz:List UInt8×Int×List Int×Int=>0<=z.2.2.2/\z.2.2.2<=d/\z.2.2.1.length=4/\cX (k+1+z.2.2.2) ⟨z.1,z.2.1⟩) (λz=>(d-z.2.2.2).toNat) ?_ n _ ⟨Z,Z,aP,by simpa using w⟩ Z;rintro a ⟨b,q,bS,c⟩ ⟨e,A,o,h⟩ m;dsimp only at e A o h⊢;refine aN (λB=>?_) λC=>aa.some ⟨by unfold dq;dsimp only;omega,h.mono O⟩;refine cr (iQ n h O aP) λp ⟨_,F⟩=>?_;obtain⟨y,G,_⟩:=gu (l:=bS) (i:=c) e O;have H:b6 bS c p.1=some (bS.set c.toNat p.1):=by unfold b6;rw[a1 ⟨e,O⟩]
 refine ab G (ab H ?_);rw[bb O];exact m _ ⟨Z,Z,by dsimp only;rw[eR];exact o,F.mono Z⟩ Z
def lp:Nat->Int
 |0=>30
 |L+1=>30+2*lp L
theorem MH: ∀L,30<=lp L
 |0=>fT _
 |L+1=>by have:=MH L;simp only[lp];omega
theorem NC{L:Nat}(h:L<=2):lp L<=210:=by
 have a:L=0\/L=1\/L=2:=O
 rcases a with rfl|rfl|rfl<;>decide
theorem uy:dq 10 ⟨[],0⟩:=by unfold dq;simp
theorem uw:eQ 10 []:=⟨aP,λx a=>by simp at a⟩
theorem Yc(u:0<=d/\d<=3): ∀(L n:Nat) (k:Int) (r:cH),5000+L<=n->L<=2->cX k r->0<=k->k<=80000000+10000*(2-(L:Int))->aa (q' (n+1) r d ((L:Int)+1)) (λx=>iG 10 (L+1) x.1/\cX (k+lp L) x.2):=by
 have a: ∀(L n:Nat) (k:Int) (r:cH),5000<=n->cX k r->0<=k->k<=80100000->
   aa (Option.bind (hG n r 4) λi=>bif decide (i.1=0) then(Option.bind (gg n i.2 [1,2,0,99,3]) λo=>some ((⟨1,o.1,(⟨[],0⟩:aw),(⟨[],[]⟩:bX),[]⟩:Expr),o.2)) else(bif decide (i.1=1) then(Option.bind (wF n i.2 d) λv=>some ((⟨2,0,v.1,(⟨[],[]⟩:bX),[]⟩:Expr),v.2)) else(Option.bind (wc n i.2 d) λD=>some ((⟨3,0,(⟨[],0⟩:aw),D.1,[]⟩:Expr),D.2)))) (λx=>iG 10 (L+1) x.1/\cX (k+25) x.2):=by
  intro L n k r B m F E;refine cr (kE n m O) λi ⟨_,_,G⟩=>aN (λ_=>?_) λ_=>aN (λ_=>?_) λ_=>?_
  ·exact cr (iQ n G O aP) λo ⟨_,p⟩=>aa.some ⟨⟨aP,uy,uw,λk h=>by simp at h⟩,p.mono O⟩
  ·exact cr (aa1 B G O u) λo ⟨H,p⟩=>aa.some ⟨⟨aP,H,uw,λk h=>by simp at h⟩,p.mono O⟩
  exact cr (Ol B G O u) λo ⟨H,p⟩=>aa.some ⟨⟨aP,uy,H,λk h=>by simp at h⟩,p.mono O⟩
 intro L;induction L with
 |zero=>
  intro n k r B M m F E;unfold q';refine aa.ay (λz:List UInt8×Int×Bool=>cX k ⟨z.1,z.2.1⟩/\z.2.2=true) (λj C=>aN (λ_=>C _ ⟨m,rfl⟩) λh=>bz (show((0:Nat):Int)+1<2 by omega) h) λz s=>?_;obtain⟨N,P,I⟩:=z;obtain⟨w,y⟩:=s;dsimp only at w y⊢;subst y;exact(a 0 n k _ O w F O).mono (λx A=>⟨A.1,A.2.mono (by simp only[lp];omega)⟩)
 |succ L S=>
  intro n k r B M m F E;have T:=MH L;have U:lp L<=210:=NC O;unfold q';refine aa.ay (λz:List UInt8×Int×Bool=>cX (k+1) ⟨z.1,z.2.1⟩) (λj C=>aN (λh=>C _ (m.mono O)) λh=>cr (kE n m O) λhz ⟨_,_,V⟩=>C _ V) λz s=>?_;obtain⟨N,P,I⟩:=z;dsimp only at s⊢;cases I with
  |true=>exact(a (L+1) n (k+1) _ O s O O).mono (λx A=>⟨A.1,A.2.mono (by simp only[lp];omega)⟩)
  |false=>
   refine b3 (cr (iQ n s O aP) λY ⟨_,K⟩=>?_);obtain⟨n,rfl⟩: ∃j,n=j+1:=⟨n-1,O⟩
   have aik:wr (((L+1:Nat):Int)+1-1)=(L:Int)+1:=by rw[bb O];omega
   rw[aik];refine aa.loop (λz:List UInt8×Int×List Expr×Int=>0<=z.2.2.2/\z.2.2.2<=2/\(z.2.2.1.length:Int)=z.2.2.2/\cX (k+2+lp L*z.2.2.2) ⟨z.1,z.2.1⟩/\ ∀e∈z.2.2.1,iG 10 (L+1) e) (λz=>(2-z.2.2.2).toNat) ?_ (n+1) _ ⟨Z,Z,aP,K.mono bN,λl h=>by simp at h⟩ Z;rintro Q ⟨b,q,bS,c⟩ ⟨i1,i2,i3,R,W⟩ X;dsimp only at i1 i2 i3 R W⊢;have ahx:0<=lp L*c/\lp L*c<=2*lp L:=by
    have f:c=0\/c=1\/c=2:=O
    rcases f with rfl|rfl|rfl<;>omega
   refine aN (λhlt=>?_) λji=>aa.some ⟨⟨Z,uy,uw,W⟩,R.mono (by simp only[lp];omega)⟩;refine cr (S n _ _ O O R O O) λl5 ⟨g,t⟩=>ab (cB bN) ?_;rw[bb O];refine X _ ⟨Z,Z,by dsimp only;simp;omega,t.mono (by dsimp only;rw[Int.mul_add];omega),λe he=>?_⟩ Z;rcases eh.1 he with h|h
   ·exact W e h
   simp at h;subst h;exact g
theorem aa4(B:6000<=n)(m:cX k r)(C:0<=k/\k<=70000000)(c:0<=d/\d<=3):aa (AS n r d) (λx=>iX 10 x.1/\cX (k+300) x.2):=by
 unfold AS;refine cr (Ol O m O c) λo ⟨p,q⟩=>cr (iQ n q O aP) λs ⟨e,w⟩=>?_;obtain⟨L,y,a⟩: ∃L:Nat,s.1=(L:Int)+1/\L<=2:=by
  simp at e;rcases e with h|h|h|h
  ·exact⟨1,O,O⟩
  ·exact⟨2,O,O⟩
  ·exact⟨0,O,O⟩
  exact⟨1,O,O⟩
 obtain⟨n,rfl⟩: ∃j,n=j+1:=⟨n-1,O⟩
 have F:lp L<=210:=NC a;rw[y];refine cr (Yc c L n _ _ O a w O O) λz ⟨A,i⟩=>?_;have l:iX 10 ⟨o.1,z.1⟩:=⟨p,A.mono (cJ _) O⟩
 refine ab (Jy O (l.mono O).sm d) (aa.cond (λ_=>aa.some ⟨l,i.mono O⟩) λ_=>ab (x:=⟨[0,0,0,0],0⟩) rfl (aa.some ⟨⟨pb (by unfold dq;simp),⟨aP,uy,uw,λk h=>by simp at h⟩⟩,i.mono O⟩))
theorem Zb:DH N [65,91,105,93,61,40,65,91,105,93,43,123,105,125,41]=some (⟨⟨[65],[⟨[1,0,0,0],0⟩]⟩,⟨4,0,⟨[],0⟩,⟨[],[]⟩,[⟨3,0,⟨[],0⟩,⟨[65],[⟨[1,0,0,0],0⟩]⟩,[]⟩,⟨2,0,⟨[1,0,0,0],0⟩,⟨[],[]⟩,[]⟩]⟩⟩,true):=J
theorem abZ:Fh N [4]=some ([⟨[⟨[0,0,0,0],0⟩],[⟨[0,0,0,0],4⟩]⟩],true):=J
def oP:List cI:=[⟨[65],[6]⟩,⟨[66],[4,5]⟩,⟨[67],[3]⟩]
theorem AL:oP.length<=4/\kC oP:=by refine⟨by decide,λx a=>?_⟩;simp[oP] at a;rcases a with rfl|rfl|rfl<;>decide
theorem NY:rE 10 oP:=by
 refine⟨by decide,λx a=>?_⟩;simp[oP] at a
 grind
theorem abS:fB 10 ⟨[⟨[⟨[0,0,0,0],0⟩],[⟨[0,0,0,0],4⟩]⟩],[⟨⟨[65],[⟨[1,0,0,0],0⟩]⟩,⟨4,0,⟨[],0⟩,⟨[],[]⟩,[⟨3,0,⟨[],0⟩,⟨[65],[⟨[1,0,0,0],0⟩]⟩,[]⟩,⟨2,0,⟨[1,0,0,0],0⟩,⟨[],[]⟩,[]⟩]⟩⟩]⟩:=by
 have i: ∀(a b c d e:Int),dq 10 ⟨[a,b,c,d],e⟩:=λa b c d e=>by unfold dq;simp
 refine⟨⟨aP,λl m=>?_⟩,aP,λs n=>?_⟩
 ·simp at m;subst m;exact⟨pb (i _ _ _ _ _),pb (i _ _ _ _ _)⟩
 simp at n;subst n;refine⟨pb (i _ _ _ _ _),aP,uy,uw,λk o=>?_⟩;simp at o;rcases o with rfl|rfl
 ·exact⟨aP,uy,pb (i _ _ _ _ _),λk h=>by simp at h⟩
 exact⟨aP,i _ _ _ _ _,uw,λk h=>by simp at h⟩
theorem abE(P:cX k r)(hk:0<=k/\k<=10000000):aa (AR N r) (λx=>fB 10 x.1/\cX (k+40000) x.2):=by
 have eu:N=100000:=rfl;unfold AR;refine aa.loop (λz:List UInt8×Int×Int=>0<=z.2.2/\z.2.2<=4/\cX (k+10000*z.2.2) ⟨z.1,z.2.1⟩) (λz=>(4-z.2.2).toNat) ?_ N _ ⟨Z,Z,by simpa using P⟩ Z;rintro Q ⟨b,q,c⟩ ⟨S,T,R⟩ W;dsimp only at S T R⊢;refine aN (λU=>?_) λV=>ab Zb (ab abZ (aa.some ⟨abS,R.mono O⟩));refine cr (abj O R O) λi ⟨⟨n3,Y⟩,Jj⟩=>cr (iQ N Jj O aP) λe ⟨m6,aiw⟩=>?_;have hm:1<=e.1/\e.1<=3:=by simp at m6;omega
 refine aa.loop (λz:List UInt8×Int×List Loop×List Stmt×Int=>z.2.2.1=i.1/\0<=z.2.2.2.2/\z.2.2.2.2<=e.1/\(z.2.2.2.1.length:Int)+z.2.2.2.2<=e.1/\cX (k+10000*c+41+1500*(e.1-z.2.2.2.2)) ⟨z.1,z.2.1⟩/\ ∀s∈z.2.2.2.1,iX 10 s) (λz=>z.2.2.2.2.toNat) ?_ N _ ⟨rfl,Z,Z,aP,aiw.mono Z,λs h=>by simp at h⟩ Z;rintro m ⟨cQ,lb,ahZ,cU,w⟩ ⟨t,qO,iN,QP,H,K⟩ n;dsimp only at t qO iN QP H K⊢;subst t;have a: ∀(l:List Stmt),l.length<=10->(∀s∈l,iX 10 s)->fB 10 ⟨i.1,l⟩:=λl h1 h2=>⟨Y,h1,h2⟩
 refine aN (λu=>?_) λD=>?_
 ·refine aa.ay (λz:List UInt8×Int×List Stmt=>cX (k+10000*c+41+1500*(e.1-w)+1500) ⟨z.1,z.2.1⟩/\z.2.2.length<=cU.length+1/\ ∀s∈z.2.2,iX 10 s) (λQO o=>?_) λz eD=>?_
  ·refine aa.loop (λz:List UInt8×Int×Int=>0<=z.2.2/\z.2.2<=5/\cX (k+10000*c+41+1500*(e.1-w)+300*z.2.2) ⟨z.1,z.2.1⟩) (λz=>(5-z.2.2).toNat) ?_ N _ ⟨Z,Z,by simpa using H⟩ Z;rintro p ⟨cd,q2,v⟩ ⟨g1,g2,X⟩ y;dsimp only at g1 g2 X⊢;refine aN (λE=>?_) λI=>o _ ⟨X.mono O,Z,K⟩;refine cr (aa4 O X O (d:=(i.1.length:Int)) O) λA ⟨B,C⟩=>ab (x:=oP) rfl ?_;have f:BA ⟨i.1,[A.1]⟩:=((a [A.1] aP λs L=>by simp at L;subst L;exact B).mono O).sm;refine ab (Er O AL.1 AL.2 f) (aa.cond (λ_=>ab (cB bN) (o _ ⟨C.mono O,aP,λs L=>?_⟩)) λ_=>?_)
   ·rcases eh.1 L with h|h
    ·exact K s h
    simp at h;subst h;exact B
   rw[bb O];exact y _ ⟨Z,Z,C.mono Z⟩ Z
  obtain⟨D0,z2,z3⟩:=z;obtain⟨F,g,G⟩:=eD;dsimp only at F g G⊢;rw[bb O];exact n _ ⟨rfl,Z,Z,Z,F.mono Z,G⟩ Z
 have M:fB 10 ⟨i.1,cU⟩:=a cU O K;refine ab (x:=oP) rfl (ab (Er O AL.1 AL.2 (M.mono O).sm) ?_);refine aa.ay (λz=>True) (λj o=>aa.cond (λ_=>o _ trivial) λ_=>o _ trivial) λz _=>?_;cases z with
 |true=>exact aa.some ⟨M,H.mono O⟩
 |false=>
  refine b3 ?_;rw[bb O];exact W _ ⟨Z,Z,H.mono Z⟩ Z
theorem XK(o:cX k r)(G:0<=k/\k<=1000000):aa (AQ N r) (λx=>db 10 x.1/\cX (k+200000) x.2):=by
 have H:N=100000:=rfl;unfold AQ;refine ab (x:=oP) rfl (cr (iQ N o O aP) λd ⟨p,s⟩=>?_);have K:1<=d.1/\d.1<=3:=by simp at p;omega
 refine aa.loop (λz:List UInt8×Int×List Part×Int=>0<=z.2.2.2/\(z.2.2.1.length:Int)+z.2.2.2=d.1/\cX (k+1+40000*z.2.2.1.length) ⟨z.1,z.2.1⟩/\ ∀x∈z.2.2.1,fB 10 x) (λz=>z.2.2.2.toNat) ?_ N _ ⟨Z,aP,by simpa using s,λx h=>by simp at h⟩ Z;rintro e ⟨b,q,w,c⟩ ⟨y,A,a,i⟩ l;dsimp only at y A a i⊢;refine aN (λB=>?_) λC=>?_
 ·refine cr (abE a O) λL ⟨Q,F⟩=>ab (cB bN) ?_;rw[bb O];refine l _ ⟨Z,by dsimp only;simp;omega,F.mono bN,λx m=>?_⟩ Z
  grind
 have n:db 10 ⟨oP,w⟩:=⟨NY,Z,i⟩
 refine ab (jB O (n.mono O).sm) (aa.cond (λ_=>aa.some ⟨n,a.mono O⟩) λ_=>ab (x:=oP) rfl (ab (gE O O O) (aa.some ⟨⟨NY,?_,λx m=>i x ?_⟩,a.mono O⟩)))
 ·simp;omega
 exact gb (e6 m)
theorem Fw{a h:Type}{l:List a}{f:a->Option h}{g:a->h->a}{K:List a->Option R}(m: ∀x∈l,∃z,f x=some z/\g x z=x)(A:l.length<=1000)(B:5000<=n)(C:aa (K l) Q):
  aa (bd (λc ((x,i):List a×Int)=>bif decide (i<(l.length:Int)) then(Option.bind (ar l i) λy=>Option.bind (f y) λz=>Option.bind (app x [g y z]) λw=>c (w,wr (i+1))) else K x) n ([],0)) Q:=by
 refine aa.loop (λz:List a×Int=> ∃i:Nat,z.2=i/\i<=l.length/\z.1=l.take i) (λz=>l.length-z.2.toNat) ?_ n _ ⟨0,rfl,O,aP⟩ Z;rintro c ⟨x,z⟩ ⟨i,k,F,d⟩ o;dsimp only at k d⊢;subst k;refine aN (λp=>?_) λq=>?_
 ·have bI:=bo (O:i<l.length);have r:x.length<=1000:=by rw[d,cE];omega
  obtain⟨y,s,e⟩:=m _ (bE bI);refine ab (be bI) (ab s (ab (cB bN) ?_));rw[bb O];refine o _ ⟨i+1,Z,O,?_⟩ Z;dsimp only;rw[eg,bI,d,e];rfl
 have:i=l.length:=O
 grind
theorem q4{a:Type}{l:List a}{f:a->Option a}{K:List a->Option R}(d: ∀x∈l,f x=some x)(e:l.length<=1000)(h:5000<=n)(k:aa (K l) Q):
  aa (bd (λc ((x,i):List a×Int)=>bif decide (i<(l.length:Int)) then(Option.bind (ar l i) λy=>Option.bind (f y) λz=>Option.bind (app x [z]) λw=>c (w,wr (i+1))) else K x) n ([],0)) Q:=
 Fw (g:=λ_ z=>z) (λx m=>⟨x,d x m,rfl⟩) e h k
theorem KO: ∀(L n:Nat) (e:Expr),5000+L<=n->iG 1000 L e->q8 (n+1) e=some e
 |0,_,_,_,h=>h.elim
 |L+1,n,e,m,h=>by
  obtain⟨a,c,d,i⟩:=h;unfold q8;refine aa.eq (ab (zt n c) (ab (yZ O d.sm) ?_));obtain⟨n,rfl⟩: ∃j,n=j+1:=⟨n-1,O⟩
  exact q4 (f:=q8 (n+1)) (K:=λk=>some (⟨e.kind,e.num,e.index,e.read,k⟩:Expr)) (λx l=>KO L n x O (i x l)) a O (aa.some (by cases e;rfl))
theorem KM(a:6000<=n)(h:iX 1000 s):t8 n s=some s:=by
 obtain⟨n,rfl⟩: ∃j,n=j+1:=⟨n-1,O⟩
 unfold t8;rw[yZ O h.1.sm,KO 5 n s.value O h.2];rfl
theorem KN(X:6000<=n){nest:List Loop}(h:kR 1000 nest):we n nest=some nest:=by
 obtain⟨b,C⟩:=h;refine aa.eq ?_;unfold we;refine aa.loop (λz:List Loop×Int=> ∃i:Nat,z.2=i/\i<=nest.length/\z.1=nest.take i) (λz=>nest.length-z.2.toNat) ?_ n _ ⟨0,rfl,O,aP⟩ Z;rintro c ⟨x,z⟩ ⟨i,e,j,o⟩ F;dsimp only at e o⊢;subst e;refine aN (λG=>?_) λH=>aa.some ?_
 ·have bI:=bo (O:i<nest.length);obtain⟨⟨u,L⟩,⟨eI,cx⟩⟩:=C _ (bE bI);have Q:x.length<=1000:=by rw[o,cE];omega
  refine aa.loop (λz:List aw×Int=> ∃t:Nat,z.2=t/\t<=nest[i].lo.length/\z.1=nest[i].lo.take t) (λz=>nest[i].lo.length-z.2.toNat) ?_ n _ ⟨0,rfl,O,aP⟩ Z;rintro k ⟨y,z⟩ ⟨t,e,v,m⟩ p;dsimp only at e m⊢;subst e;refine ab (be bI) (aN (λA=>?_) λB=>?_)
  ·have d:=bo (O:t<nest[i].lo.length);have R:y.length<=1000:=by rw[m,cE];omega
   refine ab (be d) (ab (nn _ (L _ (bE d))) (ab (cB bN) ?_));rw[bb O];refine p _ ⟨t+1,Z,O,?_⟩ Z;dsimp only;rw[eg,d,m];rfl
  have q:t=nest[i].lo.length:=O
  refine Fw (l:=nest[i].aE) (f:=λa:aw=>app [] a.aQ) (g:=λa r=>(⟨r,a.const⟩:aw)) (K:=λs=>Option.bind (app x [(⟨y,s⟩:Loop)]) λw=>c (w,wr ((i:Int)+1))) (λa W=>⟨_,nn _ (cx a W),rfl⟩) eI O ?_;refine ab (cB bN) ?_;rw[bb O];refine F _ ⟨i+1,Z,O,?_⟩ Z;dsimp only;rw[eg,bI,o,m,q,dz];rfl
 have:i=nest.length:=O
 grind
theorem oo(G:6000<=n)(h:db 1000 p):t7 n p=some p:=by
 obtain⟨⟨aI,a2⟩,M,Q⟩:=h;refine aa.eq ?_;unfold t7;refine Fw (n:=n) (l:=p.aR) (f:=λw:cI=>app [] w.b2) (g:=λw R=>(⟨w.name,R⟩:cI)) (K:=λW=>bd (λc ((H,y):(List Part)×Int)=>
    bif decide (y<(p.parts.length:Int)) then(
     Option.bind (ar p.parts y) λk=>
     Option.bind (we n k.nest) λA=>
     bd (λd ((e,m):(List Stmt)×Int)=>
      bif decide (m<(k.body.length:Int)) then(
       Option.bind (ar k.body m) λB=>
       Option.bind (t8 n B) λC=>
       Option.bind (app e [C]) λF=>
       d (F,wr (m+1))
      ) else(
       Option.bind (app H [(⟨A,e⟩:Part)]) λo=>
       c (o,wr (y+1))
      )
     ) n ([],0)
    ) else(
     some (⟨W,H⟩:Prog)
    )
   ) n ([],0)) (λa X=>⟨_,nn _ (a2 a X),rfl⟩) aI O ?_
 refine aa.loop (λz:List Part×Int=> ∃i:Nat,z.2=i/\i<=p.parts.length/\z.1=p.parts.take i) (λz=>p.parts.length-z.2.toNat) ?_ n _ ⟨0,rfl,O,aP⟩ Z;rintro q ⟨x,z⟩ ⟨i,L,N,r⟩ b;dsimp only at L r⊢;subst L;refine aN (λj=>?_) λt=>aa.some ?_
 ·have bI:=bo (O:i<p.parts.length);obtain⟨u,v,D⟩:=Q _ (bE bI);have E:x.length<=1000:=by rw[r,cE];omega
  refine ab (be bI) (ab (KN G u) ?_);refine q4 (f:=t8 n) (K:=λe=>Option.bind (app x [(⟨p.parts[i].nest,e⟩:Part)]) λo=>q (o,wr ((i:Int)+1))) (λs I=>KM G (D s I)) v O ?_;refine ab (cB bN) ?_;rw[bb O];refine b _ ⟨i+1,Z,O,?_⟩ Z;dsimp only;rw[eg,bI,r];rfl
 have:i=p.parts.length:=O
 rw[r,this,dz]
theorem pI{a:Type}{l:List a}{i:Nat}{x:a}{P:a->Prop}(h: ∀y∈l,P y)(d:P x): ∀y∈l.set i x,P y:=λy e=>by
 rcases vU e with c|c
 ·exact h y c
 rw[c];exact d
theorem Bk{a:Type}{l:List a}{x:a}{P:a->Prop}(h: ∀y∈l,P y)(d:P x): ∀y∈l++[x],P y:=λy e=>by
 rcases eh.1 e with c|c
 ·exact h y c
 simp at c;rw[c];exact d
theorem dD{a:Type}{l:List a}{i:Int}(h:0<=i/\i<l.length)(x:a):b6 l i x=some (l.set i.toNat x):=by unfold b6;rw[a1 h]
theorem abF{l:List aw}(h:eQ B l)(c:dq (B+5) a):eQ (B+5) (l++[a]):=⟨by have:=h.1;simp;omega,Bk (λy d=>(h.2 y d).mono O) c⟩
theorem Ni{l:List aw}(h:eQ B l)(d:dq (B+5) a)(e:dq (B+5) b):eQ (B+5) (l++[a,b]):=⟨by have:=h.1;simp;omega,λy i=>by
 rcases eh.1 i with c|c
 ·exact(h.2 y c).mono O
 simp at c;rcases c with rfl|rfl;exact d;exact e⟩
theorem AV(h:4<=B)(c:Int):dq B ⟨[0,0,0,0],c⟩:=by unfold dq;simpa using h
theorem Gh(f:6000<=n)(T:10<=B/\B<=900)(R:cX k r)(U:0<=k/\k<=90000000){c:List Loop}(h:kR B c):aa (vw n r c) (λx=>kR (B+5) x.1/\cX (k+5) x.2):=by
 unfold vw;refine ab (KN f (h.mono O)) (aN (λ_=>aa.some ⟨h.mono O,R.mono O⟩) λg=>?_);have s:0<c.length:=O
 have o:=h.mono (O:B<=B+5);have t:=h.1;have u:wr ((c.length:Int)-1)=(c.length:Int)-1:=bb O;rw[u];refine aa.ay (λz:List UInt8×Int×List Loop=>cX (k+5) ⟨z.1,z.2.1⟩/\kR (B+5) z.2.2) (λj p=>?_) λz W=>aa.some ⟨W.2,W.1⟩;have d: ∀(i:Nat) (l:Loop),eQ (B+5) l.lo->eQ (B+5) l.aE->kR (B+5) (c.set i l):=λi l v D=>⟨by rw[eR];exact o.1,pI o.2 ⟨v,D⟩⟩
 obtain⟨V,w,e⟩:=gu (l:=c) (i:=0) O O;obtain⟨Y,A,m⟩:=gu (l:=c) (i:=(c.length:Int)-1) O O;have X:=h.2 _ (bE e);have b:=h.2 _ (bE m);have C:=o.2 _ (bE e);have F:=o.2 _ (bE m);refine cr (kE n R O) λhA ⟨_,_,q⟩=>aN (λ_=>?_) λ_=>aN (λ_=>?_) λ_=>aN (λ_=>?_) λ_=>aN (λ_=>?_) λ_=>aN (λ_=>?_) λ_=>p _ ⟨q.mono O,o⟩
 ·refine ab w (cr (kE n q O) λiy ⟨E,I,M⟩=>cr (w7 n ⟨E,by have:=I O;omega⟩) λkQ N=>ab (cB (by have:=X.1.1;simp;omega)) (ab (dD O _) (p _ ⟨M.mono O,d _ _ (abF X.1 (N.PL.mono O)) C.2⟩)))
 ·exact ab A (ab (dD O _) (p _ ⟨q.mono O,d _ _ F.1 ⟨aP,λa G=>by simp at G⟩⟩))
 ·exact ab A (ab (d4 _ _) (ab (d4 _ _) (ab (cB (by have:=b.2.1;simp;omega)) (ab (dD O _) (p _ ⟨q.mono O,d _ _ F.1 (Ni b.2 (AV O _) (AV O _))⟩)))))
 ·exact ab (d4 _ _) (ab w (ab (dD O _) (p _ ⟨q.mono O,d _ _ C.1 ⟨aP,λa G=>by simp at G;subst G;exact AV O _⟩⟩)))
 refine aa.loop (λz:List Loop=>0<z.length/\kR (B+5) z) (λz=>5-z.length) ?_ n _ ⟨s,o⟩ O;rintro H z ⟨D0,K⟩ L;refine aN (λP=>?_) λ_=>p _ ⟨q.mono O,K⟩;obtain⟨y,S,Q⟩:=gu (l:=z) (i:=0) O O;exact ab S (ab (cB bN) (L _ ⟨aP,bN,Bk K.2 (K.2 _ (bE Q))⟩ bN))
theorem Gg(y:6000<=n)(L:10<=B/\B<=900)(A:cX k r)(Q:0<=k/\k<=90000000)(h:iX B s):aa (vv n r s) (λx=>iX (B+5) x.1/\cX (k+5) x.2):=by
 have q:=h.mono (O:B<=B+5);obtain⟨l,m,C,F,c⟩:=q;have G:=h.1.1;have H:=h.2.1;unfold vv;refine ab (KM y (h.mono O)) ?_;refine aa.ay (λz:List UInt8×Int×List aw×List Expr×List UInt8×Int×Int=>cX (k+5) ⟨z.1,z.2.1⟩/\eQ (B+5) z.2.2.1/\z.2.2.2.1.length<=B+5/\ ∀e∈z.2.2.2.1,iG (B+5) 4 e) (λj d=>?_) λz p=>aa.some ⟨⟨p.2.1,p.2.2.1,C,F,p.2.2.2⟩,p.1⟩;refine cr (kE n A O) λR ⟨_,_,i⟩=>aN (λ_=>?_) λ_=>aN (λ_=>?_) λ_=>aN (λ_=>?_) λ_=>aN (λ_=>?_) λ_=>aN (λ_=>?_) λ_=>d _ ⟨i.mono O,l,m,c⟩
 ·exact cr (BX n i O aP) λw ⟨_,o⟩=>d _ ⟨o.mono O,l,m,c⟩
 ·exact cr (w7 n (v:=3) O) λW q=>ab (x:=⟨[0,0,0,0],0⟩) rfl (ab (cB bN) (d _ ⟨i.mono O,Ni h.1 (q.PL.mono O) (AV O _),m,c⟩))
 ·exact cr (iQ n i O aP) λw ⟨_,o⟩=>d _ ⟨o.mono O,l,m,c⟩
 ·exact cr (iQ n i O aP) λw ⟨_,o⟩=>d _ ⟨o.mono O,l,m,c⟩
 exact ab (cB bN) (d _ ⟨i.mono O,l,bN,Bk c ⟨aP,by unfold dq;simp,⟨aP,λa K=>by simp at K⟩,λk h=>by simp at h⟩⟩)
theorem aaK(G:6000<=n)(U:cX k r)(hk:0<=k/\k<=80000000)(h:db 10 p):aa (D3 n r p) (λx=>db 30 x.1/\cX (k+30) x.2):=by
 have t:=h.mono (O:10<=30);obtain⟨m,C,o⟩:=t;have fP:=h.1.1;have hp:=h.2.1;unfold D3;refine ab (oo G (h.mono O)) ?_;have V:wr ((p.parts.length:Int)-1)=(p.parts.length:Int)-1:=bb O;rw[V];refine aa.ay (λz:List UInt8×Int×List cI×List Part=>cX (k+30) ⟨z.1,z.2.1⟩/\rE 30 z.2.2.1/\z.2.2.2.length<=30/\ ∀x∈z.2.2.2,fB 30 x) (λj X=>?_) λz f=>aa.some ⟨⟨f.2.1,f.2.2.1,f.2.2.2⟩,f.1⟩;have q: ∀(i:Nat) (x:Part),fB 30 x->(p.parts.set i x).length<=30/\ ∀y∈p.parts.set i x,fB 30 y:=λi x g=>⟨by rw[eR];exact C,pI o g⟩
 have a: ∀{u:cH},cX (k+20) u->aa (j (u.b,u.p,p.aR,p.parts)) (λx=>db 30 x.1/\cX (k+30) x.2):=λv=>X _ ⟨v.mono O,m,C,o⟩;refine cr (kE n U O) λhA ⟨_,_,A⟩=>aN (λ_=>?_) λ_=>aN (λ_=>?_) λ_=>aN (λ_=>?_) λ_=>aN (λ_=>?_) λ_=>aN (λ_=>?_) λ_=>a (A.mono O)
 ·refine cr (BX n A O aP) λjT ⟨_,Y⟩=>cr (iQ n Y O aP) λiy ⟨_,Jj⟩=>ab (cB bN) (X _ ⟨Jj.mono O,⟨bN,Bk m.2 aP⟩,C,o⟩)
 ·refine aN (λc=>?_) λ_=>a (A.mono O);obtain⟨y,w,d⟩:=gu (l:=p.aR) (i:=0) O c;exact cr (iQ n A O aP) λfA ⟨_,aix⟩=>ab w (ab (dD O _) (X _ ⟨aix.mono O,⟨by rw[eR];exact m.1,pI m.2 aP⟩,C,o⟩))
 ·refine aN (λc=>?_) λ_=>a (A.mono O);obtain⟨y,w,d⟩:=gu (l:=p.parts) (i:=0) O c;have D:=h.2.2 _ (bE d);have e:=o _ (bE d);refine ab w (cr (Gh G (B:=10) O A O D.1) λE ⟨H,K⟩=>cr (Gh G (B:=15) O K O H) λI ⟨L,Q⟩=>cr (Gh G (B:=20) O Q O L) λM ⟨R,W⟩=>ab (dD O _) ?_);exact X _ ⟨W.mono O,m,q _ _ ⟨R.mono O,e.2.1,e.2.2⟩⟩
 ·refine aa.ay (λz:Bool=>z=true->0<(p.parts.length:Int)/\ ∀x,ar p.parts ((p.parts.length:Int)-1)=some x->0<(x.body.length:Int)) (λIP F=>aN (λc=>?_) λ_=>F _ λh=>by cases h) λz f=>?_
  ·obtain⟨y,w,d⟩:=gu (l:=p.parts) (i:=(p.parts.length:Int)-1) O O;refine ab w (F _ λcu=>⟨c,λx T=>?_⟩);rw[w] at T;cases T;exact eX cu
  cases z with
  |false=>exact a (A.mono O)
  |true=>
   obtain⟨c,aY⟩:=f rfl;obtain⟨y,w,d⟩:=gu (l:=p.parts) (i:=(p.parts.length:Int)-1) O O;have N:=aY y w;have D:=h.2.2 _ (bE d);have e:=o _ (bE d);obtain⟨s,P,S⟩:=gu (l:=y.body) (i:=0) O N;have ms:=D.2.2 _ (bE S);refine b1 (ab w (ab P (cr (Gg G (B:=10) O A O ms) λE ⟨H,K⟩=>cr (Gg G (B:=15) O K O H) λI ⟨L,Q⟩=>cr (Gg G (B:=20) O Q O L) λM ⟨R,W⟩=>ab (dD O _) (ab (dD O _) ?_))));exact X _ ⟨W.mono O,m,q _ _ ⟨e.1,by rw[eR];exact e.2.1,pI e.2.2 (R.mono O)⟩⟩
 refine aN (λc=>?_) λ_=>a (A.mono O);obtain⟨y,w,d⟩:=gu (l:=p.parts) (i:=(p.parts.length:Int)-1) O O;have e:=o _ (bE d);exact ab w (ab (dD O _) (X _ ⟨A.mono O,m,q _ _ ⟨e.1,aP,λs P=>by simp at P⟩⟩))
theorem aa2{r:List cI}(c:kC r):0<=gH r/\gH r<=36*r.length:=by have d:=nH (λx:cI=>gY x.b2) r λy a=>(rW (c y a)).1;have e:=Bp (λx:cI=>gY x.b2) 36 r λy a=>(rW (c y a)).2;unfold gH;omega
end Go.Lift
