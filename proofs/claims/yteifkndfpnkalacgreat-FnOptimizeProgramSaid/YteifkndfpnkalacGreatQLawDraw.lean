/- Tools. -/
import Derived.Test.YteifkndfpnkalacGreatQLiftLaw
set_option maxRecDepth 100000
set_option linter.unusedVariables false
namespace Go.Lift
open Go
open Option renaming some -> aa, bind -> bL
open Bool renaming true -> ab, false -> ak, and_eq_true -> b5
open Decidable renaming decide -> ah
open List renaming length_append -> rz, all_eq_true -> g', map_cons -> hX, range -> fp
section
abbrev N:Nat:=100000
def c6(k:Int)(r:cL):Prop:=0<=r.p/\r.p<=k/\r.b.length<=2000
variable {k:Int}{r:cL}
theorem c6.mono{a:Int}(h:c6 k r)(c:k<=a):c6 a r:=⟨h.1,by have:=h.2.1;omega,h.2.2⟩
theorem abm(a:List UInt8):ad (zs N a) (c6 0):=by unfold zs;refine ad.aE (λx=>x.length<=2000) (λj c=>aU (λh=>ai (km O O O) (c _ bZ)) λh=>c _ O) λz d=>ad.some ⟨fM 0,fM 0,d⟩
theorem Pq(x:UInt8):(x.toNat:Int)<=255:=by have:=UInt8.toNat_lt x;omega
theorem wP{n:Int}(h:n≠0):pP n=aa ():=by unfold pP;rw[aY h]
theorem Om{m:Int}(B:c6 k r)(U:k<=1000000000):ad (ia N r m) (λx=>0<=x.1/\(1<=m->x.1<m)/\c6 (k+1) x.2):=by
 obtain⟨b,p⟩:=r;obtain⟨c,C,w⟩:=B;dsimp only at c C w;unfold ia;dsimp only;have F:wr (p+1)=p+1:=bh O;have G:wr (p+1-1)=p:=by rw[bh O];omega
 rw[F,G];have a:c6 (k+1) ⟨b,p+1⟩:=⟨by show 0<=p+1;omega,by show p+1<=k+1;omega,w⟩
 refine ad.aE (λz=>z=ak->1<=m/\b.length≠0) (λj A=>aU (λh=>A _ λh=>by cases h) λh=>A _ λH=>⟨O,by simpa using H⟩) λz K=>?_;refine ad.cond (λ_=>ad.some ⟨aW,λh=>bZ,a⟩) λd=>?_;obtain⟨V,a7⟩:=K d;refine aU (λe=>?_) λL=>?_
 ·obtain⟨x,n,_⟩:=gk c e;refine ai n (ai (wP O) (ad.some ⟨?_,λ_=>?_,a⟩))
  ·exact Int.tmod_nonneg _ O
  exact Int.tmod_lt_of_pos _ O
 have qI:1<=(b.length:Int)/\(b.length:Int)<=2000:=O
 have Q:wr (p*7)=p*7:=bh O;have R:wr (p*7+3)=p*7+3:=bh O;rw[Q,R];obtain⟨x,n,_⟩:=gk (l:=b) (i:=Int.tmod p b.length) (Int.tmod_nonneg _ c) (Int.tmod_lt_of_pos _ O);obtain⟨y,W,_⟩:=gk (l:=b) (i:=Int.tmod (p*7+3) b.length) (Int.tmod_nonneg _ O) (Int.tmod_lt_of_pos _ O);refine ai (wP O) (ai n (ai (wP O) (ai W (ai (wP O) (ai (wP O) (ad.some ⟨?_,λ_=>Int.tmod_lt_of_pos _ O,a⟩))))));refine Int.tmod_nonneg _ ?_;have X:=Pq x;have Z:=Pq y;have o:0<=Int.tdiv p b.length:=Int.tdiv_nonneg c O;have s:Int.tdiv p b.length<=p:=Int.tdiv_le_self _ c;generalize Int.tdiv p b.length=q at o s;have f:wr ((x.toNat:Int)*131)=(x.toNat:Int)*131:=bh O;have g:wr ((y.toNat:Int)*1117)=(y.toNat:Int)*1117:=bh O;have t:wr (p*29)=p*29:=bh O;have u:wr q=q:=bh O;have v:wr (q*53)=q*53:=bh O;rw[f,g,t,u,v];have D:wr ((x.toNat:Int)*131+(y.toNat:Int)*1117)=(x.toNat:Int)*131+(y.toNat:Int)*1117:=bh O;rw[D];have E:wr ((x.toNat:Int)*131+(y.toNat:Int)*1117+p*29)=(x.toNat:Int)*131+(y.toNat:Int)*1117+p*29:=bh O;rw[E];have I:wr ((x.toNat:Int)*131+(y.toNat:Int)*1117+p*29+q*53)=(x.toNat:Int)*131+(y.toNat:Int)*1117+p*29+q*53:=bh O;rw[I];obtain⟨M,P⟩: ∃M:Nat,(x.toNat:Int)*131+(y.toNat:Int)*1117+p*29+q*53=M:=⟨((x.toNat:Int)*131+(y.toNat:Int)*1117+p*29+q*53).toNat,O⟩
 rw[P];have S:(M:Int)<=100000000000000:=O
 have T:Int.tdiv (M:Int) 64=((M / 64:Nat):Int):=by rw[Int.tdiv_eq_ediv_of_nonneg O];omega
 rw[T,bh O,U8 _ _ O O];omega
theorem OM{l:List Int}(c:c6 k r)(d:k<=1000000000)(e:l≠[]):ad (gz N r l) (λx=>x.1∈l/\c6 (k+1) x.2):=by
 unfold gz;have o:1<=l.length:=by cases l;exact bz rfl e;simp
 refine cB (Om c d) λx ⟨h,i,m⟩=>?_;obtain⟨y,n,a⟩:=gk h (i O);exact ai n (ad.some ⟨bJ a,m⟩)
end
section
def dX:List Int->List Int->Int
 |c::cs,x::xs=>c*x+dX cs xs
 |_,_=>0
def dj(m:Int)(x:Int):Prop:= -m<=x/\x<=m
variable {a:aF}{b c x d aP v M:Int}{i n k:Nat}{p l:List Int}{R:Type}{A B:Option R}{o:List Loop}{s:List UInt8}{Q:R->Prop}
theorem Bh{a:Int}(i:0<=a)(l:0<=b)(d:dj a c)(e:dj b x):dj (a*b) (c*x):=by
 obtain⟨m,n⟩:=d;obtain⟨o,p⟩:=e;constructor
 ·have h:=nI (O:0<=a+c) (O:0<=b+x);have k:=nI (O:0<=a-c) (O:0<=b-x)
  grind
 have h:=nI (O:0<=a+c) (O:0<=b-x);have k:=nI (O:0<=a-c) (O:0<=b+x)
 grind
theorem Ga(a:List Int):dX a []=0:=by cases a<;>rfl
theorem M2: ∀{cs a:List Int} {c x:Int},cs[a.length]? =aa c->dX cs (a++[x])=dX cs a+c*x
 | [],a,c,x,h=>by simp at h
 |d::cs,[],c,x,h=>by simp at h;subst h;simp[dX,Ga]
 |d::cs,y::a,c,x,h=>by
  have h:cs[a.length]? =aa c:=by simpa using h
  simp only[List.cons_append,dX];rw[M2 h];omega
theorem M1{d e:List Int}(h:d[i]? =aa c)(a:e[i]? =aa x):dX d (e.take (i+1))=dX d (e.take i)+c*x:=by have aP:=(bX.1 a).1;rw[ej,a];exact M2 (by simpa[Nat.min_eq_left (Nat.le_of_lt aP)] using h)
theorem GM{M:Int}(a:0<=M): ∀{cs xs:List Int},(∀c∈cs,dj 9 c)->(∀x∈xs,dj M x)->dj (9*M*xs.length) (dX cs xs)
 | [],xs,_,_=>by
  have:0<=9*M*(xs.length:Int):=nI O O;simp only[dX,dj];omega
 |d::cs,[],_,_=>by simp[dX,dj]
 |d::cs,y::xs,i,k=>by
  have l:=GM a (cs:=cs) (xs:=xs) (λc h=>i c (by simp[h])) λx h=>k x (by simp[h]);have m:=Bh O a (i d aW) (k y aW);have e:9*M*((y::xs).length:Int)=9*M*(xs.length:Int)+9*M:=by simp[Int.mul_add]
  rw[e];simp only[dX,dj] at*;omega
def c5(a c:Int):List Int:=(fp (c-a).toNat).map (fun(i:Nat)=>a+(i:Int))
theorem Od{a:Int}:v∈c5 a aP↔a<=v/\v<aP:=by
 simp only[c5,List.mem_map,List.mem_range];constructor
 ·rintro⟨i,aP,rfl⟩;omega
 intro h;exact⟨(v-a).toNat,O,O⟩
theorem lY{a:Int}(h:b<=a):c5 a b=[]:=by unfold c5;rw[show(b-a).toNat=0 by omega];rfl
theorem sX{a:Int}(h:b<=a):c5 b (a+1)=c5 b a++[a]:=by
 unfold c5;rw[show(a+1-b).toNat=(a-b).toNat+1 by omega,mT,eZ]
 grind
theorem zv{a:Int}(c:a<=v)(d:v<aP):c5 a aP=c5 a v++v::c5 (v+1) aP:=by
 obtain⟨k,e⟩: ∃k:Nat,aP=v+1+k:=⟨(aP-v-1).toNat,O⟩
 subst e;clear d;induction k with
 |zero=>
  rw[show v+1+((0:Nat):Int)=v+1 by omega,sX c,lY (fM _)]
 |succ k h=>
  rw[show v+1+((k+1:Nat):Int)=v+1+(k:Int)+1 by omega,sX O,h,sX O];simp
theorem Ay{a:Type}{f:a->Option Bool}{p:a->Bool}{l:List a}(s: ∀x∈l,f x=aa (p x))(G:l.length<n)(w:l.length<=1000000):
  ∃r:Int,bj (λc (d:Int)=>bif ah (d<(l.length:Int)) then(bL (az l d) λi=>bL (f i) λk=>bif k then(aa d) else(c (wr (d+1)))) else(aa (-1))) n 0=aa r/\ah (0<=r)=l.any p:=by
 suffices h:ad (bj (λc (d:Int)=>bif ah (d<(l.length:Int)) then(bL (az l d) λi=>bL (f i) λk=>bif k then(aa d) else(c (wr (d+1)))) else(aa (-1))) n 0) (λr=>decide (0<=r)=l.any p) by exact h
 refine ad.loop (λx:Int=>0<=x/\x<=l.length/\(l.take x.toNat).any p=ak) (λx:Int=>l.length-x.toNat) ?_ n 0 ⟨O,O,aW⟩ bZ;rintro m x ⟨q,H,K⟩ z;refine aU (λo=>?_) λA=>?_
 ·obtain⟨y,B,e⟩:=gk q o;have hm:=bJ e;refine ai B (ai (s y hm) (ad.cond (λC=>ad.some ?_) λF=>?_))
  ·rw[show l.any p=ab from jE.2 ⟨y,hm,C⟩];simp[q]
  rw[bh O];refine z _ ⟨O,O,?_⟩ O;rw[show(x+1).toNat=x.toNat+1 by omega,ej,e]
  grind
 refine ad.some ?_;have L:x.toNat=l.length:=O
 grind
theorem ya{f:Int->Option Bool}{p:Int->Bool}(c: ∀x∈l,f x=aa (p x))(d:l.length<n)(a:l.length<=1000000):ni n l f=aa (l.any p):=by
 obtain⟨r,e,h⟩:=Ay c d a;unfold ni xL
 grind
theorem xQ{f:aF->Option Bool}{p:aF->Bool}{l:List aF}(c: ∀x∈l,f x=aa (p x))(d:l.length<n)(a:l.length<=1000000):pg n l f=aa (l.any p):=by
 obtain⟨r,e,h⟩:=Ay c d a;unfold pg BX
 grind
theorem T4{f:Stmt->Option Bool}{p:Stmt->Bool}{l:List Stmt}(c: ∀x∈l,f x=aa (p x))(d:l.length<n)(a:l.length<=1000000):BV n l f=aa (l.any p):=by
 obtain⟨r,e,h⟩:=Ay c d a;unfold BV Ir
 grind
theorem Tv{f:b0->Option Bool}{p:b0->Bool}{l:List b0}(c: ∀x∈l,f x=aa (p x))(d:l.length<n)(a:l.length<=1000000):BP n l f=aa (l.any p):=by
 obtain⟨r,e,h⟩:=Ay c d a;unfold BP Ih
 grind
theorem p2{a:Type}{l:List a}{p:Nat->a->Bool}{Q:Bool->Prop}{k:(Int->Option Bool)->Int->Option Bool}(A:l.length<n)(s:l.length<=1000000)
  (d: ∀c (i:Nat) x,l[i]? =aa x->(p i x=ab->ad (c ((i:Int)+1)) Q)->(p i x=ak->Q ak)->ad (k c (i:Int)) Q)
  (o: ∀c,(∀(i:Nat) x,l[i]? =aa x->p i x=ab)->ad (k c (l.length:Int)) Q) (e:(∃(i:Nat) (x:a),l[i]? =aa x/\p i x=ak)->Q ak):ad (bj k n 0) Q:=by
 refine ad.loop (λx:Int=> ∃i:Nat,x=i/\i<=l.length/\ ∀(j:Nat) y,j<i->l[j]? =aa y->p j y=ab) (λx:Int=>l.length-x.toNat) ?_ n 0 ⟨0,rfl,O,λj y h=>O⟩ bZ;rintro c x ⟨i,rfl,B,C⟩ w;by_cases m:i<l.length
 ·have q:=bo m;refine d c i _ q (λr=>w _ ⟨i+1,O,O,λj y F G=>?_⟩ O) (λr=>e ⟨i,_,q,r⟩)
  grind
 have z:i=l.length:=O
 grind
def dc(a:aF):Bool:=ah (a.a1.length=4)&&(ah (-99<=a.const/\a.const<=99)&&a.a1.all λc=>decide (-9<=c/\c<=9))
theorem gV(h:dc a=ab):a.a1.length=4/\dj 99 a.const/\ ∀c∈a.a1,dj 9 c:=by simp only[dc,b5,decide_eq_true_eq,g'] at h;exact⟨h.1,h.2.1,h.2.2⟩
theorem kP(n:Nat)(x a b:Int):fX n x a b=aa (ah (a<=x/\x<=b)):=by unfold fX;by_cases c:a<=x<;>by_cases d:x<=b<;>simp[aE,c,d]
theorem R7(i:5000<=n)(a:aF)(k:a.a1.length<=1000):uT n a=aa (dc a):=by
 have h: ∀x∈a.a1,xP n x=aa (!decide (-9<=x/\x<=9)):=λx _=>by unfold xP;rw[kP];rfl
 have bN:=ya (n:=n) h O O;unfold uT E6;rw[kP];simp only[aE,bL];rw[bN];unfold dc;have e:(a.a1.any λx=> !decide (-9<=x/\x<=9))= !(a.a1.all λc=>decide (-9<=c/\c<=9)):=by
  grind
 rw[e];by_cases d:a.a1.length=4
 ·rw[bW (show(a.a1.length:Int)=4 by omega),bW d]
  grind
 rw[bT (show¬(a.a1.length:Int)=4 by omega),bT d];rfl
theorem DS(n:Nat)(x m:Int)(d:0<=m/\m<=1000000000):u' n x m=aa (ah (-m<=x/\x<=m)):=by
 unfold u';rw[bh O];by_cases a: -m<=x<;>by_cases c:x<=m
 ·simp[aE,a,c]
 ·simp[aE,a,c]
 ·simp[aE,a,c]
 simp[aE,a,c]
theorem Iq(A:5000<=n)(a:aF)(B:a.a1.length<=1000):sv n a=aa (dc a):=by
 refine ad.eq ?_;unfold sv;refine p2 (l:=a.a1) (p:=λ_ c=>decide (-9<=c/\c<=9)) O O (λd i x m o q=>?_) (λd k=>?_) (λ⟨i,x,m,r⟩=>?_)
 ·rw[bW (show(i:Int)<(a.a1.length:Int) by have:=(bX.1 m).1;omega)];refine ai (bq m) (ai (DS n x 9 O) ?_);have aP:=(bX.1 m).1;cases r:ah (-9<=x/\x<=9) with
  |true=>show ad (d _) _;rw[bh O];exact o r
  |false=>exact ad.some (q r)
 ·rw[bT (show¬(a.a1.length:Int)<(a.a1.length:Int) by omega)];have e:a.a1.all (λc=>decide (-9<=c/\c<=9))=ab:=gq.2 λc w=>by obtain⟨i,aP⟩:=ls w;exact k i c aP
  refine ad.cond (λh=>(by cases h)) λ_=>?_;unfold dc;rw[e];refine ad.aE (λz:Bool=>z=(ah (a.a1.length=4)&&(ah (-99<=a.const/\a.const<=99)&&ab))) (λj s=>?_) λz y=>ad.some y;refine aU (λh=>ai (DS n a.const 99 O) (s _ ?_)) λh=>s _ ?_
  ·rw[bW (O:a.a1.length=4)];simp
  rw[bT (show¬a.a1.length=4 by omega)];rfl
 unfold dc
 grind
def dK(a:aF)(p:List Int):Int:=a.const+dX a.a1 p
def Cq(M:Int)(p:List Int):Prop:= ∀x∈p,dj M x
theorem zI(c:dc a=ab)(l:p.length<=4)(d:0<=M/\M<=1000000000)(e:Cq M p)(i:Nat)(m:i<=p.length):dj 1000000000000 (a.const+dX a.a1 (p.take i)):=by
 obtain⟨n,o,h⟩:=gV c;have q:=GM (M:=M) d.1 (cs:=a.a1) (xs:=p.take i) h λx k=>e x (hv k);have r:(p.take i).length<=4:=bZ
 have s:9*M*((p.take i).length:Int)<=9*M*4:=Int.mul_le_mul_of_nonneg_left O O;simp only[dj] at*;omega
theorem Yi(G:5000<=n)(h:dc a=ab)(q:p.length<=4)(l:0<=M/\M<=1000000000)(m:Cq M p):nj n a p=aa (dK a p):=by
 obtain⟨H,K,y⟩:=gV h;refine ad.eq ?_;unfold nj;refine ad.loop (λx:Int×Int=> ∃i:Nat,x.2=i/\i<=p.length/\x.1=a.const+dX a.a1 (p.take i)) (λx=>p.length-x.2.toNat) ?_ n _ ⟨0,rfl,O,by simp[Ga]⟩ bZ;rintro o ⟨x,k⟩ ⟨i,r,z,s⟩ A;dsimp only at r s⊢;subst r;refine aU (λe=>?_) λB=>ad.some ?_
 ·have e:i<p.length:=O
  have c:=bo e;have d:=bo (O:i<a.a1.length);have cM:=M1 d c;have C:=zI h q l m i z;have w:=zI h q l m (i+1) O;rw[cM] at w;have F:=Bh O l.1 (y _ (bJ d)) (m _ (bJ c));refine ai (bq c) (ai (bq d) ?_);simp only[dj] at C w F;rw[bh (n:=a.a1[i]*p[i]) O,bh O,bh O];refine A _ ⟨i+1,J,O,?_⟩ J
  grind
 have:i=p.length:=O
 rw[s,this,dF];rfl
theorem Yv(Q:5000<=n)(e:dc a=ab)(r:p.length<=4)(l:0<=M/\M<=1000000000)(m:Cq M p):oC n a p=aa (dK a p):=by
 obtain⟨R,W,B⟩:=gV e;refine ad.eq ?_;unfold oC;refine ad.loop (λx:Int×Int=> ∃i:Nat,x.2=i/\i<=p.length/\x.1=a.const+dX a.a1 (p.take i)) (λx=>p.length-x.2.toNat) ?_ n _ ⟨0,rfl,O,by simp[Ga]⟩ bZ;rintro o ⟨x,k⟩ ⟨i,s,C,w⟩ F;dsimp only at s w⊢;subst s;refine ad.aE (λz=>z=ah (i<p.length)) (λj y=>aU (λh=>y _ ?_) λh=>y _ ?_) λz G=>?_
 ·rw[bW (O:i<p.length),bW (show(i:Int)<(a.a1.length:Int) by omega)]
 ·rw[bT (show¬i<p.length by omega)]
 subst G;refine aU (λq=>?_) λH=>ad.some ?_
 ·have c:=bo q;have d:=bo (O:i<a.a1.length);have cM:=M1 d c;have K:=zI e r l m i C;have A:=zI e r l m (i+1) O;rw[cM] at A;have L:=Bh O l.1 (B _ (bJ d)) (m _ (bJ c));refine ai (bq d) (ai (bq c) ?_);simp only[dj] at K A L;rw[bh (n:=a.a1[i]*p[i]) O,bh O,bh O];refine F _ ⟨i+1,J,O,?_⟩ J
  grind
 have:i=p.length:=O
 rw[w,this,dF];rfl
theorem b'(h:ad A Q):ad (bif ab then A else B) Q:=h
theorem cd(h:ad B Q):ad (bif ak then A else B) Q:=h
def eP:List Int->Nat
 | []=>0
 |c::cs=>if eP cs=0 then(if c=0 then 0 else 1) else eP cs+1
theorem Kd: ∀(l:List Int) (c:Int),eP (l++[c])=if c=0 then eP l else l.length+1
 | [],c=>by simp[eP]
 |d::l,c=>by
  have e:=Kd l c;simp only[List.cons_append,eP,e];by_cases a:c=0
  ·simp[a]
  simp[a]
theorem Kc(h:l[i]? =aa c):eP (l.take (i+1))=if c=0 then eP (l.take i) else i+1:=by have aP:=(bX.1 h).1;rw[ej,h];show eP (l.take i++[c])=_;rw[Kd,dr,yI (Nat.le_of_lt aP)]
theorem D3: ∀{l:List Int} {i:Nat} {c:Int},l[i]? =aa c->eP l<=i->c=0
 | [],i,c,h,_=>by simp at h
 |d::l,0,c,h,a=>by
  simp at h;subst h;simp only[eP] at a;by_cases e:eP l=0
  ·by_cases k:d=0
   ·exact k
   simp[e,k] at a
  simp[e] at a
 |d::l,i+1,c,h,a=>by
  have h:l[i]? =aa c:=by simpa using h
  refine D3 h ?_;simp only[eP] at a;by_cases e:eP l=0
  ·omega
  rw[aY e] at a;omega
def jM(a:aF):Prop:=a.a1.length<=1000
def kL(l:List aF):Prop:=l.length<=1000/\ ∀a∈l,jM a
theorem t7(s:5000<=n)(h:jM a):oz n a=aa (eP a.a1:Int):=by
 have h:a.a1.length<=1000:=h;refine ad.eq ?_;unfold oz;refine ad.loop (λx:Int×Int=> ∃i:Nat,x.2=i/\i<=a.a1.length/\x.1=(eP (a.a1.take i):Int)) (λx=>a.a1.length-x.2.toNat) ?_ n _ ⟨0,rfl,O,by simp[eP]⟩ bZ;rintro d ⟨x,k⟩ ⟨i,l,w,m⟩ p;dsimp only at l m⊢;subst l;refine aU (λc=>?_) λq=>ad.some ?_
 ·have c:i<a.a1.length:=O
  have bN:=bo c;have cM:=Kc bN;refine ad.aE (λz:Int=>z=(eP (a.a1.take (i+1)):Int)) (λj o=>ai (bq bN) (eO (λe=>o _ ?_) λe=>o _ ?_)) λz r=>?_
  ·rw[cM,aY e,bh O];omega
  ·rw[cM,aX e,m]
  rw[bh O];exact p _ ⟨i+1,J,O,r⟩ J
 have:i=a.a1.length:=O
 grind
theorem y5(r:5000<=n)(p:jM a):qE n a=aa (eP a.a1:Int):=by
 have p:a.a1.length<=1000:=p;refine ad.eq ?_;unfold qE;refine ad.loop (λx:Int=> ∃i:Nat,x=i/\i<=a.a1.length/\eP a.a1=eP (a.a1.take i)) (λx=>x.toNat) ?_ n _ ⟨a.a1.length,rfl,O,by rw[dF]⟩ bZ;rintro c x ⟨i,rfl,s,d⟩ q;cases i with
 |zero=>
  refine ad.aE (λz=>z=ak) (λj k=>aU (λh=>bz h (by decide)) λh=>k _ rfl) λz l=>?_;subst l;exact ad.some (by rw[d];rfl)
 |succ i=>
  have m:i<a.a1.length:=O
  have bN:=bo m;have cM:=Kc bN;have e:wr (((i+1:Nat):Int)-1)=(i:Int):=by rw[bh O];omega
  rw[e];refine ad.aE (λz=>z=ah (a.a1[i]=0)) (λj k=>aU (λh=>ai (bq bN) (k _ rfl)) λh=>bz (show(0:Int)<((i+1:Nat):Int) by omega) h) λz l=>?_;subst l;refine aU (λo=>?_) λo=>ad.some ?_
  ·exact q _ ⟨i,rfl,O,by rw[d,cM,aX o]⟩ O
  rw[d,cM,aY o]
def fg(a:aF)(d:Int):Bool:=dc a&&ah ((eP a.a1:Int)<=d)
def fi(l:List aF)(d:Int):Bool:=l.all (λa=>fg a d)&&ah (1<=l.length/\l.length<=2)
theorem Ic(a b:Int):ah (a<b)= !decide (b<=a):=by grind
theorem Kj(y:5000<=n){l:List aF}(C:kL l)(d:Int):wg n l d=aa (fi l d):=by
 obtain⟨H,F⟩:=C;refine ad.eq ?_;unfold wg;refine p2 (l:=l) (p:=λ_ a=>fg a d) O O (λk i x q r s=>?_) (λk m=>?_) (λ⟨i,x,q,K⟩=>?_)
 ·have aP:=(bX.1 q).1;have hm:=F x (bJ q);rw[bW (show(i:Int)<(l.length:Int) by omega)];refine b' (ad.aE (λz=>z= !fg x d) (λj o=>ai (bq q) (ai (Iq y x hm) ?_)) λz w=>?_)
  ·cases A:dc x with
   |false=>exact o _ (by unfold fg;rw[A];rfl)
   |true=>exact ai (t7 y hm) (o _ (by unfold fg;rw[A,Ic];simp))
  subst w;cases B:fg x d with
  |true=>show ad (k _) _;rw[bh O];exact r B
  |false=>exact ad.some (s B)
 ·rw[bT (show¬(l.length:Int)<(l.length:Int) by omega)];have e:l.all (λa=>fg a d)=ab:=gq.2 λc G=>by obtain⟨i,aP⟩:=ls G;exact m i c aP
  unfold fi;rw[e];refine cd (ad.aE (λz=>z=ah (1<=l.length/\l.length<=2)) (λj o=>aU (λh=>o _ ?_) λh=>o _ ?_) λz w=>ad.some (by rw[w];rfl))
  ·by_cases L:l.length<=2
   ·rw[bW (show(l.length:Int)<=2 by omega),bW O]
   rw[bT (show¬(l.length:Int)<=2 by omega),bT O]
  rw[bT O]
 unfold fi
 grind
theorem Ld(c:5000<=n)(e:jM a)(d:Int):uU n a d=aa (!fg a d):=by
 unfold uU;rw[R7 c a e];simp only[aE,bL];cases h:dc a with
 |false=>simp[fg,h]
 |true=>
  rw[y5 c e];simp only[fg,h,Bool.not_true,cond_false,Bool.true_and];rw[Ic]
theorem DF(n k:Nat):fX n (k:Int) 1 2=aa (ah (1<=k/\k<=2)):=by
 rw[kP];congr 1
 grind
theorem JD(c:5000<=n){l:List aF}(e:kL l)(d:Int):yv n l d=aa (fi l d):=by
 obtain⟨m,h⟩:=e;unfold yv;rw[DF];have bN:=xQ (n:=n) (f:=λi=>uU n i d) (p:=λa=> !fg a d) (l:=l) (λx k=>Ld c (h x k) d) O O;simp only[aE,bL];rw[bN];unfold fi
 grind
def wY{a:Type}(p:Nat->a->Bool)(l:List a):Bool:=l.zipIdx.all λq=>p q.2 q.1
theorem v6{a:Type}{p:Nat->a->Bool}{l:List a}(h: ∀(i:Nat) x,l[i]? =aa x->p i x=ab):wY p l=ab:=
 gq.2 λq c=>h q.2 q.1 (vD.1 c)
theorem CO{a:Type}{p:Nat->a->Bool}{l:List a}{x:a}(h:l[i]? =aa x)(c:p i x=ak):wY p l=ak:=
 mb.2 ⟨(x,i),vD.2 h,by rw[c];simp⟩
theorem La{a:Type}{p:Nat->a->Bool}{l:List a}(h:wY p l=ab){x:a}(c:l[i]? =aa x):p i x=ab:=
 gq.1 h (x,i) (vD.2 c)
def k0(a:List Loop):Bool:=wY (λi l=>fi l.lo (i:Int)&&fi l.aP (i:Int)) a&&ah (a.length<=4)
def qj(a:List Loop):Prop:=a.length<=1000/\ ∀l∈a,kL l.lo/\kL l.aP
theorem TU(m:5000<=n)(h:qj o):Dl n o=aa (k0 o):=by
 obtain⟨F,w⟩:=h;refine ad.eq ?_;unfold Dl;refine p2 (l:=o) (p:=λi l=>fi l.lo (i:Int)&&fi l.aP (i:Int)) O O (λa i x c e k=>?_) (λa d=>?_) (λ⟨i,x,c,y⟩=>?_)
 ·have aP:=(bX.1 c).1;obtain⟨A,B⟩:=w x (bJ c);rw[bW (show(i:Int)<(o.length:Int) by omega)];refine ai (bq c) (ad.aE (λz=>z= !(fi x.lo (i:Int)&&fi x.aP (i:Int))) (λj q=>ai (JD m A _) ?_) λz C=>?_)
  ·cases r:fi x.lo (i:Int) with
   |false=>exact q _ (by rw[r];rfl)
   |true=>exact ai (JD m B _) (q _ (by rw[r];rfl))
  subst C;cases s:(fi x.lo (i:Int)&&fi x.aP (i:Int)) with
  |true=>show ad (a _) _;rw[bh O];exact e s
  |false=>exact ad.some (k s)
 ·rw[bT (show¬(o.length:Int)<(o.length:Int) by omega)];refine ad.some ?_;unfold k0;rw[v6 d,gL]
  grind
 unfold k0;rw[CO c y];rfl
theorem TC(s:5000<=n)(h:qj o):De n o=aa (k0 o):=by
 obtain⟨H,B⟩:=h;unfold De;by_cases w:o.length<=4
 ·rw[bW (show(o.length:Int)<=4 by omega)];refine ad.eq ?_;refine p2 (l:=o) (p:=λi l=>fi l.lo (i:Int)&&fi l.aP (i:Int)) O O (λa i x d q r=>?_) (λa e=>?_) (λ⟨i,x,d,C⟩=>?_)
  ·have aP:=(bX.1 d).1;obtain⟨F,G⟩:=B x (bJ d);rw[bW (show(i:Int)<(o.length:Int) by omega)];refine ad.aE (λz=>z=ab) (λj c=>b' (c _ rfl)) λz m=>?_;subst m;refine b' (ad.aE (λz=>z= !(fi x.lo (i:Int)&&fi x.aP (i:Int))) (λj c=>ai (bq d) (ai (Kj s F _) ?_)) λz m=>?_)
   ·cases y:fi x.lo (i:Int) with
    |false=>exact c _ (by rw[y];rfl)
    |true=>exact ai (Kj s G _) (c _ (by rw[y];rfl))
   subst m;cases A:(fi x.lo (i:Int)&&fi x.aP (i:Int)) with
   |true=>show ad (a _) _;rw[bh O];exact q A
   |false=>exact ad.some (r A)
  ·rw[bT (show¬(o.length:Int)<(o.length:Int) by omega)];refine ad.aE (λz=>z=ak) (λj c=>cd (c _ rfl)) λz m=>?_;subst m;refine ad.some ?_;unfold k0;rw[v6 e,bW w];rfl
  unfold k0;rw[CO d C];rfl
 obtain⟨k,rfl⟩: ∃k,n=k+1:=⟨n-1,O⟩
 rw[bT (show¬(o.length:Int)<=4 by omega)];unfold k0;rw[bT w,mU];simp only[bj,aE]
 grind
def kn:List Int->Int
 | []=>0
 |x::a=>a.foldl max x
def nv:List Int->Int
 | []=>0
 |x::a=>a.foldl min x
theorem abp(h:l≠[])(x:Int):kn (l++[x])=max (kn l) x:=by
 cases l with
 |nil=>exact bz rfl h
 |cons a l=>simp[kn,List.foldl_append]
theorem abt(h:l≠[])(x:Int):nv (l++[x])=min (nv l) x:=by
 cases l with
 |nil=>exact bz rfl h
 |cons a l=>simp[nv,List.foldl_append]
theorem Py: ∀(l:List Int) (a:Int),a<=l.foldl max a
 | [],a=>fM _
 |x::l,a=>Int.le_trans (Int.le_max_left a x) (Py l (max a x))
theorem PA: ∀(l:List Int) (a:Int),l.foldl min a<=a
 | [],a=>fM _
 |x::l,a=>Int.le_trans (PA l (min a x)) (Int.min_le_left a x)
def iH(l:List aF)(p:List Int):List Int:=l.map λa=>dK a p
def c3(l:Loop)(p:List Int):Int:=kn (iH l.lo p)
def dG(l:Loop)(p:List Int):Int:=nv (iH l.aP p)
def hV(k:Nat)(p:List Int):Prop:=p.length=k/\k<=4/\Cq (100*40^k) p
theorem rS(h:k<=4):(0:Int)<=100*40^k/\(100:Int)*40^k<=1000000000:=by
 match k,h with
 |0,_=>decide
 |1,_=>decide
 |2,_=>decide
 |3,_=>decide
 |4,_=>decide
theorem qd{l:List aF}(h:fi l d=ab):1<=l.length/\l.length<=2/\ ∀a∈l,dc a=ab:=by
 simp only[fi,b5,decide_eq_true_eq,g'] at h;refine⟨h.2.1,h.2.2,λa c=>?_⟩
 have:=h.1 a c;simp only[fg,b5] at this
 grind
theorem O2(c:dc a=ab)(d:hV k p)(e:k<=3): -(40*(100*40^k))<=dK a p/\dK a p<=40*(100*40^k):=by
 obtain⟨n,o,h⟩:=gV c;obtain⟨q,r,i⟩:=d;obtain⟨l,s⟩:=rS (k:=k) O;have w:(100:Int)<=100*40^k:=by
  match k,e with
  |0,_=>decide
  |1,_=>decide
  |2,_=>decide
  |3,_=>decide
 generalize (100*40^k:Int)=M at*;have y:=GM (M:=M) l (cs:=a.a1) (xs:=p) h λx m=>i x m;have z:9*M*(p.length:Int)<=9*M*3:=Int.mul_le_mul_of_nonneg_left O O;simp only[dj] at*;unfold dK;omega
theorem xb(d:5000<=n)(e:dc a=ab)(c:hV k p):oC n a p=aa (dK a p):=
 Yv d e (by have:=c.1;have:=c.2.1;omega) (rS c.2.1) c.2.2
theorem ub(d:5000<=n)(e:dc a=ab)(c:hV k p):nj n a p=aa (dK a p):=
 Yi d e (by have:=c.1;have:=c.2.1;omega) (rS c.2.1) c.2.2
theorem oF{l:List aF}(h:l[i]? =aa a):(iH l p)[i]? =aa (dK a p):=by unfold iH;rw[List.getElem?_map,h];rfl
theorem AN(l:List aF)(p:List Int):(iH l p).length=l.length:=dz ..
theorem NN{a:Type}{l:List a}(h:1<=i)(c:1<=l.length):l.take i≠[]:=by
 intro e
 have:(l.take i).length=0:=by rw[e];rfl
 grind
theorem Oq(h:l[i]? =aa x)(a:1<=i):kn (l.take (i+1))=max (kn (l.take i)) x:=by have:=(bX.1 h).1;rw[ej,h];exact abp (NN a O) x
theorem Ot(h:l[i]? =aa x)(a:1<=i):nv (l.take (i+1))=min (nv (l.take i)) x:=by have:=(bX.1 h).1;rw[ej,h];exact abt (NN a O) x
theorem Gx(h:l[0]? =aa x):kn (l.take 1)=x:=by
 cases l with
 |nil=>simp at h
 |cons a l=>simp at h;subst h;rfl
theorem Gy(h:l[0]? =aa x):nv (l.take 1)=x:=by
 cases l with
 |nil=>simp at h
 |cons a l=>simp at h;subst h;rfl
theorem KQ(r:5000<=n){l:Loop}{a:Int}(W:fi l.lo d=ab)(X:fi l.aP a=ab)(s:hV k p):yS n l p=aa (c3 l p,dG l p):=by
 obtain⟨aS,a2,a3⟩:=qd W;obtain⟨f,t,R⟩:=qd X;have C:=bo (O:0<l.lo.length);have F:=bo (O:0<l.aP.length);refine ad.eq ?_;unfold yS;refine ai (bq (i:=0) C) (ai (xb r (a3 _ (bJ C)) s) (ai (bq (i:=0) F) (ai (xb r (R _ (bJ F)) s) ?_)));refine ad.loop (λx:Int×Int=> ∃i:Nat,x.2=i/\1<=i/\i<=l.lo.length/\x.1=kn ((iH l.lo p).take i)) (λx=>l.lo.length-x.2.toNat) ?_ n _ ⟨1,rfl,O,O,(Gx (oF C)).symm⟩ J;rintro G ⟨x,z⟩ ⟨i,c,m,Z,w⟩ b;dsimp only at c w⊢;subst c;refine aU (λH=>?_) λK=>?_
 ·have g:=bo (O:i<l.lo.length);have e:=Oq (oF (p:=p) g) m;refine ad.aE (λz=>z=kn ((iH l.lo p).take (i+1))) (λj q=>ai (bq g) (ai (xb r (a3 _ (bJ g)) s) (aU (λh=>q _ ?_) λh=>q _ ?_))) λz c=>?_
  ·rw[e,<-w];omega
  ·rw[e,<-w];omega
  rw[bh O];exact b _ ⟨i+1,J,O,O,c⟩ J
 have o:i=l.lo.length:=O
 have L:x=c3 l p:=by rw[w,o,<-AN l.lo p,dF];rfl
 refine ad.loop (λx:Int×Int=> ∃i:Nat,x.2=i/\1<=i/\i<=l.aP.length/\x.1=nv ((iH l.aP p).take i)) (λx=>l.aP.length-x.2.toNat) ?_ n _ ⟨1,rfl,O,O,(Gy (oF F)).symm⟩ J;rintro A ⟨y,z⟩ ⟨i,c,m,Z,B⟩ Q;dsimp only at c B⊢;subst c;refine aU (λH=>?_) λK=>ad.some ?_
 ·have g:=bo (O:i<l.aP.length);have e:=Ot (oF (p:=p) g) m;refine ad.aE (λz=>z=nv ((iH l.aP p).take (i+1))) (λj q=>ai (bq g) (ai (xb r (R _ (bJ g)) s) (aU (λh=>q _ ?_) λh=>q _ ?_))) λz c=>?_
  ·rw[e,<-B];omega
  ·rw[e,<-B];omega
  rw[bh O];exact Q _ ⟨i+1,J,O,O,c⟩ J
 have o:i=l.aP.length:=O
 rw[L,B,o,<-AN l.aP p,dF];rfl
theorem Yc(h:5000<=n){l:Loop}{a:Int}(K:fi l.lo d=ab)(L:fi l.aP a=ab)(m:hV k p):Dn n l p=aa (c3 l p,dG l p):=by
 obtain⟨aS,a2,a3⟩:=qd K;obtain⟨W,X,H⟩:=qd L;have s:=bo (O:0<l.lo.length);have w:=bo (O:0<l.aP.length);refine ad.eq ?_;unfold Dn;refine ai (bq (i:=0) s) (ai (ub h (a3 _ (bJ s)) m) (ai (bq (i:=0) w) (ai (ub h (H _ (bJ w)) m) ?_)));refine ad.loop (λx:Int×Int=> ∃i:Nat,x.2=i/\i<=l.lo.length/\x.1=kn ((iH l.lo p).take (max i 1))) (λx=>l.lo.length-x.2.toNat) ?_ n _ ⟨0,rfl,O,(Gx (oF s)).symm⟩ J;rintro A ⟨x,z⟩ ⟨i,e,Q,o⟩ R;dsimp only at e o⊢;subst e;refine aU (λB=>?_) λC=>?_
 ·have g:=bo (O:i<l.lo.length);refine ai (bq g) (ai (ub h (a3 _ (bJ g)) m) ?_);rw[bh O];refine R _ ⟨i+1,J,O,?_⟩ J;dsimp only;rw[show max (i+1) 1=i+1 by omega];cases i with
  |zero=>rw[o,show max 0 1=1 by rfl,eg,Gx (oF g)];omega
  |succ i=>rw[Oq (oF (p:=p) g) O,o,show max (i+1) 1=i+1 by omega]
 have c:i=l.lo.length:=O
 have F:x=c3 l p:=by rw[o,c,Nat.max_eq_left O,<-AN l.lo p,dF];rfl
 refine ad.loop (λx:Int×Int=> ∃i:Nat,x.2=i/\i<=l.aP.length/\x.1=nv ((iH l.aP p).take (max i 1))) (λx=>l.aP.length-x.2.toNat) ?_ n _ ⟨0,rfl,O,(Gy (oF w)).symm⟩ J;rintro q ⟨y,z⟩ ⟨i,e,Q,r⟩ G;dsimp only at e r⊢;subst e;refine aU (λB=>?_) λC=>ad.some ?_
 ·have g:=bo (O:i<l.aP.length);refine ai (bq g) (ai (ub h (H _ (bJ g)) m) ?_);rw[bh O];refine G _ ⟨i+1,J,O,?_⟩ J;dsimp only;rw[show max (i+1) 1=i+1 by omega];cases i with
  |zero=>rw[r,show max 0 1=1 by rfl,eg,Gy (oF g)];omega
  |succ i=>rw[Ot (oF (p:=p) g) O,r,show max (i+1) 1=i+1 by omega]
 have c:i=l.aP.length:=O
 rw[F,r,c,Nat.max_eq_left O,<-AN l.aP p,dF];rfl
theorem AH{l:Loop}(n:fi l.lo d=ab)(o:fi l.aP b=ab)(e:hV k p)(i:k<=3)(A:c3 l p<=v/\v<dG l p):hV (k+1) (p++[v]):=by
 obtain⟨aS,a2,a3⟩:=qd n;obtain⟨m,B,r⟩:=qd o;have C: -(40*(100*40^k))<=c3 l p:=by
  cases c:l.lo with
  |nil=>rw[c] at aS;simp at aS
  |cons a as=>
   have:=(O2 (a3 a (by rw[c];simp)) e i).1;unfold c3 iH;rw[c];exact Int.le_trans this (Py _ _)
 have F:dG l p<=40*(100*40^k):=by
  cases c:l.aP with
  |nil=>rw[c] at m;simp at m
  |cons a as=>
   have:=(O2 (r a (by rw[c];simp)) e i).2;unfold dG iH;rw[c];exact Int.le_trans (PA _ _) this
 obtain⟨s,G,w⟩:=e;have y:(100*40^(k+1):Int)=40*(100*40^k):=by rw[Int.pow_succ];omega
 have q:=(rS (k:=k) O).1;refine⟨by simp[s],O,λx z=>?_⟩;rw[y];rcases eS.1 z with h|h
 ·have:=w x h;simp only[dj] at this⊢;omega
 simp at h;subst h;simp only[dj];omega
def dE:List Loop->List Int->List (List Int)
 | [],p=>[p]
 |l::bH,p=>(c5 (c3 l p) (dG l p)).flatMap λv=>dE bH (p++[v])
def fN:List Loop->List Int->Int
 | [],_=>1
 |l::bH,p=>1+((c5 (c3 l p) (dG l p)).map λv=>fN bH (p++[v])).sum
theorem nE{a:Type}(f:a->Int): ∀(l:List a),(∀x∈l,1<=f x)->(l.length:Int)<=(l.map f).sum
 | [],_=>aW
 |x::l,h=>by have d:=nE f l λy c=>h y (by simp[c]);have e:=h x aW;simp only[hX,List.sum_cons,List.length_cons];omega
theorem A3: ∀(bH:List Loop) (p:List Int),1<=fN bH p
 | [],p=>fM _
 |l::bH,p=>by have:=nE (λv=>fN bH (p++[v])) (c5 (c3 l p) (dG l p)) λv _=>A3 bH _;simp only[fN];omega
def Fit(a:List Loop):Prop:=a.length<=4/\ ∀(i:Nat) l,a[i]? =aa l->fi l.lo (i:Int)=ab/\fi l.aP (i:Int)=ab
theorem Ba{nest:List Loop}(h:k0 nest=ab):Fit nest:=by
 simp only[k0,b5,decide_eq_true_eq] at h;refine⟨h.2,λi l a=>?_⟩
 have:=La h.1 a
 grind
theorem zJ{l:Loop}{q:List Loop}(h:o.drop k=l::q):o[k]? =aa l/\o.drop (k+1)=q/\k<o.length:=by
 have a:(o.drop k)[0]? =aa l:=by rw[h];rfl
 rw[il,rl] at a;refine⟨a,?_,(bX.1 a).1⟩
 have:(o.drop k).drop 1=q:=by rw[h];rfl
 rwa [List.drop_drop] at this
theorem Aw(h:o.drop k=[])(a:k<=o.length):k=o.length:=by
 have:(o.drop k).length=0:=by rw[h];rfl
 grind
theorem nk(p:List Int)(h:p.length<=1000):app [] p=aa p:=by rw[cU bZ];rfl
theorem MS(l:List Int)(f:Int->Int)(v:Int):((l++[v]).map f).sum=(l.map f).sum+f v:=aW
theorem abO{lo:Int}(h:lo<=v):((c5 lo v).length:Int)=v-lo:=by unfold c5;simp;omega
theorem LS{c:List Loop}(C:Fit c): ∀(bH:List Loop) (n k:Nat) (p:List Int) (a:Int),5000+bH.length<=n->c.drop k=bH->k<=c.length->hV k p->0<=a->a<=1200->
  ad (q8 n c p a) (λr=>(fN bH p<=a->r=fN bH p)/\(a<fN bH p->a<r)/\1<=r/\r<=a+1)
 | [],n,k,p,a,Q,F,R,o,M,N=>by
  obtain⟨n,rfl⟩: ∃j,n=j+1:=⟨n-1,O⟩
  have P:=Aw F R;have q:=o.1;unfold q8;rw[bW (show(p.length:Int)=(c.length:Int) by omega)];exact ad.some ⟨λ_=>rfl,λh=>by simp only[fN] at h;omega,O,O⟩
 |l::bH,n,k,p,a,Q,F,R,o,M,N=>by
  obtain⟨n,rfl⟩: ∃j,n=j+1:=⟨n-1,O⟩
  obtain⟨W,S,d3⟩:=zJ F;obtain⟨X,Z⟩:=C.2 k l W;have q:=o.1;have G:k<=3:=by have:=C.1;omega
  simp only[List.length_cons] at Q;unfold q8;rw[bT (show¬(p.length:Int)=(c.length:Int) by omega)];refine cd (ai (x:=l) (by rw[q];exact bq W) (ai (KQ O X Z o) ?_));let f:Int->Int:=λv=>fN bH (p++[v]);have s: ∀v,1<=f v:=λv=>A3 _ _;have T:fN (l::bH) p=1+((c5 (c3 l p) (dG l p)).map f).sum:=rfl;refine ad.loop (λx:Int×Int=>c3 l p<=x.2/\(x.2<=dG l p\/x.2=c3 l p)/\(1+((c5 (c3 l p) x.2).map f).sum<=a->x.1=1+((c5 (c3 l p) x.2).map f).sum)/\(a<1+((c5 (c3 l p) x.2).map f).sum->a<x.1)/\1<=x.1/\x.1<=a+1)
   (λx=>(a+1-x.1).toNat) ?_ n _ ⟨fM _,.inr rfl,λ_=>by rw[lY (fM _)];rfl,λh=>by rw[lY (fM _)] at h;simp at h;dsimp only;omega,J,J⟩ J
  rintro H ⟨x,v⟩ ⟨B,b,K,L,g,t⟩ U;dsimp only at B b K L g t⊢;refine ad.aE (λz=>z=ah (v<dG l p/\x<=a)) (λj u=>aU (λh=>u _ ?_) λh=>u _ ?_) λz V=>?_
  ·by_cases e:x<=a
   ·rw[bW e,bW ⟨h,e⟩]
   rw[bT e,bT λh=>e h.2]
  ·rw[bT λD=>h D.1]
  subst V;refine aU (λ⟨i,e⟩=>?_) λw=>ad.some ?_
  ·have A:x=1+((c5 (c3 l p) v).map f).sum:=K (by apply Int.not_lt.1;intro h;have:=L h;omega);have m:=AH X Z o G ⟨B,i⟩;have e1:wr (a-x)=a-x:=by rw[bh O]
   rw[e1];refine ai (nk p O) (ai (cU bZ) (cB (LS C bH n (k+1) (p++[v]) (a-x) O S O m O O) λr ⟨sQ,vh,ajN,ajO⟩=>?_));have aiG:v<dG l p:=i;have QJ: -1000000000<=v/\v<=1000000000:=by
    have h9:=m.2.2 v aW;have pt:=rS m.2.1;simp only[dj] at h9;omega
   rw[bh (n:=v+1) O,bh (n:=x+r) O];have E:1+((c5 (c3 l p) (v+1)).map f).sum=x+f v:=by rw[sX B,MS,A];omega
   refine U _ ⟨J,.inl J,?_,?_,J,J⟩ J
   ·dsimp only;rw[E];intro h
    have:r=f v:=sQ (O:f v<=a-x);omega
   dsimp only;rw[E];intro h
   have:a-x<r:=vh (O:a-x<f v);omega
  have d:1+((c5 (c3 l p) v).map f).sum<=fN (l::bH) p/\(dG l p<=v->1+((c5 (c3 l p) v).map f).sum=fN (l::bH) p):=by
   rw[T];by_cases h:v<dG l p
   ·refine⟨?_,λD=>O⟩;rw[zv B h,eZ,List.sum_append,vF,List.sum_cons]
    have:=nE f (c5 (v+1) (dG l p)) λy _=>s y
    have:=s v;omega
   have:c5 (c3 l p) v=c5 (c3 l p) (dG l p):=by
    rcases b with I|I
    ·rw[show v=dG l p by omega]
    subst I;rw[lY (fM _),lY O]
   rw[this];exact⟨fM _,λ_=>rfl⟩
  refine⟨λh=>?_,λh=>?_,g,t⟩
  ·have e:=K O;rw[e];apply d.2;apply Int.not_lt.1;intro i;exact w ⟨i,O⟩
  apply Int.not_le.1;intro e;have i:dG l p<=v:=by apply Int.not_lt.1;intro i;exact w ⟨i,e⟩
  have:=L (by rw[d.2 i];exact h);omega
theorem DT{a:List Loop}(B:Fit a): ∀(bH:List Loop) (n k:Nat) (p:List Int) (out:List (List Int)),5000+bH.length<=n->a.drop k=bH->k<=a.length->hV k p->fN bH p<=1200->out.length<=120->
  ad (p0 n out a p) (λr=>(out.length+(dE bH p).length<=120->r=out++dE bH p)/\(120<out.length+(dE bH p).length->120<r.length))
 | [],n,k,p,out,W,C,X,q,Z,S=>by
  obtain⟨n,rfl⟩: ∃j,n=j+1:=⟨n-1,O⟩
  have T:=Aw C X;have s:=q.1;have F:=B.1;unfold p0;rw[bW (show(p.length:Int)=(a.length:Int) by omega)];refine b' (ai (nk p O) (ai (cU bZ) (ad.some ⟨λ_=>rfl,λh=>by simp[dE] at h ⊢; omega⟩)))
 |l::bH,n,k,p,out,W,C,X,q,Z,S=>by
  obtain⟨n,rfl⟩: ∃j,n=j+1:=⟨n-1,O⟩
  obtain⟨b,U,d3⟩:=zJ C;obtain⟨t,u⟩:=B.2 k l b;have s:=q.1;have F:=B.1;have G:k<=3:=O
  simp only[List.length_cons] at W;unfold p0;rw[bT (show¬(p.length:Int)=(a.length:Int) by omega)];refine cd (ai (x:=l) (by rw[s];exact bq b) (ai (KQ O t u q) ?_));let f:Int->Int:=λv=>fN bH (p++[v]);have i: ∀v,1<=f v:=λv=>A3 _ _;have V:fN (l::bH) p=1+((c5 (c3 l p) (dG l p)).map f).sum:=rfl;let g:Int->List (List Int):=λv=>dE bH (p++[v]);have xq:dE (l::bH) p=(c5 (c3 l p) (dG l p)).flatMap g:=rfl;have D:c3 l p<=dG l p->dG l p-c3 l p<=1199:=λH=>by
   have:=nE f (c5 (c3 l p) (dG l p)) λy _=>i y
   have:=abO H;omega
  refine ad.loop (λx:List (List Int)×Int=>c3 l p<=x.2/\(x.2<=dG l p\/x.2=c3 l p)/\(out.length+((c5 (c3 l p) x.2).flatMap g).length<=120->x.1=out++(c5 (c3 l p) x.2).flatMap g)/\(120<out.length+((c5 (c3 l p) x.2).flatMap g).length->120<x.1.length))
   (λx=>(dG l p-x.2).toNat) ?_ n _ ⟨fM _,.inr rfl,λ_=>by rw[lY (fM _)];simp,λh=>by rw[lY (fM _)] at h;simp at h;omega⟩ J
  rintro K ⟨x,v⟩ ⟨w,E,L,Q⟩ b3;dsimp only at w E L Q⊢;refine ad.aE (λz=>z=ah (v<dG l p/\x.length<=120)) (λj I=>aU (λh=>I _ ?_) λh=>I _ ?_) λz e4=>?_
  ·by_cases d:x.length<=120
   ·rw[bW (show(x.length:Int)<=120 by omega),bW ⟨h,d⟩]
   rw[bT (show¬(x.length:Int)<=120 by omega),bT λh=>d h.2]
  ·rw[bT λM=>h M.1]
  subst e4;refine aU (λ⟨e,d⟩=>?_) λA=>ad.some ?_
  ·have m:x=out++(c5 (c3 l p) v).flatMap g:=L (by apply Nat.not_lt.1;intro h;have:=Q h;omega);have o:=AH t u q G ⟨w,e⟩;have R:f v<=1200:=by
    rw[V,zv w e,eZ,List.sum_append,vF,List.sum_cons] at Z
    have:=nE f (c5 (v+1) (dG l p)) λy _=>i y
    have:=nE f (c5 (c3 l p) v) λy _=>i y;omega
   refine ai (nk p O) (ai (cU bZ) (cB (DT B bH n (k+1) (p++[v]) x O U O o R d) λr ⟨sQ,vh⟩=>?_));have QJ: -1000000000<=v/\v<=1000000000:=by
    have h9:=o.2.2 v aW;have pt:=rS o.2.1;simp only[dj] at h9;omega
   rw[bh (n:=v+1) O];have N:(c5 (c3 l p) (v+1)).flatMap g=(c5 (c3 l p) v).flatMap g++g v:=by rw[sX w,l8];simp
   refine b3 _ ⟨J,.inl J,?_,?_⟩ J
   ·dsimp only;rw[N];intro h;simp only[rz] at h;have cC:x.length=out.length+((c5 (c3 l p) v).flatMap g).length:=by rw[m,dp]
    rw[sQ (O:x.length+(g v).length<=120),m,fr]
   dsimp only;rw[N];intro h;simp only[rz] at h;have cC:x.length=out.length+((c5 (c3 l p) v).flatMap g).length:=by rw[m,dp]
   exact vh (O:120<x.length+(g v).length)
  have c:((c5 (c3 l p) v).flatMap g).length<=(dE (l::bH) p).length/\(dG l p<=v->(c5 (c3 l p) v).flatMap g=dE (l::bH) p):=by
   rw[xq];by_cases h:v<dG l p
   ·refine⟨?_,λM=>O⟩;rw[zv w h,l8,dp];omega
   have:c5 (c3 l p) v=c5 (c3 l p) (dG l p):=by
    rcases E with P|P
    ·rw[show v=dG l p by omega]
    subst P;rw[lY (fM _),lY O]
   rw[this];exact⟨cV _,λ_=>rfl⟩
  refine⟨λh=>?_,λh=>?_⟩
  ·have d:=L O;rw[d,c.2];apply Int.not_lt.1;intro e;exact A ⟨e,by rw[d,dp];omega⟩
  apply Nat.not_le.1;intro d;have e:dG l p<=v:=by apply Int.not_lt.1;intro e;exact A ⟨e,d⟩
  have:=Q (by rw[c.2 e];exact h);omega
theorem LM{a:List Loop}(B:Fit a): ∀(bH:List Loop) (n k:Nat) (p:List Int) (st:Int) (out:List (List Int)),5000+bH.length<=n->a.drop k=bH->k<=a.length->hV k p->0<=st->st<=1199->out.length<=120->
  ad (qS n ⟨a,st,out⟩ p) (λr=>(st+fN bH p<=1200/\out.length+(dE bH p).length<=120->r=(ab,⟨a,st+fN bH p-1,out++dE bH p⟩))/\(¬(st+fN bH p<=1200/\out.length+(dE bH p).length<=120)->r.1=ak))
 | [],n,k,p,st,out,X,F,Z,m,b,t,q=>by
  obtain⟨n,rfl⟩: ∃j,n=j+1:=⟨n-1,O⟩
  have pv:=Aw F Z;have s:=m.1;have G:=B.1;unfold qS;dsimp only;rw[bW (show(p.length:Int)=(a.length:Int) by omega)];have d:iN p=aa p:=by unfold iN;rw[aX O]
  refine b' (ai d (ai (cU bZ) (ad.some ⟨λh=>?_,λh=>?_⟩)))
  ·simp only[fN,dE,List.length_singleton] at h⊢;rw[bW bZ,show st+1-1=st by omega]
  simp only[fN,dE,List.length_singleton] at h⊢;exact bT bZ
 |l::bH,n,k,p,st,out,X,F,Z,m,b,t,q=>by
  obtain⟨n,rfl⟩: ∃j,n=j+1:=⟨n-1,O⟩
  obtain⟨u,d2,d3⟩:=zJ F;obtain⟨D,E⟩:=B.2 k l u;have s:=m.1;have G:=B.1;have H:k<=3:=O
  simp only[List.length_cons] at X;unfold qS;dsimp only;rw[bT (show¬(p.length:Int)=(a.length:Int) by omega)];refine cd (ai (x:=l) (by rw[s];exact bq u) (ai (Yc O D E m) ?_));let f:Int->Int:=λv=>fN bH (p++[v]);have c: ∀v,1<=f v:=λv=>A3 _ _;have I:fN (l::bH) p=1+((c5 (c3 l p) (dG l p)).map f).sum:=rfl;let g:Int->List (List Int):=λv=>dE bH (p++[v]);have M:dE (l::bH) p=(c5 (c3 l p) (dG l p)).flatMap g:=rfl;refine ad.loop (λx:List Loop×Int×List (List Int)×Int=>x.1=a/\c3 l p<=x.2.2.2/\(x.2.2.2<=dG l p\/x.2.2.2=c3 l p)/\x.2.1=st+((c5 (c3 l p) x.2.2.2).map f).sum/\x.2.2.1=out++(c5 (c3 l p) x.2.2.2).flatMap g/\0<=x.2.1/\x.2.1<=1199/\x.2.2.1.length<=120)
   (λx=>(1200-x.2.1).toNat) ?_ n _ ⟨rfl,fM _,.inr rfl,by dsimp only;rw[lY (fM _)];simp,by dsimp only;rw[lY (fM _)];simp,b,t,q⟩ J
  rintro K ⟨L,x,o,v⟩ ⟨N,w,P,C,i,i5,i6,S⟩ b3;dsimp only at N w P C i i5 i6 S⊢;subst N;have ns:o.length=out.length+((c5 (c3 l p) v).flatMap g).length:=by rw[i,dp]
  refine aU (λQ=>?_) λQ=>ad.some ?_
  ·have e:=AH D E m H ⟨w,Q⟩;have R:fN (l::bH) p≥1+((c5 (c3 l p) v).map f).sum+f v/\(dE (l::bH) p).length≥((c5 (c3 l p) v).flatMap g).length+(g v).length:=by
    rw[I,M,zv w Q,eZ,List.sum_append,vF,List.sum_cons,l8,dp,mR,dp]
    have:=nE f (c5 (v+1) (dG l p)) λy _=>c y;constructor
    ·omega
    omega
   have QJ: -1000000000<=v/\v<=1000000000:=by
    have h9:=e.2.2 v aW;have pt:=rS e.2.1;simp only[dj] at h9;omega
   have e1:wr (x+1)=x+1:=by rw[bh O]
   have e2:wr (x+1+1)=x+1+1:=by rw[bh O]
   have mu:wr (v+1)=v+1:=by rw[bh O]
   rw[e1,e2,mu];refine ad.aE (λz:List Loop×Int×List (List Int)×Bool=>(z.2.2.2=ak->z.1=L/\x+f v<=1199/\o.length+(g v).length<=120/\z.2.1=x+f v/\z.2.2.1=o++g v)/\(z.2.2.2=ab-> ¬(st+fN (l::bH) p<=1200/\out.length+(dE (l::bH) p).length<=120)))
    (λj W=>aU (λh=>W _ ⟨λh'=>(by cases h'),λ_=>?_⟩) λh=>?_) λz e4=>?_
   ·have:=c v;omega
   ·have d:iN p=aa p:=by unfold iN;rw[aX O]
    refine ai d (ai (cU bZ) (cB (LM B bH n (k+1) (p++[v]) (x+1) o O d2 O e O O S) λr ⟨sQ,vh⟩=>?_));by_cases d:x+1+f v<=1200/\o.length+(g v).length<=120
    ·rw[sQ d];exact W _ ⟨λ_=>⟨rfl,O,d.2,show x+1+f v-1=x+f v by omega,rfl⟩,λh=>(by cases h)⟩
    have A:=vh d;obtain⟨ajP,⟨d',ajQ,ro⟩⟩:=r;dsimp only at A⊢;subst A;exact W _ ⟨λh=>(by cases h),λ_=>O⟩
   obtain⟨Je,ajT,ajU,ajF⟩:=z;obtain⟨T,U⟩:=e4;dsimp only at T U⊢;cases ajF with
   |true=>exact ad.some ⟨λh=>bz h (U rfl),λ_=>rfl⟩
   |false=>
    obtain⟨rfl,ajS,ajy,ajz,V⟩:=T rfl;refine b3 _ ⟨rfl,J,.inl J,?_,?_,by dsimp only;have:=c v;omega,J,?_⟩ (by dsimp only;have:=c v;omega)
    ·dsimp only;rw[sX w,MS,ajz,C];omega
    ·dsimp only;rw[V,i,sX w,l8];simp
    dsimp only;rw[V,dp];exact ajy
  have:c5 (c3 l p) v=c5 (c3 l p) (dG l p):=by
   rcases P with q|q
   ·rw[show v=dG l p by omega]
   subst q;rw[lY (fM _),lY O]
  rw[this] at C i ns;rw[<-M] at i ns;refine⟨λh=>?_,λh=>?_⟩
  ·rw[i,C,I,show st+(1+((c5 (c3 l p) (dG l p)).map f).sum)-1=st+((c5 (c3 l p) (dG l p)).map f).sum by omega]
  exact bz ⟨O,O⟩ h
def jL(a:List Loop):Option (List (List Int)):=if k0 a=ab/\fN a []<=1200/\(dE a []).length<=120 then aa (dE a []) else none
def r0:Option (List (List Int))->List (List Int)×Bool
 |none=>([],ak)
 |some l=>(l,ab)
theorem yd:hV 0 []:=⟨rfl,O,λx h=>by cases h⟩
theorem Tt(k:6000<=n)(h:qj o):CQ n o=aa (r0 (jL o)):=by
 refine ad.eq ?_;unfold CQ;refine ai (TU O h) ?_;unfold jL;cases d:k0 o with
 |false=>exact ad.some (by simp[r0])
 |true=>
  have c:=Ba d;refine cB (LM c o n 0 [] 0 [] (by have:=c.1;omega) rfl O yd O O aW) λr ⟨e,i⟩=>?_;by_cases a:(0:Int)+fN o []<=1200/\([]:List (List Int)).length+(dE o []).length<=120
  ·rw[e a,aX ⟨rfl,O,by simpa using a.2⟩];exact ad.some (by simp[r0])
  rw[i a,aY λh=>a ⟨O,by simpa using h.2.2⟩];exact ad.some rfl
theorem Tq(p:6000<=n)(h:qj o):CM n o=aa (r0 (jL o)):=by
 refine ad.eq ?_;unfold CM;refine ad.aE (λz=>z= !(k0 o&&ah (fN o []<=1200))) (λj l=>ai (TC O h) ?_) λz m=>?_
 ·cases c:k0 o with
  |false=>exact l _ (by rw[c];rfl)
  |true=>
   have d:=Ba c;refine cB (LS d o n 0 [] 1200 (by have:=d.1;omega) rfl O yd O O) λr ⟨e,i,q,s⟩=>l _ ?_;rw[c,gL];by_cases a:fN o []<=1200
   ·rw[bW a,bT (by rw[e a];omega)];rfl
   rw[bT a,bW (i O)];rfl
 subst m;unfold jL;cases c:k0 o with
 |false=>exact ad.some (by simp[r0])
 |true=>
  have d:=Ba c;by_cases a:fN o []<=1200
  ·rw[bW a];refine cB (DT d o n 0 [] [] (by have:=d.1;omega) rfl O yd a aW) λr ⟨e,i⟩=>?_;by_cases k:(dE o []).length<=120
   ·rw[e (by simpa using k),aX ⟨rfl,a,k⟩];refine aU (λh=>bz h bZ) λ_=>ad.some (by simp[r0])
   have:=i bZ;rw[aY λh=>k h.2.2];exact aU (λ_=>ad.some rfl) λh=>bz h O
  rw[bT a,aY λh=>a h.2.1];exact ad.some rfl
def oU(s:List UInt8):Bool:=match s with
 | [b]=>decide (65<=b.toNat/\b.toNat<=68)
 |_=>ak
theorem En(h:s.length≠1):oU s=ak:=by
 match s,h with
 | [],_=>rfl
 | [b],h=>exact bz rfl h
 |_::_::_,_=>rfl
theorem G3(h:s.length=1): ∃b,s=[b]:=by
 match s,h with
 | [b],_=>exact⟨b,rfl⟩
theorem w9(b:UInt8)(k:Nat)(a:k<256):(b=UInt8.ofNat k)↔b.toNat=k:=by
 constructor
 ·intro h;rw[h];simp;omega
 intro h;rw[<-h];simp
theorem T3(b:UInt8):Lib.contains [65,66,67,68] [b]=ah (65<=b.toNat/\b.toNat<=68):=by
 have h:(b=65)↔b.toNat=65:=w9 b 65 O;have i:(b=66)↔b.toNat=66:=w9 b 66 O;have k:(b=67)↔b.toNat=67:=w9 b 67 O;have l:(b=68)↔b.toNat=68:=w9 b 68 O;by_cases a:b=65
 ·subst a;decide
 by_cases c:b=66
 ·subst c;decide
 by_cases d:b=67
 ·subst d;decide
 by_cases e:b=68
 ·subst e;decide
 rw[h] at a;rw[i] at c;rw[k] at d;rw[l] at e;rw[bT O];rw[<-h] at a;rw[<-i] at c;rw[<-k] at d;rw[<-l] at e;simp[Lib.contains,Lib.index,a,c,d,e]
theorem J2(n:Nat)(s:List UInt8):yZ n s=aa (oU s):=by
 unfold yZ;by_cases h:s.length=1
 ·obtain⟨b,rfl⟩:=G3 h;simp only[aE,xX];rw[aX aW,T3];rfl
 rw[bT (show¬(s.length:Int)=1 by omega),En h];rfl
theorem Kz(b:UInt8):Op.bytesLess [b] [65]=ah (b.toNat<65):=by simp[Op.bytesLess,UInt8.lt_iff_toNat_lt]
theorem KL(b:UInt8):(Op.bytesLess [b] [68]||[b]==[68])=ah (b.toNat<=68):=by
 have e:(b=68)↔b.toNat=68:=w9 b 68 O;by_cases h:b=68
 ·subst h;decide
 have c:b.toNat≠68:=λa=>h (e.2 a)
 have:([b]==[(68:UInt8)])=ak:=by simp[h]
 rw[this,Bool.or_false];simp only[Op.bytesLess,Bool.and_false,Bool.or_false,UInt8.lt_iff_toNat_lt]
 grind
def gb(a:b0)(d:Int):Bool:=a.bA.all (λx=>fg x d)&&(oU a.array&&ah (1<=a.bA.length/\a.bA.length<=2))
theorem Yj(c:5000<=n)(e:jM a)(d:Int):x5 n a d=aa (!fg a d):=Ld c e d
theorem JE(c:5000<=n){a:b0}(e:kL a.bA)(d:Int):yw n a d=aa (gb a d):=by
 obtain⟨m,h⟩:=e;unfold yw;rw[J2,DF];have bN:=xQ (n:=n) (f:=λi=>x5 n i d) (p:=λa=> !fg a d) (l:=a.bA) (λx k=>Yj c (h x k) d) O O;simp only[aE,bL];rw[bN];unfold gb
 grind
theorem Jz(B:5000<=n){a:b0}(q:kL a.bA)(d:Int):ym n a d=aa (gb a d):=by
 obtain⟨G,C⟩:=q;refine ad.eq ?_;unfold ym;refine p2 (l:=a.bA) (p:=λ_ a=>fg a d) O O (λk i x r w y=>?_) (λk o=>?_) (λ⟨i,x,r,H⟩=>?_)
 ·have aP:=(bX.1 r).1;have hm:=C x (bJ r);rw[bW (show(i:Int)<(a.bA.length:Int) by omega)];refine b' (ad.aE (λz=>z= !fg x d) (λj m=>ai (bq r) (ai (Iq B x hm) ?_)) λz A=>?_)
  ·cases q:dc x with
   |false=>exact m _ (by unfold fg;rw[q];rfl)
   |true=>exact ai (t7 B hm) (m _ (by unfold fg;rw[q,Ic];simp))
  subst A;cases s:fg x d with
  |true=>show ad (k _) _;rw[bh O];exact w s
  |false=>exact ad.some (y s)
 ·rw[bT (show¬(a.bA.length:Int)<(a.bA.length:Int) by omega)];have e:a.bA.all (λa=>fg a d)=ab:=gq.2 λc F=>by obtain⟨i,aP⟩:=ls F;exact o i c aP
  unfold gb;rw[e,gL];refine cd (ad.aE (λz=>z=(oU a.array&&ah (1<=a.bA.length/\a.bA.length<=2))) (λj m=>?_) λz A=>ad.some A);by_cases h:a.array.length=1
  ·rw[bW (show(a.array.length:Int)=1 by omega)];obtain⟨b,s⟩:=G3 h;rw[s] at m⊢;rw[Kz,KL];show ad (bif _ then _ else _) _;simp only[oU] at m⊢
   grind
  rw[bT (show¬(a.array.length:Int)=1 by omega)];exact m _ (by rw[En h];rfl)
 unfold gb
 grind
def jj(a:aF):Bool:=ah (a.a1.length=0)&&ah (a.const=0)
def kr(a:b0):Bool:=ah (a.array=[])&&ah (a.bA.length=0)
theorem Br(k:Nat):ah ((k:Int)=0)=ah (k=0):=decide_eq_decide.2 O
theorem TW(n:Nat)(a:aF):yu n a=aa (jj a):=by unfold yu jj;rw[Br];cases ah (a.a1.length=0)<;>rfl
theorem Vv(n:Nat)(a:aF):vO n a=aa (jj a):=by unfold vO jj;rw[Br];cases ah (a.a1.length=0)<;>rfl
theorem TX(n:Nat)(a:b0):sJ n a=aa (kr a):=by unfold sJ kr;rw[Br];cases ah (a.array=[])<;>rfl
theorem UE(n:Nat)(a:b0):vn n a=aa (kr a):=by unfold vn kr;rw[Br];cases ah (a.array=[])<;>rfl
def eC(e:Expr)(d:Int):Bool:=
 if e.kind=2 then ah (e.num=0)&&(kr e.read&&fg e.index d)
 else if e.kind=3 then ah (e.num=0)&&(jj e.index&&gb e.read d)
 else if e.kind=1 then ah (0<=e.num/\e.num<=99)&&(jj e.index&&kr e.read)
 else ah (e.num=0)&&(jj e.index&&kr e.read)
def fu(k:Int):Int:=if k=1\/k=2\/k=3 then 0 else if k=4\/k=5\/k=6 then 2 else-1
theorem Vw(n:Nat)(k:Int):z1 n k=aa (fu k):=by
 unfold z1 fu;by_cases a:k=1
 ·subst a;rfl
 by_cases c:k=2
 ·subst c;rfl
 by_cases d:k=3
 ·subst d;rfl
 by_cases e:k=4
 ·subst e;rfl
 by_cases h:k=5
 ·subst h;rfl
 by_cases i:k=6
 ·subst i;rfl
 simp[aE,a,c,d,e,h,i]
theorem Wp(a:5000<=n){e:Expr}(c:jM e.index)(h:kL e.read.bA)(d:Int):AE n e d=aa (eC e d):=by
 unfold AE eC;rw[UE,Vv,Iq a _ c,t7 a c,Jz a h];by_cases cy:e.kind=2
 ·rw[aX cy,bW cy];simp only[aE,bL,cond_true,fg]
  grind
 rw[aY cy,bT cy];by_cases dW:e.kind=3
 ·rw[aX dW,bW dW];simp only[aE,bL,cond_true,cond_false]
  grind
 rw[aY dW,bT dW];by_cases eK:e.kind=1
 ·rw[aX eK,bW eK];simp only[aE,bL,cond_true,cond_false]
  grind
 rw[aY eK,bT eK];simp only[aE,bL,cond_false]
 grind
end
section
def wz:Nat->Expr->Prop
 |0,_=>True
 |L+1,e=>e.bk.length<=1000/\jM e.index/\kL e.read.bA/\ ∀k∈e.bk,wz L k
def dd:Nat->Expr->Int->Bool
 |0,_,_=>ak
 |L+1,e,d=>decide (fu e.kind=e.bk.length)&&(eC e d&&e.bk.all λk=>dd L k d)
def dA:Nat->Expr->Int
 |0,_=>1
 |L+1,e=>1+(e.bk.map (dA L)).sum
theorem pS(k:Int):fu k<=2:=by unfold fu;split;omega;split<;>omega
theorem JS(d:Int): ∀(L n:Nat) (e:Expr),5000+L<=n->L<=1000->wz L e->q' (n+1) e d (L:Int)=aa (dd L e d)
 |0,n,e,_,_,_=>by unfold q';rfl
 |L+1,n,e,R,W,A=>by
  obtain⟨X,B,C,F⟩:=A;unfold q';refine ad.eq ?_;refine ad.aE (λz=>z= !(ah (fu e.kind=e.bk.length)&&eC e d)) (λj s=>aU (λh=>O) λh=>ai (Vw n _) (eO (λh=>s _ ?_) λh=>ai (Wp O B C d) (s _ ?_))) λz G=>?_
  ·rw[bT h];rfl
  ·rw[bW h];rfl
  subst G;unfold dd;cases w:(ah (fu e.kind=e.bk.length)&&eC e d) with
  |false=>exact ad.some (by rw[<-mc,w];rfl)
  |true=>
   rw[<-mc,w,gL];refine cd ?_;obtain⟨n,rfl⟩: ∃j,n=j+1:=⟨n-1,O⟩
   have H:wr (((L+1:Nat):Int)-1)=(L:Int):=by rw[bh O];omega
   rw[H];refine p2 (l:=e.bk) (p:=λ_ k=>dd L k d) O O (λa i x m q r=>?_) (λa o=>?_) (λ⟨i,x,m,K⟩=>?_)
   ·have aP:=(bX.1 m).1;rw[bW (show(i:Int)<(e.bk.length:Int) by omega)];refine b' (ai (bq m) (ai (JS d L n x O O (F x (bJ m))) ?_));cases y:dd L x d with
    |true=>show ad (a _) _;rw[bh O];exact q y
    |false=>exact ad.some (r y)
   ·rw[bT (show¬(e.bk.length:Int)<(e.bk.length:Int) by omega)];refine ad.some ?_;exact(gq.2 λc Q=>by obtain⟨i,aP⟩:=ls Q;exact o i c aP).symm
   exact(mb.2 ⟨x,bJ m,by rw[K];simp⟩).symm
theorem rr: ∀(L:Nat) (e:Expr),1<=dA L e
 |0,_=>fM _
 |L+1,e=>by have:=nE (dA L) e.bk λk _=>rr L k;simp only[dA];omega
theorem AX{a:Type}(f:a->Int)(M:Int): ∀(l:List a),(∀x∈l,f x<=M)->(l.map f).sum<=l.length*M
 | [],_=>aW
 |x::l,h=>by have d:=AX f M l λy c=>h y (by simp[c]);have e:=h x aW;simp only[hX,List.sum_cons,List.length_cons,Int.natCast_add,Int.add_mul];omega
variable {L n i k:Nat}{e:Expr}{d b c:Int}{s:Stmt}{r:List ca}{x:Part}{a:b0}{p:Prog}{q m:List Int}
theorem fQ(h:dd (L+1) e d=ab):fu e.kind=e.bk.length/\eC e d=ab/\ ∀k∈e.bk,dd L k d=ab:=by
 simp only[dd,b5,decide_eq_true_eq,g'] at h
 grind
theorem Bc: ∀{L:Nat} {e:Expr} {d:Int},dd L e d=ab->dA L e+1<=2^L
 |0,e,d,h=>by cases h
 |L+1,e,d,h=>by
  obtain⟨i,_,a⟩:=fQ h;have l:=AX (dA L) ((2:Int)^L-1) e.bk λk c=>by have:=Bc (a k c);omega
  have m:=pS e.kind;have n:(e.bk.length:Int)*((2:Int)^L-1)<=2*((2:Int)^L-1):=by
   refine Int.mul_le_mul_of_nonneg_right O ?_
   have:(0:Int)<2^L:=Int.pow_pos O;omega
  simp only[dA];rw[Int.pow_succ];omega
theorem JT{d:Int}: ∀(L n:Nat) (e:Expr),5000+L<=n->L<=5->dd L e d=ab->sS (n+1) e (L:Int)=aa (dA L e)
 |0,n,e,_,_,h=>by cases h
 |L+1,n,e,Q,s,h=>by
  obtain⟨R,_,p⟩:=fQ h;have W:=pS e.kind;have q: ∀k∈e.bk,dA L k<=40:=λk c=>by
   have X:=Bc (p k c);have Z:(2:Int)^L<=40:=by
    match L,s with
    |0,_=>decide
    |1,_=>decide
    |2,_=>decide
    |3,_=>decide
    |4,_=>decide
   omega
  unfold sS;refine ad.eq ?_;obtain⟨n,rfl⟩: ∃j,n=j+1:=⟨n-1,O⟩
  have w:wr (((L+1:Nat):Int)-1)=(L:Int):=by rw[bh O];omega
  rw[w];refine ad.loop (λx:Int×Int=> ∃i:Nat,x.2=i/\i<=e.bk.length/\x.1=1+((e.bk.take i).map (dA L)).sum) (λx=>e.bk.length-x.2.toNat) ?_ (n+1) _ ⟨0,rfl,O,aW⟩ bZ;rintro l ⟨x,k⟩ ⟨i,c,b,m⟩ A;dsimp only at c m⊢;subst c;refine ad.aE (λz=>z=ah (i<e.bk.length)) (λj r=>aU (λh=>r _ ?_) λh=>r _ ?_) λz B=>?_
  ·rw[bW (show(0:Int)<((L+1:Nat):Int) by omega),bW O]
  ·rw[bT O]
  subst B;refine aU (λo=>?_) λC=>ad.some ?_
  ·have a:=bo o;have hm:=bJ a;refine ai (bq a) (ai (JT (d:=d) L n _ O O (p _ hm)) ?_);have hs:=AX (dA L) 40 (e.bk.take i) λy F=>q y (hv F);have G:=nE (dA L) (e.bk.take i) λy _=>rr L y;have H:=q _ hm;have K:=rr L e.bk[i];have f:((e.bk.take i).length:Int)<=2:=bZ
   rw[bh (n:=x+dA L e.bk[i]) O,bh O];refine A _ ⟨i+1,J,O,?_⟩ J;dsimp only;rw[ej,a,eZ,List.sum_append,m];simp;omega
  have:i=e.bk.length:=O
  rw[m,this,dF];rfl
def w1(e:Expr):Bool:=(ah (e.kind=1)||decide (e.num=0))&&((ah (e.kind=2)||jj e.index)&&(ah (e.kind=3)||kr e.read))
theorem I5(d:Int): ∀(L n:Nat) (e:Expr) (c:Int),5000+L<=n->L<=5->wz L e->0<=c->c<=12->
  ad (pB (n+1) e d (6-(L:Int)) c) (λr=>r.1=(dd L e d&&ah (c+dA L e<=12))/\(r.1=ab->r.2=c+dA L e))
 |0,n,e,c,M,N,u,P,S=>by
  unfold pB;refine ad.aE (λz=>z=ab) (λj i=>aU (λh=>i _ rfl) λh=>i _ (by decide)) λz m=>?_;subst m;exact ad.some ⟨rfl,λh=>by cases h⟩
 |L+1,n,e,c,M,N,u,P,S=>by
  obtain⟨e1,v,T,D⟩:=u;have U:=rr (L+1) e;unfold pB;have V:wr (c+1)=c+1:=bh O;have aja:wr (6-(((L+1:Nat)):Int)+1)=6-(L:Int):=by rw[bh O];omega
  rw[V,aja];refine ad.aE (λz=>z=ah (12<c+1)) (λj i=>aU (λh=>i _ (bW h).symm) λh=>i _ ?_) λz m=>?_
  ·rw[bT h,bT O]
  subst m;refine aU (λh=>ad.some ⟨?_,λh=>by cases h⟩) λbN=>?_
  ·rw[bT (show¬c+dA (L+1) e<=12 by omega),mU]
  refine ad.aE (λz=>z= !w1 e) (λj i=>?_) λz m=>?_
  ·rw[TW,TX];unfold w1 at i;simp only[bL];by_cases eK:e.kind=1
   ·have cy: ¬e.kind=2:=O
    have dW: ¬e.kind=3:=O
    rw[bW eK,bT cy,bT dW] at*;simp only[Bool.not_true,Bool.not_false,cond_true,cond_false,Bool.true_or,Bool.true_and,Bool.false_or] at*;cases Q:jj e.index with
    |false=>exact i _ (by rw[Q];rfl)
    |true=>exact i _ (by rw[Q];rfl)
   rw[bT eK] at*;simp only[Bool.not_false,cond_true,Bool.false_or] at*;by_cases o:e.num=0
   ·rw[bW o] at*;simp only[Bool.not_true,cond_false,Bool.true_and] at*;by_cases cy:e.kind=2
    ·have dW: ¬e.kind=3:=O
     rw[bW cy,bT dW] at*;simp only[Bool.not_true,Bool.not_false,cond_true,cond_false,Bool.true_or,Bool.true_and,Bool.false_or] at*;exact i _ rfl
    rw[bT cy] at*;simp only[Bool.not_false,cond_true,Bool.false_or] at*;cases Q:jj e.index with
    |false=>exact i _ (by rw[Q];rfl)
    |true=>
     by_cases dW:e.kind=3
     ·rw[bW dW] at*;exact i _ (by rw[Q];rfl)
     rw[bT dW] at*;exact i _ (by rw[Q];rfl)
   rw[bT o] at*;exact i _ rfl
  subst m;cases s:w1 e with
  |false=>
   refine ad.some ⟨?_,λh=>by cases h⟩
   have:eC e d=ak:=by
    unfold w1 at s;unfold eC;by_cases cy:e.kind=2
    ·have eK: ¬e.kind=1:=O
     have dW: ¬e.kind=3:=O
     rw[aX cy];rw[bW cy,bT eK,bT dW] at s;revert s;cases ah (e.num=0)<;>cases kr e.read<;>simp
    rw[aY cy];by_cases dW:e.kind=3
    ·have eK: ¬e.kind=1:=O
     rw[aX dW];rw[bT cy,bT eK,bW dW] at s;revert s;cases ah (e.num=0)<;>cases jj e.index<;>simp
    rw[aY dW];rw[bT cy,bT dW] at s;by_cases eK:e.kind=1
    ·rw[aX eK];rw[bW eK] at s;revert s;cases jj e.index<;>cases kr e.read<;>simp
    rw[aY eK];rw[bT eK] at s;revert s;cases ah (e.num=0)<;>cases jj e.index<;>cases kr e.read<;>simp
   unfold dd;rw[this];simp
  |true=>
   refine cd ?_;unfold w1 at s;simp only[b5,Bool.or_eq_true,decide_eq_true_eq] at s;obtain⟨x',E,W⟩:=s;have p: ∀(b:Bool),eC e d=b->fu e.kind=0-> ∀(z:Bool),z=(b&&ah ((e.bk.length:Int)=0))->z=(dd (L+1) e d&&ah (c+dA (L+1) e<=12))/\(z=ab->c+1=c+dA (L+1) e):=by
    intro b a7 G z m;unfold dd;rw[a7,G];by_cases h:e.bk.length=0
    ·have C:e.bk=[]:=nH h;have H:dA (L+1) e=1:=by simp[dA,C]
     rw[H,bW (O:c+1<=12)];rw[bW (show(e.bk.length:Int)=0 by omega)] at m;rw[m,C];simp
    rw[bT (show¬(e.bk.length:Int)=0 by omega)] at m;rw[m,bT (show¬(0:Int)=(e.bk.length:Int) by omega)];simp
   by_cases eK:e.kind=1
   ·have cy: ¬e.kind=2:=O
    have dW: ¬e.kind=3:=O
    rw[bW eK];have l:eC e d=ah (0<=e.num/\e.num<=99):=by
     unfold eC;rw[aY cy,aY dW,aX eK];rcases E with h|h
     ·exact bz h cy
     rcases W with A|A
     ·exact bz A dW
     rw[h,A];simp
    refine b' (ad.aE (λz=>z=(ah (0<=e.num/\e.num<=99)&&ah ((e.bk.length:Int)=0))) (λj i=>ai (kP n _ _ _) ?_) λz m=>ad.some ?_)
    ·cases y:ah (0<=e.num/\e.num<=99) with
     |true=>exact i _ (by rw[y];rfl)
     |false=>exact i _ (by rw[y];rfl)
    exact p _ l (by unfold fu;rw[aX (Or.inl eK)]) _ m
   rw[bT eK];refine cd ?_;have o:e.num=0:=by
    rcases x' with h|h
    ·exact bz h eK
    exact h
   by_cases cy:e.kind=2
   ·have dW: ¬e.kind=3:=O
    rw[bW cy];have l:eC e d=fg e.index d:=by
     unfold eC;rw[aX cy,bW o];rcases W with A|A
     ·exact bz A dW
     rw[A];simp
    refine b' (ad.aE (λz=>z=(fg e.index d&&ah ((e.bk.length:Int)=0))) (λj i=>ai (R7 O _ v) ?_) λz m=>ad.some ?_)
    ·unfold fg at i;cases y:dc e.index with
     |false=>exact i _ (by rw[y];rfl)
     |true=>
      refine ai (y5 O v) (aU (λh=>i _ ?_) λh=>i _ ?_)
      ·rw[y,bW h];rfl
      rw[y,bT h];rfl
    exact p _ l (by unfold fu;rw[aX (Or.inr (Or.inl cy))]) _ m
   rw[bT cy];refine cd ?_;have B:jj e.index=ab:=by
    rcases E with h|h
    ·exact bz h cy
    exact h
   by_cases dW:e.kind=3
   ·rw[bW dW];have l:eC e d=gb e.read d:=by
     unfold eC;rw[aY cy,aX dW,bW o,B];simp
    refine b' (ad.aE (λz=>z=(gb e.read d&&ah ((e.bk.length:Int)=0))) (λj i=>ai (JE O T d) ?_) λz m=>ad.some ?_)
    ·cases y:gb e.read d with
     |false=>exact i _ (by rw[y];rfl)
     |true=>exact i _ (by rw[y];rfl)
    exact p _ l (by unfold fu;rw[aX (Or.inr (Or.inr dW))]) _ m
   rw[bT dW];refine cd ?_;have l:eC e d=ab:=by
    unfold eC;rw[aY cy,aY dW,aY eK,bW o,B];rcases W with A|A
    ·exact bz A dW
    rw[A];rfl
   have X:rN n e.kind=aa (ah (4<=e.kind/\e.kind<=6)):=by unfold rN;rw[kP];rfl
   have K:(fu e.kind=2↔(4<=e.kind/\e.kind<=6))/\(fu e.kind=2\/fu e.kind= -1):=by
    unfold fu;rw[aY O];split<;>omega
   refine ad.aE (λz=>z= !(ah (4<=e.kind/\e.kind<=6)&&ah ((e.bk.length:Int)=2))) (λj i=>ai X ?_) λz m=>?_
   ·cases y:ah (4<=e.kind/\e.kind<=6) with
    |false=>exact i _ (by rw[y];rfl)
    |true=>exact i _ (by rw[y];rfl)
   subst m;by_cases G:(4<=e.kind/\e.kind<=6)/\(e.bk.length:Int)=2
   ·rw[bW G.1,bW G.2];refine cd ?_;obtain⟨a,b,w⟩: ∃a b,e.bk=[a,b]:=by
     have:e.bk.length=2:=O
     match hq:e.bk,this with
     | [a,b],_=>exact⟨a,b,rfl⟩
    have Z:dd (L+1) e d=(dd L a d&&dd L b d):=by
     show(ah (fu e.kind=e.bk.length)&&(eC e d&&e.bk.all λk=>dd L k d))=_;rw[l,w,bW (show fu e.kind=(([a,b]:List Expr).length:Int) by rw[K.1.2 G.1];rfl)];simp
    have H:dA (L+1) e=1+(dA L a+dA L b):=by simp[dA,w]
    have ajG:=rr L a;have ajH:=rr L b;rw[Z,H];obtain⟨n,rfl⟩: ∃j,n=j+1:=⟨n-1,O⟩
    refine ad.aE (λz:Int×Bool=>z.2=(dd L a d&&dd L b d&&ah (c+(1+(dA L a+dA L b))<=12))/\(z.2=ab->z.1=c+(1+(dA L a+dA L b)))) (λj i=>?_) λz m=>ad.some m;refine ai (x:=a) (by rw[w];rfl) (cB (I5 d L n a (c+1) O O (D a (by rw[w];simp)) O O) λr ⟨F,f⟩=>?_);cases t:r.1 with
    |false=>
     refine i _ ⟨?_,λh=>by cases h⟩;rw[t] at F;show ak=_;by_cases R:dd L a d=ab
     ·rw[R,gL] at F
      have:=of_decide_eq_false F.symm;rw[bT (show¬c+(1+(dA L a+dA L b))<=12 by omega),mU]
     rw[Bool.eq_false_iff.2 R];rfl
    |true=>
     have f:=f t;rw[t] at F;have F:=F.symm;rw[mS,decide_eq_true_eq] at F;refine ai (x:=b) (by rw[w];rfl) ?_;rw[f];refine cB (I5 d L n b (c+1+dA L a) O O (D b (by rw[w];simp)) O O) λq ⟨nB,q2⟩=>i _ ⟨?_,λh=>?_⟩
     ·show q.1=_;rw[nB,F.1,gL];congr 1;exact decide_eq_decide.2 O
     show q.2=_;rw[q2 h];omega
   have iK:dd (L+1) e d=ak:=by
    unfold dd;rw[bT (show¬fu e.kind=(e.bk.length:Int) by
     intro h;rcases K.2 with I|I
     ·exact G ⟨K.1.1 I,O⟩
     omega)]
    rfl
   have:(ah (4<=e.kind/\e.kind<=6)&&ah ((e.bk.length:Int)=2))=ak:=by
    by_cases g:4<=e.kind/\e.kind<=6
    ·rw[bT (show¬(e.bk.length:Int)=2 from λh=>G ⟨g,h⟩),mU]
    rw[bT g];rfl
   rw[this,iK];exact ad.some ⟨rfl,λh=>by cases h⟩
def eJ(s:Stmt)(d:Int):Bool:=ah (0<=d/\d<=4)&&(gb s.write d&&(dd 5 s.value d&&ah (dA 5 s.value<=12)))
def zM(s:Stmt):Prop:=kL s.write.bA/\wz 5 s.value
theorem TT(m:6000<=n)(h:zM s)(d:Int):Dk n s d=aa (eJ s d):=by
 obtain⟨n,rfl⟩: ∃j,n=j+1:=⟨n-1,O⟩
 refine ad.eq ?_;unfold Dk;generalize a:eJ s d=T;unfold eJ at a;refine ad.aE (λz:Int×Bool=>z.2=T) (λj c=>ai (kP _ _ _ _) ?_) λz k=>ad.some k;cases e:ah (0<=d/\d<=4) with
 |false=>exact c (0,ak) (by rw[<-a,e];rfl)
 |true=>
  refine b' (ai (JE O h.1 d) ?_);cases i:gb s.write d with
  |false=>exact c (0,ak) (by rw[<-a,e,i];rfl)
  |true=>
   refine b' (cB (I5 d 5 n s.value 0 O O h.2 O O) λr ⟨l,o⟩=>c _ ?_);rw[<-a,e,i];show r.1=_;rw[l];simp
theorem t8(o:6000<=n)(h:zM s)(d:Int):sA n s d=aa (eJ s d):=by
 obtain⟨n,rfl⟩: ∃j,n=j+1:=⟨n-1,O⟩
 refine ad.eq ?_;unfold sA;generalize l:eJ s d=T;generalize a:(ah (0<=d/\d<=4)&&(gb s.write d&&dd 5 s.value d))=B;have c:T=(B&&ah (dA 5 s.value<=12)):=by rw[<-l,<-a];unfold eJ;simp only[Bool.and_assoc]
 refine ad.aE (λz=>z= !B) (λj e=>aU (λh=>e _ ?_) λp=>aU (λh=>e _ ?_) λq=>ai (Jz O h.1 d) ?_) λz m=>?_
 ·rw[<-a,bT (show¬(0<=d/\d<=4) by omega)];rfl
 ·rw[<-a,bT (show¬(0<=d/\d<=4) by omega)];rfl
 ·rw[bW (O:0<=d/\d<=4)] at a;cases k:gb s.write d with
  |false=>exact b' (e _ (by rw[<-a,k];rfl))
  |true=>exact cd (ai (JS d 5 n s.value O O h.2) (e _ (by rw[<-a,k];rfl)))
 subst m;cases i:B with
 |false=>exact ad.some (by rw[c,i];rfl)
 |true=>
  rw[i] at a;simp only[b5] at a;refine cd (ai (JT (d:=d) 5 n s.value O O a.2.2) (ad.some ?_));rw[c,i];rfl
def m7(a:List Int):Bool:=ah (1<=a.length/\a.length<=2)&&a.all λd=>decide (1<=d/\d<=6)
def rJ(a:List ca)(i:Nat)(x:ca):Bool:=match i with
 |0=>ab
 |i+1=>match a[i]? with
  |some y=>Op.bytesLess y.name x.name
  |none=>ak
def n'(a:List ca)(i:Nat)(x:ca):Bool:=oU x.name&&(rJ a i x&&m7 x.b1)
def jX(a:List ca):Bool:=wY (n' a) a&&ah (a.length<=4)
def Ef(a:List ca):Prop:=a.length<=1000/\ ∀x∈a,x.b1.length<=1000
theorem Kn{x y:ca}(h:r[i]? =aa y):rJ r (i+1) x=Op.bytesLess y.name x.name:=by simp only[rJ,h]
theorem aa4(a:List Int):(a.any λd=> !decide (1<=d/\d<=6))= !(a.all λd=>decide (1<=d/\d<=6)):=by grind
theorem TY(Z:6000<=n){w:List ca}(h:Ef w):y7 n w=aa (jX w):=by
 obtain⟨b,L⟩:=h;refine ad.eq ?_;unfold y7;refine p2 (l:=w) (p:=n' w) O O (λa i x m s y=>?_) (λa o=>?_) (λ⟨i,x,m,A⟩=>?_)
 ·have aP:=(bX.1 m).1;have hm:=L x (bJ m);rw[bW (show(i:Int)<(w.length:Int) by omega)];have Q:ni n x.b1 (λB=>qN n B)=aa (!(x.b1.all λd=>decide (1<=d/\d<=6))):=by
   rw[<-aa4];exact ya (λd _=>by unfold qN;rw[kP];rfl) O O
  refine b' (ai (bq m) (ad.aE (λz=>z= !n' w i x) (λj k=>ai (J2 n _) ?_) λz R=>?_))
  ·unfold n' m7 at k;cases C:oU x.name with
   |false=>exact b' (k _ (by rw[C];rfl))
   |true=>
    rw[C] at k;refine cd ?_;rw[DF];have c:rJ w i x=ab->ad (bL (aa (ah (1<=x.b1.length/\x.b1.length<=2))) λW=>bif !W then j ab else bL (ni n x.b1 λB=>qN n B) λX=>j X) (λr=>r=jX w):=by
     intro A;rw[A] at k;show ad (bif _ then _ else _) _;cases F:ah (1<=x.b1.length/\x.b1.length<=2) with
     |false=>exact b' (k _ (by rw[F];rfl))
     |true=>exact cd (ai Q (k _ (by rw[F];rfl)))
    cases i with
    |zero=>exact aU (λh=>bz h (by decide)) (λ_=>c rfl)
    |succ i=>
     have G:=bo (O:i<w.length);have e:wr (((i+1:Nat):Int)-1)=(i:Int):=by rw[bh O];omega
     rw[e];refine aU (λ_=>ai (bq G) ?_) λh=>bz (show(0:Int)<((i+1:Nat):Int) by omega) h;have q:=Kn (x:=x) G;cases H:Op.bytesLess w[i].name x.name with
     |false=>exact b' (k _ (by rw[q,H];rfl))
     |true=>exact cd (c (by rw[q,H]))
  subst R;cases K:n' w i x with
  |true=>show ad (a _) _;rw[bh O];exact s K
  |false=>exact ad.some (y K)
 ·rw[bT (show¬(w.length:Int)<(w.length:Int) by omega)];refine ad.some ?_;unfold jX;rw[v6 o,gL]
  grind
 unfold jX;rw[CO m A];rfl
theorem ZF(s:List UInt8):(!Op.bytesLess s [68]&& !s==[68])= !(Op.bytesLess s [68]||s==[68]):=by grind
theorem Uu(V:6000<=n){a:List ca}(h:Ef a):Du n a=aa (jX a):=by
 obtain⟨h0,u⟩:=h;refine ad.eq ?_;unfold Du;refine p2 (l:=a) (p:=n' a) O O (λq i x w K A=>?_) (λq B=>?_) (λ⟨i,x,w,v⟩=>?_)
 ·have aP:=(bX.1 w).1;have hm:=u x (bJ w);rw[bW (show(i:Int)<(a.length:Int) by omega)];refine b' (ai (bq w) (ad.aE (λz=>z= !(oU x.name&&(rJ a i x&&ah (1<=x.b1.length/\x.b1.length<=2)))) (λj m=>?_) λz L=>?_))
  ·refine eO (λD=>m _ ?_) λD=>?_
   ·rw[En O];rfl
   obtain⟨b,o⟩:=G3 (O:x.name.length=1);rw[ZF];have Q: ∀(y:ca),Op.bytesLess y.name x.name=Op.bytesLess y.name [b]:=λy=>by rw[o]
   have R:oU x.name=ah (65<=b.toNat/\b.toNat<=68):=by rw[o];rfl
   have E:Op.bytesLess x.name [65]=ah (b.toNat<65):=by rw[o];exact Kz b
   have I:(Op.bytesLess x.name [68]||x.name==[68])=ah (b.toNat<=68):=by rw[o];exact KL b
   rw[E,I];rw[R] at m;refine aU (λM=>m _ ?_) λM=>eO (λN=>m _ ?_) λN=>?_
   ·rw[bT (show¬(65<=b.toNat/\b.toNat<=68) by omega)];rfl
   ·rw[bT (show¬(65<=b.toNat/\b.toNat<=68) by omega)];rfl
   rw[bW (O:65<=b.toNat/\b.toNat<=68)] at m;have c:rJ a i x=ab->ad (bif ah ((x.b1.length:Int)<1) then j ab else j (ah ((2:Int)<(x.b1.length:Int)))) (λr=>r=jX a):=by
    grind
   cases i with
   |zero=>exact aU (λh=>bz h (by decide)) (λ_=>c rfl)
   |succ i=>
    have Z:=bo (O:i<a.length);have e:wr (((i+1:Nat):Int)-1)=(i:Int):=by rw[bh O];omega
    rw[e];refine aU (λ_=>ai (bq Z) ?_) λh=>bz (show(0:Int)<((i+1:Nat):Int) by omega) h;have C:=Kn (x:=x) Z;cases f:Op.bytesLess a[i].name x.name with
    |false=>exact b' (m _ (by rw[C,f];rfl))
    |true=>exact cd (c (by rw[C,f]))
  subst L;cases o:(oU x.name&&(rJ a i x&&ah (1<=x.b1.length/\x.b1.length<=2))) with
  |false=>
   refine ad.some (A ?_);unfold n' m7;rw[<-mc,<-mc];rw[<-mc] at o;rw[o];rfl
  |true=>
   have F:n' a i x=x.b1.all (λd=>decide (1<=d/\d<=6)):=by
    unfold n' m7;rw[<-mc,<-mc];rw[<-mc] at o;rw[o];rfl
   refine cd ?_;refine ad.loop (λy:Int=> ∃k:Nat,y=k/\k<=x.b1.length/\ ∀(t:Nat) d,t<k->x.b1[t]? =aa d->decide (1<=d/\d<=6)=ab) (λy=>x.b1.length-y.toNat) ?_ n _ ⟨0,rfl,O,λt d h=>O⟩ bZ;rintro H y ⟨k,rfl,hk,g⟩ P;refine aU (λS=>?_) λT=>?_
   ·have cM:=bo (O:k<x.b1.length);have U:wr ((k:Int)+1)=((k+1:Nat):Int):=by rw[bh O];omega
    refine ad.aE (λz=>z= !decide (1<=x.b1[k]/\x.b1[k]<=6)) (λj m=>ai (bq cM) (aU (λh=>m _ ?_) λh=>m _ ?_)) λz L=>?_
    ·rw[bT O];rfl
    ·by_cases h6:x.b1[k]<=6
     ·rw[bT (show¬(6:Int)<x.b1[k] by omega),bW (O:1<=x.b1[k]/\x.b1[k]<=6)];rfl
     rw[bW (show(6:Int)<x.b1[k] by omega),bT (show¬(1<=x.b1[k]/\x.b1[k]<=6) by omega)];rfl
    subst L;cases G:ah (1<=x.b1[k]/\x.b1[k]<=6) with
    |false=>
     refine ad.some (A ?_);rw[F];exact mb.2 ⟨_,bJ cM,by rw[G];simp⟩
    |true=>
     rw[U];refine P _ ⟨k+1,rfl,O,λt d W s=>?_⟩ O;by_cases X:t=k
     ·subst X;rw[cM] at s;cases s;exact G
     exact g t d O s
   have e:wr ((i:Int)+1)=(i:Int)+1:=bh O;rw[e];refine K ?_;rw[F];refine gq.2 λd cM=>?_;obtain⟨t,W⟩:=ls cM
   have:=(bX.1 W).1;exact g t d O W
 ·rw[bT (show¬(a.length:Int)<(a.length:Int) by omega)];refine ad.some ?_;unfold jX;rw[v6 B,gL]
  grind
 unfold jX;rw[CO w v];rfl
def hr:List Int->Int
 | []=>1
 |d::a=>d*hr a
theorem Gi{d:List Int}(h:m7 d=ab):(∃a,d=[a]/\1<=a/\a<=6)\/ ∃a b,d=[a,b]/\(1<=a/\a<=6)/\1<=b/\b<=6:=by
 simp only[m7,b5,decide_eq_true_eq,g'] at h;obtain⟨⟨e,i⟩,c⟩:=h
 match d,e,i,c with
 | [a],_,_,c=>exact .inl ⟨a,rfl,c a aW⟩
 | [a,b],_,_,c=>exact .inr ⟨a,b,rfl,c a aW,c b aW⟩
theorem PI{a:Int}(c:1<=a/\a<=6)(d:1<=b/\b<=6):1<=a*b/\a*b<=36:=by
 constructor
 ·have:=p6 c.1 d.1 O O;omega
 have:=p6 c.2 d.2 O O;omega
theorem rT{d:List Int}(h:m7 d=ab):1<=hr d/\hr d<=36:=by
 rcases Gi h with ⟨a,rfl,c⟩|⟨a,b,rfl,c,e⟩
 ·simp[hr];omega
 have:=PI c e;simp[hr];omega
theorem DU(l:6000<=n){x:ca}(h:m7 x.b1=ab):wc n x=aa (hr x.b1):=by
 obtain⟨n,rfl⟩: ∃j,n=j+3:=⟨n-3,O⟩
 unfold wc;rcases Gi h with ⟨a,e,d⟩|⟨a,b,e,d,i⟩
 ·rw[e];have c:wr a=a:=bh O;simp[bj,az,hr,c,show wr 1=1 from bh O]
 rw[e]
 have:=PI d i;have c:wr a=a:=bh O;have k:wr (a*b)=a*b:=bh O;simp[bj,az,hr,c,k,show wr 1=1 from bh O,show wr 2=2 from bh O]
theorem Yd(a:6000<=n){x:ca}(h:m7 x.b1=ab):CU n x=aa (hr x.b1):=DU a h
def gm:List aF->List Int->List Int->Int->Int
 |s::c,d::e,p,a=>if 0<=dK s p/\dK s p<d then gm c e p (a*d+dK s p) else-1
 |_,_,_,a=>a
def dU:List ca->b0->List Int->Int->Int
 | [],_,_,_=> -1
 |x::d,a,p,c=>if x.name=a.array then(if a.bA.length=x.b1.length then(if gm a.bA x.b1 p 0<0 then-1 else c+gm a.bA x.b1 p 0) else-1) else dU d a p (c+hr x.b1)
def jV(a:List ca):Prop:= ∀x∈a,m7 x.b1=ab
theorem adY{d:List Int}(e:m7 d=ab){l:List aF}(c:l.length=d.length)(p:List Int):gm l d p 0= -1\/(0<=gm l d p 0/\gm l d p 0<hr d):=by
 rcases Gi e with ⟨a,rfl,h⟩|⟨a,b,rfl,h,k⟩
 ·match l,c with
  | [s],_=>
   simp only[gm,hr,Int.zero_mul,Int.zero_add,Int.mul_one];split<;>omega
 match l,c with
 | [s,t],_=>
  simp only[gm,hr,Int.zero_mul,Int.zero_add,Int.mul_one];split
  ·rename_i i;split
   ·rename_i m;refine .inr ⟨?_,?_⟩
    ·have:=nI i.1 (O:0<=b);omega
    have:=Int.mul_le_mul_of_nonneg_right (O:dK s p<=a-1) (O:0<=b);rw[Int.sub_mul] at this;omega
   exact .inl rfl
  exact .inl rfl
def gj(a:List ca):Int:=(a.map λx=>hr x.b1).sum
theorem AQ: ∀{xs:List ca},jV xs-> ∀(a:b0) (p:List Int) (c:Int),0<=c->dU xs a p c= -1\/(c<=dU xs a p c/\dU xs a p c<c+gj xs)
 | [],_,a,p,c,_=> .inl rfl
 |x::xs,k,a,p,c,n=>by
  have l:=k x aW;have hs:=rT l;have d:jV xs:=λy i=>k y (by simp[i]);have o:0<=gj xs:=by
   have:=nE (λx:ca=>hr x.b1) xs λy i=>(rT (d y i)).1;unfold gj;omega
  have e:gj (x::xs)=hr x.b1+gj xs:=by simp[gj]
  rw[e];simp only[dU];split
  ·split
   ·rename_i m;rcases adY l m p with h|h
    ·rw[aX O];exact .inl rfl
    rw[aY O];exact .inr ⟨O,O⟩
   exact .inl rfl
  rcases AQ d a p (c+hr x.b1) O with h|h
  ·exact .inl h
  exact .inr ⟨O,O⟩
theorem mf(h:gb a d=ab):1<=a.bA.length/\a.bA.length<=2/\ ∀x∈a.bA,dc x=ab:=by
 simp only[gb,b5,decide_eq_true_eq,g'] at h;refine⟨h.2.2.1,h.2.2.2,λx c=>?_⟩
 have:=h.1 x c;simp only[fg,b5] at this
 grind
theorem jT{a:Type}{l:List a}{x:a}(h:l[i]? =aa x):l.drop i=x::l.drop (i+1):=by obtain⟨c,d⟩:=bX.1 h;rw[k6 c,d]
theorem Nr{a v:Int}(c:0<=a/\a<=36)(e:1<=d/\d<=6)(h:0<=v/\v<d):0<=a*d/\a*d<=216/\0<=a*d+v:=by have i:=nI c.1 (O:0<=d);have k:=p6 c.2 e.2 O O;omega
theorem aaq(D:6000<=n)(E:a.bA.length<=2)(Z: ∀x∈a.bA,dc x=ab){e:List Int}(b:m7 e=ab)(I:a.bA.length=e.length){p:List Int}(f:hV k p)(c:Int)(M:0<=c/\c<=1000000):
  bj (λl ((W,B):Int×Int)=>bif ah (B<(a.bA.length:Int)) then(bL (az a.bA B) λg=>bL (nj n g p) λq=>bL (az e B) λr=>bL (fX n q 0 (wr (r-1))) λC=>bif !C then(aa (-1)) else(l (wr ((wr (W*r))+q),wr (B+1)))) else(aa (wr (c+W)))) n (0,0)
   =aa (if gm a.bA e p 0<0 then-1 else c+gm a.bA e p 0):=by
 have F: ∀d∈e,1<=d/\d<=6:=by
  simp only[m7,b5,decide_eq_true_eq,g'] at b
  grind
 refine ad.eq ?_;refine ad.loop (λx:Int×Int=> ∃i:Nat,x.2=i/\i<=a.bA.length/\0<=x.1/\x.1<=36*i/\(i=0->x.1=0)/\(i=1->x.1<=5)/\gm a.bA e p 0=gm (a.bA.drop i) (e.drop i) p x.1) (λx=>a.bA.length-x.2.toNat) ?_ n _ ⟨0,rfl,O,aW,aW,λ_=>rfl,λh=>O,rfl⟩ bZ;rintro G ⟨x,z⟩ ⟨i,X,N,H,K,s,w,m⟩ j;dsimp only at X H K s w m⊢;subst X;refine aU (λt=>?_) λu=>ad.some ?_
 ·have hs:=bo (O:i<a.bA.length);have o:=bo (O:i<e.length);have y:=F _ (bJ o);have v:wr (e[i]-1)=e[i]-1:=bh O;rw[jT hs,jT o] at m;simp only[gm] at m;refine ai (bq hs) (ai (ub O (Z _ (bJ hs)) f) (ai (bq o) (ai (kP _ _ _ _) ?_)));rw[v];by_cases L:0<=dK a.bA[i] p/\dK a.bA[i] p<e[i]
  ·rw[aX L] at m;rw[bW (O:0<=dK a.bA[i] p/\dK a.bA[i] p<=e[i]-1)];obtain⟨P,S,T⟩:=Nr (a:=x) O y L;refine cd ?_;rw[bh (n:=x*e[i]) O,bh (n:=x*e[i]+dK a.bA[i] p) O,bh O];have A:i=0\/i=1:=O
   refine j _ ⟨i+1,J,O,J,?_,λh=>O,λh=>?_,m⟩ J
   ·dsimp only;rcases A with rfl|rfl
    ·rw[s rfl];omega
    have:=w rfl
    have:=p6 this y.2 O O;omega
   dsimp only
   grind
  rw[aY L] at m;rw[bT (show¬(0<=dK a.bA[i] p/\dK a.bA[i] p<=e[i]-1) by omega)];refine b' (ad.some ?_)
  grind
 have Q:i=a.bA.length:=O
 have R:gm (a.bA.drop i) (e.drop i) p x=x:=by
  rw[Q,oP];unfold gm;rfl
 rw[R] at m;rw[m,aY O,bh O]
theorem ZW(N:6000<=n)(P:1<=a.bA.length)(S:a.bA.length<=2)(t: ∀x∈a.bA,dc x=ab){c:List Int}(u:m7 c=ab){p:List Int}(v:hV k p)(e:Int)(T:0<=e/\e<=1000000):
  bj (λl ((b,s):Int×Int)=>bif ah (s<(a.bA.length:Int)) then(bif !decide ((a.bA.length:Int)=(c.length:Int)) then(aa (-1)) else(bL (az a.bA s) λD=>bL (oC n D p) λr=>aE (fun(G:Bool)=>bif G then(aa (-1)) else(bL (az c s) λH=>l (wr ((wr (b*H))+r),wr (s+1)))) λw=>bif ah (r<0) then(w ab) else(bL (az c s) λK=>w (ah (K<=r))))) else(aa (wr (e+b)))) n (0,0)
   =aa (if a.bA.length=c.length then(if gm a.bA c p 0<0 then-1 else e+gm a.bA c p 0) else-1):=by
 by_cases f:a.bA.length=c.length
 ·rw[aX f];rw[bW (show(a.bA.length:Int)=(c.length:Int) by omega)];have L: ∀d∈c,1<=d/\d<=6:=by
   simp only[m7,b5,decide_eq_true_eq,g'] at u
   grind
  refine ad.eq ?_;refine ad.loop (λx:Int×Int=> ∃i:Nat,x.2=i/\i<=a.bA.length/\0<=x.1/\x.1<=36*i/\(i=0->x.1=0)/\(i=1->x.1<=5)/\gm a.bA c p 0=gm (a.bA.drop i) (c.drop i) p x.1) (λx=>a.bA.length-x.2.toNat) ?_ n _ ⟨0,rfl,O,aW,aW,λ_=>rfl,λh=>O,rfl⟩ bZ;rintro Q ⟨x,z⟩ ⟨i,F,U,R,W,y,A,o⟩ E;dsimp only at F R W y A o⊢;subst F;refine aU (λI=>?_) λM=>ad.some ?_
  ·have hs:=bo (O:i<a.bA.length);have m:=bo (O:i<c.length);have B:=L _ (bJ m);rw[jT hs,jT m] at o;simp only[gm] at o;refine cd (ai (bq hs) (ai (xb O (t _ (bJ hs)) v) (ad.aE (λz=>z= !decide (0<=dK a.bA[i] p/\dK a.bA[i] p<c[i])) (λj g=>aU (λh=>g _ ?_) λh=>ai (bq m) (g _ ?_)) λz F=>?_)))
   ·rw[bT O];rfl
   ·by_cases q:c[i]<=dK a.bA[i] p
    ·rw[bW q,bT O];rfl
    rw[bT q,bW O];rfl
   subst F;by_cases q:0<=dK a.bA[i] p/\dK a.bA[i] p<c[i]
   ·rw[aX q] at o;rw[bW q];obtain⟨V,g2,g3⟩:=Nr (a:=x) O B q;refine cd (ai (bq m) ?_);rw[bh (n:=x*c[i]) O,bh (n:=x*c[i]+dK a.bA[i] p) O,bh O];have C:i=0\/i=1:=O
    refine E _ ⟨i+1,J,O,J,?_,λh=>O,λh=>?_,o⟩ J
    ·dsimp only;rcases C with rfl|rfl
     ·rw[y rfl];omega
     have:=A rfl
     have:=p6 this B.2 O O;omega
    dsimp only
    grind
   rw[aY q] at o;rw[bT q];refine b' (ad.some ?_)
   grind
  have X:i=a.bA.length:=O
  have Z:gm (a.bA.drop i) (c.drop i) p x=x:=by
   rw[X,oP];unfold gm;rfl
  rw[Z] at o;rw[o,aY O,bh O]
 rw[aY f,bT (show¬(a.bA.length:Int)=(c.length:Int) by omega)];obtain⟨n,rfl⟩: ∃j,n=j+1:=⟨n-1,O⟩
 simp only[bj]
 grind
theorem vt(y:6000<=n)(R:p.aV.length<=4)(B:jV p.aV)(C:gb a d=ab)(F:hV k q):pq n p a q=aa (dU p.aV a q 0):=by
 obtain⟨a0,aS,a2⟩:=mf C;refine ad.eq ?_;unfold pq;refine ad.loop (λx:Int×Int=> ∃i:Nat,x.2=i/\i<=p.aV.length/\0<=x.1/\x.1<=36*i/\dU p.aV a q 0=dU (p.aV.drop i) a q x.1) (λx=>p.aV.length-x.2.toNat) ?_ n _ ⟨0,rfl,O,aW,aW,rfl⟩ bZ;rintro m ⟨x,z⟩ ⟨i,A,W,o,r,c⟩ G;dsimp only at A o r c⊢;subst A;refine aU (λH=>?_) λK=>ad.some ?_
 ·have s:=bo (O:i<p.aV.length);have h:=B _ (bJ s);have lj:=rT h;rw[jT s] at c;simp only[dU] at c;refine ai (bq s) (eO (λl=>?_) λL=>?_)
  ·rw[aY l] at c;refine ai (Yd y h) ?_;rw[bh (n:=x+hr p.aV[i].b1) O,bh O];exact G _ ⟨i+1,J,O,J,J,c⟩ J
  rw[aX L] at c;refine eO (λl=>ad.some ?_) λQ=>?_
  ·rw[c,aY O]
  have e:a.bA.length=p.aV[i].b1.length:=O
  rw[aX e] at c;exact ad.of (aaq y aS a2 h e F x O) c.symm
 have w:i=p.aV.length:=O
 rw[c,w,oP];rfl
theorem LZ(w:6000<=n)(L:r.length<=4)(A:jV r)(B:gb a d=ab)(C:hV k q):we n r a q=aa (dU r a q 0):=by
 obtain⟨a0,aS,a2⟩:=mf B;refine ad.eq ?_;unfold we;refine ad.loop (λx:Int×Int=> ∃i:Nat,x.2=i/\i<=r.length/\0<=x.1/\x.1<=36*i/\dU r a q 0=dU (r.drop i) a q x.1) (λx=>r.length-x.2.toNat) ?_ n _ ⟨0,rfl,O,aW,aW,rfl⟩ bZ;rintro h ⟨x,z⟩ ⟨i,y,Q,l,m,c⟩ F;dsimp only at y l m c⊢;subst y;refine aU (λG=>?_) λH=>ad.some ?_
 ·have o:=bo (O:i<r.length);have e:=A _ (bJ o);have lj:=rT e;rw[jT o] at c;simp only[dU] at c;refine ai (bq o) (eO (λp=>?_) λK=>?_)
  ·rw[aY p] at c;refine ai (DU w e) ?_;rw[bh (n:=x+hr r[i].b1) O,bh O];exact F _ ⟨i+1,J,O,J,J,c⟩ J
  rw[aX K] at c;exact ad.of (ZW w a0 aS a2 e C x O) c.symm
 have s:i=r.length:=O
 rw[c,s,oP];rfl
def dx:Nat->Expr->List b0
 |0,_=>[]
 |L+1,e=>(if e.kind=3 then [e.read] else [])++e.bk.flatMap (dx L)
theorem zy{d:Int}: ∀{L:Nat} {e:Expr},dd L e d=ab-> ∀a∈dx L e,gb a d=ab
 |0,e,h,a,c=>by cases h
 |L+1,e,h,a,c=>by
  obtain⟨o,i,m⟩:=fQ h;simp only[dx,List.mem_append,List.mem_flatMap] at c;rcases c with c|⟨k,n,c⟩
  ·split at c
   ·rename_i l;simp at c;subst c;unfold eC at i;rw[aY O,aX l] at i;simp only[b5] at i;exact i.2.2
   simp at c
  exact zy (m k n) a c
theorem zx: ∀(L:Nat) (e:Expr),((dx L e).length:Int)<=dA L e
 |0,e=>by simp[dx,dA]
 |L+1,e=>by
  have h: ∀(l:List Expr),((l.flatMap (dx L)).length:Int)<=(l.map (dA L)).sum:=by
   intro l;induction l with
   |nil=>simp
   |cons k l a=>
    have:=zx L k;simp only[List.flatMap_cons,rz,hX,List.sum_cons];omega
  have:=h e.bk;simp only[dx,dA,rz];split
  ·rw[nK];omega
  rw[List.length_nil];omega
theorem Er{d:Int}: ∀(L n:Nat) (e:Expr),6000+L<=n->L<=5->dd L e d=ab->qR (n+1) e=aa (dx L e)
 |0,n,e,_,_,h=>by cases h
 |L+1,n,e,C,w,h=>by
  obtain⟨F,G,s⟩:=fQ h;have y:=pS e.kind;unfold qR;refine ad.eq (aU (λc=>ad.some ?_) λm=>?_)
  ·have:e.bk=[]:=by
    have H:fu e.kind=0:=by unfold fu;rw[aX (Or.inr (Or.inr c))]
    exact nH O
   simp[dx,c,this]
  obtain⟨n,rfl⟩: ∃j,n=j+1:=⟨n-1,O⟩
  have o: ∀k∈e.bk,((dx L k).length:Int)<=100:=λk l=>by
   have K:=Bc (s k l);have Q:(2:Int)^L<=40:=by
    match L,w with
    |0,_=>decide
    |1,_=>decide
    |2,_=>decide
    |3,_=>decide
    |4,_=>decide
   have:=zx L k;omega
  refine ad.loop (λx:List b0×Int=> ∃i:Nat,x.2=i/\i<=e.bk.length/\x.1=(e.bk.take i).flatMap (dx L)/\(x.1.length:Int)<=100*i) (λx=>e.bk.length-x.2.toNat) ?_ (n+1) _ ⟨0,rfl,O,aW,aW⟩ bZ;rintro p ⟨x,k⟩ ⟨i,l,R,q,r⟩ z;dsimp only at l q r⊢;subst l;refine aU (λA=>?_) λB=>ad.some ?_
  ·have a:=bo (O:i<e.bk.length);have hm:=bJ a;have a7:=o _ hm;refine ai (bq a) (ai (Er (d:=d) L n _ O O (s _ hm)) (ai (cU O) ?_));rw[bh O];refine z _ ⟨i+1,J,O,?_,by dsimp only;rw[dp];omega⟩ J;dsimp only;rw[ej,a,l8,q];simp
  have:i=e.bk.length:=O
  rw[q,this,dF];simp[dx,m]
theorem za(n:Nat){a:aF}(h:a.a1.length<=1000):qC n a=aa a:=by
 unfold qC;refine ad.eq (aU (λd=>ad.some ?_) λd=>ai (nk _ h) (ad.some rfl));obtain⟨cs,c⟩:=a
 have:cs=[]:=nH (by simpa using d)
 grind
theorem yy(q:5000<=n)(h:kL a.bA):qD n a=aa a:=by
 obtain⟨r,l⟩:=h;refine ad.eq ?_;unfold qD;refine ad.loop (λx:List aF×Int=> ∃i:Nat,x.2=i/\i<=a.bA.length/\x.1=a.bA.take i) (λx=>a.bA.length-x.2.toNat) ?_ n _ ⟨0,rfl,O,aW⟩ bZ;rintro d ⟨x,k⟩ ⟨i,e,s,c⟩ m;dsimp only at e c⊢;subst e;refine aU (λo=>?_) λp=>ad.some ?_
 ·have hs:=bo (O:i<a.bA.length);have w:x.length=i:=by rw[c,dr];omega
  refine ai (bq hs) (ai (za n (l _ (bJ hs))) (ai (cU bZ) ?_));rw[bh O];refine m _ ⟨i+1,J,O,?_⟩ J;dsimp only;rw[ej,hs,c];rfl
 have:i=a.bA.length:=O
 rw[c,this,dF]
theorem NR{l:List aF}(e:l.length<=2)(c: ∀a∈l,dc a=ab):kL l:=⟨O,λa d=>by have:=(gV (c a d)).1;unfold jM;omega⟩
theorem KP{d:Int}: ∀(L n:Nat) (e:Expr) (out:List b0),6000+L<=n->L<=5->dd L e d=ab->(out.length:Int)<=1000+200*(6-(L:Int))->sT (n+1) out e=aa (out++dx L e)
 |0,n,e,out,_,_,h,_=>by cases h
 |L+1,n,e,out,W,B,h,X=>by
  obtain⟨Z,b,w⟩:=fQ h;have C:=pS e.kind;unfold sT;refine ad.eq (ad.aE (λz=>z=out++(if e.kind=3 then [e.read] else [])) (λj y=>aU (λa=>?_) λo=>y _ (by rw[aY o];simp)) λz A=>?_)
  ·have F:=zy h e.read (by simp[dx,a]);obtain⟨_,G,H⟩:=mf F;exact ai (yy O (NR G H)) (ai (cU bZ) (y _ (by rw[aX a])))
  subst A;obtain⟨n,rfl⟩: ∃j,n=j+1:=⟨n-1,O⟩
  by_cases a:e.kind=3
  ·have c:e.bk=[]:=by
    have A:fu e.kind=0:=by unfold fu;rw[aX (Or.inr (Or.inr a))]
    exact nH O
   rw[c];refine ad.some ?_;simp[dx,a,c]
  have p: ∀k∈e.bk,((dx L k).length:Int)<=100:=λk m=>by
   have f:=Bc (w k m);have g:(2:Int)^L<=40:=by
    match L,B with
    |0,_=>decide
    |1,_=>decide
    |2,_=>decide
    |3,_=>decide
    |4,_=>decide
   have:=zx L k;omega
  rw[aY a,jn];refine ad.loop (λx:List b0×Int=> ∃i:Nat,x.2=i/\i<=e.bk.length/\x.1=out++(e.bk.take i).flatMap (dx L)/\(x.1.length:Int)<=out.length+100*i) (λx=>e.bk.length-x.2.toNat) ?_ (n+1) _ ⟨0,rfl,O,aW,aW⟩ bZ;rintro q ⟨x,k⟩ ⟨i,m,t,r,s⟩ K;dsimp only at m r s⊢;subst m;refine aU (λQ=>?_) λR=>ad.some ?_
  ·have l:=bo (O:i<e.bk.length);have hm:=bJ l;have a7:=p _ hm;refine ai (bq l) (ai (KP (d:=d) L n _ x O O (w _ hm) O) ?_);rw[bh O];refine K _ ⟨i+1,J,O,?_,by dsimp only;rw[dp];omega⟩ J;dsimp only;rw[ej,l,l8,r];simp
  have:i=e.bk.length:=O
  rw[r,this,dF];simp[dx,a]
theorem OL{o:List Loop}(c:Fit o): ∀(bH:List Loop) (k:Nat) (p q:List Int),o.drop k=bH->k<=o.length->hV k p->q∈dE bH p->hV o.length q
 | [],k,p,q,d,h,e,a=>by
  have:=Aw d h;simp only[dE,List.mem_singleton] at a;subst a;subst this;exact e
 |l::bH,k,p,q,d,h,e,a=>by obtain⟨i,m,x⟩:=zJ d;obtain⟨n,r⟩:=c.2 k l i;have s:=c.1;simp only[dE,List.mem_flatMap] at a;obtain⟨v,w,a⟩:=a;exact OL c bH (k+1) _ q m O (AH n r e O (Od.1 w)) a
theorem pf{o:List Loop}{z:List (List Int)}(h:jL o=aa z):Fit o/\z.length<=120/\(∀q∈z,hV o.length q)/\z=dE o []/\fN o []<=1200:=by
 unfold jL at h;split at h
 ·rename_i a;cases h;have c:=Ba a.1;exact⟨c,a.2.2,λq d=>OL c o 0 [] q rfl O yd d,rfl,a.2.1⟩
 cases h
def gU(c:List ca)(s:Stmt)(q:List Int):Bool:=ah (0<=dU c s.write q 0)&&(dx 5 s.value).all λa=>decide (0<=dU c a q 0)
theorem ig(h:eJ s d=ab):gb s.write d=ab/\dd 5 s.value d=ab/\(∀a∈dx 5 s.value,gb a d=ab)/\(dx 5 s.value).length<=12:=by
 simp only[eJ,b5,decide_eq_true_eq] at h;obtain⟨_,e,c,i⟩:=h
 have:=zx 5 s.value;exact⟨e,c,zy c,O⟩
theorem VZ(F:7000<=n)(c:p.aV.length<=4)(e:jV p.aV)(r:eJ s d=ab)(i:hV k q):Ce n p s q=aa (gU p.aV s q):=by
 obtain⟨w,x,y,G⟩:=ig r;obtain⟨n,rfl⟩: ∃j,n=j+1:=⟨n-1,O⟩
 refine ad.eq ?_;unfold Ce;generalize m:gU p.aV s q=T;unfold gU at m;refine ad.aE (λz=>z=T) (λj o=>ai (vt O c e w i) (aU (λh=>?_) λh=>o _ ?_)) λz A=>ad.some A
 ·have bN:=Tv (n:=n+1) (f:=λB=>xn (n+1) B p q) (p:=λa=>decide (dU p.aV a q 0<0)) (l:=dx 5 s.value)
   (λa C=>by unfold xn;rw[vt O c e (y a C) i];rfl) O O
  refine ai (Er (d:=d) 5 n s.value O O x) (ai bN (o _ ?_))
  grind
 rw[<-m,bT h];rfl
theorem JR(v:7000<=n)(F:r.length<=4)(G:jV r)(L:eJ s d=ab)(H:hV k q):
  vm n r s q=aa (if gU r s q=ab then((dx 5 s.value).map λa=>dU r a q 0,dU r s.write q 0,ab) else([],0,ak)):=by
 obtain⟨Q,W,X,D⟩:=ig L;obtain⟨n,rfl⟩: ∃j,n=j+1:=⟨n-1,O⟩
 refine ad.eq ?_;unfold vm;refine ai (KP (d:=d) 5 n s.value [] O O W aW) ?_;rw[vE];generalize Z:dx 5 s.value=R at*;have e:gU r s q=(ah (0<=dU r s.write q 0)&&R.all λa=>decide (0<=dU r a q 0)):=by unfold gU;rw[Z]
 refine ad.loop (λx:List Int×Int=> ∃i:Nat,x.2=i/\i<=R.length/\x.1=(R.take i).map (λa=>dU r a q 0)/\ ∀(t:Nat) a,t<i->R[t]? =aa a->0<=dU r a q 0) (λx=>R.length-x.2.toNat) ?_ (n+1) _ ⟨0,rfl,O,aW,λt a h=>O⟩ J;rintro w ⟨x,z⟩ ⟨i,K,E,p,y⟩ b;dsimp only at K p y⊢;subst K;refine aU (λf=>?_) λg=>?_
 ·have bG:=bo (O:i<R.length);have hm:=bJ bG;refine ai (bq bG) (ai (LZ O F G (X _ hm) H) (aU (λl=>ad.some ?_) λm=>?_))
  ·rw[aY];rw[e];intro h;rw[mS] at h
   have:=gq.1 h.2 _ hm;rw[decide_eq_true_eq] at this;omega
  have u:x.length<=12:=by rw[p,dz,dr];omega
  refine ai (cU bZ) ?_;rw[bh O];refine b _ ⟨i+1,J,O,?_,λt a A c=>?_⟩ J
  ·dsimp only;rw[ej,bG,eZ,p];rfl
  by_cases B:t=i
  ·subst B;rw[bG] at c;cases c;omega
  exact y t a O c
 have C:i=R.length:=O
 have o:R.all (λa=>decide (0<=dU r a q 0))=ab:=gq.2 (λa hm=>by
  obtain⟨t,A⟩:=ls hm
  have:=(bX.1 A).1;exact bW (y t a O A))
 rw[e,o,Bool.and_true];refine ai (LZ O F G Q H) (aU (λl=>ad.some ?_) λm=>ad.some ?_)
 ·rw[aY (by rw[decide_eq_true_eq];omega)]
 rw[aX (by rw[decide_eq_true_eq];omega),p,C,dF]
def ko(q:List Int):Bool:=ah (q.length<=4)&&q.all λx=>decide (-9999<=x/\x<=9999)
theorem UA(c:5000<=n)(h:q.length<=1000):zF n q=aa (ko q):=by
 unfold zF ko;have bN:=ya (n:=n) (f:=λa=>yg n a) (p:=λx=> !decide (-9999<=x/\x<=9999)) (l:=q) (λx _=>by unfold yg;rw[kP];rfl) O O;simp only[aE,bL]
 grind
theorem UF(s:5000<=n)(h:q.length<=1000):zr n q=aa (ko q):=by
 refine ad.eq ?_;unfold zr;refine p2 (l:=q) (p:=λ_ x=>decide (-9999<=x/\x<=9999)) O O (λa i x e k m=>?_) (λa d=>?_) (λ⟨i,x,e,o⟩=>?_)
 ·have aP:=(bX.1 e).1;rw[bW (show(i:Int)<(q.length:Int) by omega)];refine b' (ai (bq e) (ai (DS n x 9999 O) ?_));cases o:ah (-9999<=x/\x<=9999) with
  |true=>show ad (a _) _;rw[bh O];exact k o
  |false=>exact ad.some (m o)
 ·rw[bT (show¬(q.length:Int)<(q.length:Int) by omega)];refine ad.some ?_;unfold ko;rw[gq.2 (λc r=>by obtain⟨i,aP⟩:=ls r;exact d i c aP),Bool.and_true]
  grind
 unfold ko
 grind
theorem Nn{a:Type}(p q:a->Bool): ∀l:List a,(l.all p&&l.all q)=l.all (λx=>p x&&q x)
 | []=>rfl
 |x::l=>by simp only[List.all_cons,<-Nn p q l];cases p x<;>cases q x<;>cases l.all p<;>cases l.all q<;>rfl
def nY(a:Part):Bool:=ah (1<=a.body.length/\a.body.length<=4)&&a.body.all λs=>eJ s (a.nest.length:Int)
def eU(a:Part):List (List Int):=(jL a.nest).getD []
def eI(c:List ca)(a:Part):Bool:=(jL a.nest).isSome&&(nY a&&a.body.all λs=>(eU a).all λq=>gU c s q&&ko q)
def A9(x:Part):Prop:=qj x.nest/\x.body.length<=1000/\ ∀s∈x.body,zM s
def fP(p:Prog):Prop:=Ef p.aV/\p.parts.length<=1000/\ ∀x∈p.parts,A9 x
theorem jx(h:eI r x=ab):jL x.nest=aa (eU x)/\(1<=x.body.length/\x.body.length<=4)/\(∀s∈x.body,eJ s (x.nest.length:Int)=ab)/\ ∀s∈x.body,∀q∈eU x,gU r s q=ab/\ko q=ab:=by
 simp only[eI,nY,b5,decide_eq_true_eq,g'] at h;refine⟨?_,h.2.1.1,h.2.1.2,h.2.2⟩;unfold eU;cases a:jL x.nest with
 |none=>rw[a] at h;simp at h
 |some c=>rfl
theorem GF{list:List ca}(h:jX list=ab):list.length<=4/\jV list:=by
 simp only[jX,b5,decide_eq_true_eq] at h;refine⟨h.2,λx a=>?_⟩;obtain⟨i,c⟩:=ls a
 have:=La h.1 c;simp only[n',b5] at this
 grind
theorem DV(cG:7000<=n){a:List ca}(M:a.length<=4)(N:jV a)(P:A9 x):
  vN n a x=aa (if eI a x=ab then(((eU x).length:Int)*(x.body.length:Int),ab) else(0,ak)):=by
 obtain⟨S,h2,U⟩:=P;refine ad.eq ?_;unfold vN;generalize v:(if eI a x=ab then(((eU x).length:Int)*(x.body.length:Int),ab) else((0:Int),ak))=T;refine ai (Tq O S) ?_;have d:eI a x=ak->((0:Int),ak)=T:=λh=>by rw[<-v,h];rfl
 refine ad.aE (λz=>z= !((jL x.nest).isSome&&ah (1<=x.body.length/\x.body.length<=4))) (λj m=>?_) λz W=>?_
 ·cases o:jL x.nest with
  |none=>exact b' (m _ (by rw[o];rfl))
  |some c=>
   refine cd (aU (λh=>m _ ?_) λh=>m _ ?_)
   ·rw[o,bT O];rfl
   rw[o];by_cases h4:x.body.length<=4
   ·rw[bT (show¬(4:Int)<(x.body.length:Int) by omega),bW O];rfl
   rw[bW (show(4:Int)<(x.body.length:Int) by omega),bT O];rfl
 subst W;cases o:jL x.nest with
 |none=>exact ad.some (d (by unfold eI;rw[o];rfl))
 |some c=>
  obtain⟨iK,V,X,afJ,afK⟩:=pf o;have B:eU x=c:=by unfold eU;rw[o];rfl
  by_cases Q:1<=x.body.length/\x.body.length<=4
  ·rw[bW Q];refine cd ?_;have p:eI a x=x.body.all (λs=>eJ s (x.nest.length:Int)&&c.all λq=>gU a s q&&ko q):=by
    unfold eI nY;rw[o,B,bW Q,Option.isSome_some,gL,gL];exact Nn _ _ _
   refine ad.loop (λy:Int=> ∃i:Nat,y=i/\i<=x.body.length/\ ∀(t:Nat) s,t<i->x.body[t]? =aa s->(eJ s (x.nest.length:Int)&&c.all λq=>gU a s q&&ko q)=ab) (λy=>x.body.length-y.toNat) ?_ n _ ⟨0,rfl,O,λt s h=>O⟩ bZ;rintro Z y ⟨i,rfl,aP,D⟩ b3;refine aU (λhlt=>?_) λkW=>ad.some ?_
   ·have bG:=bo (O:i<x.body.length);have hm:=bJ bG;refine ai (bq bG) (ai (t8 O (U _ hm) _) ?_);cases l:eJ x.body[i] (x.nest.length:Int) with
    |false=>
     refine b' (ad.some (d ?_));rw[p];exact mb.2 ⟨_,hm,by rw[l];simp⟩
    |true=>
     refine cd ?_;show ad (bj (λe (iX:Int)=>bif ah (iX<(c.length:Int)) then _ else _) n 0) _;refine ad.loop (λy:Int=> ∃k:Nat,y=k/\k<=c.length/\ ∀(t:Nat) q,t<k->c[t]? =aa q->(gU a x.body[i] q&&ko q)=ab) (λy=>c.length-y.toNat) ?_ n _ ⟨0,rfl,O,λt s h=>O⟩ bZ;rintro e y ⟨k,rfl,hk,C⟩ b;refine aU (λE=>?_) λI=>?_
     ·have r:=bo (O:k<c.length);have F:=bJ r;have G:=X _ F;have f:c[k].length<=1000:=by have:=G.1;have:=G.2.1;omega
      refine ai (bq r) (ai (JR O M N l G) (ad.aE (λz=>z= !(gU a x.body[i] c[k]&&ko c[k])) (λj m=>?_) λz W=>?_))
      ·cases H:gU a x.body[i] c[k] with
       |false=>
        rw[H] at m;exact b' (m _ rfl)
       |true=>
        rw[H] at m;exact cd (ai (UF O f) (m _ rfl))
      subst W;cases H:(gU a x.body[i] c[k]&&ko c[k]) with
      |false=>
       refine ad.some (d ?_);rw[p];refine mb.2 ⟨_,hm,?_⟩;rw[l,gL];rw[mb.2 ⟨_,F,by rw[H];simp⟩];simp
      |true=>
       show ad (e _) _;rw[bh O];refine b _ ⟨k+1,O,O,λt q R w=>?_⟩ O;by_cases g:t=k
       ·subst g;rw[r] at w;cases w;exact H
       exact C t q O w
     rw[bh O];refine b3 _ ⟨i+1,O,O,λt s R A=>?_⟩ O;by_cases u:t=i
     ·subst u;rw[bG] at A;cases A;rw[l,gL];refine gq.2 λq G=>?_;obtain⟨l4,K⟩:=ls G
      have:=(bX.1 K).1;exact C l4 q O K
     exact D t s O A
   have L:eI a x=ab:=by
    rw[p];refine gq.2 λs hs=>?_;obtain⟨t,R⟩:=ls hs
    have:=(bX.1 R).1;exact D t s O R
   rw[<-v,L,aX rfl,B];show(wr ((c.length:Int)*(x.body.length:Int)),ab)=_;have qJ:(0:Int)<=(c.length:Int)*(x.body.length:Int):=nI O O;have BF:(c.length:Int)*(x.body.length:Int)<=120*4:=p6 O O O O;rw[bh O]
  rw[bT Q];refine ad.some (d ?_);unfold eI nY;rw[bT Q];simp
def fR(x:Part):Int:=((eU x).length:Int)*(x.body.length:Int)
def eV(i:Nat)(x:Part):List bU:=(eU x).flatMap λq=>(fp x.body.length).map fun(k:Nat)=>(⟨(i:Int),(k:Int),q⟩:bU)
def I(a:List Part):List bU:=a.zipIdx.flatMap λy=>eV y.2 y.1
def jk(p:Prog):Bool:=jX p.aV&&(ah (p.parts.length<=4)&&p.parts.all (eI p.aV))
def bt(p:Prog):Bool:=jk p&&ah ((p.parts.map fR).sum<=120)
theorem agv(l:List Part)(x:Part):I (l++[x])=I l++eV l.length x:=by
 unfold I
 grind
theorem H3{l:List Part}(h:l[i]? =aa x):I (l.take (i+1))=I (l.take i)++eV i x:=by have aP:=(bX.1 h).1;rw[ej,h];show I (l.take i++[x])=_;rw[agv,dr,yI (Nat.le_of_lt aP)]
theorem Au{a R:Type}(f:a->List R)(m:Nat)(h: ∀x,(f x).length=m): ∀l:List a,(l.flatMap f).length=l.length*m
 | []=>aW
 |x::l=>by rw[mR,dp,h,Au f m h l,nN,fc];omega
theorem H0(i:Nat)(x:Part):((eV i x).length:Int)=fR x:=by
 unfold eV fR;rw[Au _ x.body.length λq=>aW]
 grind
theorem MR{l:List Part}(h:l[i]? =aa x):((l.take (i+1)).map fR).sum=((l.take i).map fR).sum+fR x:=by rw[ej,h];simp
theorem QR: ∀(l:List Part) (i:Nat),i<=l.length->((I (l.take i)).length:Int)=((l.take i).map fR).sum
 |l,0,_=>by simp[I]
 |l,i+1,h=>by
  have bG:=bo (O:i<l.length);rw[H3 bG,dp,MR bG]
  have:=QR l i O
  have:=H0 i l[i];omega
theorem xI(l:List Part):((I l).length:Int)=(l.map fR).sum:=by
 have:=QR l l.length (cV _)
 grind
theorem y3(h:eI r x=ab):0<=fR x/\fR x<=480:=by
 obtain⟨a,c,_⟩:=jx h;obtain⟨_,d,_⟩:=pf a;unfold fR;refine⟨nI O O,?_⟩
 have:=p6 (show((eU x).length:Int)<=120 by omega) (show(x.body.length:Int)<=4 by omega) O O;omega
theorem kM(g:7000<=n)(H:fP p):jP n p=aa (bt p):=by
 obtain⟨K,u,L⟩:=H;refine ad.eq ?_;unfold jP;generalize q:bt p=T;unfold bt jk at q;refine ad.aE (λz=>z= !(jX p.aV&&ah (p.parts.length<=4))) (λj C=>ai (Uu O K) ?_) λz m=>?_
 ·cases e:jX p.aV with
  |false=>exact b' (C _ (by rw[e];rfl))
  |true=>
   refine cd (C _ ?_);rw[e];by_cases F:p.parts.length<=4
   ·rw[bT (show¬(4:Int)<(p.parts.length:Int) by omega),bW F];rfl
   rw[bW (show(4:Int)<(p.parts.length:Int) by omega),bT F];rfl
 subst m;cases o:(jX p.aV&&ah (p.parts.length<=4)) with
 |false=>
  refine ad.some ?_;rw[<-q,<-mc,o];rfl
 |true=>
  have k:T=(p.parts.all (eI p.aV)&&ah ((p.parts.map fR).sum<=120)):=by rw[<-q,<-mc,o];rfl
  rw[mS,decide_eq_true_eq] at o;obtain⟨Q,R⟩:=GF o.1;refine cd ?_;refine ad.loop (λx:Int×Int=> ∃i:Nat,x.2=i/\i<=p.parts.length/\x.1=((p.parts.take i).map fR).sum/\0<=x.1/\x.1<=480*i/\ ∀(t:Nat) y,t<i->p.parts[t]? =aa y->eI p.aV y=ab) (λx=>p.parts.length-x.2.toNat) ?_ n _ ⟨0,rfl,O,aW,aW,aW,λt y h=>O⟩ J;rintro a ⟨x,z⟩ ⟨i,m,v,G,r,s,e⟩ W;dsimp only at m G r s e⊢;subst m;refine aU (λX=>?_) λZ=>ad.some ?_
  ·have bG:=bo (O:i<p.parts.length);have hm:=bJ bG;refine ai (bq bG) (ai (DV O Q R (L _ hm)) ?_);cases c:eI p.aV p.parts[i] with
   |false=>
    rw[aY aW];refine ad.some ?_;rw[k,mb.2 ⟨_,hm,by rw[c];simp⟩];rfl
   |true=>
    rw[aX rfl];have b:=y3 c;show ad (a (wr (x+fR p.parts[i]),wr ((i:Int)+1))) _;rw[bh (n:=x+fR p.parts[i]) O,bh O];refine W _ ⟨i+1,J,O,by dsimp only;rw[MR bG];omega,J,J,λt y w d=>?_⟩ J;by_cases A:t=i
    ·subst A;rw[bG] at d;cases d;exact c
    exact e t y O d
  have B:i=p.parts.length:=O
  have l:p.parts.all (eI p.aV)=ab:=gq.2 (λy f=>by
   obtain⟨t,w⟩:=ls f
   have:=(bX.1 w).1;exact e t y O w)
  rw[k,l,gL,G,B,dF]
theorem Jq{a:Type}(f:Nat->a)(k:Nat):(fp (k+1)).map f=(fp k).map f++[f k]:=by rw[mT,eZ];rfl
theorem II(cG:7000<=n)(hp:fP p):r6 n p=aa (if jk p=ab then(I p.parts,ah ((I p.parts).length<=120)) else([],ak)):=by
 obtain⟨h1,h2,h3⟩:=hp;refine ad.eq ?_;unfold r6;generalize kT:(if jk p=ab then(I p.parts,ah ((I p.parts).length<=120)) else([],ak))=T;have a:jk p=ak->(([]:List bU),ak)=T:=λh=>by rw[<-kT,h];rfl
 refine ad.aE (λz=>z= !(jX p.aV&&ah (p.parts.length<=4))) (λj D=>ai (TY O h1) ?_) λz d=>?_
 ·cases E:jX p.aV with
  |false=>exact b' (D _ (by rw[E];rfl))
  |true=>
   refine cd (D _ ?_);rw[E];by_cases h4:p.parts.length<=4
   ·rw[bT (show¬(4:Int)<(p.parts.length:Int) by omega),bW h4];rfl
   rw[bW (show(4:Int)<(p.parts.length:Int) by omega),bT h4];rfl
 subst d;cases a7:(jX p.aV&&ah (p.parts.length<=4)) with
 |false=>exact ad.some (a (by unfold jk;rw[<-mc,a7];rfl))
 |true=>
  have o:jk p=p.parts.all (eI p.aV):=by unfold jk;rw[<-mc,a7];rfl
  rw[mS,decide_eq_true_eq] at a7;obtain⟨cC,cM⟩:=GF a7.1;refine cd ?_;refine ad.loop (λx:List bU×Int=> ∃i:Nat,x.2=i/\i<=p.parts.length/\x.1=I (p.parts.take i)/\x.1.length<=480*i/\ ∀(t:Nat) y,t<i->p.parts[t]? =aa y->eI p.aV y=ab) (λx=>p.parts.length-x.2.toNat) ?_ n _ ⟨0,rfl,O,by simp[I],aW,λt y h=>O⟩ J;rintro again ⟨x,z⟩ ⟨i,d,aP,hx,af7,E⟩ b3;dsimp only at d hx af7 E⊢;subst d;refine aU (λhlt=>?_) λkW=>ad.some ?_
  ·have bG:=bo (O:i<p.parts.length);have hm:=bJ bG;obtain⟨s1,s2,ajs⟩:=h3 _ hm;generalize xq:p.parts[i]=P at*;have w:eI p.aV P=ak->jk p=ak:=λh=>by rw[o];exact mb.2 ⟨_,hm,by rw[h];simp⟩
   refine ai (bq bG) (ai (Tt O s1) (ad.aE (λz=>z= !((jL P.nest).isSome&&nY P)) (λj D=>?_) λz d=>?_))
   ·cases B:jL P.nest with
    |none=>exact b' (D _ (by rw[B];rfl))
    |some c=>
     refine cd ?_;have hw:fX n (P.body.length:Int) 1 4=aa (ah (1<=P.body.length/\P.body.length<=4)):=by
      rw[kP];congr 1;exact decide_eq_decide.2 O
     refine ai hw ?_;have bN:=T4 (n:=n) (f:=λye=>xl n ye P) (p:=λs=> !eJ s (P.nest.length:Int)) (l:=P.body) (λs M=>by unfold xl;rw[TT O (ajs s M)];rfl) O O;have e:(P.body.any λs=> !eJ s (P.nest.length:Int))= !(P.body.all λs=>eJ s (P.nest.length:Int)):=by rw[List.all_eq_not_any_not];simp
     cases N:ah (1<=P.body.length/\P.body.length<=4) with
     |false=>exact b' (D _ (by unfold nY;rw[B,N];rfl))
     |true=>exact cd (ai bN (D _ (by unfold nY;rw[B,N,e];rfl)))
   subst d;cases B:jL P.nest with
   |none=>exact ad.some (a (w (by unfold eI;rw[B];rfl)))
   |some c=>
    obtain⟨iK,aiD,afI,afJ,afK⟩:=pf B;have S:eU P=c:=by unfold eU;rw[B];rfl
    cases H:nY P with
    |false=>exact ad.some (a (w (by unfold eI;rw[H];simp)))
    |true=>
     have C:=H;simp only[nY,b5,decide_eq_true_eq,g'] at C;obtain⟨⟨qJ,BF⟩,aeR⟩:=C;have K:eI p.aV P=P.body.all (λs=>c.all λq=>gU p.aV s q&&ko q):=by
      unfold eI;rw[B,H,S];rfl
     let row:List Int->List bU:=λq=>(fp P.body.length).map fun(k:Nat)=>(⟨(i:Int),(k:Int),q⟩:bU)
     have hrl: ∀q,(row q).length=P.body.length:=λq=>by simp[row]
     have r:eV i P=c.flatMap row:=by unfold eV;rw[S]
     refine cd ?_;rw[show(r0 (aa c)).1=c from rfl];refine ad.loop (λy:List bU×Int=> ∃k:Nat,y.2=k/\k<=c.length/\y.1=x++(c.take k).flatMap row/\ ∀(t:Nat) q,t<k->c[t]? =aa q->ko q=ab/\ ∀s∈P.body,gU p.aV s q=ab) (λy=>c.length-y.2.toNat) ?_ n _ ⟨0,rfl,O,aW,λt q h=>O⟩ J;rintro U ⟨y,z⟩ ⟨k,d,hk,L,R⟩ V;dsimp only at d L R⊢;subst d;refine aU (λhlt2=>?_) λais=>?_
     ·have A:=bo (O:k<c.length);have W:=bJ A;generalize Ht:c[k]=Q at*;have hq:=afI _ W;have HL:Q.length<=4:=by have:=hq.1;have:=hq.2.1;omega
      refine ai (bq A) (ai (UA O O) ?_);have af':y.length<=480*4+480:=by
       rw[L,dp,Au row _ hrl,dr]
       have:min k c.length*P.body.length<=120*4:=oQ O BF;omega
      cases QB:ko Q with
      |false=>
       refine b' (ad.some (a (w ?_)));rw[K];obtain⟨IE,afQ⟩: ∃IE,IE∈P.body:=List.exists_mem_of_length_pos O;refine mb.2 ⟨IE,afQ,?_⟩;rw[mb.2 ⟨Q,W,by rw[QB];simp⟩];simp
      |true=>
       refine cd ?_;refine ad.loop (λu:List bU×Int=> ∃m:Nat,u.2=m/\m<=P.body.length/\u.1=y++(fp m).map (fun(k:Nat)=>(⟨(i:Int),(k:Int),Q⟩:bU))/\ ∀(t:Nat) s,t<m->P.body[t]? =aa s->gU p.aV s Q=ab) (λu=>P.body.length-u.2.toNat) ?_ n _ ⟨0,rfl,O,aW,λt s h=>O⟩ J;rintro ah6 ⟨u,z⟩ ⟨m,d,sn,hu,X⟩ afM;dsimp only at d hu X⊢;subst d;refine aU (λaiz=>?_) λait=>?_
       ·have Z:=bo (O:m<P.body.length);have F:=bJ Z;refine ai (bq Z) (ai (VZ O cC cM (aeR _ F) hq) ?_);cases Qj:gU p.aV P.body[m] Q with
        |false=>
         refine b' (ad.some (a (w ?_)));rw[K];refine mb.2 ⟨_,F,?_⟩;rw[mb.2 ⟨Q,W,by rw[Qj];simp⟩];simp
        |true=>
         have hcl:iN Q=aa Q:=by unfold iN;rw[aX O]
         have uC:u.length<=480*4+480+4:=by rw[hu];simp;omega
         refine cd (ai hcl (ai (cU bZ) ?_));rw[bh O];refine afM _ ⟨m+1,J,O,?_,λt s G b=>?_⟩ J
         ·dsimp only;rw[hu,Jq,fr]
         by_cases afX:t=m
         ·subst afX;rw[Z] at b;cases b;exact Qj
         exact X t s O b
       have afv:m=P.body.length:=O
       rw[bh O];refine V _ ⟨k+1,J,O,?_,λt q G g=>?_⟩ J
       ·dsimp only;rw[ej,A,l8,<-fr,<-L,hu,afv];simp[row]
       by_cases afW:t=k
       ·subst afW;rw[A] at g;cases g;refine⟨QB,λs M=>?_⟩;obtain⟨l4,QH⟩:=ls M
        have:=(bX.1 QH).1;exact X l4 s O QH
       exact R t q O g
     have Qp:k=c.length:=O
     have Qz:eI p.aV P=ab:=by
      rw[K];refine gq.2 λs M=>gq.2 λq hq=>?_;obtain⟨t,G⟩:=ls hq
      have:=(bX.1 G).1;obtain⟨g1,g2⟩:=R t q O G;rw[g1,g2 s M];rfl
     have aeT:=y3 Qz;have BJ:=H0 i P;rw[bh O];refine b3 _ ⟨i+1,J,O,?_,?_,λt y G v=>?_⟩ J
     ·dsimp only;rw[H3 bG,r,L,Qp,dF,hx]
     ·dsimp only;rw[L,Qp,dF,dp,<-r];omega
     by_cases afV:t=i
     ·subst afV;rw[bG] at v;cases v;exact Qz
     exact E t y O v
  have aff:i=p.parts.length:=O
  have hall:jk p=ab:=by
   rw[o];exact gq.2 (λy L=>by
    obtain⟨t,G⟩:=ls L
    have:=(bX.1 G).1;exact E t y O G)
  rw[<-kT,aX hall,hx,aff,dF];congr 1;exact decide_eq_decide.2 O
theorem oe(a:7000<=n)(c:fP p):d6 n p=aa (bt p):=by
 unfold d6;rw[II a c];unfold bt;cases h:jk p with
 |false=>rfl
 |true=>
  rw[aX rfl];show aa (decide _)=_;rw[gL];congr 1
  have:=xI p.parts;exact decide_eq_decide.2 O
theorem Se(c:7000<=n)(d:fP p):BZ n p=aa (if bt p=ab then I p.parts else []):=by
 unfold BZ;rw[II c d];unfold bt;cases h:jk p with
 |false=>rfl
 |true=>
  rw[aX rfl,gL]
  have:=xI p.parts;by_cases a:(I p.parts).length<=120
  ·rw[bW a,bW O,aX rfl];rfl
  rw[bT a,bT O,aY aW];rfl
theorem ev(h:bt p=ab):p.aV.length<=4/\jV p.aV/\p.parts.length<=4/\(∀x∈p.parts,eI p.aV x=ab)/\(I p.parts).length<=120:=by
 simp only[bt,jk,b5,decide_eq_true_eq,g'] at h;obtain⟨⟨c,d,e⟩,i⟩:=h;obtain⟨a,b⟩:=GF c
 have:=xI p.parts
 grind
theorem xU(cG:7000<=n)(U:bt p=ab):qF n p=aa (I p.parts):=by
 obtain⟨cC,cM,h4,F,V⟩:=ev U;refine ad.eq ?_;unfold qF;refine ad.loop (λx:List bU×Int=> ∃i:Nat,x.2=i/\i<=p.parts.length/\x.1=I (p.parts.take i)/\x.1.length<=480*i) (λx=>p.parts.length-x.2.toNat) ?_ n _ ⟨0,rfl,O,by simp[I],aW⟩ J;rintro G ⟨x,z⟩ ⟨i,c,aP,H,K⟩ b3;dsimp only at c H K⊢;subst c;refine aU (λhlt=>?_) λkW=>ad.some ?_
 ·have bG:=bo (O:i<p.parts.length);have hm:=bJ bG;have e:=F _ hm;generalize xq:p.parts[i]=P at*;obtain⟨nB,q2,vb,Re⟩:=jx e;obtain⟨t,L,R,h,W⟩:=pf nB;generalize X:eU P=v at*;have aeT:=y3 e;have D:=H0 i P;let row:List Int->List bU:=λq=>(fp P.body.length).map fun(k:Nat)=>(⟨(i:Int),(k:Int),q⟩:bU)
  have Z: ∀q,(row q).length=P.body.length:=λq=>by simp[row]
  have a:eV i P=v.flatMap row:=by unfold eV;rw[X]
  refine ai (bq bG) (cB (DT t P.nest n 0 [] [] (by have:=t.1;omega) rfl O yd W aW) λr ⟨sQ,vh⟩=>?_);have b:r=v:=by rw[sQ (by rw[<-h];simpa using L),h];rfl
  subst b;refine ad.loop (λy:List bU×Int=> ∃k:Nat,y.2=k/\k<=r.length/\y.1=x++(r.take k).flatMap row) (λy=>r.length-y.2.toNat) ?_ n _ ⟨0,rfl,O,aW⟩ J;rintro l ⟨y,z⟩ ⟨k,c,hk,o⟩ s;dsimp only at c o⊢;subst c;refine aU (λE=>?_) λM=>?_
  ·have d:=bo (O:k<r.length);have f:=bJ d;generalize Ht:r[k]=Q at*;have N:=R _ f;have HL:Q.length<=4:=by have:=N.1;have:=N.2.1;omega
   have af':y.length<=480*4+480:=by
    rw[o,dp,Au row _ Z,dr]
    have:min k r.length*P.body.length<=120*4:=oQ O q2.2;omega
   refine ad.loop (λu:List bU×Int=> ∃m:Nat,u.2=m/\m<=P.body.length/\u.1=y++(fp m).map (fun(k:Nat)=>(⟨(i:Int),(k:Int),Q⟩:bU))) (λu=>P.body.length-u.2.toNat) ?_ n _ ⟨0,rfl,O,aW⟩ J;rintro w ⟨u,z⟩ ⟨m,c,sn,C⟩ A;dsimp only at c C⊢;subst c;refine aU (λS=>?_) λT=>?_
   ·have uC:u.length<=480*4+480+4:=by rw[C];simp;omega
    refine ai (bq d) (ai (nk _ O) (ai (cU bZ) ?_));rw[bh O];refine A _ ⟨m+1,J,O,?_⟩ J;dsimp only;rw[C,Jq,fr]
   have g:m=P.body.length:=O
   rw[bh O];refine s _ ⟨k+1,J,O,?_⟩ J;dsimp only;rw[ej,d,l8,<-fr,<-o,C,g];simp[row]
  have B:k=r.length:=O
  rw[bh O];refine b3 _ ⟨i+1,J,O,?_,?_⟩ J
  ·dsimp only;rw[H3 bG,a,o,B,dF,H]
  dsimp only;rw[o,B,dF,dp,<-a];omega
 have j:i=p.parts.length:=O
 rw[H,j,dF]
theorem Wk{l:List ca}{x:ca}(h:l[i]? =aa x):gj (l.take (i+1))=gj (l.take i)+hr x.b1:=by unfold gj;rw[List.take_add_one,h];simp
theorem KO(s:7000<=n)(w:p.aV.length<=4)(k:jV p.aV):zp n p=aa (gj p.aV):=by
 refine ad.eq ?_;unfold zp;refine ad.loop (λx:Int×Int=> ∃i:Nat,x.2=i/\i<=p.aV.length/\x.1=gj (p.aV.take i)/\0<=x.1/\x.1<=36*i) (λx=>p.aV.length-x.2.toNat) ?_ n _ ⟨0,rfl,O,by simp[gj],aW,aW⟩ J;rintro c ⟨x,z⟩ ⟨i,h,y,l,d,e⟩ m;dsimp only at h l d e⊢;subst h;refine aU (λo=>?_) λq=>ad.some ?_
 ·have bG:=bo (O:i<p.aV.length);have a:=k _ (bJ bG);have lj:=rT a;refine ai (bq bG) (ai (DU O a) ?_);rw[bh (n:=x+hr p.aV[i].b1) O,bh O];exact m _ ⟨i+1,J,O,by dsimp only;rw[Wk bG];omega,J,J⟩ J
 have r:i=p.aV.length:=O
 grind
theorem y6(a:7000<=n)(c:p.aV.length<=4)(d:jV p.aV):uG n p=aa (gj p.aV):=KO a c d
def o'(p:Prog)(m:List Int):Bool:=bt p&&(ah ((m.length:Int)=gj p.aV)&&m.all λx=>decide (0<=x/\x<=999))
theorem Te(i:7000<=n)(k:fP p)(w:m.length<=1000):Cr n p m=aa (o' p m):=by
 refine ad.eq ?_;unfold Cr;generalize a:o' p m=T;unfold o' at a;refine ad.aE (λz=>z=T) (λj d=>ai (oe i k) ?_) λz o=>ad.some o;cases c:bt p with
 |false=>exact cd (d _ (by rw[<-a,c];rfl))
 |true=>
  obtain⟨q,r,_⟩:=ev c;have bN:=ya (n:=n) (f:=λs=>xO n s) (p:=λx=> !decide (0<=x/\x<=999)) (l:=m) (λx _=>by unfold xO;rw[kP];rfl) O O;have e:(m.any λx=> !decide (0<=x/\x<=999))= !(m.all λx=>decide (0<=x/\x<=999)):=by rw[List.all_eq_not_any_not];simp
  refine b' (ai (y6 i q r) (aU (λh=>ai bN (d _ ?_)) λh=>d _ ?_))
  ·rw[<-a,c,bW h,e];simp
  rw[<-a,c,bT h];rfl
theorem Fm(x:Int):Int.tmod x 1000=if 0<=x then x%1000 else-((-x)%1000):=by grind
theorem C2(n:Nat)(x:Int):s0 n x=aa (x%1000):=by
 unfold s0;rw[Fm x];congr 1;split
 ·rw[bh (n:=x%1000+999) O,bh O,Fm,aX O];omega
 rw[bh (n:= -(-x%1000)+999) O,bh O,Fm,aX O];omega
def et:Nat->List ca->List Int->Expr->List Int->Int
 |0,_,_,_,_=>0
 |L+1,c,m,e,q=>
  if e.kind=1 then e.num
  else if e.kind=2 then dK e.index q%1000
  else if e.kind=3 then m.getD (dU c e.read q 0).toNat 0
  else match e.bk with
   | [a,b]=>if e.kind=4 then(et L c m a q+et L c m b q)%1000 else if e.kind=5 then(et L c m a q-et L c m b q)%1000 else(et L c m a q*et L c m b q)%1000
   |_=>0
def fv(a:List ca)(m:List Int):Prop:=(m.length:Int)=gj a/\ ∀x∈m,0<=x/\x<=999
theorem acr(h:fv r m)(i:Nat):0<=m.getD i 0/\m.getD i 0<=999:=by
 rw[eB];cases a:m[i]? with
 |none=>simp
 |some x=>exact h.2 x (bJ a)
theorem tC(c:fv r m): ∀{L:Nat} {e:Expr},dd L e d=ab->0<=et L r m e q/\et L r m e q<=999
 |0,e,h=>by cases h
 |L+1,e,h=>by
  obtain⟨i,a,k⟩:=fQ h;simp only[et];split
  ·rename_i eK;unfold eC at a;rw[aY O,aY O,aX eK] at a;simp only[b5,decide_eq_true_eq] at a;omega
  split
  ·omega
  split
  ·exact acr c _
  split
  ·split
   ·omega
   split<;>omega
  omega
theorem YT{a:Int}(c:0<=a/\a<=999)(d:0<=b/\b<=999):0<=a*b/\a*b<=999000:=by
 constructor
 ·exact nI c.1 d.1
 have:=p6 c.2 d.2 O O;omega
theorem Zn(h:dd (L+1) e d=ab)(k: ¬e.kind=1)(l: ¬e.kind=2)(m: ¬e.kind=3):(e.kind=4\/e.kind=5\/e.kind=6)/\ ∃a b,e.bk=[a,b]:=by
 obtain⟨c,_,_⟩:=fQ h;unfold fu at c;rw[aY O] at c;split at c
 ·rename_i i;refine⟨i,?_⟩
  have:e.bk.length=2:=O
  match n:e.bk,this with
  | [a,b],_=>exact⟨a,b,rfl⟩
 omega
theorem Ep{p:Prog}(z:p.aV.length<=4)(s:jV p.aV){m:List Int}(l:fv p.aV m){d:Int}{k:Nat}{q:List Int}(w:hV k q): ∀(L n:Nat) (e:Expr),7000+L<=n->dd L e d=ab->(∀a∈dx L e,0<=dU p.aV a q 0)->
  qO (n+1) p m e q=aa (et L p.aV m e q)
 |0,n,e,_,h,_=>by cases h
 |L+1,n,e,W,h,A=>by
  obtain⟨X,y,K⟩:=fQ h;unfold qO;refine ad.eq ?_;simp only[et];refine aU (λeK=>ad.some (by rw[aX eK])) λeK=>?_;rw[aY eK];refine aU (λcy=>?_) λcy=>?_
  ·rw[aX cy];unfold eC at y;rw[aX cy] at y;simp only[b5,fg] at y;have B:=y.2.2.1;exact ai (ub O B w) (ai (C2 _ _) (ad.some rfl))
  rw[aY cy];refine aU (λdW=>?_) λdW=>?_
  ·rw[aX dW];have i:e.read∈dx (L+1) e:=by simp[dx,dW]
   have B:=zy h _ i;have C:=A _ i;rcases AQ s e.read q 0 (fM 0) with bN|bN
   ·omega
   have F:(dU p.aV e.read q 0).toNat<m.length:=by have:=l.1;omega
   have bG:=bo F;have G:az m (dU p.aV e.read q 0)=aa m[(dU p.aV e.read q 0).toNat]:=by
    unfold az;rw[aX C,bG]
   refine ai (vt O z s B w) (ai G (ad.some ?_));rw[eB,bG];rfl
  rw[aY dW];obtain⟨Z,a,b,c⟩:=Zn h eK cy dW;obtain⟨n,rfl⟩: ∃j,n=j+1:=⟨n-1,O⟩
  have o:=K a (by rw[c];simp);have r:=K b (by rw[c];simp);have Q:=Ep z s l w L n a O o λx H=>A x (by simp only[dx,List.mem_append,List.mem_flatMap];exact .inr ⟨a,by rw[c];simp,H⟩);have nP:=Ep z s l w L n b O r λx H=>A x (by simp only[dx,List.mem_append,List.mem_flatMap];exact .inr ⟨b,by rw[c];simp,H⟩);have BA:=tC l (q:=q) o;have R:=tC l (q:=q) r;have f:=YT BA R;rw[c];refine ai (x:=a) rfl (ai Q (ai (x:=b) rfl (ai nP ?_)));dsimp only;refine aU (λow=>?_) λow=>?_
  ·rw[aX ow,bh O];exact ai (C2 _ _) (ad.some rfl)
  rw[aY ow];refine aU (λqX=>?_) λqX=>?_
  ·rw[aX qX,bh O];exact ai (C2 _ _) (ad.some rfl)
  rw[aY qX,bh O];exact ai (C2 _ _) (ad.some rfl)
def dm(p:Prog)(x:bU):Prop:= ∃(i k:Nat) (P:Part) (s:Stmt),x.part=i/\x.stmt=k/\p.parts[i]? =aa P/\P.body[k]? =aa s/\x.b2∈eU P
def fZ(p:Prog)(x:bU):Option Stmt:=(p.parts[x.part.toNat]?).bind λP=>P.body[x.stmt.toNat]?
def ey(p:Prog)(m:List Int)(x:bU):List Int:=match fZ p x with
 |some s=>m.set (dU p.aV s.write x.b2 0).toNat (et 5 p.aV m s.value x.b2)
 |none=>m
theorem pC(o:bt p=ab){x:bU}(q:dm p x): ∃(i k:Nat) (P:Part) (s:Stmt) (d:Int),x.part=i/\x.stmt=k/\p.parts[i]? =aa P/\P.body[k]? =aa s/\fZ p x=aa s/\eJ s d=ab/\hV P.nest.length x.b2/\gU p.aV s x.b2=ab:=by obtain⟨F,G,H,a,r⟩:=ev o;obtain⟨i,k,P,s,l,m,c,e,n⟩:=q;obtain⟨w,K,y,z⟩:=jx (a P (bJ c));obtain⟨L,A,h,B,C⟩:=pf w;have hs:=bJ e;exact⟨i,k,P,s,_,l,m,c,e,by unfold fZ;rw[l,m,c',c];exact(by rw[c'];exact e),y s hs,h _ n,(z s hs _ n).1⟩
theorem AP(h:gU r s q=ab):0<=dU r s.write q 0/\ ∀a∈dx 5 s.value,0<=dU r a q 0:=by simp only[gU,b5,decide_eq_true_eq,g'] at h;exact h
theorem YS(c:jV p.aV)(d:fv p.aV m)(h:0<=dU p.aV a q 0):(dU p.aV a q 0).toNat<m.length:=by
 rcases AQ c a q 0 (fM 0) with bN|bN
 ·omega
 have:=d.1;omega
theorem v7{a:Type}{l:List a}(d:0<=c)(h:c.toNat<l.length)(x:a):cA l c x=aa (l.set c.toNat x):=by unfold cA;rw[aX ⟨d,O⟩]
theorem rR{a:Type}{l:List a}(d:0<=c)(h:c.toNat<l.length):az l c=aa l[c.toNat]:=by unfold az;rw[aX d,List.getElem?_eq_getElem h]
theorem tm(e:bt p=ab)(a:fv p.aV m){x:bU}(l:dm p x):fv p.aV (ey p m x):=by
 obtain⟨i,k,P,s,d,q,r,w,y,n,o,z,A⟩:=pC e l;unfold ey;rw[n];refine⟨by rw[e7];exact a.1,λv c=>?_⟩;rcases td c with h|h
 ·exact a.2 v h
 rw[h];exact tC a (ig o).2.1
theorem abf(W:7100<=n)(l:bt p=ab)(o:fv p.aV m){x:bU}(w:dm p x):CP n p m x=aa (ey p m x):=by
 obtain⟨q,c,X,y,z⟩:=ev l;obtain⟨i,k,P,s,d,A,B,C,F,G,H,r,K⟩:=pC l w;obtain⟨e,L⟩:=AP K;obtain⟨Q,R,Z,b⟩:=ig H;obtain⟨n,rfl⟩: ∃j,n=j+1:=⟨n-1,O⟩
 have a:=YS c o e;have h:sd (n+1) p x=aa s:=by
  unfold sd;rw[A,B,bq C];show bL (az P.body (k:Int)) _=_;rw[bq F];rfl
 refine ad.eq ?_;unfold CP;refine ai h (ai (vt O q c Q r) (ai (Ep q c o r 5 n s.value O R L) (ai (rR e a) (ai (v7 e a _) (ad.some ?_)))));unfold ey;rw[G]
theorem e9{l:List Part}{x:bU}(h:x∈I l): ∃(i k:Nat) (P:Part) (s:Stmt),x.part=i/\x.stmt=k/\l[i]? =aa P/\P.body[k]? =aa s/\x.b2∈eU P:=by unfold I at h;rw[jF] at h;obtain⟨⟨P,i⟩,d,a⟩:=h;unfold eV at a;rw[jF] at a;obtain⟨q,e,c⟩:=a;rw[eo] at c;obtain⟨k,m,rfl⟩:=c;have n:=p5.1 m;exact⟨i,k,P,P.body[k],rfl,rfl,vD.1 d,bo n,e⟩
def c7(p:Prog)(m:List Int)(l:List bU):List Int:=l.foldl (ey p) m
theorem sO{p:Prog}(a:bt p=ab): ∀{l:List bU} {m:List Int},(∀x∈l,dm p x)->fv p.aV m->fv p.aV (c7 p m l)
 | [],_,_,h=>h
 |x::l,m,c,h=>sO a (l:=l) (λy d=>c y (by simp[d])) (tm a h (c x aW))
theorem Dg(p:Prog)(m:List Int)(l:List bU)(x:bU):c7 p m (l++[x])=ey p (c7 p m l) x:=by unfold c7;rw[List.foldl_append];rfl
theorem adQ(h:o' p m=ab):bt p=ab/\fv p.aV m:=by simp only[o',b5,decide_eq_true_eq,g'] at h;exact⟨h.1,h.2.1,h.2.2⟩
theorem Z1(X:7100<=n)(s:bt p=ab)(C:fv p.aV m){l:List bU}(Z:l.length<=5000)(w: ∀x∈l,dm p x){f:List Int->bU->Option (List Int)}(F: ∀m x,fv p.aV m->dm p x->f m x=aa (ey p m x)):
  bj (λa ((k,o):(List Int)×Int)=>bif ah (o<(l.length:Int)) then(bL (az l o) λG=>bL (f k G) λA=>bL (iI k A) λH=>a (A,wr (o+1))) else(aa (k,ab))) n (m,0)=aa (c7 p m l,ab):=by
 refine ad.eq ?_;refine ad.loop (λx:List Int×Int=> ∃i:Nat,x.2=i/\i<=l.length/\x.1=c7 p m (l.take i)) (λx=>l.length-x.2.toNat) ?_ n _ ⟨0,rfl,O,rfl⟩ J;rintro q ⟨x,z⟩ ⟨i,B,b,c⟩ K;dsimp only at B c⊢;subst B;have d:fv p.aV x:=by rw[c];exact sO s (λy L=>w y (hv L)) C
 refine aU (λQ=>?_) λR=>ad.some ?_
 ·have bG:=bo (O:i<l.length);have e:=w _ (bJ bG);have h:=tm s d e;have r:iI x (ey p x l[i])=aa ():=by
   unfold iI;rw[aX]
   have:=d.1;have:=h.1;omega
  refine ai (bq bG) (ai (F x _ d e) (ai r ?_));rw[bh O];refine K _ ⟨i+1,J,O,?_⟩ J;dsimp only;rw[ej,bG];show _=c7 p m (l.take i++[l[i]]);rw[Dg,<-c]
 have W:i=l.length:=O
 grind
def Bv(p:Prog)(m:List Int):List Int×Bool:=if o' p m=ab then(c7 p m (I p.parts),ab) else([],ak)
theorem Jh(e:7100<=n)(h:fP p)(c:m.length<=1000):sy n p m=aa (Bv p m):=by
 refine ad.eq ?_;unfold sy;refine ai (Te O h c) ?_;unfold Bv;cases i:o' p m with
 |false=>exact ad.some rfl
 |true=>
  obtain⟨a,k⟩:=adQ i;have l:=(ev a).2.2.2.2;have o:iN m=aa m:=by unfold iN;rw[aX O]
  refine cd (ai o (ai (Se O h) ?_));rw[aX a,aX rfl];exact ad.of (Z1 e a k O (λx d=>e9 d) λm x c d=>abf e a c d) rfl
end
def ed(B:Nat)(a:aF):Prop:=a.a1.length<=B
def e6(B:Nat)(l:List aF):Prop:=l.length<=B/\ ∀a∈l,ed B a
def kA(B:Nat)(a:List Loop):Prop:=a.length<=B/\ ∀l∈a,e6 B l.lo/\e6 B l.aP
def iB(B:Nat):Nat->Expr->Prop
 |0,_=>False
 |L+1,e=>e.bk.length<=B/\ed B e.index/\e6 B e.read.bA/\ ∀k∈e.bk,iB B L k
def ja(B:Nat)(s:Stmt):Prop:=e6 B s.write.bA/\iB B 5 s.value
def gN(B:Nat)(x:Part):Prop:=kA B x.nest/\x.body.length<=B/\ ∀s∈x.body,ja B s
def rE(B:Nat)(l:List ca):Prop:=l.length<=B/\ ∀x∈l,x.b1.length<=B
def dJ(B:Nat)(p:Prog):Prop:=rE B p.aV/\p.parts.length<=B/\ ∀x∈p.parts,gN B x
variable {B C n:Nat}{a b:aF}{s:Stmt}{p:Prog}{k d:Int}{r:cL}{R:Type}{Q:R->Prop}
theorem ed.mono(h:B<=C)(c:ed B a):ed C a:=hA c h
theorem e6.mono(h:B<=C){l:List aF}(c:e6 B l):e6 C l:=⟨hA c.1 h,λa d=>(c.2 a d).mono h⟩
theorem kA.mono(h:B<=C){l:List Loop}(c:kA B l):kA C l:=⟨hA c.1 h,λa d=>⟨(c.2 a d).1.mono h,(c.2 a d).2.mono h⟩⟩
theorem iB.mono{B C:Nat}(h:B<=C): ∀{L M:Nat} {e:Expr},L<=M->iB B L e->iB C M e
 |0,_,_,_,a=>a.elim
 |L+1,0,_,c,_=>O
 |L+1,M+1,e,c,a=>⟨hA a.1 h,a.2.1.mono h,a.2.2.1.mono h,λk d=>iB.mono h O (a.2.2.2 k d)⟩
theorem ja.mono(h:B<=C)(a:ja B s):ja C s:=⟨a.1.mono h,a.2.mono h (cV _)⟩
theorem gN.mono(h:B<=C){s:Part}(a:gN B s):gN C s:=⟨a.1.mono h,hA a.2.1 h,λs c=>(a.2.2 s c).mono h⟩
theorem rE.mono(h:B<=C){s:List ca}(a:rE B s):rE C s:=⟨hA a.1 h,λs c=>hA (a.2 s c) h⟩
theorem dJ.mono(h:B<=C)(a:dJ B p):dJ C p:=⟨a.1.mono h,hA a.2.1 h,λs c=>(a.2.2 s c).mono h⟩
theorem e6.sm{l:List aF}(h:e6 1000 l):kL l:=⟨h.1,h.2⟩
theorem iB.sm: ∀{L:Nat} (j:Nat) {e:Expr},iB 1000 L e->wz j e
 |_,0,_,_=>trivial
 |0,_+1,_,h=>h.elim
 |L+1,j+1,e,h=>⟨h.1,h.2.1,h.2.2.1.sm,λk a=>iB.sm j (h.2.2.2 k a)⟩
theorem ja.sm(h:ja 1000 s):zM s:=⟨h.1.sm,h.2.sm 5⟩
theorem kA.sm{l:List Loop}(h:kA 1000 l):qj l:=⟨h.1,λx a=>⟨(h.2 x a).1.sm,(h.2 x a).2.sm⟩⟩
theorem gN.sm{x:Part}(h:gN 1000 x):A9 x:=⟨h.1.sm,h.2.1,λs a=>(h.2.2 s a).sm⟩
theorem dJ.sm(h:dJ 1000 p):fP p:=⟨⟨h.1.1,h.1.2⟩,h.2.1,λx a=>(h.2.2 x a).sm⟩
theorem kZ(n:Nat){m:Int}(a:c6 k r)(c:k<=1000000000):ad (ia n r m) (λx=>0<=x.1/\(1<=m->x.1<m)/\c6 (k+1) x.2):=Om a c
theorem ji(n:Nat){l:List Int}(a:c6 k r)(c:k<=1000000000)(d:l≠[]):ad (gz n r l) (λx=>x.1∈l/\c6 (k+1) x.2):=OM a c d
theorem Bn(n:Nat){l:List (List UInt8)}(c:c6 k r)(d:k<=1000000000)(e:l≠[]):ad (pH n r l) (λx=>x.1∈l/\c6 (k+1) x.2):=by
 unfold pH;have p:1<=l.length:=by cases l;exact bz rfl e;simp
 refine cB (kZ n c d) λx ⟨h,i,m⟩=>?_;obtain⟨y,o,a⟩:=gk h (i O);exact ai o (ad.some ⟨bJ a,m⟩)
def mi(a:aF):Prop:=a.a1.length=4
theorem mD(n:Nat)(c:Int):kQ n c=aa ⟨[0,0,0,0],c⟩:=rfl
theorem wJ(n:Nat){v:Int}(h:0<=v/\v<=3):ad (oH n v) mi:=by
 unfold oH;refine ai (x:=⟨[0,0,0,0],0⟩) rfl ?_;obtain⟨y,a,_⟩:=gk (l:=[(0:Int),0,0,0]) (i:=v) h.1 bZ;refine ai a ?_;have c:cA [(0:Int),0,0,0] v 1=aa ([(0:Int),0,0,0].set v.toNat 1):=by unfold cA;rw[aX ⟨h.1,bZ⟩]
 exact ai c (ad.some (by unfold mi;rw[e7];rfl))
theorem KU(p:5000<=n)(e:mi a)(h:mi b)(x y:Int):ad (og n a x b y) mi:=by unfold mi at e h;unfold og;refine ad.loop (λz:List Int×Int=> ∃i:Nat,z.2=i/\i<=4/\z.1.length=i) (λz=>4-z.2.toNat) ?_ n _ ⟨0,rfl,O,rfl⟩ J;rintro c ⟨z,w⟩ ⟨i,d,q,k⟩ l;dsimp only at d k⊢;subst d;refine aU (λm=>?_) λo=>ad.some (by unfold mi;dsimp only;omega);refine ai (bq (bo (O:i<a.a1.length))) (ai (bq (bo (O:i<b.a1.length))) (ai (cU bZ) ?_));rw[bh (n:=(i:Int)+1) O];exact l _ ⟨i+1,J,O,by dsimp only;simp;omega⟩ J
theorem mi.BA(h:mi a):ed 10 a:=by unfold mi at h;unfold ed;omega
theorem pe(h:ed 10 a):e6 10 [a]:=⟨aW,λx c=>by simp at c;subst c;exact h⟩
theorem PF(h:ed 10 a)(k:ed 10 b):e6 10 [a,b]:=⟨aW,λx c=>by simp at c;rcases c with rfl|rfl;exact h;exact k⟩
theorem aby(W:5000<=n)(X:c6 k r)(U:0<=k/\k<=100000000)(V:0<=d/\d<=3):ad (z7 n r d) (λx=>(e6 10 x.1.lo/\e6 10 x.1.aP)/\c6 (k+10) x.2):=by
 unfold z7;refine cB (ji n X O aW) λhW ⟨_,Z⟩=>ai (mD _ _) (cB (ji n Z O aW) λj6 ⟨_,L⟩=>ai (mD _ _) ?_);refine ad.aE (λz:List UInt8×Int×List Int×Int×List Int×Int=>c6 (k+5) ⟨z.1,z.2.1⟩/\z.2.2.1.length=4/\z.2.2.2.2.1.length=4) (λj i=>?_) λz l=>?_
 ·refine ad.aE (λz:List UInt8×Int×Bool=>c6 (k+3) ⟨z.1,z.2.1⟩/\(z.2.2=ab->0<d)) (λpG p=>aU (λh=>?_) λh=>p _ ⟨L.mono O,λh=>by cases h⟩) λz l=>?_
  ·exact cB (kZ n L O) λgx ⟨_,_,b⟩=>p _ ⟨b.mono O,λ_=>h⟩
  obtain⟨f,g,w⟩:=z;obtain⟨a,e⟩:=l;dsimp only at a e⊢;cases w with
  |false=>exact i _ ⟨a.mono O,rfl,rfl⟩
  |true=>
   have t:=e rfl;refine cB (kZ n a O) λq ⟨u,v,y⟩=>cB (kZ n y O) λD ⟨_,_,s⟩=>?_;have Q:0<=q.1/\q.1<=3:=⟨u,by have:=v O;omega⟩
   refine aU (λ_=>cB (wJ n Q) λE A=>i _ ⟨s.mono O,A,rfl⟩) λ_=>cB (wJ n Q) λI B=>ai (mD _ _) (cB (KU W B (show mi ⟨[0,0,0,0],1⟩ from rfl) 1 1) λM C=>i _ ⟨s.mono O,rfl,C⟩)
 obtain⟨f,g,w,N,P,S⟩:=z;obtain⟨a,e,F⟩:=l;dsimp only at a e F⊢;have G:ed 10 ⟨w,N⟩:=by unfold ed;dsimp only;omega
 have H:ed 10 ⟨P,S⟩:=by unfold ed;dsimp only;omega
 have R: ∀c:Int,ed 10 ⟨[0,0,0,0],c⟩:=λc=>by unfold ed;simp
 refine ad.aE (λz:List UInt8×Int×List aF×List aF=>c6 (k+10) ⟨z.1,z.2.1⟩/\e6 10 z.2.2.1/\e6 10 z.2.2.2) (λj i=>?_) λz l=>ad.some ⟨⟨l.2.1,l.2.2⟩,l.1⟩;refine cB (kZ n a O) λT ⟨_,_,m⟩=>aU (λ_=>?_) λ_=>aU (λ_=>?_) λ_=>i _ ⟨m.mono O,pe G,pe H⟩
 ·exact cB (ji n m O aW) λK ⟨_,o⟩=>ai (mD _ _) (ai (cU aW) (i _ ⟨o.mono O,pe G,PF H (R _)⟩))
 exact cB (ji n m O aW) λK ⟨_,o⟩=>ai (mD _ _) (ai (cU aW) (i _ ⟨o.mono O,PF G (R _),pe H⟩))
theorem abo(p:5000<=n)(s:c6 k r)(H:0<=k/\k<=90000000):ad (z6 n r) (λx=>(x.1.length<=3/\kA 10 x.1)/\c6 (k+40) x.2):=by
 unfold z6;refine cB (ji n s O aW) λa ⟨w,y⟩=>?_;have K:1<=a.1/\a.1<=3:=by simp at w;omega
 refine ad.loop (λz:List UInt8×Int×List Loop×Int=>0<=z.2.2.2/\(z.2.2.1.length:Int)+z.2.2.2=a.1/\c6 (k+1+10*z.2.2.1.length) ⟨z.1,z.2.1⟩/\ ∀l∈z.2.2.1,e6 10 l.lo/\e6 10 l.aP) (λz=>z.2.2.2.toNat) ?_ n _ ⟨J,aW,by simpa using y,λl h=>by simp at h⟩ J;rintro e ⟨b,q,bH,c⟩ ⟨A,B,i,o⟩ m;dsimp only at A B i o⊢;refine aU (λC=>?_) λF=>ad.some ⟨⟨J,J,o⟩,i.mono O⟩;refine cB (aby p i O (d:=(bH.length:Int)) O) λL ⟨Q,G⟩=>ai (cU bZ) ?_;rw[bh O];refine m _ ⟨J,by dsimp only;simp;omega,G.mono bZ,λl R=>?_⟩ J
 grind
theorem NU(W:5000<=n)(X:c6 k r)(hk:0<=k/\k<=90000000)(cM:0<=d/\d<=3):ad (vP n r d) (λx=>e6 10 x.1.bA/\c6 (k+20) x.2):=by
 unfold vP;refine cB (Bn n X O aW) λhW ⟨m1,Z⟩=>?_;refine ad.aE (λz:Int=>1<=z/\z<=2) (λj m=>aU (λ_=>m _ O) λ_=>m _ O) λw hw=>?_;refine ad.loop (λz:List UInt8×Int×List aF×Int=>0<=z.2.2.2/\z.2.2.2<=w/\(z.2.2.1.length:Int)=z.2.2.2/\c6 (k+1+8*z.2.2.2) ⟨z.1,z.2.1⟩/\ ∀a∈z.2.2.1,ed 10 a) (λz=>(w-z.2.2.2).toNat) ?_ n _ ⟨J,J,aW,by simpa using Z,λl h=>by simp at h⟩ J;rintro s ⟨b,q,bH,c⟩ ⟨f,g,t,y,A⟩ B;dsimp only at f g t y A⊢;refine aU (λu=>?_) λv=>ad.some ⟨⟨J,A⟩,y.mono O⟩;refine cB (ji n y O aW) λD ⟨_,o⟩=>ai (mD _ _) ?_;refine ad.aE (λz:List UInt8×Int×List Int×Int=>c6 (k+1+8*c+8) ⟨z.1,z.2.1⟩/\z.2.2.1.length=4) (λj m=>?_) λz C=>?_
 ·refine ad.aE (λz:List UInt8×Int×Bool=>c6 (k+1+8*c+2) ⟨z.1,z.2.1⟩/\(z.2.2=ab->0<d)) (λpG p=>aU (λh=>?_) λh=>p _ ⟨o.mono O,λh=>by cases h⟩) λz C=>?_
  ·exact cB (kZ n o O) λgx ⟨_,_,E⟩=>p _ ⟨E.mono O,λ_=>h⟩
  obtain⟨I,M,R⟩:=z;obtain⟨e,i⟩:=C;dsimp only at e i⊢;cases R with
  |false=>exact m _ ⟨e.mono O,rfl⟩
  |true=>
   have N:=i rfl;refine cB (kZ n e O) λP ⟨S,T,F⟩=>cB (wJ n ⟨S,by have:=T O;omega⟩) λU G=>?_;refine cB (ji n F O aW) λV ⟨_,H⟩=>cB (ji n H O aW) λK ⟨_,L⟩=>ai (mD _ _) ?_;exact cB (KU W G (show mi ⟨[0,0,0,0],K.1⟩ from rfl) _ _) λoX Q=>m _ ⟨L.mono O,Q⟩
 obtain⟨I,M,R,z4⟩:=z;obtain⟨e,i⟩:=C;dsimp only at e i⊢;refine ai (cU bZ) ?_;rw[bh O];refine B _ ⟨J,J,by dsimp only;simp;omega,e.mono J,λa hc=>?_⟩ J;rcases eS.1 hc with h|h
 ·exact A a h
 simp at h;subst h;unfold ed;dsimp only;omega
theorem ab5(K:5000<=n)(s:c6 k r)(L:0<=k/\k<=90000000)(Q:0<=d/\d<=3):ad (wi n r d) (λx=>ed 10 x.1/\c6 (k+10) x.2):=by
 unfold wi;refine cB (ji n s O aW) λR ⟨W,w⟩=>ai (mD _ _) ?_;refine ad.loop (λz:List UInt8×Int×List Int×Int=>0<=z.2.2.2/\z.2.2.2<=d/\z.2.2.1.length=4/\c6 (k+1+z.2.2.2) ⟨z.1,z.2.1⟩) (λz=>(d-z.2.2.2).toNat) ?_ n _ ⟨J,J,aW,by simpa using w⟩ J;rintro a ⟨b,q,bH,c⟩ ⟨e,A,o,h⟩ m;dsimp only at e A o h⊢;refine aU (λB=>?_) λC=>ad.some ⟨by unfold ed;dsimp only;omega,h.mono O⟩;refine cB (ji n h O aW) λp ⟨_,F⟩=>?_;obtain⟨y,G,_⟩:=gk (l:=bH) (i:=c) e O;have H:cA bH c p.1=aa (bH.set c.toNat p.1):=by unfold cA;rw[aX ⟨e,O⟩]
 refine ai G (ai H ?_);rw[bh O];exact m _ ⟨J,J,by dsimp only;rw[e7];exact o,F.mono J⟩ J
def lx:Nat->Int
 |0=>30
 |L+1=>30+2*lx L
theorem L': ∀L,30<=lx L
 |0=>fM _
 |L+1=>by have:=L' L;simp only[lx];omega
theorem M5{L:Nat}(h:L<=2):lx L<=210:=by
 have a:L=0\/L=1\/L=2:=O
 rcases a with rfl|rfl|rfl<;>decide
theorem ui:ed 10 ⟨[],0⟩:=by unfold ed;simp
theorem uf:e6 10 []:=⟨aW,λx a=>by simp at a⟩
theorem Y0(t:0<=d/\d<=3): ∀(L n:Nat) (k:Int) (r:cL),5000+L<=n->L<=2->c6 k r->0<=k->k<=80000000+10000*(2-(L:Int))->ad (ra (n+1) r d ((L:Int)+1)) (λx=>iB 10 (L+1) x.1/\c6 (k+lx L) x.2):=by
 have a: ∀(L n:Nat) (k:Int) (r:cL),5000<=n->c6 k r->0<=k->k<=80100000->
   ad (bL (ia n r 4) λi=>bif ah (i.1=0) then(bL (gz n i.2 [1,2,0,99,3]) λo=>aa ((⟨1,o.1,(⟨[],0⟩:aF),(⟨[],[]⟩:b0),[]⟩:Expr),o.2)) else(bif ah (i.1=1) then(bL (wi n i.2 d) λu=>aa ((⟨2,0,u.1,(⟨[],[]⟩:b0),[]⟩:Expr),u.2)) else(bL (vP n i.2 d) λv=>aa ((⟨3,0,(⟨[],0⟩:aF),v.1,[]⟩:Expr),v.2)))) (λx=>iB 10 (L+1) x.1/\c6 (k+25) x.2):=by
  intro L n k r B m F D;refine cB (kZ n m O) λi ⟨_,_,G⟩=>aU (λ_=>?_) λ_=>aU (λ_=>?_) λ_=>?_
  ·exact cB (ji n G O aW) λo ⟨_,p⟩=>ad.some ⟨⟨aW,ui,uf,λk h=>by simp at h⟩,p.mono O⟩
  ·exact cB (ab5 B G O t) λo ⟨H,p⟩=>ad.some ⟨⟨aW,H,uf,λk h=>by simp at h⟩,p.mono O⟩
  exact cB (NU B G O t) λo ⟨H,p⟩=>ad.some ⟨⟨aW,ui,H,λk h=>by simp at h⟩,p.mono O⟩
 intro L;induction L with
 |zero=>
  intro n k r B I m F D;unfold ra;refine ad.aE (λz:List UInt8×Int×Bool=>c6 k ⟨z.1,z.2.1⟩/\z.2.2=ab) (λj C=>aU (λ_=>C _ ⟨m,rfl⟩) λh=>bz (show((0:Nat):Int)+1<2 by omega) h) λz s=>?_;obtain⟨M,N,E⟩:=z;obtain⟨w,y⟩:=s;dsimp only at w y⊢;subst y;exact(a 0 n k _ O w F O).mono (λx A=>⟨A.1,A.2.mono (by simp only[lx];omega)⟩)
 |succ L P=>
  intro n k r B I m F D;have S:=L' L;have T:lx L<=210:=M5 O;unfold ra;refine ad.aE (λz:List UInt8×Int×Bool=>c6 (k+1) ⟨z.1,z.2.1⟩) (λj C=>aU (λh=>C _ (m.mono O)) λh=>cB (kZ n m O) λj5 ⟨_,_,U⟩=>C _ U) λz s=>?_;obtain⟨M,N,E⟩:=z;dsimp only at s⊢;cases E with
  |true=>exact(a (L+1) n (k+1) _ O s O O).mono (λx A=>⟨A.1,A.2.mono (by simp only[lx];omega)⟩)
  |false=>
   refine cd (cB (ji n s O aW) λV ⟨_,K⟩=>?_);obtain⟨n,rfl⟩: ∃j,n=j+1:=⟨n-1,O⟩
   have ajb:wr (((L+1:Nat):Int)+1-1)=(L:Int)+1:=by rw[bh O];omega
   rw[ajb];refine ad.loop (λz:List UInt8×Int×List Expr×Int=>0<=z.2.2.2/\z.2.2.2<=2/\(z.2.2.1.length:Int)=z.2.2.2/\c6 (k+2+lx L*z.2.2.2) ⟨z.1,z.2.1⟩/\ ∀e∈z.2.2.1,iB 10 (L+1) e) (λz=>(2-z.2.2.2).toNat) ?_ (n+1) _ ⟨J,J,aW,K.mono bZ,λl h=>by simp at h⟩ J;rintro Q ⟨b,q,bH,c⟩ ⟨i1,i2,i3,R,W⟩ X;dsimp only at i1 i2 i3 R W⊢;have aio:0<=lx L*c/\lx L*c<=2*lx L:=by
    have Z:c=0\/c=1\/c=2:=O
    rcases Z with rfl|rfl|rfl<;>omega
   refine aU (λhlt=>?_) λkW=>ad.some ⟨⟨J,ui,uf,W⟩,R.mono (by simp only[lx];omega)⟩;refine cB (P n _ _ O O R O O) λmV ⟨f,g⟩=>ai (cU bZ) ?_;rw[bh O];refine X _ ⟨J,J,by dsimp only;simp;omega,g.mono (by dsimp only;rw[Int.mul_add];omega),λe he=>?_⟩ J;rcases eS.1 he with h|h
   ·exact W e h
   simp at h;subst h;exact f
theorem abF(B:6000<=n)(m:c6 k r)(C:0<=k/\k<=70000000)(c:0<=d/\d<=3):ad (zZ n r d) (λx=>ja 10 x.1/\c6 (k+300) x.2):=by
 unfold zZ;refine cB (NU O m O c) λo ⟨p,q⟩=>cB (ji n q O aW) λs ⟨e,w⟩=>?_;obtain⟨L,y,a⟩: ∃L:Nat,s.1=(L:Int)+1/\L<=2:=by
  simp at e;rcases e with h|h|h|h
  ·exact⟨1,O,O⟩
  ·exact⟨2,O,O⟩
  ·exact⟨0,O,O⟩
  exact⟨1,O,O⟩
 obtain⟨n,rfl⟩: ∃j,n=j+1:=⟨n-1,O⟩
 have F:lx L<=210:=M5 a;rw[y];refine cB (Y0 c L n _ _ O a w O O) λz ⟨A,i⟩=>?_;have l:ja 10 ⟨o.1,z.1⟩:=⟨p,A.mono (cV _) O⟩
 refine ai (t8 O (l.mono O).sm d) (ad.cond (λ_=>ad.some ⟨l,i.mono O⟩) λ_=>ai (x:=⟨[0,0,0,0],0⟩) rfl (ad.some ⟨⟨pe (by unfold ed;simp),⟨aW,ui,uf,λk h=>by simp at h⟩⟩,i.mono O⟩))
theorem ZE:Dd N [65,91,105,93,61,40,65,91,105,93,43,123,105,125,41]=aa (⟨⟨[65],[⟨[1,0,0,0],0⟩]⟩,⟨4,0,⟨[],0⟩,⟨[],[]⟩,[⟨3,0,⟨[],0⟩,⟨[65],[⟨[1,0,0,0],0⟩]⟩,[]⟩,⟨2,0,⟨[1,0,0,0],0⟩,⟨[],[]⟩,[]⟩]⟩⟩,ab):=Y
theorem adA:EK N [4]=aa ([⟨[⟨[0,0,0,0],0⟩],[⟨[0,0,0,0],4⟩]⟩],ab):=Y
def oM:List ca:=[⟨[65],[6]⟩,⟨[66],[4,5]⟩,⟨[67],[3]⟩]
theorem zT:oM.length<=4/\jV oM:=by refine⟨by decide,λx a=>?_⟩;simp[oM] at a;rcases a with rfl|rfl|rfl<;>decide
theorem NB:rE 10 oM:=by
 refine⟨by decide,λx a=>?_⟩;simp[oM] at a
 grind
theorem acw:gN 10 ⟨[⟨[⟨[0,0,0,0],0⟩],[⟨[0,0,0,0],4⟩]⟩],[⟨⟨[65],[⟨[1,0,0,0],0⟩]⟩,⟨4,0,⟨[],0⟩,⟨[],[]⟩,[⟨3,0,⟨[],0⟩,⟨[65],[⟨[1,0,0,0],0⟩]⟩,[]⟩,⟨2,0,⟨[1,0,0,0],0⟩,⟨[],[]⟩,[]⟩]⟩⟩]⟩:=by
 have i: ∀(a b c d e:Int),ed 10 ⟨[a,b,c,d],e⟩:=λa b c d e=>by unfold ed;simp
 refine⟨⟨aW,λl m=>?_⟩,aW,λs n=>?_⟩
 ·simp at m;subst m;exact⟨pe (i _ _ _ _ _),pe (i _ _ _ _ _)⟩
 simp at n;subst n;refine⟨pe (i _ _ _ _ _),aW,ui,uf,λk o=>?_⟩;simp at o;rcases o with rfl|rfl
 ·exact⟨aW,ui,pe (i _ _ _ _ _),λk h=>by simp at h⟩
 exact⟨aW,i _ _ _ _ _,uf,λk h=>by simp at h⟩
theorem aci(M:c6 k r)(hk:0<=k/\k<=10000000):ad (zY N r) (λx=>gN 10 x.1/\c6 (k+40000) x.2):=by
 have fC:N=100000:=rfl;unfold zY;refine ad.loop (λz:List UInt8×Int×Int=>0<=z.2.2/\z.2.2<=4/\c6 (k+10000*z.2.2) ⟨z.1,z.2.1⟩) (λz=>(4-z.2.2).toNat) ?_ N _ ⟨J,J,by simpa using M⟩ J;rintro Q ⟨b,q,c⟩ ⟨P,S,R⟩ W;dsimp only at P S R⊢;refine aU (λT=>?_) λU=>ai ZE (ai adA (ad.some ⟨acw,R.mono O⟩));refine cB (abo O R O) λi ⟨⟨n3,V⟩,Iy⟩=>cB (ji N Iy O aW) λe ⟨m6,ajq⟩=>?_;have hm:1<=e.1/\e.1<=3:=by simp at m6;omega
 refine ad.loop (λz:List UInt8×Int×List Loop×List Stmt×Int=>z.2.2.1=i.1/\0<=z.2.2.2.2/\z.2.2.2.2<=e.1/\(z.2.2.2.1.length:Int)+z.2.2.2.2<=e.1/\c6 (k+10000*c+41+1500*(e.1-z.2.2.2.2)) ⟨z.1,z.2.1⟩/\ ∀s∈z.2.2.2.1,ja 10 s) (λz=>z.2.2.2.2.toNat) ?_ N _ ⟨rfl,J,J,aW,ajq.mono J,λs h=>by simp at h⟩ J;rintro m ⟨di,nB,aiT,cR,w⟩ ⟨g,pF,kY,QY,H,K⟩ n;dsimp only at g pF kY QY H K⊢;subst g;have a: ∀(l:List Stmt),l.length<=10->(∀s∈l,ja 10 s)->gN 10 ⟨i.1,l⟩:=λl h1 h2=>⟨V,h1,h2⟩
 refine aU (λt=>?_) λu=>?_
 ·refine ad.aE (λz:List UInt8×Int×List Stmt=>c6 (k+10000*c+41+1500*(e.1-w)+1500) ⟨z.1,z.2.1⟩/\z.2.2.length<=cR.length+1/\ ∀s∈z.2.2,ja 10 s) (λQW o=>?_) λz e4=>?_
  ·refine ad.loop (λz:List UInt8×Int×Int=>0<=z.2.2/\z.2.2<=5/\c6 (k+10000*c+41+1500*(e.1-w)+300*z.2.2) ⟨z.1,z.2.1⟩) (λz=>(5-z.2.2).toNat) ?_ N _ ⟨J,J,by simpa using H⟩ J;rintro p ⟨cI,q2,v⟩ ⟨g1,g2,X⟩ y;dsimp only at g1 g2 X⊢;refine aU (λD=>?_) λE=>o _ ⟨X.mono O,J,K⟩;refine cB (abF O X O (d:=(i.1.length:Int)) O) λA ⟨B,C⟩=>ai (x:=oM) rfl ?_;have Z:A9 ⟨i.1,[A.1]⟩:=((a [A.1] aW λs L=>by simp at L;subst L;exact B).mono O).sm;refine ai (DV O zT.1 zT.2 Z) (ad.cond (λ_=>ai (cU bZ) (o _ ⟨C.mono O,aW,λs L=>?_⟩)) λ_=>?_)
   ·rcases eS.1 L with h|h
    ·exact K s h
    simp at h;subst h;exact B
   rw[bh O];exact y _ ⟨J,J,C.mono J⟩ J
  obtain⟨Jb,z2,z3⟩:=z;obtain⟨F,f,G⟩:=e4;dsimp only at F f G⊢;rw[bh O];exact n _ ⟨rfl,J,J,J,F.mono J,G⟩ J
 have I:gN 10 ⟨i.1,cR⟩:=a cR O K;refine ai (x:=oM) rfl (ai (DV O zT.1 zT.2 (I.mono O).sm) ?_);refine ad.aE (λz=>True) (λj o=>ad.cond (λ_=>o _ trivial) λ_=>o _ trivial) λz _=>?_;cases z with
 |true=>exact ad.some ⟨I,H.mono O⟩
 |false=>
  refine cd ?_;rw[bh O];exact W _ ⟨J,J,H.mono J⟩ J
theorem X6(o:c6 k r)(G:0<=k/\k<=1000000):ad (zX N r) (λx=>dJ 10 x.1/\c6 (k+200000) x.2):=by
 have H:N=100000:=rfl;unfold zX;refine ai (x:=oM) rfl (cB (ji N o O aW) λd ⟨p,s⟩=>?_);have K:1<=d.1/\d.1<=3:=by simp at p;omega
 refine ad.loop (λz:List UInt8×Int×List Part×Int=>0<=z.2.2.2/\(z.2.2.1.length:Int)+z.2.2.2=d.1/\c6 (k+1+40000*z.2.2.1.length) ⟨z.1,z.2.1⟩/\ ∀x∈z.2.2.1,gN 10 x) (λz=>z.2.2.2.toNat) ?_ N _ ⟨J,aW,by simpa using s,λx h=>by simp at h⟩ J;rintro e ⟨b,q,w,c⟩ ⟨y,A,a,i⟩ l;dsimp only at y A a i⊢;refine aU (λB=>?_) λC=>?_
 ·refine cB (aci a O) λL ⟨Q,F⟩=>ai (cU bZ) ?_;rw[bh O];refine l _ ⟨J,by dsimp only;simp;omega,F.mono bZ,λx m=>?_⟩ J
  grind
 have n:dJ 10 ⟨oM,w⟩:=⟨NB,J,i⟩
 refine ai (kM O (n.mono O).sm) (ad.cond (λ_=>ad.some ⟨n,a.mono O⟩) λ_=>ai (x:=oM) rfl (ai (km O O O) (ad.some ⟨⟨NB,?_,λx m=>i x ?_⟩,a.mono O⟩)))
 ·simp;omega
 exact hv (jl m)
theorem ES{a h:Type}{l:List a}{f:a->Option h}{g:a->h->a}{K:List a->Option R}(m: ∀x∈l,∃z,f x=aa z/\g x z=x)(A:l.length<=1000)(B:5000<=n)(C:ad (K l) Q):
  ad (bj (λc ((x,i):List a×Int)=>bif ah (i<(l.length:Int)) then(bL (az l i) λy=>bL (f y) λz=>bL (app x [g y z]) λw=>c (w,wr (i+1))) else K x) n ([],0)) Q:=by
 refine ad.loop (λz:List a×Int=> ∃i:Nat,z.2=i/\i<=l.length/\z.1=l.take i) (λz=>l.length-z.2.toNat) ?_ n _ ⟨0,rfl,O,aW⟩ J;rintro c ⟨x,z⟩ ⟨i,k,F,d⟩ o;dsimp only at k d⊢;subst k;refine aU (λp=>?_) λq=>?_
 ·have bG:=bo (O:i<l.length);have r:x.length<=1000:=by rw[d,dr];omega
  obtain⟨y,s,e⟩:=m _ (bJ bG);refine ai (bq bG) (ai s (ai (cU bZ) ?_));rw[bh O];refine o _ ⟨i+1,J,O,?_⟩ J;dsimp only;rw[ej,bG,d,e];rfl
 have:i=l.length:=O
 grind
theorem q5{a:Type}{l:List a}{f:a->Option a}{K:List a->Option R}(d: ∀x∈l,f x=aa x)(e:l.length<=1000)(h:5000<=n)(k:ad (K l) Q):
  ad (bj (λc ((x,i):List a×Int)=>bif ah (i<(l.length:Int)) then(bL (az l i) λy=>bL (f y) λz=>bL (app x [z]) λw=>c (w,wr (i+1))) else K x) n ([],0)) Q:=
 ES (g:=λ_ z=>z) (λx m=>⟨x,d x m,rfl⟩) e h k
theorem Kg: ∀(L n:Nat) (e:Expr),5000+L<=n->iB 1000 L e->q9 (n+1) e=aa e
 |0,_,_,_,h=>h.elim
 |L+1,n,e,m,h=>by
  obtain⟨a,c,d,i⟩:=h;unfold q9;refine ad.eq (ai (za n c) (ai (yy O d.sm) ?_));obtain⟨n,rfl⟩: ∃j,n=j+1:=⟨n-1,O⟩
  exact q5 (f:=q9 (n+1)) (K:=λk=>aa (⟨e.kind,e.num,e.index,e.read,k⟩:Expr)) (λx l=>Kg L n x O (i x l)) a O (ad.some (by cases e;rfl))
theorem Ke(a:6000<=n)(h:ja 1000 s):sW n s=aa s:=by
 obtain⟨n,rfl⟩: ∃j,n=j+1:=⟨n-1,O⟩
 unfold sW;rw[yy O h.1.sm,Kg 5 n s.value O h.2];rfl
theorem Kf(X:6000<=n){nest:List Loop}(h:kA 1000 nest):vQ n nest=aa nest:=by
 obtain⟨Z,C⟩:=h;refine ad.eq ?_;unfold vQ;refine ad.loop (λz:List Loop×Int=> ∃i:Nat,z.2=i/\i<=nest.length/\z.1=nest.take i) (λz=>nest.length-z.2.toNat) ?_ n _ ⟨0,rfl,O,aW⟩ J;rintro c ⟨x,z⟩ ⟨i,e,b,o⟩ F;dsimp only at e o⊢;subst e;refine aU (λG=>?_) λH=>ad.some ?_
 ·have bG:=bo (O:i<nest.length);obtain⟨⟨j,L⟩,⟨eK,cy⟩⟩:=C _ (bJ bG);have Q:x.length<=1000:=by rw[o,dr];omega
  refine ad.loop (λz:List aF×Int=> ∃t:Nat,z.2=t/\t<=nest[i].lo.length/\z.1=nest[i].lo.take t) (λz=>nest[i].lo.length-z.2.toNat) ?_ n _ ⟨0,rfl,O,aW⟩ J;rintro k ⟨y,z⟩ ⟨t,e,u,m⟩ p;dsimp only at e m⊢;subst e;refine ai (bq bG) (aU (λA=>?_) λB=>?_)
  ·have d:=bo (O:t<nest[i].lo.length);have R:y.length<=1000:=by rw[m,dr];omega
   refine ai (bq d) (ai (nk _ (L _ (bJ d))) (ai (cU bZ) ?_));rw[bh O];refine p _ ⟨t+1,J,O,?_⟩ J;dsimp only;rw[ej,d,m];rfl
  have q:t=nest[i].lo.length:=O
  refine ES (l:=nest[i].aP) (f:=λa:aF=>app [] a.a1) (g:=λa r=>(⟨r,a.const⟩:aF)) (K:=λs=>bL (app x [(⟨y,s⟩:Loop)]) λw=>c (w,wr ((i:Int)+1))) (λa W=>⟨_,nk _ (cy a W),rfl⟩) eK O ?_;refine ai (cU bZ) ?_;rw[bh O];refine F _ ⟨i+1,J,O,?_⟩ J;dsimp only;rw[ej,bG,o,m,q,dF];rfl
 have:i=nest.length:=O
 grind
theorem f9(G:6000<=n)(h:dJ 1000 p):q1 n p=aa p:=by
 obtain⟨⟨aS,a2⟩,I,Q⟩:=h;refine ad.eq ?_;unfold q1;refine ES (n:=n) (l:=p.aV) (f:=λw:ca=>app [] w.b1) (g:=λw R=>(⟨w.name,R⟩:ca)) (K:=λW=>bj (λc ((H,y):(List Part)×Int)=>
    bif ah (y<(p.parts.length:Int)) then(
     bL (az p.parts y) λk=>
     bL (vQ n k.nest) λA=>
     bj (λd ((e,m):(List Stmt)×Int)=>
      bif ah (m<(k.body.length:Int)) then(
       bL (az k.body m) λB=>
       bL (sW n B) λC=>
       bL (app e [C]) λF=>
       d (F,wr (m+1))
      ) else(
       bL (app H [(⟨A,e⟩:Part)]) λo=>
       c (o,wr (y+1))
      )
     ) n ([],0)
    ) else(
     aa (⟨W,H⟩:Prog)
    )
   ) n ([],0)) (λa X=>⟨_,nk _ (a2 a X),rfl⟩) aS O ?_
 refine ad.loop (λz:List Part×Int=> ∃i:Nat,z.2=i/\i<=p.parts.length/\z.1=p.parts.take i) (λz=>p.parts.length-z.2.toNat) ?_ n _ ⟨0,rfl,O,aW⟩ J;rintro q ⟨x,z⟩ ⟨i,L,M,r⟩ Z;dsimp only at L r⊢;subst L;refine aU (λb=>?_) λj=>ad.some ?_
 ·have bG:=bo (O:i<p.parts.length);obtain⟨t,u,v⟩:=Q _ (bJ bG);have D:x.length<=1000:=by rw[r,dr];omega
  refine ai (bq bG) (ai (Kf G t) ?_);refine q5 (f:=sW n) (K:=λe=>bL (app x [(⟨p.parts[i].nest,e⟩:Part)]) λo=>q (o,wr ((i:Int)+1))) (λs E=>Ke G (v s E)) u O ?_;refine ai (cU bZ) ?_;rw[bh O];refine Z _ ⟨i+1,J,O,?_⟩ J;dsimp only;rw[ej,bG,r];rfl
 have:i=p.parts.length:=O
 rw[r,this,dF]
theorem tl{a:Type}{l:List a}{i:Nat}{x:a}{P:a->Prop}(h: ∀y∈l,P y)(d:P x): ∀y∈l.set i x,P y:=λy e=>by
 rcases td e with c|c
 ·exact h y c
 rw[c];exact d
theorem AU{a:Type}{l:List a}{x:a}{P:a->Prop}(h: ∀y∈l,P y)(d:P x): ∀y∈l++[x],P y:=λy e=>by
 rcases eS.1 e with c|c
 ·exact h y c
 simp at c;rw[c];exact d
theorem eM{a:Type}{l:List a}{i:Int}(h:0<=i/\i<l.length)(x:a):cA l i x=aa (l.set i.toNat x):=by unfold cA;rw[aX h]
theorem acj{l:List aF}(h:e6 B l)(c:ed (B+5) a):e6 (B+5) (l++[a]):=⟨by have:=h.1;simp;omega,AU (λy d=>(h.2 y d).mono O) c⟩
theorem Nk{l:List aF}(h:e6 B l)(d:ed (B+5) a)(e:ed (B+5) b):e6 (B+5) (l++[a,b]):=⟨by have:=h.1;simp;omega,λy i=>by
 rcases eS.1 i with c|c
 ·exact(h.2 y c).mono O
 simp at c;rcases c with rfl|rfl;exact d;exact e⟩
theorem Aj(h:4<=B)(c:Int):ed B ⟨[0,0,0,0],c⟩:=by unfold ed;simpa using h
theorem FU(b:6000<=n)(S:10<=B/\B<=900)(R:c6 k r)(T:0<=k/\k<=90000000){c:List Loop}(h:kA B c):ad (u9 n r c) (λx=>kA (B+5) x.1/\c6 (k+5) x.2):=by
 unfold u9;refine ai (Kf b (h.mono O)) (aU (λ_=>ad.some ⟨h.mono O,R.mono O⟩) λf=>?_);have s:0<c.length:=O
 have o:=h.mono (O:B<=B+5);have g:=h.1;have t:wr ((c.length:Int)-1)=(c.length:Int)-1:=bh O;rw[t];refine ad.aE (λz:List UInt8×Int×List Loop=>c6 (k+5) ⟨z.1,z.2.1⟩/\kA (B+5) z.2.2) (λj p=>?_) λz W=>ad.some ⟨W.2,W.1⟩;have d: ∀(i:Nat) (l:Loop),e6 (B+5) l.lo->e6 (B+5) l.aP->kA (B+5) (c.set i l):=λi l u v=>⟨by rw[e7];exact o.1,tl o.2 ⟨u,v⟩⟩
 obtain⟨U,w,e⟩:=gk (l:=c) (i:=0) O O;obtain⟨V,A,m⟩:=gk (l:=c) (i:=(c.length:Int)-1) O O;have X:=h.2 _ (bJ e);have Z:=h.2 _ (bJ m);have C:=o.2 _ (bJ e);have F:=o.2 _ (bJ m);refine cB (kZ n R O) λj6 ⟨_,_,q⟩=>aU (λ_=>?_) λ_=>aU (λ_=>?_) λ_=>aU (λ_=>?_) λ_=>aU (λ_=>?_) λ_=>aU (λ_=>?_) λ_=>p _ ⟨q.mono O,o⟩
 ·refine ai w (cB (kZ n q O) λlB ⟨D,E,I⟩=>cB (wJ n ⟨D,by have:=E O;omega⟩) λmX M=>ai (cU (by have:=X.1.1;simp;omega)) (ai (eM O _) (p _ ⟨I.mono O,d _ _ (acj X.1 (M.BA.mono O)) C.2⟩)))
 ·exact ai A (ai (eM O _) (p _ ⟨q.mono O,d _ _ F.1 ⟨aW,λa G=>by simp at G⟩⟩))
 ·exact ai A (ai (mD _ _) (ai (mD _ _) (ai (cU (by have:=Z.2.1;simp;omega)) (ai (eM O _) (p _ ⟨q.mono O,d _ _ F.1 (Nk Z.2 (Aj O _) (Aj O _))⟩)))))
 ·exact ai (mD _ _) (ai w (ai (eM O _) (p _ ⟨q.mono O,d _ _ C.1 ⟨aW,λa G=>by simp at G;subst G;exact Aj O _⟩⟩)))
 refine ad.loop (λz:List Loop=>0<z.length/\kA (B+5) z) (λz=>5-z.length) ?_ n _ ⟨s,o⟩ O;rintro H z ⟨Jb,K⟩ L;refine aU (λN=>?_) λ_=>p _ ⟨q.mono O,K⟩;obtain⟨y,P,Q⟩:=gk (l:=z) (i:=0) O O;exact ai P (ai (cU bZ) (L _ ⟨aW,bZ,AU K.2 (K.2 _ (bJ Q))⟩ bZ))
theorem FT(y:6000<=n)(L:10<=B/\B<=900)(A:c6 k r)(Q:0<=k/\k<=90000000)(h:ja B s):ad (u7 n r s) (λx=>ja (B+5) x.1/\c6 (k+5) x.2):=by
 have q:=h.mono (O:B<=B+5);obtain⟨l,m,C,F,c⟩:=q;have G:=h.1.1;have H:=h.2.1;unfold u7;refine ai (Ke y (h.mono O)) ?_;refine ad.aE (λz:List UInt8×Int×List aF×List Expr×List UInt8×Int×Int=>c6 (k+5) ⟨z.1,z.2.1⟩/\e6 (B+5) z.2.2.1/\z.2.2.2.1.length<=B+5/\ ∀e∈z.2.2.2.1,iB (B+5) 4 e) (λj d=>?_) λz p=>ad.some ⟨⟨p.2.1,p.2.2.1,C,F,p.2.2.2⟩,p.1⟩;refine cB (kZ n A O) λR ⟨_,_,i⟩=>aU (λ_=>?_) λ_=>aU (λ_=>?_) λ_=>aU (λ_=>?_) λ_=>aU (λ_=>?_) λ_=>aU (λ_=>?_) λ_=>d _ ⟨i.mono O,l,m,c⟩
 ·exact cB (Bn n i O aW) λw ⟨_,o⟩=>d _ ⟨o.mono O,l,m,c⟩
 ·exact cB (wJ n (v:=3) O) λW q=>ai (x:=⟨[0,0,0,0],0⟩) rfl (ai (cU bZ) (d _ ⟨i.mono O,Nk h.1 (q.BA.mono O) (Aj O _),m,c⟩))
 ·exact cB (ji n i O aW) λw ⟨_,o⟩=>d _ ⟨o.mono O,l,m,c⟩
 ·exact cB (ji n i O aW) λw ⟨_,o⟩=>d _ ⟨o.mono O,l,m,c⟩
 exact ai (cU bZ) (d _ ⟨i.mono O,l,bZ,AU c ⟨aW,by unfold ed;simp,⟨aW,λa K=>by simp at K⟩,λk h=>by simp at h⟩⟩)
theorem abq(G:6000<=n)(T:c6 k r)(hk:0<=k/\k<=80000000)(h:dJ 10 p):ad (Dt n r p) (λx=>dJ 30 x.1/\c6 (k+30) x.2):=by
 have f:=h.mono (O:10<=30);obtain⟨m,C,o⟩:=f;have hc:=h.1.1;have hp:=h.2.1;unfold Dt;refine ai (f9 G (h.mono O)) ?_;have U:wr ((p.parts.length:Int)-1)=(p.parts.length:Int)-1:=bh O;rw[U];refine ad.aE (λz:List UInt8×Int×List ca×List Part=>c6 (k+30) ⟨z.1,z.2.1⟩/\rE 30 z.2.2.1/\z.2.2.2.length<=30/\ ∀x∈z.2.2.2,gN 30 x) (λj X=>?_) λz Z=>ad.some ⟨⟨Z.2.1,Z.2.2.1,Z.2.2.2⟩,Z.1⟩;have q: ∀(i:Nat) (x:Part),gN 30 x->(p.parts.set i x).length<=30/\ ∀y∈p.parts.set i x,gN 30 y:=λi x g=>⟨by rw[e7];exact C,tl o g⟩
 have a: ∀{t:cL},c6 (k+20) t->ad (j (t.b,t.p,p.aV,p.parts)) (λx=>dJ 30 x.1/\c6 (k+30) x.2):=λu=>X _ ⟨u.mono O,m,C,o⟩;refine cB (kZ n T O) λj6 ⟨_,_,A⟩=>aU (λ_=>?_) λ_=>aU (λ_=>?_) λ_=>aU (λ_=>?_) λ_=>aU (λ_=>?_) λ_=>aU (λ_=>?_) λ_=>a (A.mono O)
 ·refine cB (Bn n A O aW) λk9 ⟨_,V⟩=>cB (ji n V O aW) λlB ⟨_,Iy⟩=>ai (cU bZ) (X _ ⟨Iy.mono O,⟨bZ,AU m.2 aW⟩,C,o⟩)
 ·refine aU (λc=>?_) λ_=>a (A.mono O);obtain⟨y,w,d⟩:=gk (l:=p.aV) (i:=0) O c;exact cB (ji n A O aW) λgx ⟨_,ajr⟩=>ai w (ai (eM O _) (X _ ⟨ajr.mono O,⟨by rw[e7];exact m.1,tl m.2 aW⟩,C,o⟩))
 ·refine aU (λc=>?_) λ_=>a (A.mono O);obtain⟨y,w,d⟩:=gk (l:=p.parts) (i:=0) O c;have v:=h.2.2 _ (bJ d);have e:=o _ (bJ d);refine ai w (cB (FU G (B:=10) O A O v.1) λD ⟨H,K⟩=>cB (FU G (B:=15) O K O H) λE ⟨L,Q⟩=>cB (FU G (B:=20) O Q O L) λI ⟨R,W⟩=>ai (eM O _) ?_);exact X _ ⟨W.mono O,m,q _ _ ⟨R.mono O,e.2.1,e.2.2⟩⟩
 ·refine ad.aE (λz:Bool=>z=ab->0<(p.parts.length:Int)/\ ∀x,az p.parts ((p.parts.length:Int)-1)=aa x->0<(x.body.length:Int)) (λH6 F=>aU (λc=>?_) λ_=>F _ λh=>by cases h) λz Z=>?_
  ·obtain⟨y,w,d⟩:=gk (l:=p.parts) (i:=(p.parts.length:Int)-1) O O;refine ai w (F _ λcM=>⟨c,λx S=>?_⟩);rw[w] at S;cases S;exact hB cM
  cases z with
  |false=>exact a (A.mono O)
  |true=>
   obtain⟨c,a7⟩:=Z rfl;obtain⟨y,w,d⟩:=gk (l:=p.parts) (i:=(p.parts.length:Int)-1) O O;have M:=a7 y w;have v:=h.2.2 _ (bJ d);have e:=o _ (bJ d);obtain⟨s,N,P⟩:=gk (l:=y.body) (i:=0) O M;have ms:=v.2.2 _ (bJ P);refine b' (ai w (ai N (cB (FT G (B:=10) O A O ms) λD ⟨H,K⟩=>cB (FT G (B:=15) O K O H) λE ⟨L,Q⟩=>cB (FT G (B:=20) O Q O L) λI ⟨R,W⟩=>ai (eM O _) (ai (eM O _) ?_))));exact X _ ⟨W.mono O,m,q _ _ ⟨e.1,by rw[e7];exact e.2.1,tl e.2.2 (R.mono O)⟩⟩
 refine aU (λc=>?_) λ_=>a (A.mono O);obtain⟨y,w,d⟩:=gk (l:=p.parts) (i:=(p.parts.length:Int)-1) O O;have e:=o _ (bJ d);exact ai w (ai (eM O _) (X _ ⟨A.mono O,m,q _ _ ⟨e.1,aW,λs N=>by simp at N⟩⟩))
theorem NL{r:List ca}(c:jV r):0<=gj r/\gj r<=36*r.length:=by have d:=nE (λx:ca=>hr x.b1) r λy a=>(rT (c y a)).1;have e:=AX (λx:ca=>hr x.b1) 36 r λy a=>(rT (c y a)).2;unfold gj;omega
end Go.Lift
