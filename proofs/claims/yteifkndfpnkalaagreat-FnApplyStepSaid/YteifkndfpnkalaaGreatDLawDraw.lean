/- Tools. -/
import Derived.Test.YteifkndfpnkalaaGreatDLiftLaw
set_option maxRecDepth 100000
set_option linter.unusedVariables false
namespace Go.Lift
open Go
open Option renaming some -> aa, bind -> bO
open Bool renaming true -> ab, false -> ak, and_eq_true -> b9
open Decidable renaming decide -> ag
open List renaming length_append -> ik, all_eq_true -> hS, map_cons -> gd
section
abbrev N:Nat:=100000
def c6(k:Int)(r:cJ):Prop:=0<=r.p/\r.p<=k/\r.b.length<=2000
variable {k:Int}{r:cJ}
theorem c6.mono{a:Int}(h:c6 k r)(c:k<=a):c6 a r:=⟨h.1,by have:=h.2.1;omega,h.2.2⟩
theorem ac8(a:List UInt8):ad (A6 N a) (c6 0):=by unfold A6;refine ad.aD (λx=>x.length<=2000) (λj c=>aW (λh=>ae (iQ O O O) (c _ bP)) λh=>c _ O) λz d=>ad.some ⟨gq 0,gq 0,d⟩
theorem Rf(x:UInt8):(x.toNat:Int)<=255:=by have:=UInt8.toNat_lt x;omega
theorem yd{n:Int}(h:n≠0):mR n=aa ():=by unfold mR;rw[aQ h]
theorem P8{m:Int}(B:c6 k r)(U:k<=1000000000):ad (hD N r m) (λx=>0<=x.1/\(1<=m->x.1<m)/\c6 (k+1) x.2):=by
 obtain⟨b,p⟩:=r;obtain⟨c,C,w⟩:=B;dsimp only at c C w;unfold hD;dsimp only;have F:wr (p+1)=p+1:=bc O;have G:wr (p+1-1)=p:=by rw[bc O];omega
 rw[F,G];have a:c6 (k+1) ⟨b,p+1⟩:=⟨by show 0<=p+1;omega,by show p+1<=k+1;omega,w⟩
 refine ad.aD (λz=>z=ak->1<=m/\b.length≠0) (λj A=>aW (λh=>A _ λh=>by cases h) λh=>A _ λH=>⟨O,by simpa using H⟩) λz K=>?_;refine ad.cond (λ_=>ad.some ⟨aX,λh=>bP,a⟩) λd=>?_;obtain⟨V,bb⟩:=K d;refine aW (λe=>?_) λL=>?_
 ·obtain⟨x,n,_⟩:=gT c e;refine ae n (ae (yd O) (ad.some ⟨?_,λ_=>?_,a⟩))
  ·exact Int.tmod_nonneg _ O
  exact Int.tmod_lt_of_pos _ O
 have rL:1<=(b.length:Int)/\(b.length:Int)<=2000:=O
 have Q:wr (p*7)=p*7:=bc O;have R:wr (p*7+3)=p*7+3:=bc O;rw[Q,R];obtain⟨x,n,_⟩:=gT (l:=b) (i:=Int.tmod p b.length) (Int.tmod_nonneg _ c) (Int.tmod_lt_of_pos _ O);obtain⟨y,W,_⟩:=gT (l:=b) (i:=Int.tmod (p*7+3) b.length) (Int.tmod_nonneg _ O) (Int.tmod_lt_of_pos _ O);refine ae (yd O) (ae n (ae (yd O) (ae W (ae (yd O) (ae (yd O) (ad.some ⟨?_,λ_=>Int.tmod_lt_of_pos _ O,a⟩))))));refine Int.tmod_nonneg _ ?_;have X:=Rf x;have Z:=Rf y;have o:0<=Int.tdiv p b.length:=Int.tdiv_nonneg c O;have s:Int.tdiv p b.length<=p:=Int.tdiv_le_self _ c;generalize Int.tdiv p b.length=q at o s;have f:wr ((x.toNat:Int)*131)=(x.toNat:Int)*131:=bc O;have g:wr ((y.toNat:Int)*1117)=(y.toNat:Int)*1117:=bc O;have t:wr (p*29)=p*29:=bc O;have u:wr q=q:=bc O;have v:wr (q*53)=q*53:=bc O;rw[f,g,t,u,v];have D:wr ((x.toNat:Int)*131+(y.toNat:Int)*1117)=(x.toNat:Int)*131+(y.toNat:Int)*1117:=bc O;rw[D];have E:wr ((x.toNat:Int)*131+(y.toNat:Int)*1117+p*29)=(x.toNat:Int)*131+(y.toNat:Int)*1117+p*29:=bc O;rw[E];have I:wr ((x.toNat:Int)*131+(y.toNat:Int)*1117+p*29+q*53)=(x.toNat:Int)*131+(y.toNat:Int)*1117+p*29+q*53:=bc O;rw[I];obtain⟨M,P⟩: ∃M:Nat,(x.toNat:Int)*131+(y.toNat:Int)*1117+p*29+q*53=M:=⟨((x.toNat:Int)*131+(y.toNat:Int)*1117+p*29+q*53).toNat,O⟩
 rw[P];have S:(M:Int)<=100000000000000:=O
 have T:Int.tdiv (M:Int) 64=((M / 64:Nat):Int):=by rw[ES O];omega
 rw[T,bc O,Xy _ _ O O];omega
theorem afm{l:List Int}(c:c6 k r)(d:k<=1000000000)(e:l≠[]):ad (gg N r l) (λx=>x.1∈l/\c6 (k+1) x.2):=by
 unfold gg;have o:1<=l.length:=by cases l;exact bB rfl e;simp
 refine ch (P8 c d) λx ⟨h,i,m⟩=>?_;obtain⟨y,n,a⟩:=gT h (i O);exact ae n (ad.some ⟨bx a,m⟩)
end
section
def dx:List Int->List Int->Int
 |c::cs,x::xs=>c*x+dx cs xs
 |_,_=>0
def cV(m:Int)(x:Int):Prop:= -m<=x/\x<=m
variable {a:az}{b c x d hi v M:Int}{i k n:Nat}{p l:List Int}{R:Type}{A B:Option R}{o:List Loop}{s:List UInt8}{Q:R->Prop}
theorem C0{a:Int}(i:0<=a)(l:0<=b)(d:cV a c)(e:cV b x):cV (a*b) (c*x):=by
 obtain⟨m,n⟩:=d;obtain⟨o,p⟩:=e;constructor
 ·have h:=mV (O:0<=a+c) (O:0<=b+x);have k:=mV (O:0<=a-c) (O:0<=b-x)
  grind
 have h:=mV (O:0<=a+c) (O:0<=b-x);have k:=mV (O:0<=a-c) (O:0<=b+x)
 grind
theorem H7(a:List Int):dx a []=0:=by cases a<;>rfl
theorem Pg: ∀{cs a:List Int} {c x:Int},cs[a.length]? =aa c->dx cs (a++[x])=dx cs a+c*x
 | [],a,c,x,h=>by simp at h
 |d::cs,[],c,x,h=>by simp at h;subst h;simp[dx,H7]
 |d::cs,y::a,c,x,h=>by
  have h:cs[a.length]? =aa c:=by simpa using h
  simp only[List.cons_append,dx];rw[Pg h];omega
theorem Pf{d e:List Int}(h:d[i]? =aa c)(a:e[i]? =aa x):dx d (e.take (i+1))=dx d (e.take i)+c*x:=by have hi:=(bR.1 a).1;rw[eN,a];exact Pg (by simpa[Nat.min_eq_left (Nat.le_of_lt hi)] using h)
theorem IX{M:Int}(a:0<=M): ∀{cs xs:List Int},(∀c∈cs,cV 9 c)->(∀x∈xs,cV M x)->cV (9*M*xs.length) (dx cs xs)
 | [],xs,_,_=>by
  have:0<=9*M*(xs.length:Int):=mV O O;simp only[dx,cV];omega
 |d::cs,[],_,_=>by simp[dx,cV]
 |d::cs,y::xs,i,k=>by
  have l:=IX a (cs:=cs) (xs:=xs) (λc h=>i c (by simp[h])) λx h=>k x (by simp[h]);have m:=C0 O a (i d aX) (k y aX);have e:9*M*((y::xs).length:Int)=9*M*(xs.length:Int)+9*M:=by simp[Int.mul_add]
  rw[e];simp only[dx,cV] at*;omega
def cL(a c:Int):List Int:=(List.range (c-a).toNat).map (fun(i:Nat)=>a+(i:Int))
theorem x1{a:Int}:v∈cL a hi↔a<=v/\v<hi:=by
 simp only[cL,List.mem_map,List.mem_range];constructor
 ·rintro⟨i,hi,rfl⟩;omega
 intro h;exact⟨(v-a).toNat,O,O⟩
theorem kq{a:Int}(h:b<=a):cL a b=[]:=by unfold cL;rw[show(b-a).toNat=0 by omega];rfl
theorem pn{a:Int}(h:b<=a):cL b (a+1)=cL b a++[a]:=by
 unfold cL;rw[show(a+1-b).toNat=(a-b).toNat+1 by omega,pD,eM]
 grind
theorem A9{a:Int}(c:a<=v)(d:v<hi):cL a hi=cL a v++v::cL (v+1) hi:=by
 obtain⟨k,e⟩: ∃k:Nat,hi=v+1+k:=⟨(hi-v-1).toNat,O⟩
 subst e;clear d;induction k with
 |zero=>
  rw[show v+1+((0:Nat):Int)=v+1 by omega,pn c,kq (gq _)]
 |succ k h=>
  rw[show v+1+((k+1:Nat):Int)=v+1+(k:Int)+1 by omega,pn O,h,pn O];simp
theorem Co{k:Type}{f:k->Option Bool}{p:k->Bool}{l:List k}(s: ∀x∈l,f x=aa (p x))(G:l.length<n)(w:l.length<=1000000):
  ∃r:Int,bn (λa (c:Int)=>bif ag (c<(l.length:Int)) then(bO (ax l c) λe=>bO (f e) λi=>bif i then(aa c) else(a (wr (c+1)))) else(aa (-1))) n 0=aa r/\ag (0<=r)=l.any p:=by
 suffices h:ad (bn (λa (c:Int)=>bif ag (c<(l.length:Int)) then(bO (ax l c) λe=>bO (f e) λi=>bif i then(aa c) else(a (wr (c+1)))) else(aa (-1))) n 0) (λr=>decide (0<=r)=l.any p) by exact h
 refine ad.loop (λx:Int=>0<=x/\x<=l.length/\(l.take x.toNat).any p=ak) (λx:Int=>l.length-x.toNat) ?_ n 0 ⟨O,O,aX⟩ bP;rintro m x ⟨q,H,K⟩ z;refine aW (λo=>?_) λA=>?_
 ·obtain⟨y,B,d⟩:=gT q o;have hm:=bx d;refine ae B (ae (s y hm) (ad.cond (λC=>ad.some ?_) λF=>?_))
  ·rw[show l.any p=ab from iW.2 ⟨y,hm,C⟩];simp[q]
  rw[bc O];refine z _ ⟨O,O,?_⟩ O;rw[show(x+1).toNat=x.toNat+1 by omega,eN,d]
  grind
 refine ad.some ?_;have L:x.toNat=l.length:=O
 grind
theorem zA{f:Int->Option Bool}{p:Int->Bool}(c: ∀x∈l,f x=aa (p x))(d:l.length<n)(a:l.length<=1000000):ob n l f=aa (l.any p):=by
 obtain⟨r,e,h⟩:=Co c d a;unfold ob zb
 grind
theorem zi{f:az->Option Bool}{p:az->Bool}{l:List az}(c: ∀x∈l,f x=aa (p x))(d:l.length<n)(a:l.length<=1000000):p8 n l f=aa (l.any p):=by
 obtain⟨r,e,h⟩:=Co c d a;unfold p8 DM
 grind
theorem Wk{f:Stmt->Option Bool}{p:Stmt->Bool}{l:List Stmt}(c: ∀x∈l,f x=aa (p x))(d:l.length<n)(a:l.length<=1000000):DK n l f=aa (l.any p):=by
 obtain⟨r,e,h⟩:=Co c d a;unfold DK Ku
 grind
theorem Vm{f:b0->Option Bool}{p:b0->Bool}{l:List b0}(c: ∀x∈l,f x=aa (p x))(d:l.length<n)(a:l.length<=1000000):DF n l f=aa (l.any p):=by
 obtain⟨r,e,h⟩:=Co c d a;unfold DF Kn
 grind
theorem q3{k:Type}{l:List k}{p:Nat->k->Bool}{Q:Bool->Prop}{m:(Int->Option Bool)->Int->Option Bool}(A:l.length<n)(s:l.length<=1000000)
  (c: ∀a (i:Nat) x,l[i]? =aa x->(p i x=ab->ad (a ((i:Int)+1)) Q)->(p i x=ak->Q ak)->ad (m a (i:Int)) Q)
  (o: ∀a,(∀(i:Nat) x,l[i]? =aa x->p i x=ab)->ad (m a (l.length:Int)) Q) (d:(∃(i:Nat) (x:k),l[i]? =aa x/\p i x=ak)->Q ak):ad (bn m n 0) Q:=by
 refine ad.loop (λx:Int=> ∃i:Nat,x=i/\i<=l.length/\ ∀(j:Nat) y,j<i->l[j]? =aa y->p j y=ab) (λx:Int=>l.length-x.toNat) ?_ n 0 ⟨0,rfl,O,λj y h=>O⟩ bP;rintro a x ⟨i,rfl,B,C⟩ w;by_cases e:i<l.length
 ·have q:=bp e;refine c a i _ q (λr=>w _ ⟨i+1,O,O,λj y F G=>?_⟩ O) (λr=>d ⟨i,_,q,r⟩)
  grind
 have z:i=l.length:=O
 grind
def cN(a:az):Bool:=ag (a.aT.length=4)&&(ag (-99<=a.const/\a.const<=99)&&a.aT.all λc=>decide (-9<=c/\c<=9))
theorem fo(h:cN a=ab):a.aT.length=4/\cV 99 a.const/\ ∀c∈a.aT,cV 9 c:=by simp only[cN,b9,decide_eq_true_eq,hS] at h;exact⟨h.1,h.2.1,h.2.2⟩
theorem jC(n:Nat)(x a b:Int):fG n x a b=aa (ag (a<=x/\x<=b)):=by unfold fG;by_cases c:a<=x<;>by_cases d:x<=b<;>simp[aD,c,d]
theorem Lc(i:5000<=n)(a:az)(k:a.aT.length<=1000):wq n a=aa (cN a):=by
 have h: ∀x∈a.aT,zh n x=aa (!decide (-9<=x/\x<=9)):=λx _=>by unfold zh;rw[jC];rfl
 have bT:=zA (n:=n) h O O;unfold wq GM;rw[jC];simp only[aD,bO];rw[bT];unfold cN;have e:(a.aT.any λx=> !decide (-9<=x/\x<=9))= !(a.aT.all λc=>decide (-9<=c/\c<=9)):=by
  grind
 rw[e];by_cases d:a.aT.length=4
 ·rw[bI (show(a.aT.length:Int)=4 by omega),bI d]
  grind
 rw[bJ (show¬(a.aT.length:Int)=4 by omega),bJ d];rfl
theorem zI(n:Nat)(x m:Int)(d:0<=m/\m<=1000000000):r5 n x m=aa (ag (-m<=x/\x<=m)):=by
 unfold r5;rw[bc O];by_cases a: -m<=x<;>by_cases c:x<=m
 ·simp[aD,a,c]
 ·simp[aD,a,c]
 ·simp[aD,a,c]
 simp[aD,a,c]
theorem Kt(A:5000<=n)(a:az)(B:a.aT.length<=1000):tR n a=aa (cN a):=by
 refine ad.eq ?_;unfold tR;refine q3 (l:=a.aT) (p:=λ_ c=>decide (-9<=c/\c<=9)) O O (λd i x m o q=>?_) (λd k=>?_) (λ⟨i,x,m,r⟩=>?_)
 ·rw[bI (show(i:Int)<(a.aT.length:Int) by have:=(bR.1 m).1;omega)];refine ae (bl m) (ae (zI n x 9 O) ?_);have hi:=(bR.1 m).1;cases r:ag (-9<=x/\x<=9) with
  |true=>show ad (d _) _;rw[bc O];exact o r
  |false=>exact ad.some (q r)
 ·rw[bJ (show¬(a.aT.length:Int)<(a.aT.length:Int) by omega)];have e:a.aT.all (λc=>decide (-9<=c/\c<=9))=ab:=gP.2 λc w=>by obtain⟨i,hi⟩:=ma w;exact k i c hi
  refine ad.cond (λh=>(by cases h)) λ_=>?_;unfold cN;rw[e];refine ad.aD (λz:Bool=>z=(ag (a.aT.length=4)&&(ag (-99<=a.const/\a.const<=99)&&ab))) (λj s=>?_) λz y=>ad.some y;refine aW (λh=>ae (zI n a.const 99 O) (s _ ?_)) λh=>s _ ?_
  ·rw[bI (O:a.aT.length=4)];simp
  rw[bJ (show¬a.aT.length=4 by omega)];rfl
 unfold cN
 grind
def cT(a:az)(p:List Int):Int:=a.const+dx a.aT p
def Ee(M:Int)(p:List Int):Prop:= ∀x∈p,cV M x
theorem Bq(c:cN a=ab)(l:p.length<=4)(d:0<=M/\M<=1000000000)(e:Ee M p)(i:Nat)(m:i<=p.length):cV 1000000000000 (a.const+dx a.aT (p.take i)):=by
 obtain⟨n,o,h⟩:=fo c;have q:=IX (M:=M) d.1 (cs:=a.aT) (xs:=p.take i) h λx k=>e x (gO k);have r:(p.take i).length<=4:=bP
 have s:9*M*((p.take i).length:Int)<=9*M*4:=Int.mul_le_mul_of_nonneg_left O O;simp only[cV] at*;omega
theorem aa1(G:5000<=n)(h:cN a=ab)(q:p.length<=4)(l:0<=M/\M<=1000000000)(m:Ee M p):oe n a p=aa (cT a p):=by
 obtain⟨H,K,y⟩:=fo h;refine ad.eq ?_;unfold oe;refine ad.loop (λx:Int×Int=> ∃i:Nat,x.2=i/\i<=p.length/\x.1=a.const+dx a.aT (p.take i)) (λx=>p.length-x.2.toNat) ?_ n _ ⟨0,rfl,O,by simp[H7]⟩ bP;rintro o ⟨x,k⟩ ⟨i,r,z,s⟩ A;dsimp only at r s⊢;subst r;refine aW (λe=>?_) λB=>ad.some ?_
 ·have e:i<p.length:=O
  have c:=bp e;have d:=bp (O:i<a.aT.length);have cC:=Pf d c;have C:=Bq h q l m i z;have w:=Bq h q l m (i+1) O;rw[cC] at w;have F:=C0 O l.1 (y _ (bx d)) (m _ (bx c));refine ae (bl c) (ae (bl d) ?_);simp only[cV] at C w F;rw[bc (n:=a.aT[i]*p[i]) O,bc O,bc O];refine A _ ⟨i+1,J,O,?_⟩ J
  grind
 have:i=p.length:=O
 rw[s,this,dW];rfl
theorem Z0(Q:5000<=n)(e:cN a=ab)(r:p.length<=4)(l:0<=M/\M<=1000000000)(m:Ee M p):pk n a p=aa (cT a p):=by
 obtain⟨R,W,B⟩:=fo e;refine ad.eq ?_;unfold pk;refine ad.loop (λx:Int×Int=> ∃i:Nat,x.2=i/\i<=p.length/\x.1=a.const+dx a.aT (p.take i)) (λx=>p.length-x.2.toNat) ?_ n _ ⟨0,rfl,O,by simp[H7]⟩ bP;rintro o ⟨x,k⟩ ⟨i,s,C,w⟩ F;dsimp only at s w⊢;subst s;refine ad.aD (λz=>z=ag (i<p.length)) (λj y=>aW (λh=>y _ ?_) λh=>y _ ?_) λz G=>?_
 ·rw[bI (O:i<p.length),bI (show(i:Int)<(a.aT.length:Int) by omega)]
 ·rw[bJ (show¬i<p.length by omega)]
 subst G;refine aW (λq=>?_) λH=>ad.some ?_
 ·have c:=bp q;have d:=bp (O:i<a.aT.length);have cC:=Pf d c;have K:=Bq e r l m i C;have A:=Bq e r l m (i+1) O;rw[cC] at A;have L:=C0 O l.1 (B _ (bx d)) (m _ (bx c));refine ae (bl d) (ae (bl c) ?_);simp only[cV] at K A L;rw[bc (n:=a.aT[i]*p[i]) O,bc O,bc O];refine F _ ⟨i+1,J,O,?_⟩ J
  grind
 have:i=p.length:=O
 rw[w,this,dW];rfl
theorem bX(h:ad A Q):ad (bif ab then A else B) Q:=h
theorem b8(h:ad B Q):ad (bif ak then A else B) Q:=h
def e8:List Int->Nat
 | []=>0
 |c::cs=>if e8 cs=0 then(if c=0 then 0 else 1) else e8 cs+1
theorem Mj: ∀(l:List Int) (c:Int),e8 (l++[c])=if c=0 then e8 l else l.length+1
 | [],c=>by simp[e8]
 |d::l,c=>by
  have e:=Mj l c;simp only[List.cons_append,e8,e];by_cases a:c=0
  ·simp[a]
  simp[a]
theorem Mi(h:l[i]? =aa c):e8 (l.take (i+1))=if c=0 then e8 (l.take i) else i+1:=by have hi:=(bR.1 h).1;rw[eN,h];show e8 (l.take i++[c])=_;rw[Mj,cZ,Nat.min_eq_left (Nat.le_of_lt hi)]
theorem tZ: ∀{l:List Int} {i:Nat} {c:Int},l[i]? =aa c->e8 l<=i->c=0
 | [],i,c,h,_=>by simp at h
 |d::l,0,c,h,a=>by
  simp at h;subst h;simp only[e8] at a;by_cases e:e8 l=0
  ·by_cases k:d=0
   ·exact k
   simp[e,k] at a
  simp[e] at a
 |d::l,i+1,c,h,a=>by
  have h:l[i]? =aa c:=by simpa using h
  refine tZ h ?_;simp only[e8] at a;by_cases e:e8 l=0
  ·omega
  rw[aQ e] at a;omega
def kf(a:az):Prop:=a.aT.length<=1000
def ll(l:List az):Prop:=l.length<=1000/\ ∀a∈l,kf a
theorem zQ(s:5000<=n)(h:kf a):pe n a=aa (e8 a.aT:Int):=by
 have h:a.aT.length<=1000:=h;refine ad.eq ?_;unfold pe;refine ad.loop (λx:Int×Int=> ∃i:Nat,x.2=i/\i<=a.aT.length/\x.1=(e8 (a.aT.take i):Int)) (λx=>a.aT.length-x.2.toNat) ?_ n _ ⟨0,rfl,O,by simp[e8]⟩ bP;rintro d ⟨x,k⟩ ⟨i,l,w,m⟩ p;dsimp only at l m⊢;subst l;refine aW (λc=>?_) λq=>ad.some ?_
 ·have c:i<a.aT.length:=O
  have bT:=bp c;have cC:=Mi bT;refine ad.aD (λz:Int=>z=(e8 (a.aT.take (i+1)):Int)) (λj o=>ae (bl bT) (fl (λe=>o _ ?_) λe=>o _ ?_)) λz r=>?_
  ·rw[cC,aQ e,bc O];omega
  ·rw[cC,aR e,m]
  rw[bc O];exact p _ ⟨i+1,J,O,r⟩ J
 have:i=a.aT.length:=O
 grind
theorem AG(r:5000<=n)(p:kf a):rH n a=aa (e8 a.aT:Int):=by
 have p:a.aT.length<=1000:=p;refine ad.eq ?_;unfold rH;refine ad.loop (λx:Int=> ∃i:Nat,x=i/\i<=a.aT.length/\e8 a.aT=e8 (a.aT.take i)) (λx=>x.toNat) ?_ n _ ⟨a.aT.length,rfl,O,by rw[dW]⟩ bP;rintro c x ⟨i,rfl,s,d⟩ q;cases i with
 |zero=>
  refine ad.aD (λz=>z=ak) (λj k=>aW (λh=>bB h (by decide)) λh=>k _ rfl) λz l=>?_;subst l;exact ad.some (by rw[d];rfl)
 |succ i=>
  have m:i<a.aT.length:=O
  have bT:=bp m;have cC:=Mi bT;have e:wr (((i+1:Nat):Int)-1)=(i:Int):=by rw[bc O];omega
  rw[e];refine ad.aD (λz=>z=ag (a.aT[i]=0)) (λj k=>aW (λh=>ae (bl bT) (k _ rfl)) λh=>bB (show(0:Int)<((i+1:Nat):Int) by omega) h) λz l=>?_;subst l;refine aW (λo=>?_) λo=>ad.some ?_
  ·exact q _ ⟨i,rfl,O,by rw[d,cC,aR o]⟩ O
  rw[d,cC,aQ o]
def fz(a:az)(d:Int):Bool:=cN a&&ag ((e8 a.aT:Int)<=d)
def fB(l:List az)(d:Int):Bool:=l.all (λa=>fz a d)&&ag (1<=l.length/\l.length<=2)
theorem Kh(a b:Int):ag (a<b)= !decide (b<=a):=by grind
theorem Mw(y:5000<=n){l:List az}(C:ll l)(d:Int):xH n l d=aa (fB l d):=by
 obtain⟨H,F⟩:=C;refine ad.eq ?_;unfold xH;refine q3 (l:=l) (p:=λ_ a=>fz a d) O O (λk i x q r s=>?_) (λk m=>?_) (λ⟨i,x,q,K⟩=>?_)
 ·have hi:=(bR.1 q).1;have hm:=F x (bx q);rw[bI (show(i:Int)<(l.length:Int) by omega)];refine bX (ad.aD (λz=>z= !fz x d) (λj o=>ae (bl q) (ae (Kt y x hm) ?_)) λz w=>?_)
  ·cases A:cN x with
   |false=>exact o _ (by unfold fz;rw[A];rfl)
   |true=>exact ae (zQ y hm) (o _ (by unfold fz;rw[A,Kh];simp))
  subst w;cases B:fz x d with
  |true=>show ad (k _) _;rw[bc O];exact r B
  |false=>exact ad.some (s B)
 ·rw[bJ (show¬(l.length:Int)<(l.length:Int) by omega)];have e:l.all (λa=>fz a d)=ab:=gP.2 λc G=>by obtain⟨i,hi⟩:=ma G;exact m i c hi
  unfold fB;rw[e];refine b8 (ad.aD (λz=>z=ag (1<=l.length/\l.length<=2)) (λj o=>aW (λh=>o _ ?_) λh=>o _ ?_) λz w=>ad.some (by rw[w];rfl))
  ·by_cases L:l.length<=2
   ·rw[bI (show(l.length:Int)<=2 by omega),bI O]
   rw[bJ (show¬(l.length:Int)<=2 by omega),bJ O]
  rw[bJ O]
 unfold fB
 grind
theorem MN(c:5000<=n)(e:kf a)(d:Int):wu n a d=aa (!fz a d):=by
 unfold wu;rw[Lc c a e];simp only[aD,bO];cases h:cN a with
 |false=>simp[fz,h]
 |true=>
  rw[AG c e];simp only[fz,h,Bool.not_true,cond_false,Bool.true_and];rw[Kh]
theorem Fy(n k:Nat):fG n (k:Int) 1 2=aa (ag (1<=k/\k<=2)):=by
 rw[jC];congr 1
 grind
theorem LJ(c:5000<=n){l:List az}(e:ll l)(d:Int):z8 n l d=aa (fB l d):=by
 obtain⟨m,h⟩:=e;unfold z8;rw[Fy];have bT:=zi (n:=n) (f:=λi=>wu n i d) (p:=λa=> !fz a d) (l:=l) (λx k=>MN c (h x k) d) O O;simp only[aD,bO];rw[bT];unfold fB
 grind
def yc{k:Type}(p:Nat->k->Bool)(l:List k):Bool:=l.zipIdx.all λq=>p q.2 q.1
theorem E2{k:Type}{p:Nat->k->Bool}{l:List k}(h: ∀(i:Nat) x,l[i]? =aa x->p i x=ab):yc p l=ab:=
 gP.2 λq a=>h q.2 q.1 (w5.1 a)
theorem EJ{k:Type}{p:Nat->k->Bool}{l:List k}{x:k}(h:l[i]? =aa x)(a:p i x=ak):yc p l=ak:=
 mZ.2 ⟨(x,i),w5.2 h,by rw[a];simp⟩
theorem ML{k:Type}{p:Nat->k->Bool}{l:List k}(h:yc p l=ab){x:k}(a:l[i]? =aa x):p i x=ab:=
 gP.1 h (x,i) (w5.2 a)
def l4(a:List Loop):Bool:=yc (λi l=>fB l.lo (i:Int)&&fB l.hi (i:Int)) a&&ag (a.length<=4)
def rm(a:List Loop):Prop:=a.length<=1000/\ ∀l∈a,ll l.lo/\ll l.hi
theorem VP(m:5000<=n)(h:rm o):Fl n o=aa (l4 o):=by
 obtain⟨F,w⟩:=h;refine ad.eq ?_;unfold Fl;refine q3 (l:=o) (p:=λi l=>fB l.lo (i:Int)&&fB l.hi (i:Int)) O O (λa i x c e k=>?_) (λa d=>?_) (λ⟨i,x,c,y⟩=>?_)
 ·have hi:=(bR.1 c).1;obtain⟨A,B⟩:=w x (bx c);rw[bI (show(i:Int)<(o.length:Int) by omega)];refine ae (bl c) (ad.aD (λz=>z= !(fB x.lo (i:Int)&&fB x.hi (i:Int))) (λj q=>ae (LJ m A _) ?_) λz C=>?_)
  ·cases r:fB x.lo (i:Int) with
   |false=>exact q _ (by rw[r];rfl)
   |true=>exact ae (LJ m B _) (q _ (by rw[r];rfl))
  subst C;cases s:(fB x.lo (i:Int)&&fB x.hi (i:Int)) with
  |true=>show ad (a _) _;rw[bc O];exact e s
  |false=>exact ad.some (k s)
 ·rw[bJ (show¬(o.length:Int)<(o.length:Int) by omega)];refine ad.some ?_;unfold l4;rw[E2 d,gp]
  grind
 unfold l4;rw[EJ c y];rfl
theorem VR(s:5000<=n)(h:rm o):Fc n o=aa (l4 o):=by
 obtain⟨H,B⟩:=h;unfold Fc;by_cases w:o.length<=4
 ·rw[bI (show(o.length:Int)<=4 by omega)];refine ad.eq ?_;refine q3 (l:=o) (p:=λi l=>fB l.lo (i:Int)&&fB l.hi (i:Int)) O O (λa i x d q r=>?_) (λa e=>?_) (λ⟨i,x,d,C⟩=>?_)
  ·have hi:=(bR.1 d).1;obtain⟨F,G⟩:=B x (bx d);rw[bI (show(i:Int)<(o.length:Int) by omega)];refine ad.aD (λz=>z=ab) (λj c=>bX (c _ rfl)) λz m=>?_;subst m;refine bX (ad.aD (λz=>z= !(fB x.lo (i:Int)&&fB x.hi (i:Int))) (λj c=>ae (bl d) (ae (Mw s F _) ?_)) λz m=>?_)
   ·cases y:fB x.lo (i:Int) with
    |false=>exact c _ (by rw[y];rfl)
    |true=>exact ae (Mw s G _) (c _ (by rw[y];rfl))
   subst m;cases A:(fB x.lo (i:Int)&&fB x.hi (i:Int)) with
   |true=>show ad (a _) _;rw[bc O];exact q A
   |false=>exact ad.some (r A)
  ·rw[bJ (show¬(o.length:Int)<(o.length:Int) by omega)];refine ad.aD (λz=>z=ak) (λj c=>b8 (c _ rfl)) λz m=>?_;subst m;refine ad.some ?_;unfold l4;rw[E2 e,bI w];rfl
  unfold l4;rw[EJ d C];rfl
 obtain⟨k,rfl⟩: ∃k,n=k+1:=⟨n-1,O⟩
 rw[bJ (show¬(o.length:Int)<=4 by omega)];unfold l4;rw[bJ w,k5];simp only[bn,aD]
 grind
def iT:List Int->Int
 | []=>0
 |x::a=>a.foldl max x
def kW:List Int->Int
 | []=>0
 |x::a=>a.foldl min x
theorem aeh(h:l≠[])(x:Int):iT (l++[x])=max (iT l) x:=by
 cases l with
 |nil=>exact bB rfl h
 |cons a l=>simp[iT,List.foldl_append]
theorem aek(h:l≠[])(x:Int):kW (l++[x])=min (kW l) x:=by
 cases l with
 |nil=>exact bB rfl h
 |cons a l=>simp[kW,List.foldl_append]
theorem Rq: ∀(l:List Int) (a:Int),a<=l.foldl max a
 | [],a=>gq _
 |x::l,a=>Int.le_trans (Int.le_max_left a x) (Rq l (max a x))
theorem Rs: ∀(l:List Int) (a:Int),l.foldl min a<=a
 | [],a=>gq _
 |x::l,a=>Int.le_trans (Rs l (min a x)) (Int.min_le_left a x)
def fi(l:List az)(p:List Int):List Int:=l.map λa=>cT a p
def cP(l:Loop)(p:List Int):Int:=iT (fi l.lo p)
def dd(l:Loop)(p:List Int):Int:=kW (fi l.hi p)
def iF(k:Nat)(p:List Int):Prop:=p.length=k/\k<=4/\Ee (100*40^k) p
theorem s6(h:k<=4):(0:Int)<=100*40^k/\(100:Int)*40^k<=1000000000:=by
 match k,h with
 |0,_=>decide
 |1,_=>decide
 |2,_=>decide
 |3,_=>decide
 |4,_=>decide
theorem pK{l:List az}(h:fB l d=ab):1<=l.length/\l.length<=2/\ ∀a∈l,cN a=ab:=by
 simp only[fB,b9,decide_eq_true_eq,hS] at h;refine⟨h.2.1,h.2.2,λa c=>?_⟩
 have:=h.1 a c;simp only[fz,b9] at this
 grind
theorem QP(c:cN a=ab)(d:iF k p)(e:k<=3): -(40*(100*40^k))<=cT a p/\cT a p<=40*(100*40^k):=by
 obtain⟨n,o,h⟩:=fo c;obtain⟨q,r,i⟩:=d;obtain⟨l,s⟩:=s6 (k:=k) O;have w:(100:Int)<=100*40^k:=by
  match k,e with
  |0,_=>decide
  |1,_=>decide
  |2,_=>decide
  |3,_=>decide
 generalize (100*40^k:Int)=M at*;have y:=IX (M:=M) l (cs:=a.aT) (xs:=p) h λx m=>i x m;have z:9*M*(p.length:Int)<=9*M*3:=Int.mul_le_mul_of_nonneg_left O O;simp only[cV] at*;unfold cT;omega
theorem yw(d:5000<=n)(e:cN a=ab)(c:iF k p):pk n a p=aa (cT a p):=
 Z0 d e (by have:=c.1;have:=c.2.1;omega) (s6 c.2.1) c.2.2
theorem vw(d:5000<=n)(e:cN a=ab)(c:iF k p):oe n a p=aa (cT a p):=
 aa1 d e (by have:=c.1;have:=c.2.1;omega) (s6 c.2.1) c.2.2
theorem pt{l:List az}(h:l[i]? =aa a):(fi l p)[i]? =aa (cT a p):=by unfold fi;rw[List.getElem?_map,h];rfl
theorem CD(l:List az)(p:List Int):(fi l p).length=l.length:=dJ ..
theorem PS{k:Type}{l:List k}(h:1<=i)(a:1<=l.length):l.take i≠[]:=by
 intro e
 have:(l.take i).length=0:=by rw[e];rfl
 grind
theorem P'(h:l[i]? =aa x)(a:1<=i):iT (l.take (i+1))=max (iT (l.take i)) x:=by have:=(bR.1 h).1;rw[eN,h];exact aeh (PS a O) x
theorem PG(h:l[i]? =aa x)(a:1<=i):kW (l.take (i+1))=min (kW (l.take i)) x:=by have:=(bR.1 h).1;rw[eN,h];exact aek (PS a O) x
theorem It(h:l[0]? =aa x):iT (l.take 1)=x:=by
 cases l with
 |nil=>simp at h
 |cons a l=>simp at h;subst h;rfl
theorem Iu(h:l[0]? =aa x):kW (l.take 1)=x:=by
 cases l with
 |nil=>simp at h
 |cons a l=>simp at h;subst h;rfl
theorem M1(r:5000<=n){l:Loop}{a:Int}(W:fB l.lo d=ab)(X:fB l.hi a=ab)(s:iF k p):Ai n l p=aa (cP l p,dd l p):=by
 obtain⟨aL,a2,a3⟩:=pK W;obtain⟨f,t,R⟩:=pK X;have C:=bp (O:0<l.lo.length);have F:=bp (O:0<l.hi.length);refine ad.eq ?_;unfold Ai;refine ae (bl (i:=0) C) (ae (yw r (a3 _ (bx C)) s) (ae (bl (i:=0) F) (ae (yw r (R _ (bx F)) s) ?_)));refine ad.loop (λx:Int×Int=> ∃i:Nat,x.2=i/\1<=i/\i<=l.lo.length/\x.1=iT ((fi l.lo p).take i)) (λx=>l.lo.length-x.2.toNat) ?_ n _ ⟨1,rfl,O,O,(It (pt C)).symm⟩ J;rintro G ⟨x,z⟩ ⟨i,c,m,Z,w⟩ b;dsimp only at c w⊢;subst c;refine aW (λH=>?_) λK=>?_
 ·have g:=bp (O:i<l.lo.length);have e:=P' (pt (p:=p) g) m;refine ad.aD (λz=>z=iT ((fi l.lo p).take (i+1))) (λj q=>ae (bl g) (ae (yw r (a3 _ (bx g)) s) (aW (λh=>q _ ?_) λh=>q _ ?_))) λz c=>?_
  ·rw[e,<-w];omega
  ·rw[e,<-w];omega
  rw[bc O];exact b _ ⟨i+1,J,O,O,c⟩ J
 have o:i=l.lo.length:=O
 have L:x=cP l p:=by rw[w,o,<-CD l.lo p,dW];rfl
 refine ad.loop (λx:Int×Int=> ∃i:Nat,x.2=i/\1<=i/\i<=l.hi.length/\x.1=kW ((fi l.hi p).take i)) (λx=>l.hi.length-x.2.toNat) ?_ n _ ⟨1,rfl,O,O,(Iu (pt F)).symm⟩ J;rintro A ⟨y,z⟩ ⟨i,c,m,Z,B⟩ Q;dsimp only at c B⊢;subst c;refine aW (λH=>?_) λK=>ad.some ?_
 ·have g:=bp (O:i<l.hi.length);have e:=PG (pt (p:=p) g) m;refine ad.aD (λz=>z=kW ((fi l.hi p).take (i+1))) (λj q=>ae (bl g) (ae (yw r (R _ (bx g)) s) (aW (λh=>q _ ?_) λh=>q _ ?_))) λz c=>?_
  ·rw[e,<-B];omega
  ·rw[e,<-B];omega
  rw[bc O];exact Q _ ⟨i+1,J,O,O,c⟩ J
 have o:i=l.hi.length:=O
 rw[L,B,o,<-CD l.hi p,dW];rfl
theorem aaV(h:5000<=n){l:Loop}{a:Int}(K:fB l.lo d=ab)(L:fB l.hi a=ab)(m:iF k p):Fo n l p=aa (cP l p,dd l p):=by
 obtain⟨aL,a2,a3⟩:=pK K;obtain⟨W,X,H⟩:=pK L;have s:=bp (O:0<l.lo.length);have w:=bp (O:0<l.hi.length);refine ad.eq ?_;unfold Fo;refine ae (bl (i:=0) s) (ae (vw h (a3 _ (bx s)) m) (ae (bl (i:=0) w) (ae (vw h (H _ (bx w)) m) ?_)));refine ad.loop (λx:Int×Int=> ∃i:Nat,x.2=i/\i<=l.lo.length/\x.1=iT ((fi l.lo p).take (max i 1))) (λx=>l.lo.length-x.2.toNat) ?_ n _ ⟨0,rfl,O,(It (pt s)).symm⟩ J;rintro A ⟨x,z⟩ ⟨i,e,Q,o⟩ R;dsimp only at e o⊢;subst e;refine aW (λB=>?_) λC=>?_
 ·have g:=bp (O:i<l.lo.length);refine ae (bl g) (ae (vw h (a3 _ (bx g)) m) ?_);rw[bc O];refine R _ ⟨i+1,J,O,?_⟩ J;dsimp only;rw[show max (i+1) 1=i+1 by omega];cases i with
  |zero=>rw[o,show max 0 1=1 by rfl,dQ,It (pt g)];omega
  |succ i=>rw[P' (pt (p:=p) g) O,o,show max (i+1) 1=i+1 by omega]
 have c:i=l.lo.length:=O
 have F:x=cP l p:=by rw[o,c,Nat.max_eq_left O,<-CD l.lo p,dW];rfl
 refine ad.loop (λx:Int×Int=> ∃i:Nat,x.2=i/\i<=l.hi.length/\x.1=kW ((fi l.hi p).take (max i 1))) (λx=>l.hi.length-x.2.toNat) ?_ n _ ⟨0,rfl,O,(Iu (pt w)).symm⟩ J;rintro q ⟨y,z⟩ ⟨i,e,Q,r⟩ G;dsimp only at e r⊢;subst e;refine aW (λB=>?_) λC=>ad.some ?_
 ·have g:=bp (O:i<l.hi.length);refine ae (bl g) (ae (vw h (H _ (bx g)) m) ?_);rw[bc O];refine G _ ⟨i+1,J,O,?_⟩ J;dsimp only;rw[show max (i+1) 1=i+1 by omega];cases i with
  |zero=>rw[r,show max 0 1=1 by rfl,dQ,Iu (pt g)];omega
  |succ i=>rw[PG (pt (p:=p) g) O,r,show max (i+1) 1=i+1 by omega]
 have c:i=l.hi.length:=O
 rw[F,r,c,Nat.max_eq_left O,<-CD l.hi p,dW];rfl
theorem Cy{l:Loop}(n:fB l.lo d=ab)(o:fB l.hi b=ab)(e:iF k p)(i:k<=3)(A:cP l p<=v/\v<dd l p):iF (k+1) (p++[v]):=by
 obtain⟨aL,a2,a3⟩:=pK n;obtain⟨m,B,r⟩:=pK o;have C: -(40*(100*40^k))<=cP l p:=by
  cases c:l.lo with
  |nil=>rw[c] at aL;simp at aL
  |cons a as=>
   have:=(QP (a3 a (by rw[c];simp)) e i).1;unfold cP fi;rw[c];exact Int.le_trans this (Rq _ _)
 have F:dd l p<=40*(100*40^k):=by
  cases c:l.hi with
  |nil=>rw[c] at m;simp at m
  |cons a as=>
   have:=(QP (r a (by rw[c];simp)) e i).2;unfold dd fi;rw[c];exact Int.le_trans (Rs _ _) this
 obtain⟨s,G,w⟩:=e;have y:(100*40^(k+1):Int)=40*(100*40^k):=by rw[Int.pow_succ];omega
 have q:=(s6 (k:=k) O).1;refine⟨by simp[s],O,λx z=>?_⟩;rw[y];rcases eC.1 z with h|h
 ·have:=w x h;simp only[cV] at this⊢;omega
 simp at h;subst h;simp only[cV];omega
def cW:List Loop->List Int->List (List Int)
 | [],p=>[p]
 |l::ls,p=>(cL (cP l p) (dd l p)).flatMap λv=>cW ls (p++[v])
def gb:List Loop->List Int->Int
 | [],_=>1
 |l::ls,p=>1+((cL (cP l p) (dd l p)).map λv=>gb ls (p++[v])).sum
theorem oH{k:Type}(f:k->Int): ∀(l:List k),(∀x∈l,1<=f x)->(l.length:Int)<=(l.map f).sum
 | [],_=>aX
 |x::l,h=>by have c:=oH f l λy a=>h y (by simp[a]);have d:=h x aX;simp only[gd,List.sum_cons,List.length_cons];omega
theorem CP: ∀(ls:List Loop) (p:List Int),1<=gb ls p
 | [],p=>gq _
 |l::ls,p=>by have:=oH (λv=>gb ls (p++[v])) (cL (cP l p) (dd l p)) λv _=>CP ls _;simp only[gb];omega
def Fit(a:List Loop):Prop:=a.length<=4/\ ∀(i:Nat) l,a[i]? =aa l->fB l.lo (i:Int)=ab/\fB l.hi (i:Int)=ab
theorem CX{nest:List Loop}(h:l4 nest=ab):Fit nest:=by
 simp only[l4,b9,decide_eq_true_eq] at h;refine⟨h.2,λi l a=>?_⟩
 have:=ML h.1 a
 grind
theorem Br{l:Loop}{q:List Loop}(h:o.drop k=l::q):o[k]? =aa l/\o.drop (k+1)=q/\k<o.length:=by
 have a:(o.drop k)[0]? =aa l:=by rw[h];rfl
 rw[gY,sv] at a;refine⟨a,?_,(bR.1 a).1⟩
 have:(o.drop k).drop 1=q:=by rw[h];rfl
 rwa [List.drop_drop] at this
theorem BR(h:o.drop k=[])(a:k<=o.length):k=o.length:=by
 have:(o.drop k).length=0:=by rw[h];rfl
 grind
theorem og(p:List Int)(h:p.length<=1000):app [] p=aa p:=by rw[c' bP];rfl
theorem O5(l:List Int)(f:Int->Int)(v:Int):((l++[v]).map f).sum=(l.map f).sum+f v:=aX
theorem adq{lo:Int}(h:lo<=v):((cL lo v).length:Int)=v-lo:=by unfold cL;simp;omega
theorem Oc{c:List Loop}(C:Fit c): ∀(ls:List Loop) (n k:Nat) (p:List Int) (a:Int),5000+ls.length<=n->c.drop k=ls->k<=c.length->iF k p->0<=a->a<=1200->
  ad (sj n c p a) (λr=>(gb ls p<=a->r=gb ls p)/\(a<gb ls p->a<r)/\1<=r/\r<=a+1)
 | [],n,k,p,a,Q,F,R,o,M,N=>by
  obtain⟨n,rfl⟩: ∃j,n=j+1:=⟨n-1,O⟩
  have P:=BR F R;have q:=o.1;unfold sj;rw[bI (show(p.length:Int)=(c.length:Int) by omega)];exact ad.some ⟨λ_=>rfl,λh=>by simp only[gb] at h;omega,O,O⟩
 |l::ls,n,k,p,a,Q,F,R,o,M,N=>by
  obtain⟨n,rfl⟩: ∃j,n=j+1:=⟨n-1,O⟩
  obtain⟨W,S,d3⟩:=Br F;obtain⟨X,Z⟩:=C.2 k l W;have q:=o.1;have G:k<=3:=by have:=C.1;omega
  simp only[List.length_cons] at Q;unfold sj;rw[bJ (show¬(p.length:Int)=(c.length:Int) by omega)];refine b8 (ae (x:=l) (by rw[q];exact bl W) (ae (M1 O X Z o) ?_));let f:Int->Int:=λv=>gb ls (p++[v]);have s: ∀v,1<=f v:=λv=>CP _ _;have T:gb (l::ls) p=1+((cL (cP l p) (dd l p)).map f).sum:=rfl;refine ad.loop (λx:Int×Int=>cP l p<=x.2/\(x.2<=dd l p\/x.2=cP l p)/\(1+((cL (cP l p) x.2).map f).sum<=a->x.1=1+((cL (cP l p) x.2).map f).sum)/\(a<1+((cL (cP l p) x.2).map f).sum->a<x.1)/\1<=x.1/\x.1<=a+1)
   (λx=>(a+1-x.1).toNat) ?_ n _ ⟨gq _,.inr rfl,λ_=>by rw[kq (gq _)];rfl,λh=>by rw[kq (gq _)] at h;simp at h;dsimp only;omega,J,J⟩ J
  rintro H ⟨x,v⟩ ⟨B,b,K,L,g,t⟩ U;dsimp only at B b K L g t⊢;refine ad.aD (λz=>z=ag (v<dd l p/\x<=a)) (λj u=>aW (λh=>u _ ?_) λh=>u _ ?_) λz V=>?_
  ·by_cases e:x<=a
   ·rw[bI e,bI ⟨h,e⟩]
   rw[bJ e,bJ λh=>e h.2]
  ·rw[bJ λD=>h D.1]
  subst V;refine aW (λ⟨i,e⟩=>?_) λw=>ad.some ?_
  ·have A:x=1+((cL (cP l p) v).map f).sum:=K (by apply Int.not_lt.1;intro h;have:=L h;omega);have m:=Cy X Z o G ⟨B,i⟩;have e1:wr (a-x)=a-x:=by rw[bc O]
   rw[e1];refine ae (og p O) (ae (c' bP) (ch (Oc C ls n (k+1) (p++[v]) (a-x) O S O m O O) λr ⟨uo,wN,alS,alT⟩=>?_));have akM:v<dd l p:=i;have SR: -1000000000<=v/\v<=1000000000:=by
    have h9:=m.2.2 v aX;have qi:=s6 m.2.1;simp only[cV] at h9;omega
   rw[bc (n:=v+1) O,bc (n:=x+r) O];have E:1+((cL (cP l p) (v+1)).map f).sum=x+f v:=by rw[pn B,O5,A];omega
   refine U _ ⟨J,.inl J,?_,?_,J,J⟩ J
   ·dsimp only;rw[E];intro h
    have:r=f v:=uo (O:f v<=a-x);omega
   dsimp only;rw[E];intro h
   have:a-x<r:=wN (O:a-x<f v);omega
  have d:1+((cL (cP l p) v).map f).sum<=gb (l::ls) p/\(dd l p<=v->1+((cL (cP l p) v).map f).sum=gb (l::ls) p):=by
   rw[T];by_cases h:v<dd l p
   ·refine⟨?_,λD=>O⟩;rw[A9 B h,eM,List.sum_append,w8,List.sum_cons]
    have:=oH f (cL (v+1) (dd l p)) λy _=>s y
    have:=s v;omega
   have:cL (cP l p) v=cL (cP l p) (dd l p):=by
    rcases b with I|I
    ·rw[show v=dd l p by omega]
    subst I;rw[kq (gq _),kq O]
   rw[this];exact⟨gq _,λ_=>rfl⟩
  refine⟨λh=>?_,λh=>?_,g,t⟩
  ·have e:=K O;rw[e];apply d.2;apply Int.not_lt.1;intro i;exact w ⟨i,O⟩
  apply Int.not_le.1;intro e;have i:dd l p<=v:=by apply Int.not_lt.1;intro i;exact w ⟨i,e⟩
  have:=L (by rw[d.2 i];exact h);omega
theorem FI{a:List Loop}(B:Fit a): ∀(ls:List Loop) (n k:Nat) (p:List Int) (out:List (List Int)),5000+ls.length<=n->a.drop k=ls->k<=a.length->iF k p->gb ls p<=1200->out.length<=120->
  ad (qR n out a p) (λr=>(out.length+(cW ls p).length<=120->r=out++cW ls p)/\(120<out.length+(cW ls p).length->120<r.length))
 | [],n,k,p,out,W,C,X,q,Z,S=>by
  obtain⟨n,rfl⟩: ∃j,n=j+1:=⟨n-1,O⟩
  have T:=BR C X;have s:=q.1;have F:=B.1;unfold qR;rw[bI (show(p.length:Int)=(a.length:Int) by omega)];refine bX (ae (og p O) (ae (c' bP) (ad.some ⟨λ_=>rfl,λh=>by simp[cW] at h ⊢; omega⟩)))
 |l::ls,n,k,p,out,W,C,X,q,Z,S=>by
  obtain⟨n,rfl⟩: ∃j,n=j+1:=⟨n-1,O⟩
  obtain⟨b,U,d3⟩:=Br C;obtain⟨t,u⟩:=B.2 k l b;have s:=q.1;have F:=B.1;have G:k<=3:=O
  simp only[List.length_cons] at W;unfold qR;rw[bJ (show¬(p.length:Int)=(a.length:Int) by omega)];refine b8 (ae (x:=l) (by rw[s];exact bl b) (ae (M1 O t u q) ?_));let f:Int->Int:=λv=>gb ls (p++[v]);have i: ∀v,1<=f v:=λv=>CP _ _;have V:gb (l::ls) p=1+((cL (cP l p) (dd l p)).map f).sum:=rfl;let g:Int->List (List Int):=λv=>cW ls (p++[v]);have yK:cW (l::ls) p=(cL (cP l p) (dd l p)).flatMap g:=rfl;have D:cP l p<=dd l p->dd l p-cP l p<=1199:=λH=>by
   have:=oH f (cL (cP l p) (dd l p)) λy _=>i y
   have:=adq H;omega
  refine ad.loop (λx:List (List Int)×Int=>cP l p<=x.2/\(x.2<=dd l p\/x.2=cP l p)/\(out.length+((cL (cP l p) x.2).flatMap g).length<=120->x.1=out++(cL (cP l p) x.2).flatMap g)/\(120<out.length+((cL (cP l p) x.2).flatMap g).length->120<x.1.length))
   (λx=>(dd l p-x.2).toNat) ?_ n _ ⟨gq _,.inr rfl,λ_=>by rw[kq (gq _)];simp,λh=>by rw[kq (gq _)] at h;simp at h;omega⟩ J
  rintro K ⟨x,v⟩ ⟨w,E,L,Q⟩ b7;dsimp only at w E L Q⊢;refine ad.aD (λz=>z=ag (v<dd l p/\x.length<=120)) (λj I=>aW (λh=>I _ ?_) λh=>I _ ?_) λz fr=>?_
  ·by_cases d:x.length<=120
   ·rw[bI (show(x.length:Int)<=120 by omega),bI ⟨h,d⟩]
   rw[bJ (show¬(x.length:Int)<=120 by omega),bJ λh=>d h.2]
  ·rw[bJ λM=>h M.1]
  subst fr;refine aW (λ⟨e,d⟩=>?_) λA=>ad.some ?_
  ·have m:x=out++(cL (cP l p) v).flatMap g:=L (by apply Nat.not_lt.1;intro h;have:=Q h;omega);have o:=Cy t u q G ⟨w,e⟩;have R:f v<=1200:=by
    rw[V,A9 w e,eM,List.sum_append,w8,List.sum_cons] at Z
    have:=oH f (cL (v+1) (dd l p)) λy _=>i y
    have:=oH f (cL (cP l p) v) λy _=>i y;omega
   refine ae (og p O) (ae (c' bP) (ch (FI B ls n (k+1) (p++[v]) x O U O o R d) λr ⟨uo,wN⟩=>?_));have SR: -1000000000<=v/\v<=1000000000:=by
    have h9:=o.2.2 v aX;have qi:=s6 o.2.1;simp only[cV] at h9;omega
   rw[bc (n:=v+1) O];have N:(cL (cP l p) (v+1)).flatMap g=(cL (cP l p) v).flatMap g++g v:=by rw[pn w,mb];simp
   refine b7 _ ⟨J,.inl J,?_,?_⟩ J
   ·dsimp only;rw[N];intro h;simp only[ik] at h;have cI:x.length=out.length+((cL (cP l p) v).flatMap g).length:=by rw[m,ea]
    rw[uo (O:x.length+(g v).length<=120),m,fN]
   dsimp only;rw[N];intro h;simp only[ik] at h;have cI:x.length=out.length+((cL (cP l p) v).flatMap g).length:=by rw[m,ea]
   exact wN (O:120<x.length+(g v).length)
  have c:((cL (cP l p) v).flatMap g).length<=(cW (l::ls) p).length/\(dd l p<=v->(cL (cP l p) v).flatMap g=cW (l::ls) p):=by
   rw[yK];by_cases h:v<dd l p
   ·refine⟨?_,λM=>O⟩;rw[A9 w h,mb,ea];omega
   have:cL (cP l p) v=cL (cP l p) (dd l p):=by
    rcases E with P|P
    ·rw[show v=dd l p by omega]
    subst P;rw[kq (gq _),kq O]
   rw[this];exact⟨cR _,λ_=>rfl⟩
  refine⟨λh=>?_,λh=>?_⟩
  ·have d:=L O;rw[d,c.2];apply Int.not_lt.1;intro e;exact A ⟨e,by rw[d,ea];omega⟩
  apply Nat.not_le.1;intro d;have e:dd l p<=v:=by apply Int.not_lt.1;intro e;exact A ⟨e,d⟩
  have:=Q (by rw[c.2 e];exact h);omega
theorem N5{a:List Loop}(B:Fit a): ∀(ls:List Loop) (n k:Nat) (p:List Int) (st:Int) (out:List (List Int)),5000+ls.length<=n->a.drop k=ls->k<=a.length->iF k p->0<=st->st<=1199->out.length<=120->
  ad (rV n ⟨a,st,out⟩ p) (λr=>(st+gb ls p<=1200/\out.length+(cW ls p).length<=120->r=(ab,⟨a,st+gb ls p-1,out++cW ls p⟩))/\(¬(st+gb ls p<=1200/\out.length+(cW ls p).length<=120)->r.1=ak))
 | [],n,k,p,st,out,X,F,Z,m,b,t,q=>by
  obtain⟨n,rfl⟩: ∃j,n=j+1:=⟨n-1,O⟩
  have qm:=BR F Z;have s:=m.1;have G:=B.1;unfold rV;dsimp only;rw[bI (show(p.length:Int)=(a.length:Int) by omega)];have d:ji p=aa p:=by unfold ji;rw[aR O]
  refine bX (ae d (ae (c' bP) (ad.some ⟨λh=>?_,λh=>?_⟩)))
  ·simp only[gb,cW,List.length_singleton] at h⊢;rw[bI bP,show st+1-1=st by omega]
  simp only[gb,cW,List.length_singleton] at h⊢;exact bJ bP
 |l::ls,n,k,p,st,out,X,F,Z,m,b,t,q=>by
  obtain⟨n,rfl⟩: ∃j,n=j+1:=⟨n-1,O⟩
  obtain⟨u,d2,d3⟩:=Br F;obtain⟨D,E⟩:=B.2 k l u;have s:=m.1;have G:=B.1;have H:k<=3:=O
  simp only[List.length_cons] at X;unfold rV;dsimp only;rw[bJ (show¬(p.length:Int)=(a.length:Int) by omega)];refine b8 (ae (x:=l) (by rw[s];exact bl u) (ae (aaV O D E m) ?_));let f:Int->Int:=λv=>gb ls (p++[v]);have c: ∀v,1<=f v:=λv=>CP _ _;have I:gb (l::ls) p=1+((cL (cP l p) (dd l p)).map f).sum:=rfl;let g:Int->List (List Int):=λv=>cW ls (p++[v]);have M:cW (l::ls) p=(cL (cP l p) (dd l p)).flatMap g:=rfl;refine ad.loop (λx:List Loop×Int×List (List Int)×Int=>x.1=a/\cP l p<=x.2.2.2/\(x.2.2.2<=dd l p\/x.2.2.2=cP l p)/\x.2.1=st+((cL (cP l p) x.2.2.2).map f).sum/\x.2.2.1=out++(cL (cP l p) x.2.2.2).flatMap g/\0<=x.2.1/\x.2.1<=1199/\x.2.2.1.length<=120)
   (λx=>(1200-x.2.1).toNat) ?_ n _ ⟨rfl,gq _,.inr rfl,by dsimp only;rw[kq (gq _)];simp,by dsimp only;rw[kq (gq _)];simp,b,t,q⟩ J
  rintro K ⟨L,x,o,v⟩ ⟨N,w,P,C,i,i5,i6,S⟩ b7;dsimp only at N w P C i i5 i6 S⊢;subst N;have qs:o.length=out.length+((cL (cP l p) v).flatMap g).length:=by rw[i,ea]
  refine aW (λQ=>?_) λQ=>ad.some ?_
  ·have e:=Cy D E m H ⟨w,Q⟩;have R:gb (l::ls) p≥1+((cL (cP l p) v).map f).sum+f v/\(cW (l::ls) p).length≥((cL (cP l p) v).flatMap g).length+(g v).length:=by
    rw[I,M,A9 w Q,eM,List.sum_append,w8,List.sum_cons,mb,ea,nR,ea]
    have:=oH f (cL (v+1) (dd l p)) λy _=>c y;constructor
    ·omega
    omega
   have SR: -1000000000<=v/\v<=1000000000:=by
    have h9:=e.2.2 v aX;have qi:=s6 e.2.1;simp only[cV] at h9;omega
   have e1:wr (x+1)=x+1:=by rw[bc O]
   have e2:wr (x+1+1)=x+1+1:=by rw[bc O]
   have ns:wr (v+1)=v+1:=by rw[bc O]
   rw[e1,e2,ns];refine ad.aD (λz:List Loop×Int×List (List Int)×Bool=>(z.2.2.2=ak->z.1=L/\x+f v<=1199/\o.length+(g v).length<=120/\z.2.1=x+f v/\z.2.2.1=o++g v)/\(z.2.2.2=ab-> ¬(st+gb (l::ls) p<=1200/\out.length+(cW (l::ls) p).length<=120)))
    (λj W=>aW (λh=>W _ ⟨λnu=>(by cases nu),λ_=>?_⟩) λh=>?_) λz fr=>?_
   ·have:=c v;omega
   ·have d:ji p=aa p:=by unfold ji;rw[aR O]
    refine ae d (ae (c' bP) (ch (N5 B ls n (k+1) (p++[v]) (x+1) o O d2 O e O O S) λr ⟨uo,wN⟩=>?_));by_cases d:x+1+f v<=1200/\o.length+(g v).length<=120
    ·rw[uo d];exact W _ ⟨λ_=>⟨rfl,O,d.2,show x+1+f v-1=x+f v by omega,rfl⟩,λh=>(by cases h)⟩
    have A:=wN d;obtain⟨alU,⟨dT,alV,ro⟩⟩:=r;dsimp only at A⊢;subst A;exact W _ ⟨λh=>(by cases h),λ_=>O⟩
   obtain⟨Lb,alY,alZ,alH⟩:=z;obtain⟨T,U⟩:=fr;dsimp only at T U⊢;cases alH with
   |true=>exact ad.some ⟨λh=>bB h (U rfl),λ_=>rfl⟩
   |false=>
    obtain⟨rfl,Ue,KZ,Uf,V⟩:=T rfl;refine b7 _ ⟨rfl,J,.inl J,?_,?_,by dsimp only;have:=c v;omega,J,?_⟩ (by dsimp only;have:=c v;omega)
    ·dsimp only;rw[pn w,O5,Uf,C];omega
    ·dsimp only;rw[V,i,pn w,mb];simp
    dsimp only;rw[V,ea];exact KZ
  have:cL (cP l p) v=cL (cP l p) (dd l p):=by
   rcases P with q|q
   ·rw[show v=dd l p by omega]
   subst q;rw[kq (gq _),kq O]
  rw[this] at C i qs;rw[<-M] at i qs;refine⟨λh=>?_,λh=>?_⟩
  ·rw[i,C,I,show st+(1+((cL (cP l p) (dd l p)).map f).sum)-1=st+((cL (cP l p) (dd l p)).map f).sum by omega]
  exact bB ⟨O,O⟩ h
def kH(a:List Loop):Option (List (List Int)):=if l4 a=ab/\gb a []<=1200/\(cW a []).length<=120 then aa (cW a []) else none
def te:Option (List (List Int))->List (List Int)×Bool
 |none=>([],ak)
 |some l=>(l,ab)
theorem zE:iF 0 []:=⟨rfl,O,λx h=>by cases h⟩
theorem Vy(k:6000<=n)(h:rm o):t6 n o=aa (te (kH o)):=by
 refine ad.eq ?_;unfold t6;refine ae (VP O h) ?_;unfold kH;cases d:l4 o with
 |false=>exact ad.some (by simp[te])
 |true=>
  have c:=CX d;refine ch (N5 c o n 0 [] 0 [] (by have:=c.1;omega) rfl O zE O O aX) λr ⟨e,i⟩=>?_;by_cases a:(0:Int)+gb o []<=1200/\([]:List (List Int)).length+(cW o []).length<=120
  ·rw[e a,aR ⟨rfl,O,by simpa using a.2⟩];exact ad.some (by simp[te])
  rw[i a,aQ λh=>a ⟨O,by simpa using h.2.2⟩];exact ad.some rfl
theorem Vv(p:6000<=n)(h:rm o):EG n o=aa (te (kH o)):=by
 refine ad.eq ?_;unfold EG;refine ad.aD (λz=>z= !(l4 o&&ag (gb o []<=1200))) (λj l=>ae (VR O h) ?_) λz m=>?_
 ·cases c:l4 o with
  |false=>exact l _ (by rw[c];rfl)
  |true=>
   have d:=CX c;refine ch (Oc d o n 0 [] 1200 (by have:=d.1;omega) rfl O zE O O) λr ⟨e,i,q,s⟩=>l _ ?_;rw[c,gp];by_cases a:gb o []<=1200
   ·rw[bI a,bJ (by rw[e a];omega)];rfl
   rw[bJ a,bI (i O)];rfl
 subst m;unfold kH;cases c:l4 o with
 |false=>exact ad.some (by simp[te])
 |true=>
  have d:=CX c;by_cases a:gb o []<=1200
  ·rw[bI a];refine ch (FI d o n 0 [] [] (by have:=d.1;omega) rfl O zE a aX) λr ⟨e,i⟩=>?_;by_cases k:(cW o []).length<=120
   ·rw[e (by simpa using k),aR ⟨rfl,a,k⟩];refine aW (λh=>bB h bP) λ_=>ad.some (by simp[te])
   have:=i bP;rw[aQ λh=>k h.2.2];exact aW (λ_=>ad.some rfl) λh=>bB h O
  rw[bJ a,aQ λh=>a h.2.1];exact ad.some rfl
def pO(s:List UInt8):Bool:=match s with
 | [b]=>decide (65<=b.toNat/\b.toNat<=68)
 |_=>ak
theorem F9(h:s.length≠1):pO s=ak:=by
 match s,h with
 | [],_=>rfl
 | [b],h=>exact bB rfl h
 |_::_::_,_=>rfl
theorem I5(h:s.length=1): ∃b,s=[b]:=by
 match s,h with
 | [b],_=>exact⟨b,rfl⟩
theorem yx(b:UInt8)(k:Nat)(a:k<256):(b=UInt8.ofNat k)↔b.toNat=k:=by
 constructor
 ·intro h;rw[h];simp;omega
 intro h;rw[<-h];simp
theorem Wj(b:UInt8):Lib.contains [65,66,67,68] [b]=ag (65<=b.toNat/\b.toNat<=68):=by
 have h:(b=65)↔b.toNat=65:=yx b 65 O;have i:(b=66)↔b.toNat=66:=yx b 66 O;have k:(b=67)↔b.toNat=67:=yx b 67 O;have l:(b=68)↔b.toNat=68:=yx b 68 O;by_cases a:b=65
 ·subst a;decide
 by_cases c:b=66
 ·subst c;decide
 by_cases d:b=67
 ·subst d;decide
 by_cases e:b=68
 ·subst e;decide
 rw[h] at a;rw[i] at c;rw[k] at d;rw[l] at e;rw[bJ O];rw[<-h] at a;rw[<-i] at c;rw[<-k] at d;rw[<-l] at e;simp[Lib.contains,Lib.index,a,c,d,e]
theorem L7(n:Nat)(s:List UInt8):Ao n s=aa (pO s):=by
 unfold Ao;by_cases h:s.length=1
 ·obtain⟨b,rfl⟩:=I5 h;simp only[aD,zk];rw[aR aX,Wj];rfl
 rw[bJ (show¬(s.length:Int)=1 by omega),F9 h];rfl
theorem MV(b:UInt8):Op.bytesLess [b] [65]=ag (b.toNat<65):=by simp[Op.bytesLess,UInt8.lt_iff_toNat_lt]
theorem MU(b:UInt8):(Op.bytesLess [b] [68]||[b]==[68])=ag (b.toNat<=68):=by
 have e:(b=68)↔b.toNat=68:=yx b 68 O;by_cases h:b=68
 ·subst h;decide
 have c:b.toNat≠68:=λa=>h (e.2 a)
 have:([b]==[(68:UInt8)])=ak:=by simp[h]
 rw[this,Bool.or_false];simp only[Op.bytesLess,Bool.and_false,Bool.or_false,UInt8.lt_iff_toNat_lt]
 grind
def fX(a:b0)(d:Int):Bool:=a.bz.all (λx=>fz x d)&&(pO a.array&&ag (1<=a.bz.length/\a.bz.length<=2))
theorem aa2(c:5000<=n)(e:kf a)(d:Int):zy n a d=aa (!fz a d):=MN c e d
theorem LK(c:5000<=n){a:b0}(e:ll a.bz)(d:Int):z' n a d=aa (fX a d):=by
 obtain⟨m,h⟩:=e;unfold z';rw[L7,Fy];have bT:=zi (n:=n) (f:=λi=>zy n i d) (p:=λa=> !fz a d) (l:=a.bz) (λx k=>aa2 c (h x k) d) O O;simp only[aD,bO];rw[bT];unfold fX
 grind
theorem LG(B:5000<=n){a:b0}(q:ll a.bz)(d:Int):zT n a d=aa (fX a d):=by
 obtain⟨G,C⟩:=q;refine ad.eq ?_;unfold zT;refine q3 (l:=a.bz) (p:=λ_ a=>fz a d) O O (λk i x r w y=>?_) (λk o=>?_) (λ⟨i,x,r,H⟩=>?_)
 ·have hi:=(bR.1 r).1;have hm:=C x (bx r);rw[bI (show(i:Int)<(a.bz.length:Int) by omega)];refine bX (ad.aD (λz=>z= !fz x d) (λj m=>ae (bl r) (ae (Kt B x hm) ?_)) λz A=>?_)
  ·cases q:cN x with
   |false=>exact m _ (by unfold fz;rw[q];rfl)
   |true=>exact ae (zQ B hm) (m _ (by unfold fz;rw[q,Kh];simp))
  subst A;cases s:fz x d with
  |true=>show ad (k _) _;rw[bc O];exact w s
  |false=>exact ad.some (y s)
 ·rw[bJ (show¬(a.bz.length:Int)<(a.bz.length:Int) by omega)];have e:a.bz.all (λa=>fz a d)=ab:=gP.2 λc F=>by obtain⟨i,hi⟩:=ma F;exact o i c hi
  unfold fX;rw[e,gp];refine b8 (ad.aD (λz=>z=(pO a.array&&ag (1<=a.bz.length/\a.bz.length<=2))) (λj m=>?_) λz A=>ad.some A);by_cases h:a.array.length=1
  ·rw[bI (show(a.array.length:Int)=1 by omega)];obtain⟨b,s⟩:=I5 h;rw[s] at m⊢;rw[MV,MU];show ad (bif _ then _ else _) _;simp only[pO] at m⊢
   grind
  rw[bJ (show¬(a.array.length:Int)=1 by omega)];exact m _ (by rw[F9 h];rfl)
 unfold fX
 grind
def jL(a:az):Bool:=ag (a.aT.length=0)&&ag (a.const=0)
def k4(a:b0):Bool:=ag (a.array=[])&&ag (a.bz.length=0)
theorem Dh(k:Nat):ag ((k:Int)=0)=ag (k=0):=decide_eq_decide.2 O
theorem WW(n:Nat)(a:az):z7 n a=aa (jL a):=by unfold z7 jL;rw[Dh];cases ag (a.aT.length=0)<;>rfl
theorem XX(n:Nat)(a:az):xk n a=aa (jL a):=by unfold xk jL;rw[Dh];cases ag (a.aT.length=0)<;>rfl
theorem WX(n:Nat)(a:b0):ud n a=aa (k4 a):=by unfold ud k4;rw[Dh];cases ag (a.array=[])<;>rfl
theorem W9(n:Nat)(a:b0):wU n a=aa (k4 a):=by unfold wU k4;rw[Dh];cases ag (a.array=[])<;>rfl
def eX(e:Expr)(d:Int):Bool:=
 if e.kind=2 then ag (e.num=0)&&(k4 e.read&&fz e.index d)
 else if e.kind=3 then ag (e.num=0)&&(jL e.index&&fX e.read d)
 else if e.kind=1 then ag (0<=e.num/\e.num<=99)&&(jL e.index&&k4 e.read)
 else ag (e.num=0)&&(jL e.index&&k4 e.read)
def fJ(k:Int):Int:=if k=1\/k=2\/k=3 then 0 else if k=4\/k=5\/k=6 then 2 else-1
theorem XY(n:Nat)(k:Int):BF n k=aa (fJ k):=by
 unfold BF fJ;by_cases a:k=1
 ·subst a;rfl
 by_cases c:k=2
 ·subst c;rfl
 by_cases d:k=3
 ·subst d;rfl
 by_cases e:k=4
 ·subst e;rfl
 by_cases h:k=5
 ·subst h;rfl
 by_cases i:k=6
 ·subst i;rfl
 simp[aD,a,c,d,e,h,i]
theorem YT(a:5000<=n){e:Expr}(c:kf e.index)(h:ll e.read.bz)(d:Int):Cu n e d=aa (eX e d):=by
 unfold Cu eX;rw[W9,XX,Kt a _ c,zQ a c,LG a h];by_cases cF:e.kind=2
 ·rw[aR cF,bI cF];simp only[aD,bO,cond_true,fz]
  grind
 rw[aQ cF,bJ cF];by_cases ey:e.kind=3
 ·rw[aR ey,bI ey];simp only[aD,bO,cond_true,cond_false]
  grind
 rw[aQ ey,bJ ey];by_cases eL:e.kind=1
 ·rw[aR eL,bI eL];simp only[aD,bO,cond_true,cond_false]
  grind
 rw[aQ eL,bJ eL];simp only[aD,bO,cond_false]
 grind
end
section
def xV:Nat->Expr->Prop
 |0,_=>True
 |L+1,e=>e.bj.length<=1000/\kf e.index/\ll e.read.bz/\ ∀k∈e.bj,xV L k
def dp:Nat->Expr->Int->Bool
 |0,_,_=>ak
 |L+1,e,d=>decide (fJ e.kind=e.bj.length)&&(eX e d&&e.bj.all λk=>dp L k d)
def dM:Nat->Expr->Int
 |0,_=>1
 |L+1,e=>1+(e.bj.map (dM L)).sum
theorem qM(k:Int):fJ k<=2:=by unfold fJ;split;omega;split<;>omega
theorem L1(d:Int): ∀(L n:Nat) (e:Expr),5000+L<=n->L<=1000->xV L e->sl (n+1) e d (L:Int)=aa (dp L e d)
 |0,n,e,_,_,_=>by unfold sl;rfl
 |L+1,n,e,R,W,A=>by
  obtain⟨X,B,C,F⟩:=A;unfold sl;refine ad.eq ?_;refine ad.aD (λz=>z= !(ag (fJ e.kind=e.bj.length)&&eX e d)) (λj s=>aW (λh=>O) λh=>ae (XY n _) (fl (λh=>s _ ?_) λh=>ae (YT O B C d) (s _ ?_))) λz G=>?_
  ·rw[bJ h];rfl
  ·rw[bI h];rfl
  subst G;unfold dp;cases w:(ag (fJ e.kind=e.bj.length)&&eX e d) with
  |false=>exact ad.some (by rw[<-mW,w];rfl)
  |true=>
   rw[<-mW,w,gp];refine b8 ?_;obtain⟨n,rfl⟩: ∃j,n=j+1:=⟨n-1,O⟩
   have H:wr (((L+1:Nat):Int)-1)=(L:Int):=by rw[bc O];omega
   rw[H];refine q3 (l:=e.bj) (p:=λ_ k=>dp L k d) O O (λa i x m q r=>?_) (λa o=>?_) (λ⟨i,x,m,K⟩=>?_)
   ·have hi:=(bR.1 m).1;rw[bI (show(i:Int)<(e.bj.length:Int) by omega)];refine bX (ae (bl m) (ae (L1 d L n x O O (F x (bx m))) ?_));cases y:dp L x d with
    |true=>show ad (a _) _;rw[bc O];exact q y
    |false=>exact ad.some (r y)
   ·rw[bJ (show¬(e.bj.length:Int)<(e.bj.length:Int) by omega)];refine ad.some ?_;exact(gP.2 λc Q=>by obtain⟨i,hi⟩:=ma Q;exact o i c hi).symm
   exact(mZ.2 ⟨x,bx m,by rw[K];simp⟩).symm
theorem sC: ∀(L:Nat) (e:Expr),1<=dM L e
 |0,_=>gq _
 |L+1,e=>by have:=oH (dM L) e.bj λk _=>sC L k;simp only[dM];omega
theorem CI{k:Type}(f:k->Int)(M:Int): ∀(l:List k),(∀x∈l,f x<=M)->(l.map f).sum<=l.length*M
 | [],_=>aX
 |x::l,h=>by have c:=CI f M l λy a=>h y (by simp[a]);have d:=h x aX;simp only[gd,List.sum_cons,List.length_cons,Int.natCast_add,Int.add_mul];omega
variable {L n i k:Nat}{e:Expr}{d b c:Int}{s:Stmt}{r:List cn}{x:Part}{a:b0}{p:Prog}{q m:List Int}
theorem gi(h:dp (L+1) e d=ab):fJ e.kind=e.bj.length/\eX e d=ab/\ ∀k∈e.bj,dp L k d=ab:=by
 simp only[dp,b9,decide_eq_true_eq,hS] at h
 grind
theorem CZ: ∀{L:Nat} {e:Expr} {d:Int},dp L e d=ab->dM L e+1<=2^L
 |0,e,d,h=>by cases h
 |L+1,e,d,h=>by
  obtain⟨i,_,a⟩:=gi h;have l:=CI (dM L) ((2:Int)^L-1) e.bj λk c=>by have:=CZ (a k c);omega
  have m:=qM e.kind;have n:(e.bj.length:Int)*((2:Int)^L-1)<=2*((2:Int)^L-1):=by
   refine Int.mul_le_mul_of_nonneg_right O ?_
   have:(0:Int)<2^L:=Int.pow_pos O;omega
  simp only[dM];rw[Int.pow_succ];omega
theorem L2{d:Int}: ∀(L n:Nat) (e:Expr),5000+L<=n->L<=5->dp L e d=ab->uu (n+1) e (L:Int)=aa (dM L e)
 |0,n,e,_,_,h=>by cases h
 |L+1,n,e,Q,s,h=>by
  obtain⟨R,_,p⟩:=gi h;have W:=qM e.kind;have q: ∀k∈e.bj,dM L k<=40:=λk c=>by
   have X:=CZ (p k c);have Z:(2:Int)^L<=40:=by
    match L,s with
    |0,_=>decide
    |1,_=>decide
    |2,_=>decide
    |3,_=>decide
    |4,_=>decide
   omega
  unfold uu;refine ad.eq ?_;obtain⟨n,rfl⟩: ∃j,n=j+1:=⟨n-1,O⟩
  have w:wr (((L+1:Nat):Int)-1)=(L:Int):=by rw[bc O];omega
  rw[w];refine ad.loop (λx:Int×Int=> ∃i:Nat,x.2=i/\i<=e.bj.length/\x.1=1+((e.bj.take i).map (dM L)).sum) (λx=>e.bj.length-x.2.toNat) ?_ (n+1) _ ⟨0,rfl,O,aX⟩ bP;rintro l ⟨x,k⟩ ⟨i,c,b,m⟩ A;dsimp only at c m⊢;subst c;refine ad.aD (λz=>z=ag (i<e.bj.length)) (λj r=>aW (λh=>r _ ?_) λh=>r _ ?_) λz B=>?_
  ·rw[bI (show(0:Int)<((L+1:Nat):Int) by omega),bI O]
  ·rw[bJ O]
  subst B;refine aW (λo=>?_) λC=>ad.some ?_
  ·have a:=bp o;have hm:=bx a;refine ae (bl a) (ae (L2 (d:=d) L n _ O O (p _ hm)) ?_);have hs:=CI (dM L) 40 (e.bj.take i) λy F=>q y (gO F);have G:=oH (dM L) (e.bj.take i) λy _=>sC L y;have H:=q _ hm;have K:=sC L e.bj[i];have f:((e.bj.take i).length:Int)<=2:=bP
   rw[bc (n:=x+dM L e.bj[i]) O,bc O];refine A _ ⟨i+1,J,O,?_⟩ J;dsimp only;rw[eN,a,eM,List.sum_append,m];simp;omega
  have:i=e.bj.length:=O
  rw[m,this,dW];rfl
def yp(e:Expr):Bool:=(ag (e.kind=1)||decide (e.num=0))&&((ag (e.kind=2)||jL e.index)&&(ag (e.kind=3)||k4 e.read))
theorem K5(d:Int): ∀(L n:Nat) (e:Expr) (c:Int),5000+L<=n->L<=5->xV L e->0<=c->c<=12->
  ad (qx (n+1) e d (6-(L:Int)) c) (λr=>r.1=(dp L e d&&ag (c+dM L e<=12))/\(r.1=ab->r.2=c+dM L e))
 |0,n,e,c,M,N,u,P,S=>by
  unfold qx;refine ad.aD (λz=>z=ab) (λj i=>aW (λh=>i _ rfl) λh=>i _ (by decide)) λz m=>?_;subst m;exact ad.some ⟨rfl,λh=>by cases h⟩
 |L+1,n,e,c,M,N,u,P,S=>by
  obtain⟨e1,v,T,D⟩:=u;have U:=sC (L+1) e;unfold qx;have V:wr (c+1)=c+1:=bc O;have alj:wr (6-(((L+1:Nat)):Int)+1)=6-(L:Int):=by rw[bc O];omega
  rw[V,alj];refine ad.aD (λz=>z=ag (12<c+1)) (λj i=>aW (λh=>i _ (bI h).symm) λh=>i _ ?_) λz m=>?_
  ·rw[bJ h,bJ O]
  subst m;refine aW (λh=>ad.some ⟨?_,λh=>by cases h⟩) λbT=>?_
  ·rw[bJ (show¬c+dM (L+1) e<=12 by omega),k5]
  refine ad.aD (λz=>z= !yp e) (λj i=>?_) λz m=>?_
  ·rw[WW,WX];unfold yp at i;simp only[bO];by_cases eL:e.kind=1
   ·have cF: ¬e.kind=2:=O
    have ey: ¬e.kind=3:=O
    rw[bI eL,bJ cF,bJ ey] at*;simp only[Bool.not_true,Bool.not_false,cond_true,cond_false,Bool.true_or,Bool.true_and,Bool.false_or] at*;cases Q:jL e.index with
    |false=>exact i _ (by rw[Q];rfl)
    |true=>exact i _ (by rw[Q];rfl)
   rw[bJ eL] at*;simp only[Bool.not_false,cond_true,Bool.false_or] at*;by_cases o:e.num=0
   ·rw[bI o] at*;simp only[Bool.not_true,cond_false,Bool.true_and] at*;by_cases cF:e.kind=2
    ·have ey: ¬e.kind=3:=O
     rw[bI cF,bJ ey] at*;simp only[Bool.not_true,Bool.not_false,cond_true,cond_false,Bool.true_or,Bool.true_and,Bool.false_or] at*;exact i _ rfl
    rw[bJ cF] at*;simp only[Bool.not_false,cond_true,Bool.false_or] at*;cases Q:jL e.index with
    |false=>exact i _ (by rw[Q];rfl)
    |true=>
     by_cases ey:e.kind=3
     ·rw[bI ey] at*;exact i _ (by rw[Q];rfl)
     rw[bJ ey] at*;exact i _ (by rw[Q];rfl)
   rw[bJ o] at*;exact i _ rfl
  subst m;cases s:yp e with
  |false=>
   refine ad.some ⟨?_,λh=>by cases h⟩
   have:eX e d=ak:=by
    unfold yp at s;unfold eX;by_cases cF:e.kind=2
    ·have eL: ¬e.kind=1:=O
     have ey: ¬e.kind=3:=O
     rw[aR cF];rw[bI cF,bJ eL,bJ ey] at s;revert s;cases ag (e.num=0)<;>cases k4 e.read<;>simp
    rw[aQ cF];by_cases ey:e.kind=3
    ·have eL: ¬e.kind=1:=O
     rw[aR ey];rw[bJ cF,bJ eL,bI ey] at s;revert s;cases ag (e.num=0)<;>cases jL e.index<;>simp
    rw[aQ ey];rw[bJ cF,bJ ey] at s;by_cases eL:e.kind=1
    ·rw[aR eL];rw[bI eL] at s;revert s;cases jL e.index<;>cases k4 e.read<;>simp
    rw[aQ eL];rw[bJ eL] at s;revert s;cases ag (e.num=0)<;>cases jL e.index<;>cases k4 e.read<;>simp
   unfold dp;rw[this];simp
  |true=>
   refine b8 ?_;unfold yp at s;simp only[b9,Bool.or_eq_true,decide_eq_true_eq] at s;obtain⟨zt,E,W⟩:=s;have p: ∀(b:Bool),eX e d=b->fJ e.kind=0-> ∀(z:Bool),z=(b&&ag ((e.bj.length:Int)=0))->z=(dp (L+1) e d&&ag (c+dM (L+1) e<=12))/\(z=ab->c+1=c+dM (L+1) e):=by
    intro b bb G z m;unfold dp;rw[bb,G];by_cases h:e.bj.length=0
    ·have C:e.bj=[]:=oK h;have H:dM (L+1) e=1:=by simp[dM,C]
     rw[H,bI (O:c+1<=12)];rw[bI (show(e.bj.length:Int)=0 by omega)] at m;rw[m,C];simp
    rw[bJ (show¬(e.bj.length:Int)=0 by omega)] at m;rw[m,bJ (show¬(0:Int)=(e.bj.length:Int) by omega)];simp
   by_cases eL:e.kind=1
   ·have cF: ¬e.kind=2:=O
    have ey: ¬e.kind=3:=O
    rw[bI eL];have l:eX e d=ag (0<=e.num/\e.num<=99):=by
     unfold eX;rw[aQ cF,aQ ey,aR eL];rcases E with h|h
     ·exact bB h cF
     rcases W with A|A
     ·exact bB A ey
     rw[h,A];simp
    refine bX (ad.aD (λz=>z=(ag (0<=e.num/\e.num<=99)&&ag ((e.bj.length:Int)=0))) (λj i=>ae (jC n _ _ _) ?_) λz m=>ad.some ?_)
    ·cases y:ag (0<=e.num/\e.num<=99) with
     |true=>exact i _ (by rw[y];rfl)
     |false=>exact i _ (by rw[y];rfl)
    exact p _ l (by unfold fJ;rw[aR (Or.inl eL)]) _ m
   rw[bJ eL];refine b8 ?_;have o:e.num=0:=by
    rcases zt with h|h
    ·exact bB h eL
    exact h
   by_cases cF:e.kind=2
   ·have ey: ¬e.kind=3:=O
    rw[bI cF];have l:eX e d=fz e.index d:=by
     unfold eX;rw[aR cF,bI o];rcases W with A|A
     ·exact bB A ey
     rw[A];simp
    refine bX (ad.aD (λz=>z=(fz e.index d&&ag ((e.bj.length:Int)=0))) (λj i=>ae (Lc O _ v) ?_) λz m=>ad.some ?_)
    ·unfold fz at i;cases y:cN e.index with
     |false=>exact i _ (by rw[y];rfl)
     |true=>
      refine ae (AG O v) (aW (λh=>i _ ?_) λh=>i _ ?_)
      ·rw[y,bI h];rfl
      rw[y,bJ h];rfl
    exact p _ l (by unfold fJ;rw[aR (Or.inr (Or.inl cF))]) _ m
   rw[bJ cF];refine b8 ?_;have B:jL e.index=ab:=by
    rcases E with h|h
    ·exact bB h cF
    exact h
   by_cases ey:e.kind=3
   ·rw[bI ey];have l:eX e d=fX e.read d:=by
     unfold eX;rw[aQ cF,aR ey,bI o,B];simp
    refine bX (ad.aD (λz=>z=(fX e.read d&&ag ((e.bj.length:Int)=0))) (λj i=>ae (LK O T d) ?_) λz m=>ad.some ?_)
    ·cases y:fX e.read d with
     |false=>exact i _ (by rw[y];rfl)
     |true=>exact i _ (by rw[y];rfl)
    exact p _ l (by unfold fJ;rw[aR (Or.inr (Or.inr ey))]) _ m
   rw[bJ ey];refine b8 ?_;have l:eX e d=ab:=by
    unfold eX;rw[aQ cF,aQ ey,aQ eL,bI o,B];rcases W with A|A
    ·exact bB A ey
    rw[A];rfl
   have X:sV n e.kind=aa (ag (4<=e.kind/\e.kind<=6)):=by unfold sV;rw[jC];rfl
   have K:(fJ e.kind=2↔(4<=e.kind/\e.kind<=6))/\(fJ e.kind=2\/fJ e.kind= -1):=by
    unfold fJ;rw[aQ O];split<;>omega
   refine ad.aD (λz=>z= !(ag (4<=e.kind/\e.kind<=6)&&ag ((e.bj.length:Int)=2))) (λj i=>ae X ?_) λz m=>?_
   ·cases y:ag (4<=e.kind/\e.kind<=6) with
    |false=>exact i _ (by rw[y];rfl)
    |true=>exact i _ (by rw[y];rfl)
   subst m;by_cases G:(4<=e.kind/\e.kind<=6)/\(e.bj.length:Int)=2
   ·rw[bI G.1,bI G.2];refine b8 ?_;obtain⟨a,b,w⟩: ∃a b,e.bj=[a,b]:=by
     have:e.bj.length=2:=O
     match dI:e.bj,this with
     | [a,b],_=>exact⟨a,b,rfl⟩
    have Z:dp (L+1) e d=(dp L a d&&dp L b d):=by
     show(ag (fJ e.kind=e.bj.length)&&(eX e d&&e.bj.all λk=>dp L k d))=_;rw[l,w,bI (show fJ e.kind=(([a,b]:List Expr).length:Int) by rw[K.1.2 G.1];rfl)];simp
    have H:dM (L+1) e=1+(dM L a+dM L b):=by simp[dM,w]
    have alJ:=sC L a;have alK:=sC L b;rw[Z,H];obtain⟨n,rfl⟩: ∃j,n=j+1:=⟨n-1,O⟩
    refine ad.aD (λz:Int×Bool=>z.2=(dp L a d&&dp L b d&&ag (c+(1+(dM L a+dM L b))<=12))/\(z.2=ab->z.1=c+(1+(dM L a+dM L b)))) (λj i=>?_) λz m=>ad.some m;refine ae (x:=a) (by rw[w];rfl) (ch (K5 d L n a (c+1) O O (D a (by rw[w];simp)) O O) λr ⟨F,f⟩=>?_);cases t:r.1 with
    |false=>
     refine i _ ⟨?_,λh=>by cases h⟩;rw[t] at F;show ak=_;by_cases R:dp L a d=ab
     ·rw[R,gp] at F
      have:=of_decide_eq_false F.symm;rw[bJ (show¬c+(1+(dM L a+dM L b))<=12 by omega),k5]
     rw[Bool.eq_false_iff.2 R];rfl
    |true=>
     have f:=f t;rw[t] at F;have F:=F.symm;rw[nS,decide_eq_true_eq] at F;refine ae (x:=b) (by rw[w];rfl) ?_;rw[f];refine ch (K5 d L n b (c+1+dM L a) O O (D b (by rw[w];simp)) O O) λq ⟨oE,q2⟩=>i _ ⟨?_,λh=>?_⟩
     ·show q.1=_;rw[oE,F.1,gp];congr 1;exact decide_eq_decide.2 O
     show q.2=_;rw[q2 h];omega
   have jh:dp (L+1) e d=ak:=by
    unfold dp;rw[bJ (show¬fJ e.kind=(e.bj.length:Int) by
     intro h;rcases K.2 with I|I
     ·exact G ⟨K.1.1 I,O⟩
     omega)]
    rfl
   have:(ag (4<=e.kind/\e.kind<=6)&&ag ((e.bj.length:Int)=2))=ak:=by
    by_cases g:4<=e.kind/\e.kind<=6
    ·rw[bJ (show¬(e.bj.length:Int)=2 from λh=>G ⟨g,h⟩),k5]
    rw[bJ g];rfl
   rw[this,jh];exact ad.some ⟨rfl,λh=>by cases h⟩
def eS(s:Stmt)(d:Int):Bool:=ag (0<=d/\d<=4)&&(fX s.write d&&(dp 5 s.value d&&ag (dM 5 s.value<=12)))
def Bn(s:Stmt):Prop:=ll s.write.bz/\xV 5 s.value
theorem VO(m:6000<=n)(h:Bn s)(d:Int):Fi n s d=aa (eS s d):=by
 obtain⟨n,rfl⟩: ∃j,n=j+1:=⟨n-1,O⟩
 refine ad.eq ?_;unfold Fi;generalize a:eS s d=T;unfold eS at a;refine ad.aD (λz:Int×Bool=>z.2=T) (λj c=>ae (jC _ _ _ _) ?_) λz k=>ad.some k;cases e:ag (0<=d/\d<=4) with
 |false=>exact c (0,ak) (by rw[<-a,e];rfl)
 |true=>
  refine bX (ae (LK O h.1 d) ?_);cases i:fX s.write d with
  |false=>exact c (0,ak) (by rw[<-a,e,i];rfl)
  |true=>
   refine bX (ch (K5 d 5 n s.value 0 O O h.2 O O) λr ⟨l,o⟩=>c _ ?_);rw[<-a,e,i];show r.1=_;rw[l];simp
theorem KM(o:6000<=n)(h:Bn s)(d:Int):tW n s d=aa (eS s d):=by
 obtain⟨n,rfl⟩: ∃j,n=j+1:=⟨n-1,O⟩
 refine ad.eq ?_;unfold tW;generalize l:eS s d=T;generalize a:(ag (0<=d/\d<=4)&&(fX s.write d&&dp 5 s.value d))=B;have c:T=(B&&ag (dM 5 s.value<=12)):=by rw[<-l,<-a];unfold eS;simp only[Bool.and_assoc]
 refine ad.aD (λz=>z= !B) (λj e=>aW (λh=>e _ ?_) λp=>aW (λh=>e _ ?_) λq=>ae (LG O h.1 d) ?_) λz m=>?_
 ·rw[<-a,bJ (show¬(0<=d/\d<=4) by omega)];rfl
 ·rw[<-a,bJ (show¬(0<=d/\d<=4) by omega)];rfl
 ·rw[bI (O:0<=d/\d<=4)] at a;cases k:fX s.write d with
  |false=>exact bX (e _ (by rw[<-a,k];rfl))
  |true=>exact b8 (ae (L1 d 5 n s.value O O h.2) (e _ (by rw[<-a,k];rfl)))
 subst m;cases i:B with
 |false=>exact ad.some (by rw[c,i];rfl)
 |true=>
  rw[i] at a;simp only[b9] at a;refine b8 (ae (L2 (d:=d) 5 n s.value O O a.2.2) (ad.some ?_));rw[c,i];rfl
def kY(a:List Int):Bool:=ag (1<=a.length/\a.length<=2)&&a.all λd=>decide (1<=d/\d<=6)
def sQ(a:List cn)(i:Nat)(x:cn):Bool:=match i with
 |0=>ab
 |i+1=>match a[i]? with
  |some y=>Op.bytesLess y.name x.name
  |none=>ak
def oY(a:List cn)(i:Nat)(x:cn):Bool:=pO x.name&&(sQ a i x&&kY x.b1)
def ku(a:List cn):Bool:=yc (oY a) a&&ag (a.length<=4)
def F1(a:List cn):Prop:=a.length<=1000/\ ∀x∈a,x.b1.length<=1000
theorem MB{x y:cn}(h:r[i]? =aa y):sQ r (i+1) x=Op.bytesLess y.name x.name:=by simp only[sQ,h]
theorem acI(a:List Int):(a.any λd=> !decide (1<=d/\d<=6))= !(a.all λd=>decide (1<=d/\d<=6)):=by grind
theorem WY(Z:6000<=n){w:List cn}(h:F1 w):AJ n w=aa (ku w):=by
 obtain⟨b,L⟩:=h;refine ad.eq ?_;unfold AJ;refine q3 (l:=w) (p:=oY w) O O (λa i x m s y=>?_) (λa o=>?_) (λ⟨i,x,m,A⟩=>?_)
 ·have hi:=(bR.1 m).1;have hm:=L x (bx m);rw[bI (show(i:Int)<(w.length:Int) by omega)];have Q:ob n x.b1 (λB=>i8 n B)=aa (!(x.b1.all λd=>decide (1<=d/\d<=6))):=by
   rw[<-acI];exact zA (λd _=>by unfold i8;rw[jC];rfl) O O
  refine bX (ae (bl m) (ad.aD (λz=>z= !oY w i x) (λj k=>ae (L7 n _) ?_) λz R=>?_))
  ·unfold oY kY at k;cases C:pO x.name with
   |false=>exact bX (k _ (by rw[C];rfl))
   |true=>
    rw[C] at k;refine b8 ?_;rw[Fy];have c:sQ w i x=ab->ad (bO (aa (ag (1<=x.b1.length/\x.b1.length<=2))) λW=>bif !W then j ab else bO (ob n x.b1 λB=>i8 n B) λX=>j X) (λr=>r=ku w):=by
     intro A;rw[A] at k;show ad (bif _ then _ else _) _;cases F:ag (1<=x.b1.length/\x.b1.length<=2) with
     |false=>exact bX (k _ (by rw[F];rfl))
     |true=>exact b8 (ae Q (k _ (by rw[F];rfl)))
    cases i with
    |zero=>exact aW (λh=>bB h (by decide)) (λ_=>c rfl)
    |succ i=>
     have G:=bp (O:i<w.length);have e:wr (((i+1:Nat):Int)-1)=(i:Int):=by rw[bc O];omega
     rw[e];refine aW (λ_=>ae (bl G) ?_) λh=>bB (show(0:Int)<((i+1:Nat):Int) by omega) h;have q:=MB (x:=x) G;cases H:Op.bytesLess w[i].name x.name with
     |false=>exact bX (k _ (by rw[q,H];rfl))
     |true=>exact b8 (c (by rw[q,H]))
  subst R;cases K:oY w i x with
  |true=>show ad (a _) _;rw[bc O];exact s K
  |false=>exact ad.some (y K)
 ·rw[bJ (show¬(w.length:Int)<(w.length:Int) by omega)];refine ad.some ?_;unfold ku;rw[E2 o,gp]
  grind
 unfold ku;rw[EJ m A];rfl
theorem ace(s:List UInt8):(!Op.bytesLess s [68]&& !s==[68])= !(Op.bytesLess s [68]||s==[68]):=by grind
theorem WK(V:6000<=n){a:List cn}(h:F1 a):As n a=aa (ku a):=by
 obtain⟨h0,u⟩:=h;refine ad.eq ?_;unfold As;refine q3 (l:=a) (p:=oY a) O O (λq i x w K A=>?_) (λq B=>?_) (λ⟨i,x,w,v⟩=>?_)
 ·have hi:=(bR.1 w).1;have hm:=u x (bx w);rw[bI (show(i:Int)<(a.length:Int) by omega)];refine bX (ae (bl w) (ad.aD (λz=>z= !(pO x.name&&(sQ a i x&&ag (1<=x.b1.length/\x.b1.length<=2)))) (λj m=>?_) λz L=>?_))
  ·refine fl (λD=>m _ ?_) λD=>?_
   ·rw[F9 O];rfl
   obtain⟨b,o⟩:=I5 (O:x.name.length=1);rw[ace];have Q: ∀(y:cn),Op.bytesLess y.name x.name=Op.bytesLess y.name [b]:=λy=>by rw[o]
   have R:pO x.name=ag (65<=b.toNat/\b.toNat<=68):=by rw[o];rfl
   have E:Op.bytesLess x.name [65]=ag (b.toNat<65):=by rw[o];exact MV b
   have I:(Op.bytesLess x.name [68]||x.name==[68])=ag (b.toNat<=68):=by rw[o];exact MU b
   rw[E,I];rw[R] at m;refine aW (λM=>m _ ?_) λM=>fl (λN=>m _ ?_) λN=>?_
   ·rw[bJ (show¬(65<=b.toNat/\b.toNat<=68) by omega)];rfl
   ·rw[bJ (show¬(65<=b.toNat/\b.toNat<=68) by omega)];rfl
   rw[bI (O:65<=b.toNat/\b.toNat<=68)] at m;have c:sQ a i x=ab->ad (bif ag ((x.b1.length:Int)<1) then j ab else j (ag ((2:Int)<(x.b1.length:Int)))) (λr=>r=ku a):=by
    grind
   cases i with
   |zero=>exact aW (λh=>bB h (by decide)) (λ_=>c rfl)
   |succ i=>
    have Z:=bp (O:i<a.length);have e:wr (((i+1:Nat):Int)-1)=(i:Int):=by rw[bc O];omega
    rw[e];refine aW (λ_=>ae (bl Z) ?_) λh=>bB (show(0:Int)<((i+1:Nat):Int) by omega) h;have C:=MB (x:=x) Z;cases f:Op.bytesLess a[i].name x.name with
    |false=>exact bX (m _ (by rw[C,f];rfl))
    |true=>exact b8 (c (by rw[C,f]))
  subst L;cases o:(pO x.name&&(sQ a i x&&ag (1<=x.b1.length/\x.b1.length<=2))) with
  |false=>
   refine ad.some (A ?_);unfold oY kY;rw[<-mW,<-mW];rw[<-mW] at o;rw[o];rfl
  |true=>
   have F:oY a i x=x.b1.all (λd=>decide (1<=d/\d<=6)):=by
    unfold oY kY;rw[<-mW,<-mW];rw[<-mW] at o;rw[o];rfl
   refine b8 ?_;refine ad.loop (λy:Int=> ∃k:Nat,y=k/\k<=x.b1.length/\ ∀(t:Nat) d,t<k->x.b1[t]? =aa d->decide (1<=d/\d<=6)=ab) (λy=>x.b1.length-y.toNat) ?_ n _ ⟨0,rfl,O,λt d h=>O⟩ bP;rintro H y ⟨k,rfl,hk,g⟩ P;refine aW (λS=>?_) λT=>?_
   ·have cC:=bp (O:k<x.b1.length);have U:wr ((k:Int)+1)=((k+1:Nat):Int):=by rw[bc O];omega
    refine ad.aD (λz=>z= !decide (1<=x.b1[k]/\x.b1[k]<=6)) (λj m=>ae (bl cC) (aW (λh=>m _ ?_) λh=>m _ ?_)) λz L=>?_
    ·rw[bJ O];rfl
    ·by_cases h6:x.b1[k]<=6
     ·rw[bJ (show¬(6:Int)<x.b1[k] by omega),bI (O:1<=x.b1[k]/\x.b1[k]<=6)];rfl
     rw[bI (show(6:Int)<x.b1[k] by omega),bJ (show¬(1<=x.b1[k]/\x.b1[k]<=6) by omega)];rfl
    subst L;cases G:ag (1<=x.b1[k]/\x.b1[k]<=6) with
    |false=>
     refine ad.some (A ?_);rw[F];exact mZ.2 ⟨_,bx cC,by rw[G];simp⟩
    |true=>
     rw[U];refine P _ ⟨k+1,rfl,O,λt d W s=>?_⟩ O;by_cases X:t=k
     ·subst X;rw[cC] at s;cases s;exact G
     exact g t d O s
   have e:wr ((i:Int)+1)=(i:Int)+1:=bc O;rw[e];refine K ?_;rw[F];refine gP.2 λd cC=>?_;obtain⟨t,W⟩:=ma cC
   have:=(bR.1 W).1;exact g t d O W
 ·rw[bJ (show¬(a.length:Int)<(a.length:Int) by omega)];refine ad.some ?_;unfold ku;rw[E2 B,gp]
  grind
 unfold ku;rw[EJ w v];rfl
def ie:List Int->Int
 | []=>1
 |d::a=>d*ie a
theorem Is{d:List Int}(h:kY d=ab):(∃a,d=[a]/\1<=a/\a<=6)\/ ∃a b,d=[a,b]/\(1<=a/\a<=6)/\1<=b/\b<=6:=by
 simp only[kY,b9,decide_eq_true_eq,hS] at h;obtain⟨⟨e,i⟩,c⟩:=h
 match d,e,i,c with
 | [a],_,_,c=>exact .inl ⟨a,rfl,c a aX⟩
 | [a,b],_,_,c=>exact .inr ⟨a,b,rfl,c a aX,c b aX⟩
theorem RI{a:Int}(c:1<=a/\a<=6)(d:1<=b/\b<=6):1<=a*b/\a*b<=36:=by
 constructor
 ·have:=q7 c.1 d.1 O O;omega
 have:=q7 c.2 d.2 O O;omega
theorem sY{d:List Int}(h:kY d=ab):1<=ie d/\ie d<=36:=by
 rcases Is h with ⟨a,rfl,c⟩|⟨a,b,rfl,c,e⟩
 ·simp[ie];omega
 have:=RI c e;simp[ie];omega
theorem FJ(l:6000<=n){x:cn}(h:kY x.b1=ab):xF n x=aa (ie x.b1):=by
 obtain⟨n,rfl⟩: ∃j,n=j+3:=⟨n-3,O⟩
 unfold xF;rcases Is h with ⟨a,e,d⟩|⟨a,b,e,d,i⟩
 ·rw[e];have c:wr a=a:=bc O;simp[bn,ax,ie,c,show wr 1=1 from bc O]
 rw[e]
 have:=RI d i;have c:wr a=a:=bc O;have k:wr (a*b)=a*b:=bc O;simp[bn,ax,ie,c,k,show wr 1=1 from bc O,show wr 2=2 from bc O]
theorem aaW(a:6000<=n){x:cn}(h:kY x.b1=ab):EL n x=aa (ie x.b1):=FJ a h
def gM:List az->List Int->List Int->Int->Int
 |s::c,d::e,p,a=>if 0<=cT s p/\cT s p<d then gM c e p (a*d+cT s p) else-1
 |_,_,_,a=>a
def dS:List cn->b0->List Int->Int->Int
 | [],_,_,_=> -1
 |x::d,a,p,c=>if x.name=a.array then(if a.bz.length=x.b1.length then(if gM a.bz x.b1 p 0<0 then-1 else c+gM a.bz x.b1 p 0) else-1) else dS d a p (c+ie x.b1)
def ks(a:List cn):Prop:= ∀x∈a,kY x.b1=ab
theorem afM{d:List Int}(e:kY d=ab){l:List az}(c:l.length=d.length)(p:List Int):gM l d p 0= -1\/(0<=gM l d p 0/\gM l d p 0<ie d):=by
 rcases Is e with ⟨a,rfl,h⟩|⟨a,b,rfl,h,k⟩
 ·match l,c with
  | [s],_=>
   simp only[gM,ie,Int.zero_mul,Int.zero_add,Int.mul_one];split<;>omega
 match l,c with
 | [s,t],_=>
  simp only[gM,ie,Int.zero_mul,Int.zero_add,Int.mul_one];split
  ·rename_i i;split
   ·rename_i m;refine .inr ⟨?_,?_⟩
    ·have:=mV i.1 (O:0<=b);omega
    have:=Int.mul_le_mul_of_nonneg_right (O:cT s p<=a-1) (O:0<=b);rw[Int.sub_mul] at this;omega
   exact .inl rfl
  exact .inl rfl
def gK(a:List cn):Int:=(a.map λx=>ie x.b1).sum
theorem Cj: ∀{xs:List cn},ks xs-> ∀(a:b0) (p:List Int) (c:Int),0<=c->dS xs a p c= -1\/(c<=dS xs a p c/\dS xs a p c<c+gK xs)
 | [],_,a,p,c,_=> .inl rfl
 |x::xs,k,a,p,c,n=>by
  have l:=k x aX;have hs:=sY l;have d:ks xs:=λy i=>k y (by simp[i]);have o:0<=gK xs:=by
   have:=oH (λx:cn=>ie x.b1) xs λy i=>(sY (d y i)).1;unfold gK;omega
  have e:gK (x::xs)=ie x.b1+gK xs:=by simp[gK]
  rw[e];simp only[dS];split
  ·split
   ·rename_i m;rcases afM l m p with h|h
    ·rw[aR O];exact .inl rfl
    rw[aQ O];exact .inr ⟨O,O⟩
   exact .inl rfl
  rcases Cj d a p (c+ie x.b1) O with h|h
  ·exact .inl h
  exact .inr ⟨O,O⟩
theorem lM(h:fX a d=ab):1<=a.bz.length/\a.bz.length<=2/\ ∀x∈a.bz,cN x=ab:=by
 simp only[fX,b9,decide_eq_true_eq,hS] at h;refine⟨h.2.2.1,h.2.2.2,λx c=>?_⟩
 have:=h.1 x c;simp only[fz,b9] at this
 grind
theorem im{k:Type}{l:List k}{x:k}(h:l[i]? =aa x):l.drop i=x::l.drop (i+1):=by obtain⟨a,c⟩:=bR.1 h;rw[lG a,c]
theorem PD{a v:Int}(c:0<=a/\a<=36)(e:1<=d/\d<=6)(h:0<=v/\v<d):0<=a*d/\a*d<=216/\0<=a*d+v:=by have i:=mV c.1 (O:0<=d);have k:=q7 c.2 e.2 O O;omega
theorem ab1(D:6000<=n)(E:a.bz.length<=2)(Z: ∀x∈a.bz,cN x=ab){e:List Int}(b:kY e=ab)(I:a.bz.length=e.length){p:List Int}(f:iF k p)(c:Int)(M:0<=c/\c<=1000000):
  bn (λl ((W,B):Int×Int)=>bif ag (B<(a.bz.length:Int)) then(bO (ax a.bz B) λg=>bO (oe n g p) λq=>bO (ax e B) λr=>bO (fG n q 0 (wr (r-1))) λC=>bif !C then(aa (-1)) else(l (wr ((wr (W*r))+q),wr (B+1)))) else(aa (wr (c+W)))) n (0,0)
   =aa (if gM a.bz e p 0<0 then-1 else c+gM a.bz e p 0):=by
 have F: ∀d∈e,1<=d/\d<=6:=by
  simp only[kY,b9,decide_eq_true_eq,hS] at b
  grind
 refine ad.eq ?_;refine ad.loop (λx:Int×Int=> ∃i:Nat,x.2=i/\i<=a.bz.length/\0<=x.1/\x.1<=36*i/\(i=0->x.1=0)/\(i=1->x.1<=5)/\gM a.bz e p 0=gM (a.bz.drop i) (e.drop i) p x.1) (λx=>a.bz.length-x.2.toNat) ?_ n _ ⟨0,rfl,O,aX,aX,λ_=>rfl,λh=>O,rfl⟩ bP;rintro G ⟨x,z⟩ ⟨i,X,N,H,K,s,w,m⟩ j;dsimp only at X H K s w m⊢;subst X;refine aW (λt=>?_) λu=>ad.some ?_
 ·have hs:=bp (O:i<a.bz.length);have o:=bp (O:i<e.length);have y:=F _ (bx o);have v:wr (e[i]-1)=e[i]-1:=bc O;rw[im hs,im o] at m;simp only[gM] at m;refine ae (bl hs) (ae (vw O (Z _ (bx hs)) f) (ae (bl o) (ae (jC _ _ _ _) ?_)));rw[v];by_cases L:0<=cT a.bz[i] p/\cT a.bz[i] p<e[i]
  ·rw[aR L] at m;rw[bI (O:0<=cT a.bz[i] p/\cT a.bz[i] p<=e[i]-1)];obtain⟨P,S,T⟩:=PD (a:=x) O y L;refine b8 ?_;rw[bc (n:=x*e[i]) O,bc (n:=x*e[i]+cT a.bz[i] p) O,bc O];have A:i=0\/i=1:=O
   refine j _ ⟨i+1,J,O,J,?_,λh=>O,λh=>?_,m⟩ J
   ·dsimp only;rcases A with rfl|rfl
    ·rw[s rfl];omega
    have:=w rfl
    have:=q7 this y.2 O O;omega
   dsimp only
   grind
  rw[aQ L] at m;rw[bJ (show¬(0<=cT a.bz[i] p/\cT a.bz[i] p<=e[i]-1) by omega)];refine bX (ad.some ?_)
  grind
 have Q:i=a.bz.length:=O
 have R:gM (a.bz.drop i) (e.drop i) p x=x:=by
  rw[Q,pA];unfold gM;rfl
 rw[R] at m;rw[m,aQ O,bc O]
theorem abn(N:6000<=n)(P:1<=a.bz.length)(S:a.bz.length<=2)(t: ∀x∈a.bz,cN x=ab){c:List Int}(u:kY c=ab){p:List Int}(v:iF k p)(e:Int)(T:0<=e/\e<=1000000):
  bn (λl ((b,s):Int×Int)=>bif ag (s<(a.bz.length:Int)) then(bif !decide ((a.bz.length:Int)=(c.length:Int)) then(aa (-1)) else(bO (ax a.bz s) λD=>bO (pk n D p) λr=>aD (fun(G:Bool)=>bif G then(aa (-1)) else(bO (ax c s) λH=>l (wr ((wr (b*H))+r),wr (s+1)))) λw=>bif ag (r<0) then(w ab) else(bO (ax c s) λK=>w (ag (K<=r))))) else(aa (wr (e+b)))) n (0,0)
   =aa (if a.bz.length=c.length then(if gM a.bz c p 0<0 then-1 else e+gM a.bz c p 0) else-1):=by
 by_cases f:a.bz.length=c.length
 ·rw[aR f];rw[bI (show(a.bz.length:Int)=(c.length:Int) by omega)];have L: ∀d∈c,1<=d/\d<=6:=by
   simp only[kY,b9,decide_eq_true_eq,hS] at u
   grind
  refine ad.eq ?_;refine ad.loop (λx:Int×Int=> ∃i:Nat,x.2=i/\i<=a.bz.length/\0<=x.1/\x.1<=36*i/\(i=0->x.1=0)/\(i=1->x.1<=5)/\gM a.bz c p 0=gM (a.bz.drop i) (c.drop i) p x.1) (λx=>a.bz.length-x.2.toNat) ?_ n _ ⟨0,rfl,O,aX,aX,λ_=>rfl,λh=>O,rfl⟩ bP;rintro Q ⟨x,z⟩ ⟨i,F,U,R,W,y,A,o⟩ E;dsimp only at F R W y A o⊢;subst F;refine aW (λI=>?_) λM=>ad.some ?_
  ·have hs:=bp (O:i<a.bz.length);have m:=bp (O:i<c.length);have B:=L _ (bx m);rw[im hs,im m] at o;simp only[gM] at o;refine b8 (ae (bl hs) (ae (yw O (t _ (bx hs)) v) (ad.aD (λz=>z= !decide (0<=cT a.bz[i] p/\cT a.bz[i] p<c[i])) (λj g=>aW (λh=>g _ ?_) λh=>ae (bl m) (g _ ?_)) λz F=>?_)))
   ·rw[bJ O];rfl
   ·by_cases q:c[i]<=cT a.bz[i] p
    ·rw[bI q,bJ O];rfl
    rw[bJ q,bI O];rfl
   subst F;by_cases q:0<=cT a.bz[i] p/\cT a.bz[i] p<c[i]
   ·rw[aR q] at o;rw[bI q];obtain⟨V,g2,g3⟩:=PD (a:=x) O B q;refine b8 (ae (bl m) ?_);rw[bc (n:=x*c[i]) O,bc (n:=x*c[i]+cT a.bz[i] p) O,bc O];have C:i=0\/i=1:=O
    refine E _ ⟨i+1,J,O,J,?_,λh=>O,λh=>?_,o⟩ J
    ·dsimp only;rcases C with rfl|rfl
     ·rw[y rfl];omega
     have:=A rfl
     have:=q7 this B.2 O O;omega
    dsimp only
    grind
   rw[aQ q] at o;rw[bJ q];refine bX (ad.some ?_)
   grind
  have X:i=a.bz.length:=O
  have Z:gM (a.bz.drop i) (c.drop i) p x=x:=by
   rw[X,pA];unfold gM;rfl
  rw[Z] at o;rw[o,aQ O,bc O]
 rw[aQ f,bJ (show¬(a.bz.length:Int)=(c.length:Int) by omega)];obtain⟨n,rfl⟩: ∃j,n=j+1:=⟨n-1,O⟩
 simp only[bn]
 grind
theorem wY(y:6000<=n)(R:p.aP.length<=4)(B:ks p.aP)(C:fX a d=ab)(F:iF k q):qa n p a q=aa (dS p.aP a q 0):=by
 obtain⟨a0,aL,a2⟩:=lM C;refine ad.eq ?_;unfold qa;refine ad.loop (λx:Int×Int=> ∃i:Nat,x.2=i/\i<=p.aP.length/\0<=x.1/\x.1<=36*i/\dS p.aP a q 0=dS (p.aP.drop i) a q x.1) (λx=>p.aP.length-x.2.toNat) ?_ n _ ⟨0,rfl,O,aX,aX,rfl⟩ bP;rintro m ⟨x,z⟩ ⟨i,A,W,o,r,c⟩ G;dsimp only at A o r c⊢;subst A;refine aW (λH=>?_) λK=>ad.some ?_
 ·have s:=bp (O:i<p.aP.length);have h:=B _ (bx s);have lV:=sY h;rw[im s] at c;simp only[dS] at c;refine ae (bl s) (fl (λl=>?_) λL=>?_)
  ·rw[aQ l] at c;refine ae (aaW y h) ?_;rw[bc (n:=x+ie p.aP[i].b1) O,bc O];exact G _ ⟨i+1,J,O,J,J,c⟩ J
  rw[aR L] at c;refine fl (λl=>ad.some ?_) λQ=>?_
  ·rw[c,aQ O]
  have e:a.bz.length=p.aP[i].b1.length:=O
  rw[aR e] at c;exact ad.of (ab1 y aL a2 h e F x O) c.symm
 have w:i=p.aP.length:=O
 rw[c,w,pA];rfl
theorem Oh(w:6000<=n)(L:r.length<=4)(A:ks r)(B:fX a d=ab)(C:iF k q):xG n r a q=aa (dS r a q 0):=by
 obtain⟨a0,aL,a2⟩:=lM B;refine ad.eq ?_;unfold xG;refine ad.loop (λx:Int×Int=> ∃i:Nat,x.2=i/\i<=r.length/\0<=x.1/\x.1<=36*i/\dS r a q 0=dS (r.drop i) a q x.1) (λx=>r.length-x.2.toNat) ?_ n _ ⟨0,rfl,O,aX,aX,rfl⟩ bP;rintro h ⟨x,z⟩ ⟨i,y,Q,l,m,c⟩ F;dsimp only at y l m c⊢;subst y;refine aW (λG=>?_) λH=>ad.some ?_
 ·have o:=bp (O:i<r.length);have e:=A _ (bx o);have lV:=sY e;rw[im o] at c;simp only[dS] at c;refine ae (bl o) (fl (λp=>?_) λK=>?_)
  ·rw[aQ p] at c;refine ae (FJ w e) ?_;rw[bc (n:=x+ie r[i].b1) O,bc O];exact F _ ⟨i+1,J,O,J,J,c⟩ J
  rw[aR K] at c;exact ad.of (abn w a0 aL a2 e C x O) c.symm
 have s:i=r.length:=O
 rw[c,s,pA];rfl
def dv:Nat->Expr->List b0
 |0,_=>[]
 |L+1,e=>(if e.kind=3 then [e.read] else [])++e.bj.flatMap (dv L)
theorem Bb{d:Int}: ∀{L:Nat} {e:Expr},dp L e d=ab-> ∀a∈dv L e,fX a d=ab
 |0,e,h,a,c=>by cases h
 |L+1,e,h,a,c=>by
  obtain⟨o,i,m⟩:=gi h;simp only[dv,List.mem_append,List.mem_flatMap] at c;rcases c with c|⟨k,n,c⟩
  ·split at c
   ·rename_i l;simp at c;subst c;unfold eX at i;rw[aQ O,aR l] at i;simp only[b9] at i;exact i.2.2
   simp at c
  exact Bb (m k n) a c
theorem Ba: ∀(L:Nat) (e:Expr),((dv L e).length:Int)<=dM L e
 |0,e=>by simp[dv,dM]
 |L+1,e=>by
  have h: ∀(l:List Expr),((l.flatMap (dv L)).length:Int)<=(l.map (dM L)).sum:=by
   intro l;induction l with
   |nil=>simp
   |cons k l a=>
    have:=Ba L k;simp only[List.flatMap_cons,ik,gd,List.sum_cons];omega
  have:=h e.bj;simp only[dv,dM,ik];split
  ·rw[su];omega
  rw[List.length_nil];omega
theorem Ge{d:Int}: ∀(L n:Nat) (e:Expr),6000+L<=n->L<=5->dp L e d=ab->rU (n+1) e=aa (dv L e)
 |0,n,e,_,_,h=>by cases h
 |L+1,n,e,C,w,h=>by
  obtain⟨F,G,s⟩:=gi h;have y:=qM e.kind;unfold rU;refine ad.eq (aW (λc=>ad.some ?_) λm=>?_)
  ·have:e.bj=[]:=by
    have H:fJ e.kind=0:=by unfold fJ;rw[aR (Or.inr (Or.inr c))]
    exact oK O
   simp[dv,c,this]
  obtain⟨n,rfl⟩: ∃j,n=j+1:=⟨n-1,O⟩
  have o: ∀k∈e.bj,((dv L k).length:Int)<=100:=λk l=>by
   have K:=CZ (s k l);have Q:(2:Int)^L<=40:=by
    match L,w with
    |0,_=>decide
    |1,_=>decide
    |2,_=>decide
    |3,_=>decide
    |4,_=>decide
   have:=Ba L k;omega
  refine ad.loop (λx:List b0×Int=> ∃i:Nat,x.2=i/\i<=e.bj.length/\x.1=(e.bj.take i).flatMap (dv L)/\(x.1.length:Int)<=100*i) (λx=>e.bj.length-x.2.toNat) ?_ (n+1) _ ⟨0,rfl,O,aX,aX⟩ bP;rintro p ⟨x,k⟩ ⟨i,l,R,q,r⟩ z;dsimp only at l q r⊢;subst l;refine aW (λA=>?_) λB=>ad.some ?_
  ·have a:=bp (O:i<e.bj.length);have hm:=bx a;have bb:=o _ hm;refine ae (bl a) (ae (Ge (d:=d) L n _ O O (s _ hm)) (ae (c' O) ?_));rw[bc O];refine z _ ⟨i+1,J,O,?_,by dsimp only;rw[ea];omega⟩ J;dsimp only;rw[eN,a,mb,q];simp
  have:i=e.bj.length:=O
  rw[q,this,dW];simp[dv,m]
theorem AP(n:Nat){a:az}(h:a.aT.length<=1000):rF n a=aa a:=by
 unfold rF;refine ad.eq (aW (λd=>ad.some ?_) λd=>ae (og _ h) (ad.some rfl));obtain⟨cs,c⟩:=a
 have:cs=[]:=oK (by simpa using d)
 grind
theorem Ad(q:5000<=n)(h:ll a.bz):rG n a=aa a:=by
 obtain⟨r,l⟩:=h;refine ad.eq ?_;unfold rG;refine ad.loop (λx:List az×Int=> ∃i:Nat,x.2=i/\i<=a.bz.length/\x.1=a.bz.take i) (λx=>a.bz.length-x.2.toNat) ?_ n _ ⟨0,rfl,O,aX⟩ bP;rintro d ⟨x,k⟩ ⟨i,e,s,c⟩ m;dsimp only at e c⊢;subst e;refine aW (λo=>?_) λp=>ad.some ?_
 ·have hs:=bp (O:i<a.bz.length);have w:x.length=i:=by rw[c,cZ];omega
  refine ae (bl hs) (ae (AP n (l _ (bx hs))) (ae (c' bP) ?_));rw[bc O];refine m _ ⟨i+1,J,O,?_⟩ J;dsimp only;rw[eN,hs,c];rfl
 have:i=a.bz.length:=O
 rw[c,this,dW]
theorem Qh{l:List az}(e:l.length<=2)(c: ∀a∈l,cN a=ab):ll l:=⟨O,λa d=>by have:=(fo (c a d)).1;unfold kf;omega⟩
theorem M0{d:Int}: ∀(L n:Nat) (e:Expr) (out:List b0),6000+L<=n->L<=5->dp L e d=ab->(out.length:Int)<=1000+200*(6-(L:Int))->uv (n+1) out e=aa (out++dv L e)
 |0,n,e,out,_,_,h,_=>by cases h
 |L+1,n,e,out,W,B,h,X=>by
  obtain⟨Z,b,w⟩:=gi h;have C:=qM e.kind;unfold uv;refine ad.eq (ad.aD (λz=>z=out++(if e.kind=3 then [e.read] else [])) (λj y=>aW (λa=>?_) λo=>y _ (by rw[aQ o];simp)) λz A=>?_)
  ·have F:=Bb h e.read (by simp[dv,a]);obtain⟨_,G,H⟩:=lM F;exact ae (Ad O (Qh G H)) (ae (c' bP) (y _ (by rw[aR a])))
  subst A;obtain⟨n,rfl⟩: ∃j,n=j+1:=⟨n-1,O⟩
  by_cases a:e.kind=3
  ·have c:e.bj=[]:=by
    have A:fJ e.kind=0:=by unfold fJ;rw[aR (Or.inr (Or.inr a))]
    exact oK O
   rw[c];refine ad.some ?_;simp[dv,a,c]
  have p: ∀k∈e.bj,((dv L k).length:Int)<=100:=λk m=>by
   have f:=CZ (w k m);have g:(2:Int)^L<=40:=by
    match L,B with
    |0,_=>decide
    |1,_=>decide
    |2,_=>decide
    |3,_=>decide
    |4,_=>decide
   have:=Ba L k;omega
  rw[aQ a,kb];refine ad.loop (λx:List b0×Int=> ∃i:Nat,x.2=i/\i<=e.bj.length/\x.1=out++(e.bj.take i).flatMap (dv L)/\(x.1.length:Int)<=out.length+100*i) (λx=>e.bj.length-x.2.toNat) ?_ (n+1) _ ⟨0,rfl,O,aX,aX⟩ bP;rintro q ⟨x,k⟩ ⟨i,m,t,r,s⟩ K;dsimp only at m r s⊢;subst m;refine aW (λQ=>?_) λR=>ad.some ?_
  ·have l:=bp (O:i<e.bj.length);have hm:=bx l;have bb:=p _ hm;refine ae (bl l) (ae (M0 (d:=d) L n _ x O O (w _ hm) O) ?_);rw[bc O];refine K _ ⟨i+1,J,O,?_,by dsimp only;rw[ea];omega⟩ J;dsimp only;rw[eN,l,mb,r];simp
  have:i=e.bj.length:=O
  rw[r,this,dW];simp[dv,a]
theorem QR{o:List Loop}(c:Fit o): ∀(ls:List Loop) (k:Nat) (p q:List Int),o.drop k=ls->k<=o.length->iF k p->q∈cW ls p->iF o.length q
 | [],k,p,q,d,h,e,a=>by
  have:=BR d h;simp only[cW,List.mem_singleton] at a;subst a;subst this;exact e
 |l::ls,k,p,q,d,h,e,a=>by obtain⟨i,m,x⟩:=Br d;obtain⟨n,r⟩:=c.2 k l i;have s:=c.1;simp only[cW,List.mem_flatMap] at a;obtain⟨v,w,a⟩:=a;exact QR c ls (k+1) _ q m O (Cy n r e O (x1.1 w)) a
theorem oZ{o:List Loop}{z:List (List Int)}(h:kH o=aa z):Fit o/\z.length<=120/\(∀q∈z,iF o.length q)/\z=cW o []/\gb o []<=1200:=by
 unfold kH at h;split at h
 ·rename_i a;cases h;have c:=CX a.1;exact⟨c,a.2.2,λq d=>QR c o 0 [] q rfl O zE d,rfl,a.2.1⟩
 cases h
def hK(c:List cn)(s:Stmt)(q:List Int):Bool:=ag (0<=dS c s.write q 0)&&(dv 5 s.value).all λa=>decide (0<=dS c a q 0)
theorem gj(h:eS s d=ab):fX s.write d=ab/\dp 5 s.value d=ab/\(∀a∈dv 5 s.value,fX a d=ab)/\(dv 5 s.value).length<=12:=by
 simp only[eS,b9,decide_eq_true_eq] at h;obtain⟨_,e,c,i⟩:=h
 have:=Ba 5 s.value;exact⟨e,c,Bb c,O⟩
theorem Yr(F:7000<=n)(c:p.aP.length<=4)(e:ks p.aP)(r:eS s d=ab)(i:iF k q):m9 n p s q=aa (hK p.aP s q):=by
 obtain⟨w,x,y,G⟩:=gj r;obtain⟨n,rfl⟩: ∃j,n=j+1:=⟨n-1,O⟩
 refine ad.eq ?_;unfold m9;generalize m:hK p.aP s q=T;unfold hK at m;refine ad.aD (λz=>z=T) (λj o=>ae (wY O c e w i) (aW (λh=>?_) λh=>o _ ?_)) λz A=>ad.some A
 ·have bT:=Vm (n:=n+1) (f:=λB=>y1 (n+1) B p q) (p:=λa=>decide (dS p.aP a q 0<0)) (l:=dv 5 s.value)
   (λa C=>by unfold y1;rw[wY O c e (y a C) i];rfl) O O
  refine ae (Ge (d:=d) 5 n s.value O O x) (ae bT (o _ ?_))
  grind
 rw[<-m,bJ h];rfl
theorem L0(v:7000<=n)(F:r.length<=4)(G:ks r)(L:eS s d=ab)(H:iF k q):
  wT n r s q=aa (if hK r s q=ab then((dv 5 s.value).map λa=>dS r a q 0,dS r s.write q 0,ab) else([],0,ak)):=by
 obtain⟨Q,W,X,D⟩:=gj L;obtain⟨n,rfl⟩: ∃j,n=j+1:=⟨n-1,O⟩
 refine ad.eq ?_;unfold wT;refine ae (M0 (d:=d) 5 n s.value [] O O W aX) ?_;rw[uG];generalize Z:dv 5 s.value=R at*;have e:hK r s q=(ag (0<=dS r s.write q 0)&&R.all λa=>decide (0<=dS r a q 0)):=by unfold hK;rw[Z]
 refine ad.loop (λx:List Int×Int=> ∃i:Nat,x.2=i/\i<=R.length/\x.1=(R.take i).map (λa=>dS r a q 0)/\ ∀(t:Nat) a,t<i->R[t]? =aa a->0<=dS r a q 0) (λx=>R.length-x.2.toNat) ?_ (n+1) _ ⟨0,rfl,O,aX,λt a h=>O⟩ J;rintro w ⟨x,z⟩ ⟨i,K,E,p,y⟩ b;dsimp only at K p y⊢;subst K;refine aW (λf=>?_) λg=>?_
 ·have bK:=bp (O:i<R.length);have hm:=bx bK;refine ae (bl bK) (ae (Oh O F G (X _ hm) H) (aW (λl=>ad.some ?_) λm=>?_))
  ·rw[aQ];rw[e];intro h;rw[nS] at h
   have:=gP.1 h.2 _ hm;rw[decide_eq_true_eq] at this;omega
  have u:x.length<=12:=by rw[p,dJ,cZ];omega
  refine ae (c' bP) ?_;rw[bc O];refine b _ ⟨i+1,J,O,?_,λt a A c=>?_⟩ J
  ·dsimp only;rw[eN,bK,eM,p];rfl
  by_cases B:t=i
  ·subst B;rw[bK] at c;cases c;omega
  exact y t a O c
 have C:i=R.length:=O
 have o:R.all (λa=>decide (0<=dS r a q 0))=ab:=gP.2 (λa hm=>by
  obtain⟨t,A⟩:=ma hm
  have:=(bR.1 A).1;exact bI (y t a O A))
 rw[e,o,Bool.and_true];refine ae (Oh O F G Q H) (aW (λl=>ad.some ?_) λm=>ad.some ?_)
 ·rw[aQ (by rw[decide_eq_true_eq];omega)]
 rw[aR (by rw[decide_eq_true_eq];omega),p,C,dW]
def kZ(q:List Int):Bool:=ag (q.length<=4)&&q.all λx=>decide (-9999<=x/\x<=9999)
theorem W5(c:5000<=n)(h:q.length<=1000):Bk n q=aa (kZ q):=by
 unfold Bk kZ;have bT:=zA (n:=n) (f:=λa=>zL n a) (p:=λx=> !decide (-9999<=x/\x<=9999)) (l:=q) (λx _=>by unfold zL;rw[jC];rfl) O O;simp only[aD,bO]
 grind
theorem W'(s:5000<=n)(h:q.length<=1000):A5 n q=aa (kZ q):=by
 refine ad.eq ?_;unfold A5;refine q3 (l:=q) (p:=λ_ x=>decide (-9999<=x/\x<=9999)) O O (λa i x e k m=>?_) (λa d=>?_) (λ⟨i,x,e,o⟩=>?_)
 ·have hi:=(bR.1 e).1;rw[bI (show(i:Int)<(q.length:Int) by omega)];refine bX (ae (bl e) (ae (zI n x 9999 O) ?_));cases o:ag (-9999<=x/\x<=9999) with
  |true=>show ad (a _) _;rw[bc O];exact k o
  |false=>exact ad.some (m o)
 ·rw[bJ (show¬(q.length:Int)<(q.length:Int) by omega)];refine ad.some ?_;unfold kZ;rw[gP.2 (λc r=>by obtain⟨i,hi⟩:=ma r;exact d i c hi),Bool.and_true]
  grind
 unfold kZ
 grind
theorem PA{k:Type}(p q:k->Bool): ∀l:List k,(l.all p&&l.all q)=l.all (λx=>p x&&q x)
 | []=>rfl
 |x::l=>by simp only[List.all_cons,<-PA p q l];cases p x<;>cases q x<;>cases l.all p<;>cases l.all q<;>rfl
def oX(a:Part):Bool:=ag (1<=a.body.length/\a.body.length<=4)&&a.body.all λs=>eS s (a.nest.length:Int)
def dG(a:Part):List (List Int):=(kH a.nest).getD []
def d'(c:List cn)(a:Part):Bool:=(kH a.nest).isSome&&(oX a&&a.body.all λs=>(dG a).all λq=>hK c s q&&kZ q)
def CV(x:Part):Prop:=rm x.nest/\x.body.length<=1000/\ ∀s∈x.body,Bn s
def jz(p:Prog):Prop:=F1 p.aP/\p.parts.length<=1000/\ ∀x∈p.parts,CV x
theorem gx(h:d' r x=ab):kH x.nest=aa (dG x)/\(1<=x.body.length/\x.body.length<=4)/\(∀s∈x.body,eS s (x.nest.length:Int)=ab)/\ ∀s∈x.body,∀q∈dG x,hK r s q=ab/\kZ q=ab:=by
 simp only[d',oX,b9,decide_eq_true_eq,hS] at h;refine⟨?_,h.2.1.1,h.2.1.2,h.2.2⟩;unfold dG;cases a:kH x.nest with
 |none=>rw[a] at h;simp at h
 |some c=>rfl
theorem IB{list:List cn}(h:ku list=ab):list.length<=4/\ks list:=by
 simp only[ku,b9,decide_eq_true_eq] at h;refine⟨h.2,λx a=>?_⟩;obtain⟨i,c⟩:=ma a
 have:=ML h.1 c;simp only[oY,b9] at this
 grind
theorem FK(cY:7000<=n){a:List cn}(M:a.length<=4)(N:ks a)(P:CV x):
  xj n a x=aa (if d' a x=ab then(((dG x).length:Int)*(x.body.length:Int),ab) else(0,ak)):=by
 obtain⟨S,h2,U⟩:=P;refine ad.eq ?_;unfold xj;generalize v:(if d' a x=ab then(((dG x).length:Int)*(x.body.length:Int),ab) else((0:Int),ak))=T;refine ae (Vv O S) ?_;have d:d' a x=ak->((0:Int),ak)=T:=λh=>by rw[<-v,h];rfl
 refine ad.aD (λz=>z= !((kH x.nest).isSome&&ag (1<=x.body.length/\x.body.length<=4))) (λj m=>?_) λz W=>?_
 ·cases o:kH x.nest with
  |none=>exact bX (m _ (by rw[o];rfl))
  |some c=>
   refine b8 (aW (λh=>m _ ?_) λh=>m _ ?_)
   ·rw[o,bJ O];rfl
   rw[o];by_cases h4:x.body.length<=4
   ·rw[bJ (show¬(4:Int)<(x.body.length:Int) by omega),bI O];rfl
   rw[bI (show(4:Int)<(x.body.length:Int) by omega),bJ O];rfl
 subst W;cases o:kH x.nest with
 |none=>exact ad.some (d (by unfold d';rw[o];rfl))
 |some c=>
  obtain⟨jh,V,X,ahM,ahN⟩:=oZ o;have B:dG x=c:=by unfold dG;rw[o];rfl
  by_cases Q:1<=x.body.length/\x.body.length<=4
  ·rw[bI Q];refine b8 ?_;have p:d' a x=x.body.all (λs=>eS s (x.nest.length:Int)&&c.all λq=>hK a s q&&kZ q):=by
    unfold d' oX;rw[o,B,bI Q,Option.isSome_some,gp,gp];exact PA _ _ _
   refine ad.loop (λy:Int=> ∃i:Nat,y=i/\i<=x.body.length/\ ∀(t:Nat) s,t<i->x.body[t]? =aa s->(eS s (x.nest.length:Int)&&c.all λq=>hK a s q&&kZ q)=ab) (λy=>x.body.length-y.toNat) ?_ n _ ⟨0,rfl,O,λt s h=>O⟩ bP;rintro Z y ⟨i,rfl,hi,D⟩ b7;refine aW (λhlt=>?_) λkp=>ad.some ?_
   ·have bK:=bp (O:i<x.body.length);have hm:=bx bK;refine ae (bl bK) (ae (KM O (U _ hm) _) ?_);cases l:eS x.body[i] (x.nest.length:Int) with
    |false=>
     refine bX (ad.some (d ?_));rw[p];exact mZ.2 ⟨_,hm,by rw[l];simp⟩
    |true=>
     refine b8 ?_;show ad (bn (λe (iH:Int)=>bif ag (iH<(c.length:Int)) then _ else _) n 0) _;refine ad.loop (λy:Int=> ∃k:Nat,y=k/\k<=c.length/\ ∀(t:Nat) q,t<k->c[t]? =aa q->(hK a x.body[i] q&&kZ q)=ab) (λy=>c.length-y.toNat) ?_ n _ ⟨0,rfl,O,λt s h=>O⟩ bP;rintro e y ⟨k,rfl,hk,C⟩ b;refine aW (λE=>?_) λI=>?_
     ·have r:=bp (O:k<c.length);have F:=bx r;have G:=X _ F;have f:c[k].length<=1000:=by have:=G.1;have:=G.2.1;omega
      refine ae (bl r) (ae (L0 O M N l G) (ad.aD (λz=>z= !(hK a x.body[i] c[k]&&kZ c[k])) (λj m=>?_) λz W=>?_))
      ·cases H:hK a x.body[i] c[k] with
       |false=>
        rw[H] at m;exact bX (m _ rfl)
       |true=>
        rw[H] at m;exact b8 (ae (W' O f) (m _ rfl))
      subst W;cases H:(hK a x.body[i] c[k]&&kZ c[k]) with
      |false=>
       refine ad.some (d ?_);rw[p];refine mZ.2 ⟨_,hm,?_⟩;rw[l,gp];rw[mZ.2 ⟨_,F,by rw[H];simp⟩];simp
      |true=>
       show ad (e _) _;rw[bc O];refine b _ ⟨k+1,O,O,λt q R w=>?_⟩ O;by_cases g:t=k
       ·subst g;rw[r] at w;cases w;exact H
       exact C t q O w
     rw[bc O];refine b7 _ ⟨i+1,O,O,λt s R A=>?_⟩ O;by_cases u:t=i
     ·subst u;rw[bK] at A;cases A;rw[l,gp];refine gP.2 λq G=>?_;obtain⟨mU,K⟩:=ma G
      have:=(bR.1 K).1;exact C mU q O K
     exact D t s O A
   have L:d' a x=ab:=by
    rw[p];refine gP.2 λs hs=>?_;obtain⟨t,R⟩:=ma hs
    have:=(bR.1 R).1;exact D t s O R
   rw[<-v,L,aR rfl,B];show(wr ((c.length:Int)*(x.body.length:Int)),ab)=_;have nv:(0:Int)<=(c.length:Int)*(x.body.length:Int):=mV O O;have vN:(c.length:Int)*(x.body.length:Int)<=120*4:=q7 O O O O;rw[bc O]
  rw[bJ Q];refine ad.some (d ?_);unfold d' oX;rw[bJ Q];simp
def d5(x:Part):Int:=((dG x).length:Int)*(x.body.length:Int)
def ew(i:Nat)(x:Part):List bN:=(dG x).flatMap λq=>(List.range x.body.length).map fun(k:Nat)=>(⟨(i:Int),(k:Int),q⟩:bN)
def I(a:List Part):List bN:=a.zipIdx.flatMap λy=>ew y.2 y.1
def ky(p:Prog):Bool:=ku p.aP&&(ag (p.parts.length<=4)&&p.parts.all (d' p.aP))
def bM(p:Prog):Bool:=ky p&&ag ((p.parts.map d5).sum<=120)
theorem aiF(l:List Part)(x:Part):I (l++[x])=I l++ew l.length x:=by
 unfold I
 grind
theorem J8{l:List Part}(h:l[i]? =aa x):I (l.take (i+1))=I (l.take i)++ew i x:=by have hi:=(bR.1 h).1;rw[eN,h];show I (l.take i++[x])=_;rw[aiF,cZ,Nat.min_eq_left (Nat.le_of_lt hi)]
theorem BP{k R:Type}(f:k->List R)(m:Nat)(h: ∀x,(f x).length=m): ∀l:List k,(l.flatMap f).length=l.length*m
 | []=>aX
 |x::l=>by rw[nR,ea,h,BP f m h l,List.length_cons,eu];omega
theorem J5(i:Nat)(x:Part):((ew i x).length:Int)=d5 x:=by
 unfold ew d5;rw[BP _ x.body.length λq=>aX]
 grind
theorem O4{l:List Part}(h:l[i]? =aa x):((l.take (i+1)).map d5).sum=((l.take i).map d5).sum+d5 x:=by rw[eN,h];simp
theorem S1: ∀(l:List Part) (i:Nat),i<=l.length->((I (l.take i)).length:Int)=((l.take i).map d5).sum
 |l,0,_=>by simp[I]
 |l,i+1,h=>by
  have bK:=bp (O:i<l.length);rw[J8 bK,ea,O4 bK]
  have:=S1 l i O
  have:=J5 i l[i];omega
theorem y4(l:List Part):((I l).length:Int)=(l.map d5).sum:=by
 have:=S1 l l.length (cR _)
 grind
theorem xt(h:d' r x=ab):0<=d5 x/\d5 x<=480:=by
 obtain⟨a,c,_⟩:=gx h;obtain⟨_,d,_⟩:=oZ a;unfold d5;refine⟨mV O O,?_⟩
 have:=q7 (show((dG x).length:Int)<=120 by omega) (show(x.body.length:Int)<=4 by omega) O O;omega
theorem lp(g:7000<=n)(H:jz p):lS n p=aa (bM p):=by
 obtain⟨K,u,L⟩:=H;refine ad.eq ?_;unfold lS;generalize q:bM p=T;unfold bM ky at q;refine ad.aD (λz=>z= !(ku p.aP&&ag (p.parts.length<=4))) (λj C=>ae (WK O K) ?_) λz m=>?_
 ·cases e:ku p.aP with
  |false=>exact bX (C _ (by rw[e];rfl))
  |true=>
   refine b8 (C _ ?_);rw[e];by_cases F:p.parts.length<=4
   ·rw[bJ (show¬(4:Int)<(p.parts.length:Int) by omega),bI F];rfl
   rw[bI (show(4:Int)<(p.parts.length:Int) by omega),bJ F];rfl
 subst m;cases o:(ku p.aP&&ag (p.parts.length<=4)) with
 |false=>
  refine ad.some ?_;rw[<-q,<-mW,o];rfl
 |true=>
  have k:T=(p.parts.all (d' p.aP)&&ag ((p.parts.map d5).sum<=120)):=by rw[<-q,<-mW,o];rfl
  rw[nS,decide_eq_true_eq] at o;obtain⟨Q,R⟩:=IB o.1;refine b8 ?_;refine ad.loop (λx:Int×Int=> ∃i:Nat,x.2=i/\i<=p.parts.length/\x.1=((p.parts.take i).map d5).sum/\0<=x.1/\x.1<=480*i/\ ∀(t:Nat) y,t<i->p.parts[t]? =aa y->d' p.aP y=ab) (λx=>p.parts.length-x.2.toNat) ?_ n _ ⟨0,rfl,O,aX,aX,aX,λt y h=>O⟩ J;rintro a ⟨x,z⟩ ⟨i,m,v,G,r,s,e⟩ W;dsimp only at m G r s e⊢;subst m;refine aW (λX=>?_) λZ=>ad.some ?_
  ·have bK:=bp (O:i<p.parts.length);have hm:=bx bK;refine ae (bl bK) (ae (FK O Q R (L _ hm)) ?_);cases c:d' p.aP p.parts[i] with
   |false=>
    rw[aQ aX];refine ad.some ?_;rw[k,mZ.2 ⟨_,hm,by rw[c];simp⟩];rfl
   |true=>
    rw[aR rfl];have b:=xt c;show ad (a (wr (x+d5 p.parts[i]),wr ((i:Int)+1))) _;rw[bc (n:=x+d5 p.parts[i]) O,bc O];refine W _ ⟨i+1,J,O,by dsimp only;rw[O4 bK];omega,J,J,λt y w d=>?_⟩ J;by_cases A:t=i
    ·subst A;rw[bK] at d;cases d;exact c
    exact e t y O d
  have B:i=p.parts.length:=O
  have l:p.parts.all (d' p.aP)=ab:=gP.2 (λy f=>by
   obtain⟨t,w⟩:=ma f
   have:=(bR.1 w).1;exact e t y O w)
  rw[k,l,gp,G,B,dW]
theorem Lv{R:Type}(f:Nat->R)(k:Nat):(List.range (k+1)).map f=(List.range k).map f++[f k]:=by rw[pD,eM];rfl
theorem KR(cY:7000<=n)(hp:jz p):tn n p=aa (if ky p=ab then(I p.parts,ag ((I p.parts).length<=120)) else([],ak)):=by
 obtain⟨h1,h2,h3⟩:=hp;refine ad.eq ?_;unfold tn;generalize ly:(if ky p=ab then(I p.parts,ag ((I p.parts).length<=120)) else([],ak))=T;have a:ky p=ak->(([]:List bN),ak)=T:=λh=>by rw[<-ly,h];rfl
 refine ad.aD (λz=>z= !(ku p.aP&&ag (p.parts.length<=4))) (λj D=>ae (WY O h1) ?_) λz d=>?_
 ·cases E:ku p.aP with
  |false=>exact bX (D _ (by rw[E];rfl))
  |true=>
   refine b8 (D _ ?_);rw[E];by_cases h4:p.parts.length<=4
   ·rw[bJ (show¬(4:Int)<(p.parts.length:Int) by omega),bI h4];rfl
   rw[bI (show(4:Int)<(p.parts.length:Int) by omega),bJ h4];rfl
 subst d;cases bb:(ku p.aP&&ag (p.parts.length<=4)) with
 |false=>exact ad.some (a (by unfold ky;rw[<-mW,bb];rfl))
 |true=>
  have o:ky p=p.parts.all (d' p.aP):=by unfold ky;rw[<-mW,bb];rfl
  rw[nS,decide_eq_true_eq] at bb;obtain⟨cI,cC⟩:=IB bb.1;refine b8 ?_;refine ad.loop (λx:List bN×Int=> ∃i:Nat,x.2=i/\i<=p.parts.length/\x.1=I (p.parts.take i)/\x.1.length<=480*i/\ ∀(t:Nat) y,t<i->p.parts[t]? =aa y->d' p.aP y=ab) (λx=>p.parts.length-x.2.toNat) ?_ n _ ⟨0,rfl,O,by simp[I],aX,λt y h=>O⟩ J;rintro again ⟨x,z⟩ ⟨i,d,hi,hx,aia,E⟩ b7;dsimp only at d hx aia E⊢;subst d;refine aW (λhlt=>?_) λkp=>ad.some ?_
  ·have bK:=bp (O:i<p.parts.length);have hm:=bx bK;obtain⟨s1,s2,alB⟩:=h3 _ hm;generalize yK:p.parts[i]=P at*;have w:d' p.aP P=ak->ky p=ak:=λh=>by rw[o];exact mZ.2 ⟨_,hm,by rw[h];simp⟩
   refine ae (bl bK) (ae (Vy O s1) (ad.aD (λz=>z= !((kH P.nest).isSome&&oX P)) (λj D=>?_) λz d=>?_))
   ·cases B:kH P.nest with
    |none=>exact bX (D _ (by rw[B];rfl))
    |some c=>
     refine b8 ?_;have hw:fG n (P.body.length:Int) 1 4=aa (ag (1<=P.body.length/\P.body.length<=4)):=by
      rw[jC];congr 1;exact decide_eq_decide.2 O
     refine ae hw ?_;have bT:=Wk (n:=n) (f:=λug=>yH n ug P) (p:=λs=> !eS s (P.nest.length:Int)) (l:=P.body) (λs M=>by unfold yH;rw[VO O (alB s M)];rfl) O O;have e:(P.body.any λs=> !eS s (P.nest.length:Int))= !(P.body.all λs=>eS s (P.nest.length:Int)):=by rw[List.all_eq_not_any_not];simp
     cases N:ag (1<=P.body.length/\P.body.length<=4) with
     |false=>exact bX (D _ (by unfold oX;rw[B,N];rfl))
     |true=>exact b8 (ae bT (D _ (by unfold oX;rw[B,N,e];rfl)))
   subst d;cases B:kH P.nest with
   |none=>exact ad.some (a (w (by unfold d';rw[B];rfl)))
   |some c=>
    obtain⟨jh,akJ,ahL,ahM,ahN⟩:=oZ B;have S:dG P=c:=by unfold dG;rw[B];rfl
    cases H:oX P with
    |false=>exact ad.some (a (w (by unfold d';rw[H];simp)))
    |true=>
     have C:=H;simp only[oX,b9,decide_eq_true_eq,hS] at C;obtain⟨⟨nv,vN⟩,yN⟩:=C;have K:d' p.aP P=P.body.all (λs=>c.all λq=>hK p.aP s q&&kZ q):=by
      unfold d';rw[B,H,S];rfl
     let row:List Int->List bN:=λq=>(List.range P.body.length).map fun(k:Nat)=>(⟨(i:Int),(k:Int),q⟩:bN)
     have hrl: ∀q,(row q).length=P.body.length:=λq=>by simp[row]
     have r:ew i P=c.flatMap row:=by unfold ew;rw[S]
     refine b8 ?_;rw[show(te (aa c)).1=c from rfl];refine ad.loop (λy:List bN×Int=> ∃k:Nat,y.2=k/\k<=c.length/\y.1=x++(c.take k).flatMap row/\ ∀(t:Nat) q,t<k->c[t]? =aa q->kZ q=ab/\ ∀s∈P.body,hK p.aP s q=ab) (λy=>c.length-y.2.toNat) ?_ n _ ⟨0,rfl,O,aX,λt q h=>O⟩ J;rintro U ⟨y,z⟩ ⟨k,d,hk,L,R⟩ V;dsimp only at d L R⊢;subst d;refine aW (λhlt2=>?_) λaky=>?_
     ·have A:=bp (O:k<c.length);have W:=bx A;generalize Jv:c[k]=Q at*;have dI:=ahL _ W;have JO:Q.length<=4:=by have:=dI.1;have:=dI.2.1;omega
      refine ae (bl A) (ae (W5 O O) ?_);have aif:y.length<=480*4+480:=by
       rw[L,ea,BP row _ hrl,cZ]
       have:min k c.length*P.body.length<=120*4:=oL O vN;omega
      cases SI:kZ Q with
      |false=>
       refine bX (ad.some (a (w ?_)));rw[K];obtain⟨KC,ahV⟩: ∃KC,KC∈P.body:=List.exists_mem_of_length_pos O;refine mZ.2 ⟨KC,ahV,?_⟩;rw[mZ.2 ⟨Q,W,by rw[SI];simp⟩];simp
      |true=>
       refine b8 ?_;refine ad.loop (λu:List bN×Int=> ∃m:Nat,u.2=m/\m<=P.body.length/\u.1=y++(List.range m).map (fun(k:Nat)=>(⟨(i:Int),(k:Int),Q⟩:bN))/\ ∀(t:Nat) s,t<m->P.body[t]? =aa s->hK p.aP s Q=ab) (λu=>P.body.length-u.2.toNat) ?_ n _ ⟨0,rfl,O,aX,λt s h=>O⟩ J;rintro akc ⟨u,z⟩ ⟨m,d,qp,hu,X⟩ ahQ;dsimp only at d hu X⊢;subst d;refine aW (λakF=>?_) λakz=>?_
       ·have Z:=bp (O:m<P.body.length);have F:=bx Z;refine ae (bl Z) (ae (Yr O cI cC (yN _ F) dI) ?_);cases Sn:hK p.aP P.body[m] Q with
        |false=>
         refine bX (ad.some (a (w ?_)));rw[K];refine mZ.2 ⟨_,F,?_⟩;rw[mZ.2 ⟨Q,W,by rw[Sn];simp⟩];simp
        |true=>
         have hcl:ji Q=aa Q:=by unfold ji;rw[aR O]
         have vS:u.length<=480*4+480+4:=by rw[hu];simp;omega
         refine b8 (ae hcl (ae (c' bP) ?_));rw[bc O];refine ahQ _ ⟨m+1,J,O,?_,λt s G b=>?_⟩ J
         ·dsimp only;rw[hu,Lv,fN]
         by_cases ah2:t=m
         ·subst ah2;rw[Z] at b;cases b;exact Sn
         exact X t s O b
       have ahz:m=P.body.length:=O
       rw[bc O];refine V _ ⟨k+1,J,O,?_,λt q G g=>?_⟩ J
       ·dsimp only;rw[eN,A,mb,<-fN,<-L,hu,ahz];simp[row]
       by_cases ah1:t=k
       ·subst ah1;rw[A] at g;cases g;refine⟨SI,λs M=>?_⟩;obtain⟨mU,SP⟩:=ma M
        have:=(bR.1 SP).1;exact X mU s O SP
       exact R t q O g
     have Sv:k=c.length:=O
     have SG:d' p.aP P=ab:=by
      rw[K];refine gP.2 λs M=>gP.2 λq dI=>?_;obtain⟨t,G⟩:=ma dI
      have:=(bR.1 G).1;obtain⟨g1,g2⟩:=R t q O G;rw[g1,g2 s M];rfl
     have Du:=xt SG;have Dz:=J5 i P;rw[bc O];refine b7 _ ⟨i+1,J,O,?_,?_,λt y G v=>?_⟩ J
     ·dsimp only;rw[J8 bK,r,L,Sv,dW,hx]
     ·dsimp only;rw[L,Sv,dW,ea,<-r];omega
     by_cases ah0:t=i
     ·subst ah0;rw[bK] at v;cases v;exact SG
     exact E t y O v
  have ahf:i=p.parts.length:=O
  have hall:ky p=ab:=by
   rw[o];exact gP.2 (λy L=>by
    obtain⟨t,G⟩:=ma L
    have:=(bR.1 G).1;exact E t y O G)
  rw[<-ly,aR hall,hx,ahf,dW];congr 1;exact decide_eq_decide.2 O
theorem rD(a:7000<=n)(c:jz p):qb n p=aa (bM p):=by
 unfold qb;rw[KR a c];unfold bM;cases h:ky p with
 |false=>rfl
 |true=>
  rw[aR rfl];show aa (decide _)=_;rw[gp];congr 1
  have:=y4 p.parts;exact decide_eq_decide.2 O
theorem Un(c:7000<=n)(d:jz p):DN n p=aa (if bM p=ab then I p.parts else []):=by
 unfold DN;rw[KR c d];unfold bM;cases h:ky p with
 |false=>rfl
 |true=>
  rw[aR rfl,gp]
  have:=y4 p.parts;by_cases a:(I p.parts).length<=120
  ·rw[bI a,bI O,aR rfl];rfl
  rw[bJ a,bJ O,aQ aX];rfl
theorem dZ(h:bM p=ab):p.aP.length<=4/\ks p.aP/\p.parts.length<=4/\(∀x∈p.parts,d' p.aP x=ab)/\(I p.parts).length<=120:=by
 simp only[bM,ky,b9,decide_eq_true_eq,hS] at h;obtain⟨⟨c,d,e⟩,i⟩:=h;obtain⟨a,b⟩:=IB c
 have:=y4 p.parts
 grind
theorem we(cY:7000<=n)(U:bM p=ab):qc n p=aa (I p.parts):=by
 obtain⟨cI,cC,h4,F,V⟩:=dZ U;refine ad.eq ?_;unfold qc;refine ad.loop (λx:List bN×Int=> ∃i:Nat,x.2=i/\i<=p.parts.length/\x.1=I (p.parts.take i)/\x.1.length<=480*i) (λx=>p.parts.length-x.2.toNat) ?_ n _ ⟨0,rfl,O,by simp[I],aX⟩ J;rintro G ⟨x,z⟩ ⟨i,c,hi,H,K⟩ b7;dsimp only at c H K⊢;subst c;refine aW (λhlt=>?_) λkp=>ad.some ?_
 ·have bK:=bp (O:i<p.parts.length);have hm:=bx bK;have e:=F _ hm;generalize yK:p.parts[i]=P at*;obtain⟨oE,q2,uh,Tk⟩:=gx e;obtain⟨t,L,R,h,W⟩:=oZ oE;generalize X:dG P=v at*;have Du:=xt e;have D:=J5 i P;let row:List Int->List bN:=λq=>(List.range P.body.length).map fun(k:Nat)=>(⟨(i:Int),(k:Int),q⟩:bN)
  have Z: ∀q,(row q).length=P.body.length:=λq=>by simp[row]
  have a:ew i P=v.flatMap row:=by unfold ew;rw[X]
  refine ae (bl bK) (ch (FI t P.nest n 0 [] [] (by have:=t.1;omega) rfl O zE W aX) λr ⟨uo,wN⟩=>?_);have b:r=v:=by rw[uo (by rw[<-h];simpa using L),h];rfl
  subst b;refine ad.loop (λy:List bN×Int=> ∃k:Nat,y.2=k/\k<=r.length/\y.1=x++(r.take k).flatMap row) (λy=>r.length-y.2.toNat) ?_ n _ ⟨0,rfl,O,aX⟩ J;rintro l ⟨y,z⟩ ⟨k,c,hk,o⟩ s;dsimp only at c o⊢;subst c;refine aW (λE=>?_) λM=>?_
  ·have d:=bp (O:k<r.length);have f:=bx d;generalize Jv:r[k]=Q at*;have N:=R _ f;have JO:Q.length<=4:=by have:=N.1;have:=N.2.1;omega
   have aif:y.length<=480*4+480:=by
    rw[o,ea,BP row _ Z,cZ]
    have:min k r.length*P.body.length<=120*4:=oL O q2.2;omega
   refine ad.loop (λu:List bN×Int=> ∃m:Nat,u.2=m/\m<=P.body.length/\u.1=y++(List.range m).map (fun(k:Nat)=>(⟨(i:Int),(k:Int),Q⟩:bN))) (λu=>P.body.length-u.2.toNat) ?_ n _ ⟨0,rfl,O,aX⟩ J;rintro w ⟨u,z⟩ ⟨m,c,qp,C⟩ A;dsimp only at c C⊢;subst c;refine aW (λS=>?_) λT=>?_
   ·have vS:u.length<=480*4+480+4:=by rw[C];simp;omega
    refine ae (bl d) (ae (og _ O) (ae (c' bP) ?_));rw[bc O];refine A _ ⟨m+1,J,O,?_⟩ J;dsimp only;rw[C,Lv,fN]
   have g:m=P.body.length:=O
   rw[bc O];refine s _ ⟨k+1,J,O,?_⟩ J;dsimp only;rw[eN,d,mb,<-fN,<-o,C,g];simp[row]
  have B:k=r.length:=O
  rw[bc O];refine b7 _ ⟨i+1,J,O,?_,?_⟩ J
  ·dsimp only;rw[J8 bK,a,o,B,dW,H]
  dsimp only;rw[o,B,dW,ea,<-a];omega
 have j:i=p.parts.length:=O
 rw[H,j,dW]
theorem YP{l:List cn}{x:cn}(h:l[i]? =aa x):gK (l.take (i+1))=gK (l.take i)+ie x.b1:=by unfold gK;rw[List.take_add_one,h];simp
theorem MY(s:7000<=n)(w:p.aP.length<=4)(k:ks p.aP):A3 n p=aa (gK p.aP):=by
 refine ad.eq ?_;unfold A3;refine ad.loop (λx:Int×Int=> ∃i:Nat,x.2=i/\i<=p.aP.length/\x.1=gK (p.aP.take i)/\0<=x.1/\x.1<=36*i) (λx=>p.aP.length-x.2.toNat) ?_ n _ ⟨0,rfl,O,by simp[gK],aX,aX⟩ J;rintro c ⟨x,z⟩ ⟨i,h,y,l,d,e⟩ m;dsimp only at h l d e⊢;subst h;refine aW (λo=>?_) λq=>ad.some ?_
 ·have bK:=bp (O:i<p.aP.length);have a:=k _ (bx bK);have lV:=sY a;refine ae (bl bK) (ae (FJ O a) ?_);rw[bc (n:=x+ie p.aP[i].b1) O,bc O];exact m _ ⟨i+1,J,O,by dsimp only;rw[YP bK];omega,J,J⟩ J
 have r:i=p.aP.length:=O
 grind
theorem AH(a:7000<=n)(c:p.aP.length<=4)(d:ks p.aP):vX n p=aa (gK p.aP):=MY a c d
def p4(p:Prog)(m:List Int):Bool:=bM p&&(ag ((m.length:Int)=gK p.aP)&&m.all λx=>decide (0<=x/\x<=999))
theorem Vf(i:7000<=n)(k:jz p)(w:m.length<=1000):El n p m=aa (p4 p m):=by
 refine ad.eq ?_;unfold El;generalize a:p4 p m=T;unfold p4 at a;refine ad.aD (λz=>z=T) (λj d=>ae (rD i k) ?_) λz o=>ad.some o;cases c:bM p with
 |false=>exact b8 (d _ (by rw[<-a,c];rfl))
 |true=>
  obtain⟨q,r,_⟩:=dZ c;have bT:=zA (n:=n) (f:=λs=>ze n s) (p:=λx=> !decide (0<=x/\x<=999)) (l:=m) (λx _=>by unfold ze;rw[jC];rfl) O O;have e:(m.any λx=> !decide (0<=x/\x<=999))= !(m.all λx=>decide (0<=x/\x<=999)):=by rw[List.all_eq_not_any_not];simp
  refine bX (ae (AH i q r) (aW (λh=>ae bT (d _ ?_)) λh=>d _ ?_))
  ·rw[<-a,c,bI h,e];simp
  rw[<-a,c,bJ h];rfl
theorem G8(x:Int):Int.tmod x 1000=if 0<=x then x%1000 else-((-x)%1000):=by grind
theorem E3(n:Nat)(x:Int):uM n x=aa (x%1000):=by
 unfold uM;rw[G8 x];congr 1;split
 ·rw[bc (n:=x%1000+999) O,bc O,G8,aR O];omega
 rw[bc (n:= -(-x%1000)+999) O,bc O,G8,aR O];omega
def er:Nat->List cn->List Int->Expr->List Int->Int
 |0,_,_,_,_=>0
 |L+1,c,m,e,q=>
  if e.kind=1 then e.num
  else if e.kind=2 then cT e.index q%1000
  else if e.kind=3 then m.getD (dS c e.read q 0).toNat 0
  else match e.bj with
   | [a,b]=>if e.kind=4 then(er L c m a q+er L c m b q)%1000 else if e.kind=5 then(er L c m a q-er L c m b q)%1000 else(er L c m a q*er L c m b q)%1000
   |_=>0
def fD(a:List cn)(m:List Int):Prop:=(m.length:Int)=gK a/\ ∀x∈m,0<=x/\x<=999
theorem aeW(h:fD r m)(i:Nat):0<=m.getD i 0/\m.getD i 0<=999:=by
 rw[eP];cases a:m[i]? with
 |none=>simp
 |some x=>exact h.2 x (bx a)
theorem vc(c:fD r m): ∀{L:Nat} {e:Expr},dp L e d=ab->0<=er L r m e q/\er L r m e q<=999
 |0,e,h=>by cases h
 |L+1,e,h=>by
  obtain⟨i,a,k⟩:=gi h;simp only[er];split
  ·rename_i eL;unfold eX at a;rw[aQ O,aQ O,aR eL] at a;simp only[b9,decide_eq_true_eq] at a;omega
  split
  ·omega
  split
  ·exact aeW c _
  split
  ·split
   ·omega
   split<;>omega
  omega
theorem aby{a:Int}(c:0<=a/\a<=999)(d:0<=b/\b<=999):0<=a*b/\a*b<=999000:=by
 constructor
 ·exact mV c.1 d.1
 have:=q7 c.2 d.2 O O;omega
theorem acn(h:dp (L+1) e d=ab)(k: ¬e.kind=1)(l: ¬e.kind=2)(m: ¬e.kind=3):(e.kind=4\/e.kind=5\/e.kind=6)/\ ∃a b,e.bj=[a,b]:=by
 obtain⟨c,_,_⟩:=gi h;unfold fJ at c;rw[aQ O] at c;split at c
 ·rename_i i;refine⟨i,?_⟩
  have:e.bj.length=2:=O
  match n:e.bj,this with
  | [a,b],_=>exact⟨a,b,rfl⟩
 omega
theorem Gc{p:Prog}(z:p.aP.length<=4)(s:ks p.aP){m:List Int}(l:fD p.aP m){d:Int}{k:Nat}{q:List Int}(w:iF k q): ∀(L n:Nat) (e:Expr),7000+L<=n->dp L e d=ab->(∀a∈dv L e,0<=dS p.aP a q 0)->
  rR (n+1) p m e q=aa (er L p.aP m e q)
 |0,n,e,_,h,_=>by cases h
 |L+1,n,e,W,h,A=>by
  obtain⟨X,y,K⟩:=gi h;unfold rR;refine ad.eq ?_;simp only[er];refine aW (λeL=>ad.some (by rw[aR eL])) λeL=>?_;rw[aQ eL];refine aW (λcF=>?_) λcF=>?_
  ·rw[aR cF];unfold eX at y;rw[aR cF] at y;simp only[b9,fz] at y;have B:=y.2.2.1;exact ae (vw O B w) (ae (E3 _ _) (ad.some rfl))
  rw[aQ cF];refine aW (λey=>?_) λey=>?_
  ·rw[aR ey];have i:e.read∈dv (L+1) e:=by simp[dv,ey]
   have B:=Bb h _ i;have C:=A _ i;rcases Cj s e.read q 0 (gq 0) with bT|bT
   ·omega
   have F:(dS p.aP e.read q 0).toNat<m.length:=by have:=l.1;omega
   have bK:=bp F;have G:ax m (dS p.aP e.read q 0)=aa m[(dS p.aP e.read q 0).toNat]:=by
    unfold ax;rw[aR C,bK]
   refine ae (wY O z s B w) (ae G (ad.some ?_));rw[eP,bK];rfl
  rw[aQ ey];obtain⟨Z,a,b,c⟩:=acn h eL cF ey;obtain⟨n,rfl⟩: ∃j,n=j+1:=⟨n-1,O⟩
  have o:=K a (by rw[c];simp);have r:=K b (by rw[c];simp);have Q:=Gc z s l w L n a O o λx H=>A x (by simp only[dv,List.mem_append,List.mem_flatMap];exact .inr ⟨a,by rw[c];simp,H⟩);have hR:=Gc z s l w L n b O r λx H=>A x (by simp only[dv,List.mem_append,List.mem_flatMap];exact .inr ⟨b,by rw[c];simp,H⟩);have Dl:=vc l (q:=q) o;have R:=vc l (q:=q) r;have f:=aby Dl R;rw[c];refine ae (x:=a) rfl (ae Q (ae (x:=b) rfl (ae hR ?_)));dsimp only;refine aW (λy'=>?_) λy'=>?_
  ·rw[aR y',bc O];exact ae (E3 _ _) (ad.some rfl)
  rw[aQ y'];refine aW (λza=>?_) λza=>?_
  ·rw[aR za,bc O];exact ae (E3 _ _) (ad.some rfl)
  rw[aQ za,bc O];exact ae (E3 _ _) (ad.some rfl)
def da(p:Prog)(x:bN):Prop:= ∃(i k:Nat) (P:Part) (s:Stmt),x.part=i/\x.stmt=k/\p.parts[i]? =aa P/\P.body[k]? =aa s/\x.bU∈dG P
def ep(p:Prog)(x:bN):Option Stmt:=(p.parts[x.part.toNat]?).bind λP=>P.body[x.stmt.toNat]?
def eI(p:Prog)(m:List Int)(x:bN):List Int:=match ep p x with
 |some s=>m.set (dS p.aP s.write x.bU 0).toNat (er 5 p.aP m s.value x.bU)
 |none=>m
theorem ov(o:bM p=ab){x:bN}(q:da p x): ∃(i k:Nat) (P:Part) (s:Stmt) (d:Int),x.part=i/\x.stmt=k/\p.parts[i]? =aa P/\P.body[k]? =aa s/\ep p x=aa s/\eS s d=ab/\iF P.nest.length x.bU/\hK p.aP s x.bU=ab:=by obtain⟨F,G,H,a,r⟩:=dZ o;obtain⟨i,k,P,s,l,m,c,e,n⟩:=q;obtain⟨w,K,y,z⟩:=gx (a P (bx c));obtain⟨L,A,h,B,C⟩:=oZ w;have hs:=bx e;exact⟨i,k,P,s,_,l,m,c,e,by unfold ep;rw[l,m,cf,c];exact(by rw[cf];exact e),y s hs,h _ n,(z s hs _ n).1⟩
theorem Ci(h:hK r s q=ab):0<=dS r s.write q 0/\ ∀a∈dv 5 s.value,0<=dS r a q 0:=by simp only[hK,b9,decide_eq_true_eq,hS] at h;exact h
theorem abx(c:ks p.aP)(d:fD p.aP m)(h:0<=dS p.aP a q 0):(dS p.aP a q 0).toNat<m.length:=by
 rcases Cj c a q 0 (gq 0) with bT|bT
 ·omega
 have:=d.1;omega
theorem xA{k:Type}{l:List k}(a:0<=c)(h:c.toNat<l.length)(x:k):ca l c x=aa (l.set c.toNat x):=by unfold ca;rw[aR ⟨a,O⟩]
theorem s4{k:Type}{l:List k}(a:0<=c)(h:c.toNat<l.length):ax l c=aa l[c.toNat]:=by unfold ax;rw[aR a,List.getElem?_eq_getElem h]
theorem sJ(e:bM p=ab)(a:fD p.aP m){x:bN}(l:da p x):fD p.aP (eI p m x):=by
 obtain⟨i,k,P,s,d,q,r,w,y,n,o,z,A⟩:=ov e l;unfold eI;rw[n];refine⟨by rw[e6];exact a.1,λv c=>?_⟩;rcases uI c with h|h
 ·exact a.2 v h
 rw[h];exact vc a (gj o).2.1
theorem aev(W:7100<=n)(l:bM p=ab)(o:fD p.aP m){x:bN}(w:da p x):EK n p m x=aa (eI p m x):=by
 obtain⟨q,c,X,y,z⟩:=dZ l;obtain⟨i,k,P,s,d,A,B,C,F,G,H,r,K⟩:=ov l w;obtain⟨e,L⟩:=Ci K;obtain⟨Q,R,Z,b⟩:=gj H;obtain⟨n,rfl⟩: ∃j,n=j+1:=⟨n-1,O⟩
 have a:=abx c o e;have h:tN (n+1) p x=aa s:=by
  unfold tN;rw[A,B,bl C];show bO (ax P.body (k:Int)) _=_;rw[bl F];rfl
 refine ad.eq ?_;unfold EK;refine ae h (ae (wY O q c Q r) (ae (Gc q c o r 5 n s.value O R L) (ae (s4 e a) (ae (xA e a _) (ad.some ?_)))));unfold eI;rw[G]
theorem fc{l:List Part}{x:bN}(h:x∈I l): ∃(i k:Nat) (P:Part) (s:Stmt),x.part=i/\x.stmt=k/\l[i]? =aa P/\P.body[k]? =aa s/\x.bU∈dG P:=by unfold I at h;rw[ho] at h;obtain⟨⟨P,i⟩,d,a⟩:=h;unfold ew at a;rw[ho] at a;obtain⟨q,e,c⟩:=a;rw[eA] at c;obtain⟨k,m,rfl⟩:=c;have n:=w7.1 m;exact⟨i,k,P,P.body[k],rfl,rfl,w5.1 d,bp n,e⟩
def c4(p:Prog)(m:List Int)(l:List bN):List Int:=l.foldl (eI p) m
theorem sa{p:Prog}(a:bM p=ab): ∀{l:List bN} {m:List Int},(∀x∈l,da p x)->fD p.aP m->fD p.aP (c4 p m l)
 | [],_,_,h=>h
 |x::l,m,c,h=>sa a (l:=l) (λy d=>c y (by simp[d])) (sJ a h (c x aX))
theorem Ff(p:Prog)(m:List Int)(l:List bN)(x:bN):c4 p m (l++[x])=eI p (c4 p m l) x:=by unfold c4;rw[List.foldl_append];rfl
theorem afG(h:p4 p m=ab):bM p=ab/\fD p.aP m:=by simp only[p4,b9,decide_eq_true_eq,hS] at h;exact⟨h.1,h.2.1,h.2.2⟩
theorem abp(X:7100<=n)(s:bM p=ab)(C:fD p.aP m){l:List bN}(Z:l.length<=5000)(w: ∀x∈l,da p x){f:List Int->bN->Option (List Int)}(F: ∀m x,fD p.aP m->da p x->f m x=aa (eI p m x)):
  bn (λa ((k,o):(List Int)×Int)=>bif ag (o<(l.length:Int)) then(bO (ax l o) λG=>bO (f k G) λA=>bO (jg k A) λH=>a (A,wr (o+1))) else(aa (k,ab))) n (m,0)=aa (c4 p m l,ab):=by
 refine ad.eq ?_;refine ad.loop (λx:List Int×Int=> ∃i:Nat,x.2=i/\i<=l.length/\x.1=c4 p m (l.take i)) (λx=>l.length-x.2.toNat) ?_ n _ ⟨0,rfl,O,rfl⟩ J;rintro q ⟨x,z⟩ ⟨i,B,b,c⟩ K;dsimp only at B c⊢;subst B;have d:fD p.aP x:=by rw[c];exact sa s (λy L=>w y (gO L)) C
 refine aW (λQ=>?_) λR=>ad.some ?_
 ·have bK:=bp (O:i<l.length);have e:=w _ (bx bK);have h:=sJ s d e;have r:jg x (eI p x l[i])=aa ():=by
   unfold jg;rw[aR]
   have:=d.1;have:=h.1;omega
  refine ae (bl bK) (ae (F x _ d e) (ae r ?_));rw[bc O];refine K _ ⟨i+1,J,O,?_⟩ J;dsimp only;rw[eN,bK];show _=c4 p m (l.take i++[l[i]]);rw[Ff,<-c]
 have W:i=l.length:=O
 grind
def C'(p:Prog)(m:List Int):List Int×Bool:=if p4 p m=ab then(c4 p m (I p.parts),ab) else([],ak)
theorem Lo(e:7100<=n)(h:jz p)(c:m.length<=1000):tU n p m=aa (C' p m):=by
 refine ad.eq ?_;unfold tU;refine ae (Vf O h c) ?_;unfold C';cases i:p4 p m with
 |false=>exact ad.some rfl
 |true=>
  obtain⟨a,k⟩:=afG i;have l:=(dZ a).2.2.2.2;have o:ji m=aa m:=by unfold ji;rw[aR O]
  refine b8 (ae o (ae (Un O h) ?_));rw[aR a,aR rfl];exact ad.of (abp e a k O (λx d=>fc d) λm x c d=>aev e a c d) rfl
end
def dD(B:Nat)(a:az):Prop:=a.aT.length<=B
def fp(B:Nat)(l:List az):Prop:=l.length<=B/\ ∀a∈l,dD B a
def k9(B:Nat)(a:List Loop):Prop:=a.length<=B/\ ∀l∈a,fp B l.lo/\fp B l.hi
def jc(B:Nat):Nat->Expr->Prop
 |0,_=>False
 |L+1,e=>e.bj.length<=B/\dD B e.index/\fp B e.read.bz/\ ∀k∈e.bj,jc B L k
def jx(B:Nat)(s:Stmt):Prop:=fp B s.write.bz/\jc B 5 s.value
def gf(B:Nat)(x:Part):Prop:=k9 B x.nest/\x.body.length<=B/\ ∀s∈x.body,jx B s
def sG(B:Nat)(l:List cn):Prop:=l.length<=B/\ ∀x∈l,x.b1.length<=B
def dn(B:Nat)(p:Prog):Prop:=sG B p.aP/\p.parts.length<=B/\ ∀x∈p.parts,gf B x
variable {B C n:Nat}{a b:az}{s:Stmt}{p:Prog}{k d:Int}{r:cJ}{R:Type}{Q:R->Prop}
theorem dD.mono(h:B<=C)(c:dD B a):dD C a:=iE c h
theorem fp.mono(h:B<=C){l:List az}(c:fp B l):fp C l:=⟨iE c.1 h,λa d=>(c.2 a d).mono h⟩
theorem k9.mono(h:B<=C){l:List Loop}(c:k9 B l):k9 C l:=⟨iE c.1 h,λa d=>⟨(c.2 a d).1.mono h,(c.2 a d).2.mono h⟩⟩
theorem jc.mono{B C:Nat}(h:B<=C): ∀{L M:Nat} {e:Expr},L<=M->jc B L e->jc C M e
 |0,_,_,_,a=>a.elim
 |L+1,0,_,c,_=>O
 |L+1,M+1,e,c,a=>⟨iE a.1 h,a.2.1.mono h,a.2.2.1.mono h,λk d=>jc.mono h O (a.2.2.2 k d)⟩
theorem jx.mono(h:B<=C)(a:jx B s):jx C s:=⟨a.1.mono h,a.2.mono h (cR _)⟩
theorem gf.mono(h:B<=C){s:Part}(a:gf B s):gf C s:=⟨a.1.mono h,iE a.2.1 h,λs c=>(a.2.2 s c).mono h⟩
theorem sG.mono(h:B<=C){s:List cn}(a:sG B s):sG C s:=⟨iE a.1 h,λs c=>iE (a.2 s c) h⟩
theorem dn.mono(h:B<=C)(a:dn B p):dn C p:=⟨a.1.mono h,iE a.2.1 h,λs c=>(a.2.2 s c).mono h⟩
theorem fp.sm{l:List az}(h:fp 1000 l):ll l:=⟨h.1,h.2⟩
theorem jc.sm: ∀{L:Nat} (j:Nat) {e:Expr},jc 1000 L e->xV j e
 |_,0,_,_=>trivial
 |0,_+1,_,h=>h.elim
 |L+1,j+1,e,h=>⟨h.1,h.2.1,h.2.2.1.sm,λk a=>jc.sm j (h.2.2.2 k a)⟩
theorem jx.sm(h:jx 1000 s):Bn s:=⟨h.1.sm,h.2.sm 5⟩
theorem k9.sm{l:List Loop}(h:k9 1000 l):rm l:=⟨h.1,λx a=>⟨(h.2 x a).1.sm,(h.2 x a).2.sm⟩⟩
theorem gf.sm{x:Part}(h:gf 1000 x):CV x:=⟨h.1.sm,h.2.1,λs a=>(h.2.2 s a).sm⟩
theorem dn.sm(h:dn 1000 p):jz p:=⟨⟨h.1.1,h.1.2⟩,h.2.1,λx a=>(h.2.2 x a).sm⟩
theorem j3(n:Nat){m:Int}(a:c6 k r)(c:k<=1000000000):ad (hD n r m) (λx=>0<=x.1/\(1<=m->x.1<m)/\c6 (k+1) x.2):=P8 a c
theorem hM(n:Nat){l:List Int}(a:c6 k r)(c:k<=1000000000)(d:l≠[]):ad (gg n r l) (λx=>x.1∈l/\c6 (k+1) x.2):=afm a c d
theorem De(n:Nat){l:List (List UInt8)}(c:c6 k r)(d:k<=1000000000)(e:l≠[]):ad (qB n r l) (λx=>x.1∈l/\c6 (k+1) x.2):=by
 unfold qB;have p:1<=l.length:=by cases l;exact bB rfl e;simp
 refine ch (j3 n c d) λx ⟨h,i,m⟩=>?_;obtain⟨y,o,a⟩:=gT h (i O);exact ae o (ad.some ⟨bx a,m⟩)
def nh(a:az):Prop:=a.aT.length=4
theorem iq(n:Nat)(c:Int):hc n c=aa ⟨[0,0,0,0],c⟩:=rfl
theorem x9(n:Nat){v:Int}(h:0<=v/\v<=3):ad (mN n v) nh:=by
 unfold mN;refine ae (x:=⟨[0,0,0,0],0⟩) rfl ?_;obtain⟨y,a,_⟩:=gT (l:=[(0:Int),0,0,0]) (i:=v) h.1 bP;refine ae a ?_;have c:ca [(0:Int),0,0,0] v 1=aa ([(0:Int),0,0,0].set v.toNat 1):=by unfold ca;rw[aR ⟨h.1,bP⟩]
 exact ae c (ad.some (by unfold nh;rw[e6];rfl))
theorem Nu(p:5000<=n)(e:nh a)(h:nh b)(x y:Int):ad (jf n a x b y) nh:=by unfold nh at e h;unfold jf;refine ad.loop (λz:List Int×Int=> ∃i:Nat,z.2=i/\i<=4/\z.1.length=i) (λz=>4-z.2.toNat) ?_ n _ ⟨0,rfl,O,rfl⟩ J;rintro c ⟨z,w⟩ ⟨i,d,q,k⟩ l;dsimp only at d k⊢;subst d;refine aW (λm=>?_) λo=>ad.some (by unfold nh;dsimp only;omega);refine ae (bl (bp (O:i<a.aT.length))) (ae (bl (bp (O:i<b.aT.length))) (ae (c' bP) ?_));rw[bc (n:=(i:Int)+1) O];exact l _ ⟨i+1,J,O,by dsimp only;simp;omega⟩ J
theorem nh.Dl(h:nh a):dD 10 a:=by unfold nh at h;unfold dD;omega
theorem p7(h:dD 10 a):fp 10 [a]:=⟨aX,λx c=>by simp at c;subst c;exact h⟩
theorem LX(h:dD 10 a)(k:dD 10 b):fp 10 [a,b]:=⟨aX,λx c=>by simp at c;rcases c with rfl|rfl;exact h;exact k⟩
theorem aeo(W:5000<=n)(X:c6 k r)(U:0<=k/\k<=100000000)(V:0<=d/\d<=3):ad (BU n r d) (λx=>(fp 10 x.1.lo/\fp 10 x.1.hi)/\c6 (k+10) x.2):=by
 unfold BU;refine ch (hM n X O aX) λhr ⟨_,Z⟩=>ae (iq _ _) (ch (hM n Z O aX) λij ⟨_,L⟩=>ae (iq _ _) ?_);refine ad.aD (λz:List UInt8×Int×List Int×Int×List Int×Int=>c6 (k+5) ⟨z.1,z.2.1⟩/\z.2.2.1.length=4/\z.2.2.2.2.1.length=4) (λj i=>?_) λz l=>?_
 ·refine ad.aD (λz:List UInt8×Int×Bool=>c6 (k+3) ⟨z.1,z.2.1⟩/\(z.2.2=ab->0<d)) (λrY p=>aW (λh=>?_) λh=>p _ ⟨L.mono O,λh=>by cases h⟩) λz l=>?_
  ·exact ch (j3 n L O) λg' ⟨_,_,b⟩=>p _ ⟨b.mono O,λ_=>h⟩
  obtain⟨f,g,w⟩:=z;obtain⟨a,e⟩:=l;dsimp only at a e⊢;cases w with
  |false=>exact i _ ⟨a.mono O,rfl,rfl⟩
  |true=>
   have t:=e rfl;refine ch (j3 n a O) λq ⟨u,v,y⟩=>ch (j3 n y O) λD ⟨_,_,s⟩=>?_;have Q:0<=q.1/\q.1<=3:=⟨u,by have:=v O;omega⟩
   refine aW (λ_=>ch (x9 n Q) λE A=>i _ ⟨s.mono O,A,rfl⟩) λ_=>ch (x9 n Q) λI B=>ae (iq _ _) (ch (Nu W B (show nh ⟨[0,0,0,0],1⟩ from rfl) 1 1) λM C=>i _ ⟨s.mono O,rfl,C⟩)
 obtain⟨f,g,w,N,P,S⟩:=z;obtain⟨a,e,F⟩:=l;dsimp only at a e F⊢;have G:dD 10 ⟨w,N⟩:=by unfold dD;dsimp only;omega
 have H:dD 10 ⟨P,S⟩:=by unfold dD;dsimp only;omega
 have R: ∀c:Int,dD 10 ⟨[0,0,0,0],c⟩:=λc=>by unfold dD;simp
 refine ad.aD (λz:List UInt8×Int×List az×List az=>c6 (k+10) ⟨z.1,z.2.1⟩/\fp 10 z.2.2.1/\fp 10 z.2.2.2) (λj i=>?_) λz l=>ad.some ⟨⟨l.2.1,l.2.2⟩,l.1⟩;refine ch (j3 n a O) λT ⟨_,_,m⟩=>aW (λ_=>?_) λ_=>aW (λ_=>?_) λ_=>i _ ⟨m.mono O,p7 G,p7 H⟩
 ·exact ch (hM n m O aX) λK ⟨_,o⟩=>ae (iq _ _) (ae (c' aX) (i _ ⟨o.mono O,p7 G,LX H (R _)⟩))
 exact ch (hM n m O aX) λK ⟨_,o⟩=>ae (iq _ _) (ae (c' aX) (i _ ⟨o.mono O,LX G (R _),p7 H⟩))
theorem aeg(p:5000<=n)(s:c6 k r)(H:0<=k/\k<=90000000):ad (BT n r) (λx=>(x.1.length<=3/\k9 10 x.1)/\c6 (k+40) x.2):=by
 unfold BT;refine ch (hM n s O aX) λa ⟨w,y⟩=>?_;have K:1<=a.1/\a.1<=3:=by simp at w;omega
 refine ad.loop (λz:List UInt8×Int×List Loop×Int=>0<=z.2.2.2/\(z.2.2.1.length:Int)+z.2.2.2=a.1/\c6 (k+1+10*z.2.2.1.length) ⟨z.1,z.2.1⟩/\ ∀l∈z.2.2.1,fp 10 l.lo/\fp 10 l.hi) (λz=>z.2.2.2.toNat) ?_ n _ ⟨J,aX,by simpa using y,λl h=>by simp at h⟩ J;rintro e ⟨b,q,ls,c⟩ ⟨A,B,i,o⟩ m;dsimp only at A B i o⊢;refine aW (λC=>?_) λF=>ad.some ⟨⟨J,J,o⟩,i.mono O⟩;refine ch (aeo p i O (d:=(ls.length:Int)) O) λL ⟨Q,G⟩=>ae (c' bP) ?_;rw[bc O];refine m _ ⟨J,by dsimp only;simp;omega,G.mono bP,λl R=>?_⟩ J
 grind
theorem Qs(W:5000<=n)(X:c6 k r)(hk:0<=k/\k<=90000000)(cC:0<=d/\d<=3):ad (xl n r d) (λx=>fp 10 x.1.bz/\c6 (k+20) x.2):=by
 unfold xl;refine ch (De n X O aX) λhr ⟨m1,Z⟩=>?_;refine ad.aD (λz:Int=>1<=z/\z<=2) (λj m=>aW (λ_=>m _ O) λ_=>m _ O) λw hw=>?_;refine ad.loop (λz:List UInt8×Int×List az×Int=>0<=z.2.2.2/\z.2.2.2<=w/\(z.2.2.1.length:Int)=z.2.2.2/\c6 (k+1+8*z.2.2.2) ⟨z.1,z.2.1⟩/\ ∀a∈z.2.2.1,dD 10 a) (λz=>(w-z.2.2.2).toNat) ?_ n _ ⟨J,J,aX,by simpa using Z,λl h=>by simp at h⟩ J;rintro s ⟨b,q,ls,c⟩ ⟨f,g,t,y,A⟩ B;dsimp only at f g t y A⊢;refine aW (λu=>?_) λv=>ad.some ⟨⟨J,A⟩,y.mono O⟩;refine ch (hM n y O aX) λD ⟨_,o⟩=>ae (iq _ _) ?_;refine ad.aD (λz:List UInt8×Int×List Int×Int=>c6 (k+1+8*c+8) ⟨z.1,z.2.1⟩/\z.2.2.1.length=4) (λj m=>?_) λz C=>?_
 ·refine ad.aD (λz:List UInt8×Int×Bool=>c6 (k+1+8*c+2) ⟨z.1,z.2.1⟩/\(z.2.2=ab->0<d)) (λrY p=>aW (λh=>?_) λh=>p _ ⟨o.mono O,λh=>by cases h⟩) λz C=>?_
  ·exact ch (j3 n o O) λg' ⟨_,_,E⟩=>p _ ⟨E.mono O,λ_=>h⟩
  obtain⟨I,M,R⟩:=z;obtain⟨e,i⟩:=C;dsimp only at e i⊢;cases R with
  |false=>exact m _ ⟨e.mono O,rfl⟩
  |true=>
   have N:=i rfl;refine ch (j3 n e O) λP ⟨S,T,F⟩=>ch (x9 n ⟨S,by have:=T O;omega⟩) λU G=>?_;refine ch (hM n F O aX) λV ⟨_,H⟩=>ch (hM n H O aX) λK ⟨_,L⟩=>ae (iq _ _) ?_;exact ch (Nu W G (show nh ⟨[0,0,0,0],K.1⟩ from rfl) _ _) λnW Q=>m _ ⟨L.mono O,Q⟩
 obtain⟨I,M,R,z4⟩:=z;obtain⟨e,i⟩:=C;dsimp only at e i⊢;refine ae (c' bP) ?_;rw[bc O];refine B _ ⟨J,J,by dsimp only;simp;omega,e.mono J,λa gI=>?_⟩ J;rcases eC.1 gI with h|h
 ·exact A a h
 simp at h;subst h;unfold dD;dsimp only;omega
theorem ad0(K:5000<=n)(s:c6 k r)(L:0<=k/\k<=90000000)(Q:0<=d/\d<=3):ad (xJ n r d) (λx=>dD 10 x.1/\c6 (k+10) x.2):=by
 unfold xJ;refine ch (hM n s O aX) λR ⟨W,w⟩=>ae (iq _ _) ?_;refine ad.loop (λz:List UInt8×Int×List Int×Int=>0<=z.2.2.2/\z.2.2.2<=d/\z.2.2.1.length=4/\c6 (k+1+z.2.2.2) ⟨z.1,z.2.1⟩) (λz=>(d-z.2.2.2).toNat) ?_ n _ ⟨J,J,aX,by simpa using w⟩ J;rintro a ⟨b,q,ls,c⟩ ⟨e,A,o,h⟩ m;dsimp only at e A o h⊢;refine aW (λB=>?_) λC=>ad.some ⟨by unfold dD;dsimp only;omega,h.mono O⟩;refine ch (hM n h O aX) λp ⟨_,F⟩=>?_;obtain⟨y,G,_⟩:=gT (l:=ls) (i:=c) e O;have H:ca ls c p.1=aa (ls.set c.toNat p.1):=by unfold ca;rw[aR ⟨e,O⟩]
 refine ae G (ae H ?_);rw[bc O];exact m _ ⟨J,J,by dsimp only;rw[e6];exact o,F.mono J⟩ J
def mg:Nat->Int
 |0=>30
 |L+1=>30+2*mg L
theorem Ot: ∀L,30<=mg L
 |0=>gq _
 |L+1=>by have:=Ot L;simp only[mg];omega
theorem Pm{L:Nat}(h:L<=2):mg L<=210:=by
 have a:L=0\/L=1\/L=2:=O
 rcases a with rfl|rfl|rfl<;>decide
theorem vy:dD 10 ⟨[],0⟩:=by unfold dD;simp
theorem vu:fp 10 []:=⟨aX,λx a=>by simp at a⟩
theorem abD(t:0<=d/\d<=3): ∀(L n:Nat) (k:Int) (r:cJ),5000+L<=n->L<=2->c6 k r->0<=k->k<=80000000+10000*(2-(L:Int))->ad (sn (n+1) r d ((L:Int)+1)) (λx=>jc 10 (L+1) x.1/\c6 (k+mg L) x.2):=by
 have a: ∀(L n:Nat) (k:Int) (r:cJ),5000<=n->c6 k r->0<=k->k<=80100000->
   ad (bO (hD n r 4) λi=>bif ag (i.1=0) then(bO (gg n i.2 [1,2,0,99,3]) λo=>aa ((⟨1,o.1,(⟨[],0⟩:az),(⟨[],[]⟩:b0),[]⟩:Expr),o.2)) else(bif ag (i.1=1) then(bO (xJ n i.2 d) λu=>aa ((⟨2,0,u.1,(⟨[],[]⟩:b0),[]⟩:Expr),u.2)) else(bO (xl n i.2 d) λv=>aa ((⟨3,0,(⟨[],0⟩:az),v.1,[]⟩:Expr),v.2)))) (λx=>jc 10 (L+1) x.1/\c6 (k+25) x.2):=by
  intro L n k r B m F D;refine ch (j3 n m O) λi ⟨_,_,G⟩=>aW (λ_=>?_) λ_=>aW (λ_=>?_) λ_=>?_
  ·exact ch (hM n G O aX) λo ⟨_,p⟩=>ad.some ⟨⟨aX,vy,vu,λk h=>by simp at h⟩,p.mono O⟩
  ·exact ch (ad0 B G O t) λo ⟨H,p⟩=>ad.some ⟨⟨aX,H,vu,λk h=>by simp at h⟩,p.mono O⟩
  exact ch (Qs B G O t) λo ⟨H,p⟩=>ad.some ⟨⟨aX,vy,H,λk h=>by simp at h⟩,p.mono O⟩
 intro L;induction L with
 |zero=>
  intro n k r B I m F D;unfold sn;refine ad.aD (λz:List UInt8×Int×Bool=>c6 k ⟨z.1,z.2.1⟩/\z.2.2=ab) (λj C=>aW (λ_=>C _ ⟨m,rfl⟩) λh=>bB (show((0:Nat):Int)+1<2 by omega) h) λz s=>?_;obtain⟨M,N,E⟩:=z;obtain⟨w,y⟩:=s;dsimp only at w y⊢;subst y;exact(a 0 n k _ O w F O).mono (λx A=>⟨A.1,A.2.mono (by simp only[mg];omega)⟩)
 |succ L P=>
  intro n k r B I m F D;have S:=Ot L;have T:mg L<=210:=Pm O;unfold sn;refine ad.aD (λz:List UInt8×Int×Bool=>c6 (k+1) ⟨z.1,z.2.1⟩) (λj C=>aW (λh=>C _ (m.mono O)) λh=>ch (j3 n m O) λjQ ⟨_,_,U⟩=>C _ U) λz s=>?_;obtain⟨M,N,E⟩:=z;dsimp only at s⊢;cases E with
  |true=>exact(a (L+1) n (k+1) _ O s O O).mono (λx A=>⟨A.1,A.2.mono (by simp only[mg];omega)⟩)
  |false=>
   refine b8 (ch (hM n s O aX) λV ⟨_,K⟩=>?_);obtain⟨n,rfl⟩: ∃j,n=j+1:=⟨n-1,O⟩
   have alk:wr (((L+1:Nat):Int)+1-1)=(L:Int)+1:=by rw[bc O];omega
   rw[alk];refine ad.loop (λz:List UInt8×Int×List Expr×Int=>0<=z.2.2.2/\z.2.2.2<=2/\(z.2.2.1.length:Int)=z.2.2.2/\c6 (k+2+mg L*z.2.2.2) ⟨z.1,z.2.1⟩/\ ∀e∈z.2.2.1,jc 10 (L+1) e) (λz=>(2-z.2.2.2).toNat) ?_ (n+1) _ ⟨J,J,aX,K.mono bP,λl h=>by simp at h⟩ J;rintro Q ⟨b,q,ls,c⟩ ⟨i1,i2,i3,R,W⟩ X;dsimp only at i1 i2 i3 R W⊢;have akt:0<=mg L*c/\mg L*c<=2*mg L:=by
    have Z:c=0\/c=1\/c=2:=O
    rcases Z with rfl|rfl|rfl<;>omega
   refine aW (λhlt=>?_) λkp=>ad.some ⟨⟨J,vy,vu,W⟩,R.mono (by simp only[mg];omega)⟩;refine ch (P n _ _ O O R O O) λna ⟨f,g⟩=>ae (c' bP) ?_;rw[bc O];refine X _ ⟨J,J,by dsimp only;simp;omega,g.mono (by dsimp only;rw[Int.mul_add];omega),λe he=>?_⟩ J;rcases eC.1 he with h|h
   ·exact W e h
   simp at h;subst h;exact f
theorem adf(B:6000<=n)(m:c6 k r)(C:0<=k/\k<=70000000)(c:0<=d/\d<=3):ad (BE n r d) (λx=>jx 10 x.1/\c6 (k+300) x.2):=by
 unfold BE;refine ch (Qs O m O c) λo ⟨p,q⟩=>ch (hM n q O aX) λs ⟨e,w⟩=>?_;obtain⟨L,y,a⟩: ∃L:Nat,s.1=(L:Int)+1/\L<=2:=by
  simp at e;rcases e with h|h|h|h
  ·exact⟨1,O,O⟩
  ·exact⟨2,O,O⟩
  ·exact⟨0,O,O⟩
  exact⟨1,O,O⟩
 obtain⟨n,rfl⟩: ∃j,n=j+1:=⟨n-1,O⟩
 have F:mg L<=210:=Pm a;rw[y];refine ch (abD c L n _ _ O a w O O) λz ⟨A,i⟩=>?_;have l:jx 10 ⟨o.1,z.1⟩:=⟨p,A.mono (cR _) O⟩
 refine ae (KM O (l.mono O).sm d) (ad.cond (λ_=>ad.some ⟨l,i.mono O⟩) λ_=>ae (x:=⟨[0,0,0,0],0⟩) rfl (ad.some ⟨⟨p7 (by unfold dD;simp),⟨aX,vy,vu,λk h=>by simp at h⟩⟩,i.mono O⟩))
theorem acd:Fb N [65,91,105,93,61,40,65,91,105,93,43,123,105,125,41]=aa (⟨⟨[65],[⟨[1,0,0,0],0⟩]⟩,⟨4,0,⟨[],0⟩,⟨[],[]⟩,[⟨3,0,⟨[],0⟩,⟨[65],[⟨[1,0,0,0],0⟩]⟩,[]⟩,⟨2,0,⟨[1,0,0,0],0⟩,⟨[],[]⟩,[]⟩]⟩⟩,ab):=Y
theorem ae6:GY N [4]=aa ([⟨[⟨[0,0,0,0],0⟩],[⟨[0,0,0,0],4⟩]⟩],ab):=Y
def px:List cn:=[⟨[65],[6]⟩,⟨[66],[4,5]⟩,⟨[67],[3]⟩]
theorem BH:px.length<=4/\ks px:=by refine⟨by decide,λx a=>?_⟩;simp[px] at a;rcases a with rfl|rfl|rfl<;>decide
theorem PZ:sG 10 px:=by
 refine⟨by decide,λx a=>?_⟩;simp[px] at a
 grind
theorem ae1:gf 10 ⟨[⟨[⟨[0,0,0,0],0⟩],[⟨[0,0,0,0],4⟩]⟩],[⟨⟨[65],[⟨[1,0,0,0],0⟩]⟩,⟨4,0,⟨[],0⟩,⟨[],[]⟩,[⟨3,0,⟨[],0⟩,⟨[65],[⟨[1,0,0,0],0⟩]⟩,[]⟩,⟨2,0,⟨[1,0,0,0],0⟩,⟨[],[]⟩,[]⟩]⟩⟩]⟩:=by
 have i: ∀(a b c d e:Int),dD 10 ⟨[a,b,c,d],e⟩:=λa b c d e=>by unfold dD;simp
 refine⟨⟨aX,λl m=>?_⟩,aX,λs n=>?_⟩
 ·simp at m;subst m;exact⟨p7 (i _ _ _ _ _),p7 (i _ _ _ _ _)⟩
 simp at n;subst n;refine⟨p7 (i _ _ _ _ _),aX,vy,vu,λk o=>?_⟩;simp at o;rcases o with rfl|rfl
 ·exact⟨aX,vy,p7 (i _ _ _ _ _),λk h=>by simp at h⟩
 exact⟨aX,i _ _ _ _ _,vu,λk h=>by simp at h⟩
theorem aec(M:c6 k r)(hk:0<=k/\k<=10000000):ad (BD N r) (λx=>gf 10 x.1/\c6 (k+40000) x.2):=by
 have gy:N=100000:=rfl;unfold BD;refine ad.loop (λz:List UInt8×Int×Int=>0<=z.2.2/\z.2.2<=4/\c6 (k+10000*z.2.2) ⟨z.1,z.2.1⟩) (λz=>(4-z.2.2).toNat) ?_ N _ ⟨J,J,by simpa using M⟩ J;rintro Q ⟨b,q,c⟩ ⟨P,S,R⟩ W;dsimp only at P S R⊢;refine aW (λT=>?_) λU=>ae acd (ae ae6 (ad.some ⟨ae1,R.mono O⟩));refine ch (aeg O R O) λi ⟨⟨n3,V⟩,Ky⟩=>ch (hM N Ky O aX) λe ⟨m6,alz⟩=>?_;have hm:1<=e.1/\e.1<=3:=by simp at m6;omega
 refine ad.loop (λz:List UInt8×Int×List Loop×List Stmt×Int=>z.2.2.1=i.1/\0<=z.2.2.2.2/\z.2.2.2.2<=e.1/\(z.2.2.2.1.length:Int)+z.2.2.2.2<=e.1/\c6 (k+10000*c+41+1500*(e.1-z.2.2.2.2)) ⟨z.1,z.2.1⟩/\ ∀s∈z.2.2.2.1,jx 10 s) (λz=>z.2.2.2.2.toNat) ?_ N _ ⟨rfl,J,J,aX,alz.mono J,λs h=>by simp at h⟩ J;rintro m ⟨dc,oE,akY,c5,w⟩ ⟨g,rX,jH,S9,H,K⟩ n;dsimp only at g rX jH S9 H K⊢;subst g;have a: ∀(l:List Stmt),l.length<=10->(∀s∈l,jx 10 s)->gf 10 ⟨i.1,l⟩:=λl h1 h2=>⟨V,h1,h2⟩
 refine aW (λt=>?_) λu=>?_
 ·refine ad.aD (λz:List UInt8×Int×List Stmt=>c6 (k+10000*c+41+1500*(e.1-w)+1500) ⟨z.1,z.2.1⟩/\z.2.2.length<=c5.length+1/\ ∀s∈z.2.2,jx 10 s) (λS8 o=>?_) λz fr=>?_
  ·refine ad.loop (λz:List UInt8×Int×Int=>0<=z.2.2/\z.2.2<=5/\c6 (k+10000*c+41+1500*(e.1-w)+300*z.2.2) ⟨z.1,z.2.1⟩) (λz=>(5-z.2.2).toNat) ?_ N _ ⟨J,J,by simpa using H⟩ J;rintro p ⟨cS,q2,v⟩ ⟨g1,g2,X⟩ y;dsimp only at g1 g2 X⊢;refine aW (λD=>?_) λE=>o _ ⟨X.mono O,J,K⟩;refine ch (adf O X O (d:=(i.1.length:Int)) O) λA ⟨B,C⟩=>ae (x:=px) rfl ?_;have Z:CV ⟨i.1,[A.1]⟩:=((a [A.1] aX λs L=>by simp at L;subst L;exact B).mono O).sm;refine ae (FK O BH.1 BH.2 Z) (ad.cond (λ_=>ae (c' bP) (o _ ⟨C.mono O,aX,λs L=>?_⟩)) λ_=>?_)
   ·rcases eC.1 L with h|h
    ·exact K s h
    simp at h;subst h;exact B
   rw[bc O];exact y _ ⟨J,J,C.mono J⟩ J
  obtain⟨Ag,z2,z3⟩:=z;obtain⟨F,f,G⟩:=fr;dsimp only at F f G⊢;rw[bc O];exact n _ ⟨rfl,J,J,J,F.mono J,G⟩ J
 have I:gf 10 ⟨i.1,c5⟩:=a c5 O K;refine ae (x:=px) rfl (ae (FK O BH.1 BH.2 (I.mono O).sm) ?_);refine ad.aD (λz=>True) (λj o=>ad.cond (λ_=>o _ trivial) λ_=>o _ trivial) λz _=>?_;cases z with
 |true=>exact ad.some ⟨I,H.mono O⟩
 |false=>
  refine b8 ?_;rw[bc O];exact W _ ⟨J,J,H.mono J⟩ J
theorem aaP(o:c6 k r)(G:0<=k/\k<=1000000):ad (BC N r) (λx=>dn 10 x.1/\c6 (k+200000) x.2):=by
 have H:N=100000:=rfl;unfold BC;refine ae (x:=px) rfl (ch (hM N o O aX) λd ⟨p,s⟩=>?_);have K:1<=d.1/\d.1<=3:=by simp at p;omega
 refine ad.loop (λz:List UInt8×Int×List Part×Int=>0<=z.2.2.2/\(z.2.2.1.length:Int)+z.2.2.2=d.1/\c6 (k+1+40000*z.2.2.1.length) ⟨z.1,z.2.1⟩/\ ∀x∈z.2.2.1,gf 10 x) (λz=>z.2.2.2.toNat) ?_ N _ ⟨J,aX,by simpa using s,λx h=>by simp at h⟩ J;rintro e ⟨b,q,w,c⟩ ⟨y,A,a,i⟩ l;dsimp only at y A a i⊢;refine aW (λB=>?_) λC=>?_
 ·refine ch (aec a O) λL ⟨Q,F⟩=>ae (c' bP) ?_;rw[bc O];refine l _ ⟨J,by dsimp only;simp;omega,F.mono bP,λx m=>?_⟩ J
  grind
 have n:dn 10 ⟨px,w⟩:=⟨PZ,J,i⟩
 refine ae (lp O (n.mono O).sm) (ad.cond (λ_=>ad.some ⟨n,a.mono O⟩) λ_=>ae (x:=px) rfl (ae (iQ O O O) (ad.some ⟨⟨PZ,?_,λx m=>i x ?_⟩,a.mono O⟩)))
 ·simp;omega
 exact gO (fq m)
theorem Gw{k h:Type}{l:List k}{f:k->Option h}{g:k->h->k}{K:List k->Option R}(m: ∀x∈l,∃z,f x=aa z/\g x z=x)(A:l.length<=1000)(B:5000<=n)(C:ad (K l) Q):
  ad (bn (λa ((x,i):List k×Int)=>bif ag (i<(l.length:Int)) then(bO (ax l i) λy=>bO (f y) λz=>bO (app x [g y z]) λw=>a (w,wr (i+1))) else K x) n ([],0)) Q:=by
 refine ad.loop (λz:List k×Int=> ∃i:Nat,z.2=i/\i<=l.length/\z.1=l.take i) (λz=>l.length-z.2.toNat) ?_ n _ ⟨0,rfl,O,aX⟩ J;rintro a ⟨x,z⟩ ⟨i,e,F,c⟩ o;dsimp only at e c⊢;subst e;refine aW (λp=>?_) λq=>?_
 ·have bK:=bp (O:i<l.length);have r:x.length<=1000:=by rw[c,cZ];omega
  obtain⟨y,s,d⟩:=m _ (bx bK);refine ae (bl bK) (ae s (ae (c' bP) ?_));rw[bc O];refine o _ ⟨i+1,J,O,?_⟩ J;dsimp only;rw[eN,bK,c,d];rfl
 have:i=l.length:=O
 grind
theorem sf{k:Type}{l:List k}{f:k->Option k}{K:List k->Option R}(c: ∀x∈l,f x=aa x)(d:l.length<=1000)(e:5000<=n)(h:ad (K l) Q):
  ad (bn (λa ((x,i):List k×Int)=>bif ag (i<(l.length:Int)) then(bO (ax l i) λy=>bO (f y) λz=>bO (app x [z]) λw=>a (w,wr (i+1))) else K x) n ([],0)) Q:=
 Gw (g:=λ_ z=>z) (λx m=>⟨x,c x m,rfl⟩) d e h
theorem Mm: ∀(L n:Nat) (e:Expr),5000+L<=n->jc 1000 L e->sk (n+1) e=aa e
 |0,_,_,_,h=>h.elim
 |L+1,n,e,m,h=>by
  obtain⟨a,c,d,i⟩:=h;unfold sk;refine ad.eq (ae (AP n c) (ae (Ad O d.sm) ?_));obtain⟨n,rfl⟩: ∃j,n=j+1:=⟨n-1,O⟩
  exact sf (f:=sk (n+1)) (K:=λk=>aa (⟨e.kind,e.num,e.index,e.read,k⟩:Expr)) (λx l=>Mm L n x O (i x l)) a O (ad.some (by cases e;rfl))
theorem Mk(a:6000<=n)(h:jx 1000 s):uB n s=aa s:=by
 obtain⟨n,rfl⟩: ∃j,n=j+1:=⟨n-1,O⟩
 unfold uB;rw[Ad O h.1.sm,Mm 5 n s.value O h.2];rfl
theorem Ml(X:6000<=n){nest:List Loop}(h:k9 1000 nest):xm n nest=aa nest:=by
 obtain⟨Z,C⟩:=h;refine ad.eq ?_;unfold xm;refine ad.loop (λz:List Loop×Int=> ∃i:Nat,z.2=i/\i<=nest.length/\z.1=nest.take i) (λz=>nest.length-z.2.toNat) ?_ n _ ⟨0,rfl,O,aX⟩ J;rintro c ⟨x,z⟩ ⟨i,e,b,o⟩ F;dsimp only at e o⊢;subst e;refine aW (λG=>?_) λH=>ad.some ?_
 ·have bK:=bp (O:i<nest.length);obtain⟨⟨j,L⟩,⟨eL,cF⟩⟩:=C _ (bx bK);have Q:x.length<=1000:=by rw[o,cZ];omega
  refine ad.loop (λz:List az×Int=> ∃t:Nat,z.2=t/\t<=nest[i].lo.length/\z.1=nest[i].lo.take t) (λz=>nest[i].lo.length-z.2.toNat) ?_ n _ ⟨0,rfl,O,aX⟩ J;rintro k ⟨y,z⟩ ⟨t,e,u,m⟩ p;dsimp only at e m⊢;subst e;refine ae (bl bK) (aW (λA=>?_) λB=>?_)
  ·have d:=bp (O:t<nest[i].lo.length);have R:y.length<=1000:=by rw[m,cZ];omega
   refine ae (bl d) (ae (og _ (L _ (bx d))) (ae (c' bP) ?_));rw[bc O];refine p _ ⟨t+1,J,O,?_⟩ J;dsimp only;rw[eN,d,m];rfl
  have q:t=nest[i].lo.length:=O
  refine Gw (l:=nest[i].hi) (f:=λa:az=>app [] a.aT) (g:=λa r=>(⟨r,a.const⟩:az)) (K:=λs=>bO (app x [(⟨y,s⟩:Loop)]) λw=>c (w,wr ((i:Int)+1))) (λa W=>⟨_,og _ (cF a W),rfl⟩) eL O ?_;refine ae (c' bP) ?_;rw[bc O];refine F _ ⟨i+1,J,O,?_⟩ J;dsimp only;rw[eN,bK,o,m,q,dW];rfl
 have:i=nest.length:=O
 grind
theorem o6(G:6000<=n)(h:dn 1000 p):uA n p=aa p:=by
 obtain⟨⟨aL,a2⟩,I,Q⟩:=h;refine ad.eq ?_;unfold uA;refine Gw (n:=n) (l:=p.aP) (f:=λw:cn=>app [] w.b1) (g:=λw R=>(⟨w.name,R⟩:cn)) (K:=λW=>bn (λc ((H,y):(List Part)×Int)=>
    bif ag (y<(p.parts.length:Int)) then(
     bO (ax p.parts y) λk=>
     bO (xm n k.nest) λA=>
     bn (λd ((e,m):(List Stmt)×Int)=>
      bif ag (m<(k.body.length:Int)) then(
       bO (ax k.body m) λB=>
       bO (uB n B) λC=>
       bO (app e [C]) λF=>
       d (F,wr (m+1))
      ) else(
       bO (app H [(⟨A,e⟩:Part)]) λo=>
       c (o,wr (y+1))
      )
     ) n ([],0)
    ) else(
     aa (⟨W,H⟩:Prog)
    )
   ) n ([],0)) (λa X=>⟨_,og _ (a2 a X),rfl⟩) aL O ?_
 refine ad.loop (λz:List Part×Int=> ∃i:Nat,z.2=i/\i<=p.parts.length/\z.1=p.parts.take i) (λz=>p.parts.length-z.2.toNat) ?_ n _ ⟨0,rfl,O,aX⟩ J;rintro q ⟨x,z⟩ ⟨i,L,M,r⟩ Z;dsimp only at L r⊢;subst L;refine aW (λb=>?_) λj=>ad.some ?_
 ·have bK:=bp (O:i<p.parts.length);obtain⟨t,u,v⟩:=Q _ (bx bK);have D:x.length<=1000:=by rw[r,cZ];omega
  refine ae (bl bK) (ae (Ml G t) ?_);refine sf (f:=uB n) (K:=λe=>bO (app x [(⟨p.parts[i].nest,e⟩:Part)]) λo=>q (o,wr ((i:Int)+1))) (λs E=>Mk G (v s E)) u O ?_;refine ae (c' bP) ?_;rw[bc O];refine Z _ ⟨i+1,J,O,?_⟩ J;dsimp only;rw[eN,bK,r];rfl
 have:i=p.parts.length:=O
 rw[r,this,dW]
theorem qX{k:Type}{l:List k}{i:Nat}{x:k}{P:k->Prop}(h: ∀y∈l,P y)(c:P x): ∀y∈l.set i x,P y:=λy d=>by
 rcases uI d with a|a
 ·exact h y a
 rw[a];exact c
theorem Cn{k:Type}{l:List k}{x:k}{P:k->Prop}(h: ∀y∈l,P y)(c:P x): ∀y∈l++[x],P y:=λy d=>by
 rcases eC.1 d with a|a
 ·exact h y a
 simp at a;rw[a];exact c
theorem dU{k:Type}{l:List k}{i:Int}(h:0<=i/\i<l.length)(x:k):ca l i x=aa (l.set i.toNat x):=by unfold ca;rw[aR h]
theorem aed{l:List az}(h:fp B l)(c:dD (B+5) a):fp (B+5) (l++[a]):=⟨by have:=h.1;simp;omega,Cn (λy d=>(h.2 y d).mono O) c⟩
theorem Py{l:List az}(h:fp B l)(d:dD (B+5) a)(e:dD (B+5) b):fp (B+5) (l++[a,b]):=⟨by have:=h.1;simp;omega,λy i=>by
 rcases eC.1 i with c|c
 ·exact(h.2 y c).mono O
 simp at c;rcases c with rfl|rfl;exact d;exact e⟩
theorem Cc(h:4<=B)(c:Int):dD B ⟨[0,0,0,0],c⟩:=by unfold dD;simpa using h
theorem HP(b:6000<=n)(S:10<=B/\B<=900)(R:c6 k r)(T:0<=k/\k<=90000000){c:List Loop}(h:k9 B c):ad (wL n r c) (λx=>k9 (B+5) x.1/\c6 (k+5) x.2):=by
 unfold wL;refine ae (Ml b (h.mono O)) (aW (λ_=>ad.some ⟨h.mono O,R.mono O⟩) λf=>?_);have s:0<c.length:=O
 have o:=h.mono (O:B<=B+5);have g:=h.1;have t:wr ((c.length:Int)-1)=(c.length:Int)-1:=bc O;rw[t];refine ad.aD (λz:List UInt8×Int×List Loop=>c6 (k+5) ⟨z.1,z.2.1⟩/\k9 (B+5) z.2.2) (λj p=>?_) λz W=>ad.some ⟨W.2,W.1⟩;have d: ∀(i:Nat) (l:Loop),fp (B+5) l.lo->fp (B+5) l.hi->k9 (B+5) (c.set i l):=λi l u v=>⟨by rw[e6];exact o.1,qX o.2 ⟨u,v⟩⟩
 obtain⟨U,w,e⟩:=gT (l:=c) (i:=0) O O;obtain⟨V,A,m⟩:=gT (l:=c) (i:=(c.length:Int)-1) O O;have X:=h.2 _ (bx e);have Z:=h.2 _ (bx m);have C:=o.2 _ (bx e);have F:=o.2 _ (bx m);refine ch (j3 n R O) λij ⟨_,_,q⟩=>aW (λ_=>?_) λ_=>aW (λ_=>?_) λ_=>aW (λ_=>?_) λ_=>aW (λ_=>?_) λ_=>aW (λ_=>?_) λ_=>p _ ⟨q.mono O,o⟩
 ·refine ae w (ch (j3 n q O) λk6 ⟨D,E,I⟩=>ch (x9 n ⟨D,by have:=E O;omega⟩) λnc M=>ae (c' (by have:=X.1.1;simp;omega)) (ae (dU O _) (p _ ⟨I.mono O,d _ _ (aed X.1 (M.Dl.mono O)) C.2⟩)))
 ·exact ae A (ae (dU O _) (p _ ⟨q.mono O,d _ _ F.1 ⟨aX,λa G=>by simp at G⟩⟩))
 ·exact ae A (ae (iq _ _) (ae (iq _ _) (ae (c' (by have:=Z.2.1;simp;omega)) (ae (dU O _) (p _ ⟨q.mono O,d _ _ F.1 (Py Z.2 (Cc O _) (Cc O _))⟩)))))
 ·exact ae (iq _ _) (ae w (ae (dU O _) (p _ ⟨q.mono O,d _ _ C.1 ⟨aX,λa G=>by simp at G;subst G;exact Cc O _⟩⟩)))
 refine ad.loop (λz:List Loop=>0<z.length/\k9 (B+5) z) (λz=>5-z.length) ?_ n _ ⟨s,o⟩ O;rintro H z ⟨Ag,K⟩ L;refine aW (λN=>?_) λ_=>p _ ⟨q.mono O,K⟩;obtain⟨y,P,Q⟩:=gT (l:=z) (i:=0) O O;exact ae P (ae (c' bP) (L _ ⟨aX,bP,Cn K.2 (K.2 _ (bx Q))⟩ bP))
theorem HN(y:6000<=n)(L:10<=B/\B<=900)(A:c6 k r)(Q:0<=k/\k<=90000000)(h:jx B s):ad (wK n r s) (λx=>jx (B+5) x.1/\c6 (k+5) x.2):=by
 have q:=h.mono (O:B<=B+5);obtain⟨l,m,C,F,c⟩:=q;have G:=h.1.1;have H:=h.2.1;unfold wK;refine ae (Mk y (h.mono O)) ?_;refine ad.aD (λz:List UInt8×Int×List az×List Expr×List UInt8×Int×Int=>c6 (k+5) ⟨z.1,z.2.1⟩/\fp (B+5) z.2.2.1/\z.2.2.2.1.length<=B+5/\ ∀e∈z.2.2.2.1,jc (B+5) 4 e) (λj d=>?_) λz p=>ad.some ⟨⟨p.2.1,p.2.2.1,C,F,p.2.2.2⟩,p.1⟩;refine ch (j3 n A O) λR ⟨_,_,i⟩=>aW (λ_=>?_) λ_=>aW (λ_=>?_) λ_=>aW (λ_=>?_) λ_=>aW (λ_=>?_) λ_=>aW (λ_=>?_) λ_=>d _ ⟨i.mono O,l,m,c⟩
 ·exact ch (De n i O aX) λw ⟨_,o⟩=>d _ ⟨o.mono O,l,m,c⟩
 ·exact ch (x9 n (v:=3) O) λW q=>ae (x:=⟨[0,0,0,0],0⟩) rfl (ae (c' bP) (d _ ⟨i.mono O,Py h.1 (q.Dl.mono O) (Cc O _),m,c⟩))
 ·exact ch (hM n i O aX) λw ⟨_,o⟩=>d _ ⟨o.mono O,l,m,c⟩
 ·exact ch (hM n i O aX) λw ⟨_,o⟩=>d _ ⟨o.mono O,l,m,c⟩
 exact ae (c' bP) (d _ ⟨i.mono O,l,bP,Cn c ⟨aX,by unfold dD;simp,⟨aX,λa K=>by simp at K⟩,λk h=>by simp at h⟩⟩)
theorem aei(G:6000<=n)(T:c6 k r)(hk:0<=k/\k<=80000000)(h:dn 10 p):ad (Ar n r p) (λx=>dn 30 x.1/\c6 (k+30) x.2):=by
 have f:=h.mono (O:10<=30);obtain⟨m,C,o⟩:=f;have gI:=h.1.1;have hp:=h.2.1;unfold Ar;refine ae (o6 G (h.mono O)) ?_;have U:wr ((p.parts.length:Int)-1)=(p.parts.length:Int)-1:=bc O;rw[U];refine ad.aD (λz:List UInt8×Int×List cn×List Part=>c6 (k+30) ⟨z.1,z.2.1⟩/\sG 30 z.2.2.1/\z.2.2.2.length<=30/\ ∀x∈z.2.2.2,gf 30 x) (λj X=>?_) λz Z=>ad.some ⟨⟨Z.2.1,Z.2.2.1,Z.2.2.2⟩,Z.1⟩;have q: ∀(i:Nat) (x:Part),gf 30 x->(p.parts.set i x).length<=30/\ ∀y∈p.parts.set i x,gf 30 y:=λi x g=>⟨by rw[e6];exact C,qX o g⟩
 have a: ∀{t:cJ},c6 (k+20) t->ad (j (t.b,t.p,p.aP,p.parts)) (λx=>dn 30 x.1/\c6 (k+30) x.2):=λu=>X _ ⟨u.mono O,m,C,o⟩;refine ch (j3 n T O) λij ⟨_,_,A⟩=>aW (λ_=>?_) λ_=>aW (λ_=>?_) λ_=>aW (λ_=>?_) λ_=>aW (λ_=>?_) λ_=>aW (λ_=>?_) λ_=>a (A.mono O)
 ·refine ch (De n A O aX) λkD ⟨_,V⟩=>ch (hM n V O aX) λk6 ⟨_,Ky⟩=>ae (c' bP) (X _ ⟨Ky.mono O,⟨bP,Cn m.2 aX⟩,C,o⟩)
 ·refine aW (λc=>?_) λ_=>a (A.mono O);obtain⟨y,w,d⟩:=gT (l:=p.aP) (i:=0) O c;exact ch (hM n A O aX) λg' ⟨_,alA⟩=>ae w (ae (dU O _) (X _ ⟨alA.mono O,⟨by rw[e6];exact m.1,qX m.2 aX⟩,C,o⟩))
 ·refine aW (λc=>?_) λ_=>a (A.mono O);obtain⟨y,w,d⟩:=gT (l:=p.parts) (i:=0) O c;have v:=h.2.2 _ (bx d);have e:=o _ (bx d);refine ae w (ch (HP G (B:=10) O A O v.1) λD ⟨H,K⟩=>ch (HP G (B:=15) O K O H) λE ⟨L,Q⟩=>ch (HP G (B:=20) O Q O L) λI ⟨R,W⟩=>ae (dU O _) ?_);exact X _ ⟨W.mono O,m,q _ _ ⟨R.mono O,e.2.1,e.2.2⟩⟩
 ·refine ad.aD (λz:Bool=>z=ab->0<(p.parts.length:Int)/\ ∀x,ax p.parts ((p.parts.length:Int)-1)=aa x->0<(x.body.length:Int)) (λJ' F=>aW (λc=>?_) λ_=>F _ λh=>by cases h) λz Z=>?_
  ·obtain⟨y,w,d⟩:=gT (l:=p.parts) (i:=(p.parts.length:Int)-1) O O;refine ae w (F _ λcC=>⟨c,λx S=>?_⟩);rw[w] at S;cases S;exact fF cC
  cases z with
  |false=>exact a (A.mono O)
  |true=>
   obtain⟨c,bb⟩:=Z rfl;obtain⟨y,w,d⟩:=gT (l:=p.parts) (i:=(p.parts.length:Int)-1) O O;have M:=bb y w;have v:=h.2.2 _ (bx d);have e:=o _ (bx d);obtain⟨s,N,P⟩:=gT (l:=y.body) (i:=0) O M;have ms:=v.2.2 _ (bx P);refine bX (ae w (ae N (ch (HN G (B:=10) O A O ms) λD ⟨H,K⟩=>ch (HN G (B:=15) O K O H) λE ⟨L,Q⟩=>ch (HN G (B:=20) O Q O L) λI ⟨R,W⟩=>ae (dU O _) (ae (dU O _) ?_))));exact X _ ⟨W.mono O,m,q _ _ ⟨e.1,by rw[e6];exact e.2.1,qX e.2.2 (R.mono O)⟩⟩
 refine aW (λc=>?_) λ_=>a (A.mono O);obtain⟨y,w,d⟩:=gT (l:=p.parts) (i:=(p.parts.length:Int)-1) O O;have e:=o _ (bx d);exact ae w (ae (dU O _) (X _ ⟨A.mono O,m,q _ _ ⟨e.1,aX,λs N=>by simp at N⟩⟩))
theorem PQ{r:List cn}(c:ks r):0<=gK r/\gK r<=36*r.length:=by have d:=oH (λx:cn=>ie x.b1) r λy a=>(sY (c y a)).1;have e:=CI (λx:cn=>ie x.b1) 36 r λy a=>(sY (c y a)).2;unfold gK;omega
end Go.Lift
