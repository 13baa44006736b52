/- Tools. -/
import Derived.Test.YtcihigfifglboabGreatHLiftLaw
set_option maxRecDepth 100000
set_option linter.unusedVariables false
namespace Go.Lift
open Go
section
abbrev N:Nat:=100000
def cN(k:Int)(r:cA):Prop:=0<=r.p/\r.p<=k/\r.b.length<=2000
variable {k:Int}{r:cA}
theorem cN.mono{a:Int}(h:cN k r)(c:k<=a):cN a r:=⟨h.1,by have:=h.2.1;omega,h.2.2⟩
theorem Z3(a:List UInt8):ab (zh N a) (cN 0):=by unfold zh;refine ab.aA (λx=>x.length<=2000) (λj c=>aQ (λh=>ag (hG O O O) (c _ bQ)) λh=>c _ O) λz d=>ab.some ⟨gx 0,gx 0,d⟩
theorem Ov(x:UInt8):(x.toNat:Int)<=255:=by have:=UInt8.toNat_lt x;omega
theorem wQ{n:Int}(h:n≠0):j8 n=some ():=by unfold j8;rw[a6 h]
theorem M5{m:Int}(B:cN k r)(T:k<=1000000000):ab (gC N r m) (λx=>0<=x.1/\(1<=m->x.1<m)/\cN (k+1) x.2):=by
 obtain⟨b,p⟩:=r;obtain⟨c,C,w⟩:=B;dsimp only at c C w;unfold gC;dsimp only;have D:wr (p+1)=p+1:=be O;have F:wr (p+1-1)=p:=by rw[be O];omega
 rw[D,F];have a:cN (k+1) ⟨b,p+1⟩:=⟨by show 0<=p+1;omega,by show p+1<=k+1;omega,w⟩
 refine ab.aA (λz=>z=false->1<=m/\b.length≠0) (λj A=>aQ (λh=>A _ λh=>by cases h) λh=>A _ λG=>⟨O,by simpa using G⟩) λz H=>?_;refine ab.cond (λ_=>ab.some ⟨aW,λh=>bQ,a⟩) λd=>?_;obtain⟨V,a'⟩:=H d;refine aQ (λe=>?_) λI=>?_
 ·obtain⟨x,n,_⟩:=gq c e;refine ag n (ag (wQ O) (ab.some ⟨?_,λ_=>?_,a⟩))
  ·exact Int.tmod_nonneg _ O
  exact Int.tmod_lt_of_pos _ O
 have sd:1<=(b.length:Int)/\(b.length:Int)<=2000:=O
 have K:wr (p*7)=p*7:=be O;have L:wr (p*7+3)=p*7+3:=be O;rw[K,L];obtain⟨x,n,_⟩:=gq (l:=b) (i:=Int.tmod p b.length) (Int.tmod_nonneg _ c) (Int.tmod_lt_of_pos _ O);obtain⟨y,Q,_⟩:=gq (l:=b) (i:=Int.tmod (p*7+3) b.length) (Int.tmod_nonneg _ O) (Int.tmod_lt_of_pos _ O);refine ag (wQ O) (ag n (ag (wQ O) (ag Q (ag (wQ O) (ag (wQ O) (ab.some ⟨?_,λ_=>Int.tmod_lt_of_pos _ O,a⟩))))));refine Int.tmod_nonneg _ ?_;have R:=Ov x;have U:=Ov y;have o:0<=Int.tdiv p b.length:=Int.tdiv_nonneg c O;have s:Int.tdiv p b.length<=p:=Int.tdiv_le_self _ c;generalize Int.tdiv p b.length=q at o s;have W:wr ((x.toNat:Int)*131)=(x.toNat:Int)*131:=be O;have X:wr ((y.toNat:Int)*1117)=(y.toNat:Int)*1117:=be O;have Y:wr (p*29)=p*29:=be O;have f:wr q=q:=be O;have g:wr (q*53)=q*53:=be O;rw[W,X,Y,f,g];have t:wr ((x.toNat:Int)*131+(y.toNat:Int)*1117)=(x.toNat:Int)*131+(y.toNat:Int)*1117:=be O;rw[t];have u:wr ((x.toNat:Int)*131+(y.toNat:Int)*1117+p*29)=(x.toNat:Int)*131+(y.toNat:Int)*1117+p*29:=be O;rw[u];have v:wr ((x.toNat:Int)*131+(y.toNat:Int)*1117+p*29+q*53)=(x.toNat:Int)*131+(y.toNat:Int)*1117+p*29+q*53:=be O;rw[v];obtain⟨M,E⟩: ∃M:Nat,(x.toNat:Int)*131+(y.toNat:Int)*1117+p*29+q*53=M:=⟨((x.toNat:Int)*131+(y.toNat:Int)*1117+p*29+q*53).toNat,O⟩
 rw[E];have P:(M:Int)<=100000000000000:=O
 have S:Int.tdiv (M:Int) 64=((M / 64:Nat):Int):=by rw[Int.tdiv_eq_ediv_of_nonneg O];omega
 rw[S,be O,Uk _ _ O O];omega
theorem aaS{l:List Int}(c:cN k r)(d:k<=1000000000)(e:l≠[]):ab (fB N r l) (λx=>x.1∈l/\cN (k+1) x.2):=by
 unfold fB;have o:1<=l.length:=by cases l;exact bB rfl e;simp
 refine cc (M5 c d) λx ⟨h,i,m⟩=>?_;obtain⟨y,n,a⟩:=gq h (i O);exact ag n (ab.some ⟨bE a,m⟩)
end
section
def dot:List Int->List Int->Int
 |c::cs,x::xs=>c*x+dot cs xs
 |_,_=>0
def cJ(m:Int)(x:Int):Prop:= -m<=x/\x<=m
variable {a:ay}{b c x d aI v M:Int}{i k n:Nat}{p l:List Int}{R:Type}{A B:Option R}{o:List Loop}{s:List UInt8}{Q:R->Prop}
theorem Be{a:Int}(m:0<=a)(n:0<=b)(i:cJ a c)(l:cJ b x):cJ (a*b) (c*x):=by
 obtain⟨o,p⟩:=i;obtain⟨q,r⟩:=l;constructor
 ·have h:=mM (O:0<=a+c) (O:0<=b+x);have k:=mM (O:0<=a-c) (O:0<=b-x);have d:(a+c)*(b+x)=a*b+a*x+c*b+c*x:=by rw[Int.add_mul,Int.mul_add,Int.mul_add];omega
  have e:(a-c)*(b-x)=a*b-a*x-c*b+c*x:=by rw[Int.sub_mul,Int.mul_sub,Int.mul_sub];omega
  rw[d] at h;rw[e] at k;omega
 have h:=mM (O:0<=a+c) (O:0<=b-x);have k:=mM (O:0<=a-c) (O:0<=b+x);have d:(a+c)*(b-x)=a*b-a*x+c*b-c*x:=by rw[Int.add_mul,Int.mul_sub,Int.mul_sub];omega
 have e:(a-c)*(b+x)=a*b+a*x-c*b-c*x:=by rw[Int.sub_mul,Int.mul_add,Int.mul_add];omega
 rw[d] at h;rw[e] at k;omega
theorem FP(a:List Int):dot a []=0:=by cases a<;>rfl
theorem MC: ∀{cs a:List Int} {c x:Int},cs[a.length]? =some c->dot cs (a++[x])=dot cs a+c*x
 | [],a,c,x,h=>by simp at h
 |d::cs,[],c,x,h=>by simp at h;subst h;simp[dot,FP]
 |d::cs,y::a,c,x,h=>by
  have h:cs[a.length]? =some c:=by simpa using h
  simp only[List.cons_append,dot];rw[MC h];omega
theorem MB{d e:List Int}(h:d[i]? =some c)(a:e[i]? =some x):dot d (e.take (i+1))=dot d (e.take i)+c*x:=by have aI:=(bS.1 a).1;rw[ek,a];exact MC (by simpa[Nat.min_eq_left (Nat.le_of_lt aI)] using h)
theorem Gz{M:Int}(a:0<=M): ∀{cs xs:List Int},(∀c∈cs,cJ 9 c)->(∀x∈xs,cJ M x)->cJ (9*M*xs.length) (dot cs xs)
 | [],xs,_,_=>by
  have:0<=9*M*(xs.length:Int):=mM O O;simp only[dot,cJ];omega
 |d::cs,[],_,_=>by simp[dot,cJ]
 |d::cs,y::xs,i,k=>by
  have l:=Gz a (cs:=cs) (xs:=xs) (λc h=>i c (by simp[h])) λx h=>k x (by simp[h]);have m:=Be O a (i d aW) (k y aW);have e:9*M*((y::xs).length:Int)=9*M*(xs.length:Int)+9*M:=by simp[Int.mul_add]
  rw[e];simp only[dot,cJ] at*;omega
def dF(a c:Int):List Int:=(List.range (c-a).toNat).map (fun(i:Nat)=>a+(i:Int))
theorem ZY{a:Int}:v∈dF a aI↔a<=v/\v<aI:=by
 simp only[dF,List.mem_map,List.mem_range];constructor
 ·rintro⟨i,aI,rfl⟩;omega
 intro h;exact⟨(v-a).toNat,O,O⟩
theorem lL{a:Int}(h:b<=a):dF a b=[]:=by unfold dF;rw[show(b-a).toNat=0 by omega];rfl
theorem t6{a:Int}(h:b<=a):dF b (a+1)=dF b a++[a]:=by unfold dF;rw[show(a+1-b).toNat=(a-b).toNat+1 by omega,pG,fU];simp;omega
theorem zk{a:Int}(c:a<=v)(d:v<aI):dF a aI=dF a v++v::dF (v+1) aI:=by
 obtain⟨k,e⟩: ∃k:Nat,aI=v+1+k:=⟨(aI-v-1).toNat,O⟩
 subst e;clear d;induction k with
 |zero=>
  rw[show v+1+((0:Nat):Int)=v+1 by omega,t6 c,lL (gx _)]
 |succ k h=>
  rw[show v+1+((k+1:Nat):Int)=v+1+(k:Int)+1 by omega,t6 O,h,t6 O];simp
theorem AR{k:Type}{f:k->Option Bool}{p:k->Bool}{l:List k}(z: ∀x∈l,f x=some (p x))(H:l.length<n)(A:l.length<=1000000):
  ∃r:Int,bo (λa (c:Int)=>bif decide (c<(l.length:Int)) then(Option.bind (au l c) λe=>Option.bind (f e) λi=>bif i then(some c) else(a (wr (c+1)))) else(some (-1))) n 0=some r/\decide (0<=r)=l.any p:=by
 suffices h:ab (bo (λa (c:Int)=>bif decide (c<(l.length:Int)) then(Option.bind (au l c) λe=>Option.bind (f e) λi=>bif i then(some c) else(a (wr (c+1)))) else(some (-1))) n 0) (λr=>decide (0<=r)=l.any p) by exact h
 refine ab.loop (λx:Int=>0<=x/\x<=l.length/\(l.take x.toNat).any p=false) (λx:Int=>l.length-x.toNat) ?_ n 0 ⟨O,O,aW⟩ bQ;rintro m x ⟨w,I,o⟩ B;refine aQ (λq=>?_) λC=>?_
 ·obtain⟨y,D,d⟩:=gq w q;have hm:=bE d;refine ag D (ag (z y hm) (ab.cond (λF=>ab.some ?_) λs=>?_))
  ·rw[show l.any p=true from ij.2 ⟨y,hm,F⟩];simp[w]
  rw[be O];refine B _ ⟨O,O,?_⟩ O;rw[show(x+1).toNat=x.toNat+1 by omega,ek,d];simp[o,s]
 refine ab.some ?_;have G:x.toNat=l.length:=O
 rw[G,c6] at o;rw[o];simp
theorem CZ{f:Int->Option Bool}{p:Int->Bool}(c: ∀x∈l,f x=some (p x))(d:l.length<n)(a:l.length<=1000000):nV n l f=some (l.any p):=by obtain⟨r,e,h⟩:=AR c d a;unfold nV xK;rw[e,<-h];rfl
theorem xO{f:ay->Option Bool}{p:ay->Bool}{l:List ay}(c: ∀x∈l,f x=some (p x))(d:l.length<n)(a:l.length<=1000000):oV n l f=some (l.any p):=by obtain⟨r,e,h⟩:=AR c d a;unfold oV BZ;rw[e,<-h];rfl
theorem Tt{f:Stmt->Option Bool}{p:Stmt->Bool}{l:List Stmt}(c: ∀x∈l,f x=some (p x))(d:l.length<n)(a:l.length<=1000000):BV n l f=some (l.any p):=by obtain⟨r,e,h⟩:=AR c d a;unfold BV Iq;rw[e,<-h];rfl
theorem Si{f:bZ->Option Bool}{p:bZ->Bool}{l:List bZ}(c: ∀x∈l,f x=some (p x))(d:l.length<n)(a:l.length<=1000000):BB n l f=some (l.any p):=by obtain⟨r,e,h⟩:=AR c d a;unfold BB Ih;rw[e,<-h];rfl
theorem pC{k:Type}{l:List k}{p:Nat->k->Bool}{Q:Bool->Prop}{m:(Int->Option Bool)->Int->Option Bool}(D:l.length<n)(B:l.length<=1000000)
  (c: ∀a (i:Nat) x,l[i]? =some x->(p i x=true->ab (a ((i:Int)+1)) Q)->(p i x=false->Q false)->ab (m a (i:Int)) Q)
  (e: ∀a,(∀(i:Nat) x,l[i]? =some x->p i x=true)->ab (m a (l.length:Int)) Q) (o:(∃(i:Nat) (x:k),l[i]? =some x/\p i x=false)->Q false):ab (bo m n 0) Q:=by
 refine ab.loop (λx:Int=> ∃i:Nat,x=i/\i<=l.length/\ ∀(j:Nat) y,j<i->l[j]? =some y->p j y=true) (λx:Int=>l.length-x.toNat) ?_ n 0 ⟨0,rfl,O,λj y h=>O⟩ bQ;rintro a x ⟨i,rfl,F,A⟩ C;by_cases q:i<l.length
 ·have r:=bs q;refine c a i _ r (λs=>C _ ⟨i+1,O,O,λj y G d=>?_⟩ O) λs=>o ⟨i,_,r,s⟩;by_cases w:j=i
  ·subst w;rw[r] at d;cases d;exact s
  exact A j y O d
 have z:i=l.length:=O
 subst z;exact e a λj y d=>A j y (bS.1 d).1 d
def cR(a:ay):Bool:=decide (a.aT.length=4)&&(decide (-99<=a.const/\a.const<=99)&&a.aT.all λc=>decide (-9<=c/\c<=9))
theorem fM(h:cR a=true):a.aT.length=4/\cJ 99 a.const/\ ∀c∈a.aT,cJ 9 c:=by simp only[cR,Bool.and_eq_true,decide_eq_true_eq,List.all_eq_true] at h;exact⟨h.1,h.2.1,h.2.2⟩
theorem d5(n:Nat)(x a b:Int):fi n x a b=some (decide (a<=x/\x<=b)):=by unfold fi;by_cases c:a<=x<;>by_cases d:x<=b<;>simp[aA,c,d]
theorem Rb(i:5000<=n)(a:ay)(k:a.aT.length<=1000):uQ n a=some (cR a):=by
 have h: ∀x∈a.aT,xN n x=some (!decide (-9<=x/\x<=9)):=λx _=>by unfold xN;rw[d5];rfl
 have bP:=CZ (n:=n) h O O;unfold uQ EU;rw[d5];simp only[aA,Option.bind];rw[bP];unfold cR;have e:(a.aT.any λx=> !decide (-9<=x/\x<=9))= !(a.aT.all λc=>decide (-9<=c/\c<=9)):=by
  rw[ta];simp
 rw[e];by_cases d:a.aT.length=4
 ·rw[bA (show(a.aT.length:Int)=4 by omega),bA d];generalize decide (-99<=a.const/\a.const<=99)=b;cases b<;>simp
 rw[bu (show¬(a.aT.length:Int)=4 by omega),bu d];rfl
theorem yb(n:Nat)(x m:Int)(d:0<=m/\m<=1000000000):qI n x m=some (decide (-m<=x/\x<=m)):=by
 unfold qI;rw[be O];by_cases a: -m<=x<;>by_cases c:x<=m
 ·simp[aA,a,c]
 ·simp[aA,a,c]
 ·simp[aA,a,c]
 simp[aA,a,c]
theorem Ip(A:5000<=n)(a:ay)(B:a.aT.length<=1000):su n a=some (cR a):=by
 refine ab.eq ?_;unfold su;refine pC (l:=a.aT) (p:=λ_ c=>decide (-9<=c/\c<=9)) O O (λd i x k q r=>?_) (λd m=>?_) (λ⟨i,x,k,o⟩=>?_)
 ·rw[bA (show(i:Int)<(a.aT.length:Int) by have:=(bS.1 k).1;omega)];refine ag (bk k) (ag (yb n x 9 O) ?_);have aI:=(bS.1 k).1;cases o:decide (-9<=x/\x<=9) with
  |true=>show ab (d _) _;rw[be O];exact q o
  |false=>exact ab.some (r o)
 ·rw[bu (show¬(a.aT.length:Int)<(a.aT.length:Int) by omega)];have e:a.aT.all (λc=>decide (-9<=c/\c<=9))=true:=fy.2 λc w=>by obtain⟨i,aI⟩:=lh w;exact m i c aI
  refine ab.cond (λh=>(by cases h)) λ_=>?_;unfold cR;rw[e];refine ab.aA (λz:Bool=>z=(decide (a.aT.length=4)&&(decide (-99<=a.const/\a.const<=99)&&true))) (λj s=>?_) λz y=>ab.some y;refine aQ (λh=>ag (yb n a.const 99 O) (s _ ?_)) λh=>s _ ?_
  ·rw[bA (O:a.aT.length=4)];simp
  rw[bu (show¬a.aT.length=4 by omega)];rfl
 unfold cR;have e:a.aT.all (λc=>decide (-9<=c/\c<=9))=false:=jk.2 ⟨x,bE k,by rw[o];simp⟩;rw[e];simp
def fQ(a:ay)(p:List Int):Int:=a.const+dot a.aT p
def Cv(M:Int)(p:List Int):Prop:= ∀x∈p,cJ M x
theorem zz(c:cR a=true)(l:p.length<=4)(d:0<=M/\M<=1000000000)(e:Cv M p)(i:Nat)(m:i<=p.length):cJ 1000000000000 (a.const+dot a.aT (p.take i)):=by
 obtain⟨n,o,h⟩:=fM c;have q:=Gz (M:=M) d.1 (cs:=a.aT) (xs:=p.take i) h λx k=>e x (ga k);have r:(p.take i).length<=4:=bQ
 have s:9*M*((p.take i).length:Int)<=9*M*4:=Int.mul_le_mul_of_nonneg_left O O;simp only[cJ] at*;omega
theorem Xt(F:5000<=n)(h:cR a=true)(r:p.length<=4)(l:0<=M/\M<=1000000000)(m:Cv M p):nX n a p=some (fQ a p):=by
 obtain⟨G,H,y⟩:=fM h;refine ab.eq ?_;unfold nX;refine ab.loop (λx:Int×Int=> ∃i:Nat,x.2=i/\i<=p.length/\x.1=a.const+dot a.aT (p.take i)) (λx=>p.length-x.2.toNat) ?_ n _ ⟨0,rfl,O,by simp[FP]⟩ bQ;rintro o ⟨x,k⟩ ⟨i,s,z,q⟩ A;dsimp only at s q⊢;subst s;refine aQ (λe=>?_) λB=>ab.some ?_
 ·have e:i<p.length:=O
  have c:=bs e;have d:=bs (O:i<a.aT.length);have cv:=MB d c;have C:=zz h r l m i z;have w:=zz h r l m (i+1) O;rw[cv] at w;have D:=Be O l.1 (y _ (bE d)) (m _ (bE c));refine ag (bk c) (ag (bk d) ?_);simp only[cJ] at C w D;rw[be (n:=a.aT[i]*p[i]) O,be O,be O];refine A _ ⟨i+1,Z,O,?_⟩ Z;dsimp only;rw[cv,q];omega
 have:i=p.length:=O
 rw[q,this,c6];rfl
theorem Wz(K:5000<=n)(e:cR a=true)(s:p.length<=4)(l:0<=M/\M<=1000000000)(m:Cv M p):oi n a p=some (fQ a p):=by
 obtain⟨L,Q,B⟩:=fM e;refine ab.eq ?_;unfold oi;refine ab.loop (λx:Int×Int=> ∃i:Nat,x.2=i/\i<=p.length/\x.1=a.const+dot a.aT (p.take i)) (λx=>p.length-x.2.toNat) ?_ n _ ⟨0,rfl,O,by simp[FP]⟩ bQ;rintro o ⟨x,k⟩ ⟨i,w,C,q⟩ D;dsimp only at w q⊢;subst w;refine ab.aA (λz=>z=decide (i<p.length)) (λj y=>aQ (λh=>y _ ?_) λh=>y _ ?_) λz F=>?_
 ·rw[bA (O:i<p.length),bA (show(i:Int)<(a.aT.length:Int) by omega)]
 ·rw[bu (show¬i<p.length by omega)]
 subst F;refine aQ (λr=>?_) λG=>ab.some ?_
 ·have c:=bs r;have d:=bs (O:i<a.aT.length);have cv:=MB d c;have H:=zz e s l m i C;have A:=zz e s l m (i+1) O;rw[cv] at A;have I:=Be O l.1 (B _ (bE d)) (m _ (bE c));refine ag (bk d) (ag (bk c) ?_);simp only[cJ] at H A I;rw[be (n:=a.aT[i]*p[i]) O,be O,be O];refine D _ ⟨i+1,Z,O,?_⟩ Z;dsimp only;rw[cv,q];omega
 have:i=p.length:=O
 rw[q,this,c6];rfl
theorem bR(h:ab A Q):ab (bif true then A else B) Q:=h
theorem b5(h:ab B Q):ab (bif false then A else B) Q:=h
def eI:List Int->Nat
 | []=>0
 |c::cs=>if eI cs=0 then(if c=0 then 0 else 1) else eI cs+1
theorem Kq: ∀(l:List Int) (c:Int),eI (l++[c])=if c=0 then eI l else l.length+1
 | [],c=>by simp[eI]
 |d::l,c=>by
  have e:=Kq l c;simp only[List.cons_append,eI,e];by_cases a:c=0
  ·simp[a]
  simp[a]
theorem Kp(h:l[i]? =some c):eI (l.take (i+1))=if c=0 then eI (l.take i) else i+1:=by have aI:=(bS.1 h).1;rw[ek,h];show eI (l.take i++[c])=_;rw[Kq,cL,vx (Nat.le_of_lt aI)]
theorem yh: ∀{l:List Int} {i:Nat} {c:Int},l[i]? =some c->eI l<=i->c=0
 | [],i,c,h,_=>by simp at h
 |d::l,0,c,h,a=>by
  simp at h;subst h;simp only[eI] at a;by_cases e:eI l=0
  ·by_cases k:d=0
   ·exact k
   simp[e,k] at a
  simp[e] at a
 |d::l,i+1,c,h,a=>by
  have h:l[i]? =some c:=by simpa using h
  refine yh h ?_;simp only[eI] at a;by_cases e:eI l=0
  ·omega
  rw[a6 e] at a;omega
def jo(a:ay):Prop:=a.aT.length<=1000
def kn(l:List ay):Prop:=l.length<=1000/\ ∀a∈l,jo a
theorem yn(s:5000<=n)(l:jo a):oc n a=some (eI a.aT:Int):=by
 have l:a.aT.length<=1000:=l;refine ab.eq ?_;unfold oc;refine ab.loop (λx:Int×Int=> ∃i:Nat,x.2=i/\i<=a.aT.length/\x.1=(eI (a.aT.take i):Int)) (λx=>a.aT.length-x.2.toNat) ?_ n _ ⟨0,rfl,O,by simp[eI]⟩ bQ;rintro d ⟨x,k⟩ ⟨i,m,w,e⟩ p;dsimp only at m e⊢;subst m;refine aQ (λc=>?_) λq=>ab.some ?_
 ·have c:i<a.aT.length:=O
  have bP:=bs c;have cv:=Kp bP;refine ab.aA (λz:Int=>z=(eI (a.aT.take (i+1)):Int)) (λj o=>ag (bk bP) (eS (λh=>o _ ?_) λh=>o _ ?_)) λz r=>?_
  ·rw[cv,a6 h,be O];omega
  ·rw[cv,a1 h,e]
  rw[be O];exact p _ ⟨i+1,Z,O,r⟩ Z
 have:i=a.aT.length:=O
 rw[e,this,c6]
theorem DA(r:5000<=n)(p:jo a):qj n a=some (eI a.aT:Int):=by
 have p:a.aT.length<=1000:=p;refine ab.eq ?_;unfold qj;refine ab.loop (λx:Int=> ∃i:Nat,x=i/\i<=a.aT.length/\eI a.aT=eI (a.aT.take i)) (λx=>x.toNat) ?_ n _ ⟨a.aT.length,rfl,O,by rw[c6]⟩ bQ;rintro c x ⟨i,rfl,s,d⟩ q;cases i with
 |zero=>
  refine ab.aA (λz=>z=false) (λj k=>aQ (λh=>bB h (by decide)) λh=>k _ rfl) λz l=>?_;subst l;exact ab.some (by rw[d];rfl)
 |succ i=>
  have m:i<a.aT.length:=O
  have bP:=bs m;have cv:=Kp bP;have e:wr (((i+1:Nat):Int)-1)=(i:Int):=by rw[be O];omega
  rw[e];refine ab.aA (λz=>z=decide (a.aT[i]=0)) (λj k=>aQ (λh=>ag (bk bP) (k _ rfl)) λh=>bB (show(0:Int)<((i+1:Nat):Int) by omega) h) λz l=>?_;subst l;refine aQ (λo=>?_) λo=>ab.some ?_
  ·exact q _ ⟨i,rfl,O,by rw[d,cv,a1 o]⟩ O
  rw[d,cv,a6 o]
def eR(a:ay)(d:Int):Bool:=cR a&&decide ((eI a.aT:Int)<=d)
def d9(l:List ay)(d:Int):Bool:=l.all (λa=>eR a d)&&decide (1<=l.length/\l.length<=2)
theorem B'(a b:Int):decide (a<b)= !decide (b<=a):=by
 by_cases h:a<b
 ·rw[bA h,bu O];rfl
 rw[bu h,bA O];rfl
theorem Kh(y:5000<=n){l:List ay}(C:kn l)(d:Int):v8 n l d=some (d9 l d):=by
 obtain⟨H,D⟩:=C;refine ab.eq ?_;unfold v8;refine pC (l:=l) (p:=λ_ a=>eR a d) O O (λk i x m r s=>?_) (λk o=>?_) (λ⟨i,x,m,F⟩=>?_)
 ·have aI:=(bS.1 m).1;have hm:=D x (bE m);rw[bA (show(i:Int)<(l.length:Int) by omega)];refine bR (ab.aA (λz=>z= !eR x d) (λj q=>ag (bk m) (ag (Ip y x hm) ?_)) λz w=>?_)
  ·cases A:cR x with
   |false=>exact q _ (by unfold eR;rw[A];rfl)
   |true=>exact ag (yn y hm) (q _ (by unfold eR;rw[A,B'];simp))
  subst w;cases B:eR x d with
  |true=>show ab (k _) _;rw[be O];exact r B
  |false=>exact ab.some (s B)
 ·rw[bu (show¬(l.length:Int)<(l.length:Int) by omega)];have e:l.all (λa=>eR a d)=true:=fy.2 λc G=>by obtain⟨i,aI⟩:=lh G;exact o i c aI
  unfold d9;rw[e];refine b5 (ab.aA (λz=>z=decide (1<=l.length/\l.length<=2)) (λj q=>aQ (λh=>q _ ?_) λh=>q _ ?_) λz w=>ab.some (by rw[w];rfl))
  ·by_cases I:l.length<=2
   ·rw[bA (show(l.length:Int)<=2 by omega),bA O]
   rw[bu (show¬(l.length:Int)<=2 by omega),bu O]
  rw[bu O]
 unfold d9;rw[jk.2 ⟨x,bE m,by rw[F];simp⟩];rfl
theorem KM(c:5000<=n)(e:jo a)(d:Int):uR n a d=some (!eR a d):=by
 unfold uR;rw[Rb c a e];simp only[aA,Option.bind];cases h:cR a with
 |false=>simp[eR,h]
 |true=>
  rw[DA c e];simp only[eR,h,Bool.not_true,cond_false,Bool.true_and];rw[B']
theorem Jf(n k:Nat):fi n (k:Int) 1 2=some (decide (1<=k/\k<=2)):=by
 rw[d5];congr 1;by_cases h:1<=k/\k<=2
 ·rw[bA h,bA O]
 rw[bu h,bu O]
theorem JC(c:5000<=n){l:List ay}(h:kn l)(d:Int):yv n l d=some (d9 l d):=by
 obtain⟨o,i⟩:=h;unfold yv;rw[Jf];have bP:=xO (n:=n) (f:=λk=>uR n k d) (p:=λa=> !eR a d) (l:=l) (λx m=>KM c (i x m) d) O O;simp only[aA,Option.bind];rw[bP];unfold d9;have e:(l.any λa=> !eR a d)= !(l.all λa=>eR a d):=by
  rw[ta];simp
 rw[e];cases decide (1<=l.length/\l.length<=2)<;>simp
def wN{k:Type}(p:Nat->k->Bool)(l:List k):Bool:=l.zipIdx.all λq=>p q.2 q.1
theorem Dj{k:Type}{p:Nat->k->Bool}{l:List k}(h: ∀(i:Nat) x,l[i]? =some x->p i x=true):wN p l=true:=
 fy.2 λq a=>h q.2 q.1 (C9.1 a)
theorem CV{k:Type}{p:Nat->k->Bool}{l:List k}{x:k}(h:l[i]? =some x)(a:p i x=false):wN p l=false:=
 jk.2 ⟨(x,i),C9.2 h,by rw[a];simp⟩
theorem KJ{k:Type}{p:Nat->k->Bool}{l:List k}(h:wN p l=true){x:k}(a:l[i]? =some x):p i x=true:=
 fy.1 h (x,i) (C9.2 a)
def k6(a:List Loop):Bool:=wN (λi l=>d9 l.bf (i:Int)&&d9 l.aI (i:Int)) a&&decide (a.length<=4)
def pZ(a:List Loop):Prop:=a.length<=1000/\ ∀l∈a,kn l.bf/\kn l.aI
theorem Sv(m:5000<=n)(h:pZ o):Ds n o=some (k6 o):=by
 obtain⟨D,w⟩:=h;refine ab.eq ?_;unfold Ds;refine pC (l:=o) (p:=λi l=>d9 l.bf (i:Int)&&d9 l.aI (i:Int)) O O (λa i x c e k=>?_) (λa d=>?_) (λ⟨i,x,c,y⟩=>?_)
 ·have aI:=(bS.1 c).1;obtain⟨A,B⟩:=w x (bE c);rw[bA (show(i:Int)<(o.length:Int) by omega)];refine ag (bk c) (ab.aA (λz=>z= !(d9 x.bf (i:Int)&&d9 x.aI (i:Int))) (λj q=>ag (JC m A _) ?_) λz C=>?_)
  ·cases r:d9 x.bf (i:Int) with
   |false=>exact q _ (by rw[r];rfl)
   |true=>exact ag (JC m B _) (q _ (by rw[r];rfl))
  subst C;cases s:(d9 x.bf (i:Int)&&d9 x.aI (i:Int)) with
  |true=>show ab (a _) _;rw[be O];exact e s
  |false=>exact ab.some (k s)
 ·rw[bu (show¬(o.length:Int)<(o.length:Int) by omega)];refine ab.some ?_;unfold k6;rw[Dj d,fe];exact decide_eq_decide.2 O
 unfold k6;rw[CV c y];rfl
theorem Sm(s:5000<=n)(h:pZ o):Df n o=some (k6 o):=by
 obtain⟨G,B⟩:=h;unfold Df;by_cases w:o.length<=4
 ·rw[bA (show(o.length:Int)<=4 by omega)];refine ab.eq ?_;refine pC (l:=o) (p:=λi l=>d9 l.bf (i:Int)&&d9 l.aI (i:Int)) O O (λa i x d q r=>?_) (λa e=>?_) (λ⟨i,x,d,C⟩=>?_)
  ·have aI:=(bS.1 d).1;obtain⟨D,F⟩:=B x (bE d);rw[bA (show(i:Int)<(o.length:Int) by omega)];refine ab.aA (λz=>z=true) (λj c=>bR (c _ rfl)) λz m=>?_;subst m;refine bR (ab.aA (λz=>z= !(d9 x.bf (i:Int)&&d9 x.aI (i:Int))) (λj c=>ag (bk d) (ag (Kh s D _) ?_)) λz m=>?_)
   ·cases y:d9 x.bf (i:Int) with
    |false=>exact c _ (by rw[y];rfl)
    |true=>exact ag (Kh s F _) (c _ (by rw[y];rfl))
   subst m;cases A:(d9 x.bf (i:Int)&&d9 x.aI (i:Int)) with
   |true=>show ab (a _) _;rw[be O];exact q A
   |false=>exact ab.some (r A)
  ·rw[bu (show¬(o.length:Int)<(o.length:Int) by omega)];refine ab.aA (λz=>z=false) (λj c=>b5 (c _ rfl)) λz m=>?_;subst m;refine ab.some ?_;unfold k6;rw[Dj e,bA w];rfl
  unfold k6;rw[CV d C];rfl
 obtain⟨k,rfl⟩: ∃k,n=k+1:=⟨n-1,O⟩
 rw[bu (show¬(o.length:Int)<=4 by omega)];unfold k6;rw[bu w,jl];simp only[bo,aA];cases decide ((0:Int)<(o.length:Int))<;>rfl
def mu:List Int->Int
 | []=>0
 |x::a=>a.foldl max x
def oh:List Int->Int
 | []=>0
 |x::a=>a.foldl min x
theorem Z6(h:l≠[])(x:Int):mu (l++[x])=max (mu l) x:=by
 cases l with
 |nil=>exact bB rfl h
 |cons a l=>simp[mu,List.foldl_append]
theorem Zv(h:l≠[])(x:Int):oh (l++[x])=min (oh l) x:=by
 cases l with
 |nil=>exact bB rfl h
 |cons a l=>simp[oh,List.foldl_append]
theorem OB: ∀(l:List Int) (a:Int),a<=l.foldl max a
 | [],a=>gx _
 |x::l,a=>Int.le_trans (Int.le_max_left a x) (OB l (max a x))
theorem OD: ∀(l:List Int) (a:Int),l.foldl min a<=a
 | [],a=>gx _
 |x::l,a=>Int.le_trans (OD l (min a x)) (Int.min_le_left a x)
def lA(l:List ay)(p:List Int):List Int:=l.map λa=>fQ a p
def dG(l:Loop)(p:List Int):Int:=mu (lA l.bf p)
def en(l:Loop)(p:List Int):Int:=oh (lA l.aI p)
def hS(k:Nat)(p:List Int):Prop:=p.length=k/\k<=4/\Cv (100*40^k) p
theorem rO(h:k<=4):(0:Int)<=100*40^k/\(100:Int)*40^k<=1000000000:=by
 match k,h with
 |0,_=>decide
 |1,_=>decide
 |2,_=>decide
 |3,_=>decide
 |4,_=>decide
theorem pT{l:List ay}(h:d9 l d=true):1<=l.length/\l.length<=2/\ ∀a∈l,cR a=true:=by
 simp only[d9,Bool.and_eq_true,decide_eq_true_eq,List.all_eq_true] at h;refine⟨h.2.1,h.2.2,λa c=>?_⟩
 have:=h.1 a c;simp only[eR,Bool.and_eq_true] at this;exact this.1
theorem Of(c:cR a=true)(d:hS k p)(e:k<=3): -(40*(100*40^k))<=fQ a p/\fQ a p<=40*(100*40^k):=by
 obtain⟨n,o,h⟩:=fM c;obtain⟨q,r,i⟩:=d;obtain⟨l,s⟩:=rO (k:=k) O;have w:(100:Int)<=100*40^k:=by
  match k,e with
  |0,_=>decide
  |1,_=>decide
  |2,_=>decide
  |3,_=>decide
 generalize (100*40^k:Int)=M at*;have y:=Gz (M:=M) l (cs:=a.aT) (xs:=p) h λx m=>i x m;have z:9*M*(p.length:Int)<=9*M*3:=Int.mul_le_mul_of_nonneg_left O O;simp only[cJ] at*;unfold fQ;omega
theorem wZ(d:5000<=n)(e:cR a=true)(c:hS k p):oi n a p=some (fQ a p):=
 Wz d e (by have:=c.1;have:=c.2.1;omega) (rO c.2.1) c.2.2
theorem w3(d:5000<=n)(e:cR a=true)(c:hS k p):nX n a p=some (fQ a p):=
 Xt d e (by have:=c.1;have:=c.2.1;omega) (rO c.2.1) c.2.2
theorem oz{l:List ay}(h:l[i]? =some a):(lA l p)[i]? =some (fQ a p):=by unfold lA;rw[List.getElem?_map,h];rfl
theorem AL(l:List ay)(p:List Int):(lA l p).length=l.length:=c5 ..
theorem Nc{k:Type}{l:List k}(h:1<=i)(a:1<=l.length):l.take i≠[]:=by
 intro e
 have:(l.take i).length=0:=by rw[e];rfl
 rw[cL] at this;omega
theorem M7(h:l[i]? =some x)(a:1<=i):mu (l.take (i+1))=max (mu (l.take i)) x:=by have:=(bS.1 h).1;rw[ek,h];exact Z6 (Nc a O) x
theorem NC(h:l[i]? =some x)(a:1<=i):oh (l.take (i+1))=min (oh (l.take i)) x:=by have:=(bS.1 h).1;rw[ek,h];exact Zv (Nc a O) x
theorem Gp(h:l[0]? =some x):mu (l.take 1)=x:=by
 cases l with
 |nil=>simp at h
 |cons a l=>simp at h;subst h;rfl
theorem Gq(h:l[0]? =some x):oh (l.take 1)=x:=by
 cases l with
 |nil=>simp at h
 |cons a l=>simp at h;subst h;rfl
theorem KC(r:5000<=n){l:Loop}{a:Int}(Q:d9 l.bf d=true)(R:d9 l.aI a=true)(s:hS k p):yM n l p=some (dG l p,en l p):=by
 obtain⟨aK,a2,a3⟩:=pT Q;obtain⟨X,Y,L⟩:=pT R;have C:=bs (O:0<l.bf.length);have D:=bs (O:0<l.aI.length);refine ab.eq ?_;unfold yM;refine ag (bk (i:=0) C) (ag (wZ r (a3 _ (bE C)) s) (ag (bk (i:=0) D) (ag (wZ r (L _ (bE D)) s) ?_)));refine ab.loop (λx:Int×Int=> ∃i:Nat,x.2=i/\1<=i/\i<=l.bf.length/\x.1=mu ((lA l.bf p).take i)) (λx=>l.bf.length-x.2.toNat) ?_ n _ ⟨1,rfl,O,O,(Gp (oz C)).symm⟩ Z;rintro F ⟨x,z⟩ ⟨i,c,m,U,w⟩ W;dsimp only at c w⊢;subst c;refine aQ (λG=>?_) λH=>?_
 ·have g:=bs (O:i<l.bf.length);have e:=M7 (oz (p:=p) g) m;refine ab.aA (λz=>z=mu ((lA l.bf p).take (i+1))) (λj q=>ag (bk g) (ag (wZ r (a3 _ (bE g)) s) (aQ (λh=>q _ ?_) λh=>q _ ?_))) λz c=>?_
  ·rw[e,<-w];omega
  ·rw[e,<-w];omega
  rw[be O];exact W _ ⟨i+1,Z,O,O,c⟩ Z
 have o:i=l.bf.length:=O
 have I:x=dG l p:=by rw[w,o,<-AL l.bf p,c6];rfl
 refine ab.loop (λx:Int×Int=> ∃i:Nat,x.2=i/\1<=i/\i<=l.aI.length/\x.1=oh ((lA l.aI p).take i)) (λx=>l.aI.length-x.2.toNat) ?_ n _ ⟨1,rfl,O,O,(Gq (oz D)).symm⟩ Z;rintro A ⟨y,z⟩ ⟨i,c,m,U,B⟩ K;dsimp only at c B⊢;subst c;refine aQ (λG=>?_) λH=>ab.some ?_
 ·have g:=bs (O:i<l.aI.length);have e:=NC (oz (p:=p) g) m;refine ab.aA (λz=>z=oh ((lA l.aI p).take (i+1))) (λj q=>ag (bk g) (ag (wZ r (L _ (bE g)) s) (aQ (λh=>q _ ?_) λh=>q _ ?_))) λz c=>?_
  ·rw[e,<-B];omega
  ·rw[e,<-B];omega
  rw[be O];exact K _ ⟨i+1,Z,O,O,c⟩ Z
 have o:i=l.aI.length:=O
 rw[I,B,o,<-AL l.aI p,c6];rfl
theorem Xn(h:5000<=n){l:Loop}{a:Int}(H:d9 l.bf d=true)(I:d9 l.aI a=true)(m:hS k p):Du n l p=some (dG l p,en l p):=by
 obtain⟨aK,a2,a3⟩:=pT H;obtain⟨Q,R,G⟩:=pT I;have s:=bs (O:0<l.bf.length);have w:=bs (O:0<l.aI.length);refine ab.eq ?_;unfold Du;refine ag (bk (i:=0) s) (ag (w3 h (a3 _ (bE s)) m) (ag (bk (i:=0) w) (ag (w3 h (G _ (bE w)) m) ?_)));refine ab.loop (λx:Int×Int=> ∃i:Nat,x.2=i/\i<=l.bf.length/\x.1=mu ((lA l.bf p).take (max i 1))) (λx=>l.bf.length-x.2.toNat) ?_ n _ ⟨0,rfl,O,(Gp (oz s)).symm⟩ Z;rintro A ⟨x,z⟩ ⟨i,e,K,o⟩ L;dsimp only at e o⊢;subst e;refine aQ (λB=>?_) λC=>?_
 ·have g:=bs (O:i<l.bf.length);refine ag (bk g) (ag (w3 h (a3 _ (bE g)) m) ?_);rw[be O];refine L _ ⟨i+1,Z,O,?_⟩ Z;dsimp only;rw[show max (i+1) 1=i+1 by omega];cases i with
  |zero=>rw[o,show max 0 1=1 by rfl,dr,Gp (oz g)];omega
  |succ i=>rw[M7 (oz (p:=p) g) O,o,show max (i+1) 1=i+1 by omega]
 have c:i=l.bf.length:=O
 have D:x=dG l p:=by rw[o,c,Nat.max_eq_left O,<-AL l.bf p,c6];rfl
 refine ab.loop (λx:Int×Int=> ∃i:Nat,x.2=i/\i<=l.aI.length/\x.1=oh ((lA l.aI p).take (max i 1))) (λx=>l.aI.length-x.2.toNat) ?_ n _ ⟨0,rfl,O,(Gq (oz w)).symm⟩ Z;rintro q ⟨y,z⟩ ⟨i,e,K,r⟩ F;dsimp only at e r⊢;subst e;refine aQ (λB=>?_) λC=>ab.some ?_
 ·have g:=bs (O:i<l.aI.length);refine ag (bk g) (ag (w3 h (G _ (bE g)) m) ?_);rw[be O];refine F _ ⟨i+1,Z,O,?_⟩ Z;dsimp only;rw[show max (i+1) 1=i+1 by omega];cases i with
  |zero=>rw[r,show max 0 1=1 by rfl,dr,Gq (oz g)];omega
  |succ i=>rw[NC (oz (p:=p) g) O,r,show max (i+1) 1=i+1 by omega]
 have c:i=l.aI.length:=O
 rw[D,r,c,Nat.max_eq_left O,<-AL l.aI p,c6];rfl
theorem AD{l:Loop}(n:d9 l.bf d=true)(o:d9 l.aI b=true)(e:hS k p)(i:k<=3)(A:dG l p<=v/\v<en l p):hS (k+1) (p++[v]):=by
 obtain⟨aK,a2,a3⟩:=pT n;obtain⟨m,B,r⟩:=pT o;have C: -(40*(100*40^k))<=dG l p:=by
  cases c:l.bf with
  |nil=>rw[c] at aK;simp at aK
  |cons a as=>
   have:=(Of (a3 a (by rw[c];simp)) e i).1;unfold dG lA;rw[c];exact Int.le_trans this (OB _ _)
 have D:en l p<=40*(100*40^k):=by
  cases c:l.aI with
  |nil=>rw[c] at m;simp at m
  |cons a as=>
   have:=(Of (r a (by rw[c];simp)) e i).2;unfold en lA;rw[c];exact Int.le_trans (OD _ _) this
 obtain⟨s,F,w⟩:=e;have y:(100*40^(k+1):Int)=40*(100*40^k):=by rw[Int.pow_succ];omega
 have q:=(rO (k:=k) O).1;refine⟨by simp[s],O,λx z=>?_⟩;rw[y];rcases dZ.1 z with h|h
 ·have:=w x h;simp only[cJ] at this⊢;omega
 simp at h;subst h;simp only[cJ];omega
def fm:List Loop->List Int->List (List Int)
 | [],p=>[p]
 |l::bY,p=>(dF (dG l p) (en l p)).flatMap λv=>fm bY (p++[v])
def fw:List Loop->List Int->Int
 | [],_=>1
 |l::bY,p=>1+((dF (dG l p) (en l p)).map λv=>fw bY (p++[v])).sum
theorem nu{k:Type}(f:k->Int): ∀(l:List k),(∀x∈l,1<=f x)->(l.length:Int)<=(l.map f).sum
 | [],_=>aW
 |x::l,h=>by have c:=nu f l λy a=>h y (by simp[a]);have d:=h x aW;simp only[List.map_cons,List.sum_cons,List.length_cons];omega
theorem AU: ∀(bY:List Loop) (p:List Int),1<=fw bY p
 | [],p=>gx _
 |l::bY,p=>by have:=nu (λv=>fw bY (p++[v])) (dF (dG l p) (en l p)) λv _=>AU bY _;simp only[fw];omega
def Fit(a:List Loop):Prop:=a.length<=4/\ ∀(i:Nat) l,a[i]? =some l->d9 l.bf (i:Int)=true/\d9 l.aI (i:Int)=true
theorem AW{nest:List Loop}(h:k6 nest=true):Fit nest:=by
 simp only[k6,Bool.and_eq_true,decide_eq_true_eq] at h;refine⟨h.2,λi l a=>?_⟩
 have:=KJ h.1 a;simpa[Bool.and_eq_true] using this
theorem zA{l:Loop}{q:List Loop}(h:o.drop k=l::q):o[k]? =some l/\o.drop (k+1)=q/\k<o.length:=by
 have a:(o.drop k)[0]? =some l:=by rw[h];rfl
 rw[fT,oD] at a;refine⟨a,?_,(bS.1 a).1⟩
 have:(o.drop k).drop 1=q:=by rw[h];rfl
 rwa [List.drop_drop] at this
theorem z8(h:o.drop k=[])(a:k<=o.length):k=o.length:=by
 have:(o.drop k).length=0:=by rw[h];rfl
 rw[fq] at this;omega
theorem nc(p:List Int)(h:p.length<=1000):app [] p=some p:=by rw[cY bQ];rfl
theorem Mo(l:List Int)(f:Int->Int)(v:Int):((l++[v]).map f).sum=(l.map f).sum+f v:=aW
theorem ZZ{bf:Int}(h:bf<=v):((dF bf v).length:Int)=v-bf:=by unfold dF;simp;omega
theorem Ln{c:List Loop}(C:Fit c): ∀(bY:List Loop) (n k:Nat) (p:List Int) (a:Int),5000+bY.length<=n->c.drop k=bY->k<=c.length->hS k p->0<=a->a<=1200->
  ab (qU n c p a) (λr=>(fw bY p<=a->r=fw bY p)/\(a<fw bY p->a<r)/\1<=r/\r<=a+1)
 | [],n,k,p,a,K,D,L,o,E,M=>by
  obtain⟨n,rfl⟩: ∃j,n=j+1:=⟨n-1,O⟩
  have N:=z8 D L;have q:=o.1;unfold qU;rw[bA (show(p.length:Int)=(c.length:Int) by omega)];exact ab.some ⟨λ_=>rfl,λh=>by simp only[fw] at h;omega,O,O⟩
 |l::bY,n,k,p,a,K,D,L,o,E,M=>by
  obtain⟨n,rfl⟩: ∃j,n=j+1:=⟨n-1,O⟩
  obtain⟨Q,P,d3⟩:=zA D;obtain⟨R,U⟩:=C.2 k l Q;have q:=o.1;have F:k<=3:=by have:=C.1;omega
  simp only[List.length_cons] at K;unfold qU;rw[bu (show¬(p.length:Int)=(c.length:Int) by omega)];refine b5 (ag (x:=l) (by rw[q];exact bk Q) (ag (KC O R U o) ?_));let f:Int->Int:=λv=>fw bY (p++[v]);have s: ∀v,1<=f v:=λv=>AU _ _;have S:fw (l::bY) p=1+((dF (dG l p) (en l p)).map f).sum:=rfl;refine ab.loop (λx:Int×Int=>dG l p<=x.2/\(x.2<=en l p\/x.2=dG l p)/\(1+((dF (dG l p) x.2).map f).sum<=a->x.1=1+((dF (dG l p) x.2).map f).sum)/\(a<1+((dF (dG l p) x.2).map f).sum->a<x.1)/\1<=x.1/\x.1<=a+1)
   (λx=>(a+1-x.1).toNat) ?_ n _ ⟨gx _,.inr rfl,λ_=>by rw[lL (gx _)];rfl,λh=>by rw[lL (gx _)] at h;simp at h;dsimp only;omega,Z,Z⟩ Z
  rintro G ⟨x,v⟩ ⟨B,W,H,I,X,Y⟩ T;dsimp only at B W H I X Y⊢;refine ab.aA (λz=>z=decide (v<en l p/\x<=a)) (λj b=>aQ (λh=>b _ ?_) λh=>b _ ?_) λz V=>?_
  ·by_cases e:x<=a
   ·rw[bA e,bA ⟨h,e⟩]
   rw[bu e,bu λh=>e h.2]
  ·rw[bu λg=>h g.1]
  subst V;refine aQ (λ⟨i,e⟩=>?_) λw=>ab.some ?_
  ·have A:x=1+((dF (dG l p) v).map f).sum:=H (by apply Int.not_lt.1;intro h;have:=I h;omega);have m:=AD R U o F ⟨B,i⟩;have e1:wr (a-x)=a-x:=by rw[be O]
   rw[e1];refine ag (nc p O) (ag (cY bQ) (cc (Ln C bY n (k+1) (p++[v]) (a-x) O P O m O O) λr ⟨sQ,vb,aht,ahu⟩=>?_));have agl:v<en l p:=i;have PW: -1000000000<=v/\v<=1000000000:=by
    have h9:=m.2.2 v aW;have kU:=rO m.2.1;simp only[cJ] at h9;omega
   rw[be (n:=v+1) O,be (n:=x+r) O];have t:1+((dF (dG l p) (v+1)).map f).sum=x+f v:=by rw[t6 B,Mo,A];omega
   refine T _ ⟨Z,.inl Z,?_,?_,Z,Z⟩ Z
   ·dsimp only;rw[t];intro h
    have:r=f v:=sQ (O:f v<=a-x);omega
   dsimp only;rw[t];intro h
   have:a-x<r:=vb (O:a-x<f v);omega
  have d:1+((dF (dG l p) v).map f).sum<=fw (l::bY) p/\(en l p<=v->1+((dF (dG l p) v).map f).sum=fw (l::bY) p):=by
   rw[S];by_cases h:v<en l p
   ·refine⟨?_,λg=>O⟩;rw[zk B h,fU,yG,List.map_cons,List.sum_cons]
    have:=nu f (dF (v+1) (en l p)) λy _=>s y
    have:=s v;omega
   have:dF (dG l p) v=dF (dG l p) (en l p):=by
    rcases W with u|u
    ·rw[show v=en l p by omega]
    subst u;rw[lL (gx _),lL O]
   rw[this];exact⟨gx _,λ_=>rfl⟩
  refine⟨λh=>?_,λh=>?_,X,Y⟩
  ·have e:=H O;rw[e];apply d.2;apply Int.not_lt.1;intro i;exact w ⟨i,O⟩
  apply Int.not_le.1;intro e;have i:en l p<=v:=by apply Int.not_lt.1;intro i;exact w ⟨i,e⟩
  have:=I (by rw[d.2 i];exact h);omega
theorem DX{a:List Loop}(B:Fit a): ∀(bY:List Loop) (n k:Nat) (p:List Int) (out:List (List Int)),5000+bY.length<=n->a.drop k=bY->k<=a.length->hS k p->fw bY p<=1200->out.length<=120->
  ab (pz n out a p) (λr=>(out.length+(fm bY p).length<=120->r=out++fm bY p)/\(120<out.length+(fm bY p).length->120<r.length))
 | [],n,k,p,out,Q,C,R,q,U,P=>by
  obtain⟨n,rfl⟩: ∃j,n=j+1:=⟨n-1,O⟩
  have S:=z8 C R;have s:=q.1;have D:=B.1;unfold pz;rw[bA (show(p.length:Int)=(a.length:Int) by omega)];refine bR (ag (nc p O) (ag (cY bQ) (ab.some ⟨λ_=>rfl,λh=>by simp[fm] at h ⊢; omega⟩)))
 |l::bY,n,k,p,out,Q,C,R,q,U,P=>by
  obtain⟨n,rfl⟩: ∃j,n=j+1:=⟨n-1,O⟩
  obtain⟨W,T,d3⟩:=zA C;obtain⟨X,Y⟩:=B.2 k l W;have s:=q.1;have D:=B.1;have F:k<=3:=O
  simp only[List.length_cons] at Q;unfold pz;rw[bu (show¬(p.length:Int)=(a.length:Int) by omega)];refine b5 (ag (x:=l) (by rw[s];exact bk W) (ag (KC O X Y q) ?_));let f:Int->Int:=λv=>fw bY (p++[v]);have i: ∀v,1<=f v:=λv=>AU _ _;have V:fw (l::bY) p=1+((dF (dG l p) (en l p)).map f).sum:=rfl;let g:Int->List (List Int):=λv=>fm bY (p++[v]);have xm:fm (l::bY) p=(dF (dG l p) (en l p)).flatMap g:=rfl;have b:dG l p<=en l p->en l p-dG l p<=1199:=λG=>by
   have:=nu f (dF (dG l p) (en l p)) λy _=>i y
   have:=ZZ G;omega
  refine ab.loop (λx:List (List Int)×Int=>dG l p<=x.2/\(x.2<=en l p\/x.2=dG l p)/\(out.length+((dF (dG l p) x.2).flatMap g).length<=120->x.1=out++(dF (dG l p) x.2).flatMap g)/\(120<out.length+((dF (dG l p) x.2).flatMap g).length->120<x.1.length))
   (λx=>(en l p-x.2).toNat) ?_ n _ ⟨gx _,.inr rfl,λ_=>by rw[lL (gx _)];simp,λh=>by rw[lL (gx _)] at h;simp at h;omega⟩ Z
  rintro H ⟨x,v⟩ ⟨w,t,I,K⟩ b7;dsimp only at w t I K⊢;refine ab.aA (λz=>z=decide (v<en l p/\x.length<=120)) (λj u=>aQ (λh=>u _ ?_) λh=>u _ ?_) λz eJ=>?_
  ·by_cases d:x.length<=120
   ·rw[bA (show(x.length:Int)<=120 by omega),bA ⟨h,d⟩]
   rw[bu (show¬(x.length:Int)<=120 by omega),bu λh=>d h.2]
  ·rw[bu λE=>h E.1]
  subst eJ;refine aQ (λ⟨e,d⟩=>?_) λA=>ab.some ?_
  ·have m:x=out++(dF (dG l p) v).flatMap g:=I (by apply Nat.not_lt.1;intro h;have:=K h;omega);have o:=AD X Y q F ⟨w,e⟩;have L:f v<=1200:=by
    rw[V,zk w e,fU,yG,List.map_cons,List.sum_cons] at U
    have:=nu f (dF (v+1) (en l p)) λy _=>i y
    have:=nu f (dF (dG l p) v) λy _=>i y;omega
   refine ag (nc p O) (ag (cY bQ) (cc (DX B bY n (k+1) (p++[v]) x O T O o L d) λr ⟨sQ,vb⟩=>?_));have PW: -1000000000<=v/\v<=1000000000:=by
    have h9:=o.2.2 v aW;have kU:=rO o.2.1;simp only[cJ] at h9;omega
   rw[be (n:=v+1) O];have M:(dF (dG l p) (v+1)).flatMap g=(dF (dG l p) v).flatMap g++g v:=by rw[t6 w,oE];simp
   refine b7 _ ⟨Z,.inl Z,?_,?_⟩ Z
   ·dsimp only;rw[M];intro h;simp only[List.length_append] at h;have cD:x.length=out.length+((dF (dG l p) v).flatMap g).length:=by rw[m,dD]
    rw[sQ (O:x.length+(g v).length<=120),m,ih]
   dsimp only;rw[M];intro h;simp only[List.length_append] at h;have cD:x.length=out.length+((dF (dG l p) v).flatMap g).length:=by rw[m,dD]
   exact vb (O:120<x.length+(g v).length)
  have c:((dF (dG l p) v).flatMap g).length<=(fm (l::bY) p).length/\(en l p<=v->(dF (dG l p) v).flatMap g=fm (l::bY) p):=by
   rw[xm];by_cases h:v<en l p
   ·refine⟨?_,λE=>O⟩;rw[zk w h,oE,dD];omega
   have:dF (dG l p) v=dF (dG l p) (en l p):=by
    rcases t with N|N
    ·rw[show v=en l p by omega]
    subst N;rw[lL (gx _),lL O]
   rw[this];exact⟨cO _,λ_=>rfl⟩
  refine⟨λh=>?_,λh=>?_⟩
  ·have d:=I O;rw[d,c.2];apply Int.not_lt.1;intro e;exact A ⟨e,by rw[d,dD];omega⟩
  apply Nat.not_le.1;intro d;have e:en l p<=v:=by apply Int.not_lt.1;intro e;exact A ⟨e,d⟩
  have:=K (by rw[c.2 e];exact h);omega
theorem LA{a:List Loop}(B:Fit a): ∀(bY:List Loop) (n k:Nat) (p:List Int) (st:Int) (out:List (List Int)),5000+bY.length<=n->a.drop k=bY->k<=a.length->hS k p->0<=st->st<=1199->out.length<=120->
  ab (qz n ⟨a,st,out⟩ p) (λr=>(st+fw bY p<=1200/\out.length+(fm bY p).length<=120->r=(true,⟨a,st+fw bY p-1,out++fm bY p⟩))/\(¬(st+fw bY p<=1200/\out.length+(fm bY p).length<=120)->r.1=false))
 | [],n,k,p,st,out,R,D,U,m,W,X,q=>by
  obtain⟨n,rfl⟩: ∃j,n=j+1:=⟨n-1,O⟩
  have o1:=z8 D U;have s:=m.1;have F:=B.1;unfold qz;dsimp only;rw[bA (show(p.length:Int)=(a.length:Int) by omega)];have d:jB p=some p:=by unfold jB;rw[a1 O]
  refine bR (ag d (ag (cY bQ) (ab.some ⟨λh=>?_,λh=>?_⟩)))
  ·simp only[fw,fm,List.length_singleton] at h⊢;rw[bA bQ,show st+1-1=st by omega]
  simp only[fw,fm,List.length_singleton] at h⊢;exact bu bQ
 |l::bY,n,k,p,st,out,R,D,U,m,W,X,q=>by
  obtain⟨n,rfl⟩: ∃j,n=j+1:=⟨n-1,O⟩
  obtain⟨Y,d2,d3⟩:=zA D;obtain⟨b,t⟩:=B.2 k l Y;have s:=m.1;have F:=B.1;have G:k<=3:=O
  simp only[List.length_cons] at R;unfold qz;dsimp only;rw[bu (show¬(p.length:Int)=(a.length:Int) by omega)];refine b5 (ag (x:=l) (by rw[s];exact bk Y) (ag (Xn O b t m) ?_));let f:Int->Int:=λv=>fw bY (p++[v]);have c: ∀v,1<=f v:=λv=>AU _ _;have u:fw (l::bY) p=1+((dF (dG l p) (en l p)).map f).sum:=rfl;let g:Int->List (List Int):=λv=>fm bY (p++[v]);have E:fm (l::bY) p=(dF (dG l p) (en l p)).flatMap g:=rfl;refine ab.loop (λx:List Loop×Int×List (List Int)×Int=>x.1=a/\dG l p<=x.2.2.2/\(x.2.2.2<=en l p\/x.2.2.2=dG l p)/\x.2.1=st+((dF (dG l p) x.2.2.2).map f).sum/\x.2.2.1=out++(dF (dG l p) x.2.2.2).flatMap g/\0<=x.2.1/\x.2.1<=1199/\x.2.2.1.length<=120)
   (λx=>(1200-x.2.1).toNat) ?_ n _ ⟨rfl,gx _,.inr rfl,by dsimp only;rw[lL (gx _)];simp,by dsimp only;rw[lL (gx _)];simp,W,X,q⟩ Z
  rintro H ⟨I,x,o,v⟩ ⟨M,w,N,C,i,i5,i6,P⟩ b7;dsimp only at M w N C i i5 i6 P⊢;subst M;have o4:o.length=out.length+((dF (dG l p) v).flatMap g).length:=by rw[i,dD]
  refine aQ (λK=>?_) λK=>ab.some ?_
  ·have e:=AD b t m G ⟨w,K⟩;have L:fw (l::bY) p≥1+((dF (dG l p) v).map f).sum+f v/\(fm (l::bY) p).length≥((dF (dG l p) v).flatMap g).length+(g v).length:=by
    rw[u,E,zk w K,fU,yG,List.map_cons,List.sum_cons,oE,dD,List.flatMap_cons,dD]
    have:=nu f (dF (v+1) (en l p)) λy _=>c y;constructor
    ·omega
    omega
   have PW: -1000000000<=v/\v<=1000000000:=by
    have h9:=e.2.2 v aW;have kU:=rO e.2.1;simp only[cJ] at h9;omega
   have e1:wr (x+1)=x+1:=by rw[be O]
   have e2:wr (x+1+1)=x+1+1:=by rw[be O]
   have me:wr (v+1)=v+1:=by rw[be O]
   rw[e1,e2,me];refine ab.aA (λz:List Loop×Int×List (List Int)×Bool=>(z.2.2.2=false->z.1=I/\x+f v<=1199/\o.length+(g v).length<=120/\z.2.1=x+f v/\z.2.2.1=o++g v)/\(z.2.2.2=true-> ¬(st+fw (l::bY) p<=1200/\out.length+(fm (l::bY) p).length<=120)))
    (λj Q=>aQ (λh=>Q _ ⟨λmf=>(by cases mf),λ_=>?_⟩) λh=>?_) λz eJ=>?_
   ·have:=c v;omega
   ·have d:jB p=some p:=by unfold jB;rw[a1 O]
    refine ag d (ag (cY bQ) (cc (LA B bY n (k+1) (p++[v]) (x+1) o O d2 O e O O P) λr ⟨sQ,vb⟩=>?_));by_cases d:x+1+f v<=1200/\o.length+(g v).length<=120
    ·rw[sQ d];exact Q _ ⟨λ_=>⟨rfl,O,d.2,show x+1+f v-1=x+f v by omega,rfl⟩,λh=>(by cases h)⟩
    have A:=vb d;obtain⟨ahv,⟨ed,ahw,ro⟩⟩:=r;dsimp only at A⊢;subst A;exact Q _ ⟨λh=>(by cases h),λ_=>O⟩
   obtain⟨ahz,ahA,ahB,ahj⟩:=z;obtain⟨S,T⟩:=eJ;dsimp only at S T⊢;cases ahj with
   |true=>exact ab.some ⟨λh=>bB h (T rfl),λ_=>rfl⟩
   |false=>
    obtain⟨rfl,ahe,Q9,Q',V⟩:=S rfl;refine b7 _ ⟨rfl,Z,.inl Z,?_,?_,by dsimp only;have:=c v;omega,Z,?_⟩ (by dsimp only;have:=c v;omega)
    ·dsimp only;rw[t6 w,Mo,Q',C];omega
    ·dsimp only;rw[V,i,t6 w,oE];simp
    dsimp only;rw[V,dD];exact Q9
  have:dF (dG l p) v=dF (dG l p) (en l p):=by
   rcases N with q|q
   ·rw[show v=en l p by omega]
   subst q;rw[lL (gx _),lL O]
  rw[this] at C i o4;rw[<-E] at i o4;refine⟨λh=>?_,λh=>?_⟩
  ·rw[i,C,u,show st+(1+((dF (dG l p) (en l p)).map f).sum)-1=st+((dF (dG l p) (en l p)).map f).sum by omega]
  exact bB ⟨O,O⟩ h
def jL(a:List Loop):Option (List (List Int)):=if k6 a=true/\fw a []<=1200/\(fm a []).length<=120 then some (fm a []) else none
def rU:Option (List (List Int))->List (List Int)×Bool
 |none=>([],false)
 |some l=>(l,true)
theorem ya:hS 0 []:=⟨rfl,O,λx h=>by cases h⟩
theorem Sg(k:6000<=n)(h:pZ o):CW n o=some (rU (jL o)):=by
 refine ab.eq ?_;unfold CW;refine ag (Sv O h) ?_;unfold jL;cases d:k6 o with
 |false=>exact ab.some (by simp[rU])
 |true=>
  have c:=AW d;refine cc (LA c o n 0 [] 0 [] (by have:=c.1;omega) rfl O ya O O aW) λr ⟨e,i⟩=>?_;by_cases a:(0:Int)+fw o []<=1200/\([]:List (List Int)).length+(fm o []).length<=120
  ·rw[e a,a1 ⟨rfl,O,by simpa using a.2⟩];exact ab.some (by simp[rU])
  rw[i a,a6 λh=>a ⟨O,by simpa using h.2.2⟩];exact ab.some rfl
theorem Sd(p:6000<=n)(h:pZ o):CR n o=some (rU (jL o)):=by
 refine ab.eq ?_;unfold CR;refine ab.aA (λz=>z= !(k6 o&&decide (fw o []<=1200))) (λj l=>ag (Sm O h) ?_) λz m=>?_
 ·cases c:k6 o with
  |false=>exact l _ (by rw[c];rfl)
  |true=>
   have d:=AW c;refine cc (Ln d o n 0 [] 1200 (by have:=d.1;omega) rfl O ya O O) λr ⟨e,i,q,s⟩=>l _ ?_;rw[c,fe];by_cases a:fw o []<=1200
   ·rw[bA a,bu (by rw[e a];omega)];rfl
   rw[bu a,bA (i O)];rfl
 subst m;unfold jL;cases c:k6 o with
 |false=>exact ab.some (by simp[rU])
 |true=>
  have d:=AW c;by_cases a:fw o []<=1200
  ·rw[bA a];refine cc (DX d o n 0 [] [] (by have:=d.1;omega) rfl O ya a aW) λr ⟨e,i⟩=>?_;by_cases k:(fm o []).length<=120
   ·rw[e (by simpa using k),a1 ⟨rfl,a,k⟩];refine aQ (λh=>bB h bQ) λ_=>ab.some (by simp[rU])
   have:=i bQ;rw[a6 λh=>k h.2.2];exact aQ (λ_=>ab.some rfl) λh=>bB h O
  rw[bu a,a6 λh=>a h.2.1];exact ab.some rfl
def nw(s:List UInt8):Bool:=match s with
 | [b]=>decide (65<=b.toNat/\b.toNat<=68)
 |_=>false
theorem Ek(h:s.length≠1):nw s=false:=by
 match s,h with
 | [],_=>rfl
 | [b],h=>exact bB rfl h
 |_::_::_,_=>rfl
theorem GU(h:s.length=1): ∃b,s=[b]:=by
 match s,h with
 | [b],_=>exact⟨b,rfl⟩
theorem w2(b:UInt8)(k:Nat)(a:k<256):(b=UInt8.ofNat k)↔b.toNat=k:=by
 constructor
 ·intro h;rw[h];simp;omega
 intro h;rw[<-h];simp
theorem Ts(b:UInt8):Lib.contains [65,66,67,68] [b]=decide (65<=b.toNat/\b.toNat<=68):=by
 have h:(b=65)↔b.toNat=65:=w2 b 65 O;have i:(b=66)↔b.toNat=66:=w2 b 66 O;have k:(b=67)↔b.toNat=67:=w2 b 67 O;have l:(b=68)↔b.toNat=68:=w2 b 68 O;by_cases a:b=65
 ·subst a;decide
 by_cases c:b=66
 ·subst c;decide
 by_cases d:b=67
 ·subst d;decide
 by_cases e:b=68
 ·subst e;decide
 rw[h] at a;rw[i] at c;rw[k] at d;rw[l] at e;rw[bu O];rw[<-h] at a;rw[<-i] at c;rw[<-k] at d;rw[<-l] at e;simp[Lib.contains,Lib.index,a,c,d,e]
theorem JY(n:Nat)(s:List UInt8):yT n s=some (nw s):=by
 unfold yT;by_cases h:s.length=1
 ·obtain⟨b,rfl⟩:=GU h;simp only[aA,xT];rw[a1 aW,Ts];rfl
 rw[bu (show¬(s.length:Int)=1 by omega),Ek h];rfl
theorem KG(b:UInt8):Op.bytesLess [b] [65]=decide (b.toNat<65):=by simp[Op.bytesLess,UInt8.lt_iff_toNat_lt]
theorem KZ(b:UInt8):(Op.bytesLess [b] [68]||[b]==[68])=decide (b.toNat<=68):=by
 have e:(b=68)↔b.toNat=68:=w2 b 68 O;by_cases h:b=68
 ·subst h;decide
 have c:b.toNat≠68:=λa=>h (e.2 a)
 have:([b]==[(68:UInt8)])=false:=by simp[h]
 rw[this,Bool.or_false];simp only[Op.bytesLess,Bool.and_false,Bool.or_false,UInt8.lt_iff_toNat_lt];apply decide_eq_decide.2;show b.toNat<68↔_;omega
def fR(a:bZ)(d:Int):Bool:=a.bC.all (λx=>eR x d)&&(nw a.array&&decide (1<=a.bC.length/\a.bC.length<=2))
theorem Xu(c:5000<=n)(e:jo a)(d:Int):x0 n a d=some (!eR a d):=KM c e d
theorem JD(c:5000<=n){a:bZ}(h:kn a.bC)(d:Int):yw n a d=some (fR a d):=by
 obtain⟨o,i⟩:=h;unfold yw;rw[JY,Jf];have bP:=xO (n:=n) (f:=λk=>x0 n k d) (p:=λa=> !eR a d) (l:=a.bC) (λx m=>Xu c (i x m) d) O O;simp only[aA,Option.bind];rw[bP];unfold fR;have e:(a.bC.any λa=> !eR a d)= !(a.bC.all λa=>eR a d):=by
  rw[ta];simp
 rw[e];cases nw a.array<;>cases decide (1<=a.bC.length/\a.bC.length<=2)<;>simp
theorem JA(B:5000<=n){a:bZ}(r:kn a.bC)(d:Int):ym n a d=some (fR a d):=by
 obtain⟨I,F⟩:=r;refine ab.eq ?_;unfold ym;refine pC (l:=a.bC) (p:=λ_ a=>eR a d) O O (λk i x o w y=>?_) (λk q=>?_) (λ⟨i,x,o,G⟩=>?_)
 ·have aI:=(bS.1 o).1;have hm:=F x (bE o);rw[bA (show(i:Int)<(a.bC.length:Int) by omega)];refine bR (ab.aA (λz=>z= !eR x d) (λj m=>ag (bk o) (ag (Ip B x hm) ?_)) λz A=>?_)
  ·cases r:cR x with
   |false=>exact m _ (by unfold eR;rw[r];rfl)
   |true=>exact ag (yn B hm) (m _ (by unfold eR;rw[r,B'];simp))
  subst A;cases s:eR x d with
  |true=>show ab (k _) _;rw[be O];exact w s
  |false=>exact ab.some (y s)
 ·rw[bu (show¬(a.bC.length:Int)<(a.bC.length:Int) by omega)];have e:a.bC.all (λa=>eR a d)=true:=fy.2 λc H=>by obtain⟨i,aI⟩:=lh H;exact q i c aI
  unfold fR;rw[e,fe];refine b5 (ab.aA (λz=>z=(nw a.array&&decide (1<=a.bC.length/\a.bC.length<=2))) (λj m=>?_) λz A=>ab.some A);by_cases h:a.array.length=1
  ·rw[bA (show(a.array.length:Int)=1 by omega)];obtain⟨b,s⟩:=GU h;rw[s] at m⊢;rw[KG,KZ];show ab (bif _ then _ else _) _;simp only[nw] at m⊢;by_cases C:b.toNat<65
   ·rw[bA C];exact m _ (by rw[bu (show¬(65<=b.toNat/\b.toNat<=68) by omega)];rfl)
   rw[bu C];by_cases D:b.toNat<=68
   ·rw[bA D];rw[bA (O:65<=b.toNat/\b.toNat<=68)] at m⊢;refine aQ (λh=>m _ ?_) λh=>m _ ?_
    ·by_cases K:a.bC.length<=2
     ·rw[bA (show(a.bC.length:Int)<=2 by omega),bA O];rfl
     rw[bu (show¬(a.bC.length:Int)<=2 by omega),bu O];rfl
    rw[bu O];rfl
   rw[bu D];exact m _ (by rw[bu (show¬(65<=b.toNat/\b.toNat<=68) by omega)];rfl)
  rw[bu (show¬(a.array.length:Int)=1 by omega)];exact m _ (by rw[Ek h];rfl)
 unfold fR;rw[jk.2 ⟨x,bE o,by rw[G];simp⟩];rfl
def hg(a:ay):Bool:=decide (a.aT.length=0)&&decide (a.const=0)
def jD(a:bZ):Bool:=decide (a.array=[])&&decide (a.bC.length=0)
theorem Bm(k:Nat):decide ((k:Int)=0)=decide (k=0):=decide_eq_decide.2 O
theorem To(n:Nat)(a:ay):yu n a=some (hg a):=by unfold yu hg;rw[Bm];cases decide (a.aT.length=0)<;>rfl
theorem Ug(n:Nat)(a:ay):vG n a=some (hg a):=by unfold vG hg;rw[Bm];cases decide (a.aT.length=0)<;>rfl
theorem Tp(n:Nat)(a:bZ):sG n a=some (jD a):=by unfold sG jD;rw[Bm];cases decide (a.array=[])<;>rfl
theorem T1(n:Nat)(a:bZ):vk n a=some (jD a):=by unfold vk jD;rw[Bm];cases decide (a.array=[])<;>rfl
def eh(e:Expr)(d:Int):Bool:=
 if e.kind=2 then decide (e.num=0)&&(jD e.read&&eR e.index d)
 else if e.kind=3 then decide (e.num=0)&&(hg e.index&&fR e.read d)
 else if e.kind=1 then decide (0<=e.num/\e.num<=99)&&(hg e.index&&jD e.read)
 else decide (e.num=0)&&(hg e.index&&jD e.read)
def fs(k:Int):Int:=if k=1\/k=2\/k=3 then 0 else if k=4\/k=5\/k=6 then 2 else-1
theorem T6(n:Nat)(k:Int):Ad n k=some (fs k):=by
 unfold Ad fs;by_cases a:k=1
 ·subst a;rfl
 by_cases c:k=2
 ·subst c;rfl
 by_cases d:k=3
 ·subst d;rfl
 by_cases e:k=4
 ·subst e;rfl
 by_cases h:k=5
 ·subst h;rfl
 by_cases i:k=6
 ·subst i;rfl
 simp[aA,a,c,d,e,h,i]
theorem UZ(a:5000<=n){e:Expr}(c:jo e.index)(h:kn e.read.bC)(d:Int):AA n e d=some (eh e d):=by
 unfold AA eh;rw[T1,Ug,Ip a _ c,yn a c,JA a h];by_cases cE:e.kind=2
 ·rw[a1 cE,bA cE];simp only[aA,Option.bind,cond_true,eR];cases decide (e.num=0)<;>cases jD e.read<;>cases cR e.index<;>simp
 rw[a6 cE,bu cE];by_cases eg:e.kind=3
 ·rw[a1 eg,bA eg];simp only[aA,Option.bind,cond_true,cond_false];cases decide (e.num=0)<;>cases hg e.index<;>simp
 rw[a6 eg,bu eg];by_cases eO:e.kind=1
 ·rw[a1 eO,bA eO];simp only[aA,Option.bind,cond_true,cond_false];by_cases i:0<=e.num<;>by_cases k:e.num<=99<;>cases hg e.index<;>simp[i,k]
 rw[a6 eO,bu eO];simp only[aA,Option.bind,cond_false];cases decide (e.num=0)<;>cases hg e.index<;>simp
end
section
def wm:Nat->Expr->Prop
 |0,_=>True
 |L+1,e=>e.bm.length<=1000/\jo e.index/\kn e.read.bC/\ ∀k∈e.bm,wm L k
def dC:Nat->Expr->Int->Bool
 |0,_,_=>false
 |L+1,e,d=>decide (fs e.kind=e.bm.length)&&(eh e d&&e.bm.all λk=>dC L k d)
def dA:Nat->Expr->Int
 |0,_=>1
 |L+1,e=>1+(e.bm.map (dA L)).sum
theorem pj(k:Int):fs k<=2:=by unfold fs;split;omega;split<;>omega
theorem J2(d:Int): ∀(L n:Nat) (e:Expr),5000+L<=n->L<=1000->wm L e->qW (n+1) e d (L:Int)=some (dC L e d)
 |0,n,e,_,_,_=>by unfold qW;rfl
 |L+1,n,e,K,Q,A=>by
  obtain⟨R,B,C,D⟩:=A;unfold qW;refine ab.eq ?_;refine ab.aA (λz=>z= !(decide (fs e.kind=e.bm.length)&&eh e d)) (λj s=>aQ (λh=>O) λh=>ag (T6 n _) (eS (λh=>s _ ?_) λh=>ag (UZ O B C d) (s _ ?_))) λz F=>?_
  ·rw[bu h];rfl
  ·rw[bA h];rfl
  subst F;unfold dC;cases w:(decide (fs e.kind=e.bm.length)&&eh e d) with
  |false=>exact ab.some (by rw[<-lW,w];rfl)
  |true=>
   rw[<-lW,w,fe];refine b5 ?_;obtain⟨n,rfl⟩: ∃j,n=j+1:=⟨n-1,O⟩
   have G:wr (((L+1:Nat):Int)-1)=(L:Int):=by rw[be O];omega
   rw[G];refine pC (l:=e.bm) (p:=λ_ k=>dC L k d) O O (λa i x m q r=>?_) (λa o=>?_) (λ⟨i,x,m,H⟩=>?_)
   ·have aI:=(bS.1 m).1;rw[bA (show(i:Int)<(e.bm.length:Int) by omega)];refine bR (ag (bk m) (ag (J2 d L n x O O (D x (bE m))) ?_));cases y:dC L x d with
    |true=>show ab (a _) _;rw[be O];exact q y
    |false=>exact ab.some (r y)
   ·rw[bu (show¬(e.bm.length:Int)<(e.bm.length:Int) by omega)];refine ab.some ?_;exact(fy.2 λc I=>by obtain⟨i,aI⟩:=lh I;exact o i c aI).symm
   exact(jk.2 ⟨x,bE m,by rw[H];simp⟩).symm
theorem ra: ∀(L:Nat) (e:Expr),1<=dA L e
 |0,_=>gx _
 |L+1,e=>by have:=nu (dA L) e.bm λk _=>ra L k;simp only[dA];omega
theorem AZ{k:Type}(f:k->Int)(M:Int): ∀(l:List k),(∀x∈l,f x<=M)->(l.map f).sum<=l.length*M
 | [],_=>aW
 |x::l,h=>by have c:=AZ f M l λy a=>h y (by simp[a]);have d:=h x aW;simp only[List.map_cons,List.sum_cons,List.length_cons,Int.natCast_add,Int.add_mul];omega
variable {d c:Int}{n i k:Nat}{s:Stmt}{r:List cg}{x:Part}{a:bZ}{p:Prog}{q m:List Int}
theorem g'{L:Nat}{e:Expr}(h:dC (L+1) e d=true):fs e.kind=e.bm.length/\eh e d=true/\ ∀k∈e.bm,dC L k d=true:=by simp only[dC,Bool.and_eq_true,decide_eq_true_eq,List.all_eq_true] at h;exact⟨h.1,h.2.1,h.2.2⟩
theorem AY: ∀{L:Nat} {e:Expr} {d:Int},dC L e d=true->dA L e+1<=2^L
 |0,e,d,h=>by cases h
 |L+1,e,d,h=>by
  obtain⟨i,_,a⟩:=g' h;have l:=AZ (dA L) ((2:Int)^L-1) e.bm λk c=>by have:=AY (a k c);omega
  have m:=pj e.kind;have n:(e.bm.length:Int)*((2:Int)^L-1)<=2*((2:Int)^L-1):=by
   refine Int.mul_le_mul_of_nonneg_right O ?_
   have:(0:Int)<2^L:=Int.pow_pos O;omega
  simp only[dA];rw[Int.pow_succ];omega
theorem J3{d:Int}: ∀(L n:Nat) (e:Expr),5000+L<=n->L<=5->dC L e d=true->sS (n+1) e (L:Int)=some (dA L e)
 |0,n,e,_,_,h=>by cases h
 |L+1,n,e,I,s,h=>by
  obtain⟨K,_,p⟩:=g' h;have Q:=pj e.kind;have q: ∀k∈e.bm,dA L k<=40:=λk c=>by
   have R:=AY (p k c);have U:(2:Int)^L<=40:=by
    match L,s with
    |0,_=>decide
    |1,_=>decide
    |2,_=>decide
    |3,_=>decide
    |4,_=>decide
   omega
  unfold sS;refine ab.eq ?_;obtain⟨n,rfl⟩: ∃j,n=j+1:=⟨n-1,O⟩
  have w:wr (((L+1:Nat):Int)-1)=(L:Int):=by rw[be O];omega
  rw[w];refine ab.loop (λx:Int×Int=> ∃i:Nat,x.2=i/\i<=e.bm.length/\x.1=1+((e.bm.take i).map (dA L)).sum) (λx=>e.bm.length-x.2.toNat) ?_ (n+1) _ ⟨0,rfl,O,aW⟩ bQ;rintro l ⟨x,k⟩ ⟨i,c,W,m⟩ A;dsimp only at c m⊢;subst c;refine ab.aA (λz=>z=decide (i<e.bm.length)) (λj r=>aQ (λh=>r _ ?_) λh=>r _ ?_) λz B=>?_
  ·rw[bA (show(0:Int)<((L+1:Nat):Int) by omega),bA O]
  ·rw[bu O]
  subst B;refine aQ (λo=>?_) λC=>ab.some ?_
  ·have a:=bs o;have hm:=bE a;refine ag (bk a) (ag (J3 (d:=d) L n _ O O (p _ hm)) ?_);have hs:=AZ (dA L) 40 (e.bm.take i) λy D=>q y (ga D);have F:=nu (dA L) (e.bm.take i) λy _=>ra L y;have G:=q _ hm;have H:=ra L e.bm[i];have X:((e.bm.take i).length:Int)<=2:=bQ
   rw[be (n:=x+dA L e.bm[i]) O,be O];refine A _ ⟨i+1,Z,O,?_⟩ Z;dsimp only;rw[ek,a,fU,yG,m];simp;omega
  have:i=e.bm.length:=O
  rw[m,this,c6];rfl
def wU(e:Expr):Bool:=(decide (e.kind=1)||decide (e.num=0))&&((decide (e.kind=2)||hg e.index)&&(decide (e.kind=3)||jD e.read))
theorem I7(d:Int): ∀(L n:Nat) (e:Expr) (c:Int),5000+L<=n->L<=5->wm L e->0<=c->c<=12->
  ab (pa (n+1) e d (6-(L:Int)) c) (λr=>r.1=(dC L e d&&decide (c+dA L e<=12))/\(r.1=true->r.2=c+dA L e))
 |0,n,e,c,E,M,Y,N,P=>by
  unfold pa;refine ab.aA (λz=>z=true) (λj i=>aQ (λh=>i _ rfl) λh=>i _ (by decide)) λz m=>?_;subst m;exact ab.some ⟨rfl,λh=>by cases h⟩
 |L+1,n,e,c,E,M,Y,N,P=>by
  obtain⟨e1,f,S,t⟩:=Y;have T:=ra (L+1) e;unfold pa;have V:wr (c+1)=c+1:=be O;have agR:wr (6-(((L+1:Nat)):Int)+1)=6-(L:Int):=by rw[be O];omega
  rw[V,agR];refine ab.aA (λz=>z=decide (12<c+1)) (λj i=>aQ (λh=>i _ (bA h).symm) λh=>i _ ?_) λz m=>?_
  ·rw[bu h,bu O]
  subst m;refine aQ (λh=>ab.some ⟨?_,λh=>by cases h⟩) λbP=>?_
  ·rw[bu (show¬c+dA (L+1) e<=12 by omega),jl]
  refine ab.aA (λz=>z= !wU e) (λj i=>?_) λz m=>?_
  ·rw[To,Tp];unfold wU at i;simp only[Option.bind];by_cases eO:e.kind=1
   ·have cE: ¬e.kind=2:=O
    have eg: ¬e.kind=3:=O
    rw[bA eO,bu cE,bu eg] at*;simp only[Bool.not_true,Bool.not_false,cond_true,cond_false,Bool.true_or,Bool.true_and,Bool.false_or] at*;cases I:hg e.index with
    |false=>exact i _ (by rw[I];rfl)
    |true=>exact i _ (by rw[I];rfl)
   rw[bu eO] at*;simp only[Bool.not_false,cond_true,Bool.false_or] at*;by_cases o:e.num=0
   ·rw[bA o] at*;simp only[Bool.not_true,cond_false,Bool.true_and] at*;by_cases cE:e.kind=2
    ·have eg: ¬e.kind=3:=O
     rw[bA cE,bu eg] at*;simp only[Bool.not_true,Bool.not_false,cond_true,cond_false,Bool.true_or,Bool.true_and,Bool.false_or] at*;exact i _ rfl
    rw[bu cE] at*;simp only[Bool.not_false,cond_true,Bool.false_or] at*;cases I:hg e.index with
    |false=>exact i _ (by rw[I];rfl)
    |true=>
     by_cases eg:e.kind=3
     ·rw[bA eg] at*;exact i _ (by rw[I];rfl)
     rw[bu eg] at*;exact i _ (by rw[I];rfl)
   rw[bu o] at*;exact i _ rfl
  subst m;cases s:wU e with
  |false=>
   refine ab.some ⟨?_,λh=>by cases h⟩
   have:eh e d=false:=by
    unfold wU at s;unfold eh;by_cases cE:e.kind=2
    ·have eO: ¬e.kind=1:=O
     have eg: ¬e.kind=3:=O
     rw[a1 cE];rw[bA cE,bu eO,bu eg] at s;revert s;cases decide (e.num=0)<;>cases jD e.read<;>simp
    rw[a6 cE];by_cases eg:e.kind=3
    ·have eO: ¬e.kind=1:=O
     rw[a1 eg];rw[bu cE,bu eO,bA eg] at s;revert s;cases decide (e.num=0)<;>cases hg e.index<;>simp
    rw[a6 eg];rw[bu cE,bu eg] at s;by_cases eO:e.kind=1
    ·rw[a1 eO];rw[bA eO] at s;revert s;cases hg e.index<;>cases jD e.read<;>simp
    rw[a6 eO];rw[bu eO] at s;revert s;cases decide (e.num=0)<;>cases hg e.index<;>cases jD e.read<;>simp
   unfold dC;rw[this];simp
  |true=>
   refine b5 ?_;unfold wU at s;simp only[Bool.and_eq_true,Bool.or_eq_true,decide_eq_true_eq] at s;obtain⟨x5,u,Q⟩:=s;have p: ∀(b:Bool),eh e d=b->fs e.kind=0-> ∀(z:Bool),z=(b&&decide ((e.bm.length:Int)=0))->z=(dC (L+1) e d&&decide (c+dA (L+1) e<=12))/\(z=true->c+1=c+dA (L+1) e):=by
    intro b a' F z m;unfold dC;rw[a',F];by_cases h:e.bm.length=0
    ·have C:e.bm=[]:=kI h;have G:dA (L+1) e=1:=by simp[dA,C]
     rw[G,bA (O:c+1<=12)];rw[bA (show(e.bm.length:Int)=0 by omega)] at m;rw[m,C];simp
    rw[bu (show¬(e.bm.length:Int)=0 by omega)] at m;rw[m,bu (show¬(0:Int)=(e.bm.length:Int) by omega)];simp
   by_cases eO:e.kind=1
   ·have cE: ¬e.kind=2:=O
    have eg: ¬e.kind=3:=O
    rw[bA eO];have l:eh e d=decide (0<=e.num/\e.num<=99):=by
     unfold eh;rw[a6 cE,a6 eg,a1 eO];rcases u with h|h
     ·exact bB h cE
     rcases Q with A|A
     ·exact bB A eg
     rw[h,A];simp
    refine bR (ab.aA (λz=>z=(decide (0<=e.num/\e.num<=99)&&decide ((e.bm.length:Int)=0))) (λj i=>ag (d5 n _ _ _) ?_) λz m=>ab.some ?_)
    ·cases y:decide (0<=e.num/\e.num<=99) with
     |true=>exact i _ (by rw[y];rfl)
     |false=>exact i _ (by rw[y];rfl)
    exact p _ l (by unfold fs;rw[a1 (Or.inl eO)]) _ m
   rw[bu eO];refine b5 ?_;have o:e.num=0:=by
    rcases x5 with h|h
    ·exact bB h eO
    exact h
   by_cases cE:e.kind=2
   ·have eg: ¬e.kind=3:=O
    rw[bA cE];have l:eh e d=eR e.index d:=by
     unfold eh;rw[a1 cE,bA o];rcases Q with A|A
     ·exact bB A eg
     rw[A];simp
    refine bR (ab.aA (λz=>z=(eR e.index d&&decide ((e.bm.length:Int)=0))) (λj i=>ag (Rb O _ f) ?_) λz m=>ab.some ?_)
    ·unfold eR at i;cases y:cR e.index with
     |false=>exact i _ (by rw[y];rfl)
     |true=>
      refine ag (DA O f) (aQ (λh=>i _ ?_) λh=>i _ ?_)
      ·rw[y,bA h];rfl
      rw[y,bu h];rfl
    exact p _ l (by unfold fs;rw[a1 (Or.inr (Or.inl cE))]) _ m
   rw[bu cE];refine b5 ?_;have B:hg e.index=true:=by
    rcases u with h|h
    ·exact bB h cE
    exact h
   by_cases eg:e.kind=3
   ·rw[bA eg];have l:eh e d=fR e.read d:=by
     unfold eh;rw[a6 cE,a1 eg,bA o,B];simp
    refine bR (ab.aA (λz=>z=(fR e.read d&&decide ((e.bm.length:Int)=0))) (λj i=>ag (JD O S d) ?_) λz m=>ab.some ?_)
    ·cases y:fR e.read d with
     |false=>exact i _ (by rw[y];rfl)
     |true=>exact i _ (by rw[y];rfl)
    exact p _ l (by unfold fs;rw[a1 (Or.inr (Or.inr eg))]) _ m
   rw[bu eg];refine b5 ?_;have l:eh e d=true:=by
    unfold eh;rw[a6 cE,a6 eg,a6 eO,bA o,B];rcases Q with A|A
    ·exact bB A eg
    rw[A];rfl
   have R:rB n e.kind=some (decide (4<=e.kind/\e.kind<=6)):=by unfold rB;rw[d5];rfl
   have H:(fs e.kind=2↔(4<=e.kind/\e.kind<=6))/\(fs e.kind=2\/fs e.kind= -1):=by
    unfold fs;rw[a6 O];split<;>omega
   refine ab.aA (λz=>z= !(decide (4<=e.kind/\e.kind<=6)&&decide ((e.bm.length:Int)=2))) (λj i=>ag R ?_) λz m=>?_
   ·cases y:decide (4<=e.kind/\e.kind<=6) with
    |false=>exact i _ (by rw[y];rfl)
    |true=>exact i _ (by rw[y];rfl)
   subst m;by_cases F:(4<=e.kind/\e.kind<=6)/\(e.bm.length:Int)=2
   ·rw[bA F.1,bA F.2];refine b5 ?_;obtain⟨a,b,w⟩: ∃a b,e.bm=[a,b]:=by
     have:e.bm.length=2:=O
     match di:e.bm,this with
     | [a,b],_=>exact⟨a,b,rfl⟩
    have U:dC (L+1) e d=(dC L a d&&dC L b d):=by
     show(decide (fs e.kind=e.bm.length)&&(eh e d&&e.bm.all λk=>dC L k d))=_;rw[l,w,bA (show fs e.kind=(([a,b]:List Expr).length:Int) by rw[H.1.2 F.1];rfl)];simp
    have G:dA (L+1) e=1+(dA L a+dA L b):=by simp[dA,w]
    have ahl:=ra L a;have ahm:=ra L b;rw[U,G];obtain⟨n,rfl⟩: ∃j,n=j+1:=⟨n-1,O⟩
    refine ab.aA (λz:Int×Bool=>z.2=(dC L a d&&dC L b d&&decide (c+(1+(dA L a+dA L b))<=12))/\(z.2=true->z.1=c+(1+(dA L a+dA L b)))) (λj i=>?_) λz m=>ab.some m;refine ag (x:=a) (by rw[w];rfl) (cc (I7 d L n a (c+1) O O (t a (by rw[w];simp)) O O) λr ⟨D,W⟩=>?_);cases X:r.1 with
    |false=>
     refine i _ ⟨?_,λh=>by cases h⟩;rw[X] at D;show false=_;by_cases K:dC L a d=true
     ·rw[K,fe] at D
      have:=of_decide_eq_false D.symm;rw[bu (show¬c+(1+(dA L a+dA L b))<=12 by omega),jl]
     rw[Bool.eq_false_iff.2 K];rfl
    |true=>
     have W:=W X;rw[X] at D;have D:=D.symm;rw[oF,decide_eq_true_eq] at D;refine ag (x:=b) (by rw[w];rfl) ?_;rw[W];refine cc (I7 d L n b (c+1+dA L a) O O (t b (by rw[w];simp)) O O) λq ⟨k',q2⟩=>i _ ⟨?_,λh=>?_⟩
     ·show q.1=_;rw[k',D.1,fe];congr 1;exact decide_eq_decide.2 O
     show q.2=_;rw[q2 h];omega
   have h7:dC (L+1) e d=false:=by
    unfold dC;rw[bu (show¬fs e.kind=(e.bm.length:Int) by
     intro h;rcases H.2 with v|v
     ·exact F ⟨H.1.1 v,O⟩
     omega)]
    rfl
   have:(decide (4<=e.kind/\e.kind<=6)&&decide ((e.bm.length:Int)=2))=false:=by
    by_cases g:4<=e.kind/\e.kind<=6
    ·rw[bu (show¬(e.bm.length:Int)=2 from λh=>F ⟨g,h⟩),jl]
    rw[bu g];rfl
   rw[this,h7];exact ab.some ⟨rfl,λh=>by cases h⟩
def er(s:Stmt)(d:Int):Bool:=decide (0<=d/\d<=4)&&(fR s.write d&&(dC 5 s.value d&&decide (dA 5 s.value<=12)))
def zJ(s:Stmt):Prop:=kn s.write.bC/\wm 5 s.value
theorem Su(m:6000<=n)(h:zJ s)(d:Int):Dp n s d=some (er s d):=by
 obtain⟨n,rfl⟩: ∃j,n=j+1:=⟨n-1,O⟩
 refine ab.eq ?_;unfold Dp;generalize a:er s d=T;unfold er at a;refine ab.aA (λz:Int×Bool=>z.2=T) (λj c=>ag (d5 _ _ _ _) ?_) λz k=>ab.some k;cases e:decide (0<=d/\d<=4) with
 |false=>exact c (0,false) (by rw[<-a,e];rfl)
 |true=>
  refine bR (ag (JD O h.1 d) ?_);cases i:fR s.write d with
  |false=>exact c (0,false) (by rw[<-a,e,i];rfl)
  |true=>
   refine bR (cc (I7 d 5 n s.value 0 O O h.2 O O) λr ⟨l,o⟩=>c _ ?_);rw[<-a,e,i];show r.1=_;rw[l];simp
theorem IK(o:6000<=n)(h:zJ s)(d:Int):sA n s d=some (er s d):=by
 obtain⟨n,rfl⟩: ∃j,n=j+1:=⟨n-1,O⟩
 refine ab.eq ?_;unfold sA;generalize l:er s d=T;generalize a:(decide (0<=d/\d<=4)&&(fR s.write d&&dC 5 s.value d))=B;have c:T=(B&&decide (dA 5 s.value<=12)):=by rw[<-l,<-a];unfold er;simp only[Bool.and_assoc]
 refine ab.aA (λz=>z= !B) (λj e=>aQ (λh=>e _ ?_) λp=>aQ (λh=>e _ ?_) λq=>ag (JA O h.1 d) ?_) λz m=>?_
 ·rw[<-a,bu (show¬(0<=d/\d<=4) by omega)];rfl
 ·rw[<-a,bu (show¬(0<=d/\d<=4) by omega)];rfl
 ·rw[bA (O:0<=d/\d<=4)] at a;cases k:fR s.write d with
  |false=>exact bR (e _ (by rw[<-a,k];rfl))
  |true=>exact b5 (ag (J2 d 5 n s.value O O h.2) (e _ (by rw[<-a,k];rfl)))
 subst m;cases i:B with
 |false=>exact ab.some (by rw[c,i];rfl)
 |true=>
  rw[i] at a;simp only[Bool.and_eq_true] at a;refine b5 (ag (J3 (d:=d) 5 n s.value O O a.2.2) (ab.some ?_));rw[c,i];rfl
def j6(a:List Int):Bool:=decide (1<=a.length/\a.length<=2)&&a.all λd=>decide (1<=d/\d<=6)
def ru(a:List cg)(i:Nat)(x:cg):Bool:=match i with
 |0=>true
 |i+1=>match a[i]? with
  |some y=>Op.bytesLess y.name x.name
  |none=>false
def nQ(a:List cg)(i:Nat)(x:cg):Bool:=nw x.name&&(ru a i x&&j6 x.bT)
def jA(a:List cg):Bool:=wN (nQ a) a&&decide (a.length<=4)
def Ei(a:List cg):Prop:=a.length<=1000/\ ∀x∈a,x.bT.length<=1000
theorem Km{x y:cg}(h:r[i]? =some y):ru r (i+1) x=Op.bytesLess y.name x.name:=by simp only[ru,h]
theorem Zc(a:List Int):(a.any λd=> !decide (1<=d/\d<=6))= !(a.all λd=>decide (1<=d/\d<=6)):=by rw[ta];simp
theorem Tq(U:6000<=n){w:List cg}(h:Ei w):yZ n w=some (jA w):=by
 obtain⟨W,I⟩:=h;refine ab.eq ?_;unfold yZ;refine pC (l:=w) (p:=nQ w) O O (λa i x m s y=>?_) (λa o=>?_) (λ⟨i,x,m,A⟩=>?_)
 ·have aI:=(bS.1 m).1;have hm:=I x (bE m);rw[bA (show(i:Int)<(w.length:Int) by omega)];have K:nV n x.bT (λB=>qu n B)=some (!(x.bT.all λd=>decide (1<=d/\d<=6))):=by
   rw[<-Zc];exact CZ (λd _=>by unfold qu;rw[d5];rfl) O O
  refine bR (ag (bk m) (ab.aA (λz=>z= !nQ w i x) (λj k=>ag (JY n _) ?_) λz L=>?_))
  ·unfold nQ j6 at k;cases C:nw x.name with
   |false=>exact bR (k _ (by rw[C];rfl))
   |true=>
    rw[C] at k;refine b5 ?_;rw[Jf];have c:ru w i x=true->ab (Option.bind (some (decide (1<=x.bT.length/\x.bT.length<=2))) λQ=>bif !Q then j true else Option.bind (nV n x.bT λB=>qu n B) λR=>j R) (λr=>r=jA w):=by
     intro A;rw[A] at k;show ab (bif _ then _ else _) _;cases D:decide (1<=x.bT.length/\x.bT.length<=2) with
     |false=>exact bR (k _ (by rw[D];rfl))
     |true=>exact b5 (ag K (k _ (by rw[D];rfl)))
    cases i with
    |zero=>exact aQ (λh=>bB h (by decide)) (λ_=>c rfl)
    |succ i=>
     have F:=bs (O:i<w.length);have e:wr (((i+1:Nat):Int)-1)=(i:Int):=by rw[be O];omega
     rw[e];refine aQ (λ_=>ag (bk F) ?_) λh=>bB (show(0:Int)<((i+1:Nat):Int) by omega) h;have q:=Km (x:=x) F;cases G:Op.bytesLess w[i].name x.name with
     |false=>exact bR (k _ (by rw[q,G];rfl))
     |true=>exact b5 (c (by rw[q,G]))
  subst L;cases H:nQ w i x with
  |true=>show ab (a _) _;rw[be O];exact s H
  |false=>exact ab.some (y H)
 ·rw[bu (show¬(w.length:Int)<(w.length:Int) by omega)];refine ab.some ?_;unfold jA;rw[Dj o,fe];exact decide_eq_decide.2 O
 unfold jA;rw[CV m A];rfl
theorem Xy(s:List UInt8):(!Op.bytesLess s [68]&& !s==[68])= !(Op.bytesLess s [68]||s==[68]):=by cases Op.bytesLess s [68]<;>cases (s==[68])<;>rfl
theorem Sz(V:6000<=n){a:List cg}(h:Ei a):DE n a=some (jA a):=by
 obtain⟨h0,f⟩:=h;refine ab.eq ?_;unfold DE;refine pC (l:=a) (p:=nQ a) O O (λq i x w H A=>?_) (λq B=>?_) (λ⟨i,x,w,I⟩=>?_)
 ·have aI:=(bS.1 w).1;have hm:=f x (bE w);rw[bA (show(i:Int)<(a.length:Int) by omega)];refine bR (ag (bk w) (ab.aA (λz=>z= !(nw x.name&&(ru a i x&&decide (1<=x.bT.length/\x.bT.length<=2)))) (λj c=>?_) λz K=>?_))
  ·refine eS (λg=>c _ ?_) λg=>?_
   ·rw[Ek O];rfl
   obtain⟨b,o⟩:=GU (O:x.name.length=1);rw[Xy];have L: ∀(y:cg),Op.bytesLess y.name x.name=Op.bytesLess y.name [b]:=λy=>by rw[o]
   have Q:nw x.name=decide (65<=b.toNat/\b.toNat<=68):=by rw[o];rfl
   have u:Op.bytesLess x.name [65]=decide (b.toNat<65):=by rw[o];exact KG b
   have v:(Op.bytesLess x.name [68]||x.name==[68])=decide (b.toNat<=68):=by rw[o];exact KZ b
   rw[u,v];rw[Q] at c;refine aQ (λE=>c _ ?_) λE=>eS (λM=>c _ ?_) λM=>?_
   ·rw[bu (show¬(65<=b.toNat/\b.toNat<=68) by omega)];rfl
   ·rw[bu (show¬(65<=b.toNat/\b.toNat<=68) by omega)];rfl
   rw[bA (O:65<=b.toNat/\b.toNat<=68)] at c;have m:ru a i x=true->ab (bif decide ((x.bT.length:Int)<1) then j true else j (decide ((2:Int)<(x.bT.length:Int)))) (λr=>r=jA a):=by
    intro I;rw[I] at c;refine aQ (λh=>c _ ?_) λh=>c _ ?_
    ·rw[bu (show¬(1<=x.bT.length/\x.bT.length<=2) by omega)];rfl
    by_cases h2:x.bT.length<=2
    ·rw[bu (show¬(2:Int)<(x.bT.length:Int) by omega),bA (O:1<=x.bT.length/\x.bT.length<=2)];rfl
    rw[bA (show(2:Int)<(x.bT.length:Int) by omega),bu (show¬(1<=x.bT.length/\x.bT.length<=2) by omega)];rfl
   cases i with
   |zero=>exact aQ (λh=>bB h (by decide)) (λ_=>m rfl)
   |succ i=>
    have W:=bs (O:i<a.length);have e:wr (((i+1:Nat):Int)-1)=(i:Int):=by rw[be O];omega
    rw[e];refine aQ (λ_=>ag (bk W) ?_) λh=>bB (show(0:Int)<((i+1:Nat):Int) by omega) h;have C:=Km (x:=x) W;cases X:Op.bytesLess a[i].name x.name with
    |false=>exact bR (c _ (by rw[C,X];rfl))
    |true=>exact b5 (m (by rw[C,X]))
  subst K;cases o:(nw x.name&&(ru a i x&&decide (1<=x.bT.length/\x.bT.length<=2))) with
  |false=>
   refine ab.some (A ?_);unfold nQ j6;rw[<-lW,<-lW];rw[<-lW] at o;rw[o];rfl
  |true=>
   have D:nQ a i x=x.bT.all (λd=>decide (1<=d/\d<=6)):=by
    unfold nQ j6;rw[<-lW,<-lW];rw[<-lW] at o;rw[o];rfl
   refine b5 ?_;refine ab.loop (λy:Int=> ∃k:Nat,y=k/\k<=x.bT.length/\ ∀(t:Nat) d,t<k->x.bT[t]? =some d->decide (1<=d/\d<=6)=true) (λy=>x.bT.length-y.toNat) ?_ n _ ⟨0,rfl,O,λt d h=>O⟩ bQ;rintro G y ⟨k,rfl,hk,Y⟩ N;refine aQ (λP=>?_) λS=>?_
   ·have cv:=bs (O:k<x.bT.length);have T:wr ((k:Int)+1)=((k+1:Nat):Int):=by rw[be O];omega
    refine ab.aA (λz=>z= !decide (1<=x.bT[k]/\x.bT[k]<=6)) (λj c=>ag (bk cv) (aQ (λh=>c _ ?_) λh=>c _ ?_)) λz K=>?_
    ·rw[bu O];rfl
    ·by_cases h6:x.bT[k]<=6
     ·rw[bu (show¬(6:Int)<x.bT[k] by omega),bA (O:1<=x.bT[k]/\x.bT[k]<=6)];rfl
     rw[bA (show(6:Int)<x.bT[k] by omega),bu (show¬(1<=x.bT[k]/\x.bT[k]<=6) by omega)];rfl
    subst K;cases F:decide (1<=x.bT[k]/\x.bT[k]<=6) with
    |false=>
     refine ab.some (A ?_);rw[D];exact jk.2 ⟨_,bE cv,by rw[F];simp⟩
    |true=>
     rw[T];refine N _ ⟨k+1,rfl,O,λt d R s=>?_⟩ O;by_cases U:t=k
     ·subst U;rw[cv] at s;cases s;exact F
     exact Y t d O s
   have e:wr ((i:Int)+1)=(i:Int)+1:=be O;rw[e];refine H ?_;rw[D];refine fy.2 λd cv=>?_;obtain⟨t,R⟩:=lh cv
   have:=(bS.1 R).1;exact Y t d O R
 ·rw[bu (show¬(a.length:Int)<(a.length:Int) by omega)];refine ab.some ?_;unfold jA;rw[Dj B,fe];exact decide_eq_decide.2 O
 unfold jA;rw[CV w I];rfl
def gW:List Int->Int
 | []=>1
 |d::a=>d*gW a
theorem F9{d:List Int}(h:j6 d=true):(∃a,d=[a]/\1<=a/\a<=6)\/ ∃a b,d=[a,b]/\(1<=a/\a<=6)/\1<=b/\b<=6:=by
 simp only[j6,Bool.and_eq_true,decide_eq_true_eq,List.all_eq_true] at h;obtain⟨⟨e,i⟩,c⟩:=h
 match d,e,i,c with
 | [a],_,_,c=>exact .inl ⟨a,rfl,c a aW⟩
 | [a,b],_,_,c=>exact .inr ⟨a,b,rfl,c a aW,c b aW⟩
theorem OS{a b:Int}(c:1<=a/\a<=6)(d:1<=b/\b<=6):1<=a*b/\a*b<=36:=by
 constructor
 ·have:=q6 c.1 d.1 O O;omega
 have:=q6 c.2 d.2 O O;omega
theorem rF{d:List Int}(h:j6 d=true):1<=gW d/\gW d<=36:=by
 rcases F9 h with ⟨a,rfl,c⟩|⟨a,b,rfl,c,e⟩
 ·simp[gW];omega
 have:=OS c e;simp[gW];omega
theorem DZ(l:6000<=n){x:cg}(h:j6 x.bT=true):vZ n x=some (gW x.bT):=by
 obtain⟨n,rfl⟩: ∃j,n=j+3:=⟨n-3,O⟩
 unfold vZ;rcases F9 h with ⟨a,e,d⟩|⟨a,b,e,d,i⟩
 ·rw[e];have c:wr a=a:=be O;simp[bo,au,gW,c,show wr 1=1 from be O]
 rw[e]
 have:=OS d i;have c:wr a=a:=be O;have k:wr (a*b)=a*b:=be O;simp[bo,au,gW,c,k,show wr 1=1 from be O,show wr 2=2 from be O]
theorem Xo(a:6000<=n){x:cg}(h:j6 x.bT=true):CN n x=some (gW x.bT):=DZ a h
def hq:List ay->List Int->List Int->Int->Int
 |s::c,d::e,p,a=>if 0<=fQ s p/\fQ s p<d then hq c e p (a*d+fQ s p) else-1
 |_,_,_,a=>a
def eB:List cg->bZ->List Int->Int->Int
 | [],_,_,_=> -1
 |x::d,a,p,c=>if x.name=a.array then(if a.bC.length=x.bT.length then(if hq a.bC x.bT p 0<0 then-1 else c+hq a.bC x.bT p 0) else-1) else eB d a p (c+gW x.bT)
def kz(a:List cg):Prop:= ∀x∈a,j6 x.bT=true
theorem abb{d:List Int}(e:j6 d=true){l:List ay}(c:l.length=d.length)(p:List Int):hq l d p 0= -1\/(0<=hq l d p 0/\hq l d p 0<gW d):=by
 rcases F9 e with ⟨a,rfl,h⟩|⟨a,b,rfl,h,k⟩
 ·match l,c with
  | [s],_=>
   simp only[hq,gW,Int.zero_mul,Int.zero_add,Int.mul_one];split<;>omega
 match l,c with
 | [s,t],_=>
  simp only[hq,gW,Int.zero_mul,Int.zero_add,Int.mul_one];split
  ·rename_i i;split
   ·rename_i m;refine .inr ⟨?_,?_⟩
    ·have:=mM i.1 (O:0<=b);omega
    have:=Int.mul_le_mul_of_nonneg_right (O:fQ s p<=a-1) (O:0<=b);rw[Int.sub_mul] at this;omega
   exact .inl rfl
  exact .inl rfl
def fX(a:List cg):Int:=(a.map λx=>gW x.bT).sum
theorem Nt: ∀{xs:List cg},kz xs-> ∀(a:bZ) (p:List Int) (c:Int),0<=c->eB xs a p c= -1\/(c<=eB xs a p c/\eB xs a p c<c+fX xs)
 | [],_,a,p,c,_=> .inl rfl
 |x::xs,k,a,p,c,n=>by
  have l:=k x aW;have hs:=rF l;have d:kz xs:=λy i=>k y (by simp[i]);have o:0<=fX xs:=by
   have:=nu (λx:cg=>gW x.bT) xs λy i=>(rF (d y i)).1;unfold fX;omega
  have e:fX (x::xs)=gW x.bT+fX xs:=by simp[fX]
  rw[e];simp only[eB];split
  ·split
   ·rename_i m;rcases abb l m p with h|h
    ·rw[a1 O];exact .inl rfl
    rw[a6 O];exact .inr ⟨O,O⟩
   exact .inl rfl
  rcases Nt d a p (c+gW x.bT) O with h|h
  ·exact .inl h
  exact .inr ⟨O,O⟩
theorem mP(h:fR a d=true):1<=a.bC.length/\a.bC.length<=2/\ ∀x∈a.bC,cR x=true:=by
 simp only[fR,Bool.and_eq_true,decide_eq_true_eq,List.all_eq_true] at h;refine⟨h.2.2.1,h.2.2.2,λx c=>?_⟩
 have:=h.1 x c;simp only[eR,Bool.and_eq_true] at this;exact this.1
theorem jW{k:Type}{l:List k}{x:k}(h:l[i]? =some x):l.drop i=x::l.drop (i+1):=by obtain⟨a,c⟩:=bS.1 h;rw[lg a,c]
theorem MZ{a v:Int}(c:0<=a/\a<=36)(e:1<=d/\d<=6)(h:0<=v/\v<d):0<=a*d/\a*d<=216/\0<=a*d+v:=by have i:=mM c.1 (O:0<=d);have k:=q6 c.2 e.2 O O;omega
theorem YE(t:6000<=n)(u:a.bC.length<=2)(W: ∀x∈a.bC,cR x=true){e:List Int}(Q:j6 e=true)(v:a.bC.length=e.length){p:List Int}(X:hS k p)(c:Int)(E:0<=c/\c<=1000000):
  bo (λl ((R,B):Int×Int)=>bif decide (B<(a.bC.length:Int)) then(Option.bind (au a.bC B) λY=>Option.bind (nX n Y p) λr=>Option.bind (au e B) λs=>Option.bind (fi n r 0 (wr (s-1))) λC=>bif !C then(some (-1)) else(l (wr ((wr (R*s))+r),wr (B+1)))) else(some (wr (c+R)))) n (0,0)
   =some (if hq a.bC e p 0<0 then-1 else c+hq a.bC e p 0):=by
 have D: ∀d∈e,1<=d/\d<=6:=by
  simp only[j6,Bool.and_eq_true,decide_eq_true_eq,List.all_eq_true] at Q;exact λd h=>Q.2 d h
 refine ab.eq ?_;refine ab.loop (λx:Int×Int=> ∃i:Nat,x.2=i/\i<=a.bC.length/\0<=x.1/\x.1<=36*i/\(i=0->x.1=0)/\(i=1->x.1<=5)/\hq a.bC e p 0=hq (a.bC.drop i) (e.drop i) p x.1) (λx=>a.bC.length-x.2.toNat) ?_ n _ ⟨0,rfl,O,aW,aW,λ_=>rfl,λh=>O,rfl⟩ bQ;rintro F ⟨x,z⟩ ⟨i,U,M,G,H,o,w,m⟩ b;dsimp only at U G H o w m⊢;subst U;refine aQ (λf=>?_) λg=>ab.some ?_
 ·have hs:=bs (O:i<a.bC.length);have q:=bs (O:i<e.length);have y:=D _ (bE q);have j:wr (e[i]-1)=e[i]-1:=be O;rw[jW hs,jW q] at m;simp only[hq] at m;refine ag (bk hs) (ag (w3 O (W _ (bE hs)) X) (ag (bk q) (ag (d5 _ _ _ _) ?_)));rw[j];by_cases I:0<=fQ a.bC[i] p/\fQ a.bC[i] p<e[i]
  ·rw[a1 I] at m;rw[bA (O:0<=fQ a.bC[i] p/\fQ a.bC[i] p<=e[i]-1)];obtain⟨N,P,S⟩:=MZ (a:=x) O y I;refine b5 ?_;rw[be (n:=x*e[i]) O,be (n:=x*e[i]+fQ a.bC[i] p) O,be O];have A:i=0\/i=1:=O
   refine b _ ⟨i+1,Z,O,Z,?_,λh=>O,λh=>?_,m⟩ Z
   ·dsimp only;rcases A with rfl|rfl
    ·rw[o rfl];omega
    have:=w rfl
    have:=q6 this y.2 O O;omega
   dsimp only
   have:i=0:=O
   subst this;rw[o rfl];omega
  rw[a6 I] at m;rw[bu (show¬(0<=fQ a.bC[i] p/\fQ a.bC[i] p<=e[i]-1) by omega)];refine bR (ab.some ?_);rw[m];rfl
 have K:i=a.bC.length:=O
 have L:hq (a.bC.drop i) (e.drop i) p x=x:=by
  rw[K,nz];unfold hq;rfl
 rw[L] at m;rw[m,a6 O,be O]
theorem XN(M:6000<=n)(N:1<=a.bC.length)(P:a.bC.length<=2)(f: ∀x∈a.bC,cR x=true){c:List Int}(W:j6 c=true){p:List Int}(g:hS k p)(e:Int)(S:0<=e/\e<=1000000):
  bo (λl ((X,w):Int×Int)=>bif decide (w<(a.bC.length:Int)) then(bif !decide ((a.bC.length:Int)=(c.length:Int)) then(some (-1)) else(Option.bind (au a.bC w) λt=>Option.bind (oi n t p) λr=>aA (fun(F:Bool)=>bif F then(some (-1)) else(Option.bind (au c w) λG=>l (wr ((wr (X*G))+r),wr (w+1)))) λy=>bif decide (r<0) then(y true) else(Option.bind (au c w) λH=>y (decide (H<=r))))) else(some (wr (e+X)))) n (0,0)
   =some (if a.bC.length=c.length then(if hq a.bC c p 0<0 then-1 else e+hq a.bC c p 0) else-1):=by
 by_cases Y:a.bC.length=c.length
 ·rw[a1 Y];rw[bA (show(a.bC.length:Int)=(c.length:Int) by omega)];have I: ∀d∈c,1<=d/\d<=6:=by
   simp only[j6,Bool.and_eq_true,decide_eq_true_eq,List.all_eq_true] at W;exact λd h=>W.2 d h
  refine ab.eq ?_;refine ab.loop (λx:Int×Int=> ∃i:Nat,x.2=i/\i<=a.bC.length/\0<=x.1/\x.1<=36*i/\(i=0->x.1=0)/\(i=1->x.1<=5)/\hq a.bC c p 0=hq (a.bC.drop i) (c.drop i) p x.1) (λx=>a.bC.length-x.2.toNat) ?_ n _ ⟨0,rfl,O,aW,aW,λ_=>rfl,λh=>O,rfl⟩ bQ;rintro K ⟨x,z⟩ ⟨i,D,T,L,Q,s,A,m⟩ u;dsimp only at D L Q s A m⊢;subst D;refine aQ (λv=>?_) λE=>ab.some ?_
  ·have hs:=bs (O:i<a.bC.length);have o:=bs (O:i<c.length);have B:=I _ (bE o);rw[jW hs,jW o] at m;simp only[hq] at m;refine b5 (ag (bk hs) (ag (wZ O (f _ (bE hs)) g) (ab.aA (λz=>z= !decide (0<=fQ a.bC[i] p/\fQ a.bC[i] p<c[i])) (λj b=>aQ (λh=>b _ ?_) λh=>ag (bk o) (b _ ?_)) λz D=>?_)))
   ·rw[bu O];rfl
   ·by_cases q:c[i]<=fQ a.bC[i] p
    ·rw[bA q,bu O];rfl
    rw[bu q,bA O];rfl
   subst D;by_cases q:0<=fQ a.bC[i] p/\fQ a.bC[i] p<c[i]
   ·rw[a1 q] at m;rw[bA q];obtain⟨V,g2,g3⟩:=MZ (a:=x) O B q;refine b5 (ag (bk o) ?_);rw[be (n:=x*c[i]) O,be (n:=x*c[i]+fQ a.bC[i] p) O,be O];have C:i=0\/i=1:=O
    refine u _ ⟨i+1,Z,O,Z,?_,λh=>O,λh=>?_,m⟩ Z
    ·dsimp only;rcases C with rfl|rfl
     ·rw[s rfl];omega
     have:=A rfl
     have:=q6 this B.2 O O;omega
    dsimp only
    have:i=0:=O
    subst this;rw[s rfl];omega
   rw[a6 q] at m;rw[bu q];refine bR (ab.some ?_);rw[m];rfl
  have R:i=a.bC.length:=O
  have U:hq (a.bC.drop i) (c.drop i) p x=x:=by
   rw[R,nz];unfold hq;rfl
  rw[U] at m;rw[m,a6 O,be O]
 rw[a6 Y,bu (show¬(a.bC.length:Int)=(c.length:Int) by omega)];obtain⟨n,rfl⟩: ∃j,n=j+1:=⟨n-1,O⟩
 simp only[bo];rw[bA (show(0:Int)<(a.bC.length:Int) by omega)];rfl
theorem zx(y:6000<=n)(L:p.aR.length<=4)(B:kz p.aR)(C:fR a d=true)(D:hS k q):r8 n p a q=some (eB p.aR a q 0):=by
 obtain⟨a0,aK,a2⟩:=mP C;refine ab.eq ?_;unfold r8;refine ab.loop (λx:Int×Int=> ∃i:Nat,x.2=i/\i<=p.aR.length/\0<=x.1/\x.1<=36*i/\eB p.aR a q 0=eB (p.aR.drop i) a q x.1) (λx=>p.aR.length-x.2.toNat) ?_ n _ ⟨0,rfl,O,aW,aW,rfl⟩ bQ;rintro m ⟨x,z⟩ ⟨i,A,Q,o,r,c⟩ F;dsimp only at A o r c⊢;subst A;refine aQ (λG=>?_) λH=>ab.some ?_
 ·have s:=bs (O:i<p.aR.length);have h:=B _ (bE s);have k0:=rF h;rw[jW s] at c;simp only[eB] at c;refine ag (bk s) (eS (λl=>?_) λI=>?_)
  ·rw[a6 l] at c;refine ag (Xo y h) ?_;rw[be (n:=x+gW p.aR[i].bT) O,be O];exact F _ ⟨i+1,Z,O,Z,Z,c⟩ Z
  rw[a1 I] at c;refine eS (λl=>ab.some ?_) λK=>?_
  ·rw[c,a6 O]
  have e:a.bC.length=p.aR[i].bT.length:=O
  rw[a1 e] at c;exact ab.of (YE y aK a2 h e D x O) c.symm
 have w:i=p.aR.length:=O
 rw[c,w,nz];rfl
theorem Ls(w:6000<=n)(I:r.length<=4)(A:kz r)(B:fR a d=true)(C:hS k q):v7 n r a q=some (eB r a q 0):=by
 obtain⟨a0,aK,a2⟩:=mP B;refine ab.eq ?_;unfold v7;refine ab.loop (λx:Int×Int=> ∃i:Nat,x.2=i/\i<=r.length/\0<=x.1/\x.1<=36*i/\eB r a q 0=eB (r.drop i) a q x.1) (λx=>r.length-x.2.toNat) ?_ n _ ⟨0,rfl,O,aW,aW,rfl⟩ bQ;rintro h ⟨x,z⟩ ⟨i,y,K,l,m,c⟩ D;dsimp only at y l m c⊢;subst y;refine aQ (λF=>?_) λG=>ab.some ?_
 ·have o:=bs (O:i<r.length);have e:=A _ (bE o);have k0:=rF e;rw[jW o] at c;simp only[eB] at c;refine ag (bk o) (eS (λp=>?_) λH=>?_)
  ·rw[a6 p] at c;refine ag (DZ w e) ?_;rw[be (n:=x+gW r[i].bT) O,be O];exact D _ ⟨i+1,Z,O,Z,Z,c⟩ Z
  rw[a1 H] at c;exact ab.of (XN w a0 aK a2 e C x O) c.symm
 have s:i=r.length:=O
 rw[c,s,nz];rfl
def dX:Nat->Expr->List bZ
 |0,_=>[]
 |L+1,e=>(if e.kind=3 then [e.read] else [])++e.bm.flatMap (dX L)
theorem EN{d:Int}: ∀{L:Nat} {e:Expr},dC L e d=true-> ∀a∈dX L e,fR a d=true
 |0,e,h,a,c=>by cases h
 |L+1,e,h,a,c=>by
  obtain⟨o,i,m⟩:=g' h;simp only[dX,List.mem_append,List.mem_flatMap] at c;rcases c with c|⟨k,n,c⟩
  ·split at c
   ·rename_i l;simp at c;subst c;unfold eh at i;rw[a6 O,a1 l] at i;simp only[Bool.and_eq_true] at i;exact i.2.2
   simp at c
  exact EN (m k n) a c
theorem zm: ∀(L:Nat) (e:Expr),((dX L e).length:Int)<=dA L e
 |0,e=>by simp[dX,dA]
 |L+1,e=>by
  have h: ∀(l:List Expr),((l.flatMap (dX L)).length:Int)<=(l.map (dA L)).sum:=by
   intro l;induction l with
   |nil=>simp
   |cons k l a=>
    have:=zm L k;simp only[List.flatMap_cons,List.length_append,List.map_cons,List.sum_cons];omega
  have:=h e.bm;simp only[dX,dA,List.length_append];split
  ·rw[mI];omega
  rw[List.length_nil];omega
theorem Eo{d:Int}: ∀(L n:Nat) (e:Expr),6000+L<=n->L<=5->dC L e d=true->qy (n+1) e=some (dX L e)
 |0,n,e,_,_,h=>by cases h
 |L+1,n,e,C,w,h=>by
  obtain⟨D,F,s⟩:=g' h;have y:=pj e.kind;unfold qy;refine ab.eq (aQ (λc=>ab.some ?_) λm=>?_)
  ·have:e.bm=[]:=by
    have G:fs e.kind=0:=by unfold fs;rw[a1 (Or.inr (Or.inr c))]
    exact kI O
   simp[dX,c,this]
  obtain⟨n,rfl⟩: ∃j,n=j+1:=⟨n-1,O⟩
  have o: ∀k∈e.bm,((dX L k).length:Int)<=100:=λk l=>by
   have H:=AY (s k l);have I:(2:Int)^L<=40:=by
    match L,w with
    |0,_=>decide
    |1,_=>decide
    |2,_=>decide
    |3,_=>decide
    |4,_=>decide
   have:=zm L k;omega
  refine ab.loop (λx:List bZ×Int=> ∃i:Nat,x.2=i/\i<=e.bm.length/\x.1=(e.bm.take i).flatMap (dX L)/\(x.1.length:Int)<=100*i) (λx=>e.bm.length-x.2.toNat) ?_ (n+1) _ ⟨0,rfl,O,aW,aW⟩ bQ;rintro p ⟨x,k⟩ ⟨i,l,K,q,r⟩ z;dsimp only at l q r⊢;subst l;refine aQ (λA=>?_) λB=>ab.some ?_
  ·have a:=bs (O:i<e.bm.length);have hm:=bE a;have a':=o _ hm;refine ag (bk a) (ag (Eo (d:=d) L n _ O O (s _ hm)) (ag (cY O) ?_));rw[be O];refine z _ ⟨i+1,Z,O,?_,by dsimp only;rw[dD];omega⟩ Z;dsimp only;rw[ek,a,oE,q];simp
  have:i=e.bm.length:=O
  rw[q,this,c6];simp[dX,m]
theorem y3(n:Nat){a:ay}(h:a.aT.length<=1000):qg n a=some a:=by
 unfold qg;refine ab.eq (aQ (λd=>ab.some ?_) λd=>ag (nc _ h) (ab.some rfl));obtain⟨cs,c⟩:=a
 have:cs=[]:=kI (by simpa using d);subst this;rfl
theorem yz(q:5000<=n)(h:kn a.bC):qh n a=some a:=by
 obtain⟨r,l⟩:=h;refine ab.eq ?_;unfold qh;refine ab.loop (λx:List ay×Int=> ∃i:Nat,x.2=i/\i<=a.bC.length/\x.1=a.bC.take i) (λx=>a.bC.length-x.2.toNat) ?_ n _ ⟨0,rfl,O,aW⟩ bQ;rintro d ⟨x,k⟩ ⟨i,e,s,c⟩ m;dsimp only at e c⊢;subst e;refine aQ (λo=>?_) λp=>ab.some ?_
 ·have hs:=bs (O:i<a.bC.length);have w:x.length=i:=by rw[c,cL];omega
  refine ag (bk hs) (ag (y3 n (l _ (bE hs))) (ag (cY bQ) ?_));rw[be O];refine m _ ⟨i+1,Z,O,?_⟩ Z;dsimp only;rw[ek,hs,c];rfl
 have:i=a.bC.length:=O
 rw[c,this,c6]
theorem Nz{l:List ay}(e:l.length<=2)(c: ∀a∈l,cR a=true):kn l:=⟨O,λa d=>by have:=(fM (c a d)).1;unfold jo;omega⟩
theorem KB{d:Int}: ∀(L n:Nat) (e:Expr) (out:List bZ),6000+L<=n->L<=5->dC L e d=true->(out.length:Int)<=1000+200*(6-(L:Int))->sT (n+1) out e=some (out++dX L e)
 |0,n,e,out,_,_,h,_=>by cases h
 |L+1,n,e,out,Q,B,h,R=>by
  obtain⟨U,W,w⟩:=g' h;have C:=pj e.kind;unfold sT;refine ab.eq (ab.aA (λz=>z=out++(if e.kind=3 then [e.read] else [])) (λj y=>aQ (λa=>?_) λo=>y _ (by rw[a6 o];simp)) λz A=>?_)
  ·have D:=EN h e.read (by simp[dX,a]);obtain⟨_,F,G⟩:=mP D;exact ag (yz O (Nz F G)) (ag (cY bQ) (y _ (by rw[a1 a])))
  subst A;obtain⟨n,rfl⟩: ∃j,n=j+1:=⟨n-1,O⟩
  by_cases a:e.kind=3
  ·have c:e.bm=[]:=by
    have A:fs e.kind=0:=by unfold fs;rw[a1 (Or.inr (Or.inr a))]
    exact kI O
   rw[c];refine ab.some ?_;simp[dX,a,c]
  have p: ∀k∈e.bm,((dX L k).length:Int)<=100:=λk m=>by
   have X:=AY (w k m);have Y:(2:Int)^L<=40:=by
    match L,B with
    |0,_=>decide
    |1,_=>decide
    |2,_=>decide
    |3,_=>decide
    |4,_=>decide
   have:=zm L k;omega
  rw[a6 a,kK];refine ab.loop (λx:List bZ×Int=> ∃i:Nat,x.2=i/\i<=e.bm.length/\x.1=out++(e.bm.take i).flatMap (dX L)/\(x.1.length:Int)<=out.length+100*i) (λx=>e.bm.length-x.2.toNat) ?_ (n+1) _ ⟨0,rfl,O,aW,aW⟩ bQ;rintro q ⟨x,k⟩ ⟨i,m,b,r,s⟩ H;dsimp only at m r s⊢;subst m;refine aQ (λI=>?_) λK=>ab.some ?_
  ·have l:=bs (O:i<e.bm.length);have hm:=bE l;have a':=p _ hm;refine ag (bk l) (ag (KB (d:=d) L n _ x O O (w _ hm) O) ?_);rw[be O];refine H _ ⟨i+1,Z,O,?_,by dsimp only;rw[dD];omega⟩ Z;dsimp only;rw[ek,l,oE,r];simp
  have:i=e.bm.length:=O
  rw[r,this,c6];simp[dX,a]
theorem N2{o:List Loop}(c:Fit o): ∀(bY:List Loop) (k:Nat) (p q:List Int),o.drop k=bY->k<=o.length->hS k p->q∈fm bY p->hS o.length q
 | [],k,p,q,d,h,e,a=>by
  have:=z8 d h;simp only[fm,List.mem_singleton] at a;subst a;subst this;exact e
 |l::bY,k,p,q,d,h,e,a=>by obtain⟨i,m,x⟩:=zA d;obtain⟨n,r⟩:=c.2 k l i;have s:=c.1;simp only[fm,List.mem_flatMap] at a;obtain⟨v,w,a⟩:=a;exact N2 c bY (k+1) _ q m O (AD n r e O (ZY.1 w)) a
theorem rZ{o:List Loop}{z:List (List Int)}(h:jL o=some z):Fit o/\z.length<=120/\(∀q∈z,hS o.length q)/\z=fm o []/\fw o []<=1200:=by
 unfold jL at h;split at h
 ·rename_i a;cases h;have c:=AW a.1;exact⟨c,a.2.2,λq d=>N2 c o 0 [] q rfl O ya d,rfl,a.2.1⟩
 cases h
def gF(c:List cg)(s:Stmt)(q:List Int):Bool:=decide (0<=eB c s.write q 0)&&(dX 5 s.value).all λa=>decide (0<=eB c a q 0)
theorem kA(h:er s d=true):fR s.write d=true/\dC 5 s.value d=true/\(∀a∈dX 5 s.value,fR a d=true)/\(dX 5 s.value).length<=12:=by
 simp only[er,Bool.and_eq_true,decide_eq_true_eq] at h;obtain⟨_,e,c,i⟩:=h
 have:=zm 5 s.value;exact⟨e,c,EN c,O⟩
theorem UU(D:7000<=n)(e:p.aR.length<=4)(i:kz p.aR)(r:er s d=true)(m:hS k q):Ce n p s q=some (gF p.aR s q):=by
 obtain⟨w,x,y,F⟩:=kA r;obtain⟨n,rfl⟩: ∃j,n=j+1:=⟨n-1,O⟩
 refine ab.eq ?_;unfold Ce;generalize c:gF p.aR s q=T;unfold gF at c;refine ab.aA (λz=>z=T) (λj o=>ag (zx O e i w m) (aQ (λh=>?_) λh=>o _ ?_)) λz A=>ab.some A
 ·have bP:=Si (n:=n+1) (f:=λB=>xj (n+1) B p q) (p:=λa=>decide (eB p.aR a q 0<0)) (l:=dX 5 s.value)
   (λa C=>by unfold xj;rw[zx O e i (y a C) m];rfl) O O
  refine ag (Eo (d:=d) 5 n s.value O O x) (ag bP (o _ ?_));rw[<-c,bA h,fe,ta];congr 1;apply congrArg λf=>List.any (dX 5 s.value) f;funext a;rw[B']
 rw[<-c,bu h];rfl
theorem J1(f:7000<=n)(D:r.length<=4)(F:kz r)(I:er s d=true)(G:hS k q):
  vj n r s q=some (if gF r s q=true then((dX 5 s.value).map λa=>eB r a q 0,eB r s.write q 0,true) else([],0,false)):=by
 obtain⟨K,L,Q,g⟩:=kA I;obtain⟨n,rfl⟩: ∃j,n=j+1:=⟨n-1,O⟩
 refine ab.eq ?_;unfold vj;refine ag (KB (d:=d) 5 n s.value [] O O L aW) ?_;rw[s4];generalize U:dX 5 s.value=R at*;have e:gF r s q=(decide (0<=eB r s.write q 0)&&R.all λa=>decide (0<=eB r a q 0)):=by unfold gF;rw[U]
 refine ab.loop (λx:List Int×Int=> ∃i:Nat,x.2=i/\i<=R.length/\x.1=(R.take i).map (λa=>eB r a q 0)/\ ∀(t:Nat) a,t<i->R[t]? =some a->0<=eB r a q 0) (λx=>R.length-x.2.toNat) ?_ (n+1) _ ⟨0,rfl,O,aW,λt a h=>O⟩ Z;rintro w ⟨x,z⟩ ⟨i,H,u,p,y⟩ W;dsimp only at H p y⊢;subst H;refine aQ (λX=>?_) λY=>?_
 ·have bN:=bs (O:i<R.length);have hm:=bE bN;refine ag (bk bN) (ag (Ls O D F (Q _ hm) G) (aQ (λl=>ab.some ?_) λm=>?_))
  ·rw[a6];rw[e];intro h;rw[oF] at h
   have:=fy.1 h.2 _ hm;rw[decide_eq_true_eq] at this;omega
  have b:x.length<=12:=by rw[p,c5,cL];omega
  refine ag (cY bQ) ?_;rw[be O];refine W _ ⟨i+1,Z,O,?_,λt a A c=>?_⟩ Z
  ·dsimp only;rw[ek,bN,fU,p];rfl
  by_cases B:t=i
  ·subst B;rw[bN] at c;cases c;omega
  exact y t a O c
 have C:i=R.length:=O
 have o:R.all (λa=>decide (0<=eB r a q 0))=true:=fy.2 (λa hm=>by
  obtain⟨t,A⟩:=lh hm
  have:=(bS.1 A).1;exact bA (y t a O A))
 rw[e,o,Bool.and_true];refine ag (Ls O D F K G) (aQ (λl=>ab.some ?_) λm=>ab.some ?_)
 ·rw[a6 (by rw[decide_eq_true_eq];omega)]
 rw[a1 (by rw[decide_eq_true_eq];omega),p,C,c6]
def j9(q:List Int):Bool:=decide (q.length<=4)&&q.all λx=>decide (-9999<=x/\x<=9999)
theorem TS(c:5000<=n)(h:q.length<=1000):zw n q=some (j9 q):=by
 unfold zw j9;have bP:=CZ (n:=n) (f:=λa=>yf n a) (p:=λx=> !decide (-9999<=x/\x<=9999)) (l:=q) (λx _=>by unfold yf;rw[d5];rfl) O O;simp only[aA,Option.bind];rw[bP];have e:(q.any λx=> !decide (-9999<=x/\x<=9999))= !(q.all λx=>decide (-9999<=x/\x<=9999)):=by rw[ta];simp
 rw[e,show decide ((q.length:Int)<=4)=decide (q.length<=4) from decide_eq_decide.2 O];cases decide (q.length<=4)<;>simp
theorem T2(s:5000<=n)(h:q.length<=1000):zg n q=some (j9 q):=by
 refine ab.eq ?_;unfold zg;refine pC (l:=q) (p:=λ_ x=>decide (-9999<=x/\x<=9999)) O O (λa i x e m o=>?_) (λa d=>?_) (λ⟨i,x,e,k⟩=>?_)
 ·have aI:=(bS.1 e).1;rw[bA (show(i:Int)<(q.length:Int) by omega)];refine bR (ag (bk e) (ag (yb n x 9999 O) ?_));cases k:decide (-9999<=x/\x<=9999) with
  |true=>show ab (a _) _;rw[be O];exact m k
  |false=>exact ab.some (o k)
 ·rw[bu (show¬(q.length:Int)<(q.length:Int) by omega)];refine ab.some ?_;unfold j9;rw[fy.2 (λc r=>by obtain⟨i,aI⟩:=lh r;exact d i c aI),Bool.and_true];exact decide_eq_decide.2 O
 unfold j9;rw[jk.2 ⟨x,bE e,by rw[k];simp⟩,jl]
theorem MW{k:Type}(p q:k->Bool): ∀l:List k,(l.all p&&l.all q)=l.all (λx=>p x&&q x)
 | []=>rfl
 |x::l=>by simp only[List.all_cons,<-MW p q l];cases p x<;>cases q x<;>cases l.all p<;>cases l.all q<;>rfl
def nO(a:Part):Bool:=decide (1<=a.body.length/\a.body.length<=4)&&a.body.all λs=>er s (a.nest.length:Int)
def jb(a:Part):List (List Int):=(jL a.nest).getD []
def ep(c:List cg)(a:Part):Bool:=(jL a.nest).isSome&&(nO a&&a.body.all λs=>(jb a).all λq=>gF c s q&&j9 q)
def Ba(x:Part):Prop:=pZ x.nest/\x.body.length<=1000/\ ∀s∈x.body,zJ s
def lp(p:Prog):Prop:=Ei p.aR/\p.parts.length<=1000/\ ∀x∈p.parts,Ba x
theorem gk(h:ep r x=true):jL x.nest=some (jb x)/\(1<=x.body.length/\x.body.length<=4)/\(∀s∈x.body,er s (x.nest.length:Int)=true)/\ ∀s∈x.body,∀q∈jb x,gF r s q=true/\j9 q=true:=by
 simp only[ep,nO,Bool.and_eq_true,decide_eq_true_eq,List.all_eq_true] at h;refine⟨?_,h.2.1.1,h.2.1.2,h.2.2⟩;unfold jb;cases a:jL x.nest with
 |none=>rw[a] at h;simp at h
 |some c=>rfl
theorem Gw{list:List cg}(h:jA list=true):list.length<=4/\kz list:=by
 simp only[jA,Bool.and_eq_true,decide_eq_true_eq] at h;refine⟨h.2,λx a=>?_⟩;obtain⟨i,c⟩:=lh a
 have:=KJ h.1 c;simp only[nQ,Bool.and_eq_true] at this;exact this.2.2
theorem D0(cH:7000<=n){a:List cg}(E:a.length<=4)(M:kz a)(N:Ba x):
  vF n a x=some (if ep a x=true then(((jb x).length:Int)*(x.body.length:Int),true) else(0,false)):=by
 obtain⟨P,h2,S⟩:=N;refine ab.eq ?_;unfold vF;generalize f:(if ep a x=true then(((jb x).length:Int)*(x.body.length:Int),true) else((0:Int),false))=T;refine ag (Sd O P) ?_;have d:ep a x=false->((0:Int),false)=T:=λh=>by rw[<-f,h];rfl
 refine ab.aA (λz=>z= !((jL x.nest).isSome&&decide (1<=x.body.length/\x.body.length<=4))) (λj m=>?_) λz Q=>?_
 ·cases o:jL x.nest with
  |none=>exact bR (m _ (by rw[o];rfl))
  |some c=>
   refine b5 (aQ (λh=>m _ ?_) λh=>m _ ?_)
   ·rw[o,bu O];rfl
   rw[o];by_cases h4:x.body.length<=4
   ·rw[bu (show¬(4:Int)<(x.body.length:Int) by omega),bA O];rfl
   rw[bA (show(4:Int)<(x.body.length:Int) by omega),bu O];rfl
 subst Q;cases o:jL x.nest with
 |none=>exact ab.some (d (by unfold ep;rw[o];rfl))
 |some c=>
  obtain⟨h7,V,R,ady,adz⟩:=rZ o;have B:jb x=c:=by unfold jb;rw[o];rfl
  by_cases K:1<=x.body.length/\x.body.length<=4
  ·rw[bA K];refine b5 ?_;have p:ep a x=x.body.all (λs=>er s (x.nest.length:Int)&&c.all λq=>gF a s q&&j9 q):=by
    unfold ep nO;rw[o,B,bA K,Option.isSome_some,fe,fe];exact MW _ _ _
   refine ab.loop (λy:Int=> ∃i:Nat,y=i/\i<=x.body.length/\ ∀(t:Nat) s,t<i->x.body[t]? =some s->(er s (x.nest.length:Int)&&c.all λq=>gF a s q&&j9 q)=true) (λy=>x.body.length-y.toNat) ?_ n _ ⟨0,rfl,O,λt s h=>O⟩ bQ;rintro U y ⟨i,rfl,aI,g⟩ b7;refine aQ (λhlt=>?_) λiD=>ab.some ?_
   ·have bN:=bs (O:i<x.body.length);have hm:=bE bN;refine ag (bk bN) (ag (IK O (S _ hm) _) ?_);cases l:er x.body[i] (x.nest.length:Int) with
    |false=>
     refine bR (ab.some (d ?_));rw[p];exact jk.2 ⟨_,hm,by rw[l];simp⟩
    |true=>
     refine b5 ?_;show ab (bo (λe (iN:Int)=>bif decide (iN<(c.length:Int)) then _ else _) n 0) _;refine ab.loop (λy:Int=> ∃k:Nat,y=k/\k<=c.length/\ ∀(t:Nat) q,t<k->c[t]? =some q->(gF a x.body[i] q&&j9 q)=true) (λy=>c.length-y.toNat) ?_ n _ ⟨0,rfl,O,λt s h=>O⟩ bQ;rintro e y ⟨k,rfl,hk,C⟩ W;refine aQ (λu=>?_) λv=>?_
     ·have r:=bs (O:k<c.length);have D:=bE r;have F:=R _ D;have X:c[k].length<=1000:=by have:=F.1;have:=F.2.1;omega
      refine ag (bk r) (ag (J1 O E M l F) (ab.aA (λz=>z= !(gF a x.body[i] c[k]&&j9 c[k])) (λj m=>?_) λz Q=>?_))
      ·cases G:gF a x.body[i] c[k] with
       |false=>
        rw[G] at m;exact bR (m _ rfl)
       |true=>
        rw[G] at m;exact b5 (ag (T2 O X) (m _ rfl))
      subst Q;cases G:(gF a x.body[i] c[k]&&j9 c[k]) with
      |false=>
       refine ab.some (d ?_);rw[p];refine jk.2 ⟨_,hm,?_⟩;rw[l,fe];rw[jk.2 ⟨_,D,by rw[G];simp⟩];simp
      |true=>
       show ab (e _) _;rw[be O];refine W _ ⟨k+1,O,O,λt q L w=>?_⟩ O;by_cases Y:t=k
       ·subst Y;rw[r] at w;cases w;exact G
       exact C t q O w
     rw[be O];refine b7 _ ⟨i+1,O,O,λt s L A=>?_⟩ O;by_cases b:t=i
     ·subst b;rw[bN] at A;cases A;rw[l,fe];refine fy.2 λq F=>?_;obtain⟨lS,H⟩:=lh F
      have:=(bS.1 H).1;exact C lS q O H
     exact g t s O A
   have I:ep a x=true:=by
    rw[p];refine fy.2 λs hs=>?_;obtain⟨t,L⟩:=lh hs
    have:=(bS.1 L).1;exact g t s O L
   rw[<-f,I,a1 rfl,B];show(wr ((c.length:Int)*(x.body.length:Int)),true)=_;have kv:(0:Int)<=(c.length:Int)*(x.body.length:Int):=mM O O;have BF:(c.length:Int)*(x.body.length:Int)<=120*4:=q6 O O O O;rw[be O]
  rw[bu K];refine ab.some (d ?_);unfold ep nO;rw[bu K];simp
def fD(x:Part):Int:=((jb x).length:Int)*(x.body.length:Int)
def ob(i:Nat)(x:Part):List cx:=(jb x).flatMap λq=>(List.range x.body.length).map fun(k:Nat)=>(⟨(i:Int),(k:Int),q⟩:cx)
def bz(a:List Part):List cx:=a.zipIdx.flatMap λy=>ob y.2 y.1
def ka(p:Prog):Bool:=jA p.aR&&(decide (p.parts.length<=4)&&p.parts.all (ep p.aR))
def b2(p:Prog):Bool:=ka p&&decide ((p.parts.map fD).sum<=120)
theorem aef(l:List Part)(x:Part):bz (l++[x])=bz l++ob l.length x:=by unfold bz;rw[List.zipIdx_append,oE];simp
theorem H5{l:List Part}(h:l[i]? =some x):bz (l.take (i+1))=bz (l.take i)++ob i x:=by have aI:=(bS.1 h).1;rw[ek,h];show bz (l.take i++[x])=_;rw[aef,cL,vx (Nat.le_of_lt aI)]
theorem z7{k R:Type}(f:k->List R)(m:Nat)(h: ∀x,(f x).length=m): ∀l:List k,(l.flatMap f).length=l.length*m
 | []=>aW
 |x::l=>by rw[List.flatMap_cons,dD,h,z7 f m h l,List.length_cons,dn];omega
theorem H4(i:Nat)(x:Part):((ob i x).length:Int)=fD x:=by unfold ob fD;rw[z7 _ x.body.length λq=>aW];exact Int.natCast_mul _ _
theorem Mn{l:List Part}(h:l[i]? =some x):((l.take (i+1)).map fD).sum=((l.take i).map fD).sum+fD x:=by rw[ek,h];simp
theorem P3: ∀(l:List Part) (i:Nat),i<=l.length->((bz (l.take i)).length:Int)=((l.take i).map fD).sum
 |l,0,_=>by simp[bz]
 |l,i+1,h=>by
  have bN:=bs (O:i<l.length);rw[H5 bN,dD,Mn bN]
  have:=P3 l i O
  have:=H4 i l[i];omega
theorem BW(l:List Part):((bz l).length:Int)=(l.map fD).sum:=by
 have:=P3 l l.length (cO _)
 rwa [c6] at this
theorem yW(h:ep r x=true):0<=fD x/\fD x<=480:=by
 obtain⟨a,c,_⟩:=gk h;obtain⟨_,d,_⟩:=rZ a;unfold fD;refine⟨mM O O,?_⟩
 have:=q6 (show((jb x).length:Int)<=120 by omega) (show(x.body.length:Int)<=4 by omega) O O;omega
theorem jR(Y:7000<=n)(G:lp p):kp n p=some (b2 p):=by
 obtain⟨H,b,I⟩:=G;refine ab.eq ?_;unfold kp;generalize q:b2 p=T;unfold b2 ka at q;refine ab.aA (λz=>z= !(jA p.aR&&decide (p.parts.length<=4))) (λj C=>ag (Sz O H) ?_) λz m=>?_
 ·cases e:jA p.aR with
  |false=>exact bR (C _ (by rw[e];rfl))
  |true=>
   refine b5 (C _ ?_);rw[e];by_cases D:p.parts.length<=4
   ·rw[bu (show¬(4:Int)<(p.parts.length:Int) by omega),bA D];rfl
   rw[bA (show(4:Int)<(p.parts.length:Int) by omega),bu D];rfl
 subst m;cases o:(jA p.aR&&decide (p.parts.length<=4)) with
 |false=>
  refine ab.some ?_;rw[<-q,<-lW,o];rfl
 |true=>
  have k:T=(p.parts.all (ep p.aR)&&decide ((p.parts.map fD).sum<=120)):=by rw[<-q,<-lW,o];rfl
  rw[oF,decide_eq_true_eq] at o;obtain⟨K,L⟩:=Gw o.1;refine b5 ?_;refine ab.loop (λx:Int×Int=> ∃i:Nat,x.2=i/\i<=p.parts.length/\x.1=((p.parts.take i).map fD).sum/\0<=x.1/\x.1<=480*i/\ ∀(t:Nat) y,t<i->p.parts[t]? =some y->ep p.aR y=true) (λx=>p.parts.length-x.2.toNat) ?_ n _ ⟨0,rfl,O,aW,aW,aW,λt y h=>O⟩ Z;rintro a ⟨x,z⟩ ⟨i,m,f,F,r,s,e⟩ Q;dsimp only at m F r s e⊢;subst m;refine aQ (λR=>?_) λU=>ab.some ?_
  ·have bN:=bs (O:i<p.parts.length);have hm:=bE bN;refine ag (bk bN) (ag (D0 O K L (I _ hm)) ?_);cases c:ep p.aR p.parts[i] with
   |false=>
    rw[a6 aW];refine ab.some ?_;rw[k,jk.2 ⟨_,hm,by rw[c];simp⟩];rfl
   |true=>
    rw[a1 rfl];have W:=yW c;show ab (a (wr (x+fD p.parts[i]),wr ((i:Int)+1))) _;rw[be (n:=x+fD p.parts[i]) O,be O];refine Q _ ⟨i+1,Z,O,by dsimp only;rw[Mn bN];omega,Z,Z,λt y w d=>?_⟩ Z;by_cases A:t=i
    ·subst A;rw[bN] at d;cases d;exact c
    exact e t y O d
  have B:i=p.parts.length:=O
  have l:p.parts.all (ep p.aR)=true:=fy.2 (λy X=>by
   obtain⟨t,w⟩:=lh X
   have:=(bS.1 w).1;exact e t y O w)
  rw[k,l,fe,F,B,c6]
theorem Jr{R:Type}(f:Nat->R)(k:Nat):(List.range (k+1)).map f=(List.range k).map f++[f k]:=by rw[pG,fU];rfl
theorem Js(cH:7000<=n)(hp:lp p):ui n p=some (if ka p=true then(bz p.parts,decide ((bz p.parts).length<=120)) else([],false)):=by
 obtain⟨h1,h2,h3⟩:=hp;refine ab.eq ?_;unfold ui;generalize kt:(if ka p=true then(bz p.parts,decide ((bz p.parts).length<=120)) else([],false))=T;have a:ka p=false->(([]:List cx),false)=T:=λh=>by rw[<-kt,h];rfl
 refine ab.aA (λz=>z= !(jA p.aR&&decide (p.parts.length<=4))) (λj b=>ag (Tq O h1) ?_) λz d=>?_
 ·cases g:jA p.aR with
  |false=>exact bR (b _ (by rw[g];rfl))
  |true=>
   refine b5 (b _ ?_);rw[g];by_cases h4:p.parts.length<=4
   ·rw[bu (show¬(4:Int)<(p.parts.length:Int) by omega),bA h4];rfl
   rw[bA (show(4:Int)<(p.parts.length:Int) by omega),bu h4];rfl
 subst d;cases a':(jA p.aR&&decide (p.parts.length<=4)) with
 |false=>exact ab.some (a (by unfold ka;rw[<-lW,a'];rfl))
 |true=>
  have o:ka p=p.parts.all (ep p.aR):=by unfold ka;rw[<-lW,a'];rfl
  rw[oF,decide_eq_true_eq] at a';obtain⟨cD,cv⟩:=Gw a'.1;refine b5 ?_;refine ab.loop (λx:List cx×Int=> ∃i:Nat,x.2=i/\i<=p.parts.length/\x.1=bz (p.parts.take i)/\x.1.length<=480*i/\ ∀(t:Nat) y,t<i->p.parts[t]? =some y->ep p.aR y=true) (λx=>p.parts.length-x.2.toNat) ?_ n _ ⟨0,rfl,O,by simp[bz],aW,λt y h=>O⟩ Z;rintro again ⟨x,z⟩ ⟨i,d,aI,hx,adV,g⟩ b7;dsimp only at d hx adV g⊢;subst d;refine aQ (λhlt=>?_) λiD=>ab.some ?_
  ·have bN:=bs (O:i<p.parts.length);have hm:=bE bN;obtain⟨s1,s2,ag_⟩:=h3 _ hm;generalize xm:p.parts[i]=P at*;have w:ep p.aR P=false->ka p=false:=λh=>by rw[o];exact jk.2 ⟨_,hm,by rw[h];simp⟩
   refine ag (bk bN) (ag (Sg O s1) (ab.aA (λz=>z= !((jL P.nest).isSome&&nO P)) (λj b=>?_) λz d=>?_))
   ·cases B:jL P.nest with
    |none=>exact bR (b _ (by rw[B];rfl))
    |some c=>
     refine b5 ?_;have hw:fi n (P.body.length:Int) 1 4=some (decide (1<=P.body.length/\P.body.length<=4)):=by
      rw[d5];congr 1;exact decide_eq_decide.2 O
     refine ag hw ?_;have bP:=Tt (n:=n) (f:=λoo=>xh n oo P) (p:=λs=> !er s (P.nest.length:Int)) (l:=P.body) (λs v=>by unfold xh;rw[Su O (ag_ s v)];rfl) O O;have e:(P.body.any λs=> !er s (P.nest.length:Int))= !(P.body.all λs=>er s (P.nest.length:Int)):=by rw[ta];simp
     cases E:decide (1<=P.body.length/\P.body.length<=4) with
     |false=>exact bR (b _ (by unfold nO;rw[B,E];rfl))
     |true=>exact b5 (ag bP (b _ (by unfold nO;rw[B,E,e];rfl)))
   subst d;cases B:jL P.nest with
   |none=>exact ab.some (a (w (by unfold ep;rw[B];rfl)))
   |some c=>
    obtain⟨h7,agi,adx,ady,adz⟩:=rZ B;have M:jb P=c:=by unfold jb;rw[B];rfl
    cases G:nO P with
    |false=>exact ab.some (a (w (by unfold ep;rw[G];simp)))
    |true=>
     have C:=G;simp only[nO,Bool.and_eq_true,decide_eq_true_eq,List.all_eq_true] at C;obtain⟨⟨kv,BF⟩,xp⟩:=C;have H:ep p.aR P=P.body.all (λs=>c.all λq=>gF p.aR s q&&j9 q):=by
      unfold ep;rw[B,G,M];rfl
     let row:List Int->List cx:=λq=>(List.range P.body.length).map fun(k:Nat)=>(⟨(i:Int),(k:Int),q⟩:cx)
     have hrl: ∀q,(row q).length=P.body.length:=λq=>by simp[row]
     have r:ob i P=c.flatMap row:=by unfold ob;rw[M]
     refine b5 ?_;rw[show(rU (some c)).1=c from rfl];refine ab.loop (λy:List cx×Int=> ∃k:Nat,y.2=k/\k<=c.length/\y.1=x++(c.take k).flatMap row/\ ∀(t:Nat) q,t<k->c[t]? =some q->j9 q=true/\ ∀s∈P.body,gF p.aR s q=true) (λy=>c.length-y.2.toNat) ?_ n _ ⟨0,rfl,O,aW,λt q h=>O⟩ Z;rintro N ⟨y,z⟩ ⟨k,d,hk,I,K⟩ S;dsimp only at d I K⊢;subst d;refine aQ (λhlt2=>?_) λaf'=>?_
     ·have A:=bs (O:k<c.length);have L:=bE A;generalize Hg:c[k]=Q at*;have V:=adx _ L;have adB:Q.length<=4:=by have:=V.1;have:=V.2.1;omega
      refine ag (bk A) (ag (TS O O) ?_);have adX:y.length<=480*4+480:=by
       rw[I,dD,z7 row _ hrl,cL]
       have:min k c.length*P.body.length<=120*4:=nA O BF;omega
      cases PQ:j9 Q with
      |false=>
       refine bR (ab.some (a (w ?_)));rw[H];obtain⟨IB,adH⟩: ∃IB,IB∈P.body:=List.exists_mem_of_length_pos O;refine jk.2 ⟨IB,adH,?_⟩;rw[jk.2 ⟨Q,L,by rw[PQ];simp⟩];simp
      |true=>
       refine b5 ?_;refine ab.loop (λu:List cx×Int=> ∃m:Nat,u.2=m/\m<=P.body.length/\u.1=y++(List.range m).map (fun(k:Nat)=>(⟨(i:Int),(k:Int),Q⟩:cx))/\ ∀(t:Nat) s,t<m->P.body[t]? =some s->gF p.aR s Q=true) (λu=>P.body.length-u.2.toNat) ?_ n _ ⟨0,rfl,O,aW,λt s h=>O⟩ Z;rintro afR ⟨u,z⟩ ⟨m,d,mi,hu,R⟩ adD;dsimp only at d hu R⊢;subst d;refine aQ (λagf=>?_) λaga=>?_
       ·have U:=bs (O:m<P.body.length);have D:=bE U;refine ag (bk U) (ag (UU O cD cv (xp _ D) V) ?_);cases Px:gF p.aR P.body[m] Q with
        |false=>
         refine bR (ab.some (a (w ?_)));rw[H];refine jk.2 ⟨_,D,?_⟩;rw[jk.2 ⟨Q,L,by rw[Px];simp⟩];simp
        |true=>
         have hcl:jB Q=some Q:=by unfold jB;rw[a1 O]
         have o7:u.length<=480*4+480+4:=by rw[hu];simp;omega
         refine b5 (ag hcl (ag (cY bQ) ?_));rw[be O];refine adD _ ⟨m+1,Z,O,?_,λt s F W=>?_⟩ Z
         ·dsimp only;rw[hu,Jr,ih]
         by_cases adP:t=m
         ·subst adP;rw[U] at W;cases W;exact Px
         exact R t s O W
       have adj:m=P.body.length:=O
       rw[be O];refine S _ ⟨k+1,Z,O,?_,λt q F X=>?_⟩ Z
       ·dsimp only;rw[ek,A,oE,<-ih,<-I,hu,adj];simp[row]
       by_cases adO:t=k
       ·subst adO;rw[A] at X;cases X;refine⟨PQ,λs v=>?_⟩;obtain⟨lS,PU⟩:=lh v
        have:=(bS.1 PU).1;exact R lS s O PU
       exact K t q O X
     have PE:k=c.length:=O
     have PO:ep p.aR P=true:=by
      rw[H];refine fy.2 λs v=>fy.2 λq V=>?_;obtain⟨t,F⟩:=lh V
      have:=(bS.1 F).1;obtain⟨g1,g2⟩:=K t q O F;rw[g1,g2 s v];rfl
     have BG:=yW PO;have BM:=H4 i P;rw[be O];refine b7 _ ⟨i+1,Z,O,?_,?_,λt y F Y=>?_⟩ Z
     ·dsimp only;rw[H5 bN,r,I,PE,c6,hx]
     ·dsimp only;rw[I,PE,c6,dD,<-r];omega
     by_cases adN:t=i
     ·subst adN;rw[bN] at Y;cases Y;exact PO
     exact g t y O Y
  have acZ:i=p.parts.length:=O
  have hall:ka p=true:=by
   rw[o];exact fy.2 (λy I=>by
    obtain⟨t,F⟩:=lh I
    have:=(bS.1 F).1;exact g t y O F)
  rw[<-kt,a1 hall,hx,acZ,c6];congr 1;exact decide_eq_decide.2 O
theorem r0(a:7000<=n)(c:lp p):qi n p=some (b2 p):=by
 unfold qi;rw[Js a c];unfold b2;cases h:ka p with
 |false=>rfl
 |true=>
  rw[a1 rfl];show some (decide _)=_;rw[fe];congr 1
  have:=BW p.parts;exact decide_eq_decide.2 O
theorem eA(h:b2 p=true):p.aR.length<=4/\kz p.aR/\p.parts.length<=4/\(∀x∈p.parts,ep p.aR x=true)/\(bz p.parts).length<=120:=by
 simp only[b2,ka,Bool.and_eq_true,decide_eq_true_eq,List.all_eq_true] at h;obtain⟨⟨c,d,e⟩,i⟩:=h;obtain⟨a,b⟩:=Gw c
 have:=BW p.parts;exact⟨a,b,d,e,O⟩
theorem uG(cH:7000<=n)(S:b2 p=true):oW n p=some (bz p.parts):=by
 obtain⟨cD,cv,h4,D,T⟩:=eA S;refine ab.eq ?_;unfold oW;refine ab.loop (λx:List cx×Int=> ∃i:Nat,x.2=i/\i<=p.parts.length/\x.1=bz (p.parts.take i)/\x.1.length<=480*i) (λx=>p.parts.length-x.2.toNat) ?_ n _ ⟨0,rfl,O,by simp[bz],aW⟩ Z;rintro F ⟨x,z⟩ ⟨i,c,aI,G,H⟩ V;dsimp only at c G H⊢;subst c;refine aQ (λhlt=>?_) λiD=>ab.some ?_
 ·have bN:=bs (O:i<p.parts.length);have hm:=bE bN;have e:=D _ hm;generalize xm:p.parts[i]=P at*;obtain⟨k',q2,pn,Qg⟩:=gk e;obtain⟨f,I,K,h,L⟩:=rZ k';generalize R:jb P=g at*;have BG:=yW e;have j:=H4 i P;let row:List Int->List cx:=λq=>(List.range P.body.length).map fun(k:Nat)=>(⟨(i:Int),(k:Int),q⟩:cx)
  have U: ∀q,(row q).length=P.body.length:=λq=>by simp[row]
  have a:ob i P=g.flatMap row:=by unfold ob;rw[R]
  refine ag (bk bN) (cc (DX f P.nest n 0 [] [] (by have:=f.1;omega) rfl O ya L aW) λr ⟨sQ,vb⟩=>?_);have W:r=g:=by rw[sQ (by rw[<-h];simpa using I),h];rfl
  subst W;refine ab.loop (λy:List cx×Int=> ∃k:Nat,y.2=k/\k<=r.length/\y.1=x++(r.take k).flatMap row) (λy=>r.length-y.2.toNat) ?_ n _ ⟨0,rfl,O,aW⟩ Z;rintro l ⟨y,z⟩ ⟨k,c,hk,o⟩ s;dsimp only at c o⊢;subst c;refine aQ (λt=>?_) λv=>?_
  ·have d:=bs (O:k<r.length);have X:=bE d;generalize Hg:r[k]=Q at*;have E:=K _ X;have adB:Q.length<=4:=by have:=E.1;have:=E.2.1;omega
   have adX:y.length<=480*4+480:=by
    rw[o,dD,z7 row _ U,cL]
    have:min k r.length*P.body.length<=120*4:=nA O q2.2;omega
   refine ab.loop (λu:List cx×Int=> ∃m:Nat,u.2=m/\m<=P.body.length/\u.1=y++(List.range m).map (fun(k:Nat)=>(⟨(i:Int),(k:Int),Q⟩:cx))) (λu=>P.body.length-u.2.toNat) ?_ n _ ⟨0,rfl,O,aW⟩ Z;rintro w ⟨u,z⟩ ⟨m,c,mi,C⟩ A;dsimp only at c C⊢;subst c;refine aQ (λM=>?_) λN=>?_
   ·have o7:u.length<=480*4+480+4:=by rw[C];simp;omega
    refine ag (bk d) (ag (nc _ O) (ag (cY bQ) ?_));rw[be O];refine A _ ⟨m+1,Z,O,?_⟩ Z;dsimp only;rw[C,Jr,ih]
   have Y:m=P.body.length:=O
   rw[be O];refine s _ ⟨k+1,Z,O,?_⟩ Z;dsimp only;rw[ek,d,oE,<-ih,<-o,C,Y];simp[row]
  have B:k=r.length:=O
  rw[be O];refine V _ ⟨i+1,Z,O,?_,?_⟩ Z
  ·dsimp only;rw[H5 bN,a,o,B,c6,G]
  dsimp only;rw[o,B,c6,dD,<-a];omega
 have b:i=p.parts.length:=O
 rw[G,b,c6]
theorem Vg{l:List cg}{x:cg}(h:l[i]? =some x):fX (l.take (i+1))=fX (l.take i)+gW x.bT:=by unfold fX;rw[List.take_add_one,h];simp
theorem Kz(s:7000<=n)(w:p.aR.length<=4)(m:kz p.aR):ze n p=some (fX p.aR):=by
 refine ab.eq ?_;unfold ze;refine ab.loop (λx:Int×Int=> ∃i:Nat,x.2=i/\i<=p.aR.length/\x.1=fX (p.aR.take i)/\0<=x.1/\x.1<=36*i) (λx=>p.aR.length-x.2.toNat) ?_ n _ ⟨0,rfl,O,by simp[fX],aW,aW⟩ Z;rintro c ⟨x,z⟩ ⟨i,k,y,l,d,e⟩ o;dsimp only at k l d e⊢;subst k;refine aQ (λq=>?_) λr=>ab.some ?_
 ·have bN:=bs (O:i<p.aR.length);have a:=m _ (bE bN);have k0:=rF a;refine ag (bk bN) (ag (DZ O a) ?_);rw[be (n:=x+gW p.aR[i].bT) O,be O];exact o _ ⟨i+1,Z,O,by dsimp only;rw[Vg bN];omega,Z,Z⟩ Z
 have h:i=p.aR.length:=O
 rw[l,h,c6]
theorem KL(a:7000<=n)(c:p.aR.length<=4)(d:kz p.aR):Ck n p=some (fX p.aR):=Kz a c d
def jM:Nat->List cg->List Int->Expr->List Int->Int
 |0,_,_,_,_=>0
 |L+1,c,m,e,q=>
  if e.kind=1 then e.num
  else if e.kind=2 then fQ e.index q%1000
  else if e.kind=3 then m.getD (eB c e.read q 0).toNat 0
  else match e.bm with
   | [a,b]=>if e.kind=4 then(jM L c m a q+jM L c m b q)%1000 else if e.kind=5 then(jM L c m a q-jM L c m b q)%1000 else(jM L c m a q*jM L c m b q)%1000
   |_=>0
def rQ(a:List cg)(m:List Int):Prop:=(m.length:Int)=fX a/\ ∀x∈m,0<=x/\x<=999
theorem aa3(h:rQ r m)(i:Nat):0<=m.getD i 0/\m.getD i 0<=999:=by
 rw[ew];cases a:m[i]? with
 |none=>simp
 |some x=>exact h.2 x (bE a)
theorem aap(c:rQ r m): ∀{L:Nat} {e:Expr},dC L e d=true->0<=jM L r m e q/\jM L r m e q<=999
 |0,e,h=>by cases h
 |L+1,e,h=>by
  obtain⟨i,a,k⟩:=g' h;simp only[jM];split
  ·rename_i eO;unfold eh at a;rw[a6 O,a6 O,a1 eO] at a;simp only[Bool.and_eq_true,decide_eq_true_eq] at a;omega
  split
  ·omega
  split
  ·exact aa3 c _
  split
  ·split
   ·omega
   split<;>omega
  omega
def gn(p:Prog)(x:cx):Prop:= ∃(i k:Nat) (P:Part) (s:Stmt),x.part=i/\x.stmt=k/\p.parts[i]? =some P/\P.body[k]? =some s/\x.cK∈jb P
def tF(p:Prog)(x:cx):Option Stmt:=(p.parts[x.part.toNat]?).bind λP=>P.body[x.stmt.toNat]?
def iL(p:Prog)(m:List Int)(x:cx):List Int:=match tF p x with
 |some s=>m.set (eB p.aR s.write x.cK 0).toNat (jM 5 p.aR m s.value x.cK)
 |none=>m
theorem uJ(o:b2 p=true){x:cx}(q:gn p x): ∃(i k:Nat) (P:Part) (s:Stmt) (d:Int),x.part=i/\x.stmt=k/\p.parts[i]? =some P/\P.body[k]? =some s/\tF p x=some s/\er s d=true/\hS P.nest.length x.cK/\gF p.aR s x.cK=true:=by obtain⟨D,F,G,a,r⟩:=eA o;obtain⟨i,k,P,s,l,m,c,e,n⟩:=q;obtain⟨w,H,y,z⟩:=gk (a P (bE c));obtain⟨I,A,h,B,C⟩:=rZ w;have hs:=bE e;exact⟨i,k,P,s,_,l,m,c,e,by unfold tF;rw[l,m,c3,c];exact(by rw[c3];exact e),y s hs,h _ n,(z s hs _ n).1⟩
theorem FR(h:gF r s q=true):0<=eB r s.write q 0/\ ∀a∈dX 5 s.value,0<=eB r a q 0:=by simp only[gF,Bool.and_eq_true,decide_eq_true_eq,List.all_eq_true] at h;exact h
theorem Ff{k:Type}{l:List k}(a:0<=c)(h:c.toNat<l.length)(x:k):b' l c x=some (l.set c.toNat x):=by unfold b';rw[a1 ⟨a,O⟩]
theorem wW{k:Type}{l:List k}(a:0<=c)(h:c.toNat<l.length):au l c=some l[c.toNat]:=by unfold au;rw[a1 a,List.getElem?_eq_getElem h]
theorem M1(e:b2 p=true)(a:rQ p.aR m){x:cx}(l:gn p x):rQ p.aR (iL p m x):=by
 obtain⟨i,k,P,s,d,q,r,w,y,n,o,z,A⟩:=uJ e l;unfold iL;rw[n];refine⟨by rw[eV];exact a.1,λv c=>?_⟩;rcases q7 c with h|h
 ·exact a.2 v h
 rw[h];exact aap a (kA o).2.1
theorem iF{l:List Part}{x:cx}(h:x∈bz l): ∃(i k:Nat) (P:Part) (s:Stmt),x.part=i/\x.stmt=k/\l[i]? =some P/\P.body[k]? =some s/\x.cK∈jb P:=by unfold bz at h;rw[yF] at h;obtain⟨⟨P,i⟩,d,a⟩:=h;unfold ob at a;rw[yF] at a;obtain⟨q,e,c⟩:=a;rw[eM] at c;obtain⟨k,m,rfl⟩:=c;have n:=s8.1 m;exact⟨i,k,P,P.body[k],rfl,rfl,C9.1 d,bs n,e⟩
def mz(p:Prog)(m:List Int)(l:List cx):List Int:=l.foldl (iL p) m
end
def dp(B:Nat)(a:ay):Prop:=a.aT.length<=B
def eP(B:Nat)(l:List ay):Prop:=l.length<=B/\ ∀a∈l,dp B a
def kf(B:Nat)(a:List Loop):Prop:=a.length<=B/\ ∀l∈a,eP B l.bf/\eP B l.aI
def hT(B:Nat):Nat->Expr->Prop
 |0,_=>False
 |L+1,e=>e.bm.length<=B/\dp B e.index/\eP B e.read.bC/\ ∀k∈e.bm,hT B L k
def iw(B:Nat)(s:Stmt):Prop:=eP B s.write.bC/\hT B 5 s.value
def fx(B:Nat)(x:Part):Prop:=kf B x.nest/\x.body.length<=B/\ ∀s∈x.body,iw B s
def rp(B:Nat)(l:List cg):Prop:=l.length<=B/\ ∀x∈l,x.bT.length<=B
def c9(B:Nat)(p:Prog):Prop:=rp B p.aR/\p.parts.length<=B/\ ∀x∈p.parts,fx B x
variable {B C n:Nat}{a b:ay}{s:Stmt}{p:Prog}{k d:Int}{r:cA}{R:Type}{Q:R->Prop}
theorem dp.mono(h:B<=C)(c:dp B a):dp C a:=gw c h
theorem eP.mono(h:B<=C){l:List ay}(c:eP B l):eP C l:=⟨gw c.1 h,λa d=>(c.2 a d).mono h⟩
theorem kf.mono(h:B<=C){l:List Loop}(c:kf B l):kf C l:=⟨gw c.1 h,λa d=>⟨(c.2 a d).1.mono h,(c.2 a d).2.mono h⟩⟩
theorem hT.mono{B C:Nat}(h:B<=C): ∀{L M:Nat} {e:Expr},L<=M->hT B L e->hT C M e
 |0,_,_,_,a=>a.elim
 |L+1,0,_,c,_=>O
 |L+1,M+1,e,c,a=>⟨gw a.1 h,a.2.1.mono h,a.2.2.1.mono h,λk d=>hT.mono h O (a.2.2.2 k d)⟩
theorem iw.mono(h:B<=C)(a:iw B s):iw C s:=⟨a.1.mono h,a.2.mono h (cO _)⟩
theorem fx.mono(h:B<=C){s:Part}(a:fx B s):fx C s:=⟨a.1.mono h,gw a.2.1 h,λs c=>(a.2.2 s c).mono h⟩
theorem rp.mono(h:B<=C){s:List cg}(a:rp B s):rp C s:=⟨gw a.1 h,λs c=>gw (a.2 s c) h⟩
theorem c9.mono(h:B<=C)(a:c9 B p):c9 C p:=⟨a.1.mono h,gw a.2.1 h,λs c=>(a.2.2 s c).mono h⟩
theorem eP.sm{l:List ay}(h:eP 1000 l):kn l:=⟨h.1,h.2⟩
theorem hT.sm: ∀{L:Nat} (j:Nat) {e:Expr},hT 1000 L e->wm j e
 |_,0,_,_=>trivial
 |0,_+1,_,h=>h.elim
 |L+1,j+1,e,h=>⟨h.1,h.2.1,h.2.2.1.sm,λk a=>hT.sm j (h.2.2.2 k a)⟩
theorem iw.sm(h:iw 1000 s):zJ s:=⟨h.1.sm,h.2.sm 5⟩
theorem kf.sm{l:List Loop}(h:kf 1000 l):pZ l:=⟨h.1,λx a=>⟨(h.2 x a).1.sm,(h.2 x a).2.sm⟩⟩
theorem fx.sm{x:Part}(h:fx 1000 x):Ba x:=⟨h.1.sm,h.2.1,λs a=>(h.2.2 s a).sm⟩
theorem c9.sm(h:c9 1000 p):lp p:=⟨⟨h.1.1,h.1.2⟩,h.2.1,λx a=>(h.2.2 x a).sm⟩
theorem jd(n:Nat){m:Int}(a:cN k r)(c:k<=1000000000):ab (gC n r m) (λx=>0<=x.1/\(1<=m->x.1<m)/\cN (k+1) x.2):=M5 a c
theorem gI(n:Nat){l:List Int}(a:cN k r)(c:k<=1000000000)(d:l≠[]):ab (fB n r l) (λx=>x.1∈l/\cN (k+1) x.2):=aaS a c d
theorem Bt(n:Nat){l:List (List UInt8)}(c:cN k r)(d:k<=1000000000)(e:l≠[]):ab (pc n r l) (λx=>x.1∈l/\cN (k+1) x.2):=by
 unfold pc;have p:1<=l.length:=by cases l;exact bB rfl e;simp
 refine cc (jd n c d) λx ⟨h,i,m⟩=>?_;obtain⟨y,o,a⟩:=gq h (i O);exact ag o (ab.some ⟨bE a,m⟩)
def l2(a:ay):Prop:=a.aT.length=4
theorem gZ(n:Nat)(c:Int):gi n c=some ⟨[0,0,0,0],c⟩:=rfl
theorem wF(n:Nat){v:Int}(h:0<=v/\v<=3):ab (lM n v) l2:=by
 unfold lM;refine ag (x:=⟨[0,0,0,0],0⟩) rfl ?_;obtain⟨y,a,_⟩:=gq (l:=[(0:Int),0,0,0]) (i:=v) h.1 bQ;refine ag a ?_;have c:b' [(0:Int),0,0,0] v 1=some ([(0:Int),0,0,0].set v.toNat 1):=by unfold b';rw[a1 ⟨h.1,bQ⟩]
 exact ag c (ab.some (by unfold l2;rw[eV];rfl))
theorem K6(p:5000<=n)(e:l2 a)(h:l2 b)(x y:Int):ab (hY n a x b y) l2:=by unfold l2 at e h;unfold hY;refine ab.loop (λz:List Int×Int=> ∃i:Nat,z.2=i/\i<=4/\z.1.length=i) (λz=>4-z.2.toNat) ?_ n _ ⟨0,rfl,O,rfl⟩ Z;rintro c ⟨z,w⟩ ⟨i,d,q,k⟩ l;dsimp only at d k⊢;subst d;refine aQ (λm=>?_) λo=>ab.some (by unfold l2;dsimp only;omega);refine ag (bk (bs (O:i<a.aT.length))) (ag (bk (bs (O:i<b.aT.length))) (ag (cY bQ) ?_));rw[be (n:=(i:Int)+1) O];exact l _ ⟨i+1,Z,O,by dsimp only;simp;omega⟩ Z
theorem l2.O2(h:l2 a):dp 10 a:=by unfold l2 at h;unfold dp;omega
theorem oU(h:dp 10 a):eP 10 [a]:=⟨aW,λx c=>by simp at c;subst c;exact h⟩
theorem OO(h:dp 10 a)(k:dp 10 b):eP 10 [a,b]:=⟨aW,λx c=>by simp at c;rcases c with rfl|rfl;exact h;exact k⟩
theorem Zy(Q:5000<=n)(R:cN k r)(T:0<=k/\k<=100000000)(V:0<=d/\d<=3):ab (Af n r d) (λx=>(eP 10 x.1.bf/\eP 10 x.1.aI)/\cN (k+10) x.2):=by
 unfold Af;refine cc (gI n R O aW) λgb ⟨_,U⟩=>ag (gZ _ _) (cc (gI n U O aW) λil ⟨_,I⟩=>ag (gZ _ _) ?_);refine ab.aA (λz:List UInt8×Int×List Int×Int×List Int×Int=>cN (k+5) ⟨z.1,z.2.1⟩/\z.2.2.1.length=4/\z.2.2.2.2.1.length=4) (λj i=>?_) λz l=>?_
 ·refine ab.aA (λz:List UInt8×Int×Bool=>cN (k+3) ⟨z.1,z.2.1⟩/\(z.2.2=true->0<d)) (λxG p=>aQ (λh=>?_) λh=>p _ ⟨I.mono O,λh=>by cases h⟩) λz l=>?_
  ·exact cc (jd n I O) λhR ⟨_,_,W⟩=>p _ ⟨W.mono O,λ_=>h⟩
  obtain⟨X,Y,w⟩:=z;obtain⟨a,e⟩:=l;dsimp only at a e⊢;cases w with
  |false=>exact i _ ⟨a.mono O,rfl,rfl⟩
  |true=>
   have b:=e rfl;refine cc (jd n a O) λq ⟨f,g,y⟩=>cc (jd n y O) λt ⟨_,_,s⟩=>?_;have K:0<=q.1/\q.1<=3:=⟨f,by have:=g O;omega⟩
   refine aQ (λ_=>cc (wF n K) λu A=>i _ ⟨s.mono O,A,rfl⟩) λ_=>cc (wF n K) λv B=>ag (gZ _ _) (cc (K6 Q B (show l2 ⟨[0,0,0,0],1⟩ from rfl) 1 1) λE C=>i _ ⟨s.mono O,rfl,C⟩)
 obtain⟨X,Y,w,M,N,P⟩:=z;obtain⟨a,e,D⟩:=l;dsimp only at a e D⊢;have F:dp 10 ⟨w,M⟩:=by unfold dp;dsimp only;omega
 have G:dp 10 ⟨N,P⟩:=by unfold dp;dsimp only;omega
 have L: ∀c:Int,dp 10 ⟨[0,0,0,0],c⟩:=λc=>by unfold dp;simp
 refine ab.aA (λz:List UInt8×Int×List ay×List ay=>cN (k+10) ⟨z.1,z.2.1⟩/\eP 10 z.2.2.1/\eP 10 z.2.2.2) (λj i=>?_) λz l=>ab.some ⟨⟨l.2.1,l.2.2⟩,l.1⟩;refine cc (jd n a O) λS ⟨_,_,m⟩=>aQ (λ_=>?_) λ_=>aQ (λ_=>?_) λ_=>i _ ⟨m.mono O,oU F,oU G⟩
 ·exact cc (gI n m O aW) λH ⟨_,o⟩=>ag (gZ _ _) (ag (cY aW) (i _ ⟨o.mono O,oU F,OO G (L _)⟩))
 exact cc (gI n m O aW) λH ⟨_,o⟩=>ag (gZ _ _) (ag (cY aW) (i _ ⟨o.mono O,OO F (L _),oU G⟩))
theorem Z5(p:5000<=n)(s:cN k r)(I:0<=k/\k<=90000000):ab (Ae n r) (λx=>(x.1.length<=3/\kf 10 x.1)/\cN (k+40) x.2):=by
 unfold Ae;refine cc (gI n s O aW) λa ⟨w,y⟩=>?_;have K:1<=a.1/\a.1<=3:=by simp at w;omega
 refine ab.loop (λz:List UInt8×Int×List Loop×Int=>0<=z.2.2.2/\(z.2.2.1.length:Int)+z.2.2.2=a.1/\cN (k+1+10*z.2.2.1.length) ⟨z.1,z.2.1⟩/\ ∀l∈z.2.2.1,eP 10 l.bf/\eP 10 l.aI) (λz=>z.2.2.2.toNat) ?_ n _ ⟨Z,aW,by simpa using y,λl h=>by simp at h⟩ Z;rintro e ⟨b,q,bY,c⟩ ⟨A,B,i,m⟩ o;dsimp only at A B i m⊢;refine aQ (λC=>?_) λD=>ab.some ⟨⟨Z,Z,m⟩,i.mono O⟩;refine cc (Zy p i O (d:=(bY.length:Int)) O) λL ⟨F,G⟩=>ag (cY bQ) ?_;rw[be O];refine o _ ⟨Z,by dsimp only;simp;omega,G.mono bQ,λl H=>?_⟩ Z;rcases dZ.1 H with h|h
 ·exact m l h
 simp at h;subst h;exact F
theorem NS(Q:5000<=n)(R:cN k r)(hk:0<=k/\k<=90000000)(cv:0<=d/\d<=3):ab (vH n r d) (λx=>eP 10 x.1.bC/\cN (k+20) x.2):=by
 unfold vH;refine cc (Bt n R O aW) λgb ⟨m1,U⟩=>?_;refine ab.aA (λz:Int=>1<=z/\z<=2) (λj m=>aQ (λ_=>m _ O) λ_=>m _ O) λw hw=>?_;refine ab.loop (λz:List UInt8×Int×List ay×Int=>0<=z.2.2.2/\z.2.2.2<=w/\(z.2.2.1.length:Int)=z.2.2.2/\cN (k+1+8*z.2.2.2) ⟨z.1,z.2.1⟩/\ ∀a∈z.2.2.1,dp 10 a) (λz=>(w-z.2.2.2).toNat) ?_ n _ ⟨Z,Z,aW,by simpa using U,λl h=>by simp at h⟩ Z;rintro s ⟨b,q,bY,c⟩ ⟨W,X,Y,y,A⟩ B;dsimp only at W X Y y A⊢;refine aQ (λf=>?_) λg=>ab.some ⟨⟨Z,A⟩,y.mono O⟩;refine cc (gI n y O aW) λt ⟨_,o⟩=>ag (gZ _ _) ?_;refine ab.aA (λz:List UInt8×Int×List Int×Int=>cN (k+1+8*c+8) ⟨z.1,z.2.1⟩/\z.2.2.1.length=4) (λj m=>?_) λz C=>?_
 ·refine ab.aA (λz:List UInt8×Int×Bool=>cN (k+1+8*c+2) ⟨z.1,z.2.1⟩/\(z.2.2=true->0<d)) (λxG p=>aQ (λh=>?_) λh=>p _ ⟨o.mono O,λh=>by cases h⟩) λz C=>?_
  ·exact cc (jd n o O) λhR ⟨_,_,u⟩=>p _ ⟨u.mono O,λ_=>h⟩
  obtain⟨v,E,L⟩:=z;obtain⟨e,i⟩:=C;dsimp only at e i⊢;cases L with
  |false=>exact m _ ⟨e.mono O,rfl⟩
  |true=>
   have M:=i rfl;refine cc (jd n e O) λN ⟨P,S,D⟩=>cc (wF n ⟨P,by have:=S O;omega⟩) λT F=>?_;refine cc (gI n D O aW) λV ⟨_,G⟩=>cc (gI n G O aW) λH ⟨_,I⟩=>ag (gZ _ _) ?_;exact cc (K6 Q F (show l2 ⟨[0,0,0,0],H.1⟩ from rfl) _ _) λoI K=>m _ ⟨I.mono O,K⟩
 obtain⟨v,E,L,z4⟩:=z;obtain⟨e,i⟩:=C;dsimp only at e i⊢;refine ag (cY bQ) ?_;rw[be O];refine B _ ⟨Z,Z,by dsimp only;simp;omega,e.mono Z,λa fO=>?_⟩ Z;rcases dZ.1 fO with h|h
 ·exact A a h
 simp at h;subst h;unfold dp;dsimp only;omega
theorem ZK(H:5000<=n)(s:cN k r)(I:0<=k/\k<=90000000)(K:0<=d/\d<=3):ab (wa n r d) (λx=>dp 10 x.1/\cN (k+10) x.2):=by
 unfold wa;refine cc (gI n s O aW) λL ⟨Q,w⟩=>ag (gZ _ _) ?_;refine ab.loop (λz:List UInt8×Int×List Int×Int=>0<=z.2.2.2/\z.2.2.2<=d/\z.2.2.1.length=4/\cN (k+1+z.2.2.2) ⟨z.1,z.2.1⟩) (λz=>(d-z.2.2.2).toNat) ?_ n _ ⟨Z,Z,aW,by simpa using w⟩ Z;rintro a ⟨b,q,bY,c⟩ ⟨e,A,o,h⟩ m;dsimp only at e A o h⊢;refine aQ (λB=>?_) λC=>ab.some ⟨by unfold dp;dsimp only;omega,h.mono O⟩;refine cc (gI n h O aW) λp ⟨_,D⟩=>?_;obtain⟨y,F,_⟩:=gq (l:=bY) (i:=c) e O;have G:b' bY c p.1=some (bY.set c.toNat p.1):=by unfold b';rw[a1 ⟨e,O⟩]
 refine ag F (ag G ?_);rw[be O];exact m _ ⟨Z,Z,by dsimp only;rw[eV];exact o,D.mono Z⟩ Z
def lj:Nat->Int
 |0=>30
 |L+1=>30+2*lj L
theorem LO: ∀L,30<=lj L
 |0=>gx _
 |L+1=>by have:=LO L;simp only[lj];omega
theorem MG{L:Nat}(h:L<=2):lj L<=210:=by
 have a:L=0\/L=1\/L=2:=O
 rcases a with rfl|rfl|rfl<;>decide
theorem uc:dp 10 ⟨[],0⟩:=by unfold dp;simp
theorem tZ:eP 10 []:=⟨aW,λx a=>by simp at a⟩
theorem X2(Y:0<=d/\d<=3): ∀(L n:Nat) (k:Int) (r:cA),5000+L<=n->L<=2->cN k r->0<=k->k<=80000000+10000*(2-(L:Int))->ab (qX (n+1) r d ((L:Int)+1)) (λx=>hT 10 (L+1) x.1/\cN (k+lj L) x.2):=by
 have a: ∀(L n:Nat) (k:Int) (r:cA),5000<=n->cN k r->0<=k->k<=80100000->
   ab (Option.bind (gC n r 4) λi=>bif decide (i.1=0) then(Option.bind (fB n i.2 [1,2,0,99,3]) λo=>some ((⟨1,o.1,(⟨[],0⟩:ay),(⟨[],[]⟩:bZ),[]⟩:Expr),o.2)) else(bif decide (i.1=1) then(Option.bind (wa n i.2 d) λf=>some ((⟨2,0,f.1,(⟨[],[]⟩:bZ),[]⟩:Expr),f.2)) else(Option.bind (vH n i.2 d) λg=>some ((⟨3,0,(⟨[],0⟩:ay),g.1,[]⟩:Expr),g.2)))) (λx=>hT 10 (L+1) x.1/\cN (k+25) x.2):=by
  intro L n k r B m D t;refine cc (jd n m O) λi ⟨_,_,F⟩=>aQ (λ_=>?_) λ_=>aQ (λ_=>?_) λ_=>?_
  ·exact cc (gI n F O aW) λo ⟨_,p⟩=>ab.some ⟨⟨aW,uc,tZ,λk h=>by simp at h⟩,p.mono O⟩
  ·exact cc (ZK B F O Y) λo ⟨G,p⟩=>ab.some ⟨⟨aW,G,tZ,λk h=>by simp at h⟩,p.mono O⟩
  exact cc (NS B F O Y) λo ⟨G,p⟩=>ab.some ⟨⟨aW,uc,G,λk h=>by simp at h⟩,p.mono O⟩
 intro L;induction L with
 |zero=>
  intro n k r B v m D t;unfold qX;refine ab.aA (λz:List UInt8×Int×Bool=>cN k ⟨z.1,z.2.1⟩/\z.2.2=true) (λj C=>aQ (λ_=>C _ ⟨m,rfl⟩) λh=>bB (show((0:Nat):Int)+1<2 by omega) h) λz s=>?_;obtain⟨E,M,u⟩:=z;obtain⟨w,y⟩:=s;dsimp only at w y⊢;subst y;exact(a 0 n k _ O w D O).mono (λx A=>⟨A.1,A.2.mono (by simp only[lj];omega)⟩)
 |succ L N=>
  intro n k r B v m D t;have P:=LO L;have S:lj L<=210:=MG O;unfold qX;refine ab.aA (λz:List UInt8×Int×Bool=>cN (k+1) ⟨z.1,z.2.1⟩) (λj C=>aQ (λh=>C _ (m.mono O)) λh=>cc (jd n m O) λik ⟨_,_,T⟩=>C _ T) λz s=>?_;obtain⟨E,M,u⟩:=z;dsimp only at s⊢;cases u with
  |true=>exact(a (L+1) n (k+1) _ O s O O).mono (λx A=>⟨A.1,A.2.mono (by simp only[lj];omega)⟩)
  |false=>
   refine b5 (cc (gI n s O aW) λV ⟨_,H⟩=>?_);obtain⟨n,rfl⟩: ∃j,n=j+1:=⟨n-1,O⟩
   have agS:wr (((L+1:Nat):Int)+1-1)=(L:Int)+1:=by rw[be O];omega
   rw[agS];refine ab.loop (λz:List UInt8×Int×List Expr×Int=>0<=z.2.2.2/\z.2.2.2<=2/\(z.2.2.1.length:Int)=z.2.2.2/\cN (k+2+lj L*z.2.2.2) ⟨z.1,z.2.1⟩/\ ∀e∈z.2.2.1,hT 10 (L+1) e) (λz=>(2-z.2.2.2).toNat) ?_ (n+1) _ ⟨Z,Z,aW,H.mono bQ,λl h=>by simp at h⟩ Z;rintro I ⟨b,q,bY,c⟩ ⟨i1,i2,i3,K,Q⟩ R;dsimp only at i1 i2 i3 K Q⊢;have af7:0<=lj L*c/\lj L*c<=2*lj L:=by
    have U:c=0\/c=1\/c=2:=O
    rcases U with rfl|rfl|rfl<;>omega
   refine aQ (λhlt=>?_) λiD=>ab.some ⟨⟨Z,uc,tZ,Q⟩,K.mono (by simp only[lj];omega)⟩;refine cc (N n _ _ O O K O O) λnB ⟨W,X⟩=>ag (cY bQ) ?_;rw[be O];refine R _ ⟨Z,Z,by dsimp only;simp;omega,X.mono (by dsimp only;rw[Int.mul_add];omega),λe he=>?_⟩ Z;rcases dZ.1 he with h|h
   ·exact Q e h
   simp at h;subst h;exact W
theorem ZP(B:6000<=n)(m:cN k r)(C:0<=k/\k<=70000000)(c:0<=d/\d<=3):ab (Ac n r d) (λx=>iw 10 x.1/\cN (k+300) x.2):=by
 unfold Ac;refine cc (NS O m O c) λo ⟨p,q⟩=>cc (gI n q O aW) λs ⟨e,w⟩=>?_;obtain⟨L,y,a⟩: ∃L:Nat,s.1=(L:Int)+1/\L<=2:=by
  simp at e;rcases e with h|h|h|h
  ·exact⟨1,O,O⟩
  ·exact⟨2,O,O⟩
  ·exact⟨0,O,O⟩
  exact⟨1,O,O⟩
 obtain⟨n,rfl⟩: ∃j,n=j+1:=⟨n-1,O⟩
 have D:lj L<=210:=MG a;rw[y];refine cc (X2 c L n _ _ O a w O O) λz ⟨A,i⟩=>?_;have l:iw 10 ⟨o.1,z.1⟩:=⟨p,A.mono (cO _) O⟩
 refine ag (IK O (l.mono O).sm d) (ab.cond (λ_=>ab.some ⟨l,i.mono O⟩) λ_=>ag (x:=⟨[0,0,0,0],0⟩) rfl (ab.some ⟨⟨oU (by unfold dp;simp),⟨aW,uc,tZ,λk h=>by simp at h⟩⟩,i.mono O⟩))
theorem Xx:De N [65,91,105,93,61,40,65,91,105,93,43,123,105,125,41]=some (⟨⟨[65],[⟨[1,0,0,0],0⟩]⟩,⟨4,0,⟨[],0⟩,⟨[],[]⟩,[⟨3,0,⟨[],0⟩,⟨[65],[⟨[1,0,0,0],0⟩]⟩,[]⟩,⟨2,0,⟨[1,0,0,0],0⟩,⟨[],[]⟩,[]⟩]⟩⟩,true):=J
theorem aaE:EL N [4]=some ([⟨[⟨[0,0,0,0],0⟩],[⟨[0,0,0,0],4⟩]⟩],true):=J
def oB:List cg:=[⟨[65],[6]⟩,⟨[66],[4,5]⟩,⟨[67],[3]⟩]
theorem zM:oB.length<=4/\kz oB:=by refine⟨by decide,λx a=>?_⟩;simp[oB] at a;rcases a with rfl|rfl|rfl<;>decide
theorem Nk:rp 10 oB:=by refine⟨by decide,λx a=>?_⟩;simp[oB] at a;rcases a with rfl|rfl|rfl<;>decide
theorem aax:fx 10 ⟨[⟨[⟨[0,0,0,0],0⟩],[⟨[0,0,0,0],4⟩]⟩],[⟨⟨[65],[⟨[1,0,0,0],0⟩]⟩,⟨4,0,⟨[],0⟩,⟨[],[]⟩,[⟨3,0,⟨[],0⟩,⟨[65],[⟨[1,0,0,0],0⟩]⟩,[]⟩,⟨2,0,⟨[1,0,0,0],0⟩,⟨[],[]⟩,[]⟩]⟩⟩]⟩:=by
 have i: ∀(a b c d e:Int),dp 10 ⟨[a,b,c,d],e⟩:=λa b c d e=>by unfold dp;simp
 refine⟨⟨aW,λl m=>?_⟩,aW,λs n=>?_⟩
 ·simp at m;subst m;exact⟨oU (i _ _ _ _ _),oU (i _ _ _ _ _)⟩
 simp at n;subst n;refine⟨oU (i _ _ _ _ _),aW,uc,tZ,λk o=>?_⟩;simp at o;rcases o with rfl|rfl
 ·exact⟨aW,uc,oU (i _ _ _ _ _),λk h=>by simp at h⟩
 exact⟨aW,i _ _ _ _ _,tZ,λk h=>by simp at h⟩
theorem Zt(E:cN k r)(hk:0<=k/\k<=10000000):ab (Ab N r) (λx=>fx 10 x.1/\cN (k+40000) x.2):=by
 have fu:N=100000:=rfl;unfold Ab;refine ab.loop (λz:List UInt8×Int×Int=>0<=z.2.2/\z.2.2<=4/\cN (k+10000*z.2.2) ⟨z.1,z.2.1⟩) (λz=>(4-z.2.2).toNat) ?_ N _ ⟨Z,Z,by simpa using E⟩ Z;rintro K ⟨b,q,c⟩ ⟨M,P,L⟩ Q;dsimp only at M P L⊢;refine aQ (λS=>?_) λT=>ag Xx (ag aaE (ab.some ⟨aax,L.mono O⟩));refine cc (Z5 O L O) λi ⟨⟨n3,V⟩,Ix⟩=>cc (gI N Ix O aW) λe ⟨m6,ag8⟩=>?_;have hm:1<=e.1/\e.1<=3:=by simp at m6;omega
 refine ab.loop (λz:List UInt8×Int×List Loop×List Stmt×Int=>z.2.2.1=i.1/\0<=z.2.2.2.2/\z.2.2.2.2<=e.1/\(z.2.2.2.1.length:Int)+z.2.2.2.2<=e.1/\cN (k+10000*c+41+1500*(e.1-z.2.2.2.2)) ⟨z.1,z.2.1⟩/\ ∀s∈z.2.2.2.1,iw 10 s) (λz=>z.2.2.2.2.toNat) ?_ N _ ⟨rfl,Z,Z,aW,ag8.mono Z,λs h=>by simp at h⟩ Z;rintro m ⟨cU,k',agv,cS,w⟩ ⟨X,sx,iG,P7,G,H⟩ n;dsimp only at X sx iG P7 G H⊢;subst X;have a: ∀(l:List Stmt),l.length<=10->(∀s∈l,iw 10 s)->fx 10 ⟨i.1,l⟩:=λl h1 h2=>⟨V,h1,h2⟩
 refine aQ (λY=>?_) λf=>?_
 ·refine ab.aA (λz:List UInt8×Int×List Stmt=>cN (k+10000*c+41+1500*(e.1-w)+1500) ⟨z.1,z.2.1⟩/\z.2.2.length<=cS.length+1/\ ∀s∈z.2.2,iw 10 s) (λaei o=>?_) λz eJ=>?_
  ·refine ab.loop (λz:List UInt8×Int×Int=>0<=z.2.2/\z.2.2<=5/\cN (k+10000*c+41+1500*(e.1-w)+300*z.2.2) ⟨z.1,z.2.1⟩) (λz=>(5-z.2.2).toNat) ?_ N _ ⟨Z,Z,by simpa using G⟩ Z;rintro p ⟨cu,q2,v⟩ ⟨g1,g2,R⟩ y;dsimp only at g1 g2 R⊢;refine aQ (λg=>?_) λt=>o _ ⟨R.mono O,Z,H⟩;refine cc (ZP O R O (d:=(i.1.length:Int)) O) λA ⟨B,C⟩=>ag (x:=oB) rfl ?_;have U:Ba ⟨i.1,[A.1]⟩:=((a [A.1] aW λs I=>by simp at I;subst I;exact B).mono O).sm;refine ag (D0 O zM.1 zM.2 U) (ab.cond (λ_=>ag (cY bQ) (o _ ⟨C.mono O,aW,λs I=>?_⟩)) λ_=>?_)
   ·rcases dZ.1 I with h|h
    ·exact H s h
    simp at h;subst h;exact B
   rw[be O];exact y _ ⟨Z,Z,C.mono Z⟩ Z
  obtain⟨yX,z2,z3⟩:=z;obtain⟨D,W,F⟩:=eJ;dsimp only at D W F⊢;rw[be O];exact n _ ⟨rfl,Z,Z,Z,D.mono Z,F⟩ Z
 have u:fx 10 ⟨i.1,cS⟩:=a cS O H;refine ag (x:=oB) rfl (ag (D0 O zM.1 zM.2 (u.mono O).sm) ?_);refine ab.aA (λz=>True) (λj o=>ab.cond (λ_=>o _ trivial) λ_=>o _ trivial) λz _=>?_;cases z with
 |true=>exact ab.some ⟨u,G.mono O⟩
 |false=>
  refine b5 ?_;rw[be O];exact Q _ ⟨Z,Z,G.mono Z⟩ Z
theorem Xi(o:cN k r)(G:0<=k/\k<=1000000):ab (Aa N r) (λx=>c9 10 x.1/\cN (k+200000) x.2):=by
 have H:N=100000:=rfl;unfold Aa;refine ag (x:=oB) rfl (cc (gI N o O aW) λe ⟨p,s⟩=>?_);have I:1<=e.1/\e.1<=3:=by simp at p;omega
 refine ab.loop (λz:List UInt8×Int×List Part×Int=>0<=z.2.2.2/\(z.2.2.1.length:Int)+z.2.2.2=e.1/\cN (k+1+40000*z.2.2.1.length) ⟨z.1,z.2.1⟩/\ ∀x∈z.2.2.1,fx 10 x) (λz=>z.2.2.2.toNat) ?_ N _ ⟨Z,aW,by simpa using s,λx h=>by simp at h⟩ Z;rintro i ⟨b,q,w,c⟩ ⟨y,A,a,d⟩ l;dsimp only at y A a d⊢;refine aQ (λB=>?_) λC=>?_
 ·refine cc (Zt a O) λK ⟨D,F⟩=>ag (cY bQ) ?_;rw[be O];refine l _ ⟨Z,by dsimp only;simp;omega,F.mono bQ,λx m=>?_⟩ Z;rcases dZ.1 m with h|h
  ·exact d x h
  simp at h;subst h;exact D
 have n:c9 10 ⟨oB,w⟩:=⟨Nk,Z,d⟩
 refine ag (jR O (n.mono O).sm) (ab.cond (λ_=>ab.some ⟨n,a.mono O⟩) λ_=>ag (x:=oB) rfl (ag (hG O O O) (ab.some ⟨⟨Nk,?_,λx m=>d x ?_⟩,a.mono O⟩)))
 ·simp;omega
 exact ga (e7 m)
theorem EF{k h:Type}{l:List k}{f:k->Option h}{g:k->h->k}{K:List k->Option R}(m: ∀x∈l,∃z,f x=some z/\g x z=x)(B:l.length<=1000)(C:5000<=n)(o:ab (K l) Q):
  ab (bo (λa ((x,i):List k×Int)=>bif decide (i<(l.length:Int)) then(Option.bind (au l i) λy=>Option.bind (f y) λz=>Option.bind (app x [g y z]) λw=>a (w,wr (i+1))) else K x) n ([],0)) Q:=by
 refine ab.loop (λz:List k×Int=> ∃i:Nat,z.2=i/\i<=l.length/\z.1=l.take i) (λz=>l.length-z.2.toNat) ?_ n _ ⟨0,rfl,O,aW⟩ Z;rintro a ⟨x,z⟩ ⟨i,e,D,c⟩ p;dsimp only at e c⊢;subst e;refine aQ (λq=>?_) λr=>?_
 ·have bN:=bs (O:i<l.length);have s:x.length<=1000:=by rw[c,cL];omega
  obtain⟨y,A,d⟩:=m _ (bE bN);refine ag (bk bN) (ag A (ag (cY bQ) ?_));rw[be O];refine p _ ⟨i+1,Z,O,?_⟩ Z;dsimp only;rw[ek,bN,c,d];rfl
 have:i=l.length:=O
 rw[c,this,c6];exact o
theorem qR{k:Type}{l:List k}{f:k->Option k}{K:List k->Option R}(c: ∀x∈l,f x=some x)(d:l.length<=1000)(e:5000<=n)(h:ab (K l) Q):
  ab (bo (λa ((x,i):List k×Int)=>bif decide (i<(l.length:Int)) then(Option.bind (au l i) λy=>Option.bind (f y) λz=>Option.bind (app x [z]) λw=>a (w,wr (i+1))) else K x) n ([],0)) Q:=
 EF (g:=λ_ z=>z) (λx m=>⟨x,c x m,rfl⟩) d e h
theorem J7: ∀(L n:Nat) (e:Expr),5000+L<=n->hT 1000 L e->qV (n+1) e=some e
 |0,_,_,_,h=>h.elim
 |L+1,n,e,m,h=>by
  obtain⟨a,c,d,i⟩:=h;unfold qV;refine ab.eq (ag (y3 n c) (ag (yz O d.sm) ?_));obtain⟨n,rfl⟩: ∃j,n=j+1:=⟨n-1,O⟩
  exact qR (f:=qV (n+1)) (K:=λk=>some (⟨e.kind,e.num,e.index,e.read,k⟩:Expr)) (λx l=>J7 L n x O (i x l)) a O (ab.some (by cases e;rfl))
theorem Kr(a:6000<=n)(h:iw 1000 s):sW n s=some s:=by
 obtain⟨n,rfl⟩: ∃j,n=j+1:=⟨n-1,O⟩
 unfold sW;rw[yz O h.1.sm,J7 5 n s.value O h.2];rfl
theorem Ks(R:6000<=n){nest:List Loop}(h:kf 1000 nest):vI n nest=some nest:=by
 obtain⟨U,C⟩:=h;refine ab.eq ?_;unfold vI;refine ab.loop (λz:List Loop×Int=> ∃i:Nat,z.2=i/\i<=nest.length/\z.1=nest.take i) (λz=>nest.length-z.2.toNat) ?_ n _ ⟨0,rfl,O,aW⟩ Z;rintro c ⟨x,z⟩ ⟨i,e,W,k⟩ D;dsimp only at e k⊢;subst e;refine aQ (λF=>?_) λG=>ab.some ?_
 ·have bN:=bs (O:i<nest.length);obtain⟨⟨X,H⟩,⟨eO,cE⟩⟩:=C _ (bE bN);have I:x.length<=1000:=by rw[k,cL];omega
  refine ab.loop (λz:List ay×Int=> ∃t:Nat,z.2=t/\t<=nest[i].bf.length/\z.1=nest[i].bf.take t) (λz=>nest[i].bf.length-z.2.toNat) ?_ n _ ⟨0,rfl,O,aW⟩ Z;rintro m ⟨y,z⟩ ⟨t,e,Y,o⟩ p;dsimp only at e o⊢;subst e;refine ag (bk bN) (aQ (λA=>?_) λB=>?_)
  ·have d:=bs (O:t<nest[i].bf.length);have L:y.length<=1000:=by rw[o,cL];omega
   refine ag (bk d) (ag (nc _ (H _ (bE d))) (ag (cY bQ) ?_));rw[be O];refine p _ ⟨t+1,Z,O,?_⟩ Z;dsimp only;rw[ek,d,o];rfl
  have q:t=nest[i].bf.length:=O
  refine EF (l:=nest[i].aI) (f:=λa:ay=>app [] a.aT) (g:=λa r=>(⟨r,a.const⟩:ay)) (K:=λs=>Option.bind (app x [(⟨y,s⟩:Loop)]) λw=>c (w,wr ((i:Int)+1))) (λa Q=>⟨_,nc _ (cE a Q),rfl⟩) eO O ?_;refine ag (cY bQ) ?_;rw[be O];refine D _ ⟨i+1,Z,O,?_⟩ Z;dsimp only;rw[ek,bN,k,o,q,c6];rfl
 have:i=nest.length:=O
 rw[k,this,c6]
theorem nb(F:6000<=n)(h:c9 1000 p):qO n p=some p:=by
 obtain⟨⟨aK,a2⟩,v,I⟩:=h;refine ab.eq ?_;unfold qO;refine EF (n:=n) (l:=p.aR) (f:=λw:cg=>app [] w.bT) (g:=λw L=>(⟨w.name,L⟩:cg)) (K:=λQ=>bo (λc ((G,y):(List Part)×Int)=>
    bif decide (y<(p.parts.length:Int)) then(
     Option.bind (au p.parts y) λk=>
     Option.bind (vI n k.nest) λA=>
     bo (λd ((e,m):(List Stmt)×Int)=>
      bif decide (m<(k.body.length:Int)) then(
       Option.bind (au k.body m) λB=>
       Option.bind (sW n B) λC=>
       Option.bind (app e [C]) λD=>
       d (D,wr (m+1))
      ) else(
       Option.bind (app G [(⟨A,e⟩:Part)]) λo=>
       c (o,wr (y+1))
      )
     ) n ([],0)
    ) else(
     some (⟨Q,G⟩:Prog)
    )
   ) n ([],0)) (λa R=>⟨_,nc _ (a2 a R),rfl⟩) aK O ?_
 refine ab.loop (λz:List Part×Int=> ∃i:Nat,z.2=i/\i<=p.parts.length/\z.1=p.parts.take i) (λz=>p.parts.length-z.2.toNat) ?_ n _ ⟨0,rfl,O,aW⟩ Z;rintro q ⟨x,z⟩ ⟨i,H,E,r⟩ U;dsimp only at H r⊢;subst H;refine aQ (λW=>?_) λX=>ab.some ?_
 ·have bN:=bs (O:i<p.parts.length);obtain⟨Y,b,j⟩:=I _ (bE bN);have t:x.length<=1000:=by rw[r,cL];omega
  refine ag (bk bN) (ag (Ks F Y) ?_);refine qR (f:=sW n) (K:=λe=>Option.bind (app x [(⟨p.parts[i].nest,e⟩:Part)]) λo=>q (o,wr ((i:Int)+1))) (λs u=>Kr F (j s u)) b O ?_;refine ag (cY bQ) ?_;rw[be O];refine U _ ⟨i+1,Z,O,?_⟩ Z;dsimp only;rw[ek,bN,r];rfl
 have:i=p.parts.length:=O
 rw[r,this,c6]
theorem ps{k:Type}{l:List k}{i:Nat}{x:k}{P:k->Prop}(h: ∀y∈l,P y)(c:P x): ∀y∈l.set i x,P y:=λy d=>by
 rcases q7 d with a|a
 ·exact h y a
 rw[a];exact c
theorem AQ{k:Type}{l:List k}{x:k}{P:k->Prop}(h: ∀y∈l,P y)(c:P x): ∀y∈l++[x],P y:=λy d=>by
 rcases dZ.1 d with a|a
 ·exact h y a
 simp at a;rw[a];exact c
theorem dJ{k:Type}{l:List k}{i:Int}(h:0<=i/\i<l.length)(x:k):b' l i x=some (l.set i.toNat x):=by unfold b';rw[a1 h]
theorem Zu{l:List ay}(h:eP B l)(c:dp (B+5) a):eP (B+5) (l++[a]):=⟨by have:=h.1;simp;omega,AQ (λy d=>(h.2 y d).mono O) c⟩
theorem MU{l:List ay}(h:eP B l)(d:dp (B+5) a)(e:dp (B+5) b):eP (B+5) (l++[a,b]):=⟨by have:=h.1;simp;omega,λy i=>by
 rcases dZ.1 i with c|c
 ·exact(h.2 y c).mono O
 simp at c;rcases c with rfl|rfl;exact d;exact e⟩
theorem Au(h:4<=B)(c:Int):dp B ⟨[0,0,0,0],c⟩:=by unfold dp;simpa using h
theorem FZ(W:6000<=n)(P:10<=B/\B<=900)(L:cN k r)(S:0<=k/\k<=90000000){c:List Loop}(h:kf B c):ab (u7 n r c) (λx=>kf (B+5) x.1/\cN (k+5) x.2):=by
 unfold u7;refine ag (Ks W (h.mono O)) (aQ (λ_=>ab.some ⟨h.mono O,L.mono O⟩) λX=>?_);have s:0<c.length:=O
 have o:=h.mono (O:B<=B+5);have Y:=h.1;have b:wr ((c.length:Int)-1)=(c.length:Int)-1:=be O;rw[b];refine ab.aA (λz:List UInt8×Int×List Loop=>cN (k+5) ⟨z.1,z.2.1⟩/\kf (B+5) z.2.2) (λj p=>?_) λz Q=>ab.some ⟨Q.2,Q.1⟩;have d: ∀(i:Nat) (l:Loop),eP (B+5) l.bf->eP (B+5) l.aI->kf (B+5) (c.set i l):=λi l f g=>⟨by rw[eV];exact o.1,ps o.2 ⟨f,g⟩⟩
 obtain⟨T,w,e⟩:=gq (l:=c) (i:=0) O O;obtain⟨V,A,m⟩:=gq (l:=c) (i:=(c.length:Int)-1) O O;have R:=h.2 _ (bE e);have U:=h.2 _ (bE m);have C:=o.2 _ (bE e);have D:=o.2 _ (bE m);refine cc (jd n L O) λil ⟨_,_,q⟩=>aQ (λ_=>?_) λ_=>aQ (λ_=>?_) λ_=>aQ (λ_=>?_) λ_=>aQ (λ_=>?_) λ_=>aQ (λ_=>?_) λ_=>p _ ⟨q.mono O,o⟩
 ·refine ag w (cc (jd n q O) λkM ⟨t,u,v⟩=>cc (wF n ⟨t,by have:=u O;omega⟩) λoJ E=>ag (cY (by have:=R.1.1;simp;omega)) (ag (dJ O _) (p _ ⟨v.mono O,d _ _ (Zu R.1 (E.O2.mono O)) C.2⟩)))
 ·exact ag A (ag (dJ O _) (p _ ⟨q.mono O,d _ _ D.1 ⟨aW,λa F=>by simp at F⟩⟩))
 ·exact ag A (ag (gZ _ _) (ag (gZ _ _) (ag (cY (by have:=U.2.1;simp;omega)) (ag (dJ O _) (p _ ⟨q.mono O,d _ _ D.1 (MU U.2 (Au O _) (Au O _))⟩)))))
 ·exact ag (gZ _ _) (ag w (ag (dJ O _) (p _ ⟨q.mono O,d _ _ C.1 ⟨aW,λa F=>by simp at F;subst F;exact Au O _⟩⟩)))
 refine ab.loop (λz:List Loop=>0<z.length/\kf (B+5) z) (λz=>5-z.length) ?_ n _ ⟨s,o⟩ O;rintro G z ⟨yX,H⟩ I;refine aQ (λM=>?_) λ_=>p _ ⟨q.mono O,H⟩;obtain⟨y,N,K⟩:=gq (l:=z) (i:=0) O O;exact ag N (ag (cY bQ) (I _ ⟨aW,bQ,AQ H.2 (H.2 _ (bE K))⟩ bQ))
theorem FY(y:6000<=n)(I:10<=B/\B<=900)(A:cN k r)(K:0<=k/\k<=90000000)(h:iw B s):ab (u6 n r s) (λx=>iw (B+5) x.1/\cN (k+5) x.2):=by
 have q:=h.mono (O:B<=B+5);obtain⟨l,m,C,D,c⟩:=q;have F:=h.1.1;have G:=h.2.1;unfold u6;refine ag (Kr y (h.mono O)) ?_;refine ab.aA (λz:List UInt8×Int×List ay×List Expr×List UInt8×Int×Int=>cN (k+5) ⟨z.1,z.2.1⟩/\eP (B+5) z.2.2.1/\z.2.2.2.1.length<=B+5/\ ∀e∈z.2.2.2.1,hT (B+5) 4 e) (λj d=>?_) λz p=>ab.some ⟨⟨p.2.1,p.2.2.1,C,D,p.2.2.2⟩,p.1⟩;refine cc (jd n A O) λL ⟨_,_,i⟩=>aQ (λ_=>?_) λ_=>aQ (λ_=>?_) λ_=>aQ (λ_=>?_) λ_=>aQ (λ_=>?_) λ_=>aQ (λ_=>?_) λ_=>d _ ⟨i.mono O,l,m,c⟩
 ·exact cc (Bt n i O aW) λw ⟨_,o⟩=>d _ ⟨o.mono O,l,m,c⟩
 ·exact cc (wF n (v:=3) O) λQ q=>ag (x:=⟨[0,0,0,0],0⟩) rfl (ag (cY bQ) (d _ ⟨i.mono O,MU h.1 (q.O2.mono O) (Au O _),m,c⟩))
 ·exact cc (gI n i O aW) λw ⟨_,o⟩=>d _ ⟨o.mono O,l,m,c⟩
 ·exact cc (gI n i O aW) λw ⟨_,o⟩=>d _ ⟨o.mono O,l,m,c⟩
 exact ag (cY bQ) (d _ ⟨i.mono O,l,bQ,AQ c ⟨aW,by unfold dp;simp,⟨aW,λa H=>by simp at H⟩,λk h=>by simp at h⟩⟩)
theorem Z7(F:6000<=n)(S:cN k r)(hk:0<=k/\k<=80000000)(h:c9 10 p):ab (DD n r p) (λx=>c9 30 x.1/\cN (k+30) x.2):=by
 have W:=h.mono (O:10<=30);obtain⟨m,C,o⟩:=W;have fO:=h.1.1;have hp:=h.2.1;unfold DD;refine ag (nb F (h.mono O)) ?_;have T:wr ((p.parts.length:Int)-1)=(p.parts.length:Int)-1:=be O;rw[T];refine ab.aA (λz:List UInt8×Int×List cg×List Part=>cN (k+30) ⟨z.1,z.2.1⟩/\rp 30 z.2.2.1/\z.2.2.2.length<=30/\ ∀x∈z.2.2.2,fx 30 x) (λj R=>?_) λz U=>ab.some ⟨⟨U.2.1,U.2.2.1,U.2.2.2⟩,U.1⟩;have q: ∀(i:Nat) (x:Part),fx 30 x->(p.parts.set i x).length<=30/\ ∀y∈p.parts.set i x,fx 30 y:=λi x g=>⟨by rw[eV];exact C,ps o g⟩
 have a: ∀{X:cA},cN (k+20) X->ab (j (X.b,X.p,p.aR,p.parts)) (λx=>c9 30 x.1/\cN (k+30) x.2):=λY=>R _ ⟨Y.mono O,m,C,o⟩;refine cc (jd n S O) λil ⟨_,_,A⟩=>aQ (λ_=>?_) λ_=>aQ (λ_=>?_) λ_=>aQ (λ_=>?_) λ_=>aQ (λ_=>?_) λ_=>aQ (λ_=>?_) λ_=>a (A.mono O)
 ·refine cc (Bt n A O aW) λjI ⟨_,V⟩=>cc (gI n V O aW) λkM ⟨_,Ix⟩=>ag (cY bQ) (R _ ⟨Ix.mono O,⟨bQ,AQ m.2 aW⟩,C,o⟩)
 ·refine aQ (λc=>?_) λ_=>a (A.mono O);obtain⟨y,w,d⟩:=gq (l:=p.aR) (i:=0) O c;exact cc (gI n A O aW) λhR ⟨_,ag9⟩=>ag w (ag (dJ O _) (R _ ⟨ag9.mono O,⟨by rw[eV];exact m.1,ps m.2 aW⟩,C,o⟩))
 ·refine aQ (λc=>?_) λ_=>a (A.mono O);obtain⟨y,w,d⟩:=gq (l:=p.parts) (i:=0) O c;have f:=h.2.2 _ (bE d);have e:=o _ (bE d);refine ag w (cc (FZ F (B:=10) O A O f.1) λt ⟨G,H⟩=>cc (FZ F (B:=15) O H O G) λu ⟨I,K⟩=>cc (FZ F (B:=20) O K O I) λv ⟨L,Q⟩=>ag (dJ O _) ?_);exact R _ ⟨Q.mono O,m,q _ _ ⟨L.mono O,e.2.1,e.2.2⟩⟩
 ·refine ab.aA (λz:Bool=>z=true->0<(p.parts.length:Int)/\ ∀x,au p.parts ((p.parts.length:Int)-1)=some x->0<(x.body.length:Int)) (λH7 D=>aQ (λc=>?_) λ_=>D _ λh=>by cases h) λz U=>?_
  ·obtain⟨y,w,d⟩:=gq (l:=p.parts) (i:=(p.parts.length:Int)-1) O O;refine ag w (D _ λcv=>⟨c,λx P=>?_⟩);rw[w] at P;cases P;exact e6 cv
  cases z with
  |false=>exact a (A.mono O)
  |true=>
   obtain⟨c,a'⟩:=U rfl;obtain⟨y,w,d⟩:=gq (l:=p.parts) (i:=(p.parts.length:Int)-1) O O;have E:=a' y w;have f:=h.2.2 _ (bE d);have e:=o _ (bE d);obtain⟨s,M,N⟩:=gq (l:=y.body) (i:=0) O E;have ms:=f.2.2 _ (bE N);refine bR (ag w (ag M (cc (FY F (B:=10) O A O ms) λt ⟨G,H⟩=>cc (FY F (B:=15) O H O G) λu ⟨I,K⟩=>cc (FY F (B:=20) O K O I) λv ⟨L,Q⟩=>ag (dJ O _) (ag (dJ O _) ?_))));exact R _ ⟨Q.mono O,m,q _ _ ⟨e.1,by rw[eV];exact e.2.1,ps e.2.2 (L.mono O)⟩⟩
 refine aQ (λc=>?_) λ_=>a (A.mono O);obtain⟨y,w,d⟩:=gq (l:=p.parts) (i:=(p.parts.length:Int)-1) O O;have e:=o _ (bE d);exact ag w (ag (dJ O _) (R _ ⟨A.mono O,m,q _ _ ⟨e.1,aW,λs M=>by simp at M⟩⟩))
theorem ZN{r:List cg}(c:kz r):0<=fX r/\fX r<=36*r.length:=by have d:=nu (λx:cg=>gW x.bT) r λy a=>(rF (c y a)).1;have e:=AZ (λx:cg=>gW x.bT) 36 r λy a=>(rF (c y a)).2;unfold fX;omega
end Go.Lift
