/- Tools. -/
import Derived.Test.YtcihigfifglboabGreatJLiftLaw
set_option maxRecDepth 100000
set_option linter.unusedVariables false
namespace Go.Lift
open Go
section
abbrev N:Nat:=100000
def cO(k:Int)(r:cB):Prop:=0<=r.p/\r.p<=k/\r.b.length<=2000
variable {k:Int}{r:cB}
theorem cO.mono{a:Int}(h:cO k r)(c:k<=a):cO a r:=⟨h.1,by have:=h.2.1;omega,h.2.2⟩
theorem ZA(a:List UInt8):ab (zm N a) (cO 0):=by unfold zm;refine ab.aA (λx=>x.length<=2000) (λj c=>aP (λh=>ag (hR O O O) (c _ bQ)) λh=>c _ O) λz d=>ab.some ⟨gH 0,gH 0,d⟩
theorem OT(x:UInt8):(x.toNat:Int)<=255:=by have:=UInt8.toNat_lt x;omega
theorem w1{n:Int}(h:n≠0):kf n=some ():=by unfold kf;rw[aY h]
theorem NL{m:Int}(B:cO k r)(T:k<=1000000000):ab (gM N r m) (λx=>0<=x.1/\(1<=m->x.1<m)/\cO (k+1) x.2):=by
 obtain⟨b,p⟩:=r;obtain⟨c,C,w⟩:=B;dsimp only at c C w;unfold gM;dsimp only;have D:wr (p+1)=p+1:=be O;have F:wr (p+1-1)=p:=by rw[be O];omega
 rw[D,F];have a:cO (k+1) ⟨b,p+1⟩:=⟨by show 0<=p+1;omega,by show p+1<=k+1;omega,w⟩
 refine ab.aA (λz=>z=false->1<=m/\b.length≠0) (λj A=>aP (λh=>A _ λh=>by cases h) λh=>A _ λG=>⟨O,by simpa using G⟩) λz H=>?_;refine ab.cond (λ_=>ab.some ⟨aV,λh=>bQ,a⟩) λd=>?_;obtain⟨V,a'⟩:=H d;refine aP (λe=>?_) λI=>?_
 ·obtain⟨x,n,_⟩:=gy c e;refine ag n (ag (w1 O) (ab.some ⟨?_,λ_=>?_,a⟩))
  ·exact Int.tmod_nonneg _ O
  exact Int.tmod_lt_of_pos _ O
 have sg:1<=(b.length:Int)/\(b.length:Int)<=2000:=O
 have K:wr (p*7)=p*7:=be O;have L:wr (p*7+3)=p*7+3:=be O;rw[K,L];obtain⟨x,n,_⟩:=gy (l:=b) (i:=Int.tmod p b.length) (Int.tmod_nonneg _ c) (Int.tmod_lt_of_pos _ O);obtain⟨y,Q,_⟩:=gy (l:=b) (i:=Int.tmod (p*7+3) b.length) (Int.tmod_nonneg _ O) (Int.tmod_lt_of_pos _ O);refine ag (w1 O) (ag n (ag (w1 O) (ag Q (ag (w1 O) (ag (w1 O) (ab.some ⟨?_,λ_=>Int.tmod_lt_of_pos _ O,a⟩))))));refine Int.tmod_nonneg _ ?_;have R:=OT x;have U:=OT y;have o:0<=Int.tdiv p b.length:=Int.tdiv_nonneg c O;have s:Int.tdiv p b.length<=p:=Int.tdiv_le_self _ c;generalize Int.tdiv p b.length=q at o s;have W:wr ((x.toNat:Int)*131)=(x.toNat:Int)*131:=be O;have X:wr ((y.toNat:Int)*1117)=(y.toNat:Int)*1117:=be O;have Y:wr (p*29)=p*29:=be O;have f:wr q=q:=be O;have g:wr (q*53)=q*53:=be O;rw[W,X,Y,f,g];have t:wr ((x.toNat:Int)*131+(y.toNat:Int)*1117)=(x.toNat:Int)*131+(y.toNat:Int)*1117:=be O;rw[t];have u:wr ((x.toNat:Int)*131+(y.toNat:Int)*1117+p*29)=(x.toNat:Int)*131+(y.toNat:Int)*1117+p*29:=be O;rw[u];have v:wr ((x.toNat:Int)*131+(y.toNat:Int)*1117+p*29+q*53)=(x.toNat:Int)*131+(y.toNat:Int)*1117+p*29+q*53:=be O;rw[v];obtain⟨M,E⟩: ∃M:Nat,(x.toNat:Int)*131+(y.toNat:Int)*1117+p*29+q*53=M:=⟨((x.toNat:Int)*131+(y.toNat:Int)*1117+p*29+q*53).toNat,O⟩
 rw[E];have P:(M:Int)<=100000000000000:=O
 have S:Int.tdiv (M:Int) 64=((M / 64:Nat):Int):=by rw[Int.tdiv_eq_ediv_of_nonneg O];omega
 rw[S,be O,Uw _ _ O O];omega
theorem aaJ{l:List Int}(c:cO k r)(d:k<=1000000000)(e:l≠[]):ab (fD N r l) (λx=>x.1∈l/\cO (k+1) x.2):=by
 unfold fD;have o:1<=l.length:=by cases l;exact bB rfl e;simp
 refine cb (NL c d) λx ⟨h,i,m⟩=>?_;obtain⟨y,n,a⟩:=gy h (i O);exact ag n (ab.some ⟨bE a,m⟩)
end
section
def dot:List Int->List Int->Int
 |c::cs,x::xs=>c*x+dot cs xs
 |_,_=>0
def cL(m:Int)(x:Int):Prop:= -m<=x/\x<=m
variable {a:ay}{b c x d aH v M:Int}{i k n:Nat}{p l:List Int}{R:Type}{A B:Option R}{o:List Loop}{s:List UInt8}{Q:R->Prop}
theorem Bn{a:Int}(m:0<=a)(n:0<=b)(i:cL a c)(l:cL b x):cL (a*b) (c*x):=by
 obtain⟨o,p⟩:=i;obtain⟨q,r⟩:=l;constructor
 ·have h:=mW (O:0<=a+c) (O:0<=b+x);have k:=mW (O:0<=a-c) (O:0<=b-x);have d:(a+c)*(b+x)=a*b+a*x+c*b+c*x:=by rw[Int.add_mul,Int.mul_add,Int.mul_add];omega
  have e:(a-c)*(b-x)=a*b-a*x-c*b+c*x:=by rw[Int.sub_mul,Int.mul_sub,Int.mul_sub];omega
  rw[d] at h;rw[e] at k;omega
 have h:=mW (O:0<=a+c) (O:0<=b-x);have k:=mW (O:0<=a-c) (O:0<=b+x);have d:(a+c)*(b-x)=a*b-a*x+c*b-c*x:=by rw[Int.add_mul,Int.mul_sub,Int.mul_sub];omega
 have e:(a-c)*(b+x)=a*b+a*x-c*b-c*x:=by rw[Int.sub_mul,Int.mul_add,Int.mul_add];omega
 rw[d] at h;rw[e] at k;omega
theorem FP(a:List Int):dot a []=0:=by cases a<;>rfl
theorem Mu: ∀{cs a:List Int} {c x:Int},cs[a.length]? =some c->dot cs (a++[x])=dot cs a+c*x
 | [],a,c,x,h=>by simp at h
 |d::cs,[],c,x,h=>by simp at h;subst h;simp[dot,FP]
 |d::cs,y::a,c,x,h=>by
  have h:cs[a.length]? =some c:=by simpa using h
  simp only[List.cons_append,dot];rw[Mu h];omega
theorem Mt{d e:List Int}(h:d[i]? =some c)(a:e[i]? =some x):dot d (e.take (i+1))=dot d (e.take i)+c*x:=by have aH:=(bR.1 a).1;rw[en,a];exact Mu (by simpa[Nat.min_eq_left (Nat.le_of_lt aH)] using h)
theorem G0{M:Int}(a:0<=M): ∀{cs xs:List Int},(∀c∈cs,cL 9 c)->(∀x∈xs,cL M x)->cL (9*M*xs.length) (dot cs xs)
 | [],xs,_,_=>by
  have:0<=9*M*(xs.length:Int):=mW O O;simp only[dot,cL];omega
 |d::cs,[],_,_=>by simp[dot,cL]
 |d::cs,y::xs,i,k=>by
  have l:=G0 a (cs:=cs) (xs:=xs) (λc h=>i c (by simp[h])) λx h=>k x (by simp[h]);have m:=Bn O a (i d aV) (k y aV);have e:9*M*((y::xs).length:Int)=9*M*(xs.length:Int)+9*M:=by simp[Int.mul_add]
  rw[e];simp only[dot,cL] at*;omega
def dG(a c:Int):List Int:=(List.range (c-a).toNat).map (fun(i:Nat)=>a+(i:Int))
theorem Zv{a:Int}:v∈dG a aH↔a<=v/\v<aH:=by
 simp only[dG,List.mem_map,List.mem_range];constructor
 ·rintro⟨i,aH,rfl⟩;omega
 intro h;exact⟨(v-a).toNat,O,O⟩
theorem lV{a:Int}(h:b<=a):dG a b=[]:=by unfold dG;rw[show(b-a).toNat=0 by omega];rfl
theorem s0{a:Int}(h:b<=a):dG b (a+1)=dG b a++[a]:=by unfold dG;rw[show(a+1-b).toNat=(a-b).toNat+1 by omega,pO,f'];simp;omega
theorem zp{a:Int}(c:a<=v)(d:v<aH):dG a aH=dG a v++v::dG (v+1) aH:=by
 obtain⟨k,e⟩: ∃k:Nat,aH=v+1+k:=⟨(aH-v-1).toNat,O⟩
 subst e;clear d;induction k with
 |zero=>
  rw[show v+1+((0:Nat):Int)=v+1 by omega,s0 c,lV (gH _)]
 |succ k h=>
  rw[show v+1+((k+1:Nat):Int)=v+1+(k:Int)+1 by omega,s0 O,h,s0 O];simp
theorem AJ{k:Type}{f:k->Option Bool}{p:k->Bool}{l:List k}(z: ∀x∈l,f x=some (p x))(H:l.length<n)(A:l.length<=1000000):
  ∃r:Int,bp (λa (c:Int)=>bif decide (c<(l.length:Int)) then(Option.bind (au l c) λe=>Option.bind (f e) λi=>bif i then(some c) else(a (wr (c+1)))) else(some (-1))) n 0=some r/\decide (0<=r)=l.any p:=by
 suffices h:ab (bp (λa (c:Int)=>bif decide (c<(l.length:Int)) then(Option.bind (au l c) λe=>Option.bind (f e) λi=>bif i then(some c) else(a (wr (c+1)))) else(some (-1))) n 0) (λr=>decide (0<=r)=l.any p) by exact h
 refine ab.loop (λx:Int=>0<=x/\x<=l.length/\(l.take x.toNat).any p=false) (λx:Int=>l.length-x.toNat) ?_ n 0 ⟨O,O,aV⟩ bQ;rintro m x ⟨w,I,o⟩ B;refine aP (λq=>?_) λC=>?_
 ·obtain⟨y,D,d⟩:=gy w q;have hm:=bE d;refine ag D (ag (z y hm) (ab.cond (λF=>ab.some ?_) λs=>?_))
  ·rw[show l.any p=true from iz.2 ⟨y,hm,F⟩];simp[w]
  rw[be O];refine B _ ⟨O,O,?_⟩ O;rw[show(x+1).toNat=x.toNat+1 by omega,en,d];simp[o,s]
 refine ab.some ?_;have G:x.toNat=l.length:=O
 rw[G,c6] at o;rw[o];simp
theorem C6{f:Int->Option Bool}{p:Int->Bool}(c: ∀x∈l,f x=some (p x))(d:l.length<n)(a:l.length<=1000000):ob n l f=some (l.any p):=by obtain⟨r,e,h⟩:=AJ c d a;unfold ob xS;rw[e,<-h];rfl
theorem xW{f:ay->Option Bool}{p:ay->Bool}{l:List ay}(c: ∀x∈l,f x=some (p x))(d:l.length<n)(a:l.length<=1000000):o4 n l f=some (l.any p):=by obtain⟨r,e,h⟩:=AJ c d a;unfold o4 B5;rw[e,<-h];rfl
theorem TJ{f:Stmt->Option Bool}{p:Stmt->Bool}{l:List Stmt}(c: ∀x∈l,f x=some (p x))(d:l.length<n)(a:l.length<=1000000):B1 n l f=some (l.any p):=by obtain⟨r,e,h⟩:=AJ c d a;unfold B1 Iz;rw[e,<-h];rfl
theorem R9{f:bZ->Option Bool}{p:bZ->Bool}{l:List bZ}(c: ∀x∈l,f x=some (p x))(d:l.length<n)(a:l.length<=1000000):BG n l f=some (l.any p):=by obtain⟨r,e,h⟩:=AJ c d a;unfold BG Ir;rw[e,<-h];rfl
theorem pK{k:Type}{l:List k}{p:Nat->k->Bool}{Q:Bool->Prop}{m:(Int->Option Bool)->Int->Option Bool}(D:l.length<n)(B:l.length<=1000000)
  (c: ∀a (i:Nat) x,l[i]? =some x->(p i x=true->ab (a ((i:Int)+1)) Q)->(p i x=false->Q false)->ab (m a (i:Int)) Q)
  (e: ∀a,(∀(i:Nat) x,l[i]? =some x->p i x=true)->ab (m a (l.length:Int)) Q) (o:(∃(i:Nat) (x:k),l[i]? =some x/\p i x=false)->Q false):ab (bp m n 0) Q:=by
 refine ab.loop (λx:Int=> ∃i:Nat,x=i/\i<=l.length/\ ∀(j:Nat) y,j<i->l[j]? =some y->p j y=true) (λx:Int=>l.length-x.toNat) ?_ n 0 ⟨0,rfl,O,λj y h=>O⟩ bQ;rintro a x ⟨i,rfl,F,A⟩ C;by_cases q:i<l.length
 ·have r:=br q;refine c a i _ r (λs=>C _ ⟨i+1,O,O,λj y G d=>?_⟩ O) λs=>o ⟨i,_,r,s⟩;by_cases w:j=i
  ·subst w;rw[r] at d;cases d;exact s
  exact A j y O d
 have z:i=l.length:=O
 subst z;exact e a λj y d=>A j y (bR.1 d).1 d
def cP(a:ay):Bool:=decide (a.aT.length=4)&&(decide (-99<=a.const/\a.const<=99)&&a.aT.all λc=>decide (-9<=c/\c<=9))
theorem fu(h:cP a=true):a.aT.length=4/\cL 99 a.const/\ ∀c∈a.aT,cL 9 c:=by simp only[cP,Bool.and_eq_true,decide_eq_true_eq,List.all_eq_true] at h;exact⟨h.1,h.2.1,h.2.2⟩
theorem d6(n:Nat)(x a b:Int):fl n x a b=some (decide (a<=x/\x<=b)):=by unfold fl;by_cases c:a<=x<;>by_cases d:x<=b<;>simp[aA,c,d]
theorem Rk(i:5000<=n)(a:ay)(k:a.aT.length<=1000):uX n a=some (cP a):=by
 have h: ∀x∈a.aT,xV n x=some (!decide (-9<=x/\x<=9)):=λx _=>by unfold xV;rw[d6];rfl
 have bP:=C6 (n:=n) h O O;unfold uX E7;rw[d6];simp only[aA,Option.bind];rw[bP];unfold cP;have e:(a.aT.any λx=> !decide (-9<=x/\x<=9))= !(a.aT.all λc=>decide (-9<=c/\c<=9)):=by
  rw[te];simp
 rw[e];by_cases d:a.aT.length=4
 ·rw[bA (show(a.aT.length:Int)=4 by omega),bA d];generalize decide (-99<=a.const/\a.const<=99)=b;cases b<;>simp
 rw[bx (show¬(a.aT.length:Int)=4 by omega),bx d];rfl
theorem yj(n:Nat)(x m:Int)(d:0<=m/\m<=1000000000):qK n x m=some (decide (-m<=x/\x<=m)):=by
 unfold qK;rw[be O];by_cases a: -m<=x<;>by_cases c:x<=m
 ·simp[aA,a,c]
 ·simp[aA,a,c]
 ·simp[aA,a,c]
 simp[aA,a,c]
theorem Iy(A:5000<=n)(a:ay)(B:a.aT.length<=1000):sx n a=some (cP a):=by
 refine ab.eq ?_;unfold sx;refine pK (l:=a.aT) (p:=λ_ c=>decide (-9<=c/\c<=9)) O O (λd i x k q r=>?_) (λd m=>?_) (λ⟨i,x,k,o⟩=>?_)
 ·rw[bA (show(i:Int)<(a.aT.length:Int) by have:=(bR.1 k).1;omega)];refine ag (bk k) (ag (yj n x 9 O) ?_);have aH:=(bR.1 k).1;cases o:decide (-9<=x/\x<=9) with
  |true=>show ab (d _) _;rw[be O];exact q o
  |false=>exact ab.some (r o)
 ·rw[bx (show¬(a.aT.length:Int)<(a.aT.length:Int) by omega)];have e:a.aT.all (λc=>decide (-9<=c/\c<=9))=true:=fB.2 λc w=>by obtain⟨i,aH⟩:=ls w;exact m i c aH
  refine ab.cond (λh=>(by cases h)) λ_=>?_;unfold cP;rw[e];refine ab.aA (λz:Bool=>z=(decide (a.aT.length=4)&&(decide (-99<=a.const/\a.const<=99)&&true))) (λj s=>?_) λz y=>ab.some y;refine aP (λh=>ag (yj n a.const 99 O) (s _ ?_)) λh=>s _ ?_
  ·rw[bA (O:a.aT.length=4)];simp
  rw[bx (show¬a.aT.length=4 by omega)];rfl
 unfold cP;have e:a.aT.all (λc=>decide (-9<=c/\c<=9))=false:=ju.2 ⟨x,bE k,by rw[o];simp⟩;rw[e];simp
def fW(a:ay)(p:List Int):Int:=a.const+dot a.aT p
def CB(M:Int)(p:List Int):Prop:= ∀x∈p,cL M x
theorem zE(c:cP a=true)(l:p.length<=4)(d:0<=M/\M<=1000000000)(e:CB M p)(i:Nat)(m:i<=p.length):cL 1000000000000 (a.const+dot a.aT (p.take i)):=by
 obtain⟨n,o,h⟩:=fu c;have q:=G0 (M:=M) d.1 (cs:=a.aT) (xs:=p.take i) h λx k=>e x (gh k);have r:(p.take i).length<=4:=bQ
 have s:9*M*((p.take i).length:Int)<=9*M*4:=Int.mul_le_mul_of_nonneg_left O O;simp only[cL] at*;omega
theorem W6(F:5000<=n)(h:cP a=true)(r:p.length<=4)(l:0<=M/\M<=1000000000)(m:CB M p):od n a p=some (fW a p):=by
 obtain⟨G,H,y⟩:=fu h;refine ab.eq ?_;unfold od;refine ab.loop (λx:Int×Int=> ∃i:Nat,x.2=i/\i<=p.length/\x.1=a.const+dot a.aT (p.take i)) (λx=>p.length-x.2.toNat) ?_ n _ ⟨0,rfl,O,by simp[FP]⟩ bQ;rintro o ⟨x,k⟩ ⟨i,s,z,q⟩ A;dsimp only at s q⊢;subst s;refine aP (λe=>?_) λB=>ab.some ?_
 ·have e:i<p.length:=O
  have c:=br e;have d:=br (O:i<a.aT.length);have cv:=Mt d c;have C:=zE h r l m i z;have w:=zE h r l m (i+1) O;rw[cv] at w;have D:=Bn O l.1 (y _ (bE d)) (m _ (bE c));refine ag (bk c) (ag (bk d) ?_);simp only[cL] at C w D;rw[be (n:=a.aT[i]*p[i]) O,be O,be O];refine A _ ⟨i+1,Z,O,?_⟩ Z;dsimp only;rw[cv,q];omega
 have:i=p.length:=O
 rw[q,this,c6];rfl
theorem Xp(K:5000<=n)(e:cP a=true)(s:p.length<=4)(l:0<=M/\M<=1000000000)(m:CB M p):m9 n a p=some (fW a p):=by
 obtain⟨L,Q,B⟩:=fu e;refine ab.eq ?_;unfold m9;refine ab.loop (λx:Int×Int=> ∃i:Nat,x.2=i/\i<=p.length/\x.1=a.const+dot a.aT (p.take i)) (λx=>p.length-x.2.toNat) ?_ n _ ⟨0,rfl,O,by simp[FP]⟩ bQ;rintro o ⟨x,k⟩ ⟨i,w,C,q⟩ D;dsimp only at w q⊢;subst w;refine ab.aA (λz=>z=decide (i<p.length)) (λj y=>aP (λh=>y _ ?_) λh=>y _ ?_) λz F=>?_
 ·rw[bA (O:i<p.length),bA (show(i:Int)<(a.aT.length:Int) by omega)]
 ·rw[bx (show¬i<p.length by omega)]
 subst F;refine aP (λr=>?_) λG=>ab.some ?_
 ·have c:=br r;have d:=br (O:i<a.aT.length);have cv:=Mt d c;have H:=zE e s l m i C;have A:=zE e s l m (i+1) O;rw[cv] at A;have I:=Bn O l.1 (B _ (bE d)) (m _ (bE c));refine ag (bk d) (ag (bk c) ?_);simp only[cL] at H A I;rw[be (n:=a.aT[i]*p[i]) O,be O,be O];refine D _ ⟨i+1,Z,O,?_⟩ Z;dsimp only;rw[cv,q];omega
 have:i=p.length:=O
 rw[q,this,c6];rfl
theorem bS(h:ab A Q):ab (bif true then A else B) Q:=h
theorem b3(h:ab B Q):ab (bif false then A else B) Q:=h
def eL:List Int->Nat
 | []=>0
 |c::cs=>if eL cs=0 then(if c=0 then 0 else 1) else eL cs+1
theorem Kd: ∀(l:List Int) (c:Int),eL (l++[c])=if c=0 then eL l else l.length+1
 | [],c=>by simp[eL]
 |d::l,c=>by
  have e:=Kd l c;simp only[List.cons_append,eL,e];by_cases a:c=0
  ·simp[a]
  simp[a]
theorem Kc(h:l[i]? =some c):eL (l.take (i+1))=if c=0 then eL (l.take i) else i+1:=by have aH:=(bR.1 h).1;rw[en,h];show eL (l.take i++[c])=_;rw[Kd,cG,vF (Nat.le_of_lt aH)]
theorem yo: ∀{l:List Int} {i:Nat} {c:Int},l[i]? =some c->eL l<=i->c=0
 | [],i,c,h,_=>by simp at h
 |d::l,0,c,h,a=>by
  simp at h;subst h;simp only[eL] at a;by_cases e:eL l=0
  ·by_cases k:d=0
   ·exact k
   simp[e,k] at a
  simp[e] at a
 |d::l,i+1,c,h,a=>by
  have h:l[i]? =some c:=by simpa using h
  refine yo h ?_;simp only[eL] at a;by_cases e:eL l=0
  ·omega
  rw[aY e] at a;omega
def jA(a:ay):Prop:=a.aT.length<=1000
def ku(l:List ay):Prop:=l.length<=1000/\ ∀a∈l,jA a
theorem t8(s:5000<=n)(l:jA a):oq n a=some (eL a.aT:Int):=by
 have l:a.aT.length<=1000:=l;refine ab.eq ?_;unfold oq;refine ab.loop (λx:Int×Int=> ∃i:Nat,x.2=i/\i<=a.aT.length/\x.1=(eL (a.aT.take i):Int)) (λx=>a.aT.length-x.2.toNat) ?_ n _ ⟨0,rfl,O,by simp[eL]⟩ bQ;rintro d ⟨x,k⟩ ⟨i,m,w,e⟩ p;dsimp only at m e⊢;subst m;refine aP (λc=>?_) λq=>ab.some ?_
 ·have c:i<a.aT.length:=O
  have bP:=br c;have cv:=Kc bP;refine ab.aA (λz:Int=>z=(eL (a.aT.take (i+1)):Int)) (λj o=>ag (bk bP) (eK (λh=>o _ ?_) λh=>o _ ?_)) λz r=>?_
  ·rw[cv,aY h,be O];omega
  ·rw[cv,a1 h,e]
  rw[be O];exact p _ ⟨i+1,Z,O,r⟩ Z
 have:i=a.aT.length:=O
 rw[e,this,c6]
theorem y3(r:5000<=n)(p:jA a):ql n a=some (eL a.aT:Int):=by
 have p:a.aT.length<=1000:=p;refine ab.eq ?_;unfold ql;refine ab.loop (λx:Int=> ∃i:Nat,x=i/\i<=a.aT.length/\eL a.aT=eL (a.aT.take i)) (λx=>x.toNat) ?_ n _ ⟨a.aT.length,rfl,O,by rw[c6]⟩ bQ;rintro c x ⟨i,rfl,s,d⟩ q;cases i with
 |zero=>
  refine ab.aA (λz=>z=false) (λj k=>aP (λh=>bB h (by decide)) λh=>k _ rfl) λz l=>?_;subst l;exact ab.some (by rw[d];rfl)
 |succ i=>
  have m:i<a.aT.length:=O
  have bP:=br m;have cv:=Kc bP;have e:wr (((i+1:Nat):Int)-1)=(i:Int):=by rw[be O];omega
  rw[e];refine ab.aA (λz=>z=decide (a.aT[i]=0)) (λj k=>aP (λh=>ag (bk bP) (k _ rfl)) λh=>bB (show(0:Int)<((i+1:Nat):Int) by omega) h) λz l=>?_;subst l;refine aP (λo=>?_) λo=>ab.some ?_
  ·exact q _ ⟨i,rfl,O,by rw[d,cv,a1 o]⟩ O
  rw[d,cv,aY o]
def eU(a:ay)(d:Int):Bool:=cP a&&decide ((eL a.aT:Int)<=d)
def d9(l:List ay)(d:Int):Bool:=l.all (λa=>eU a d)&&decide (1<=l.length/\l.length<=2)
theorem Ce(a b:Int):decide (a<b)= !decide (b<=a):=by
 by_cases h:a<b
 ·rw[bA h,bx O];rfl
 rw[bx h,bA O];rfl
theorem Kq(y:5000<=n){l:List ay}(C:ku l)(d:Int):wi n l d=some (d9 l d):=by
 obtain⟨H,D⟩:=C;refine ab.eq ?_;unfold wi;refine pK (l:=l) (p:=λ_ a=>eU a d) O O (λk i x m r s=>?_) (λk o=>?_) (λ⟨i,x,m,F⟩=>?_)
 ·have aH:=(bR.1 m).1;have hm:=D x (bE m);rw[bA (show(i:Int)<(l.length:Int) by omega)];refine bS (ab.aA (λz=>z= !eU x d) (λj q=>ag (bk m) (ag (Iy y x hm) ?_)) λz w=>?_)
  ·cases A:cP x with
   |false=>exact q _ (by unfold eU;rw[A];rfl)
   |true=>exact ag (t8 y hm) (q _ (by unfold eU;rw[A,Ce];simp))
  subst w;cases B:eU x d with
  |true=>show ab (k _) _;rw[be O];exact r B
  |false=>exact ab.some (s B)
 ·rw[bx (show¬(l.length:Int)<(l.length:Int) by omega)];have e:l.all (λa=>eU a d)=true:=fB.2 λc G=>by obtain⟨i,aH⟩:=ls G;exact o i c aH
  unfold d9;rw[e];refine b3 (ab.aA (λz=>z=decide (1<=l.length/\l.length<=2)) (λj q=>aP (λh=>q _ ?_) λh=>q _ ?_) λz w=>ab.some (by rw[w];rfl))
  ·by_cases I:l.length<=2
   ·rw[bA (show(l.length:Int)<=2 by omega),bA O]
   rw[bx (show¬(l.length:Int)<=2 by omega),bx O]
  rw[bx O]
 unfold d9;rw[ju.2 ⟨x,bE m,by rw[F];simp⟩];rfl
theorem KR(c:5000<=n)(e:jA a)(d:Int):uY n a d=some (!eU a d):=by
 unfold uY;rw[Rk c a e];simp only[aA,Option.bind];cases h:cP a with
 |false=>simp[eU,h]
 |true=>
  rw[y3 c e];simp only[eU,h,Bool.not_true,cond_false,Bool.true_and];rw[Ce]
theorem DU(n k:Nat):fl n (k:Int) 1 2=some (decide (1<=k/\k<=2)):=by
 rw[d6];congr 1;by_cases h:1<=k/\k<=2
 ·rw[bA h,bA O]
 rw[bx h,bx O]
theorem JI(c:5000<=n){l:List ay}(h:ku l)(d:Int):yB n l d=some (d9 l d):=by
 obtain⟨o,i⟩:=h;unfold yB;rw[DU];have bP:=xW (n:=n) (f:=λk=>uY n k d) (p:=λa=> !eU a d) (l:=l) (λx m=>KR c (i x m) d) O O;simp only[aA,Option.bind];rw[bP];unfold d9;have e:(l.any λa=> !eU a d)= !(l.all λa=>eU a d):=by
  rw[te];simp
 rw[e];cases decide (1<=l.length/\l.length<=2)<;>simp
def wX{k:Type}(p:Nat->k->Bool)(l:List k):Bool:=l.zipIdx.all λq=>p q.2 q.1
theorem Ds{k:Type}{p:Nat->k->Bool}{l:List k}(h: ∀(i:Nat) x,l[i]? =some x->p i x=true):wX p l=true:=
 fB.2 λq a=>h q.2 q.1 (Dc.1 a)
theorem CT{k:Type}{p:Nat->k->Bool}{l:List k}{x:k}(h:l[i]? =some x)(a:p i x=false):wX p l=false:=
 ju.2 ⟨(x,i),Dc.2 h,by rw[a];simp⟩
theorem KO{k:Type}{p:Nat->k->Bool}{l:List k}(h:wX p l=true){x:k}(a:l[i]? =some x):p i x=true:=
 fB.1 h (x,i) (Dc.2 a)
def ll(a:List Loop):Bool:=wX (λi l=>d9 l.bf (i:Int)&&d9 l.aH (i:Int)) a&&decide (a.length<=4)
def p6(a:List Loop):Prop:=a.length<=1000/\ ∀l∈a,ku l.bf/\ku l.aH
theorem SC(m:5000<=n)(h:p6 o):Dx n o=some (ll o):=by
 obtain⟨D,w⟩:=h;refine ab.eq ?_;unfold Dx;refine pK (l:=o) (p:=λi l=>d9 l.bf (i:Int)&&d9 l.aH (i:Int)) O O (λa i x c e k=>?_) (λa d=>?_) (λ⟨i,x,c,y⟩=>?_)
 ·have aH:=(bR.1 c).1;obtain⟨A,B⟩:=w x (bE c);rw[bA (show(i:Int)<(o.length:Int) by omega)];refine ag (bk c) (ab.aA (λz=>z= !(d9 x.bf (i:Int)&&d9 x.aH (i:Int))) (λj q=>ag (JI m A _) ?_) λz C=>?_)
  ·cases r:d9 x.bf (i:Int) with
   |false=>exact q _ (by rw[r];rfl)
   |true=>exact ag (JI m B _) (q _ (by rw[r];rfl))
  subst C;cases s:(d9 x.bf (i:Int)&&d9 x.aH (i:Int)) with
  |true=>show ab (a _) _;rw[be O];exact e s
  |false=>exact ab.some (k s)
 ·rw[bx (show¬(o.length:Int)<(o.length:Int) by omega)];refine ab.some ?_;unfold ll;rw[Ds d,ff];exact decide_eq_decide.2 O
 unfold ll;rw[CT c y];rfl
theorem SD(s:5000<=n)(h:p6 o):Dn n o=some (ll o):=by
 obtain⟨G,B⟩:=h;unfold Dn;by_cases w:o.length<=4
 ·rw[bA (show(o.length:Int)<=4 by omega)];refine ab.eq ?_;refine pK (l:=o) (p:=λi l=>d9 l.bf (i:Int)&&d9 l.aH (i:Int)) O O (λa i x d q r=>?_) (λa e=>?_) (λ⟨i,x,d,C⟩=>?_)
  ·have aH:=(bR.1 d).1;obtain⟨D,F⟩:=B x (bE d);rw[bA (show(i:Int)<(o.length:Int) by omega)];refine ab.aA (λz=>z=true) (λj c=>bS (c _ rfl)) λz m=>?_;subst m;refine bS (ab.aA (λz=>z= !(d9 x.bf (i:Int)&&d9 x.aH (i:Int))) (λj c=>ag (bk d) (ag (Kq s D _) ?_)) λz m=>?_)
   ·cases y:d9 x.bf (i:Int) with
    |false=>exact c _ (by rw[y];rfl)
    |true=>exact ag (Kq s F _) (c _ (by rw[y];rfl))
   subst m;cases A:(d9 x.bf (i:Int)&&d9 x.aH (i:Int)) with
   |true=>show ab (a _) _;rw[be O];exact q A
   |false=>exact ab.some (r A)
  ·rw[bx (show¬(o.length:Int)<(o.length:Int) by omega)];refine ab.aA (λz=>z=false) (λj c=>b3 (c _ rfl)) λz m=>?_;subst m;refine ab.some ?_;unfold ll;rw[Ds e,bA w];rfl
  unfold ll;rw[CT d C];rfl
 obtain⟨k,rfl⟩: ∃k,n=k+1:=⟨n-1,O⟩
 rw[bx (show¬(o.length:Int)<=4 by omega)];unfold ll;rw[bx w,jv];simp only[bp,aA];cases decide ((0:Int)<(o.length:Int))<;>rfl
def mE:List Int->Int
 | []=>0
 |x::a=>a.foldl max x
def oz:List Int->Int
 | []=>0
 |x::a=>a.foldl min x
theorem ZD(h:l≠[])(x:Int):mE (l++[x])=max (mE l) x:=by
 cases l with
 |nil=>exact bB rfl h
 |cons a l=>simp[mE,List.foldl_append]
theorem ZF(h:l≠[])(x:Int):oz (l++[x])=min (oz l) x:=by
 cases l with
 |nil=>exact bB rfl h
 |cons a l=>simp[oz,List.foldl_append]
theorem OE: ∀(l:List Int) (a:Int),a<=l.foldl max a
 | [],a=>gH _
 |x::l,a=>Int.le_trans (Int.le_max_left a x) (OE l (max a x))
theorem OH: ∀(l:List Int) (a:Int),l.foldl min a<=a
 | [],a=>gH _
 |x::l,a=>Int.le_trans (OH l (min a x)) (Int.min_le_left a x)
def lK(l:List ay)(p:List Int):List Int:=l.map λa=>fW a p
def dH(l:Loop)(p:List Int):Int:=mE (lK l.bf p)
def eo(l:Loop)(p:List Int):Int:=oz (lK l.aH p)
def h'(k:Nat)(p:List Int):Prop:=p.length=k/\k<=4/\CB (100*40^k) p
theorem rO(h:k<=4):(0:Int)<=100*40^k/\(100:Int)*40^k<=1000000000:=by
 match k,h with
 |0,_=>decide
 |1,_=>decide
 |2,_=>decide
 |3,_=>decide
 |4,_=>decide
theorem p1{l:List ay}(h:d9 l d=true):1<=l.length/\l.length<=2/\ ∀a∈l,cP a=true:=by
 simp only[d9,Bool.and_eq_true,decide_eq_true_eq,List.all_eq_true] at h;refine⟨h.2.1,h.2.2,λa c=>?_⟩
 have:=h.1 a c;simp only[eU,Bool.and_eq_true] at this;exact this.1
theorem Od(c:cP a=true)(d:h' k p)(e:k<=3): -(40*(100*40^k))<=fW a p/\fW a p<=40*(100*40^k):=by
 obtain⟨n,o,h⟩:=fu c;obtain⟨q,r,i⟩:=d;obtain⟨l,s⟩:=rO (k:=k) O;have w:(100:Int)<=100*40^k:=by
  match k,e with
  |0,_=>decide
  |1,_=>decide
  |2,_=>decide
  |3,_=>decide
 generalize (100*40^k:Int)=M at*;have y:=G0 (M:=M) l (cs:=a.aT) (xs:=p) h λx m=>i x m;have z:9*M*(p.length:Int)<=9*M*3:=Int.mul_le_mul_of_nonneg_left O O;simp only[cL] at*;unfold fW;omega
theorem xa(d:5000<=n)(e:cP a=true)(c:h' k p):m9 n a p=some (fW a p):=
 Xp d e (by have:=c.1;have:=c.2.1;omega) (rO c.2.1) c.2.2
theorem xc(d:5000<=n)(e:cP a=true)(c:h' k p):od n a p=some (fW a p):=
 W6 d e (by have:=c.1;have:=c.2.1;omega) (rO c.2.1) c.2.2
theorem oD{l:List ay}(h:l[i]? =some a):(lK l p)[i]? =some (fW a p):=by unfold lK;rw[List.getElem?_map,h];rfl
theorem AB(l:List ay)(p:List Int):(lK l p).length=l.length:=c5 ..
theorem Nc{k:Type}{l:List k}(h:1<=i)(a:1<=l.length):l.take i≠[]:=by
 intro e
 have:(l.take i).length=0:=by rw[e];rfl
 rw[cG] at this;omega
theorem NN(h:l[i]? =some x)(a:1<=i):mE (l.take (i+1))=max (mE (l.take i)) x:=by have:=(bR.1 h).1;rw[en,h];exact ZD (Nc a O) x
theorem NQ(h:l[i]? =some x)(a:1<=i):oz (l.take (i+1))=min (oz (l.take i)) x:=by have:=(bR.1 h).1;rw[en,h];exact ZF (Nc a O) x
theorem GA(h:l[0]? =some x):mE (l.take 1)=x:=by
 cases l with
 |nil=>simp at h
 |cons a l=>simp at h;subst h;rfl
theorem Gl(h:l[0]? =some x):oz (l.take 1)=x:=by
 cases l with
 |nil=>simp at h
 |cons a l=>simp at h;subst h;rfl
theorem KB(r:5000<=n){l:Loop}{a:Int}(Q:d9 l.bf d=true)(R:d9 l.aH a=true)(s:h' k p):yR n l p=some (dH l p,eo l p):=by
 obtain⟨aJ,a2,a3⟩:=p1 Q;obtain⟨X,Y,L⟩:=p1 R;have C:=br (O:0<l.bf.length);have D:=br (O:0<l.aH.length);refine ab.eq ?_;unfold yR;refine ag (bk (i:=0) C) (ag (xa r (a3 _ (bE C)) s) (ag (bk (i:=0) D) (ag (xa r (L _ (bE D)) s) ?_)));refine ab.loop (λx:Int×Int=> ∃i:Nat,x.2=i/\1<=i/\i<=l.bf.length/\x.1=mE ((lK l.bf p).take i)) (λx=>l.bf.length-x.2.toNat) ?_ n _ ⟨1,rfl,O,O,(GA (oD C)).symm⟩ Z;rintro F ⟨x,z⟩ ⟨i,c,m,U,w⟩ W;dsimp only at c w⊢;subst c;refine aP (λG=>?_) λH=>?_
 ·have g:=br (O:i<l.bf.length);have e:=NN (oD (p:=p) g) m;refine ab.aA (λz=>z=mE ((lK l.bf p).take (i+1))) (λj q=>ag (bk g) (ag (xa r (a3 _ (bE g)) s) (aP (λh=>q _ ?_) λh=>q _ ?_))) λz c=>?_
  ·rw[e,<-w];omega
  ·rw[e,<-w];omega
  rw[be O];exact W _ ⟨i+1,Z,O,O,c⟩ Z
 have o:i=l.bf.length:=O
 have I:x=dH l p:=by rw[w,o,<-AB l.bf p,c6];rfl
 refine ab.loop (λx:Int×Int=> ∃i:Nat,x.2=i/\1<=i/\i<=l.aH.length/\x.1=oz ((lK l.aH p).take i)) (λx=>l.aH.length-x.2.toNat) ?_ n _ ⟨1,rfl,O,O,(Gl (oD D)).symm⟩ Z;rintro A ⟨y,z⟩ ⟨i,c,m,U,B⟩ K;dsimp only at c B⊢;subst c;refine aP (λG=>?_) λH=>ab.some ?_
 ·have g:=br (O:i<l.aH.length);have e:=NQ (oD (p:=p) g) m;refine ab.aA (λz=>z=oz ((lK l.aH p).take (i+1))) (λj q=>ag (bk g) (ag (xa r (L _ (bE g)) s) (aP (λh=>q _ ?_) λh=>q _ ?_))) λz c=>?_
  ·rw[e,<-B];omega
  ·rw[e,<-B];omega
  rw[be O];exact K _ ⟨i+1,Z,O,O,c⟩ Z
 have o:i=l.aH.length:=O
 rw[I,B,o,<-AB l.aH p,c6];rfl
theorem WX(h:5000<=n){l:Loop}{a:Int}(H:d9 l.bf d=true)(I:d9 l.aH a=true)(m:h' k p):Dz n l p=some (dH l p,eo l p):=by
 obtain⟨aJ,a2,a3⟩:=p1 H;obtain⟨Q,R,G⟩:=p1 I;have s:=br (O:0<l.bf.length);have w:=br (O:0<l.aH.length);refine ab.eq ?_;unfold Dz;refine ag (bk (i:=0) s) (ag (xc h (a3 _ (bE s)) m) (ag (bk (i:=0) w) (ag (xc h (G _ (bE w)) m) ?_)));refine ab.loop (λx:Int×Int=> ∃i:Nat,x.2=i/\i<=l.bf.length/\x.1=mE ((lK l.bf p).take (max i 1))) (λx=>l.bf.length-x.2.toNat) ?_ n _ ⟨0,rfl,O,(GA (oD s)).symm⟩ Z;rintro A ⟨x,z⟩ ⟨i,e,K,o⟩ L;dsimp only at e o⊢;subst e;refine aP (λB=>?_) λC=>?_
 ·have g:=br (O:i<l.bf.length);refine ag (bk g) (ag (xc h (a3 _ (bE g)) m) ?_);rw[be O];refine L _ ⟨i+1,Z,O,?_⟩ Z;dsimp only;rw[show max (i+1) 1=i+1 by omega];cases i with
  |zero=>rw[o,show max 0 1=1 by rfl,dt,GA (oD g)];omega
  |succ i=>rw[NN (oD (p:=p) g) O,o,show max (i+1) 1=i+1 by omega]
 have c:i=l.bf.length:=O
 have D:x=dH l p:=by rw[o,c,Nat.max_eq_left O,<-AB l.bf p,c6];rfl
 refine ab.loop (λx:Int×Int=> ∃i:Nat,x.2=i/\i<=l.aH.length/\x.1=oz ((lK l.aH p).take (max i 1))) (λx=>l.aH.length-x.2.toNat) ?_ n _ ⟨0,rfl,O,(Gl (oD w)).symm⟩ Z;rintro q ⟨y,z⟩ ⟨i,e,K,r⟩ F;dsimp only at e r⊢;subst e;refine aP (λB=>?_) λC=>ab.some ?_
 ·have g:=br (O:i<l.aH.length);refine ag (bk g) (ag (xc h (G _ (bE g)) m) ?_);rw[be O];refine F _ ⟨i+1,Z,O,?_⟩ Z;dsimp only;rw[show max (i+1) 1=i+1 by omega];cases i with
  |zero=>rw[r,show max 0 1=1 by rfl,dt,Gl (oD g)];omega
  |succ i=>rw[NQ (oD (p:=p) g) O,r,show max (i+1) 1=i+1 by omega]
 have c:i=l.aH.length:=O
 rw[D,r,c,Nat.max_eq_left O,<-AB l.aH p,c6];rfl
theorem AR{l:Loop}(n:d9 l.bf d=true)(o:d9 l.aH b=true)(e:h' k p)(i:k<=3)(A:dH l p<=v/\v<eo l p):h' (k+1) (p++[v]):=by
 obtain⟨aJ,a2,a3⟩:=p1 n;obtain⟨m,B,r⟩:=p1 o;have C: -(40*(100*40^k))<=dH l p:=by
  cases c:l.bf with
  |nil=>rw[c] at aJ;simp at aJ
  |cons a as=>
   have:=(Od (a3 a (by rw[c];simp)) e i).1;unfold dH lK;rw[c];exact Int.le_trans this (OE _ _)
 have D:eo l p<=40*(100*40^k):=by
  cases c:l.aH with
  |nil=>rw[c] at m;simp at m
  |cons a as=>
   have:=(Od (r a (by rw[c];simp)) e i).2;unfold eo lK;rw[c];exact Int.le_trans (OH _ _) this
 obtain⟨s,F,w⟩:=e;have y:(100*40^(k+1):Int)=40*(100*40^k):=by rw[Int.pow_succ];omega
 have q:=(rO (k:=k) O).1;refine⟨by simp[s],O,λx z=>?_⟩;rw[y];rcases d'.1 z with h|h
 ·have:=w x h;simp only[cL] at this⊢;omega
 simp at h;subst h;simp only[cL];omega
def fp:List Loop->List Int->List (List Int)
 | [],p=>[p]
 |l::bY,p=>(dG (dH l p) (eo l p)).flatMap λv=>fp bY (p++[v])
def fz:List Loop->List Int->Int
 | [],_=>1
 |l::bY,p=>1+((dG (dH l p) (eo l p)).map λv=>fz bY (p++[v])).sum
theorem nC{k:Type}(f:k->Int): ∀(l:List k),(∀x∈l,1<=f x)->(l.length:Int)<=(l.map f).sum
 | [],_=>aV
 |x::l,h=>by have c:=nC f l λy a=>h y (by simp[a]);have d:=h x aV;simp only[List.map_cons,List.sum_cons,List.length_cons];omega
theorem A6: ∀(bY:List Loop) (p:List Int),1<=fz bY p
 | [],p=>gH _
 |l::bY,p=>by have:=nC (λv=>fz bY (p++[v])) (dG (dH l p) (eo l p)) λv _=>A6 bY _;simp only[fz];omega
def Fit(a:List Loop):Prop:=a.length<=4/\ ∀(i:Nat) l,a[i]? =some l->d9 l.bf (i:Int)=true/\d9 l.aH (i:Int)=true
theorem A4{nest:List Loop}(h:ll nest=true):Fit nest:=by
 simp only[ll,Bool.and_eq_true,decide_eq_true_eq] at h;refine⟨h.2,λi l a=>?_⟩
 have:=KO h.1 a;simpa[Bool.and_eq_true] using this
theorem zF{l:Loop}{q:List Loop}(h:o.drop k=l::q):o[k]? =some l/\o.drop (k+1)=q/\k<o.length:=by
 have a:(o.drop k)[0]? =some l:=by rw[h];rfl
 rw[fZ,oL] at a;refine⟨a,?_,(bR.1 a).1⟩
 have:(o.drop k).drop 1=q:=by rw[h];rfl
 rwa [List.drop_drop] at this
theorem Ae(h:o.drop k=[])(a:k<=o.length):k=o.length:=by
 have:(o.drop k).length=0:=by rw[h];rfl
 rw[fs] at this;omega
theorem nk(p:List Int)(h:p.length<=1000):app [] p=some p:=by rw[cY bQ];rfl
theorem Md(l:List Int)(f:Int->Int)(v:Int):((l++[v]).map f).sum=(l.map f).sum+f v:=aV
theorem Zw{bf:Int}(h:bf<=v):((dG bf v).length:Int)=v-bf:=by unfold dG;simp;omega
theorem LW{c:List Loop}(C:Fit c): ∀(bY:List Loop) (n k:Nat) (p:List Int) (a:Int),5000+bY.length<=n->c.drop k=bY->k<=c.length->h' k p->0<=a->a<=1200->
  ab (qV n c p a) (λr=>(fz bY p<=a->r=fz bY p)/\(a<fz bY p->a<r)/\1<=r/\r<=a+1)
 | [],n,k,p,a,K,D,L,o,E,M=>by
  obtain⟨n,rfl⟩: ∃j,n=j+1:=⟨n-1,O⟩
  have N:=Ae D L;have q:=o.1;unfold qV;rw[bA (show(p.length:Int)=(c.length:Int) by omega)];exact ab.some ⟨λ_=>rfl,λh=>by simp only[fz] at h;omega,O,O⟩
 |l::bY,n,k,p,a,K,D,L,o,E,M=>by
  obtain⟨n,rfl⟩: ∃j,n=j+1:=⟨n-1,O⟩
  obtain⟨Q,P,d3⟩:=zF D;obtain⟨R,U⟩:=C.2 k l Q;have q:=o.1;have F:k<=3:=by have:=C.1;omega
  simp only[List.length_cons] at K;unfold qV;rw[bx (show¬(p.length:Int)=(c.length:Int) by omega)];refine b3 (ag (x:=l) (by rw[q];exact bk Q) (ag (KB O R U o) ?_));let f:Int->Int:=λv=>fz bY (p++[v]);have s: ∀v,1<=f v:=λv=>A6 _ _;have S:fz (l::bY) p=1+((dG (dH l p) (eo l p)).map f).sum:=rfl;refine ab.loop (λx:Int×Int=>dH l p<=x.2/\(x.2<=eo l p\/x.2=dH l p)/\(1+((dG (dH l p) x.2).map f).sum<=a->x.1=1+((dG (dH l p) x.2).map f).sum)/\(a<1+((dG (dH l p) x.2).map f).sum->a<x.1)/\1<=x.1/\x.1<=a+1)
   (λx=>(a+1-x.1).toNat) ?_ n _ ⟨gH _,.inr rfl,λ_=>by rw[lV (gH _)];rfl,λh=>by rw[lV (gH _)] at h;simp at h;dsimp only;omega,Z,Z⟩ Z
  rintro G ⟨x,v⟩ ⟨B,W,H,I,X,Y⟩ T;dsimp only at B W H I X Y⊢;refine ab.aA (λz=>z=decide (v<eo l p/\x<=a)) (λj b=>aP (λh=>b _ ?_) λh=>b _ ?_) λz V=>?_
  ·by_cases e:x<=a
   ·rw[bA e,bA ⟨h,e⟩]
   rw[bx e,bx λh=>e h.2]
  ·rw[bx λg=>h g.1]
  subst V;refine aP (λ⟨i,e⟩=>?_) λw=>ab.some ?_
  ·have A:x=1+((dG (dH l p) v).map f).sum:=H (by apply Int.not_lt.1;intro h;have:=I h;omega);have m:=AR R U o F ⟨B,i⟩;have e1:wr (a-x)=a-x:=by rw[be O]
   rw[e1];refine ag (nk p O) (ag (cY bQ) (cb (LW C bY n (k+1) (p++[v]) (a-x) O P O m O O) λr ⟨sS,vi,ahJ,ahK⟩=>?_));have agB:v<eo l p:=i;have P5: -1000000000<=v/\v<=1000000000:=by
    have h9:=m.2.2 v aV;have k4:=rO m.2.1;simp only[cL] at h9;omega
   rw[be (n:=v+1) O,be (n:=x+r) O];have t:1+((dG (dH l p) (v+1)).map f).sum=x+f v:=by rw[s0 B,Md,A];omega
   refine T _ ⟨Z,.inl Z,?_,?_,Z,Z⟩ Z
   ·dsimp only;rw[t];intro h
    have:r=f v:=sS (O:f v<=a-x);omega
   dsimp only;rw[t];intro h
   have:a-x<r:=vi (O:a-x<f v);omega
  have d:1+((dG (dH l p) v).map f).sum<=fz (l::bY) p/\(eo l p<=v->1+((dG (dH l p) v).map f).sum=fz (l::bY) p):=by
   rw[S];by_cases h:v<eo l p
   ·refine⟨?_,λg=>O⟩;rw[zp B h,f',yL,List.map_cons,List.sum_cons]
    have:=nC f (dG (v+1) (eo l p)) λy _=>s y
    have:=s v;omega
   have:dG (dH l p) v=dG (dH l p) (eo l p):=by
    rcases W with u|u
    ·rw[show v=eo l p by omega]
    subst u;rw[lV (gH _),lV O]
   rw[this];exact⟨gH _,λ_=>rfl⟩
  refine⟨λh=>?_,λh=>?_,X,Y⟩
  ·have e:=H O;rw[e];apply d.2;apply Int.not_lt.1;intro i;exact w ⟨i,O⟩
  apply Int.not_le.1;intro e;have i:eo l p<=v:=by apply Int.not_lt.1;intro i;exact w ⟨i,e⟩
  have:=I (by rw[d.2 i];exact h);omega
theorem D4{a:List Loop}(B:Fit a): ∀(bY:List Loop) (n k:Nat) (p:List Int) (out:List (List Int)),5000+bY.length<=n->a.drop k=bY->k<=a.length->h' k p->fz bY p<=1200->out.length<=120->
  ab (pG n out a p) (λr=>(out.length+(fp bY p).length<=120->r=out++fp bY p)/\(120<out.length+(fp bY p).length->120<r.length))
 | [],n,k,p,out,Q,C,R,q,U,P=>by
  obtain⟨n,rfl⟩: ∃j,n=j+1:=⟨n-1,O⟩
  have S:=Ae C R;have s:=q.1;have D:=B.1;unfold pG;rw[bA (show(p.length:Int)=(a.length:Int) by omega)];refine bS (ag (nk p O) (ag (cY bQ) (ab.some ⟨λ_=>rfl,λh=>by simp[fp] at h ⊢; omega⟩)))
 |l::bY,n,k,p,out,Q,C,R,q,U,P=>by
  obtain⟨n,rfl⟩: ∃j,n=j+1:=⟨n-1,O⟩
  obtain⟨W,T,d3⟩:=zF C;obtain⟨X,Y⟩:=B.2 k l W;have s:=q.1;have D:=B.1;have F:k<=3:=O
  simp only[List.length_cons] at Q;unfold pG;rw[bx (show¬(p.length:Int)=(a.length:Int) by omega)];refine b3 (ag (x:=l) (by rw[s];exact bk W) (ag (KB O X Y q) ?_));let f:Int->Int:=λv=>fz bY (p++[v]);have i: ∀v,1<=f v:=λv=>A6 _ _;have V:fz (l::bY) p=1+((dG (dH l p) (eo l p)).map f).sum:=rfl;let g:Int->List (List Int):=λv=>fp bY (p++[v]);have xw:fp (l::bY) p=(dG (dH l p) (eo l p)).flatMap g:=rfl;have b:dH l p<=eo l p->eo l p-dH l p<=1199:=λG=>by
   have:=nC f (dG (dH l p) (eo l p)) λy _=>i y
   have:=Zw G;omega
  refine ab.loop (λx:List (List Int)×Int=>dH l p<=x.2/\(x.2<=eo l p\/x.2=dH l p)/\(out.length+((dG (dH l p) x.2).flatMap g).length<=120->x.1=out++(dG (dH l p) x.2).flatMap g)/\(120<out.length+((dG (dH l p) x.2).flatMap g).length->120<x.1.length))
   (λx=>(eo l p-x.2).toNat) ?_ n _ ⟨gH _,.inr rfl,λ_=>by rw[lV (gH _)];simp,λh=>by rw[lV (gH _)] at h;simp at h;omega⟩ Z
  rintro H ⟨x,v⟩ ⟨w,t,I,K⟩ b7;dsimp only at w t I K⊢;refine ab.aA (λz=>z=decide (v<eo l p/\x.length<=120)) (λj u=>aP (λh=>u _ ?_) λh=>u _ ?_) λz eM=>?_
  ·by_cases d:x.length<=120
   ·rw[bA (show(x.length:Int)<=120 by omega),bA ⟨h,d⟩]
   rw[bx (show¬(x.length:Int)<=120 by omega),bx λh=>d h.2]
  ·rw[bx λE=>h E.1]
  subst eM;refine aP (λ⟨e,d⟩=>?_) λA=>ab.some ?_
  ·have m:x=out++(dG (dH l p) v).flatMap g:=I (by apply Nat.not_lt.1;intro h;have:=K h;omega);have o:=AR X Y q F ⟨w,e⟩;have L:f v<=1200:=by
    rw[V,zp w e,f',yL,List.map_cons,List.sum_cons] at U
    have:=nC f (dG (v+1) (eo l p)) λy _=>i y
    have:=nC f (dG (dH l p) v) λy _=>i y;omega
   refine ag (nk p O) (ag (cY bQ) (cb (D4 B bY n (k+1) (p++[v]) x O T O o L d) λr ⟨sS,vi⟩=>?_));have P5: -1000000000<=v/\v<=1000000000:=by
    have h9:=o.2.2 v aV;have k4:=rO o.2.1;simp only[cL] at h9;omega
   rw[be (n:=v+1) O];have M:(dG (dH l p) (v+1)).flatMap g=(dG (dH l p) v).flatMap g++g v:=by rw[s0 w,oM];simp
   refine b7 _ ⟨Z,.inl Z,?_,?_⟩ Z
   ·dsimp only;rw[M];intro h;simp only[List.length_append] at h;have cE:x.length=out.length+((dG (dH l p) v).flatMap g).length:=by rw[m,dE]
    rw[sS (O:x.length+(g v).length<=120),m,iy]
   dsimp only;rw[M];intro h;simp only[List.length_append] at h;have cE:x.length=out.length+((dG (dH l p) v).flatMap g).length:=by rw[m,dE]
   exact vi (O:120<x.length+(g v).length)
  have c:((dG (dH l p) v).flatMap g).length<=(fp (l::bY) p).length/\(eo l p<=v->(dG (dH l p) v).flatMap g=fp (l::bY) p):=by
   rw[xw];by_cases h:v<eo l p
   ·refine⟨?_,λE=>O⟩;rw[zp w h,oM,dE];omega
   have:dG (dH l p) v=dG (dH l p) (eo l p):=by
    rcases t with N|N
    ·rw[show v=eo l p by omega]
    subst N;rw[lV (gH _),lV O]
   rw[this];exact⟨cQ _,λ_=>rfl⟩
  refine⟨λh=>?_,λh=>?_⟩
  ·have d:=I O;rw[d,c.2];apply Int.not_lt.1;intro e;exact A ⟨e,by rw[d,dE];omega⟩
  apply Nat.not_le.1;intro d;have e:eo l p<=v:=by apply Int.not_lt.1;intro e;exact A ⟨e,d⟩
  have:=K (by rw[c.2 e];exact h);omega
theorem LJ{a:List Loop}(B:Fit a): ∀(bY:List Loop) (n k:Nat) (p:List Int) (st:Int) (out:List (List Int)),5000+bY.length<=n->a.drop k=bY->k<=a.length->h' k p->0<=st->st<=1199->out.length<=120->
  ab (qB n ⟨a,st,out⟩ p) (λr=>(st+fz bY p<=1200/\out.length+(fp bY p).length<=120->r=(true,⟨a,st+fz bY p-1,out++fp bY p⟩))/\(¬(st+fz bY p<=1200/\out.length+(fp bY p).length<=120)->r.1=false))
 | [],n,k,p,st,out,R,D,U,m,W,X,q=>by
  obtain⟨n,rfl⟩: ∃j,n=j+1:=⟨n-1,O⟩
  have o':=Ae D U;have s:=m.1;have F:=B.1;unfold qB;dsimp only;rw[bA (show(p.length:Int)=(a.length:Int) by omega)];have d:jM p=some p:=by unfold jM;rw[a1 O]
  refine bS (ag d (ag (cY bQ) (ab.some ⟨λh=>?_,λh=>?_⟩)))
  ·simp only[fz,fp,List.length_singleton] at h⊢;rw[bA bQ,show st+1-1=st by omega]
  simp only[fz,fp,List.length_singleton] at h⊢;exact bx bQ
 |l::bY,n,k,p,st,out,R,D,U,m,W,X,q=>by
  obtain⟨n,rfl⟩: ∃j,n=j+1:=⟨n-1,O⟩
  obtain⟨Y,d2,d3⟩:=zF D;obtain⟨b,t⟩:=B.2 k l Y;have s:=m.1;have F:=B.1;have G:k<=3:=O
  simp only[List.length_cons] at R;unfold qB;dsimp only;rw[bx (show¬(p.length:Int)=(a.length:Int) by omega)];refine b3 (ag (x:=l) (by rw[s];exact bk Y) (ag (WX O b t m) ?_));let f:Int->Int:=λv=>fz bY (p++[v]);have c: ∀v,1<=f v:=λv=>A6 _ _;have u:fz (l::bY) p=1+((dG (dH l p) (eo l p)).map f).sum:=rfl;let g:Int->List (List Int):=λv=>fp bY (p++[v]);have E:fp (l::bY) p=(dG (dH l p) (eo l p)).flatMap g:=rfl;refine ab.loop (λx:List Loop×Int×List (List Int)×Int=>x.1=a/\dH l p<=x.2.2.2/\(x.2.2.2<=eo l p\/x.2.2.2=dH l p)/\x.2.1=st+((dG (dH l p) x.2.2.2).map f).sum/\x.2.2.1=out++(dG (dH l p) x.2.2.2).flatMap g/\0<=x.2.1/\x.2.1<=1199/\x.2.2.1.length<=120)
   (λx=>(1200-x.2.1).toNat) ?_ n _ ⟨rfl,gH _,.inr rfl,by dsimp only;rw[lV (gH _)];simp,by dsimp only;rw[lV (gH _)];simp,W,X,q⟩ Z
  rintro H ⟨I,x,o,v⟩ ⟨M,w,N,C,i,i5,i6,P⟩ b7;dsimp only at M w N C i i5 i6 P⊢;subst M;have pc:o.length=out.length+((dG (dH l p) v).flatMap g).length:=by rw[i,dE]
  refine aP (λK=>?_) λK=>ab.some ?_
  ·have e:=AR b t m G ⟨w,K⟩;have L:fz (l::bY) p≥1+((dG (dH l p) v).map f).sum+f v/\(fp (l::bY) p).length≥((dG (dH l p) v).flatMap g).length+(g v).length:=by
    rw[u,E,zp w K,f',yL,List.map_cons,List.sum_cons,oM,dE,List.flatMap_cons,dE]
    have:=nC f (dG (v+1) (eo l p)) λy _=>c y;constructor
    ·omega
    omega
   have P5: -1000000000<=v/\v<=1000000000:=by
    have h9:=e.2.2 v aV;have k4:=rO e.2.1;simp only[cL] at h9;omega
   have e1:wr (x+1)=x+1:=by rw[be O]
   have e2:wr (x+1+1)=x+1+1:=by rw[be O]
   have mo:wr (v+1)=v+1:=by rw[be O]
   rw[e1,e2,mo];refine ab.aA (λz:List Loop×Int×List (List Int)×Bool=>(z.2.2.2=false->z.1=I/\x+f v<=1199/\o.length+(g v).length<=120/\z.2.1=x+f v/\z.2.2.1=o++g v)/\(z.2.2.2=true-> ¬(st+fz (l::bY) p<=1200/\out.length+(fp (l::bY) p).length<=120)))
    (λj Q=>aP (λh=>Q _ ⟨λmr=>(by cases mr),λ_=>?_⟩) λh=>?_) λz eM=>?_
   ·have:=c v;omega
   ·have d:jM p=some p:=by unfold jM;rw[a1 O]
    refine ag d (ag (cY bQ) (cb (LJ B bY n (k+1) (p++[v]) (x+1) o O d2 O e O O P) λr ⟨sS,vi⟩=>?_));by_cases d:x+1+f v<=1200/\o.length+(g v).length<=120
    ·rw[sS d];exact Q _ ⟨λ_=>⟨rfl,O,d.2,show x+1+f v-1=x+f v by omega,rfl⟩,λh=>(by cases h)⟩
    have A:=vi d;obtain⟨ahL,⟨ee,ahM,ro⟩⟩:=r;dsimp only at A⊢;subst A;exact Q _ ⟨λh=>(by cases h),λ_=>O⟩
   obtain⟨ahP,ahQ,ahR,ahz⟩:=z;obtain⟨S,T⟩:=eM;dsimp only at S T⊢;cases ahz with
   |true=>exact ab.some ⟨λh=>bB h (T rfl),λ_=>rfl⟩
   |false=>
    obtain⟨rfl,ahu,Ri,Rj,V⟩:=S rfl;refine b7 _ ⟨rfl,Z,.inl Z,?_,?_,by dsimp only;have:=c v;omega,Z,?_⟩ (by dsimp only;have:=c v;omega)
    ·dsimp only;rw[s0 w,Md,Rj,C];omega
    ·dsimp only;rw[V,i,s0 w,oM];simp
    dsimp only;rw[V,dE];exact Ri
  have:dG (dH l p) v=dG (dH l p) (eo l p):=by
   rcases N with q|q
   ·rw[show v=eo l p by omega]
   subst q;rw[lV (gH _),lV O]
  rw[this] at C i pc;rw[<-E] at i pc;refine⟨λh=>?_,λh=>?_⟩
  ·rw[i,C,u,show st+(1+((dG (dH l p) (eo l p)).map f).sum)-1=st+((dG (dH l p) (eo l p)).map f).sum by omega]
  exact bB ⟨O,O⟩ h
def jW(a:List Loop):Option (List (List Int)):=if ll a=true/\fz a []<=1200/\(fp a []).length<=120 then some (fp a []) else none
def rT:Option (List (List Int))->List (List Int)×Bool
 |none=>([],false)
 |some l=>(l,true)
theorem yh:h' 0 []:=⟨rfl,O,λx h=>by cases h⟩
theorem R7(k:6000<=n)(h:p6 o):C2 n o=some (rT (jW o)):=by
 refine ab.eq ?_;unfold C2;refine ag (SC O h) ?_;unfold jW;cases d:ll o with
 |false=>exact ab.some (by simp[rT])
 |true=>
  have c:=A4 d;refine cb (LJ c o n 0 [] 0 [] (by have:=c.1;omega) rfl O yh O O aV) λr ⟨e,i⟩=>?_;by_cases a:(0:Int)+fz o []<=1200/\([]:List (List Int)).length+(fp o []).length<=120
  ·rw[e a,a1 ⟨rfl,O,by simpa using a.2⟩];exact ab.some (by simp[rT])
  rw[i a,aY λh=>a ⟨O,by simpa using h.2.2⟩];exact ab.some rfl
theorem Sg(p:6000<=n)(h:p6 o):CX n o=some (rT (jW o)):=by
 refine ab.eq ?_;unfold CX;refine ab.aA (λz=>z= !(ll o&&decide (fz o []<=1200))) (λj l=>ag (SD O h) ?_) λz m=>?_
 ·cases c:ll o with
  |false=>exact l _ (by rw[c];rfl)
  |true=>
   have d:=A4 c;refine cb (LW d o n 0 [] 1200 (by have:=d.1;omega) rfl O yh O O) λr ⟨e,i,q,s⟩=>l _ ?_;rw[c,ff];by_cases a:fz o []<=1200
   ·rw[bA a,bx (by rw[e a];omega)];rfl
   rw[bx a,bA (i O)];rfl
 subst m;unfold jW;cases c:ll o with
 |false=>exact ab.some (by simp[rT])
 |true=>
  have d:=A4 c;by_cases a:fz o []<=1200
  ·rw[bA a];refine cb (D4 d o n 0 [] [] (by have:=d.1;omega) rfl O yh a aV) λr ⟨e,i⟩=>?_;by_cases k:(fp o []).length<=120
   ·rw[e (by simpa using k),a1 ⟨rfl,a,k⟩];refine aP (λh=>bB h bQ) λ_=>ab.some (by simp[rT])
   have:=i bQ;rw[aY λh=>k h.2.2];exact aP (λ_=>ab.some rfl) λh=>bB h O
  rw[bx a,aY λh=>a h.2.1];exact ab.some rfl
def nG(s:List UInt8):Bool:=match s with
 | [b]=>decide (65<=b.toNat/\b.toNat<=68)
 |_=>false
theorem Es(h:s.length≠1):nG s=false:=by
 match s,h with
 | [],_=>rfl
 | [b],h=>exact bB rfl h
 |_::_::_,_=>rfl
theorem G2(h:s.length=1): ∃b,s=[b]:=by
 match s,h with
 | [b],_=>exact⟨b,rfl⟩
theorem xb(b:UInt8)(k:Nat)(a:k<256):(b=UInt8.ofNat k)↔b.toNat=k:=by
 constructor
 ·intro h;rw[h];simp;omega
 intro h;rw[<-h];simp
theorem TI(b:UInt8):Lib.contains [65,66,67,68] [b]=decide (65<=b.toNat/\b.toNat<=68):=by
 have h:(b=65)↔b.toNat=65:=xb b 65 O;have i:(b=66)↔b.toNat=66:=xb b 66 O;have k:(b=67)↔b.toNat=67:=xb b 67 O;have l:(b=68)↔b.toNat=68:=xb b 68 O;by_cases a:b=65
 ·subst a;decide
 by_cases c:b=66
 ·subst c;decide
 by_cases d:b=67
 ·subst d;decide
 by_cases e:b=68
 ·subst e;decide
 rw[h] at a;rw[i] at c;rw[k] at d;rw[l] at e;rw[bx O];rw[<-h] at a;rw[<-i] at c;rw[<-k] at d;rw[<-l] at e;simp[Lib.contains,Lib.index,a,c,d,e]
theorem J2(n:Nat)(s:List UInt8):yX n s=some (nG s):=by
 unfold yX;by_cases h:s.length=1
 ·obtain⟨b,rfl⟩:=G2 h;simp only[aA,x2];rw[a1 aV,TI];rfl
 rw[bx (show¬(s.length:Int)=1 by omega),Es h];rfl
theorem KL(b:UInt8):Op.bytesLess [b] [65]=decide (b.toNat<65):=by simp[Op.bytesLess,UInt8.lt_iff_toNat_lt]
theorem KK(b:UInt8):(Op.bytesLess [b] [68]||[b]==[68])=decide (b.toNat<=68):=by
 have e:(b=68)↔b.toNat=68:=xb b 68 O;by_cases h:b=68
 ·subst h;decide
 have c:b.toNat≠68:=λa=>h (e.2 a)
 have:([b]==[(68:UInt8)])=false:=by simp[h]
 rw[this,Bool.or_false];simp only[Op.bytesLess,Bool.and_false,Bool.or_false,UInt8.lt_iff_toNat_lt];apply decide_eq_decide.2;show b.toNat<68↔_;omega
def fX(a:bZ)(d:Int):Bool:=a.bC.all (λx=>eU x d)&&(nG a.array&&decide (1<=a.bC.length/\a.bC.length<=2))
theorem W7(c:5000<=n)(e:jA a)(d:Int):yc n a d=some (!eU a d):=KR c e d
theorem JJ(c:5000<=n){a:bZ}(h:ku a.bC)(d:Int):yC n a d=some (fX a d):=by
 obtain⟨o,i⟩:=h;unfold yC;rw[J2,DU];have bP:=xW (n:=n) (f:=λk=>yc n k d) (p:=λa=> !eU a d) (l:=a.bC) (λx m=>W7 c (i x m) d) O O;simp only[aA,Option.bind];rw[bP];unfold fX;have e:(a.bC.any λa=> !eU a d)= !(a.bC.all λa=>eU a d):=by
  rw[te];simp
 rw[e];cases nG a.array<;>cases decide (1<=a.bC.length/\a.bC.length<=2)<;>simp
theorem JG(B:5000<=n){a:bZ}(r:ku a.bC)(d:Int):t7 n a d=some (fX a d):=by
 obtain⟨I,F⟩:=r;refine ab.eq ?_;unfold t7;refine pK (l:=a.bC) (p:=λ_ a=>eU a d) O O (λk i x o w y=>?_) (λk q=>?_) (λ⟨i,x,o,G⟩=>?_)
 ·have aH:=(bR.1 o).1;have hm:=F x (bE o);rw[bA (show(i:Int)<(a.bC.length:Int) by omega)];refine bS (ab.aA (λz=>z= !eU x d) (λj m=>ag (bk o) (ag (Iy B x hm) ?_)) λz A=>?_)
  ·cases r:cP x with
   |false=>exact m _ (by unfold eU;rw[r];rfl)
   |true=>exact ag (t8 B hm) (m _ (by unfold eU;rw[r,Ce];simp))
  subst A;cases s:eU x d with
  |true=>show ab (k _) _;rw[be O];exact w s
  |false=>exact ab.some (y s)
 ·rw[bx (show¬(a.bC.length:Int)<(a.bC.length:Int) by omega)];have e:a.bC.all (λa=>eU a d)=true:=fB.2 λc H=>by obtain⟨i,aH⟩:=ls H;exact q i c aH
  unfold fX;rw[e,ff];refine b3 (ab.aA (λz=>z=(nG a.array&&decide (1<=a.bC.length/\a.bC.length<=2))) (λj m=>?_) λz A=>ab.some A);by_cases h:a.array.length=1
  ·rw[bA (show(a.array.length:Int)=1 by omega)];obtain⟨b,s⟩:=G2 h;rw[s] at m⊢;rw[KL,KK];show ab (bif _ then _ else _) _;simp only[nG] at m⊢;by_cases C:b.toNat<65
   ·rw[bA C];exact m _ (by rw[bx (show¬(65<=b.toNat/\b.toNat<=68) by omega)];rfl)
   rw[bx C];by_cases D:b.toNat<=68
   ·rw[bA D];rw[bA (O:65<=b.toNat/\b.toNat<=68)] at m⊢;refine aP (λh=>m _ ?_) λh=>m _ ?_
    ·by_cases K:a.bC.length<=2
     ·rw[bA (show(a.bC.length:Int)<=2 by omega),bA O];rfl
     rw[bx (show¬(a.bC.length:Int)<=2 by omega),bx O];rfl
    rw[bx O];rfl
   rw[bx D];exact m _ (by rw[bx (show¬(65<=b.toNat/\b.toNat<=68) by omega)];rfl)
  rw[bx (show¬(a.array.length:Int)=1 by omega)];exact m _ (by rw[Es h];rfl)
 unfold fX;rw[ju.2 ⟨x,bE o,by rw[G];simp⟩];rfl
def hv(a:ay):Bool:=decide (a.aT.length=0)&&decide (a.const=0)
def jO(a:bZ):Bool:=decide (a.array=[])&&decide (a.bC.length=0)
theorem Bw(k:Nat):decide ((k:Int)=0)=decide (k=0):=decide_eq_decide.2 O
theorem TE(n:Nat)(a:ay):yA n a=some (hv a):=by unfold yA hv;rw[Bw];cases decide (a.aT.length=0)<;>rfl
theorem T9(n:Nat)(a:ay):vO n a=some (hv a):=by unfold vO hv;rw[Bw];cases decide (a.aT.length=0)<;>rfl
theorem TF(n:Nat)(a:bZ):sI n a=some (jO a):=by unfold sI jO;rw[Bw];cases decide (a.array=[])<;>rfl
theorem T4(n:Nat)(a:bZ):vq n a=some (jO a):=by unfold vq jO;rw[Bw];cases decide (a.array=[])<;>rfl
def ej(e:Expr)(d:Int):Bool:=
 if e.kind=2 then decide (e.num=0)&&(jO e.read&&eU e.index d)
 else if e.kind=3 then decide (e.num=0)&&(hv e.index&&fX e.read d)
 else if e.kind=1 then decide (0<=e.num/\e.num<=99)&&(hv e.index&&jO e.read)
 else decide (e.num=0)&&(hv e.index&&jO e.read)
def fv(k:Int):Int:=if k=1\/k=2\/k=3 then 0 else if k=4\/k=5\/k=6 then 2 else-1
theorem UQ(n:Nat)(k:Int):Ai n k=some (fv k):=by
 unfold Ai fv;by_cases a:k=1
 ·subst a;rfl
 by_cases c:k=2
 ·subst c;rfl
 by_cases d:k=3
 ·subst d;rfl
 by_cases e:k=4
 ·subst e;rfl
 by_cases h:k=5
 ·subst h;rfl
 by_cases i:k=6
 ·subst i;rfl
 simp[aA,a,c,d,e,h,i]
theorem VT(a:5000<=n){e:Expr}(c:jA e.index)(h:ku e.read.bC)(d:Int):AO n e d=some (ej e d):=by
 unfold AO ej;rw[T4,T9,Iy a _ c,t8 a c,JG a h];by_cases cz:e.kind=2
 ·rw[a1 cz,bA cz];simp only[aA,Option.bind,cond_true,eU];cases decide (e.num=0)<;>cases jO e.read<;>cases cP e.index<;>simp
 rw[aY cz,bx cz];by_cases ei:e.kind=3
 ·rw[a1 ei,bA ei];simp only[aA,Option.bind,cond_true,cond_false];cases decide (e.num=0)<;>cases hv e.index<;>simp
 rw[aY ei,bx ei];by_cases ev:e.kind=1
 ·rw[a1 ev,bA ev];simp only[aA,Option.bind,cond_true,cond_false];by_cases i:0<=e.num<;>by_cases k:e.num<=99<;>cases hv e.index<;>simp[i,k]
 rw[aY ev,bx ev];simp only[aA,Option.bind,cond_false];cases decide (e.num=0)<;>cases hv e.index<;>simp
end
section
def wB:Nat->Expr->Prop
 |0,_=>True
 |L+1,e=>e.bm.length<=1000/\jA e.index/\ku e.read.bC/\ ∀k∈e.bm,wB L k
def dD:Nat->Expr->Int->Bool
 |0,_,_=>false
 |L+1,e,d=>decide (fv e.kind=e.bm.length)&&(ej e d&&e.bm.all λk=>dD L k d)
def dB:Nat->Expr->Int
 |0,_=>1
 |L+1,e=>1+(e.bm.map (dB L)).sum
theorem pw(k:Int):fv k<=2:=by unfold fv;split;omega;split<;>omega
theorem J6(d:Int): ∀(L n:Nat) (e:Expr),5000+L<=n->L<=1000->wB L e->qX (n+1) e d (L:Int)=some (dD L e d)
 |0,n,e,_,_,_=>by unfold qX;rfl
 |L+1,n,e,K,Q,A=>by
  obtain⟨R,B,C,D⟩:=A;unfold qX;refine ab.eq ?_;refine ab.aA (λz=>z= !(decide (fv e.kind=e.bm.length)&&ej e d)) (λj s=>aP (λh=>O) λh=>ag (UQ n _) (eK (λh=>s _ ?_) λh=>ag (VT O B C d) (s _ ?_))) λz F=>?_
  ·rw[bx h];rfl
  ·rw[bA h];rfl
  subst F;unfold dD;cases w:(decide (fv e.kind=e.bm.length)&&ej e d) with
  |false=>exact ab.some (by rw[<-l7,w];rfl)
  |true=>
   rw[<-l7,w,ff];refine b3 ?_;obtain⟨n,rfl⟩: ∃j,n=j+1:=⟨n-1,O⟩
   have G:wr (((L+1:Nat):Int)-1)=(L:Int):=by rw[be O];omega
   rw[G];refine pK (l:=e.bm) (p:=λ_ k=>dD L k d) O O (λa i x m q r=>?_) (λa o=>?_) (λ⟨i,x,m,H⟩=>?_)
   ·have aH:=(bR.1 m).1;rw[bA (show(i:Int)<(e.bm.length:Int) by omega)];refine bS (ag (bk m) (ag (J6 d L n x O O (D x (bE m))) ?_));cases y:dD L x d with
    |true=>show ab (a _) _;rw[be O];exact q y
    |false=>exact ab.some (r y)
   ·rw[bx (show¬(e.bm.length:Int)<(e.bm.length:Int) by omega)];refine ab.some ?_;exact(fB.2 λc I=>by obtain⟨i,aH⟩:=ls I;exact o i c aH).symm
   exact(ju.2 ⟨x,bE m,by rw[H];simp⟩).symm
theorem re: ∀(L:Nat) (e:Expr),1<=dB L e
 |0,_=>gH _
 |L+1,e=>by have:=nC (dB L) e.bm λk _=>re L k;simp only[dB];omega
theorem A8{k:Type}(f:k->Int)(M:Int): ∀(l:List k),(∀x∈l,f x<=M)->(l.map f).sum<=l.length*M
 | [],_=>aV
 |x::l,h=>by have c:=A8 f M l λy a=>h y (by simp[a]);have d:=h x aV;simp only[List.map_cons,List.sum_cons,List.length_cons,Int.natCast_add,Int.add_mul];omega
variable {d c:Int}{n i k:Nat}{s:Stmt}{r:List ch}{x:Part}{a:bZ}{p:Prog}{q m:List Int}
theorem hi{L:Nat}{e:Expr}(h:dD (L+1) e d=true):fv e.kind=e.bm.length/\ej e d=true/\ ∀k∈e.bm,dD L k d=true:=by simp only[dD,Bool.and_eq_true,decide_eq_true_eq,List.all_eq_true] at h;exact⟨h.1,h.2.1,h.2.2⟩
theorem AZ: ∀{L:Nat} {e:Expr} {d:Int},dD L e d=true->dB L e+1<=2^L
 |0,e,d,h=>by cases h
 |L+1,e,d,h=>by
  obtain⟨i,_,a⟩:=hi h;have l:=A8 (dB L) ((2:Int)^L-1) e.bm λk c=>by have:=AZ (a k c);omega
  have m:=pw e.kind;have n:(e.bm.length:Int)*((2:Int)^L-1)<=2*((2:Int)^L-1):=by
   refine Int.mul_le_mul_of_nonneg_right O ?_
   have:(0:Int)<2^L:=Int.pow_pos O;omega
  simp only[dB];rw[Int.pow_succ];omega
theorem J7{d:Int}: ∀(L n:Nat) (e:Expr),5000+L<=n->L<=5->dD L e d=true->sU (n+1) e (L:Int)=some (dB L e)
 |0,n,e,_,_,h=>by cases h
 |L+1,n,e,I,s,h=>by
  obtain⟨K,_,p⟩:=hi h;have Q:=pw e.kind;have q: ∀k∈e.bm,dB L k<=40:=λk c=>by
   have R:=AZ (p k c);have U:(2:Int)^L<=40:=by
    match L,s with
    |0,_=>decide
    |1,_=>decide
    |2,_=>decide
    |3,_=>decide
    |4,_=>decide
   omega
  unfold sU;refine ab.eq ?_;obtain⟨n,rfl⟩: ∃j,n=j+1:=⟨n-1,O⟩
  have w:wr (((L+1:Nat):Int)-1)=(L:Int):=by rw[be O];omega
  rw[w];refine ab.loop (λx:Int×Int=> ∃i:Nat,x.2=i/\i<=e.bm.length/\x.1=1+((e.bm.take i).map (dB L)).sum) (λx=>e.bm.length-x.2.toNat) ?_ (n+1) _ ⟨0,rfl,O,aV⟩ bQ;rintro l ⟨x,k⟩ ⟨i,c,W,m⟩ A;dsimp only at c m⊢;subst c;refine ab.aA (λz=>z=decide (i<e.bm.length)) (λj r=>aP (λh=>r _ ?_) λh=>r _ ?_) λz B=>?_
  ·rw[bA (show(0:Int)<((L+1:Nat):Int) by omega),bA O]
  ·rw[bx O]
  subst B;refine aP (λo=>?_) λC=>ab.some ?_
  ·have a:=br o;have hm:=bE a;refine ag (bk a) (ag (J7 (d:=d) L n _ O O (p _ hm)) ?_);have hs:=A8 (dB L) 40 (e.bm.take i) λy D=>q y (gh D);have F:=nC (dB L) (e.bm.take i) λy _=>re L y;have G:=q _ hm;have H:=re L e.bm[i];have X:((e.bm.take i).length:Int)<=2:=bQ
   rw[be (n:=x+dB L e.bm[i]) O,be O];refine A _ ⟨i+1,Z,O,?_⟩ Z;dsimp only;rw[en,a,f',yL,m];simp;omega
  have:i=e.bm.length:=O
  rw[m,this,c6];rfl
def w8(e:Expr):Bool:=(decide (e.kind=1)||decide (e.num=0))&&((decide (e.kind=2)||hv e.index)&&(decide (e.kind=3)||jO e.read))
theorem Ja(d:Int): ∀(L n:Nat) (e:Expr) (c:Int),5000+L<=n->L<=5->wB L e->0<=c->c<=12->
  ab (pn (n+1) e d (6-(L:Int)) c) (λr=>r.1=(dD L e d&&decide (c+dB L e<=12))/\(r.1=true->r.2=c+dB L e))
 |0,n,e,c,E,M,Y,N,P=>by
  unfold pn;refine ab.aA (λz=>z=true) (λj i=>aP (λh=>i _ rfl) λh=>i _ (by decide)) λz m=>?_;subst m;exact ab.some ⟨rfl,λh=>by cases h⟩
 |L+1,n,e,c,E,M,Y,N,P=>by
  obtain⟨e1,f,S,t⟩:=Y;have T:=re (L+1) e;unfold pn;have V:wr (c+1)=c+1:=be O;have ag7:wr (6-(((L+1:Nat)):Int)+1)=6-(L:Int):=by rw[be O];omega
  rw[V,ag7];refine ab.aA (λz=>z=decide (12<c+1)) (λj i=>aP (λh=>i _ (bA h).symm) λh=>i _ ?_) λz m=>?_
  ·rw[bx h,bx O]
  subst m;refine aP (λh=>ab.some ⟨?_,λh=>by cases h⟩) λbP=>?_
  ·rw[bx (show¬c+dB (L+1) e<=12 by omega),jv]
  refine ab.aA (λz=>z= !w8 e) (λj i=>?_) λz m=>?_
  ·rw[TE,TF];unfold w8 at i;simp only[Option.bind];by_cases ev:e.kind=1
   ·have cz: ¬e.kind=2:=O
    have ei: ¬e.kind=3:=O
    rw[bA ev,bx cz,bx ei] at*;simp only[Bool.not_true,Bool.not_false,cond_true,cond_false,Bool.true_or,Bool.true_and,Bool.false_or] at*;cases I:hv e.index with
    |false=>exact i _ (by rw[I];rfl)
    |true=>exact i _ (by rw[I];rfl)
   rw[bx ev] at*;simp only[Bool.not_false,cond_true,Bool.false_or] at*;by_cases o:e.num=0
   ·rw[bA o] at*;simp only[Bool.not_true,cond_false,Bool.true_and] at*;by_cases cz:e.kind=2
    ·have ei: ¬e.kind=3:=O
     rw[bA cz,bx ei] at*;simp only[Bool.not_true,Bool.not_false,cond_true,cond_false,Bool.true_or,Bool.true_and,Bool.false_or] at*;exact i _ rfl
    rw[bx cz] at*;simp only[Bool.not_false,cond_true,Bool.false_or] at*;cases I:hv e.index with
    |false=>exact i _ (by rw[I];rfl)
    |true=>
     by_cases ei:e.kind=3
     ·rw[bA ei] at*;exact i _ (by rw[I];rfl)
     rw[bx ei] at*;exact i _ (by rw[I];rfl)
   rw[bx o] at*;exact i _ rfl
  subst m;cases s:w8 e with
  |false=>
   refine ab.some ⟨?_,λh=>by cases h⟩
   have:ej e d=false:=by
    unfold w8 at s;unfold ej;by_cases cz:e.kind=2
    ·have ev: ¬e.kind=1:=O
     have ei: ¬e.kind=3:=O
     rw[a1 cz];rw[bA cz,bx ev,bx ei] at s;revert s;cases decide (e.num=0)<;>cases jO e.read<;>simp
    rw[aY cz];by_cases ei:e.kind=3
    ·have ev: ¬e.kind=1:=O
     rw[a1 ei];rw[bx cz,bx ev,bA ei] at s;revert s;cases decide (e.num=0)<;>cases hv e.index<;>simp
    rw[aY ei];rw[bx cz,bx ei] at s;by_cases ev:e.kind=1
    ·rw[a1 ev];rw[bA ev] at s;revert s;cases hv e.index<;>cases jO e.read<;>simp
    rw[aY ev];rw[bx ev] at s;revert s;cases decide (e.num=0)<;>cases hv e.index<;>cases jO e.read<;>simp
   unfold dD;rw[this];simp
  |true=>
   refine b3 ?_;unfold w8 at s;simp only[Bool.and_eq_true,Bool.or_eq_true,decide_eq_true_eq] at s;obtain⟨ya,u,Q⟩:=s;have p: ∀(b:Bool),ej e d=b->fv e.kind=0-> ∀(z:Bool),z=(b&&decide ((e.bm.length:Int)=0))->z=(dD (L+1) e d&&decide (c+dB (L+1) e<=12))/\(z=true->c+1=c+dB (L+1) e):=by
    intro b a' F z m;unfold dD;rw[a',F];by_cases h:e.bm.length=0
    ·have C:e.bm=[]:=kQ h;have G:dB (L+1) e=1:=by simp[dB,C]
     rw[G,bA (O:c+1<=12)];rw[bA (show(e.bm.length:Int)=0 by omega)] at m;rw[m,C];simp
    rw[bx (show¬(e.bm.length:Int)=0 by omega)] at m;rw[m,bx (show¬(0:Int)=(e.bm.length:Int) by omega)];simp
   by_cases ev:e.kind=1
   ·have cz: ¬e.kind=2:=O
    have ei: ¬e.kind=3:=O
    rw[bA ev];have l:ej e d=decide (0<=e.num/\e.num<=99):=by
     unfold ej;rw[aY cz,aY ei,a1 ev];rcases u with h|h
     ·exact bB h cz
     rcases Q with A|A
     ·exact bB A ei
     rw[h,A];simp
    refine bS (ab.aA (λz=>z=(decide (0<=e.num/\e.num<=99)&&decide ((e.bm.length:Int)=0))) (λj i=>ag (d6 n _ _ _) ?_) λz m=>ab.some ?_)
    ·cases y:decide (0<=e.num/\e.num<=99) with
     |true=>exact i _ (by rw[y];rfl)
     |false=>exact i _ (by rw[y];rfl)
    exact p _ l (by unfold fv;rw[a1 (Or.inl ev)]) _ m
   rw[bx ev];refine b3 ?_;have o:e.num=0:=by
    rcases ya with h|h
    ·exact bB h ev
    exact h
   by_cases cz:e.kind=2
   ·have ei: ¬e.kind=3:=O
    rw[bA cz];have l:ej e d=eU e.index d:=by
     unfold ej;rw[a1 cz,bA o];rcases Q with A|A
     ·exact bB A ei
     rw[A];simp
    refine bS (ab.aA (λz=>z=(eU e.index d&&decide ((e.bm.length:Int)=0))) (λj i=>ag (Rk O _ f) ?_) λz m=>ab.some ?_)
    ·unfold eU at i;cases y:cP e.index with
     |false=>exact i _ (by rw[y];rfl)
     |true=>
      refine ag (y3 O f) (aP (λh=>i _ ?_) λh=>i _ ?_)
      ·rw[y,bA h];rfl
      rw[y,bx h];rfl
    exact p _ l (by unfold fv;rw[a1 (Or.inr (Or.inl cz))]) _ m
   rw[bx cz];refine b3 ?_;have B:hv e.index=true:=by
    rcases u with h|h
    ·exact bB h cz
    exact h
   by_cases ei:e.kind=3
   ·rw[bA ei];have l:ej e d=fX e.read d:=by
     unfold ej;rw[aY cz,a1 ei,bA o,B];simp
    refine bS (ab.aA (λz=>z=(fX e.read d&&decide ((e.bm.length:Int)=0))) (λj i=>ag (JJ O S d) ?_) λz m=>ab.some ?_)
    ·cases y:fX e.read d with
     |false=>exact i _ (by rw[y];rfl)
     |true=>exact i _ (by rw[y];rfl)
    exact p _ l (by unfold fv;rw[a1 (Or.inr (Or.inr ei))]) _ m
   rw[bx ei];refine b3 ?_;have l:ej e d=true:=by
    unfold ej;rw[aY cz,aY ei,aY ev,bA o,B];rcases Q with A|A
    ·exact bB A ei
    rw[A];rfl
   have R:rD n e.kind=some (decide (4<=e.kind/\e.kind<=6)):=by unfold rD;rw[d6];rfl
   have H:(fv e.kind=2↔(4<=e.kind/\e.kind<=6))/\(fv e.kind=2\/fv e.kind= -1):=by
    unfold fv;rw[aY O];split<;>omega
   refine ab.aA (λz=>z= !(decide (4<=e.kind/\e.kind<=6)&&decide ((e.bm.length:Int)=2))) (λj i=>ag R ?_) λz m=>?_
   ·cases y:decide (4<=e.kind/\e.kind<=6) with
    |false=>exact i _ (by rw[y];rfl)
    |true=>exact i _ (by rw[y];rfl)
   subst m;by_cases F:(4<=e.kind/\e.kind<=6)/\(e.bm.length:Int)=2
   ·rw[bA F.1,bA F.2];refine b3 ?_;obtain⟨a,b,w⟩: ∃a b,e.bm=[a,b]:=by
     have:e.bm.length=2:=O
     match dj:e.bm,this with
     | [a,b],_=>exact⟨a,b,rfl⟩
    have U:dD (L+1) e d=(dD L a d&&dD L b d):=by
     show(decide (fv e.kind=e.bm.length)&&(ej e d&&e.bm.all λk=>dD L k d))=_;rw[l,w,bA (show fv e.kind=(([a,b]:List Expr).length:Int) by rw[H.1.2 F.1];rfl)];simp
    have G:dB (L+1) e=1+(dB L a+dB L b):=by simp[dB,w]
    have ahB:=re L a;have ahC:=re L b;rw[U,G];obtain⟨n,rfl⟩: ∃j,n=j+1:=⟨n-1,O⟩
    refine ab.aA (λz:Int×Bool=>z.2=(dD L a d&&dD L b d&&decide (c+(1+(dB L a+dB L b))<=12))/\(z.2=true->z.1=c+(1+(dB L a+dB L b)))) (λj i=>?_) λz m=>ab.some m;refine ag (x:=a) (by rw[w];rfl) (cb (Ja d L n a (c+1) O O (t a (by rw[w];simp)) O O) λr ⟨D,W⟩=>?_);cases X:r.1 with
    |false=>
     refine i _ ⟨?_,λh=>by cases h⟩;rw[X] at D;show false=_;by_cases K:dD L a d=true
     ·rw[K,ff] at D
      have:=of_decide_eq_false D.symm;rw[bx (show¬c+(1+(dB L a+dB L b))<=12 by omega),jv]
     rw[Bool.eq_false_iff.2 K];rfl
    |true=>
     have W:=W X;rw[X] at D;have D:=D.symm;rw[oN,decide_eq_true_eq] at D;refine ag (x:=b) (by rw[w];rfl) ?_;rw[W];refine cb (Ja d L n b (c+1+dB L a) O O (t b (by rw[w];simp)) O O) λq ⟨lp,q2⟩=>i _ ⟨?_,λh=>?_⟩
     ·show q.1=_;rw[lp,D.1,ff];congr 1;exact decide_eq_decide.2 O
     show q.2=_;rw[q2 h];omega
   have ij:dD (L+1) e d=false:=by
    unfold dD;rw[bx (show¬fv e.kind=(e.bm.length:Int) by
     intro h;rcases H.2 with v|v
     ·exact F ⟨H.1.1 v,O⟩
     omega)]
    rfl
   have:(decide (4<=e.kind/\e.kind<=6)&&decide ((e.bm.length:Int)=2))=false:=by
    by_cases g:4<=e.kind/\e.kind<=6
    ·rw[bx (show¬(e.bm.length:Int)=2 from λh=>F ⟨g,h⟩),jv]
    rw[bx g];rfl
   rw[this,ij];exact ab.some ⟨rfl,λh=>by cases h⟩
def er(s:Stmt)(d:Int):Bool:=decide (0<=d/\d<=4)&&(fX s.write d&&(dD 5 s.value d&&decide (dB 5 s.value<=12)))
def zO(s:Stmt):Prop:=ku s.write.bC/\wB 5 s.value
theorem SB(m:6000<=n)(h:zO s)(d:Int):v6 n s d=some (er s d):=by
 obtain⟨n,rfl⟩: ∃j,n=j+1:=⟨n-1,O⟩
 refine ab.eq ?_;unfold v6;generalize a:er s d=T;unfold er at a;refine ab.aA (λz:Int×Bool=>z.2=T) (λj c=>ag (d6 _ _ _ _) ?_) λz k=>ab.some k;cases e:decide (0<=d/\d<=4) with
 |false=>exact c (0,false) (by rw[<-a,e];rfl)
 |true=>
  refine bS (ag (JJ O h.1 d) ?_);cases i:fX s.write d with
  |false=>exact c (0,false) (by rw[<-a,e,i];rfl)
  |true=>
   refine bS (cb (Ja d 5 n s.value 0 O O h.2 O O) λr ⟨l,o⟩=>c _ ?_);rw[<-a,e,i];show r.1=_;rw[l];simp
theorem IX(o:6000<=n)(h:zO s)(d:Int):sC n s d=some (er s d):=by
 obtain⟨n,rfl⟩: ∃j,n=j+1:=⟨n-1,O⟩
 refine ab.eq ?_;unfold sC;generalize l:er s d=T;generalize a:(decide (0<=d/\d<=4)&&(fX s.write d&&dD 5 s.value d))=B;have c:T=(B&&decide (dB 5 s.value<=12)):=by rw[<-l,<-a];unfold er;simp only[Bool.and_assoc]
 refine ab.aA (λz=>z= !B) (λj e=>aP (λh=>e _ ?_) λp=>aP (λh=>e _ ?_) λq=>ag (JG O h.1 d) ?_) λz m=>?_
 ·rw[<-a,bx (show¬(0<=d/\d<=4) by omega)];rfl
 ·rw[<-a,bx (show¬(0<=d/\d<=4) by omega)];rfl
 ·rw[bA (O:0<=d/\d<=4)] at a;cases k:fX s.write d with
  |false=>exact bS (e _ (by rw[<-a,k];rfl))
  |true=>exact b3 (ag (J6 d 5 n s.value O O h.2) (e _ (by rw[<-a,k];rfl)))
 subst m;cases i:B with
 |false=>exact ab.some (by rw[c,i];rfl)
 |true=>
  rw[i] at a;simp only[Bool.and_eq_true] at a;refine b3 (ag (J7 (d:=d) 5 n s.value O O a.2.2) (ab.some ?_));rw[c,i];rfl
def kd(a:List Int):Bool:=decide (1<=a.length/\a.length<=2)&&a.all λd=>decide (1<=d/\d<=6)
def ry(a:List ch)(i:Nat)(x:ch):Bool:=match i with
 |0=>true
 |i+1=>match a[i]? with
  |some y=>Op.bytesLess y.name x.name
  |none=>false
def nX(a:List ch)(i:Nat)(x:ch):Bool:=nG x.name&&(ry a i x&&kd x.bT)
def jL(a:List ch):Bool:=wX (nX a) a&&decide (a.length<=4)
def En(a:List ch):Prop:=a.length<=1000/\ ∀x∈a,x.bT.length<=1000
theorem Kv{x y:ch}(h:r[i]? =some y):ry r (i+1) x=Op.bytesLess y.name x.name:=by simp only[ry,h]
theorem Zk(a:List Int):(a.any λd=> !decide (1<=d/\d<=6))= !(a.all λd=>decide (1<=d/\d<=6)):=by rw[te];simp
theorem TG(U:6000<=n){w:List ch}(h:En w):y4 n w=some (jL w):=by
 obtain⟨W,I⟩:=h;refine ab.eq ?_;unfold y4;refine pK (l:=w) (p:=nX w) O O (λa i x m s y=>?_) (λa o=>?_) (λ⟨i,x,m,A⟩=>?_)
 ·have aH:=(bR.1 m).1;have hm:=I x (bE m);rw[bA (show(i:Int)<(w.length:Int) by omega)];have K:ob n x.bT (λB=>qw n B)=some (!(x.bT.all λd=>decide (1<=d/\d<=6))):=by
   rw[<-Zk];exact C6 (λd _=>by unfold qw;rw[d6];rfl) O O
  refine bS (ag (bk m) (ab.aA (λz=>z= !nX w i x) (λj k=>ag (J2 n _) ?_) λz L=>?_))
  ·unfold nX kd at k;cases C:nG x.name with
   |false=>exact bS (k _ (by rw[C];rfl))
   |true=>
    rw[C] at k;refine b3 ?_;rw[DU];have c:ry w i x=true->ab (Option.bind (some (decide (1<=x.bT.length/\x.bT.length<=2))) λQ=>bif !Q then j true else Option.bind (ob n x.bT λB=>qw n B) λR=>j R) (λr=>r=jL w):=by
     intro A;rw[A] at k;show ab (bif _ then _ else _) _;cases D:decide (1<=x.bT.length/\x.bT.length<=2) with
     |false=>exact bS (k _ (by rw[D];rfl))
     |true=>exact b3 (ag K (k _ (by rw[D];rfl)))
    cases i with
    |zero=>exact aP (λh=>bB h (by decide)) (λ_=>c rfl)
    |succ i=>
     have F:=br (O:i<w.length);have e:wr (((i+1:Nat):Int)-1)=(i:Int):=by rw[be O];omega
     rw[e];refine aP (λ_=>ag (bk F) ?_) λh=>bB (show(0:Int)<((i+1:Nat):Int) by omega) h;have q:=Kv (x:=x) F;cases G:Op.bytesLess w[i].name x.name with
     |false=>exact bS (k _ (by rw[q,G];rfl))
     |true=>exact b3 (c (by rw[q,G]))
  subst L;cases H:nX w i x with
  |true=>show ab (a _) _;rw[be O];exact s H
  |false=>exact ab.some (y H)
 ·rw[bx (show¬(w.length:Int)<(w.length:Int) by omega)];refine ab.some ?_;unfold jL;rw[Ds o,ff];exact decide_eq_decide.2 O
 unfold jL;rw[CT m A];rfl
theorem YE(s:List UInt8):(!Op.bytesLess s [68]&& !s==[68])= !(Op.bytesLess s [68]||s==[68]):=by cases Op.bytesLess s [68]<;>cases (s==[68])<;>rfl
theorem Ts(V:6000<=n){a:List ch}(h:En a):DJ n a=some (jL a):=by
 obtain⟨h0,f⟩:=h;refine ab.eq ?_;unfold DJ;refine pK (l:=a) (p:=nX a) O O (λq i x w H A=>?_) (λq B=>?_) (λ⟨i,x,w,I⟩=>?_)
 ·have aH:=(bR.1 w).1;have hm:=f x (bE w);rw[bA (show(i:Int)<(a.length:Int) by omega)];refine bS (ag (bk w) (ab.aA (λz=>z= !(nG x.name&&(ry a i x&&decide (1<=x.bT.length/\x.bT.length<=2)))) (λj c=>?_) λz K=>?_))
  ·refine eK (λg=>c _ ?_) λg=>?_
   ·rw[Es O];rfl
   obtain⟨b,o⟩:=G2 (O:x.name.length=1);rw[YE];have L: ∀(y:ch),Op.bytesLess y.name x.name=Op.bytesLess y.name [b]:=λy=>by rw[o]
   have Q:nG x.name=decide (65<=b.toNat/\b.toNat<=68):=by rw[o];rfl
   have u:Op.bytesLess x.name [65]=decide (b.toNat<65):=by rw[o];exact KL b
   have v:(Op.bytesLess x.name [68]||x.name==[68])=decide (b.toNat<=68):=by rw[o];exact KK b
   rw[u,v];rw[Q] at c;refine aP (λE=>c _ ?_) λE=>eK (λM=>c _ ?_) λM=>?_
   ·rw[bx (show¬(65<=b.toNat/\b.toNat<=68) by omega)];rfl
   ·rw[bx (show¬(65<=b.toNat/\b.toNat<=68) by omega)];rfl
   rw[bA (O:65<=b.toNat/\b.toNat<=68)] at c;have m:ry a i x=true->ab (bif decide ((x.bT.length:Int)<1) then j true else j (decide ((2:Int)<(x.bT.length:Int)))) (λr=>r=jL a):=by
    intro I;rw[I] at c;refine aP (λh=>c _ ?_) λh=>c _ ?_
    ·rw[bx (show¬(1<=x.bT.length/\x.bT.length<=2) by omega)];rfl
    by_cases h2:x.bT.length<=2
    ·rw[bx (show¬(2:Int)<(x.bT.length:Int) by omega),bA (O:1<=x.bT.length/\x.bT.length<=2)];rfl
    rw[bA (show(2:Int)<(x.bT.length:Int) by omega),bx (show¬(1<=x.bT.length/\x.bT.length<=2) by omega)];rfl
   cases i with
   |zero=>exact aP (λh=>bB h (by decide)) (λ_=>m rfl)
   |succ i=>
    have W:=br (O:i<a.length);have e:wr (((i+1:Nat):Int)-1)=(i:Int):=by rw[be O];omega
    rw[e];refine aP (λ_=>ag (bk W) ?_) λh=>bB (show(0:Int)<((i+1:Nat):Int) by omega) h;have C:=Kv (x:=x) W;cases X:Op.bytesLess a[i].name x.name with
    |false=>exact bS (c _ (by rw[C,X];rfl))
    |true=>exact b3 (m (by rw[C,X]))
  subst K;cases o:(nG x.name&&(ry a i x&&decide (1<=x.bT.length/\x.bT.length<=2))) with
  |false=>
   refine ab.some (A ?_);unfold nX kd;rw[<-l7,<-l7];rw[<-l7] at o;rw[o];rfl
  |true=>
   have D:nX a i x=x.bT.all (λd=>decide (1<=d/\d<=6)):=by
    unfold nX kd;rw[<-l7,<-l7];rw[<-l7] at o;rw[o];rfl
   refine b3 ?_;refine ab.loop (λy:Int=> ∃k:Nat,y=k/\k<=x.bT.length/\ ∀(t:Nat) d,t<k->x.bT[t]? =some d->decide (1<=d/\d<=6)=true) (λy=>x.bT.length-y.toNat) ?_ n _ ⟨0,rfl,O,λt d h=>O⟩ bQ;rintro G y ⟨k,rfl,hk,Y⟩ N;refine aP (λP=>?_) λS=>?_
   ·have cv:=br (O:k<x.bT.length);have T:wr ((k:Int)+1)=((k+1:Nat):Int):=by rw[be O];omega
    refine ab.aA (λz=>z= !decide (1<=x.bT[k]/\x.bT[k]<=6)) (λj c=>ag (bk cv) (aP (λh=>c _ ?_) λh=>c _ ?_)) λz K=>?_
    ·rw[bx O];rfl
    ·by_cases h6:x.bT[k]<=6
     ·rw[bx (show¬(6:Int)<x.bT[k] by omega),bA (O:1<=x.bT[k]/\x.bT[k]<=6)];rfl
     rw[bA (show(6:Int)<x.bT[k] by omega),bx (show¬(1<=x.bT[k]/\x.bT[k]<=6) by omega)];rfl
    subst K;cases F:decide (1<=x.bT[k]/\x.bT[k]<=6) with
    |false=>
     refine ab.some (A ?_);rw[D];exact ju.2 ⟨_,bE cv,by rw[F];simp⟩
    |true=>
     rw[T];refine N _ ⟨k+1,rfl,O,λt d R s=>?_⟩ O;by_cases U:t=k
     ·subst U;rw[cv] at s;cases s;exact F
     exact Y t d O s
   have e:wr ((i:Int)+1)=(i:Int)+1:=be O;rw[e];refine H ?_;rw[D];refine fB.2 λd cv=>?_;obtain⟨t,R⟩:=ls cv
   have:=(bR.1 R).1;exact Y t d O R
 ·rw[bx (show¬(a.length:Int)<(a.length:Int) by omega)];refine ab.some ?_;unfold jL;rw[Ds B,ff];exact decide_eq_decide.2 O
 unfold jL;rw[CT w I];rfl
def hd:List Int->Int
 | []=>1
 |d::a=>d*hd a
theorem GI{d:List Int}(h:kd d=true):(∃a,d=[a]/\1<=a/\a<=6)\/ ∃a b,d=[a,b]/\(1<=a/\a<=6)/\1<=b/\b<=6:=by
 simp only[kd,Bool.and_eq_true,decide_eq_true_eq,List.all_eq_true] at h;obtain⟨⟨e,i⟩,c⟩:=h
 match d,e,i,c with
 | [a],_,_,c=>exact .inl ⟨a,rfl,c a aV⟩
 | [a,b],_,_,c=>exact .inr ⟨a,b,rfl,c a aV,c b aV⟩
theorem OX{a b:Int}(c:1<=a/\a<=6)(d:1<=b/\b<=6):1<=a*b/\a*b<=36:=by
 constructor
 ·have:=q6 c.1 d.1 O O;omega
 have:=q6 c.2 d.2 O O;omega
theorem rH{d:List Int}(h:kd d=true):1<=hd d/\hd d<=36:=by
 rcases GI h with ⟨a,rfl,c⟩|⟨a,b,rfl,c,e⟩
 ·simp[hd];omega
 have:=OX c e;simp[hd];omega
theorem D5(l:6000<=n){x:ch}(h:kd x.bT=true):wg n x=some (hd x.bT):=by
 obtain⟨n,rfl⟩: ∃j,n=j+3:=⟨n-3,O⟩
 unfold wg;rcases GI h with ⟨a,e,d⟩|⟨a,b,e,d,i⟩
 ·rw[e];have c:wr a=a:=be O;simp[bp,au,hd,c,show wr 1=1 from be O]
 rw[e]
 have:=OX d i;have c:wr a=a:=be O;have k:wr (a*b)=a*b:=be O;simp[bp,au,hd,c,k,show wr 1=1 from be O,show wr 2=2 from be O]
theorem WY(a:6000<=n){x:ch}(h:kd x.bT=true):C4 n x=some (hd x.bT):=D5 a h
def hJ:List ay->List Int->List Int->Int->Int
 |s::c,d::e,p,a=>if 0<=fW s p/\fW s p<d then hJ c e p (a*d+fW s p) else-1
 |_,_,_,a=>a
def eD:List ch->bZ->List Int->Int->Int
 | [],_,_,_=> -1
 |x::d,a,p,c=>if x.name=a.array then(if a.bC.length=x.bT.length then(if hJ a.bC x.bT p 0<0 then-1 else c+hJ a.bC x.bT p 0) else-1) else eD d a p (c+hd x.bT)
def kH(a:List ch):Prop:= ∀x∈a,kd x.bT=true
theorem abj{d:List Int}(e:kd d=true){l:List ay}(c:l.length=d.length)(p:List Int):hJ l d p 0= -1\/(0<=hJ l d p 0/\hJ l d p 0<hd d):=by
 rcases GI e with ⟨a,rfl,h⟩|⟨a,b,rfl,h,k⟩
 ·match l,c with
  | [s],_=>
   simp only[hJ,hd,Int.zero_mul,Int.zero_add,Int.mul_one];split<;>omega
 match l,c with
 | [s,t],_=>
  simp only[hJ,hd,Int.zero_mul,Int.zero_add,Int.mul_one];split
  ·rename_i i;split
   ·rename_i m;refine .inr ⟨?_,?_⟩
    ·have:=mW i.1 (O:0<=b);omega
    have:=Int.mul_le_mul_of_nonneg_right (O:fW s p<=a-1) (O:0<=b);rw[Int.sub_mul] at this;omega
   exact .inl rfl
  exact .inl rfl
def gd(a:List ch):Int:=(a.map λx=>hd x.bT).sum
theorem Nz: ∀{xs:List ch},kH xs-> ∀(a:bZ) (p:List Int) (c:Int),0<=c->eD xs a p c= -1\/(c<=eD xs a p c/\eD xs a p c<c+gd xs)
 | [],_,a,p,c,_=> .inl rfl
 |x::xs,k,a,p,c,n=>by
  have l:=k x aV;have hs:=rH l;have d:kH xs:=λy i=>k y (by simp[i]);have o:0<=gd xs:=by
   have:=nC (λx:ch=>hd x.bT) xs λy i=>(rH (d y i)).1;unfold gd;omega
  have e:gd (x::xs)=hd x.bT+gd xs:=by simp[gd]
  rw[e];simp only[eD];split
  ·split
   ·rename_i m;rcases abj l m p with h|h
    ·rw[a1 O];exact .inl rfl
    rw[aY O];exact .inr ⟨O,O⟩
   exact .inl rfl
  rcases Nz d a p (c+hd x.bT) O with h|h
  ·exact .inl h
  exact .inr ⟨O,O⟩
theorem mY(h:fX a d=true):1<=a.bC.length/\a.bC.length<=2/\ ∀x∈a.bC,cP x=true:=by
 simp only[fX,Bool.and_eq_true,decide_eq_true_eq,List.all_eq_true] at h;refine⟨h.2.2.1,h.2.2.2,λx c=>?_⟩
 have:=h.1 x c;simp only[eU,Bool.and_eq_true] at this;exact this.1
theorem j6{k:Type}{l:List k}{x:k}(h:l[i]? =some x):l.drop i=x::l.drop (i+1):=by obtain⟨a,c⟩:=bR.1 h;rw[lr a,c]
theorem M8{a v:Int}(c:0<=a/\a<=36)(e:1<=d/\d<=6)(h:0<=v/\v<d):0<=a*d/\a*d<=216/\0<=a*d+v:=by have i:=mW c.1 (O:0<=d);have k:=q6 c.2 e.2 O O;omega
theorem YS(t:6000<=n)(u:a.bC.length<=2)(W: ∀x∈a.bC,cP x=true){e:List Int}(Q:kd e=true)(v:a.bC.length=e.length){p:List Int}(X:h' k p)(c:Int)(E:0<=c/\c<=1000000):
  bp (λl ((R,B):Int×Int)=>bif decide (B<(a.bC.length:Int)) then(Option.bind (au a.bC B) λY=>Option.bind (od n Y p) λr=>Option.bind (au e B) λs=>Option.bind (fl n r 0 (wr (s-1))) λC=>bif !C then(some (-1)) else(l (wr ((wr (R*s))+r),wr (B+1)))) else(some (wr (c+R)))) n (0,0)
   =some (if hJ a.bC e p 0<0 then-1 else c+hJ a.bC e p 0):=by
 have D: ∀d∈e,1<=d/\d<=6:=by
  simp only[kd,Bool.and_eq_true,decide_eq_true_eq,List.all_eq_true] at Q;exact λd h=>Q.2 d h
 refine ab.eq ?_;refine ab.loop (λx:Int×Int=> ∃i:Nat,x.2=i/\i<=a.bC.length/\0<=x.1/\x.1<=36*i/\(i=0->x.1=0)/\(i=1->x.1<=5)/\hJ a.bC e p 0=hJ (a.bC.drop i) (e.drop i) p x.1) (λx=>a.bC.length-x.2.toNat) ?_ n _ ⟨0,rfl,O,aV,aV,λ_=>rfl,λh=>O,rfl⟩ bQ;rintro F ⟨x,z⟩ ⟨i,U,M,G,H,o,w,m⟩ b;dsimp only at U G H o w m⊢;subst U;refine aP (λf=>?_) λg=>ab.some ?_
 ·have hs:=br (O:i<a.bC.length);have q:=br (O:i<e.length);have y:=D _ (bE q);have j:wr (e[i]-1)=e[i]-1:=be O;rw[j6 hs,j6 q] at m;simp only[hJ] at m;refine ag (bk hs) (ag (xc O (W _ (bE hs)) X) (ag (bk q) (ag (d6 _ _ _ _) ?_)));rw[j];by_cases I:0<=fW a.bC[i] p/\fW a.bC[i] p<e[i]
  ·rw[a1 I] at m;rw[bA (O:0<=fW a.bC[i] p/\fW a.bC[i] p<=e[i]-1)];obtain⟨N,P,S⟩:=M8 (a:=x) O y I;refine b3 ?_;rw[be (n:=x*e[i]) O,be (n:=x*e[i]+fW a.bC[i] p) O,be O];have A:i=0\/i=1:=O
   refine b _ ⟨i+1,Z,O,Z,?_,λh=>O,λh=>?_,m⟩ Z
   ·dsimp only;rcases A with rfl|rfl
    ·rw[o rfl];omega
    have:=w rfl
    have:=q6 this y.2 O O;omega
   dsimp only
   have:i=0:=O
   subst this;rw[o rfl];omega
  rw[aY I] at m;rw[bx (show¬(0<=fW a.bC[i] p/\fW a.bC[i] p<=e[i]-1) by omega)];refine bS (ab.some ?_);rw[m];rfl
 have K:i=a.bC.length:=O
 have L:hJ (a.bC.drop i) (e.drop i) p x=x:=by
  rw[K,nI];unfold hJ;rfl
 rw[L] at m;rw[m,aY O,be O]
theorem X7(M:6000<=n)(N:1<=a.bC.length)(P:a.bC.length<=2)(f: ∀x∈a.bC,cP x=true){c:List Int}(W:kd c=true){p:List Int}(g:h' k p)(e:Int)(S:0<=e/\e<=1000000):
  bp (λl ((X,w):Int×Int)=>bif decide (w<(a.bC.length:Int)) then(bif !decide ((a.bC.length:Int)=(c.length:Int)) then(some (-1)) else(Option.bind (au a.bC w) λt=>Option.bind (m9 n t p) λr=>aA (fun(F:Bool)=>bif F then(some (-1)) else(Option.bind (au c w) λG=>l (wr ((wr (X*G))+r),wr (w+1)))) λy=>bif decide (r<0) then(y true) else(Option.bind (au c w) λH=>y (decide (H<=r))))) else(some (wr (e+X)))) n (0,0)
   =some (if a.bC.length=c.length then(if hJ a.bC c p 0<0 then-1 else e+hJ a.bC c p 0) else-1):=by
 by_cases Y:a.bC.length=c.length
 ·rw[a1 Y];rw[bA (show(a.bC.length:Int)=(c.length:Int) by omega)];have I: ∀d∈c,1<=d/\d<=6:=by
   simp only[kd,Bool.and_eq_true,decide_eq_true_eq,List.all_eq_true] at W;exact λd h=>W.2 d h
  refine ab.eq ?_;refine ab.loop (λx:Int×Int=> ∃i:Nat,x.2=i/\i<=a.bC.length/\0<=x.1/\x.1<=36*i/\(i=0->x.1=0)/\(i=1->x.1<=5)/\hJ a.bC c p 0=hJ (a.bC.drop i) (c.drop i) p x.1) (λx=>a.bC.length-x.2.toNat) ?_ n _ ⟨0,rfl,O,aV,aV,λ_=>rfl,λh=>O,rfl⟩ bQ;rintro K ⟨x,z⟩ ⟨i,D,T,L,Q,s,A,m⟩ u;dsimp only at D L Q s A m⊢;subst D;refine aP (λv=>?_) λE=>ab.some ?_
  ·have hs:=br (O:i<a.bC.length);have o:=br (O:i<c.length);have B:=I _ (bE o);rw[j6 hs,j6 o] at m;simp only[hJ] at m;refine b3 (ag (bk hs) (ag (xa O (f _ (bE hs)) g) (ab.aA (λz=>z= !decide (0<=fW a.bC[i] p/\fW a.bC[i] p<c[i])) (λj b=>aP (λh=>b _ ?_) λh=>ag (bk o) (b _ ?_)) λz D=>?_)))
   ·rw[bx O];rfl
   ·by_cases q:c[i]<=fW a.bC[i] p
    ·rw[bA q,bx O];rfl
    rw[bx q,bA O];rfl
   subst D;by_cases q:0<=fW a.bC[i] p/\fW a.bC[i] p<c[i]
   ·rw[a1 q] at m;rw[bA q];obtain⟨V,g2,g3⟩:=M8 (a:=x) O B q;refine b3 (ag (bk o) ?_);rw[be (n:=x*c[i]) O,be (n:=x*c[i]+fW a.bC[i] p) O,be O];have C:i=0\/i=1:=O
    refine u _ ⟨i+1,Z,O,Z,?_,λh=>O,λh=>?_,m⟩ Z
    ·dsimp only;rcases C with rfl|rfl
     ·rw[s rfl];omega
     have:=A rfl
     have:=q6 this B.2 O O;omega
    dsimp only
    have:i=0:=O
    subst this;rw[s rfl];omega
   rw[aY q] at m;rw[bx q];refine bS (ab.some ?_);rw[m];rfl
  have R:i=a.bC.length:=O
  have U:hJ (a.bC.drop i) (c.drop i) p x=x:=by
   rw[R,nI];unfold hJ;rfl
  rw[U] at m;rw[m,aY O,be O]
 rw[aY Y,bx (show¬(a.bC.length:Int)=(c.length:Int) by omega)];obtain⟨n,rfl⟩: ∃j,n=j+1:=⟨n-1,O⟩
 simp only[bp];rw[bA (show(0:Int)<(a.bC.length:Int) by omega)];rfl
theorem zC(y:6000<=n)(L:p.aR.length<=4)(B:kH p.aR)(C:fX a d=true)(D:h' k q):r' n p a q=some (eD p.aR a q 0):=by
 obtain⟨a0,aJ,a2⟩:=mY C;refine ab.eq ?_;unfold r';refine ab.loop (λx:Int×Int=> ∃i:Nat,x.2=i/\i<=p.aR.length/\0<=x.1/\x.1<=36*i/\eD p.aR a q 0=eD (p.aR.drop i) a q x.1) (λx=>p.aR.length-x.2.toNat) ?_ n _ ⟨0,rfl,O,aV,aV,rfl⟩ bQ;rintro m ⟨x,z⟩ ⟨i,A,Q,o,r,c⟩ F;dsimp only at A o r c⊢;subst A;refine aP (λG=>?_) λH=>ab.some ?_
 ·have s:=br (O:i<p.aR.length);have h:=B _ (bE s);have k':=rH h;rw[j6 s] at c;simp only[eD] at c;refine ag (bk s) (eK (λl=>?_) λI=>?_)
  ·rw[aY l] at c;refine ag (WY y h) ?_;rw[be (n:=x+hd p.aR[i].bT) O,be O];exact F _ ⟨i+1,Z,O,Z,Z,c⟩ Z
  rw[a1 I] at c;refine eK (λl=>ab.some ?_) λK=>?_
  ·rw[c,aY O]
  have e:a.bC.length=p.aR[i].bT.length:=O
  rw[a1 e] at c;exact ab.of (YS y aJ a2 h e D x O) c.symm
 have w:i=p.aR.length:=O
 rw[c,w,nI];rfl
theorem L1(w:6000<=n)(I:r.length<=4)(A:kH r)(B:fX a d=true)(C:h' k q):wh n r a q=some (eD r a q 0):=by
 obtain⟨a0,aJ,a2⟩:=mY B;refine ab.eq ?_;unfold wh;refine ab.loop (λx:Int×Int=> ∃i:Nat,x.2=i/\i<=r.length/\0<=x.1/\x.1<=36*i/\eD r a q 0=eD (r.drop i) a q x.1) (λx=>r.length-x.2.toNat) ?_ n _ ⟨0,rfl,O,aV,aV,rfl⟩ bQ;rintro h ⟨x,z⟩ ⟨i,y,K,l,m,c⟩ D;dsimp only at y l m c⊢;subst y;refine aP (λF=>?_) λG=>ab.some ?_
 ·have o:=br (O:i<r.length);have e:=A _ (bE o);have k':=rH e;rw[j6 o] at c;simp only[eD] at c;refine ag (bk o) (eK (λp=>?_) λH=>?_)
  ·rw[aY p] at c;refine ag (D5 w e) ?_;rw[be (n:=x+hd r[i].bT) O,be O];exact D _ ⟨i+1,Z,O,Z,Z,c⟩ Z
  rw[a1 H] at c;exact ab.of (X7 w a0 aJ a2 e C x O) c.symm
 have s:i=r.length:=O
 rw[c,s,nI];rfl
def dX:Nat->Expr->List bZ
 |0,_=>[]
 |L+1,e=>(if e.kind=3 then [e.read] else [])++e.bm.flatMap (dX L)
theorem E1{d:Int}: ∀{L:Nat} {e:Expr},dD L e d=true-> ∀a∈dX L e,fX a d=true
 |0,e,h,a,c=>by cases h
 |L+1,e,h,a,c=>by
  obtain⟨o,i,m⟩:=hi h;simp only[dX,List.mem_append,List.mem_flatMap] at c;rcases c with c|⟨k,n,c⟩
  ·split at c
   ·rename_i l;simp at c;subst c;unfold ej at i;rw[aY O,a1 l] at i;simp only[Bool.and_eq_true] at i;exact i.2.2
   simp at c
  exact E1 (m k n) a c
theorem zr: ∀(L:Nat) (e:Expr),((dX L e).length:Int)<=dB L e
 |0,e=>by simp[dX,dB]
 |L+1,e=>by
  have h: ∀(l:List Expr),((l.flatMap (dX L)).length:Int)<=(l.map (dB L)).sum:=by
   intro l;induction l with
   |nil=>simp
   |cons k l a=>
    have:=zr L k;simp only[List.flatMap_cons,List.length_append,List.map_cons,List.sum_cons];omega
  have:=h e.bm;simp only[dX,dB,List.length_append];split
  ·rw[mS];omega
  rw[List.length_nil];omega
theorem Ew{d:Int}: ∀(L n:Nat) (e:Expr),6000+L<=n->L<=5->dD L e d=true->qA (n+1) e=some (dX L e)
 |0,n,e,_,_,h=>by cases h
 |L+1,n,e,C,w,h=>by
  obtain⟨D,F,s⟩:=hi h;have y:=pw e.kind;unfold qA;refine ab.eq (aP (λc=>ab.some ?_) λm=>?_)
  ·have:e.bm=[]:=by
    have G:fv e.kind=0:=by unfold fv;rw[a1 (Or.inr (Or.inr c))]
    exact kQ O
   simp[dX,c,this]
  obtain⟨n,rfl⟩: ∃j,n=j+1:=⟨n-1,O⟩
  have o: ∀k∈e.bm,((dX L k).length:Int)<=100:=λk l=>by
   have H:=AZ (s k l);have I:(2:Int)^L<=40:=by
    match L,w with
    |0,_=>decide
    |1,_=>decide
    |2,_=>decide
    |3,_=>decide
    |4,_=>decide
   have:=zr L k;omega
  refine ab.loop (λx:List bZ×Int=> ∃i:Nat,x.2=i/\i<=e.bm.length/\x.1=(e.bm.take i).flatMap (dX L)/\(x.1.length:Int)<=100*i) (λx=>e.bm.length-x.2.toNat) ?_ (n+1) _ ⟨0,rfl,O,aV,aV⟩ bQ;rintro p ⟨x,k⟩ ⟨i,l,K,q,r⟩ z;dsimp only at l q r⊢;subst l;refine aP (λA=>?_) λB=>ab.some ?_
  ·have a:=br (O:i<e.bm.length);have hm:=bE a;have a':=o _ hm;refine ag (bk a) (ag (Ew (d:=d) L n _ O O (s _ hm)) (ag (cY O) ?_));rw[be O];refine z _ ⟨i+1,Z,O,?_,by dsimp only;rw[dE];omega⟩ Z;dsimp only;rw[en,a,oM,q];simp
  have:i=e.bm.length:=O
  rw[q,this,c6];simp[dX,m]
theorem y8(n:Nat){a:ay}(h:a.aT.length<=1000):qj n a=some a:=by
 unfold qj;refine ab.eq (aP (λd=>ab.some ?_) λd=>ag (nk _ h) (ab.some rfl));obtain⟨cs,c⟩:=a
 have:cs=[]:=kQ (by simpa using d);subst this;rfl
theorem yF(q:5000<=n)(h:ku a.bC):qk n a=some a:=by
 obtain⟨r,l⟩:=h;refine ab.eq ?_;unfold qk;refine ab.loop (λx:List ay×Int=> ∃i:Nat,x.2=i/\i<=a.bC.length/\x.1=a.bC.take i) (λx=>a.bC.length-x.2.toNat) ?_ n _ ⟨0,rfl,O,aV⟩ bQ;rintro d ⟨x,k⟩ ⟨i,e,s,c⟩ m;dsimp only at e c⊢;subst e;refine aP (λo=>?_) λp=>ab.some ?_
 ·have hs:=br (O:i<a.bC.length);have w:x.length=i:=by rw[c,cG];omega
  refine ag (bk hs) (ag (y8 n (l _ (bE hs))) (ag (cY bQ) ?_));rw[be O];refine m _ ⟨i+1,Z,O,?_⟩ Z;dsimp only;rw[en,hs,c];rfl
 have:i=a.bC.length:=O
 rw[c,this,c6]
theorem NG{l:List ay}(e:l.length<=2)(c: ∀a∈l,cP a=true):ku l:=⟨O,λa d=>by have:=(fu (c a d)).1;unfold jA;omega⟩
theorem KA{d:Int}: ∀(L n:Nat) (e:Expr) (out:List bZ),6000+L<=n->L<=5->dD L e d=true->(out.length:Int)<=1000+200*(6-(L:Int))->sV (n+1) out e=some (out++dX L e)
 |0,n,e,out,_,_,h,_=>by cases h
 |L+1,n,e,out,Q,B,h,R=>by
  obtain⟨U,W,w⟩:=hi h;have C:=pw e.kind;unfold sV;refine ab.eq (ab.aA (λz=>z=out++(if e.kind=3 then [e.read] else [])) (λj y=>aP (λa=>?_) λo=>y _ (by rw[aY o];simp)) λz A=>?_)
  ·have D:=E1 h e.read (by simp[dX,a]);obtain⟨_,F,G⟩:=mY D;exact ag (yF O (NG F G)) (ag (cY bQ) (y _ (by rw[a1 a])))
  subst A;obtain⟨n,rfl⟩: ∃j,n=j+1:=⟨n-1,O⟩
  by_cases a:e.kind=3
  ·have c:e.bm=[]:=by
    have A:fv e.kind=0:=by unfold fv;rw[a1 (Or.inr (Or.inr a))]
    exact kQ O
   rw[c];refine ab.some ?_;simp[dX,a,c]
  have p: ∀k∈e.bm,((dX L k).length:Int)<=100:=λk m=>by
   have X:=AZ (w k m);have Y:(2:Int)^L<=40:=by
    match L,B with
    |0,_=>decide
    |1,_=>decide
    |2,_=>decide
    |3,_=>decide
    |4,_=>decide
   have:=zr L k;omega
  rw[aY a,kS];refine ab.loop (λx:List bZ×Int=> ∃i:Nat,x.2=i/\i<=e.bm.length/\x.1=out++(e.bm.take i).flatMap (dX L)/\(x.1.length:Int)<=out.length+100*i) (λx=>e.bm.length-x.2.toNat) ?_ (n+1) _ ⟨0,rfl,O,aV,aV⟩ bQ;rintro q ⟨x,k⟩ ⟨i,m,b,r,s⟩ H;dsimp only at m r s⊢;subst m;refine aP (λI=>?_) λK=>ab.some ?_
  ·have l:=br (O:i<e.bm.length);have hm:=bE l;have a':=p _ hm;refine ag (bk l) (ag (KA (d:=d) L n _ x O O (w _ hm) O) ?_);rw[be O];refine H _ ⟨i+1,Z,O,?_,by dsimp only;rw[dE];omega⟩ Z;dsimp only;rw[en,l,oM,r];simp
  have:i=e.bm.length:=O
  rw[r,this,c6];simp[dX,a]
theorem N4{o:List Loop}(c:Fit o): ∀(bY:List Loop) (k:Nat) (p q:List Int),o.drop k=bY->k<=o.length->h' k p->q∈fp bY p->h' o.length q
 | [],k,p,q,d,h,e,a=>by
  have:=Ae d h;simp only[fp,List.mem_singleton] at a;subst a;subst this;exact e
 |l::bY,k,p,q,d,h,e,a=>by obtain⟨i,m,x⟩:=zF d;obtain⟨n,r⟩:=c.2 k l i;have s:=c.1;simp only[fp,List.mem_flatMap] at a;obtain⟨v,w,a⟩:=a;exact N4 c bY (k+1) _ q m O (AR n r e O (Zv.1 w)) a
theorem r1{o:List Loop}{z:List (List Int)}(h:jW o=some z):Fit o/\z.length<=120/\(∀q∈z,h' o.length q)/\z=fp o []/\fz o []<=1200:=by
 unfold jW at h;split at h
 ·rename_i a;cases h;have c:=A4 a.1;exact⟨c,a.2.2,λq d=>N4 c o 0 [] q rfl O yh d,rfl,a.2.1⟩
 cases h
def gO(c:List ch)(s:Stmt)(q:List Int):Bool:=decide (0<=eD c s.write q 0)&&(dX 5 s.value).all λa=>decide (0<=eD c a q 0)
theorem kI(h:er s d=true):fX s.write d=true/\dD 5 s.value d=true/\(∀a∈dX 5 s.value,fX a d=true)/\(dX 5 s.value).length<=12:=by
 simp only[er,Bool.and_eq_true,decide_eq_true_eq] at h;obtain⟨_,e,c,i⟩:=h
 have:=zr 5 s.value;exact⟨e,c,E1 c,O⟩
theorem UI(D:7000<=n)(e:p.aR.length<=4)(i:kH p.aR)(r:er s d=true)(m:h' k q):Cj n p s q=some (gO p.aR s q):=by
 obtain⟨w,x,y,F⟩:=kI r;obtain⟨n,rfl⟩: ∃j,n=j+1:=⟨n-1,O⟩
 refine ab.eq ?_;unfold Cj;generalize c:gO p.aR s q=T;unfold gO at c;refine ab.aA (λz=>z=T) (λj o=>ag (zC O e i w m) (aP (λh=>?_) λh=>o _ ?_)) λz A=>ab.some A
 ·have bP:=R9 (n:=n+1) (f:=λB=>xt (n+1) B p q) (p:=λa=>decide (eD p.aR a q 0<0)) (l:=dX 5 s.value)
   (λa C=>by unfold xt;rw[zC O e i (y a C) m];rfl) O O
  refine ag (Ew (d:=d) 5 n s.value O O x) (ag bP (o _ ?_));rw[<-c,bA h,ff,te];congr 1;apply congrArg λf=>List.any (dX 5 s.value) f;funext a;rw[Ce]
 rw[<-c,bx h];rfl
theorem J5(f:7000<=n)(D:r.length<=4)(F:kH r)(I:er s d=true)(G:h' k q):
  vp n r s q=some (if gO r s q=true then((dX 5 s.value).map λa=>eD r a q 0,eD r s.write q 0,true) else([],0,false)):=by
 obtain⟨K,L,Q,g⟩:=kI I;obtain⟨n,rfl⟩: ∃j,n=j+1:=⟨n-1,O⟩
 refine ab.eq ?_;unfold vp;refine ag (KA (d:=d) 5 n s.value [] O O L aV) ?_;rw[pN];generalize U:dX 5 s.value=R at*;have e:gO r s q=(decide (0<=eD r s.write q 0)&&R.all λa=>decide (0<=eD r a q 0)):=by unfold gO;rw[U]
 refine ab.loop (λx:List Int×Int=> ∃i:Nat,x.2=i/\i<=R.length/\x.1=(R.take i).map (λa=>eD r a q 0)/\ ∀(t:Nat) a,t<i->R[t]? =some a->0<=eD r a q 0) (λx=>R.length-x.2.toNat) ?_ (n+1) _ ⟨0,rfl,O,aV,λt a h=>O⟩ Z;rintro w ⟨x,z⟩ ⟨i,H,u,p,y⟩ W;dsimp only at H p y⊢;subst H;refine aP (λX=>?_) λY=>?_
 ·have bM:=br (O:i<R.length);have hm:=bE bM;refine ag (bk bM) (ag (L1 O D F (Q _ hm) G) (aP (λl=>ab.some ?_) λm=>?_))
  ·rw[aY];rw[e];intro h;rw[oN] at h
   have:=fB.1 h.2 _ hm;rw[decide_eq_true_eq] at this;omega
  have b:x.length<=12:=by rw[p,c5,cG];omega
  refine ag (cY bQ) ?_;rw[be O];refine W _ ⟨i+1,Z,O,?_,λt a A c=>?_⟩ Z
  ·dsimp only;rw[en,bM,f',p];rfl
  by_cases B:t=i
  ·subst B;rw[bM] at c;cases c;omega
  exact y t a O c
 have C:i=R.length:=O
 have o:R.all (λa=>decide (0<=eD r a q 0))=true:=fB.2 (λa hm=>by
  obtain⟨t,A⟩:=ls hm
  have:=(bR.1 A).1;exact bA (y t a O A))
 rw[e,o,Bool.and_true];refine ag (L1 O D F K G) (aP (λl=>ab.some ?_) λm=>ab.some ?_)
 ·rw[aY (by rw[decide_eq_true_eq];omega)]
 rw[a1 (by rw[decide_eq_true_eq];omega),p,C,c6]
def kg(q:List Int):Bool:=decide (q.length<=4)&&q.all λx=>decide (-9999<=x/\x<=9999)
theorem TT(c:5000<=n)(h:q.length<=1000):zB n q=some (kg q):=by
 unfold zB kg;have bP:=C6 (n:=n) (f:=λa=>ym n a) (p:=λx=> !decide (-9999<=x/\x<=9999)) (l:=q) (λx _=>by unfold ym;rw[d6];rfl) O O;simp only[aA,Option.bind];rw[bP];have e:(q.any λx=> !decide (-9999<=x/\x<=9999))= !(q.all λx=>decide (-9999<=x/\x<=9999)):=by rw[te];simp
 rw[e,show decide ((q.length:Int)<=4)=decide (q.length<=4) from decide_eq_decide.2 O];cases decide (q.length<=4)<;>simp
theorem T5(s:5000<=n)(h:q.length<=1000):zl n q=some (kg q):=by
 refine ab.eq ?_;unfold zl;refine pK (l:=q) (p:=λ_ x=>decide (-9999<=x/\x<=9999)) O O (λa i x e m o=>?_) (λa d=>?_) (λ⟨i,x,e,k⟩=>?_)
 ·have aH:=(bR.1 e).1;rw[bA (show(i:Int)<(q.length:Int) by omega)];refine bS (ag (bk e) (ag (yj n x 9999 O) ?_));cases k:decide (-9999<=x/\x<=9999) with
  |true=>show ab (a _) _;rw[be O];exact m k
  |false=>exact ab.some (o k)
 ·rw[bx (show¬(q.length:Int)<(q.length:Int) by omega)];refine ab.some ?_;unfold kg;rw[fB.2 (λc r=>by obtain⟨i,aH⟩:=ls r;exact d i c aH),Bool.and_true];exact decide_eq_decide.2 O
 unfold kg;rw[ju.2 ⟨x,bE e,by rw[k];simp⟩,jv]
theorem M5{k:Type}(p q:k->Bool): ∀l:List k,(l.all p&&l.all q)=l.all (λx=>p x&&q x)
 | []=>rfl
 |x::l=>by simp only[List.all_cons,<-M5 p q l];cases p x<;>cases q x<;>cases l.all p<;>cases l.all q<;>rfl
def nV(a:Part):Bool:=decide (1<=a.body.length/\a.body.length<=4)&&a.body.all λs=>er s (a.nest.length:Int)
def jk(a:Part):List (List Int):=(jW a.nest).getD []
def eh(c:List ch)(a:Part):Bool:=(jW a.nest).isSome&&(nV a&&a.body.all λs=>(jk a).all λq=>gO c s q&&kg q)
def Bg(x:Part):Prop:=p6 x.nest/\x.body.length<=1000/\ ∀s∈x.body,zO s
def lC(p:Prog):Prop:=En p.aR/\p.parts.length<=1000/\ ∀x∈p.parts,Bg x
theorem fS(h:eh r x=true):jW x.nest=some (jk x)/\(1<=x.body.length/\x.body.length<=4)/\(∀s∈x.body,er s (x.nest.length:Int)=true)/\ ∀s∈x.body,∀q∈jk x,gO r s q=true/\kg q=true:=by
 simp only[eh,nV,Bool.and_eq_true,decide_eq_true_eq,List.all_eq_true] at h;refine⟨?_,h.2.1.1,h.2.1.2,h.2.2⟩;unfold jk;cases a:jW x.nest with
 |none=>rw[a] at h;simp at h
 |some c=>rfl
theorem GC{list:List ch}(h:jL list=true):list.length<=4/\kH list:=by
 simp only[jL,Bool.and_eq_true,decide_eq_true_eq] at h;refine⟨h.2,λx a=>?_⟩;obtain⟨i,c⟩:=ls a
 have:=KO h.1 c;simp only[nX,Bool.and_eq_true] at this;exact this.2.2
theorem D6(cJ:7000<=n){a:List ch}(E:a.length<=4)(M:kH a)(N:Bg x):
  vN n a x=some (if eh a x=true then(((jk x).length:Int)*(x.body.length:Int),true) else(0,false)):=by
 obtain⟨P,h2,S⟩:=N;refine ab.eq ?_;unfold vN;generalize f:(if eh a x=true then(((jk x).length:Int)*(x.body.length:Int),true) else((0:Int),false))=T;refine ag (Sg O P) ?_;have d:eh a x=false->((0:Int),false)=T:=λh=>by rw[<-f,h];rfl
 refine ab.aA (λz=>z= !((jW x.nest).isSome&&decide (1<=x.body.length/\x.body.length<=4))) (λj m=>?_) λz Q=>?_
 ·cases o:jW x.nest with
  |none=>exact bS (m _ (by rw[o];rfl))
  |some c=>
   refine b3 (aP (λh=>m _ ?_) λh=>m _ ?_)
   ·rw[o,bx O];rfl
   rw[o];by_cases h4:x.body.length<=4
   ·rw[bx (show¬(4:Int)<(x.body.length:Int) by omega),bA O];rfl
   rw[bA (show(4:Int)<(x.body.length:Int) by omega),bx O];rfl
 subst Q;cases o:jW x.nest with
 |none=>exact ab.some (d (by unfold eh;rw[o];rfl))
 |some c=>
  obtain⟨ij,V,R,adP,adQ⟩:=r1 o;have B:jk x=c:=by unfold jk;rw[o];rfl
  by_cases K:1<=x.body.length/\x.body.length<=4
  ·rw[bA K];refine b3 ?_;have p:eh a x=x.body.all (λs=>er s (x.nest.length:Int)&&c.all λq=>gO a s q&&kg q):=by
    unfold eh nV;rw[o,B,bA K,Option.isSome_some,ff,ff];exact M5 _ _ _
   refine ab.loop (λy:Int=> ∃i:Nat,y=i/\i<=x.body.length/\ ∀(t:Nat) s,t<i->x.body[t]? =some s->(er s (x.nest.length:Int)&&c.all λq=>gO a s q&&kg q)=true) (λy=>x.body.length-y.toNat) ?_ n _ ⟨0,rfl,O,λt s h=>O⟩ bQ;rintro U y ⟨i,rfl,aH,g⟩ b7;refine aP (λhlt=>?_) λiN=>ab.some ?_
   ·have bM:=br (O:i<x.body.length);have hm:=bE bM;refine ag (bk bM) (ag (IX O (S _ hm) _) ?_);cases l:er x.body[i] (x.nest.length:Int) with
    |false=>
     refine bS (ab.some (d ?_));rw[p];exact ju.2 ⟨_,hm,by rw[l];simp⟩
    |true=>
     refine b3 ?_;show ab (bp (λe (iX:Int)=>bif decide (iX<(c.length:Int)) then _ else _) n 0) _;refine ab.loop (λy:Int=> ∃k:Nat,y=k/\k<=c.length/\ ∀(t:Nat) q,t<k->c[t]? =some q->(gO a x.body[i] q&&kg q)=true) (λy=>c.length-y.toNat) ?_ n _ ⟨0,rfl,O,λt s h=>O⟩ bQ;rintro e y ⟨k,rfl,hk,C⟩ W;refine aP (λu=>?_) λv=>?_
     ·have r:=br (O:k<c.length);have D:=bE r;have F:=R _ D;have X:c[k].length<=1000:=by have:=F.1;have:=F.2.1;omega
      refine ag (bk r) (ag (J5 O E M l F) (ab.aA (λz=>z= !(gO a x.body[i] c[k]&&kg c[k])) (λj m=>?_) λz Q=>?_))
      ·cases G:gO a x.body[i] c[k] with
       |false=>
        rw[G] at m;exact bS (m _ rfl)
       |true=>
        rw[G] at m;exact b3 (ag (T5 O X) (m _ rfl))
      subst Q;cases G:(gO a x.body[i] c[k]&&kg c[k]) with
      |false=>
       refine ab.some (d ?_);rw[p];refine ju.2 ⟨_,hm,?_⟩;rw[l,ff];rw[ju.2 ⟨_,D,by rw[G];simp⟩];simp
      |true=>
       show ab (e _) _;rw[be O];refine W _ ⟨k+1,O,O,λt q L w=>?_⟩ O;by_cases Y:t=k
       ·subst Y;rw[r] at w;cases w;exact G
       exact C t q O w
     rw[be O];refine b7 _ ⟨i+1,O,O,λt s L A=>?_⟩ O;by_cases b:t=i
     ·subst b;rw[bM] at A;cases A;rw[l,ff];refine fB.2 λq F=>?_;obtain⟨l3,H⟩:=ls F
      have:=(bR.1 H).1;exact C l3 q O H
     exact g t s O A
   have I:eh a x=true:=by
    rw[p];refine fB.2 λs hs=>?_;obtain⟨t,L⟩:=ls hs
    have:=(bR.1 L).1;exact g t s O L
   rw[<-f,I,a1 rfl,B];show(wr ((c.length:Int)*(x.body.length:Int)),true)=_;have kE:(0:Int)<=(c.length:Int)*(x.body.length:Int):=mW O O;have BK:(c.length:Int)*(x.body.length:Int)<=120*4:=q6 O O O O;rw[be O]
  rw[bx K];refine ab.some (d ?_);unfold eh nV;rw[bx K];simp
def fE(x:Part):Int:=((jk x).length:Int)*(x.body.length:Int)
def oo(i:Nat)(x:Part):List cx:=(jk x).flatMap λq=>(List.range x.body.length).map fun(k:Nat)=>(⟨(i:Int),(k:Int),q⟩:cx)
def bz(a:List Part):List cx:=a.zipIdx.flatMap λy=>oo y.2 y.1
def kj(p:Prog):Bool:=jL p.aR&&(decide (p.parts.length<=4)&&p.parts.all (eh p.aR))
def b6(p:Prog):Bool:=kj p&&decide ((p.parts.map fE).sum<=120)
theorem aew(l:List Part)(x:Part):bz (l++[x])=bz l++oo l.length x:=by unfold bz;rw[List.zipIdx_append,oM];simp
theorem Ie{l:List Part}(h:l[i]? =some x):bz (l.take (i+1))=bz (l.take i)++oo i x:=by have aH:=(bR.1 h).1;rw[en,h];show bz (l.take i++[x])=_;rw[aew,cG,vF (Nat.le_of_lt aH)]
theorem Ad{k R:Type}(f:k->List R)(m:Nat)(h: ∀x,(f x).length=m): ∀l:List k,(l.flatMap f).length=l.length*m
 | []=>aV
 |x::l=>by rw[List.flatMap_cons,dE,h,Ad f m h l,List.length_cons,dp];omega
theorem Ic(i:Nat)(x:Part):((oo i x).length:Int)=fE x:=by unfold oo fE;rw[Ad _ x.body.length λq=>aV];exact Int.natCast_mul _ _
theorem Mr{l:List Part}(h:l[i]? =some x):((l.take (i+1)).map fE).sum=((l.take i).map fE).sum+fE x:=by rw[en,h];simp
theorem Qb: ∀(l:List Part) (i:Nat),i<=l.length->((bz (l.take i)).length:Int)=((l.take i).map fE).sum
 |l,0,_=>by simp[bz]
 |l,i+1,h=>by
  have bM:=br (O:i<l.length);rw[Ie bM,dE,Mr bM]
  have:=Qb l i O
  have:=Ic i l[i];omega
theorem B3(l:List Part):((bz l).length:Int)=(l.map fE).sum:=by
 have:=Qb l l.length (cQ _)
 rwa [c6] at this
theorem y0(h:eh r x=true):0<=fE x/\fE x<=480:=by
 obtain⟨a,c,_⟩:=fS h;obtain⟨_,d,_⟩:=r1 a;unfold fE;refine⟨mW O O,?_⟩
 have:=q6 (show((jk x).length:Int)<=120 by omega) (show(x.body.length:Int)<=4 by omega) O O;omega
theorem kv(Y:7000<=n)(G:lC p):k2 n p=some (b6 p):=by
 obtain⟨H,b,I⟩:=G;refine ab.eq ?_;unfold k2;generalize q:b6 p=T;unfold b6 kj at q;refine ab.aA (λz=>z= !(jL p.aR&&decide (p.parts.length<=4))) (λj C=>ag (Ts O H) ?_) λz m=>?_
 ·cases e:jL p.aR with
  |false=>exact bS (C _ (by rw[e];rfl))
  |true=>
   refine b3 (C _ ?_);rw[e];by_cases D:p.parts.length<=4
   ·rw[bx (show¬(4:Int)<(p.parts.length:Int) by omega),bA D];rfl
   rw[bA (show(4:Int)<(p.parts.length:Int) by omega),bx D];rfl
 subst m;cases o:(jL p.aR&&decide (p.parts.length<=4)) with
 |false=>
  refine ab.some ?_;rw[<-q,<-l7,o];rfl
 |true=>
  have k:T=(p.parts.all (eh p.aR)&&decide ((p.parts.map fE).sum<=120)):=by rw[<-q,<-l7,o];rfl
  rw[oN,decide_eq_true_eq] at o;obtain⟨K,L⟩:=GC o.1;refine b3 ?_;refine ab.loop (λx:Int×Int=> ∃i:Nat,x.2=i/\i<=p.parts.length/\x.1=((p.parts.take i).map fE).sum/\0<=x.1/\x.1<=480*i/\ ∀(t:Nat) y,t<i->p.parts[t]? =some y->eh p.aR y=true) (λx=>p.parts.length-x.2.toNat) ?_ n _ ⟨0,rfl,O,aV,aV,aV,λt y h=>O⟩ Z;rintro a ⟨x,z⟩ ⟨i,m,f,F,r,s,e⟩ Q;dsimp only at m F r s e⊢;subst m;refine aP (λR=>?_) λU=>ab.some ?_
  ·have bM:=br (O:i<p.parts.length);have hm:=bE bM;refine ag (bk bM) (ag (D6 O K L (I _ hm)) ?_);cases c:eh p.aR p.parts[i] with
   |false=>
    rw[aY aV];refine ab.some ?_;rw[k,ju.2 ⟨_,hm,by rw[c];simp⟩];rfl
   |true=>
    rw[a1 rfl];have W:=y0 c;show ab (a (wr (x+fE p.parts[i]),wr ((i:Int)+1))) _;rw[be (n:=x+fE p.parts[i]) O,be O];refine Q _ ⟨i+1,Z,O,by dsimp only;rw[Mr bM];omega,Z,Z,λt y w d=>?_⟩ Z;by_cases A:t=i
    ·subst A;rw[bM] at d;cases d;exact c
    exact e t y O d
  have B:i=p.parts.length:=O
  have l:p.parts.all (eh p.aR)=true:=fB.2 (λy X=>by
   obtain⟨t,w⟩:=ls X
   have:=(bR.1 w).1;exact e t y O w)
  rw[k,l,ff,F,B,c6]
theorem Jy{R:Type}(f:Nat->R)(k:Nat):(List.range (k+1)).map f=(List.range k).map f++[f k]:=by rw[pO,f'];rfl
theorem Jz(cJ:7000<=n)(hp:lC p):uo n p=some (if kj p=true then(bz p.parts,decide ((bz p.parts).length<=120)) else([],false)):=by
 obtain⟨h1,h2,h3⟩:=hp;refine ab.eq ?_;unfold uo;generalize kC:(if kj p=true then(bz p.parts,decide ((bz p.parts).length<=120)) else([],false))=T;have a:kj p=false->(([]:List cx),false)=T:=λh=>by rw[<-kC,h];rfl
 refine ab.aA (λz=>z= !(jL p.aR&&decide (p.parts.length<=4))) (λj b=>ag (TG O h1) ?_) λz d=>?_
 ·cases g:jL p.aR with
  |false=>exact bS (b _ (by rw[g];rfl))
  |true=>
   refine b3 (b _ ?_);rw[g];by_cases h4:p.parts.length<=4
   ·rw[bx (show¬(4:Int)<(p.parts.length:Int) by omega),bA h4];rfl
   rw[bA (show(4:Int)<(p.parts.length:Int) by omega),bx h4];rfl
 subst d;cases a':(jL p.aR&&decide (p.parts.length<=4)) with
 |false=>exact ab.some (a (by unfold kj;rw[<-l7,a'];rfl))
 |true=>
  have o:kj p=p.parts.all (eh p.aR):=by unfold kj;rw[<-l7,a'];rfl
  rw[oN,decide_eq_true_eq] at a';obtain⟨cE,cv⟩:=GC a'.1;refine b3 ?_;refine ab.loop (λx:List cx×Int=> ∃i:Nat,x.2=i/\i<=p.parts.length/\x.1=bz (p.parts.take i)/\x.1.length<=480*i/\ ∀(t:Nat) y,t<i->p.parts[t]? =some y->eh p.aR y=true) (λx=>p.parts.length-x.2.toNat) ?_ n _ ⟨0,rfl,O,by simp[bz],aV,λt y h=>O⟩ Z;rintro again ⟨x,z⟩ ⟨i,d,aH,hx,aeb,g⟩ b7;dsimp only at d hx aeb g⊢;subst d;refine aP (λhlt=>?_) λiN=>ab.some ?_
  ·have bM:=br (O:i<p.parts.length);have hm:=bE bM;obtain⟨s1,s2,aho⟩:=h3 _ hm;generalize xw:p.parts[i]=P at*;have w:eh p.aR P=false->kj p=false:=λh=>by rw[o];exact ju.2 ⟨_,hm,by rw[h];simp⟩
   refine ag (bk bM) (ag (R7 O s1) (ab.aA (λz=>z= !((jW P.nest).isSome&&nV P)) (λj b=>?_) λz d=>?_))
   ·cases B:jW P.nest with
    |none=>exact bS (b _ (by rw[B];rfl))
    |some c=>
     refine b3 ?_;have hw:fl n (P.body.length:Int) 1 4=some (decide (1<=P.body.length/\P.body.length<=4)):=by
      rw[d6];congr 1;exact decide_eq_decide.2 O
     refine ag hw ?_;have bP:=TJ (n:=n) (f:=λoC=>xq n oC P) (p:=λs=> !er s (P.nest.length:Int)) (l:=P.body) (λs v=>by unfold xq;rw[SB O (aho s v)];rfl) O O;have e:(P.body.any λs=> !er s (P.nest.length:Int))= !(P.body.all λs=>er s (P.nest.length:Int)):=by rw[te];simp
     cases E:decide (1<=P.body.length/\P.body.length<=4) with
     |false=>exact bS (b _ (by unfold nV;rw[B,E];rfl))
     |true=>exact b3 (ag bP (b _ (by unfold nV;rw[B,E,e];rfl)))
   subst d;cases B:jW P.nest with
   |none=>exact ab.some (a (w (by unfold eh;rw[B];rfl)))
   |some c=>
    obtain⟨ij,agy,adO,adP,adQ⟩:=r1 B;have M:jk P=c:=by unfold jk;rw[B];rfl
    cases G:nV P with
    |false=>exact ab.some (a (w (by unfold eh;rw[G];simp)))
    |true=>
     have C:=G;simp only[nV,Bool.and_eq_true,decide_eq_true_eq,List.all_eq_true] at C;obtain⟨⟨kE,BK⟩,xz⟩:=C;have H:eh p.aR P=P.body.all (λs=>c.all λq=>gO p.aR s q&&kg q):=by
      unfold eh;rw[B,G,M];rfl
     let row:List Int->List cx:=λq=>(List.range P.body.length).map fun(k:Nat)=>(⟨(i:Int),(k:Int),q⟩:cx)
     have hrl: ∀q,(row q).length=P.body.length:=λq=>by simp[row]
     have r:oo i P=c.flatMap row:=by unfold oo;rw[M]
     refine b3 ?_;rw[show(rT (some c)).1=c from rfl];refine ab.loop (λy:List cx×Int=> ∃k:Nat,y.2=k/\k<=c.length/\y.1=x++(c.take k).flatMap row/\ ∀(t:Nat) q,t<k->c[t]? =some q->kg q=true/\ ∀s∈P.body,gO p.aR s q=true) (λy=>c.length-y.2.toNat) ?_ n _ ⟨0,rfl,O,aV,λt q h=>O⟩ Z;rintro N ⟨y,z⟩ ⟨k,d,hk,I,K⟩ S;dsimp only at d I K⊢;subst d;refine aP (λhlt2=>?_) λagq=>?_
     ·have A:=br (O:k<c.length);have L:=bE A;generalize Hq:c[k]=Q at*;have V:=adO _ L;have adS:Q.length<=4:=by have:=V.1;have:=V.2.1;omega
      refine ag (bk A) (ag (TT O O) ?_);have aed:y.length<=480*4+480:=by
       rw[I,dE,Ad row _ hrl,cG]
       have:min k c.length*P.body.length<=120*4:=nH O BK;omega
      cases PZ:kg Q with
      |false=>
       refine bS (ab.some (a (w ?_)));rw[H];obtain⟨IJ,adY⟩: ∃IJ,IJ∈P.body:=List.exists_mem_of_length_pos O;refine ju.2 ⟨IJ,adY,?_⟩;rw[ju.2 ⟨Q,L,by rw[PZ];simp⟩];simp
      |true=>
       refine b3 ?_;refine ab.loop (λu:List cx×Int=> ∃m:Nat,u.2=m/\m<=P.body.length/\u.1=y++(List.range m).map (fun(k:Nat)=>(⟨(i:Int),(k:Int),Q⟩:cx))/\ ∀(t:Nat) s,t<m->P.body[t]? =some s->gO p.aR s Q=true) (λu=>P.body.length-u.2.toNat) ?_ n _ ⟨0,rfl,O,aV,λt s h=>O⟩ Z;rintro af7 ⟨u,z⟩ ⟨m,d,mw,hu,R⟩ adU;dsimp only at d hu R⊢;subst d;refine aP (λagw=>?_) λagr=>?_
       ·have U:=br (O:m<P.body.length);have D:=bE U;refine ag (bk U) (ag (UI O cE cv (xz _ D) V) ?_);cases PG:gO p.aR P.body[m] Q with
        |false=>
         refine bS (ab.some (a (w ?_)));rw[H];refine ju.2 ⟨_,D,?_⟩;rw[ju.2 ⟨Q,L,by rw[PG];simp⟩];simp
        |true=>
         have hcl:jM Q=some Q:=by unfold jM;rw[a1 O]
         have pf:u.length<=480*4+480+4:=by rw[hu];simp;omega
         refine b3 (ag hcl (ag (cY bQ) ?_));rw[be O];refine adU _ ⟨m+1,Z,O,?_,λt s F W=>?_⟩ Z
         ·dsimp only;rw[hu,Jy,iy]
         by_cases ad6:t=m
         ·subst ad6;rw[U] at W;cases W;exact PG
         exact R t s O W
       have adA:m=P.body.length:=O
       rw[be O];refine S _ ⟨k+1,Z,O,?_,λt q F X=>?_⟩ Z
       ·dsimp only;rw[en,A,oM,<-iy,<-I,hu,adA];simp[row]
       by_cases ad5:t=k
       ·subst ad5;rw[A] at X;cases X;refine⟨PZ,λs v=>?_⟩;obtain⟨l3,P3⟩:=ls v
        have:=(bR.1 P3).1;exact R l3 s O P3
       exact K t q O X
     have PN:k=c.length:=O
     have PY:eh p.aR P=true:=by
      rw[H];refine fB.2 λs v=>fB.2 λq V=>?_;obtain⟨t,F⟩:=ls V
      have:=(bR.1 F).1;obtain⟨g1,g2⟩:=K t q O F;rw[g1,g2 s v];rfl
     have BL:=y0 PY;have BR:=Ic i P;rw[be O];refine b7 _ ⟨i+1,Z,O,?_,?_,λt y F Y=>?_⟩ Z
     ·dsimp only;rw[Ie bM,r,I,PN,c6,hx]
     ·dsimp only;rw[I,PN,c6,dE,<-r];omega
     by_cases ad4:t=i
     ·subst ad4;rw[bM] at Y;cases Y;exact PY
     exact g t y O Y
  have adh:i=p.parts.length:=O
  have hall:kj p=true:=by
   rw[o];exact fB.2 (λy I=>by
    obtain⟨t,F⟩:=ls I
    have:=(bR.1 F).1;exact g t y O F)
  rw[<-kC,a1 hall,hx,adh,c6];congr 1;exact decide_eq_decide.2 O
theorem ur(a:7000<=n)(c:lC p):sa n p=some (b6 p):=by
 unfold sa;rw[Jz a c];unfold b6;cases h:kj p with
 |false=>rfl
 |true=>
  rw[a1 rfl];show some (decide _)=_;rw[ff];congr 1
  have:=B3 p.parts;exact decide_eq_decide.2 O
theorem eC(h:b6 p=true):p.aR.length<=4/\kH p.aR/\p.parts.length<=4/\(∀x∈p.parts,eh p.aR x=true)/\(bz p.parts).length<=120:=by
 simp only[b6,kj,Bool.and_eq_true,decide_eq_true_eq,List.all_eq_true] at h;obtain⟨⟨c,d,e⟩,i⟩:=h;obtain⟨a,b⟩:=GC c
 have:=B3 p.parts;exact⟨a,b,d,e,O⟩
theorem uL(cJ:7000<=n)(S:b6 p=true):o5 n p=some (bz p.parts):=by
 obtain⟨cE,cv,h4,D,T⟩:=eC S;refine ab.eq ?_;unfold o5;refine ab.loop (λx:List cx×Int=> ∃i:Nat,x.2=i/\i<=p.parts.length/\x.1=bz (p.parts.take i)/\x.1.length<=480*i) (λx=>p.parts.length-x.2.toNat) ?_ n _ ⟨0,rfl,O,by simp[bz],aV⟩ Z;rintro F ⟨x,z⟩ ⟨i,c,aH,G,H⟩ V;dsimp only at c G H⊢;subst c;refine aP (λhlt=>?_) λiN=>ab.some ?_
 ·have bM:=br (O:i<p.parts.length);have hm:=bE bM;have e:=D _ hm;generalize xw:p.parts[i]=P at*;obtain⟨lp,q2,py,Qp⟩:=fS e;obtain⟨f,I,K,h,L⟩:=r1 lp;generalize R:jk P=g at*;have BL:=y0 e;have j:=Ic i P;let row:List Int->List cx:=λq=>(List.range P.body.length).map fun(k:Nat)=>(⟨(i:Int),(k:Int),q⟩:cx)
  have U: ∀q,(row q).length=P.body.length:=λq=>by simp[row]
  have a:oo i P=g.flatMap row:=by unfold oo;rw[R]
  refine ag (bk bM) (cb (D4 f P.nest n 0 [] [] (by have:=f.1;omega) rfl O yh L aV) λr ⟨sS,vi⟩=>?_);have W:r=g:=by rw[sS (by rw[<-h];simpa using I),h];rfl
  subst W;refine ab.loop (λy:List cx×Int=> ∃k:Nat,y.2=k/\k<=r.length/\y.1=x++(r.take k).flatMap row) (λy=>r.length-y.2.toNat) ?_ n _ ⟨0,rfl,O,aV⟩ Z;rintro l ⟨y,z⟩ ⟨k,c,hk,o⟩ s;dsimp only at c o⊢;subst c;refine aP (λt=>?_) λv=>?_
  ·have d:=br (O:k<r.length);have X:=bE d;generalize Hq:r[k]=Q at*;have E:=K _ X;have adS:Q.length<=4:=by have:=E.1;have:=E.2.1;omega
   have aed:y.length<=480*4+480:=by
    rw[o,dE,Ad row _ U,cG]
    have:min k r.length*P.body.length<=120*4:=nH O q2.2;omega
   refine ab.loop (λu:List cx×Int=> ∃m:Nat,u.2=m/\m<=P.body.length/\u.1=y++(List.range m).map (fun(k:Nat)=>(⟨(i:Int),(k:Int),Q⟩:cx))) (λu=>P.body.length-u.2.toNat) ?_ n _ ⟨0,rfl,O,aV⟩ Z;rintro w ⟨u,z⟩ ⟨m,c,mw,C⟩ A;dsimp only at c C⊢;subst c;refine aP (λM=>?_) λN=>?_
   ·have pf:u.length<=480*4+480+4:=by rw[C];simp;omega
    refine ag (bk d) (ag (nk _ O) (ag (cY bQ) ?_));rw[be O];refine A _ ⟨m+1,Z,O,?_⟩ Z;dsimp only;rw[C,Jy,iy]
   have Y:m=P.body.length:=O
   rw[be O];refine s _ ⟨k+1,Z,O,?_⟩ Z;dsimp only;rw[en,d,oM,<-iy,<-o,C,Y];simp[row]
  have B:k=r.length:=O
  rw[be O];refine V _ ⟨i+1,Z,O,?_,?_⟩ Z
  ·dsimp only;rw[Ie bM,a,o,B,c6,G]
  dsimp only;rw[o,B,c6,dE,<-a];omega
 have b:i=p.parts.length:=O
 rw[G,b,c6]
theorem VR{l:List ch}{x:ch}(h:l[i]? =some x):gd (l.take (i+1))=gd (l.take i)+hd x.bT:=by unfold gd;rw[List.take_add_one,h];simp
theorem Ky(s:7000<=n)(w:p.aR.length<=4)(m:kH p.aR):zj n p=some (gd p.aR):=by
 refine ab.eq ?_;unfold zj;refine ab.loop (λx:Int×Int=> ∃i:Nat,x.2=i/\i<=p.aR.length/\x.1=gd (p.aR.take i)/\0<=x.1/\x.1<=36*i) (λx=>p.aR.length-x.2.toNat) ?_ n _ ⟨0,rfl,O,by simp[gd],aV,aV⟩ Z;rintro c ⟨x,z⟩ ⟨i,k,y,l,d,e⟩ o;dsimp only at k l d e⊢;subst k;refine aP (λq=>?_) λr=>ab.some ?_
 ·have bM:=br (O:i<p.aR.length);have a:=m _ (bE bM);have k':=rH a;refine ag (bk bM) (ag (D5 O a) ?_);rw[be (n:=x+hd p.aR[i].bT) O,be O];exact o _ ⟨i+1,Z,O,by dsimp only;rw[VR bM];omega,Z,Z⟩ Z
 have h:i=p.aR.length:=O
 rw[l,h,c6]
theorem KQ(a:7000<=n)(c:p.aR.length<=4)(d:kH p.aR):Cq n p=some (gd p.aR):=Ky a c d
def jX:Nat->List ch->List Int->Expr->List Int->Int
 |0,_,_,_,_=>0
 |L+1,c,m,e,q=>
  if e.kind=1 then e.num
  else if e.kind=2 then fW e.index q%1000
  else if e.kind=3 then m.getD (eD c e.read q 0).toNat 0
  else match e.bm with
   | [a,b]=>if e.kind=4 then(jX L c m a q+jX L c m b q)%1000 else if e.kind=5 then(jX L c m a q-jX L c m b q)%1000 else(jX L c m a q*jX L c m b q)%1000
   |_=>0
def rQ(a:List ch)(m:List Int):Prop:=(m.length:Int)=gd a/\ ∀x∈m,0<=x/\x<=999
theorem aaU(h:rQ r m)(i:Nat):0<=m.getD i 0/\m.getD i 0<=999:=by
 rw[ez];cases a:m[i]? with
 |none=>simp
 |some x=>exact h.2 x (bE a)
theorem aa3(c:rQ r m): ∀{L:Nat} {e:Expr},dD L e d=true->0<=jX L r m e q/\jX L r m e q<=999
 |0,e,h=>by cases h
 |L+1,e,h=>by
  obtain⟨i,a,k⟩:=hi h;simp only[jX];split
  ·rename_i ev;unfold ej at a;rw[aY O,aY O,a1 ev] at a;simp only[Bool.and_eq_true,decide_eq_true_eq] at a;omega
  split
  ·omega
  split
  ·exact aaU c _
  split
  ·split
   ·omega
   split<;>omega
  omega
def gw(p:Prog)(x:cx):Prop:= ∃(i k:Nat) (P:Part) (s:Stmt),x.part=i/\x.stmt=k/\p.parts[i]? =some P/\P.body[k]? =some s/\x.cM∈jk P
def tJ(p:Prog)(x:cx):Option Stmt:=(p.parts[x.part.toNat]?).bind λP=>P.body[x.stmt.toNat]?
def iV(p:Prog)(m:List Int)(x:cx):List Int:=match tJ p x with
 |some s=>m.set (eD p.aR s.write x.cM 0).toNat (jX 5 p.aR m s.value x.cM)
 |none=>m
theorem uP(o:b6 p=true){x:cx}(q:gw p x): ∃(i k:Nat) (P:Part) (s:Stmt) (d:Int),x.part=i/\x.stmt=k/\p.parts[i]? =some P/\P.body[k]? =some s/\tJ p x=some s/\er s d=true/\h' P.nest.length x.cM/\gO p.aR s x.cM=true:=by obtain⟨D,F,G,a,r⟩:=eC o;obtain⟨i,k,P,s,l,m,c,e,n⟩:=q;obtain⟨w,H,y,z⟩:=fS (a P (bE c));obtain⟨I,A,h,B,C⟩:=r1 w;have hs:=bE e;exact⟨i,k,P,s,_,l,m,c,e,by unfold tJ;rw[l,m,c3,c];exact(by rw[c3];exact e),y s hs,h _ n,(z s hs _ n).1⟩
theorem Gc(h:gO r s q=true):0<=eD r s.write q 0/\ ∀a∈dX 5 s.value,0<=eD r a q 0:=by simp only[gO,Bool.and_eq_true,decide_eq_true_eq,List.all_eq_true] at h;exact h
theorem Fg{k:Type}{l:List k}(a:0<=c)(h:c.toNat<l.length)(x:k):b' l c x=some (l.set c.toNat x):=by unfold b';rw[a1 ⟨a,O⟩]
theorem w6{k:Type}{l:List k}(a:0<=c)(h:c.toNat<l.length):au l c=some l[c.toNat]:=by unfold au;rw[a1 a,List.getElem?_eq_getElem h]
theorem NI(e:b6 p=true)(a:rQ p.aR m){x:cx}(l:gw p x):rQ p.aR (iV p m x):=by
 obtain⟨i,k,P,s,d,q,r,w,y,n,o,z,A⟩:=uP e l;unfold iV;rw[n];refine⟨by rw[eS];exact a.1,λv c=>?_⟩;rcases q7 c with h|h
 ·exact a.2 v h
 rw[h];exact aa3 a (kI o).2.1
theorem iP{l:List Part}{x:cx}(h:x∈bz l): ∃(i k:Nat) (P:Part) (s:Stmt),x.part=i/\x.stmt=k/\l[i]? =some P/\P.body[k]? =some s/\x.cM∈jk P:=by unfold bz at h;rw[yK] at h;obtain⟨⟨P,i⟩,d,a⟩:=h;unfold oo at a;rw[yK] at a;obtain⟨q,e,c⟩:=a;rw[eP] at c;obtain⟨k,m,rfl⟩:=c;have n:=tc.1 m;exact⟨i,k,P,P.body[k],rfl,rfl,Dc.1 d,br n,e⟩
def mK(p:Prog)(m:List Int)(l:List cx):List Int:=l.foldl (iV p) m
end
def dq(B:Nat)(a:ay):Prop:=a.aT.length<=B
def eR(B:Nat)(l:List ay):Prop:=l.length<=B/\ ∀a∈l,dq B a
def ko(B:Nat)(a:List Loop):Prop:=a.length<=B/\ ∀l∈a,eR B l.bf/\eR B l.aH
def ia(B:Nat):Nat->Expr->Prop
 |0,_=>False
 |L+1,e=>e.bm.length<=B/\dq B e.index/\eR B e.read.bC/\ ∀k∈e.bm,ia B L k
def iG(B:Nat)(s:Stmt):Prop:=eR B s.write.bC/\ia B 5 s.value
def fA(B:Nat)(x:Part):Prop:=ko B x.nest/\x.body.length<=B/\ ∀s∈x.body,iG B s
def rs(B:Nat)(l:List ch):Prop:=l.length<=B/\ ∀x∈l,x.bT.length<=B
def da(B:Nat)(p:Prog):Prop:=rs B p.aR/\p.parts.length<=B/\ ∀x∈p.parts,fA B x
variable {B C n:Nat}{a b:ay}{s:Stmt}{p:Prog}{k d:Int}{r:cB}{R:Type}{Q:R->Prop}
theorem dq.mono(h:B<=C)(c:dq B a):dq C a:=gE c h
theorem eR.mono(h:B<=C){l:List ay}(c:eR B l):eR C l:=⟨gE c.1 h,λa d=>(c.2 a d).mono h⟩
theorem ko.mono(h:B<=C){l:List Loop}(c:ko B l):ko C l:=⟨gE c.1 h,λa d=>⟨(c.2 a d).1.mono h,(c.2 a d).2.mono h⟩⟩
theorem ia.mono{B C:Nat}(h:B<=C): ∀{L M:Nat} {e:Expr},L<=M->ia B L e->ia C M e
 |0,_,_,_,a=>a.elim
 |L+1,0,_,c,_=>O
 |L+1,M+1,e,c,a=>⟨gE a.1 h,a.2.1.mono h,a.2.2.1.mono h,λk d=>ia.mono h O (a.2.2.2 k d)⟩
theorem iG.mono(h:B<=C)(a:iG B s):iG C s:=⟨a.1.mono h,a.2.mono h (cQ _)⟩
theorem fA.mono(h:B<=C){s:Part}(a:fA B s):fA C s:=⟨a.1.mono h,gE a.2.1 h,λs c=>(a.2.2 s c).mono h⟩
theorem rs.mono(h:B<=C){s:List ch}(a:rs B s):rs C s:=⟨gE a.1 h,λs c=>gE (a.2 s c) h⟩
theorem da.mono(h:B<=C)(a:da B p):da C p:=⟨a.1.mono h,gE a.2.1 h,λs c=>(a.2.2 s c).mono h⟩
theorem eR.sm{l:List ay}(h:eR 1000 l):ku l:=⟨h.1,h.2⟩
theorem ia.sm: ∀{L:Nat} (j:Nat) {e:Expr},ia 1000 L e->wB j e
 |_,0,_,_=>trivial
 |0,_+1,_,h=>h.elim
 |L+1,j+1,e,h=>⟨h.1,h.2.1,h.2.2.1.sm,λk a=>ia.sm j (h.2.2.2 k a)⟩
theorem iG.sm(h:iG 1000 s):zO s:=⟨h.1.sm,h.2.sm 5⟩
theorem ko.sm{l:List Loop}(h:ko 1000 l):p6 l:=⟨h.1,λx a=>⟨(h.2 x a).1.sm,(h.2 x a).2.sm⟩⟩
theorem fA.sm{x:Part}(h:fA 1000 x):Bg x:=⟨h.1.sm,h.2.1,λs a=>(h.2.2 s a).sm⟩
theorem da.sm(h:da 1000 p):lC p:=⟨⟨h.1.1,h.1.2⟩,h.2.1,λx a=>(h.2.2 x a).sm⟩
theorem jn(n:Nat){m:Int}(a:cO k r)(c:k<=1000000000):ab (gM n r m) (λx=>0<=x.1/\(1<=m->x.1<m)/\cO (k+1) x.2):=NL a c
theorem gR(n:Nat){l:List Int}(a:cO k r)(c:k<=1000000000)(d:l≠[]):ab (fD n r l) (λx=>x.1∈l/\cO (k+1) x.2):=aaJ a c d
theorem Bt(n:Nat){l:List (List UInt8)}(c:cO k r)(d:k<=1000000000)(e:l≠[]):ab (pq n r l) (λx=>x.1∈l/\cO (k+1) x.2):=by
 unfold pq;have p:1<=l.length:=by cases l;exact bB rfl e;simp
 refine cb (jn n c d) λx ⟨h,i,m⟩=>?_;obtain⟨y,o,a⟩:=gy h (i O);exact ag o (ab.some ⟨bE a,m⟩)
def mb(a:ay):Prop:=a.aT.length=4
theorem hg(n:Nat)(c:Int):gq n c=some ⟨[0,0,0,0],c⟩:=rfl
theorem wO(n:Nat){v:Int}(h:0<=v/\v<=3):ab (lW n v) mb:=by
 unfold lW;refine ag (x:=⟨[0,0,0,0],0⟩) rfl ?_;obtain⟨y,a,_⟩:=gy (l:=[(0:Int),0,0,0]) (i:=v) h.1 bQ;refine ag a ?_;have c:b' [(0:Int),0,0,0] v 1=some ([(0:Int),0,0,0].set v.toNat 1):=by unfold b';rw[a1 ⟨h.1,bQ⟩]
 exact ag c (ab.some (by unfold mb;rw[eS];rfl))
theorem Lb(p:5000<=n)(e:mb a)(h:mb b)(x y:Int):ab (ih n a x b y) mb:=by unfold mb at e h;unfold ih;refine ab.loop (λz:List Int×Int=> ∃i:Nat,z.2=i/\i<=4/\z.1.length=i) (λz=>4-z.2.toNat) ?_ n _ ⟨0,rfl,O,rfl⟩ Z;rintro c ⟨z,w⟩ ⟨i,d,q,k⟩ l;dsimp only at d k⊢;subst d;refine aP (λm=>?_) λo=>ab.some (by unfold mb;dsimp only;omega);refine ag (bk (br (O:i<a.aT.length))) (ag (bk (br (O:i<b.aT.length))) (ag (cY bQ) ?_));rw[be (n:=(i:Int)+1) O];exact l _ ⟨i+1,Z,O,by dsimp only;simp;omega⟩ Z
theorem mb.O'(h:mb a):dq 10 a:=by unfold mb at h;unfold dq;omega
theorem o3(h:dq 10 a):eR 10 [a]:=⟨aV,λx c=>by simp at c;subst c;exact h⟩
theorem O4(h:dq 10 a)(k:dq 10 b):eR 10 [a,b]:=⟨aV,λx c=>by simp at c;rcases c with rfl|rfl;exact h;exact k⟩
theorem ZH(Q:5000<=n)(R:cO k r)(T:0<=k/\k<=100000000)(V:0<=d/\d<=3):ab (Ak n r d) (λx=>(eR 10 x.1.bf/\eR 10 x.1.aH)/\cO (k+10) x.2):=by
 unfold Ak;refine cb (gR n R O aV) λgk ⟨_,U⟩=>ag (hg _ _) (cb (gR n U O aV) λiB ⟨_,I⟩=>ag (hg _ _) ?_);refine ab.aA (λz:List UInt8×Int×List Int×Int×List Int×Int=>cO (k+5) ⟨z.1,z.2.1⟩/\z.2.2.1.length=4/\z.2.2.2.2.1.length=4) (λj i=>?_) λz l=>?_
 ·refine ab.aA (λz:List UInt8×Int×Bool=>cO (k+3) ⟨z.1,z.2.1⟩/\(z.2.2=true->0<d)) (λxP p=>aP (λh=>?_) λh=>p _ ⟨I.mono O,λh=>by cases h⟩) λz l=>?_
  ·exact cb (jn n I O) λhZ ⟨_,_,W⟩=>p _ ⟨W.mono O,λ_=>h⟩
  obtain⟨X,Y,w⟩:=z;obtain⟨a,e⟩:=l;dsimp only at a e⊢;cases w with
  |false=>exact i _ ⟨a.mono O,rfl,rfl⟩
  |true=>
   have b:=e rfl;refine cb (jn n a O) λq ⟨f,g,y⟩=>cb (jn n y O) λt ⟨_,_,s⟩=>?_;have K:0<=q.1/\q.1<=3:=⟨f,by have:=g O;omega⟩
   refine aP (λ_=>cb (wO n K) λu A=>i _ ⟨s.mono O,A,rfl⟩) λ_=>cb (wO n K) λv B=>ag (hg _ _) (cb (Lb Q B (show mb ⟨[0,0,0,0],1⟩ from rfl) 1 1) λE C=>i _ ⟨s.mono O,rfl,C⟩)
 obtain⟨X,Y,w,M,N,P⟩:=z;obtain⟨a,e,D⟩:=l;dsimp only at a e D⊢;have F:dq 10 ⟨w,M⟩:=by unfold dq;dsimp only;omega
 have G:dq 10 ⟨N,P⟩:=by unfold dq;dsimp only;omega
 have L: ∀c:Int,dq 10 ⟨[0,0,0,0],c⟩:=λc=>by unfold dq;simp
 refine ab.aA (λz:List UInt8×Int×List ay×List ay=>cO (k+10) ⟨z.1,z.2.1⟩/\eR 10 z.2.2.1/\eR 10 z.2.2.2) (λj i=>?_) λz l=>ab.some ⟨⟨l.2.1,l.2.2⟩,l.1⟩;refine cb (jn n a O) λS ⟨_,_,m⟩=>aP (λ_=>?_) λ_=>aP (λ_=>?_) λ_=>i _ ⟨m.mono O,o3 F,o3 G⟩
 ·exact cb (gR n m O aV) λH ⟨_,o⟩=>ag (hg _ _) (ag (cY aV) (i _ ⟨o.mono O,o3 F,O4 G (L _)⟩))
 exact cb (gR n m O aV) λH ⟨_,o⟩=>ag (hg _ _) (ag (cY aV) (i _ ⟨o.mono O,O4 F (L _),o3 G⟩))
theorem ZC(p:5000<=n)(s:cO k r)(I:0<=k/\k<=90000000):ab (Aj n r) (λx=>(x.1.length<=3/\ko 10 x.1)/\cO (k+40) x.2):=by
 unfold Aj;refine cb (gR n s O aV) λa ⟨w,y⟩=>?_;have K:1<=a.1/\a.1<=3:=by simp at w;omega
 refine ab.loop (λz:List UInt8×Int×List Loop×Int=>0<=z.2.2.2/\(z.2.2.1.length:Int)+z.2.2.2=a.1/\cO (k+1+10*z.2.2.1.length) ⟨z.1,z.2.1⟩/\ ∀l∈z.2.2.1,eR 10 l.bf/\eR 10 l.aH) (λz=>z.2.2.2.toNat) ?_ n _ ⟨Z,aV,by simpa using y,λl h=>by simp at h⟩ Z;rintro e ⟨b,q,bY,c⟩ ⟨A,B,i,m⟩ o;dsimp only at A B i m⊢;refine aP (λC=>?_) λD=>ab.some ⟨⟨Z,Z,m⟩,i.mono O⟩;refine cb (ZH p i O (d:=(bY.length:Int)) O) λL ⟨F,G⟩=>ag (cY bQ) ?_;rw[be O];refine o _ ⟨Z,by dsimp only;simp;omega,G.mono bQ,λl H=>?_⟩ Z;rcases d'.1 H with h|h
 ·exact m l h
 simp at h;subst h;exact F
theorem Nr(Q:5000<=n)(R:cO k r)(hk:0<=k/\k<=90000000)(cv:0<=d/\d<=3):ab (vP n r d) (λx=>eR 10 x.1.bC/\cO (k+20) x.2):=by
 unfold vP;refine cb (Bt n R O aV) λgk ⟨m1,U⟩=>?_;refine ab.aA (λz:Int=>1<=z/\z<=2) (λj m=>aP (λ_=>m _ O) λ_=>m _ O) λw hw=>?_;refine ab.loop (λz:List UInt8×Int×List ay×Int=>0<=z.2.2.2/\z.2.2.2<=w/\(z.2.2.1.length:Int)=z.2.2.2/\cO (k+1+8*z.2.2.2) ⟨z.1,z.2.1⟩/\ ∀a∈z.2.2.1,dq 10 a) (λz=>(w-z.2.2.2).toNat) ?_ n _ ⟨Z,Z,aV,by simpa using U,λl h=>by simp at h⟩ Z;rintro s ⟨b,q,bY,c⟩ ⟨W,X,Y,y,A⟩ B;dsimp only at W X Y y A⊢;refine aP (λf=>?_) λg=>ab.some ⟨⟨Z,A⟩,y.mono O⟩;refine cb (gR n y O aV) λt ⟨_,o⟩=>ag (hg _ _) ?_;refine ab.aA (λz:List UInt8×Int×List Int×Int=>cO (k+1+8*c+8) ⟨z.1,z.2.1⟩/\z.2.2.1.length=4) (λj m=>?_) λz C=>?_
 ·refine ab.aA (λz:List UInt8×Int×Bool=>cO (k+1+8*c+2) ⟨z.1,z.2.1⟩/\(z.2.2=true->0<d)) (λxP p=>aP (λh=>?_) λh=>p _ ⟨o.mono O,λh=>by cases h⟩) λz C=>?_
  ·exact cb (jn n o O) λhZ ⟨_,_,u⟩=>p _ ⟨u.mono O,λ_=>h⟩
  obtain⟨v,E,L⟩:=z;obtain⟨e,i⟩:=C;dsimp only at e i⊢;cases L with
  |false=>exact m _ ⟨e.mono O,rfl⟩
  |true=>
   have M:=i rfl;refine cb (jn n e O) λN ⟨P,S,D⟩=>cb (wO n ⟨P,by have:=S O;omega⟩) λT F=>?_;refine cb (gR n D O aV) λV ⟨_,G⟩=>cb (gR n G O aV) λH ⟨_,I⟩=>ag (hg _ _) ?_;exact cb (Lb Q F (show mb ⟨[0,0,0,0],H.1⟩ from rfl) _ _) λoQ K=>m _ ⟨I.mono O,K⟩
 obtain⟨v,E,L,z4⟩:=z;obtain⟨e,i⟩:=C;dsimp only at e i⊢;refine ag (cY bQ) ?_;rw[be O];refine B _ ⟨Z,Z,by dsimp only;simp;omega,e.mono Z,λa fU=>?_⟩ Z;rcases d'.1 fU with h|h
 ·exact A a h
 simp at h;subst h;unfold dq;dsimp only;omega
theorem aao(H:5000<=n)(s:cO k r)(I:0<=k/\k<=90000000)(K:0<=d/\d<=3):ab (wk n r d) (λx=>dq 10 x.1/\cO (k+10) x.2):=by
 unfold wk;refine cb (gR n s O aV) λL ⟨Q,w⟩=>ag (hg _ _) ?_;refine ab.loop (λz:List UInt8×Int×List Int×Int=>0<=z.2.2.2/\z.2.2.2<=d/\z.2.2.1.length=4/\cO (k+1+z.2.2.2) ⟨z.1,z.2.1⟩) (λz=>(d-z.2.2.2).toNat) ?_ n _ ⟨Z,Z,aV,by simpa using w⟩ Z;rintro a ⟨b,q,bY,c⟩ ⟨e,A,o,h⟩ m;dsimp only at e A o h⊢;refine aP (λB=>?_) λC=>ab.some ⟨by unfold dq;dsimp only;omega,h.mono O⟩;refine cb (gR n h O aV) λp ⟨_,D⟩=>?_;obtain⟨y,F,_⟩:=gy (l:=bY) (i:=c) e O;have G:b' bY c p.1=some (bY.set c.toNat p.1):=by unfold b';rw[a1 ⟨e,O⟩]
 refine ag F (ag G ?_);rw[be O];exact m _ ⟨Z,Z,by dsimp only;rw[eS];exact o,D.mono Z⟩ Z
def lx:Nat->Int
 |0=>30
 |L+1=>30+2*lx L
theorem Lw: ∀L,30<=lx L
 |0=>gH _
 |L+1=>by have:=Lw L;simp only[lx];omega
theorem My{L:Nat}(h:L<=2):lx L<=210:=by
 have a:L=0\/L=1\/L=2:=O
 rcases a with rfl|rfl|rfl<;>decide
theorem ug:dq 10 ⟨[],0⟩:=by unfold dq;simp
theorem ub:eR 10 []:=⟨aV,λx a=>by simp at a⟩
theorem Yi(Y:0<=d/\d<=3): ∀(L n:Nat) (k:Int) (r:cB),5000+L<=n->L<=2->cO k r->0<=k->k<=80000000+10000*(2-(L:Int))->ab (qY (n+1) r d ((L:Int)+1)) (λx=>ia 10 (L+1) x.1/\cO (k+lx L) x.2):=by
 have a: ∀(L n:Nat) (k:Int) (r:cB),5000<=n->cO k r->0<=k->k<=80100000->
   ab (Option.bind (gM n r 4) λi=>bif decide (i.1=0) then(Option.bind (fD n i.2 [1,2,0,99,3]) λo=>some ((⟨1,o.1,(⟨[],0⟩:ay),(⟨[],[]⟩:bZ),[]⟩:Expr),o.2)) else(bif decide (i.1=1) then(Option.bind (wk n i.2 d) λf=>some ((⟨2,0,f.1,(⟨[],[]⟩:bZ),[]⟩:Expr),f.2)) else(Option.bind (vP n i.2 d) λg=>some ((⟨3,0,(⟨[],0⟩:ay),g.1,[]⟩:Expr),g.2)))) (λx=>ia 10 (L+1) x.1/\cO (k+25) x.2):=by
  intro L n k r B m D t;refine cb (jn n m O) λi ⟨_,_,F⟩=>aP (λ_=>?_) λ_=>aP (λ_=>?_) λ_=>?_
  ·exact cb (gR n F O aV) λo ⟨_,p⟩=>ab.some ⟨⟨aV,ug,ub,λk h=>by simp at h⟩,p.mono O⟩
  ·exact cb (aao B F O Y) λo ⟨G,p⟩=>ab.some ⟨⟨aV,G,ub,λk h=>by simp at h⟩,p.mono O⟩
  exact cb (Nr B F O Y) λo ⟨G,p⟩=>ab.some ⟨⟨aV,ug,G,λk h=>by simp at h⟩,p.mono O⟩
 intro L;induction L with
 |zero=>
  intro n k r B v m D t;unfold qY;refine ab.aA (λz:List UInt8×Int×Bool=>cO k ⟨z.1,z.2.1⟩/\z.2.2=true) (λj C=>aP (λ_=>C _ ⟨m,rfl⟩) λh=>bB (show((0:Nat):Int)+1<2 by omega) h) λz s=>?_;obtain⟨E,M,u⟩:=z;obtain⟨w,y⟩:=s;dsimp only at w y⊢;subst y;exact(a 0 n k _ O w D O).mono (λx A=>⟨A.1,A.2.mono (by simp only[lx];omega)⟩)
 |succ L N=>
  intro n k r B v m D t;have P:=Lw L;have S:lx L<=210:=My O;unfold qY;refine ab.aA (λz:List UInt8×Int×Bool=>cO (k+1) ⟨z.1,z.2.1⟩) (λj C=>aP (λh=>C _ (m.mono O)) λh=>cb (jn n m O) λiA ⟨_,_,T⟩=>C _ T) λz s=>?_;obtain⟨E,M,u⟩:=z;dsimp only at s⊢;cases u with
  |true=>exact(a (L+1) n (k+1) _ O s O O).mono (λx A=>⟨A.1,A.2.mono (by simp only[lx];omega)⟩)
  |false=>
   refine b3 (cb (gR n s O aV) λV ⟨_,H⟩=>?_);obtain⟨n,rfl⟩: ∃j,n=j+1:=⟨n-1,O⟩
   have ag8:wr (((L+1:Nat):Int)+1-1)=(L:Int)+1:=by rw[be O];omega
   rw[ag8];refine ab.loop (λz:List UInt8×Int×List Expr×Int=>0<=z.2.2.2/\z.2.2.2<=2/\(z.2.2.1.length:Int)=z.2.2.2/\cO (k+2+lx L*z.2.2.2) ⟨z.1,z.2.1⟩/\ ∀e∈z.2.2.1,ia 10 (L+1) e) (λz=>(2-z.2.2.2).toNat) ?_ (n+1) _ ⟨Z,Z,aV,H.mono bQ,λl h=>by simp at h⟩ Z;rintro I ⟨b,q,bY,c⟩ ⟨i1,i2,i3,K,Q⟩ R;dsimp only at i1 i2 i3 K Q⊢;have agn:0<=lx L*c/\lx L*c<=2*lx L:=by
    have U:c=0\/c=1\/c=2:=O
    rcases U with rfl|rfl|rfl<;>omega
   refine aP (λhlt=>?_) λiN=>ab.some ⟨⟨Z,ug,ub,Q⟩,K.mono (by simp only[lx];omega)⟩;refine cb (N n _ _ O O K O O) λnJ ⟨W,X⟩=>ag (cY bQ) ?_;rw[be O];refine R _ ⟨Z,Z,by dsimp only;simp;omega,X.mono (by dsimp only;rw[Int.mul_add];omega),λe he=>?_⟩ Z;rcases d'.1 he with h|h
   ·exact Q e h
   simp at h;subst h;exact W
theorem Z2(B:6000<=n)(m:cO k r)(C:0<=k/\k<=70000000)(c:0<=d/\d<=3):ab (Ah n r d) (λx=>iG 10 x.1/\cO (k+300) x.2):=by
 unfold Ah;refine cb (Nr O m O c) λo ⟨p,q⟩=>cb (gR n q O aV) λs ⟨e,w⟩=>?_;obtain⟨L,y,a⟩: ∃L:Nat,s.1=(L:Int)+1/\L<=2:=by
  simp at e;rcases e with h|h|h|h
  ·exact⟨1,O,O⟩
  ·exact⟨2,O,O⟩
  ·exact⟨0,O,O⟩
  exact⟨1,O,O⟩
 obtain⟨n,rfl⟩: ∃j,n=j+1:=⟨n-1,O⟩
 have D:lx L<=210:=My a;rw[y];refine cb (Yi c L n _ _ O a w O O) λz ⟨A,i⟩=>?_;have l:iG 10 ⟨o.1,z.1⟩:=⟨p,A.mono (cQ _) O⟩
 refine ag (IX O (l.mono O).sm d) (ab.cond (λ_=>ab.some ⟨l,i.mono O⟩) λ_=>ag (x:=⟨[0,0,0,0],0⟩) rfl (ab.some ⟨⟨o3 (by unfold dq;simp),⟨aV,ug,ub,λk h=>by simp at h⟩⟩,i.mono O⟩))
theorem YD:Dl N [65,91,105,93,61,40,65,91,105,93,43,123,105,125,41]=some (⟨⟨[65],[⟨[1,0,0,0],0⟩]⟩,⟨4,0,⟨[],0⟩,⟨[],[]⟩,[⟨3,0,⟨[],0⟩,⟨[65],[⟨[1,0,0,0],0⟩]⟩,[]⟩,⟨2,0,⟨[1,0,0,0],0⟩,⟨[],[]⟩,[]⟩]⟩⟩,true):=J
theorem aaF:EY N [4]=some ([⟨[⟨[0,0,0,0],0⟩],[⟨[0,0,0,0],4⟩]⟩],true):=J
def oJ:List ch:=[⟨[65],[6]⟩,⟨[66],[4,5]⟩,⟨[67],[3]⟩]
theorem zR:oJ.length<=4/\kH oJ:=by refine⟨by decide,λx a=>?_⟩;simp[oJ] at a;rcases a with rfl|rfl|rfl<;>decide
theorem Nj:rs 10 oJ:=by refine⟨by decide,λx a=>?_⟩;simp[oJ] at a;rcases a with rfl|rfl|rfl<;>decide
theorem aaW:fA 10 ⟨[⟨[⟨[0,0,0,0],0⟩],[⟨[0,0,0,0],4⟩]⟩],[⟨⟨[65],[⟨[1,0,0,0],0⟩]⟩,⟨4,0,⟨[],0⟩,⟨[],[]⟩,[⟨3,0,⟨[],0⟩,⟨[65],[⟨[1,0,0,0],0⟩]⟩,[]⟩,⟨2,0,⟨[1,0,0,0],0⟩,⟨[],[]⟩,[]⟩]⟩⟩]⟩:=by
 have i: ∀(a b c d e:Int),dq 10 ⟨[a,b,c,d],e⟩:=λa b c d e=>by unfold dq;simp
 refine⟨⟨aV,λl m=>?_⟩,aV,λs n=>?_⟩
 ·simp at m;subst m;exact⟨o3 (i _ _ _ _ _),o3 (i _ _ _ _ _)⟩
 simp at n;subst n;refine⟨o3 (i _ _ _ _ _),aV,ug,ub,λk o=>?_⟩;simp at o;rcases o with rfl|rfl
 ·exact⟨aV,ug,o3 (i _ _ _ _ _),λk h=>by simp at h⟩
 exact⟨aV,i _ _ _ _ _,ub,λk h=>by simp at h⟩
theorem aay(E:cO k r)(hk:0<=k/\k<=10000000):ab (Ag N r) (λx=>fA 10 x.1/\cO (k+40000) x.2):=by
 have fx:N=100000:=rfl;unfold Ag;refine ab.loop (λz:List UInt8×Int×Int=>0<=z.2.2/\z.2.2<=4/\cO (k+10000*z.2.2) ⟨z.1,z.2.1⟩) (λz=>(4-z.2.2).toNat) ?_ N _ ⟨Z,Z,by simpa using E⟩ Z;rintro K ⟨b,q,c⟩ ⟨M,P,L⟩ Q;dsimp only at M P L⊢;refine aP (λS=>?_) λT=>ag YD (ag aaF (ab.some ⟨aaW,L.mono O⟩));refine cb (ZC O L O) λi ⟨⟨n3,V⟩,IG⟩=>cb (gR N IG O aV) λe ⟨m6,ahm⟩=>?_;have hm:1<=e.1/\e.1<=3:=by simp at m6;omega
 refine ab.loop (λz:List UInt8×Int×List Loop×List Stmt×Int=>z.2.2.1=i.1/\0<=z.2.2.2.2/\z.2.2.2.2<=e.1/\(z.2.2.2.1.length:Int)+z.2.2.2.2<=e.1/\cO (k+10000*c+41+1500*(e.1-z.2.2.2.2)) ⟨z.1,z.2.1⟩/\ ∀s∈z.2.2.2.1,iG 10 s) (λz=>z.2.2.2.2.toNat) ?_ N _ ⟨rfl,Z,Z,aV,ahm.mono Z,λs h=>by simp at h⟩ Z;rintro m ⟨cU,lp,agL,cT,w⟩ ⟨X,sA,iQ,Qf,G,H⟩ n;dsimp only at X sA iQ Qf G H⊢;subst X;have a: ∀(l:List Stmt),l.length<=10->(∀s∈l,iG 10 s)->fA 10 ⟨i.1,l⟩:=λl h1 h2=>⟨V,h1,h2⟩
 refine aP (λY=>?_) λf=>?_
 ·refine ab.aA (λz:List UInt8×Int×List Stmt=>cO (k+10000*c+41+1500*(e.1-w)+1500) ⟨z.1,z.2.1⟩/\z.2.2.length<=cT.length+1/\ ∀s∈z.2.2,iG 10 s) (λaez o=>?_) λz eM=>?_
  ·refine ab.loop (λz:List UInt8×Int×Int=>0<=z.2.2/\z.2.2<=5/\cO (k+10000*c+41+1500*(e.1-w)+300*z.2.2) ⟨z.1,z.2.1⟩) (λz=>(5-z.2.2).toNat) ?_ N _ ⟨Z,Z,by simpa using G⟩ Z;rintro p ⟨cu,q2,v⟩ ⟨g1,g2,R⟩ y;dsimp only at g1 g2 R⊢;refine aP (λg=>?_) λt=>o _ ⟨R.mono O,Z,H⟩;refine cb (Z2 O R O (d:=(i.1.length:Int)) O) λA ⟨B,C⟩=>ag (x:=oJ) rfl ?_;have U:Bg ⟨i.1,[A.1]⟩:=((a [A.1] aV λs I=>by simp at I;subst I;exact B).mono O).sm;refine ag (D6 O zR.1 zR.2 U) (ab.cond (λ_=>ag (cY bQ) (o _ ⟨C.mono O,aV,λs I=>?_⟩)) λ_=>?_)
   ·rcases d'.1 I with h|h
    ·exact H s h
    simp at h;subst h;exact B
   rw[be O];exact y _ ⟨Z,Z,C.mono Z⟩ Z
  obtain⟨y1,z2,z3⟩:=z;obtain⟨D,W,F⟩:=eM;dsimp only at D W F⊢;rw[be O];exact n _ ⟨rfl,Z,Z,Z,D.mono Z,F⟩ Z
 have u:fA 10 ⟨i.1,cT⟩:=a cT O H;refine ag (x:=oJ) rfl (ag (D6 O zR.1 zR.2 (u.mono O).sm) ?_);refine ab.aA (λz=>True) (λj o=>ab.cond (λ_=>o _ trivial) λ_=>o _ trivial) λz _=>?_;cases z with
 |true=>exact ab.some ⟨u,G.mono O⟩
 |false=>
  refine b3 ?_;rw[be O];exact Q _ ⟨Z,Z,G.mono Z⟩ Z
theorem XB(o:cO k r)(G:0<=k/\k<=1000000):ab (Af N r) (λx=>da 10 x.1/\cO (k+200000) x.2):=by
 have H:N=100000:=rfl;unfold Af;refine ag (x:=oJ) rfl (cb (gR N o O aV) λe ⟨p,s⟩=>?_);have I:1<=e.1/\e.1<=3:=by simp at p;omega
 refine ab.loop (λz:List UInt8×Int×List Part×Int=>0<=z.2.2.2/\(z.2.2.1.length:Int)+z.2.2.2=e.1/\cO (k+1+40000*z.2.2.1.length) ⟨z.1,z.2.1⟩/\ ∀x∈z.2.2.1,fA 10 x) (λz=>z.2.2.2.toNat) ?_ N _ ⟨Z,aV,by simpa using s,λx h=>by simp at h⟩ Z;rintro i ⟨b,q,w,c⟩ ⟨y,A,a,d⟩ l;dsimp only at y A a d⊢;refine aP (λB=>?_) λC=>?_
 ·refine cb (aay a O) λK ⟨D,F⟩=>ag (cY bQ) ?_;rw[be O];refine l _ ⟨Z,by dsimp only;simp;omega,F.mono bQ,λx m=>?_⟩ Z;rcases d'.1 m with h|h
  ·exact d x h
  simp at h;subst h;exact D
 have n:da 10 ⟨oJ,w⟩:=⟨Nj,Z,d⟩
 refine ag (kv O (n.mono O).sm) (ab.cond (λ_=>ab.some ⟨n,a.mono O⟩) λ_=>ag (x:=oJ) rfl (ag (hR O O O) (ab.some ⟨⟨Nj,?_,λx m=>d x ?_⟩,a.mono O⟩)))
 ·simp;omega
 exact gh (eY m)
theorem EP{k h:Type}{l:List k}{f:k->Option h}{g:k->h->k}{K:List k->Option R}(m: ∀x∈l,∃z,f x=some z/\g x z=x)(B:l.length<=1000)(C:5000<=n)(o:ab (K l) Q):
  ab (bp (λa ((x,i):List k×Int)=>bif decide (i<(l.length:Int)) then(Option.bind (au l i) λy=>Option.bind (f y) λz=>Option.bind (app x [g y z]) λw=>a (w,wr (i+1))) else K x) n ([],0)) Q:=by
 refine ab.loop (λz:List k×Int=> ∃i:Nat,z.2=i/\i<=l.length/\z.1=l.take i) (λz=>l.length-z.2.toNat) ?_ n _ ⟨0,rfl,O,aV⟩ Z;rintro a ⟨x,z⟩ ⟨i,e,D,c⟩ p;dsimp only at e c⊢;subst e;refine aP (λq=>?_) λr=>?_
 ·have bM:=br (O:i<l.length);have s:x.length<=1000:=by rw[c,cG];omega
  obtain⟨y,A,d⟩:=m _ (bE bM);refine ag (bk bM) (ag A (ag (cY bQ) ?_));rw[be O];refine p _ ⟨i+1,Z,O,?_⟩ Z;dsimp only;rw[en,bM,c,d];rfl
 have:i=l.length:=O
 rw[c,this,c6];exact o
theorem qS{k:Type}{l:List k}{f:k->Option k}{K:List k->Option R}(c: ∀x∈l,f x=some x)(d:l.length<=1000)(e:5000<=n)(h:ab (K l) Q):
  ab (bp (λa ((x,i):List k×Int)=>bif decide (i<(l.length:Int)) then(Option.bind (au l i) λy=>Option.bind (f y) λz=>Option.bind (app x [z]) λw=>a (w,wr (i+1))) else K x) n ([],0)) Q:=
 EP (g:=λ_ z=>z) (λx m=>⟨x,c x m,rfl⟩) d e h
theorem Kg: ∀(L n:Nat) (e:Expr),5000+L<=n->ia 1000 L e->qW (n+1) e=some e
 |0,_,_,_,h=>h.elim
 |L+1,n,e,m,h=>by
  obtain⟨a,c,d,i⟩:=h;unfold qW;refine ab.eq (ag (y8 n c) (ag (yF O d.sm) ?_));obtain⟨n,rfl⟩: ∃j,n=j+1:=⟨n-1,O⟩
  exact qS (f:=qW (n+1)) (K:=λk=>some (⟨e.kind,e.num,e.index,e.read,k⟩:Expr)) (λx l=>Kg L n x O (i x l)) a O (ab.some (by cases e;rfl))
theorem Ke(a:6000<=n)(h:iG 1000 s):t6 n s=some s:=by
 obtain⟨n,rfl⟩: ∃j,n=j+1:=⟨n-1,O⟩
 unfold t6;rw[yF O h.1.sm,Kg 5 n s.value O h.2];rfl
theorem Kf(R:6000<=n){nest:List Loop}(h:ko 1000 nest):vQ n nest=some nest:=by
 obtain⟨U,C⟩:=h;refine ab.eq ?_;unfold vQ;refine ab.loop (λz:List Loop×Int=> ∃i:Nat,z.2=i/\i<=nest.length/\z.1=nest.take i) (λz=>nest.length-z.2.toNat) ?_ n _ ⟨0,rfl,O,aV⟩ Z;rintro c ⟨x,z⟩ ⟨i,e,W,k⟩ D;dsimp only at e k⊢;subst e;refine aP (λF=>?_) λG=>ab.some ?_
 ·have bM:=br (O:i<nest.length);obtain⟨⟨X,H⟩,⟨ev,cz⟩⟩:=C _ (bE bM);have I:x.length<=1000:=by rw[k,cG];omega
  refine ab.loop (λz:List ay×Int=> ∃t:Nat,z.2=t/\t<=nest[i].bf.length/\z.1=nest[i].bf.take t) (λz=>nest[i].bf.length-z.2.toNat) ?_ n _ ⟨0,rfl,O,aV⟩ Z;rintro m ⟨y,z⟩ ⟨t,e,Y,o⟩ p;dsimp only at e o⊢;subst e;refine ag (bk bM) (aP (λA=>?_) λB=>?_)
  ·have d:=br (O:t<nest[i].bf.length);have L:y.length<=1000:=by rw[o,cG];omega
   refine ag (bk d) (ag (nk _ (H _ (bE d))) (ag (cY bQ) ?_));rw[be O];refine p _ ⟨t+1,Z,O,?_⟩ Z;dsimp only;rw[en,d,o];rfl
  have q:t=nest[i].bf.length:=O
  refine EP (l:=nest[i].aH) (f:=λa:ay=>app [] a.aT) (g:=λa r=>(⟨r,a.const⟩:ay)) (K:=λs=>Option.bind (app x [(⟨y,s⟩:Loop)]) λw=>c (w,wr ((i:Int)+1))) (λa Q=>⟨_,nk _ (cz a Q),rfl⟩) ev O ?_;refine ag (cY bQ) ?_;rw[be O];refine D _ ⟨i+1,Z,O,?_⟩ Z;dsimp only;rw[en,bM,k,o,q,c6];rfl
 have:i=nest.length:=O
 rw[k,this,c6]
theorem og(F:6000<=n)(h:da 1000 p):sY n p=some p:=by
 obtain⟨⟨aJ,a2⟩,v,I⟩:=h;refine ab.eq ?_;unfold sY;refine EP (n:=n) (l:=p.aR) (f:=λw:ch=>app [] w.bT) (g:=λw L=>(⟨w.name,L⟩:ch)) (K:=λQ=>bp (λc ((G,y):(List Part)×Int)=>
    bif decide (y<(p.parts.length:Int)) then(
     Option.bind (au p.parts y) λk=>
     Option.bind (vQ n k.nest) λA=>
     bp (λd ((e,m):(List Stmt)×Int)=>
      bif decide (m<(k.body.length:Int)) then(
       Option.bind (au k.body m) λB=>
       Option.bind (t6 n B) λC=>
       Option.bind (app e [C]) λD=>
       d (D,wr (m+1))
      ) else(
       Option.bind (app G [(⟨A,e⟩:Part)]) λo=>
       c (o,wr (y+1))
      )
     ) n ([],0)
    ) else(
     some (⟨Q,G⟩:Prog)
    )
   ) n ([],0)) (λa R=>⟨_,nk _ (a2 a R),rfl⟩) aJ O ?_
 refine ab.loop (λz:List Part×Int=> ∃i:Nat,z.2=i/\i<=p.parts.length/\z.1=p.parts.take i) (λz=>p.parts.length-z.2.toNat) ?_ n _ ⟨0,rfl,O,aV⟩ Z;rintro q ⟨x,z⟩ ⟨i,H,E,r⟩ U;dsimp only at H r⊢;subst H;refine aP (λW=>?_) λX=>ab.some ?_
 ·have bM:=br (O:i<p.parts.length);obtain⟨Y,b,j⟩:=I _ (bE bM);have t:x.length<=1000:=by rw[r,cG];omega
  refine ag (bk bM) (ag (Kf F Y) ?_);refine qS (f:=t6 n) (K:=λe=>Option.bind (app x [(⟨p.parts[i].nest,e⟩:Part)]) λo=>q (o,wr ((i:Int)+1))) (λs u=>Ke F (j s u)) b O ?_;refine ag (cY bQ) ?_;rw[be O];refine U _ ⟨i+1,Z,O,?_⟩ Z;dsimp only;rw[en,bM,r];rfl
 have:i=p.parts.length:=O
 rw[r,this,c6]
theorem pB{k:Type}{l:List k}{i:Nat}{x:k}{P:k->Prop}(h: ∀y∈l,P y)(c:P x): ∀y∈l.set i x,P y:=λy d=>by
 rcases q7 d with a|a
 ·exact h y a
 rw[a];exact c
theorem AH{k:Type}{l:List k}{x:k}{P:k->Prop}(h: ∀y∈l,P y)(c:P x): ∀y∈l++[x],P y:=λy d=>by
 rcases d'.1 d with a|a
 ·exact h y a
 simp at a;rw[a];exact c
theorem dK{k:Type}{l:List k}{i:Int}(h:0<=i/\i<l.length)(x:k):b' l i x=some (l.set i.toNat x):=by unfold b';rw[a1 h]
theorem aaz{l:List ay}(h:eR B l)(c:dq (B+5) a):eR (B+5) (l++[a]):=⟨by have:=h.1;simp;omega,AH (λy d=>(h.2 y d).mono O) c⟩
theorem M3{l:List ay}(h:eR B l)(d:dq (B+5) a)(e:dq (B+5) b):eR (B+5) (l++[a,b]):=⟨by have:=h.1;simp;omega,λy i=>by
 rcases d'.1 i with c|c
 ·exact(h.2 y c).mono O
 simp at c;rcases c with rfl|rfl;exact d;exact e⟩
theorem Ay(h:4<=B)(c:Int):dq B ⟨[0,0,0,0],c⟩:=by unfold dq;simpa using h
theorem FR(W:6000<=n)(P:10<=B/\B<=900)(L:cO k r)(S:0<=k/\k<=90000000){c:List Loop}(h:ko B c):ab (ve n r c) (λx=>ko (B+5) x.1/\cO (k+5) x.2):=by
 unfold ve;refine ag (Kf W (h.mono O)) (aP (λ_=>ab.some ⟨h.mono O,L.mono O⟩) λX=>?_);have s:0<c.length:=O
 have o:=h.mono (O:B<=B+5);have Y:=h.1;have b:wr ((c.length:Int)-1)=(c.length:Int)-1:=be O;rw[b];refine ab.aA (λz:List UInt8×Int×List Loop=>cO (k+5) ⟨z.1,z.2.1⟩/\ko (B+5) z.2.2) (λj p=>?_) λz Q=>ab.some ⟨Q.2,Q.1⟩;have d: ∀(i:Nat) (l:Loop),eR (B+5) l.bf->eR (B+5) l.aH->ko (B+5) (c.set i l):=λi l f g=>⟨by rw[eS];exact o.1,pB o.2 ⟨f,g⟩⟩
 obtain⟨T,w,e⟩:=gy (l:=c) (i:=0) O O;obtain⟨V,A,m⟩:=gy (l:=c) (i:=(c.length:Int)-1) O O;have R:=h.2 _ (bE e);have U:=h.2 _ (bE m);have C:=o.2 _ (bE e);have D:=o.2 _ (bE m);refine cb (jn n L O) λiB ⟨_,_,q⟩=>aP (λ_=>?_) λ_=>aP (λ_=>?_) λ_=>aP (λ_=>?_) λ_=>aP (λ_=>?_) λ_=>aP (λ_=>?_) λ_=>p _ ⟨q.mono O,o⟩
 ·refine ag w (cb (jn n q O) λkU ⟨t,u,v⟩=>cb (wO n ⟨t,by have:=u O;omega⟩) λoR E=>ag (cY (by have:=R.1.1;simp;omega)) (ag (dK O _) (p _ ⟨v.mono O,d _ _ (aaz R.1 (E.O'.mono O)) C.2⟩)))
 ·exact ag A (ag (dK O _) (p _ ⟨q.mono O,d _ _ D.1 ⟨aV,λa F=>by simp at F⟩⟩))
 ·exact ag A (ag (hg _ _) (ag (hg _ _) (ag (cY (by have:=U.2.1;simp;omega)) (ag (dK O _) (p _ ⟨q.mono O,d _ _ D.1 (M3 U.2 (Ay O _) (Ay O _))⟩)))))
 ·exact ag (hg _ _) (ag w (ag (dK O _) (p _ ⟨q.mono O,d _ _ C.1 ⟨aV,λa F=>by simp at F;subst F;exact Ay O _⟩⟩)))
 refine ab.loop (λz:List Loop=>0<z.length/\ko (B+5) z) (λz=>5-z.length) ?_ n _ ⟨s,o⟩ O;rintro G z ⟨y1,H⟩ I;refine aP (λM=>?_) λ_=>p _ ⟨q.mono O,H⟩;obtain⟨y,N,K⟩:=gy (l:=z) (i:=0) O O;exact ag N (ag (cY bQ) (I _ ⟨aV,bQ,AH H.2 (H.2 _ (bE K))⟩ bQ))
theorem Gb(y:6000<=n)(I:10<=B/\B<=900)(A:cO k r)(K:0<=k/\k<=90000000)(h:iG B s):ab (vd n r s) (λx=>iG (B+5) x.1/\cO (k+5) x.2):=by
 have q:=h.mono (O:B<=B+5);obtain⟨l,m,C,D,c⟩:=q;have F:=h.1.1;have G:=h.2.1;unfold vd;refine ag (Ke y (h.mono O)) ?_;refine ab.aA (λz:List UInt8×Int×List ay×List Expr×List UInt8×Int×Int=>cO (k+5) ⟨z.1,z.2.1⟩/\eR (B+5) z.2.2.1/\z.2.2.2.1.length<=B+5/\ ∀e∈z.2.2.2.1,ia (B+5) 4 e) (λj d=>?_) λz p=>ab.some ⟨⟨p.2.1,p.2.2.1,C,D,p.2.2.2⟩,p.1⟩;refine cb (jn n A O) λL ⟨_,_,i⟩=>aP (λ_=>?_) λ_=>aP (λ_=>?_) λ_=>aP (λ_=>?_) λ_=>aP (λ_=>?_) λ_=>aP (λ_=>?_) λ_=>d _ ⟨i.mono O,l,m,c⟩
 ·exact cb (Bt n i O aV) λw ⟨_,o⟩=>d _ ⟨o.mono O,l,m,c⟩
 ·exact cb (wO n (v:=3) O) λQ q=>ag (x:=⟨[0,0,0,0],0⟩) rfl (ag (cY bQ) (d _ ⟨i.mono O,M3 h.1 (q.O'.mono O) (Ay O _),m,c⟩))
 ·exact cb (gR n i O aV) λw ⟨_,o⟩=>d _ ⟨o.mono O,l,m,c⟩
 ·exact cb (gR n i O aV) λw ⟨_,o⟩=>d _ ⟨o.mono O,l,m,c⟩
 exact ag (cY bQ) (d _ ⟨i.mono O,l,bQ,AH c ⟨aV,by unfold dq;simp,⟨aV,λa H=>by simp at H⟩,λk h=>by simp at h⟩⟩)
theorem ZE(F:6000<=n)(S:cO k r)(hk:0<=k/\k<=80000000)(h:da 10 p):ab (DI n r p) (λx=>da 30 x.1/\cO (k+30) x.2):=by
 have W:=h.mono (O:10<=30);obtain⟨m,C,o⟩:=W;have fU:=h.1.1;have hp:=h.2.1;unfold DI;refine ag (og F (h.mono O)) ?_;have T:wr ((p.parts.length:Int)-1)=(p.parts.length:Int)-1:=be O;rw[T];refine ab.aA (λz:List UInt8×Int×List ch×List Part=>cO (k+30) ⟨z.1,z.2.1⟩/\rs 30 z.2.2.1/\z.2.2.2.length<=30/\ ∀x∈z.2.2.2,fA 30 x) (λj R=>?_) λz U=>ab.some ⟨⟨U.2.1,U.2.2.1,U.2.2.2⟩,U.1⟩;have q: ∀(i:Nat) (x:Part),fA 30 x->(p.parts.set i x).length<=30/\ ∀y∈p.parts.set i x,fA 30 y:=λi x g=>⟨by rw[eS];exact C,pB o g⟩
 have a: ∀{X:cB},cO (k+20) X->ab (j (X.b,X.p,p.aR,p.parts)) (λx=>da 30 x.1/\cO (k+30) x.2):=λY=>R _ ⟨Y.mono O,m,C,o⟩;refine cb (jn n S O) λiB ⟨_,_,A⟩=>aP (λ_=>?_) λ_=>aP (λ_=>?_) λ_=>aP (λ_=>?_) λ_=>aP (λ_=>?_) λ_=>aP (λ_=>?_) λ_=>a (A.mono O)
 ·refine cb (Bt n A O aV) λjT ⟨_,V⟩=>cb (gR n V O aV) λkU ⟨_,IG⟩=>ag (cY bQ) (R _ ⟨IG.mono O,⟨bQ,AH m.2 aV⟩,C,o⟩)
 ·refine aP (λc=>?_) λ_=>a (A.mono O);obtain⟨y,w,d⟩:=gy (l:=p.aR) (i:=0) O c;exact cb (gR n A O aV) λhZ ⟨_,ahn⟩=>ag w (ag (dK O _) (R _ ⟨ahn.mono O,⟨by rw[eS];exact m.1,pB m.2 aV⟩,C,o⟩))
 ·refine aP (λc=>?_) λ_=>a (A.mono O);obtain⟨y,w,d⟩:=gy (l:=p.parts) (i:=0) O c;have f:=h.2.2 _ (bE d);have e:=o _ (bE d);refine ag w (cb (FR F (B:=10) O A O f.1) λt ⟨G,H⟩=>cb (FR F (B:=15) O H O G) λu ⟨I,K⟩=>cb (FR F (B:=20) O K O I) λv ⟨L,Q⟩=>ag (dK O _) ?_);exact R _ ⟨Q.mono O,m,q _ _ ⟨L.mono O,e.2.1,e.2.2⟩⟩
 ·refine ab.aA (λz:Bool=>z=true->0<(p.parts.length:Int)/\ ∀x,au p.parts ((p.parts.length:Int)-1)=some x->0<(x.body.length:Int)) (λIh D=>aP (λc=>?_) λ_=>D _ λh=>by cases h) λz U=>?_
  ·obtain⟨y,w,d⟩:=gy (l:=p.parts) (i:=(p.parts.length:Int)-1) O O;refine ag w (D _ λcv=>⟨c,λx P=>?_⟩);rw[w] at P;cases P;exact e8 cv
  cases z with
  |false=>exact a (A.mono O)
  |true=>
   obtain⟨c,a'⟩:=U rfl;obtain⟨y,w,d⟩:=gy (l:=p.parts) (i:=(p.parts.length:Int)-1) O O;have E:=a' y w;have f:=h.2.2 _ (bE d);have e:=o _ (bE d);obtain⟨s,M,N⟩:=gy (l:=y.body) (i:=0) O E;have ms:=f.2.2 _ (bE N);refine bS (ag w (ag M (cb (Gb F (B:=10) O A O ms) λt ⟨G,H⟩=>cb (Gb F (B:=15) O H O G) λu ⟨I,K⟩=>cb (Gb F (B:=20) O K O I) λv ⟨L,Q⟩=>ag (dK O _) (ag (dK O _) ?_))));exact R _ ⟨Q.mono O,m,q _ _ ⟨e.1,by rw[eS];exact e.2.1,pB e.2.2 (L.mono O)⟩⟩
 refine aP (λc=>?_) λ_=>a (A.mono O);obtain⟨y,w,d⟩:=gy (l:=p.parts) (i:=(p.parts.length:Int)-1) O O;have e:=o _ (bE d);exact ag w (ag (dK O _) (R _ ⟨A.mono O,m,q _ _ ⟨e.1,aV,λs M=>by simp at M⟩⟩))
theorem ZY{r:List ch}(c:kH r):0<=gd r/\gd r<=36*r.length:=by have d:=nC (λx:ch=>hd x.bT) r λy a=>(rH (c y a)).1;have e:=A8 (λx:ch=>hd x.bT) 36 r λy a=>(rH (c y a)).2;unfold gd;omega
end Go.Lift
