/- Tools. -/
import Derived.Test.YtcihigfifglboabGreatGLiftLaw
set_option maxRecDepth 100000
set_option linter.unusedVariables false
namespace Go.Lift
open Go
section
abbrev N:Nat:=100000
def cM(k:Int)(r:cA):Prop:=0<=r.p/\r.p<=k/\r.b.length<=2000
variable {k:Int}{r:cA}
theorem cM.mono{a:Int}(h:cM k r)(c:k<=a):cM a r:=⟨h.1,by have:=h.2.1;omega,h.2.2⟩
theorem ZZ(a:List UInt8):ab (ze N a) (cM 0):=by unfold ze;refine ab.aA (λx=>x.length<=2000) (λj c=>aQ (λh=>ag (gN O O O) (c _ bQ)) λh=>c _ O) λz d=>ab.some ⟨gu 0,gu 0,d⟩
theorem Ow(x:UInt8):(x.toNat:Int)<=255:=by have:=UInt8.toNat_lt x;omega
theorem tu{n:Int}(h:n≠0):jA n=some ():=by unfold jA;rw[a6 h]
theorem Ny{m:Int}(B:cM k r)(T:k<=1000000000):ab (gA N r m) (λx=>0<=x.1/\(1<=m->x.1<m)/\cM (k+1) x.2):=by
 obtain⟨b,p⟩:=r;obtain⟨c,C,w⟩:=B;dsimp only at c C w;unfold gA;dsimp only;have D:wr (p+1)=p+1:=be O;have F:wr (p+1-1)=p:=by rw[be O];omega
 rw[D,F];have a:cM (k+1) ⟨b,p+1⟩:=⟨by show 0<=p+1;omega,by show p+1<=k+1;omega,w⟩
 refine ab.aA (λz=>z=false->1<=m/\b.length≠0) (λj A=>aQ (λh=>A _ λh=>by cases h) λh=>A _ λG=>⟨O,by simpa using G⟩) λz H=>?_;refine ab.cond (λ_=>ab.some ⟨aX,λh=>bQ,a⟩) λd=>?_;obtain⟨V,a8⟩:=H d;refine aQ (λe=>?_) λI=>?_
 ·obtain⟨x,n,_⟩:=gm c e;refine ag n (ag (tu O) (ab.some ⟨?_,λ_=>?_,a⟩))
  ·exact Int.tmod_nonneg _ O
  exact Int.tmod_lt_of_pos _ O
 have r9:1<=(b.length:Int)/\(b.length:Int)<=2000:=O
 have K:wr (p*7)=p*7:=be O;have L:wr (p*7+3)=p*7+3:=be O;rw[K,L];obtain⟨x,n,_⟩:=gm (l:=b) (i:=Int.tmod p b.length) (Int.tmod_nonneg _ c) (Int.tmod_lt_of_pos _ O);obtain⟨y,Q,_⟩:=gm (l:=b) (i:=Int.tmod (p*7+3) b.length) (Int.tmod_nonneg _ O) (Int.tmod_lt_of_pos _ O);refine ag (tu O) (ag n (ag (tu O) (ag Q (ag (tu O) (ag (tu O) (ab.some ⟨?_,λ_=>Int.tmod_lt_of_pos _ O,a⟩))))));refine Int.tmod_nonneg _ ?_;have R:=Ow x;have U:=Ow y;have o:0<=Int.tdiv p b.length:=Int.tdiv_nonneg c O;have s:Int.tdiv p b.length<=p:=Int.tdiv_le_self _ c;generalize Int.tdiv p b.length=q at o s;have W:wr ((x.toNat:Int)*131)=(x.toNat:Int)*131:=be O;have X:wr ((y.toNat:Int)*1117)=(y.toNat:Int)*1117:=be O;have Y:wr (p*29)=p*29:=be O;have f:wr q=q:=be O;have g:wr (q*53)=q*53:=be O;rw[W,X,Y,f,g];have t:wr ((x.toNat:Int)*131+(y.toNat:Int)*1117)=(x.toNat:Int)*131+(y.toNat:Int)*1117:=be O;rw[t];have u:wr ((x.toNat:Int)*131+(y.toNat:Int)*1117+p*29)=(x.toNat:Int)*131+(y.toNat:Int)*1117+p*29:=be O;rw[u];have v:wr ((x.toNat:Int)*131+(y.toNat:Int)*1117+p*29+q*53)=(x.toNat:Int)*131+(y.toNat:Int)*1117+p*29+q*53:=be O;rw[v];obtain⟨M,E⟩: ∃M:Nat,(x.toNat:Int)*131+(y.toNat:Int)*1117+p*29+q*53=M:=⟨((x.toNat:Int)*131+(y.toNat:Int)*1117+p*29+q*53).toNat,O⟩
 rw[E];have P:(M:Int)<=100000000000000:=O
 have S:Int.tdiv (M:Int) 64=((M / 64:Nat):Int):=by rw[Int.tdiv_eq_ediv_of_nonneg O];omega
 rw[S,be O,Ui _ _ O O];omega
theorem aaT{l:List Int}(c:cM k r)(d:k<=1000000000)(e:l≠[]):ab (fz N r l) (λx=>x.1∈l/\cM (k+1) x.2):=by
 unfold fz;have o:1<=l.length:=by cases l;exact bA rfl e;simp
 refine cc (Ny c d) λx ⟨h,i,m⟩=>?_;obtain⟨y,n,a⟩:=gm h (i O);exact ag n (ab.some ⟨bF a,m⟩)
end
section
def dot:List Int->List Int->Int
 |c::cs,x::xs=>c*x+dot cs xs
 |_,_=>0
def cI(m:Int)(x:Int):Prop:= -m<=x/\x<=m
variable {a:ay}{b c x d aH v M:Int}{i k n:Nat}{p l:List Int}{R:Type}{A B:Option R}{o:List Loop}{s:List UInt8}{Q:R->Prop}
theorem Ba{a:Int}(m:0<=a)(n:0<=b)(i:cI a c)(l:cI b x):cI (a*b) (c*x):=by
 obtain⟨o,p⟩:=i;obtain⟨q,r⟩:=l;constructor
 ·have h:=mK (O:0<=a+c) (O:0<=b+x);have k:=mK (O:0<=a-c) (O:0<=b-x);have d:(a+c)*(b+x)=a*b+a*x+c*b+c*x:=by rw[Int.add_mul,Int.mul_add,Int.mul_add];omega
  have e:(a-c)*(b-x)=a*b-a*x-c*b+c*x:=by rw[Int.sub_mul,Int.mul_sub,Int.mul_sub];omega
  rw[d] at h;rw[e] at k;omega
 have h:=mK (O:0<=a+c) (O:0<=b-x);have k:=mK (O:0<=a-c) (O:0<=b+x);have d:(a+c)*(b-x)=a*b-a*x+c*b-c*x:=by rw[Int.add_mul,Int.mul_sub,Int.mul_sub];omega
 have e:(a-c)*(b+x)=a*b+a*x-c*b-c*x:=by rw[Int.sub_mul,Int.mul_add,Int.mul_add];omega
 rw[d] at h;rw[e] at k;omega
theorem FQ(a:List Int):dot a []=0:=by cases a<;>rfl
theorem My: ∀{cs a:List Int} {c x:Int},cs[a.length]? =some c->dot cs (a++[x])=dot cs a+c*x
 | [],a,c,x,h=>by simp at h
 |d::cs,[],c,x,h=>by simp at h;subst h;simp[dot,FQ]
 |d::cs,y::a,c,x,h=>by
  have h:cs[a.length]? =some c:=by simpa using h
  simp only[List.cons_append,dot];rw[My h];omega
theorem Mx{d e:List Int}(h:d[i]? =some c)(a:e[i]? =some x):dot d (e.take (i+1))=dot d (e.take i)+c*x:=by have aH:=(bR.1 a).1;rw[ei,a];exact My (by simpa[Nat.min_eq_left (Nat.le_of_lt aH)] using h)
theorem GB{M:Int}(a:0<=M): ∀{cs xs:List Int},(∀c∈cs,cI 9 c)->(∀x∈xs,cI M x)->cI (9*M*xs.length) (dot cs xs)
 | [],xs,_,_=>by
  have:0<=9*M*(xs.length:Int):=mK O O;simp only[dot,cI];omega
 |d::cs,[],_,_=>by simp[dot,cI]
 |d::cs,y::xs,i,k=>by
  have l:=GB a (cs:=cs) (xs:=xs) (λc h=>i c (by simp[h])) λx h=>k x (by simp[h]);have m:=Ba O a (i d aX) (k y aX);have e:9*M*((y::xs).length:Int)=9*M*(xs.length:Int)+9*M:=by simp[Int.mul_add]
  rw[e];simp only[dot,cI] at*;omega
def dE(a c:Int):List Int:=(List.range (c-a).toNat).map (fun(i:Nat)=>a+(i:Int))
theorem ZU{a:Int}:v∈dE a aH↔a<=v/\v<aH:=by
 simp only[dE,List.mem_map,List.mem_range];constructor
 ·rintro⟨i,aH,rfl⟩;omega
 intro h;exact⟨(v-a).toNat,O,O⟩
theorem lJ{a:Int}(h:b<=a):dE a b=[]:=by unfold dE;rw[show(b-a).toNat=0 by omega];rfl
theorem t8{a:Int}(h:b<=a):dE b (a+1)=dE b a++[a]:=by unfold dE;rw[show(a+1-b).toNat=(a-b).toNat+1 by omega,pD,fQ];simp;omega
theorem zh{a:Int}(c:a<=v)(d:v<aH):dE a aH=dE a v++v::dE (v+1) aH:=by
 obtain⟨k,e⟩: ∃k:Nat,aH=v+1+k:=⟨(aH-v-1).toNat,O⟩
 subst e;clear d;induction k with
 |zero=>
  rw[show v+1+((0:Nat):Int)=v+1 by omega,t8 c,lJ (gu _)]
 |succ k h=>
  rw[show v+1+((k+1:Nat):Int)=v+1+(k:Int)+1 by omega,t8 O,h,t8 O];simp
theorem Au{k:Type}{f:k->Option Bool}{p:k->Bool}{l:List k}(z: ∀x∈l,f x=some (p x))(H:l.length<n)(A:l.length<=1000000):
  ∃r:Int,bo (λa (c:Int)=>bif decide (c<(l.length:Int)) then(Option.bind (au l c) λe=>Option.bind (f e) λi=>bif i then(some c) else(a (wr (c+1)))) else(some (-1))) n 0=some r/\decide (0<=r)=l.any p:=by
 suffices h:ab (bo (λa (c:Int)=>bif decide (c<(l.length:Int)) then(Option.bind (au l c) λe=>Option.bind (f e) λi=>bif i then(some c) else(a (wr (c+1)))) else(some (-1))) n 0) (λr=>decide (0<=r)=l.any p) by exact h
 refine ab.loop (λx:Int=>0<=x/\x<=l.length/\(l.take x.toNat).any p=false) (λx:Int=>l.length-x.toNat) ?_ n 0 ⟨O,O,aX⟩ bQ;rintro m x ⟨w,I,o⟩ B;refine aQ (λq=>?_) λC=>?_
 ·obtain⟨y,D,d⟩:=gm w q;have hm:=bF d;refine ag D (ag (z y hm) (ab.cond (λF=>ab.some ?_) λs=>?_))
  ·rw[show l.any p=true from ig.2 ⟨y,hm,F⟩];simp[w]
  rw[be O];refine B _ ⟨O,O,?_⟩ O;rw[show(x+1).toNat=x.toNat+1 by omega,ei,d];simp[o,s]
 refine ab.some ?_;have G:x.toNat=l.length:=O
 rw[G,c4] at o;rw[o];simp
theorem CV{f:Int->Option Bool}{p:Int->Bool}(c: ∀x∈l,f x=some (p x))(d:l.length<n)(a:l.length<=1000000):nU n l f=some (l.any p):=by obtain⟨r,e,h⟩:=Au c d a;unfold nU xK;rw[e,<-h];rfl
theorem xP{f:ay->Option Bool}{p:ay->Bool}{l:List ay}(c: ∀x∈l,f x=some (p x))(d:l.length<n)(a:l.length<=1000000):oS n l f=some (l.any p):=by obtain⟨r,e,h⟩:=Au c d a;unfold oS BT;rw[e,<-h];rfl
theorem Tr{f:Stmt->Option Bool}{p:Stmt->Bool}{l:List Stmt}(c: ∀x∈l,f x=some (p x))(d:l.length<n)(a:l.length<=1000000):BQ n l f=some (l.any p):=by obtain⟨r,e,h⟩:=Au c d a;unfold BQ It;rw[e,<-h];rfl
theorem RV{f:b0->Option Bool}{p:b0->Bool}{l:List b0}(c: ∀x∈l,f x=some (p x))(d:l.length<n)(a:l.length<=1000000):Bv n l f=some (l.any p):=by obtain⟨r,e,h⟩:=Au c d a;unfold Bv Ij;rw[e,<-h];rfl
theorem pz{k:Type}{l:List k}{p:Nat->k->Bool}{Q:Bool->Prop}{m:(Int->Option Bool)->Int->Option Bool}(D:l.length<n)(B:l.length<=1000000)
  (c: ∀a (i:Nat) x,l[i]? =some x->(p i x=true->ab (a ((i:Int)+1)) Q)->(p i x=false->Q false)->ab (m a (i:Int)) Q)
  (e: ∀a,(∀(i:Nat) x,l[i]? =some x->p i x=true)->ab (m a (l.length:Int)) Q) (o:(∃(i:Nat) (x:k),l[i]? =some x/\p i x=false)->Q false):ab (bo m n 0) Q:=by
 refine ab.loop (λx:Int=> ∃i:Nat,x=i/\i<=l.length/\ ∀(j:Nat) y,j<i->l[j]? =some y->p j y=true) (λx:Int=>l.length-x.toNat) ?_ n 0 ⟨0,rfl,O,λj y h=>O⟩ bQ;rintro a x ⟨i,rfl,F,A⟩ C;by_cases q:i<l.length
 ·have r:=bs q;refine c a i _ r (λs=>C _ ⟨i+1,O,O,λj y G d=>?_⟩ O) λs=>o ⟨i,_,r,s⟩;by_cases w:j=i
  ·subst w;rw[r] at d;cases d;exact s
  exact A j y O d
 have z:i=l.length:=O
 subst z;exact e a λj y d=>A j y (bR.1 d).1 d
def cQ(a:ay):Bool:=decide (a.aT.length=4)&&(decide (-99<=a.const/\a.const<=99)&&a.aT.all λc=>decide (-9<=c/\c<=9))
theorem fK(h:cQ a=true):a.aT.length=4/\cI 99 a.const/\ ∀c∈a.aT,cI 9 c:=by simp only[cQ,Bool.and_eq_true,decide_eq_true_eq,List.all_eq_true] at h;exact⟨h.1,h.2.1,h.2.2⟩
theorem d4(n:Nat)(x a b:Int):fg n x a b=some (decide (a<=x/\x<=b)):=by unfold fg;by_cases c:a<=x<;>by_cases d:x<=b<;>simp[aA,c,d]
theorem Q6(i:5000<=n)(a:ay)(k:a.aT.length<=1000):uP n a=some (cQ a):=by
 have h: ∀x∈a.aT,xO n x=some (!decide (-9<=x/\x<=9)):=λx _=>by unfold xO;rw[d4];rfl
 have bP:=CV (n:=n) h O O;unfold uP EW;rw[d4];simp only[aA,Option.bind];rw[bP];unfold cQ;have e:(a.aT.any λx=> !decide (-9<=x/\x<=9))= !(a.aT.all λc=>decide (-9<=c/\c<=9)):=by
  rw[s4];simp
 rw[e];by_cases d:a.aT.length=4
 ·rw[bz (show(a.aT.length:Int)=4 by omega),bz d];generalize decide (-99<=a.const/\a.const<=99)=b;cases b<;>simp
 rw[bx (show¬(a.aT.length:Int)=4 by omega),bx d];rfl
theorem yb(n:Nat)(x m:Int)(d:0<=m/\m<=1000000000):qE n x m=some (decide (-m<=x/\x<=m)):=by
 unfold qE;rw[be O];by_cases a: -m<=x<;>by_cases c:x<=m
 ·simp[aA,a,c]
 ·simp[aA,a,c]
 ·simp[aA,a,c]
 simp[aA,a,c]
theorem Is(A:5000<=n)(a:ay)(B:a.aT.length<=1000):so n a=some (cQ a):=by
 refine ab.eq ?_;unfold so;refine pz (l:=a.aT) (p:=λ_ c=>decide (-9<=c/\c<=9)) O O (λd i x k q r=>?_) (λd m=>?_) (λ⟨i,x,k,o⟩=>?_)
 ·rw[bz (show(i:Int)<(a.aT.length:Int) by have:=(bR.1 k).1;omega)];refine ag (bk k) (ag (yb n x 9 O) ?_);have aH:=(bR.1 k).1;cases o:decide (-9<=x/\x<=9) with
  |true=>show ab (d _) _;rw[be O];exact q o
  |false=>exact ab.some (r o)
 ·rw[bx (show¬(a.aT.length:Int)<(a.aT.length:Int) by omega)];have e:a.aT.all (λc=>decide (-9<=c/\c<=9))=true:=fw.2 λc w=>by obtain⟨i,aH⟩:=k' w;exact m i c aH
  refine ab.cond (λh=>(by cases h)) λ_=>?_;unfold cQ;rw[e];refine ab.aA (λz:Bool=>z=(decide (a.aT.length=4)&&(decide (-99<=a.const/\a.const<=99)&&true))) (λj s=>?_) λz y=>ab.some y;refine aQ (λh=>ag (yb n a.const 99 O) (s _ ?_)) λh=>s _ ?_
  ·rw[bz (O:a.aT.length=4)];simp
  rw[bx (show¬a.aT.length=4 by omega)];rfl
 unfold cQ;have e:a.aT.all (λc=>decide (-9<=c/\c<=9))=false:=jf.2 ⟨x,bF k,by rw[o];simp⟩;rw[e];simp
def i8(a:ay)(p:List Int):Int:=a.const+dot a.aT p
def Cq(M:Int)(p:List Int):Prop:= ∀x∈p,cI M x
theorem zv(c:cQ a=true)(l:p.length<=4)(d:0<=M/\M<=1000000000)(e:Cq M p)(i:Nat)(m:i<=p.length):cI 1000000000000 (a.const+dot a.aT (p.take i)):=by
 obtain⟨n,o,h⟩:=fK c;have q:=GB (M:=M) d.1 (cs:=a.aT) (xs:=p.take i) h λx k=>e x (fR k);have r:(p.take i).length<=4:=bQ
 have s:9*M*((p.take i).length:Int)<=9*M*4:=Int.mul_le_mul_of_nonneg_left O O;simp only[cI] at*;omega
theorem Xq(F:5000<=n)(h:cQ a=true)(r:p.length<=4)(l:0<=M/\M<=1000000000)(m:Cq M p):nW n a p=some (i8 a p):=by
 obtain⟨G,H,y⟩:=fK h;refine ab.eq ?_;unfold nW;refine ab.loop (λx:Int×Int=> ∃i:Nat,x.2=i/\i<=p.length/\x.1=a.const+dot a.aT (p.take i)) (λx=>p.length-x.2.toNat) ?_ n _ ⟨0,rfl,O,by simp[FQ]⟩ bQ;rintro o ⟨x,k⟩ ⟨i,s,z,q⟩ A;dsimp only at s q⊢;subst s;refine aQ (λe=>?_) λB=>ab.some ?_
 ·have e:i<p.length:=O
  have c:=bs e;have d:=bs (O:i<a.aT.length);have cv:=Mx d c;have C:=zv h r l m i z;have w:=zv h r l m (i+1) O;rw[cv] at w;have D:=Ba O l.1 (y _ (bF d)) (m _ (bF c));refine ag (bk c) (ag (bk d) ?_);simp only[cI] at C w D;rw[be (n:=a.aT[i]*p[i]) O,be O,be O];refine A _ ⟨i+1,Z,O,?_⟩ Z;dsimp only;rw[cv,q];omega
 have:i=p.length:=O
 rw[q,this,c4];rfl
theorem W6(K:5000<=n)(e:cQ a=true)(s:p.length<=4)(l:0<=M/\M<=1000000000)(m:Cq M p):oi n a p=some (i8 a p):=by
 obtain⟨L,Q,B⟩:=fK e;refine ab.eq ?_;unfold oi;refine ab.loop (λx:Int×Int=> ∃i:Nat,x.2=i/\i<=p.length/\x.1=a.const+dot a.aT (p.take i)) (λx=>p.length-x.2.toNat) ?_ n _ ⟨0,rfl,O,by simp[FQ]⟩ bQ;rintro o ⟨x,k⟩ ⟨i,w,C,q⟩ D;dsimp only at w q⊢;subst w;refine ab.aA (λz=>z=decide (i<p.length)) (λj y=>aQ (λh=>y _ ?_) λh=>y _ ?_) λz F=>?_
 ·rw[bz (O:i<p.length),bz (show(i:Int)<(a.aT.length:Int) by omega)]
 ·rw[bx (show¬i<p.length by omega)]
 subst F;refine aQ (λr=>?_) λG=>ab.some ?_
 ·have c:=bs r;have d:=bs (O:i<a.aT.length);have cv:=Mx d c;have H:=zv e s l m i C;have A:=zv e s l m (i+1) O;rw[cv] at A;have I:=Ba O l.1 (B _ (bF d)) (m _ (bF c));refine ag (bk d) (ag (bk c) ?_);simp only[cI] at H A I;rw[be (n:=a.aT[i]*p[i]) O,be O,be O];refine D _ ⟨i+1,Z,O,?_⟩ Z;dsimp only;rw[cv,q];omega
 have:i=p.length:=O
 rw[q,this,c4];rfl
theorem bS(h:ab A Q):ab (bif true then A else B) Q:=h
theorem b3(h:ab B Q):ab (bif false then A else B) Q:=h
def eG:List Int->Nat
 | []=>0
 |c::cs=>if eG cs=0 then(if c=0 then 0 else 1) else eG cs+1
theorem J5: ∀(l:List Int) (c:Int),eG (l++[c])=if c=0 then eG l else l.length+1
 | [],c=>by simp[eG]
 |d::l,c=>by
  have e:=J5 l c;simp only[List.cons_append,eG,e];by_cases a:c=0
  ·simp[a]
  simp[a]
theorem Kq(h:l[i]? =some c):eG (l.take (i+1))=if c=0 then eG (l.take i) else i+1:=by have aH:=(bR.1 h).1;rw[ei,h];show eG (l.take i++[c])=_;rw[J5,cJ,vx (Nat.le_of_lt aH)]
theorem yf: ∀{l:List Int} {i:Nat} {c:Int},l[i]? =some c->eG l<=i->c=0
 | [],i,c,h,_=>by simp at h
 |d::l,0,c,h,a=>by
  simp at h;subst h;simp only[eG] at a;by_cases e:eG l=0
  ·by_cases k:d=0
   ·exact k
   simp[e,k] at a
  simp[e] at a
 |d::l,i+1,c,h,a=>by
  have h:l[i]? =some c:=by simpa using h
  refine yf h ?_;simp only[eG] at a;by_cases e:eG l=0
  ·omega
  rw[a6 e] at a;omega
def jk(a:ay):Prop:=a.aT.length<=1000
def ki(l:List ay):Prop:=l.length<=1000/\ ∀a∈l,jk a
theorem yl(s:5000<=n)(l:jk a):ob n a=some (eG a.aT:Int):=by
 have l:a.aT.length<=1000:=l;refine ab.eq ?_;unfold ob;refine ab.loop (λx:Int×Int=> ∃i:Nat,x.2=i/\i<=a.aT.length/\x.1=(eG (a.aT.take i):Int)) (λx=>a.aT.length-x.2.toNat) ?_ n _ ⟨0,rfl,O,by simp[eG]⟩ bQ;rintro d ⟨x,k⟩ ⟨i,m,w,e⟩ p;dsimp only at m e⊢;subst m;refine aQ (λc=>?_) λq=>ab.some ?_
 ·have c:i<a.aT.length:=O
  have bP:=bs c;have cv:=Kq bP;refine ab.aA (λz:Int=>z=(eG (a.aT.take (i+1)):Int)) (λj o=>ag (bk bP) (eP (λh=>o _ ?_) λh=>o _ ?_)) λz r=>?_
  ·rw[cv,a6 h,be O];omega
  ·rw[cv,a1 h,e]
  rw[be O];exact p _ ⟨i+1,Z,O,r⟩ Z
 have:i=a.aT.length:=O
 rw[e,this,c4]
theorem yW(r:5000<=n)(p:jk a):qd n a=some (eG a.aT:Int):=by
 have p:a.aT.length<=1000:=p;refine ab.eq ?_;unfold qd;refine ab.loop (λx:Int=> ∃i:Nat,x=i/\i<=a.aT.length/\eG a.aT=eG (a.aT.take i)) (λx=>x.toNat) ?_ n _ ⟨a.aT.length,rfl,O,by rw[c4]⟩ bQ;rintro c x ⟨i,rfl,s,d⟩ q;cases i with
 |zero=>
  refine ab.aA (λz=>z=false) (λj k=>aQ (λh=>bA h (by decide)) λh=>k _ rfl) λz l=>?_;subst l;exact ab.some (by rw[d];rfl)
 |succ i=>
  have m:i<a.aT.length:=O
  have bP:=bs m;have cv:=Kq bP;have e:wr (((i+1:Nat):Int)-1)=(i:Int):=by rw[be O];omega
  rw[e];refine ab.aA (λz=>z=decide (a.aT[i]=0)) (λj k=>aQ (λh=>ag (bk bP) (k _ rfl)) λh=>bA (show(0:Int)<((i+1:Nat):Int) by omega) h) λz l=>?_;subst l;refine aQ (λo=>?_) λo=>ab.some ?_
  ·exact q _ ⟨i,rfl,O,by rw[d,cv,a1 o]⟩ O
  rw[d,cv,a6 o]
def eO(a:ay)(d:Int):Bool:=cQ a&&decide ((eG a.aT:Int)<=d)
def d8(l:List ay)(d:Int):Bool:=l.all (λa=>eO a d)&&decide (1<=l.length/\l.length<=2)
theorem B7(a b:Int):decide (a<b)= !decide (b<=a):=by
 by_cases h:a<b
 ·rw[bz h,bx O];rfl
 rw[bx h,bz O];rfl
theorem Ki(y:5000<=n){l:List ay}(C:ki l)(d:Int):v8 n l d=some (d8 l d):=by
 obtain⟨H,D⟩:=C;refine ab.eq ?_;unfold v8;refine pz (l:=l) (p:=λ_ a=>eO a d) O O (λk i x m r s=>?_) (λk o=>?_) (λ⟨i,x,m,F⟩=>?_)
 ·have aH:=(bR.1 m).1;have hm:=D x (bF m);rw[bz (show(i:Int)<(l.length:Int) by omega)];refine bS (ab.aA (λz=>z= !eO x d) (λj q=>ag (bk m) (ag (Is y x hm) ?_)) λz w=>?_)
  ·cases A:cQ x with
   |false=>exact q _ (by unfold eO;rw[A];rfl)
   |true=>exact ag (yl y hm) (q _ (by unfold eO;rw[A,B7];simp))
  subst w;cases B:eO x d with
  |true=>show ab (k _) _;rw[be O];exact r B
  |false=>exact ab.some (s B)
 ·rw[bx (show¬(l.length:Int)<(l.length:Int) by omega)];have e:l.all (λa=>eO a d)=true:=fw.2 λc G=>by obtain⟨i,aH⟩:=k' G;exact o i c aH
  unfold d8;rw[e];refine b3 (ab.aA (λz=>z=decide (1<=l.length/\l.length<=2)) (λj q=>aQ (λh=>q _ ?_) λh=>q _ ?_) λz w=>ab.some (by rw[w];rfl))
  ·by_cases I:l.length<=2
   ·rw[bz (show(l.length:Int)<=2 by omega),bz O]
   rw[bx (show¬(l.length:Int)<=2 by omega),bx O]
  rw[bx O]
 unfold d8;rw[jf.2 ⟨x,bF m,by rw[F];simp⟩];rfl
theorem KK(c:5000<=n)(e:jk a)(d:Int):uQ n a d=some (!eO a d):=by
 unfold uQ;rw[Q6 c a e];simp only[aA,Option.bind];cases h:cQ a with
 |false=>simp[eO,h]
 |true=>
  rw[yW c e];simp only[eO,h,Bool.not_true,cond_false,Bool.true_and];rw[B7]
theorem DL(n k:Nat):fg n (k:Int) 1 2=some (decide (1<=k/\k<=2)):=by
 rw[d4];congr 1;by_cases h:1<=k/\k<=2
 ·rw[bz h,bz O]
 rw[bx h,bx O]
theorem JB(c:5000<=n){l:List ay}(h:ki l)(d:Int):yr n l d=some (d8 l d):=by
 obtain⟨o,i⟩:=h;unfold yr;rw[DL];have bP:=xP (n:=n) (f:=λk=>uQ n k d) (p:=λa=> !eO a d) (l:=l) (λx m=>KK c (i x m) d) O O;simp only[aA,Option.bind];rw[bP];unfold d8;have e:(l.any λa=> !eO a d)= !(l.all λa=>eO a d):=by
  rw[s4];simp
 rw[e];cases decide (1<=l.length/\l.length<=2)<;>simp
def wO{k:Type}(p:Nat->k->Bool)(l:List k):Bool:=l.zipIdx.all λq=>p q.2 q.1
theorem Dh{k:Type}{p:Nat->k->Bool}{l:List k}(h: ∀(i:Nat) x,l[i]? =some x->p i x=true):wO p l=true:=
 fw.2 λq a=>h q.2 q.1 (C3.1 a)
theorem CR{k:Type}{p:Nat->k->Bool}{l:List k}{x:k}(h:l[i]? =some x)(a:p i x=false):wO p l=false:=
 jf.2 ⟨(x,i),C3.2 h,by rw[a];simp⟩
theorem KH{k:Type}{p:Nat->k->Bool}{l:List k}(h:wO p l=true){x:k}(a:l[i]? =some x):p i x=true:=
 fw.1 h (x,i) (C3.2 a)
def k2(a:List Loop):Bool:=wO (λi l=>d8 l.bf (i:Int)&&d8 l.aH (i:Int)) a&&decide (a.length<=4)
def pV(a:List Loop):Prop:=a.length<=1000/\ ∀l∈a,ki l.bf/\ki l.aH
theorem Sr(m:5000<=n)(h:pV o):C1 n o=some (k2 o):=by
 obtain⟨D,w⟩:=h;refine ab.eq ?_;unfold C1;refine pz (l:=o) (p:=λi l=>d8 l.bf (i:Int)&&d8 l.aH (i:Int)) O O (λa i x c e k=>?_) (λa d=>?_) (λ⟨i,x,c,y⟩=>?_)
 ·have aH:=(bR.1 c).1;obtain⟨A,B⟩:=w x (bF c);rw[bz (show(i:Int)<(o.length:Int) by omega)];refine ag (bk c) (ab.aA (λz=>z= !(d8 x.bf (i:Int)&&d8 x.aH (i:Int))) (λj q=>ag (JB m A _) ?_) λz C=>?_)
  ·cases r:d8 x.bf (i:Int) with
   |false=>exact q _ (by rw[r];rfl)
   |true=>exact ag (JB m B _) (q _ (by rw[r];rfl))
  subst C;cases s:(d8 x.bf (i:Int)&&d8 x.aH (i:Int)) with
  |true=>show ab (a _) _;rw[be O];exact e s
  |false=>exact ab.some (k s)
 ·rw[bx (show¬(o.length:Int)<(o.length:Int) by omega)];refine ab.some ?_;unfold k2;rw[Dh d,fb];exact decide_eq_decide.2 O
 unfold k2;rw[CR c y];rfl
theorem Sf(s:5000<=n)(h:pV o):Dc n o=some (k2 o):=by
 obtain⟨G,B⟩:=h;unfold Dc;by_cases w:o.length<=4
 ·rw[bz (show(o.length:Int)<=4 by omega)];refine ab.eq ?_;refine pz (l:=o) (p:=λi l=>d8 l.bf (i:Int)&&d8 l.aH (i:Int)) O O (λa i x d q r=>?_) (λa e=>?_) (λ⟨i,x,d,C⟩=>?_)
  ·have aH:=(bR.1 d).1;obtain⟨D,F⟩:=B x (bF d);rw[bz (show(i:Int)<(o.length:Int) by omega)];refine ab.aA (λz=>z=true) (λj c=>bS (c _ rfl)) λz m=>?_;subst m;refine bS (ab.aA (λz=>z= !(d8 x.bf (i:Int)&&d8 x.aH (i:Int))) (λj c=>ag (bk d) (ag (Ki s D _) ?_)) λz m=>?_)
   ·cases y:d8 x.bf (i:Int) with
    |false=>exact c _ (by rw[y];rfl)
    |true=>exact ag (Ki s F _) (c _ (by rw[y];rfl))
   subst m;cases A:(d8 x.bf (i:Int)&&d8 x.aH (i:Int)) with
   |true=>show ab (a _) _;rw[be O];exact q A
   |false=>exact ab.some (r A)
  ·rw[bx (show¬(o.length:Int)<(o.length:Int) by omega)];refine ab.aA (λz=>z=false) (λj c=>b3 (c _ rfl)) λz m=>?_;subst m;refine ab.some ?_;unfold k2;rw[Dh e,bz w];rfl
  unfold k2;rw[CR d C];rfl
 obtain⟨k,rfl⟩: ∃k,n=k+1:=⟨n-1,O⟩
 rw[bx (show¬(o.length:Int)<=4 by omega)];unfold k2;rw[bx w,jg];simp only[bo,aA];cases decide ((0:Int)<(o.length:Int))<;>rfl
def mq:List Int->Int
 | []=>0
 |x::a=>a.foldl max x
def oh:List Int->Int
 | []=>0
 |x::a=>a.foldl min x
theorem Zq(h:l≠[])(x:Int):mq (l++[x])=max (mq l) x:=by
 cases l with
 |nil=>exact bA rfl h
 |cons a l=>simp[mq,List.foldl_append]
theorem Zs(h:l≠[])(x:Int):oh (l++[x])=min (oh l) x:=by
 cases l with
 |nil=>exact bA rfl h
 |cons a l=>simp[oh,List.foldl_append]
theorem OC: ∀(l:List Int) (a:Int),a<=l.foldl max a
 | [],a=>gu _
 |x::l,a=>Int.le_trans (Int.le_max_left a x) (OC l (max a x))
theorem OE: ∀(l:List Int) (a:Int),l.foldl min a<=a
 | [],a=>gu _
 |x::l,a=>Int.le_trans (OE l (min a x)) (Int.min_le_left a x)
def ly(l:List ay)(p:List Int):List Int:=l.map λa=>i8 a p
def dF(l:Loop)(p:List Int):Int:=mq (ly l.bf p)
def ej(l:Loop)(p:List Int):Int:=oh (ly l.aH p)
def hQ(k:Nat)(p:List Int):Prop:=p.length=k/\k<=4/\Cq (100*40^k) p
theorem rK(h:k<=4):(0:Int)<=100*40^k/\(100:Int)*40^k<=1000000000:=by
 match k,h with
 |0,_=>decide
 |1,_=>decide
 |2,_=>decide
 |3,_=>decide
 |4,_=>decide
theorem pP{l:List ay}(h:d8 l d=true):1<=l.length/\l.length<=2/\ ∀a∈l,cQ a=true:=by
 simp only[d8,Bool.and_eq_true,decide_eq_true_eq,List.all_eq_true] at h;refine⟨h.2.1,h.2.2,λa c=>?_⟩
 have:=h.1 a c;simp only[eO,Bool.and_eq_true] at this;exact this.1
theorem N4(c:cQ a=true)(d:hQ k p)(e:k<=3): -(40*(100*40^k))<=i8 a p/\i8 a p<=40*(100*40^k):=by
 obtain⟨n,o,h⟩:=fK c;obtain⟨q,r,i⟩:=d;obtain⟨l,s⟩:=rK (k:=k) O;have w:(100:Int)<=100*40^k:=by
  match k,e with
  |0,_=>decide
  |1,_=>decide
  |2,_=>decide
  |3,_=>decide
 generalize (100*40^k:Int)=M at*;have y:=GB (M:=M) l (cs:=a.aT) (xs:=p) h λx m=>i x m;have z:9*M*(p.length:Int)<=9*M*3:=Int.mul_le_mul_of_nonneg_left O O;simp only[cI] at*;unfold i8;omega
theorem wZ(d:5000<=n)(e:cQ a=true)(c:hQ k p):oi n a p=some (i8 a p):=
 W6 d e (by have:=c.1;have:=c.2.1;omega) (rK c.2.1) c.2.2
theorem w4(d:5000<=n)(e:cQ a=true)(c:hQ k p):nW n a p=some (i8 a p):=
 Xq d e (by have:=c.1;have:=c.2.1;omega) (rK c.2.1) c.2.2
theorem oq{l:List ay}(h:l[i]? =some a):(ly l p)[i]? =some (i8 a p):=by unfold ly;rw[List.getElem?_map,h];rfl
theorem AJ(l:List ay)(p:List Int):(ly l p).length=l.length:=c6 ..
theorem Nb{k:Type}{l:List k}(h:1<=i)(a:1<=l.length):l.take i≠[]:=by
 intro e
 have:(l.take i).length=0:=by rw[e];rfl
 rw[cJ] at this;omega
theorem NA(h:l[i]? =some x)(a:1<=i):mq (l.take (i+1))=max (mq (l.take i)) x:=by have:=(bR.1 h).1;rw[ei,h];exact Zq (Nb a O) x
theorem ND(h:l[i]? =some x)(a:1<=i):oh (l.take (i+1))=min (oh (l.take i)) x:=by have:=(bR.1 h).1;rw[ei,h];exact Zs (Nb a O) x
theorem Gr(h:l[0]? =some x):mq (l.take 1)=x:=by
 cases l with
 |nil=>simp at h
 |cons a l=>simp at h;subst h;rfl
theorem Gs(h:l[0]? =some x):oh (l.take 1)=x:=by
 cases l with
 |nil=>simp at h
 |cons a l=>simp at h;subst h;rfl
theorem Kt(r:5000<=n){l:Loop}{a:Int}(Q:d8 l.bf d=true)(R:d8 l.aH a=true)(s:hQ k p):yJ n l p=some (dF l p,ej l p):=by
 obtain⟨aJ,a2,a3⟩:=pP Q;obtain⟨X,Y,L⟩:=pP R;have C:=bs (O:0<l.bf.length);have D:=bs (O:0<l.aH.length);refine ab.eq ?_;unfold yJ;refine ag (bk (i:=0) C) (ag (wZ r (a3 _ (bF C)) s) (ag (bk (i:=0) D) (ag (wZ r (L _ (bF D)) s) ?_)));refine ab.loop (λx:Int×Int=> ∃i:Nat,x.2=i/\1<=i/\i<=l.bf.length/\x.1=mq ((ly l.bf p).take i)) (λx=>l.bf.length-x.2.toNat) ?_ n _ ⟨1,rfl,O,O,(Gr (oq C)).symm⟩ Z;rintro F ⟨x,z⟩ ⟨i,c,m,U,w⟩ W;dsimp only at c w⊢;subst c;refine aQ (λG=>?_) λH=>?_
 ·have g:=bs (O:i<l.bf.length);have e:=NA (oq (p:=p) g) m;refine ab.aA (λz=>z=mq ((ly l.bf p).take (i+1))) (λj q=>ag (bk g) (ag (wZ r (a3 _ (bF g)) s) (aQ (λh=>q _ ?_) λh=>q _ ?_))) λz c=>?_
  ·rw[e,<-w];omega
  ·rw[e,<-w];omega
  rw[be O];exact W _ ⟨i+1,Z,O,O,c⟩ Z
 have o:i=l.bf.length:=O
 have I:x=dF l p:=by rw[w,o,<-AJ l.bf p,c4];rfl
 refine ab.loop (λx:Int×Int=> ∃i:Nat,x.2=i/\1<=i/\i<=l.aH.length/\x.1=oh ((ly l.aH p).take i)) (λx=>l.aH.length-x.2.toNat) ?_ n _ ⟨1,rfl,O,O,(Gs (oq D)).symm⟩ Z;rintro A ⟨y,z⟩ ⟨i,c,m,U,B⟩ K;dsimp only at c B⊢;subst c;refine aQ (λG=>?_) λH=>ab.some ?_
 ·have g:=bs (O:i<l.aH.length);have e:=ND (oq (p:=p) g) m;refine ab.aA (λz=>z=oh ((ly l.aH p).take (i+1))) (λj q=>ag (bk g) (ag (wZ r (L _ (bF g)) s) (aQ (λh=>q _ ?_) λh=>q _ ?_))) λz c=>?_
  ·rw[e,<-B];omega
  ·rw[e,<-B];omega
  rw[be O];exact K _ ⟨i+1,Z,O,O,c⟩ Z
 have o:i=l.aH.length:=O
 rw[I,B,o,<-AJ l.aH p,c4];rfl
theorem Xk(h:5000<=n){l:Loop}{a:Int}(H:d8 l.bf d=true)(I:d8 l.aH a=true)(m:hQ k p):Dp n l p=some (dF l p,ej l p):=by
 obtain⟨aJ,a2,a3⟩:=pP H;obtain⟨Q,R,G⟩:=pP I;have s:=bs (O:0<l.bf.length);have w:=bs (O:0<l.aH.length);refine ab.eq ?_;unfold Dp;refine ag (bk (i:=0) s) (ag (w4 h (a3 _ (bF s)) m) (ag (bk (i:=0) w) (ag (w4 h (G _ (bF w)) m) ?_)));refine ab.loop (λx:Int×Int=> ∃i:Nat,x.2=i/\i<=l.bf.length/\x.1=mq ((ly l.bf p).take (max i 1))) (λx=>l.bf.length-x.2.toNat) ?_ n _ ⟨0,rfl,O,(Gr (oq s)).symm⟩ Z;rintro A ⟨x,z⟩ ⟨i,e,K,o⟩ L;dsimp only at e o⊢;subst e;refine aQ (λB=>?_) λC=>?_
 ·have g:=bs (O:i<l.bf.length);refine ag (bk g) (ag (w4 h (a3 _ (bF g)) m) ?_);rw[be O];refine L _ ⟨i+1,Z,O,?_⟩ Z;dsimp only;rw[show max (i+1) 1=i+1 by omega];cases i with
  |zero=>rw[o,show max 0 1=1 by rfl,dp,Gr (oq g)];omega
  |succ i=>rw[NA (oq (p:=p) g) O,o,show max (i+1) 1=i+1 by omega]
 have c:i=l.bf.length:=O
 have D:x=dF l p:=by rw[o,c,Nat.max_eq_left O,<-AJ l.bf p,c4];rfl
 refine ab.loop (λx:Int×Int=> ∃i:Nat,x.2=i/\i<=l.aH.length/\x.1=oh ((ly l.aH p).take (max i 1))) (λx=>l.aH.length-x.2.toNat) ?_ n _ ⟨0,rfl,O,(Gs (oq w)).symm⟩ Z;rintro q ⟨y,z⟩ ⟨i,e,K,r⟩ F;dsimp only at e r⊢;subst e;refine aQ (λB=>?_) λC=>ab.some ?_
 ·have g:=bs (O:i<l.aH.length);refine ag (bk g) (ag (w4 h (G _ (bF g)) m) ?_);rw[be O];refine F _ ⟨i+1,Z,O,?_⟩ Z;dsimp only;rw[show max (i+1) 1=i+1 by omega];cases i with
  |zero=>rw[r,show max 0 1=1 by rfl,dp,Gs (oq g)];omega
  |succ i=>rw[ND (oq (p:=p) g) O,r,show max (i+1) 1=i+1 by omega]
 have c:i=l.aH.length:=O
 rw[D,r,c,Nat.max_eq_left O,<-AJ l.aH p,c4];rfl
theorem AA{l:Loop}(n:d8 l.bf d=true)(o:d8 l.aH b=true)(e:hQ k p)(i:k<=3)(A:dF l p<=v/\v<ej l p):hQ (k+1) (p++[v]):=by
 obtain⟨aJ,a2,a3⟩:=pP n;obtain⟨m,B,r⟩:=pP o;have C: -(40*(100*40^k))<=dF l p:=by
  cases c:l.bf with
  |nil=>rw[c] at aJ;simp at aJ
  |cons a as=>
   have:=(N4 (a3 a (by rw[c];simp)) e i).1;unfold dF ly;rw[c];exact Int.le_trans this (OC _ _)
 have D:ej l p<=40*(100*40^k):=by
  cases c:l.aH with
  |nil=>rw[c] at m;simp at m
  |cons a as=>
   have:=(N4 (r a (by rw[c];simp)) e i).2;unfold ej ly;rw[c];exact Int.le_trans (OE _ _) this
 obtain⟨s,F,w⟩:=e;have y:(100*40^(k+1):Int)=40*(100*40^k):=by rw[Int.pow_succ];omega
 have q:=(rK (k:=k) O).1;refine⟨by simp[s],O,λx z=>?_⟩;rw[y];rcases dZ.1 z with h|h
 ·have:=w x h;simp only[cI] at this⊢;omega
 simp at h;subst h;simp only[cI];omega
def fl:List Loop->List Int->List (List Int)
 | [],p=>[p]
 |l::bZ,p=>(dE (dF l p) (ej l p)).flatMap λv=>fl bZ (p++[v])
def fu:List Loop->List Int->Int
 | [],_=>1
 |l::bZ,p=>1+((dE (dF l p) (ej l p)).map λv=>fu bZ (p++[v])).sum
theorem nr{k:Type}(f:k->Int): ∀(l:List k),(∀x∈l,1<=f x)->(l.length:Int)<=(l.map f).sum
 | [],_=>aX
 |x::l,h=>by have c:=nr f l λy a=>h y (by simp[a]);have d:=h x aX;simp only[List.map_cons,List.sum_cons,List.length_cons];omega
theorem AS: ∀(bZ:List Loop) (p:List Int),1<=fu bZ p
 | [],p=>gu _
 |l::bZ,p=>by have:=nr (λv=>fu bZ (p++[v])) (dE (dF l p) (ej l p)) λv _=>AS bZ _;simp only[fu];omega
def Fit(a:List Loop):Prop:=a.length<=4/\ ∀(i:Nat) l,a[i]? =some l->d8 l.bf (i:Int)=true/\d8 l.aH (i:Int)=true
theorem AP{nest:List Loop}(h:k2 nest=true):Fit nest:=by
 simp only[k2,Bool.and_eq_true,decide_eq_true_eq] at h;refine⟨h.2,λi l a=>?_⟩
 have:=KH h.1 a;simpa[Bool.and_eq_true] using this
theorem zw{l:Loop}{q:List Loop}(h:o.drop k=l::q):o[k]? =some l/\o.drop (k+1)=q/\k<o.length:=by
 have a:(o.drop k)[0]? =some l:=by rw[h];rfl
 rw[fP,oC] at a;refine⟨a,?_,(bR.1 a).1⟩
 have:(o.drop k).drop 1=q:=by rw[h];rfl
 rwa [List.drop_drop] at this
theorem zY(h:o.drop k=[])(a:k<=o.length):k=o.length:=by
 have:(o.drop k).length=0:=by rw[h];rfl
 rw[e6] at this;omega
theorem na(p:List Int)(h:p.length<=1000):app [] p=some p:=by rw[cX bQ];rfl
theorem Mj(l:List Int)(f:Int->Int)(v:Int):((l++[v]).map f).sum=(l.map f).sum+f v:=aX
theorem ZV{bf:Int}(h:bf<=v):((dE bf v).length:Int)=v-bf:=by unfold dE;simp;omega
theorem Lm{c:List Loop}(C:Fit c): ∀(bZ:List Loop) (n k:Nat) (p:List Int) (a:Int),5000+bZ.length<=n->c.drop k=bZ->k<=c.length->hQ k p->0<=a->a<=1200->
  ab (qQ n c p a) (λr=>(fu bZ p<=a->r=fu bZ p)/\(a<fu bZ p->a<r)/\1<=r/\r<=a+1)
 | [],n,k,p,a,K,D,L,o,E,M=>by
  obtain⟨n,rfl⟩: ∃j,n=j+1:=⟨n-1,O⟩
  have N:=zY D L;have q:=o.1;unfold qQ;rw[bz (show(p.length:Int)=(c.length:Int) by omega)];exact ab.some ⟨λ_=>rfl,λh=>by simp only[fu] at h;omega,O,O⟩
 |l::bZ,n,k,p,a,K,D,L,o,E,M=>by
  obtain⟨n,rfl⟩: ∃j,n=j+1:=⟨n-1,O⟩
  obtain⟨Q,P,d3⟩:=zw D;obtain⟨R,U⟩:=C.2 k l Q;have q:=o.1;have F:k<=3:=by have:=C.1;omega
  simp only[List.length_cons] at K;unfold qQ;rw[bx (show¬(p.length:Int)=(c.length:Int) by omega)];refine b3 (ag (x:=l) (by rw[q];exact bk Q) (ag (Kt O R U o) ?_));let f:Int->Int:=λv=>fu bZ (p++[v]);have s: ∀v,1<=f v:=λv=>AS _ _;have S:fu (l::bZ) p=1+((dE (dF l p) (ej l p)).map f).sum:=rfl;refine ab.loop (λx:Int×Int=>dF l p<=x.2/\(x.2<=ej l p\/x.2=dF l p)/\(1+((dE (dF l p) x.2).map f).sum<=a->x.1=1+((dE (dF l p) x.2).map f).sum)/\(a<1+((dE (dF l p) x.2).map f).sum->a<x.1)/\1<=x.1/\x.1<=a+1)
   (λx=>(a+1-x.1).toNat) ?_ n _ ⟨gu _,.inr rfl,λ_=>by rw[lJ (gu _)];rfl,λh=>by rw[lJ (gu _)] at h;simp at h;dsimp only;omega,Z,Z⟩ Z
  rintro G ⟨x,v⟩ ⟨B,W,H,I,X,Y⟩ T;dsimp only at B W H I X Y⊢;refine ab.aA (λz=>z=decide (v<ej l p/\x<=a)) (λj b=>aQ (λh=>b _ ?_) λh=>b _ ?_) λz V=>?_
  ·by_cases e:x<=a
   ·rw[bz e,bz ⟨h,e⟩]
   rw[bx e,bx λh=>e h.2]
  ·rw[bx λg=>h g.1]
  subst V;refine aQ (λ⟨i,e⟩=>?_) λw=>ab.some ?_
  ·have A:x=1+((dE (dF l p) v).map f).sum:=H (by apply Int.not_lt.1;intro h;have:=I h;omega);have m:=AA R U o F ⟨B,i⟩;have e1:wr (a-x)=a-x:=by rw[be O]
   rw[e1];refine ag (na p O) (ag (cX bQ) (cc (Lm C bZ n (k+1) (p++[v]) (a-x) O P O m O O) λr ⟨sK,vb,aht,ahu⟩=>?_));have agn:v<ej l p:=i;have PR: -1000000000<=v/\v<=1000000000:=by
    have h9:=m.2.2 v aX;have kR:=rK m.2.1;simp only[cI] at h9;omega
   rw[be (n:=v+1) O,be (n:=x+r) O];have t:1+((dE (dF l p) (v+1)).map f).sum=x+f v:=by rw[t8 B,Mj,A];omega
   refine T _ ⟨Z,.inl Z,?_,?_,Z,Z⟩ Z
   ·dsimp only;rw[t];intro h
    have:r=f v:=sK (O:f v<=a-x);omega
   dsimp only;rw[t];intro h
   have:a-x<r:=vb (O:a-x<f v);omega
  have d:1+((dE (dF l p) v).map f).sum<=fu (l::bZ) p/\(ej l p<=v->1+((dE (dF l p) v).map f).sum=fu (l::bZ) p):=by
   rw[S];by_cases h:v<ej l p
   ·refine⟨?_,λg=>O⟩;rw[zh B h,fQ,yD,List.map_cons,List.sum_cons]
    have:=nr f (dE (v+1) (ej l p)) λy _=>s y
    have:=s v;omega
   have:dE (dF l p) v=dE (dF l p) (ej l p):=by
    rcases W with u|u
    ·rw[show v=ej l p by omega]
    subst u;rw[lJ (gu _),lJ O]
   rw[this];exact⟨gu _,λ_=>rfl⟩
  refine⟨λh=>?_,λh=>?_,X,Y⟩
  ·have e:=H O;rw[e];apply d.2;apply Int.not_lt.1;intro i;exact w ⟨i,O⟩
  apply Int.not_le.1;intro e;have i:ej l p<=v:=by apply Int.not_lt.1;intro i;exact w ⟨i,e⟩
  have:=I (by rw[d.2 i];exact h);omega
theorem DV{a:List Loop}(B:Fit a): ∀(bZ:List Loop) (n k:Nat) (p:List Int) (out:List (List Int)),5000+bZ.length<=n->a.drop k=bZ->k<=a.length->hQ k p->fu bZ p<=1200->out.length<=120->
  ab (pv n out a p) (λr=>(out.length+(fl bZ p).length<=120->r=out++fl bZ p)/\(120<out.length+(fl bZ p).length->120<r.length))
 | [],n,k,p,out,Q,C,R,q,U,P=>by
  obtain⟨n,rfl⟩: ∃j,n=j+1:=⟨n-1,O⟩
  have S:=zY C R;have s:=q.1;have D:=B.1;unfold pv;rw[bz (show(p.length:Int)=(a.length:Int) by omega)];refine bS (ag (na p O) (ag (cX bQ) (ab.some ⟨λ_=>rfl,λh=>by simp[fl] at h ⊢; omega⟩)))
 |l::bZ,n,k,p,out,Q,C,R,q,U,P=>by
  obtain⟨n,rfl⟩: ∃j,n=j+1:=⟨n-1,O⟩
  obtain⟨W,T,d3⟩:=zw C;obtain⟨X,Y⟩:=B.2 k l W;have s:=q.1;have D:=B.1;have F:k<=3:=O
  simp only[List.length_cons] at Q;unfold pv;rw[bx (show¬(p.length:Int)=(a.length:Int) by omega)];refine b3 (ag (x:=l) (by rw[s];exact bk W) (ag (Kt O X Y q) ?_));let f:Int->Int:=λv=>fu bZ (p++[v]);have i: ∀v,1<=f v:=λv=>AS _ _;have V:fu (l::bZ) p=1+((dE (dF l p) (ej l p)).map f).sum:=rfl;let g:Int->List (List Int):=λv=>fl bZ (p++[v]);have xm:fl (l::bZ) p=(dE (dF l p) (ej l p)).flatMap g:=rfl;have b:dF l p<=ej l p->ej l p-dF l p<=1199:=λG=>by
   have:=nr f (dE (dF l p) (ej l p)) λy _=>i y
   have:=ZV G;omega
  refine ab.loop (λx:List (List Int)×Int=>dF l p<=x.2/\(x.2<=ej l p\/x.2=dF l p)/\(out.length+((dE (dF l p) x.2).flatMap g).length<=120->x.1=out++(dE (dF l p) x.2).flatMap g)/\(120<out.length+((dE (dF l p) x.2).flatMap g).length->120<x.1.length))
   (λx=>(ej l p-x.2).toNat) ?_ n _ ⟨gu _,.inr rfl,λ_=>by rw[lJ (gu _)];simp,λh=>by rw[lJ (gu _)] at h;simp at h;omega⟩ Z
  rintro H ⟨x,v⟩ ⟨w,t,I,K⟩ b7;dsimp only at w t I K⊢;refine ab.aA (λz=>z=decide (v<ej l p/\x.length<=120)) (λj u=>aQ (λh=>u _ ?_) λh=>u _ ?_) λz eH=>?_
  ·by_cases d:x.length<=120
   ·rw[bz (show(x.length:Int)<=120 by omega),bz ⟨h,d⟩]
   rw[bx (show¬(x.length:Int)<=120 by omega),bx λh=>d h.2]
  ·rw[bx λE=>h E.1]
  subst eH;refine aQ (λ⟨e,d⟩=>?_) λA=>ab.some ?_
  ·have m:x=out++(dE (dF l p) v).flatMap g:=I (by apply Nat.not_lt.1;intro h;have:=K h;omega);have o:=AA X Y q F ⟨w,e⟩;have L:f v<=1200:=by
    rw[V,zh w e,fQ,yD,List.map_cons,List.sum_cons] at U
    have:=nr f (dE (v+1) (ej l p)) λy _=>i y
    have:=nr f (dE (dF l p) v) λy _=>i y;omega
   refine ag (na p O) (ag (cX bQ) (cc (DV B bZ n (k+1) (p++[v]) x O T O o L d) λr ⟨sK,vb⟩=>?_));have PR: -1000000000<=v/\v<=1000000000:=by
    have h9:=o.2.2 v aX;have kR:=rK o.2.1;simp only[cI] at h9;omega
   rw[be (n:=v+1) O];have M:(dE (dF l p) (v+1)).flatMap g=(dE (dF l p) v).flatMap g++g v:=by rw[t8 w,oD];simp
   refine b7 _ ⟨Z,.inl Z,?_,?_⟩ Z
   ·dsimp only;rw[M];intro h;simp only[List.length_append] at h;have cD:x.length=out.length+((dE (dF l p) v).flatMap g).length:=by rw[m,dB]
    rw[sK (O:x.length+(g v).length<=120),m,ie]
   dsimp only;rw[M];intro h;simp only[List.length_append] at h;have cD:x.length=out.length+((dE (dF l p) v).flatMap g).length:=by rw[m,dB]
   exact vb (O:120<x.length+(g v).length)
  have c:((dE (dF l p) v).flatMap g).length<=(fl (l::bZ) p).length/\(ej l p<=v->(dE (dF l p) v).flatMap g=fl (l::bZ) p):=by
   rw[xm];by_cases h:v<ej l p
   ·refine⟨?_,λE=>O⟩;rw[zh w h,oD,dB];omega
   have:dE (dF l p) v=dE (dF l p) (ej l p):=by
    rcases t with N|N
    ·rw[show v=ej l p by omega]
    subst N;rw[lJ (gu _),lJ O]
   rw[this];exact⟨cN _,λ_=>rfl⟩
  refine⟨λh=>?_,λh=>?_⟩
  ·have d:=I O;rw[d,c.2];apply Int.not_lt.1;intro e;exact A ⟨e,by rw[d,dB];omega⟩
  apply Nat.not_le.1;intro d;have e:ej l p<=v:=by apply Int.not_lt.1;intro e;exact A ⟨e,d⟩
  have:=K (by rw[c.2 e];exact h);omega
theorem Lx{a:List Loop}(B:Fit a): ∀(bZ:List Loop) (n k:Nat) (p:List Int) (st:Int) (out:List (List Int)),5000+bZ.length<=n->a.drop k=bZ->k<=a.length->hQ k p->0<=st->st<=1199->out.length<=120->
  ab (qu n ⟨a,st,out⟩ p) (λr=>(st+fu bZ p<=1200/\out.length+(fl bZ p).length<=120->r=(true,⟨a,st+fu bZ p-1,out++fl bZ p⟩))/\(¬(st+fu bZ p<=1200/\out.length+(fl bZ p).length<=120)->r.1=false))
 | [],n,k,p,st,out,R,D,U,m,W,X,q=>by
  obtain⟨n,rfl⟩: ∃j,n=j+1:=⟨n-1,O⟩
  have oY:=zY D U;have s:=m.1;have F:=B.1;unfold qu;dsimp only;rw[bz (show(p.length:Int)=(a.length:Int) by omega)];have d:jy p=some p:=by unfold jy;rw[a1 O]
  refine bS (ag d (ag (cX bQ) (ab.some ⟨λh=>?_,λh=>?_⟩)))
  ·simp only[fu,fl,List.length_singleton] at h⊢;rw[bz bQ,show st+1-1=st by omega]
  simp only[fu,fl,List.length_singleton] at h⊢;exact bx bQ
 |l::bZ,n,k,p,st,out,R,D,U,m,W,X,q=>by
  obtain⟨n,rfl⟩: ∃j,n=j+1:=⟨n-1,O⟩
  obtain⟨Y,d2,d3⟩:=zw D;obtain⟨b,t⟩:=B.2 k l Y;have s:=m.1;have F:=B.1;have G:k<=3:=O
  simp only[List.length_cons] at R;unfold qu;dsimp only;rw[bx (show¬(p.length:Int)=(a.length:Int) by omega)];refine b3 (ag (x:=l) (by rw[s];exact bk Y) (ag (Xk O b t m) ?_));let f:Int->Int:=λv=>fu bZ (p++[v]);have c: ∀v,1<=f v:=λv=>AS _ _;have u:fu (l::bZ) p=1+((dE (dF l p) (ej l p)).map f).sum:=rfl;let g:Int->List (List Int):=λv=>fl bZ (p++[v]);have E:fl (l::bZ) p=(dE (dF l p) (ej l p)).flatMap g:=rfl;refine ab.loop (λx:List Loop×Int×List (List Int)×Int=>x.1=a/\dF l p<=x.2.2.2/\(x.2.2.2<=ej l p\/x.2.2.2=dF l p)/\x.2.1=st+((dE (dF l p) x.2.2.2).map f).sum/\x.2.2.1=out++(dE (dF l p) x.2.2.2).flatMap g/\0<=x.2.1/\x.2.1<=1199/\x.2.2.1.length<=120)
   (λx=>(1200-x.2.1).toNat) ?_ n _ ⟨rfl,gu _,.inr rfl,by dsimp only;rw[lJ (gu _)];simp,by dsimp only;rw[lJ (gu _)];simp,W,X,q⟩ Z
  rintro H ⟨I,x,o,v⟩ ⟨M,w,N,C,i,i5,i6,P⟩ b7;dsimp only at M w N C i i5 i6 P⊢;subst M;have o1:o.length=out.length+((dE (dF l p) v).flatMap g).length:=by rw[i,dB]
  refine aQ (λK=>?_) λK=>ab.some ?_
  ·have e:=AA b t m G ⟨w,K⟩;have L:fu (l::bZ) p≥1+((dE (dF l p) v).map f).sum+f v/\(fl (l::bZ) p).length≥((dE (dF l p) v).flatMap g).length+(g v).length:=by
    rw[u,E,zh w K,fQ,yD,List.map_cons,List.sum_cons,oD,dB,List.flatMap_cons,dB]
    have:=nr f (dE (v+1) (ej l p)) λy _=>c y;constructor
    ·omega
    omega
   have PR: -1000000000<=v/\v<=1000000000:=by
    have h9:=e.2.2 v aX;have kR:=rK e.2.1;simp only[cI] at h9;omega
   have e1:wr (x+1)=x+1:=by rw[be O]
   have e2:wr (x+1+1)=x+1+1:=by rw[be O]
   have kQ:wr (v+1)=v+1:=by rw[be O]
   rw[e1,e2,kQ];refine ab.aA (λz:List Loop×Int×List (List Int)×Bool=>(z.2.2.2=false->z.1=I/\x+f v<=1199/\o.length+(g v).length<=120/\z.2.1=x+f v/\z.2.2.1=o++g v)/\(z.2.2.2=true-> ¬(st+fu (l::bZ) p<=1200/\out.length+(fl (l::bZ) p).length<=120)))
    (λj Q=>aQ (λh=>Q _ ⟨λmc=>(by cases mc),λ_=>?_⟩) λh=>?_) λz eH=>?_
   ·have:=c v;omega
   ·have d:jy p=some p:=by unfold jy;rw[a1 O]
    refine ag d (ag (cX bQ) (cc (Lx B bZ n (k+1) (p++[v]) (x+1) o O d2 O e O O P) λr ⟨sK,vb⟩=>?_));by_cases d:x+1+f v<=1200/\o.length+(g v).length<=120
    ·rw[sK d];exact Q _ ⟨λ_=>⟨rfl,O,d.2,show x+1+f v-1=x+f v by omega,rfl⟩,λh=>(by cases h)⟩
    have A:=vb d;obtain⟨ahv,⟨ec,ahw,ro⟩⟩:=r;dsimp only at A⊢;subst A;exact Q _ ⟨λh=>(by cases h),λ_=>O⟩
   obtain⟨ahz,ahA,ahB,ahk⟩:=z;obtain⟨S,T⟩:=eH;dsimp only at S T⊢;cases ahk with
   |true=>exact ab.some ⟨λh=>bA h (T rfl),λ_=>rfl⟩
   |false=>
    obtain⟨rfl,ahf,Q4,Q5,V⟩:=S rfl;refine b7 _ ⟨rfl,Z,.inl Z,?_,?_,by dsimp only;have:=c v;omega,Z,?_⟩ (by dsimp only;have:=c v;omega)
    ·dsimp only;rw[t8 w,Mj,Q5,C];omega
    ·dsimp only;rw[V,i,t8 w,oD];simp
    dsimp only;rw[V,dB];exact Q4
  have:dE (dF l p) v=dE (dF l p) (ej l p):=by
   rcases N with q|q
   ·rw[show v=ej l p by omega]
   subst q;rw[lJ (gu _),lJ O]
  rw[this] at C i o1;rw[<-E] at i o1;refine⟨λh=>?_,λh=>?_⟩
  ·rw[i,C,u,show st+(1+((dE (dF l p) (ej l p)).map f).sum)-1=st+((dE (dF l p) (ej l p)).map f).sum by omega]
  exact bA ⟨O,O⟩ h
def jJ(a:List Loop):Option (List (List Int)):=if k2 a=true/\fu a []<=1200/\(fl a []).length<=120 then some (fl a []) else none
def rO:Option (List (List Int))->List (List Int)×Bool
 |none=>([],false)
 |some l=>(l,true)
theorem x':hQ 0 []:=⟨rfl,O,λx h=>by cases h⟩
theorem R9(k:6000<=n)(h:pV o):CI n o=some (rO (jJ o)):=by
 refine ab.eq ?_;unfold CI;refine ag (Sr O h) ?_;unfold jJ;cases d:k2 o with
 |false=>exact ab.some (by simp[rO])
 |true=>
  have c:=AP d;refine cc (Lx c o n 0 [] 0 [] (by have:=c.1;omega) rfl O x' O O aX) λr ⟨e,i⟩=>?_;by_cases a:(0:Int)+fu o []<=1200/\([]:List (List Int)).length+(fl o []).length<=120
  ·rw[e a,a1 ⟨rfl,O,by simpa using a.2⟩];exact ab.some (by simp[rO])
  rw[i a,a6 λh=>a ⟨O,by simpa using h.2.2⟩];exact ab.some rfl
theorem R6(p:6000<=n)(h:pV o):CN n o=some (rO (jJ o)):=by
 refine ab.eq ?_;unfold CN;refine ab.aA (λz=>z= !(k2 o&&decide (fu o []<=1200))) (λj l=>ag (Sf O h) ?_) λz m=>?_
 ·cases c:k2 o with
  |false=>exact l _ (by rw[c];rfl)
  |true=>
   have d:=AP c;refine cc (Lm d o n 0 [] 1200 (by have:=d.1;omega) rfl O x' O O) λr ⟨e,i,q,s⟩=>l _ ?_;rw[c,fb];by_cases a:fu o []<=1200
   ·rw[bz a,bx (by rw[e a];omega)];rfl
   rw[bx a,bz (i O)];rfl
 subst m;unfold jJ;cases c:k2 o with
 |false=>exact ab.some (by simp[rO])
 |true=>
  have d:=AP c;by_cases a:fu o []<=1200
  ·rw[bz a];refine cc (DV d o n 0 [] [] (by have:=d.1;omega) rfl O x' a aX) λr ⟨e,i⟩=>?_;by_cases k:(fl o []).length<=120
   ·rw[e (by simpa using k),a1 ⟨rfl,a,k⟩];refine aQ (λh=>bA h bQ) λ_=>ab.some (by simp[rO])
   have:=i bQ;rw[a6 λh=>k h.2.2];exact aQ (λ_=>ab.some rfl) λh=>bA h O
  rw[bx a,a6 λh=>a h.2.1];exact ab.some rfl
def nu(s:List UInt8):Bool:=match s with
 | [b]=>decide (65<=b.toNat/\b.toNat<=68)
 |_=>false
theorem Eh(h:s.length≠1):nu s=false:=by
 match s,h with
 | [],_=>rfl
 | [b],h=>exact bA rfl h
 |_::_::_,_=>rfl
theorem GV(h:s.length=1): ∃b,s=[b]:=by
 match s,h with
 | [b],_=>exact⟨b,rfl⟩
theorem w2(b:UInt8)(k:Nat)(a:k<256):(b=UInt8.ofNat k)↔b.toNat=k:=by
 constructor
 ·intro h;rw[h];simp;omega
 intro h;rw[<-h];simp
theorem Tq(b:UInt8):Lib.contains [65,66,67,68] [b]=decide (65<=b.toNat/\b.toNat<=68):=by
 have h:(b=65)↔b.toNat=65:=w2 b 65 O;have i:(b=66)↔b.toNat=66:=w2 b 66 O;have k:(b=67)↔b.toNat=67:=w2 b 67 O;have l:(b=68)↔b.toNat=68:=w2 b 68 O;by_cases a:b=65
 ·subst a;decide
 by_cases c:b=66
 ·subst c;decide
 by_cases d:b=67
 ·subst d;decide
 by_cases e:b=68
 ·subst e;decide
 rw[h] at a;rw[i] at c;rw[k] at d;rw[l] at e;rw[bx O];rw[<-h] at a;rw[<-i] at c;rw[<-k] at d;rw[<-l] at e;simp[Lib.contains,Lib.index,a,c,d,e]
theorem JW(n:Nat)(s:List UInt8):yQ n s=some (nu s):=by
 unfold yQ;by_cases h:s.length=1
 ·obtain⟨b,rfl⟩:=GV h;simp only[aA,xU];rw[a1 aX,Tq];rfl
 rw[bx (show¬(s.length:Int)=1 by omega),Eh h];rfl
theorem KE(b:UInt8):Op.bytesLess [b] [65]=decide (b.toNat<65):=by simp[Op.bytesLess,UInt8.lt_iff_toNat_lt]
theorem KD(b:UInt8):(Op.bytesLess [b] [68]||[b]==[68])=decide (b.toNat<=68):=by
 have e:(b=68)↔b.toNat=68:=w2 b 68 O;by_cases h:b=68
 ·subst h;decide
 have c:b.toNat≠68:=λa=>h (e.2 a)
 have:([b]==[(68:UInt8)])=false:=by simp[h]
 rw[this,Bool.or_false];simp only[Op.bytesLess,Bool.and_false,Bool.or_false,UInt8.lt_iff_toNat_lt];apply decide_eq_decide.2;show b.toNat<68↔_;omega
def fN(a:b0)(d:Int):Bool:=a.bC.all (λx=>eO x d)&&(nu a.array&&decide (1<=a.bC.length/\a.bC.length<=2))
theorem WG(c:5000<=n)(e:jk a)(d:Int):x0 n a d=some (!eO a d):=KK c e d
theorem JC(c:5000<=n){a:b0}(h:ki a.bC)(d:Int):yt n a d=some (fN a d):=by
 obtain⟨o,i⟩:=h;unfold yt;rw[JW,DL];have bP:=xP (n:=n) (f:=λk=>x0 n k d) (p:=λa=> !eO a d) (l:=a.bC) (λx m=>WG c (i x m) d) O O;simp only[aA,Option.bind];rw[bP];unfold fN;have e:(a.bC.any λa=> !eO a d)= !(a.bC.all λa=>eO a d):=by
  rw[s4];simp
 rw[e];cases nu a.array<;>cases decide (1<=a.bC.length/\a.bC.length<=2)<;>simp
theorem Jz(B:5000<=n){a:b0}(r:ki a.bC)(d:Int):yk n a d=some (fN a d):=by
 obtain⟨I,F⟩:=r;refine ab.eq ?_;unfold yk;refine pz (l:=a.bC) (p:=λ_ a=>eO a d) O O (λk i x o w y=>?_) (λk q=>?_) (λ⟨i,x,o,G⟩=>?_)
 ·have aH:=(bR.1 o).1;have hm:=F x (bF o);rw[bz (show(i:Int)<(a.bC.length:Int) by omega)];refine bS (ab.aA (λz=>z= !eO x d) (λj m=>ag (bk o) (ag (Is B x hm) ?_)) λz A=>?_)
  ·cases r:cQ x with
   |false=>exact m _ (by unfold eO;rw[r];rfl)
   |true=>exact ag (yl B hm) (m _ (by unfold eO;rw[r,B7];simp))
  subst A;cases s:eO x d with
  |true=>show ab (k _) _;rw[be O];exact w s
  |false=>exact ab.some (y s)
 ·rw[bx (show¬(a.bC.length:Int)<(a.bC.length:Int) by omega)];have e:a.bC.all (λa=>eO a d)=true:=fw.2 λc H=>by obtain⟨i,aH⟩:=k' H;exact q i c aH
  unfold fN;rw[e,fb];refine b3 (ab.aA (λz=>z=(nu a.array&&decide (1<=a.bC.length/\a.bC.length<=2))) (λj m=>?_) λz A=>ab.some A);by_cases h:a.array.length=1
  ·rw[bz (show(a.array.length:Int)=1 by omega)];obtain⟨b,s⟩:=GV h;rw[s] at m⊢;rw[KE,KD];show ab (bif _ then _ else _) _;simp only[nu] at m⊢;by_cases C:b.toNat<65
   ·rw[bz C];exact m _ (by rw[bx (show¬(65<=b.toNat/\b.toNat<=68) by omega)];rfl)
   rw[bx C];by_cases D:b.toNat<=68
   ·rw[bz D];rw[bz (O:65<=b.toNat/\b.toNat<=68)] at m⊢;refine aQ (λh=>m _ ?_) λh=>m _ ?_
    ·by_cases K:a.bC.length<=2
     ·rw[bz (show(a.bC.length:Int)<=2 by omega),bz O];rfl
     rw[bx (show¬(a.bC.length:Int)<=2 by omega),bx O];rfl
    rw[bx O];rfl
   rw[bx D];exact m _ (by rw[bx (show¬(65<=b.toNat/\b.toNat<=68) by omega)];rfl)
  rw[bx (show¬(a.array.length:Int)=1 by omega)];exact m _ (by rw[Eh h];rfl)
 unfold fN;rw[jf.2 ⟨x,bF o,by rw[G];simp⟩];rfl
def hc(a:ay):Bool:=decide (a.aT.length=0)&&decide (a.const=0)
def jB(a:b0):Bool:=decide (a.array=[])&&decide (a.bC.length=0)
theorem Bh(k:Nat):decide ((k:Int)=0)=decide (k=0):=decide_eq_decide.2 O
theorem Tm(n:Nat)(a:ay):yq n a=some (hc a):=by unfold yq hc;rw[Bh];cases decide (a.aT.length=0)<;>rfl
theorem T2(n:Nat)(a:ay):vG n a=some (hc a):=by unfold vG hc;rw[Bh];cases decide (a.aT.length=0)<;>rfl
theorem Tn(n:Nat)(a:b0):sA n a=some (jB a):=by unfold sA jB;rw[Bh];cases decide (a.array=[])<;>rfl
theorem TY(n:Nat)(a:b0):vk n a=some (jB a):=by unfold vk jB;rw[Bh];cases decide (a.array=[])<;>rfl
def ef(e:Expr)(d:Int):Bool:=
 if e.kind=2 then decide (e.num=0)&&(jB e.read&&eO e.index d)
 else if e.kind=3 then decide (e.num=0)&&(hc e.index&&fN e.read d)
 else if e.kind=1 then decide (0<=e.num/\e.num<=99)&&(hc e.index&&jB e.read)
 else decide (e.num=0)&&(hc e.index&&jB e.read)
def fq(k:Int):Int:=if k=1\/k=2\/k=3 then 0 else if k=4\/k=5\/k=6 then 2 else-1
theorem T3(n:Nat)(k:Int):z' n k=some (fq k):=by
 unfold z' fq;by_cases a:k=1
 ·subst a;rfl
 by_cases c:k=2
 ·subst c;rfl
 by_cases d:k=3
 ·subst d;rfl
 by_cases e:k=4
 ·subst e;rfl
 by_cases h:k=5
 ·subst h;rfl
 by_cases i:k=6
 ·subst i;rfl
 simp[aA,a,c,d,e,h,i]
theorem US(i:5000<=n){e:Expr}(k:jk e.index)(l:ki e.read.bC)(d:Int):Ay n e d=some (ef e d):=by
 unfold Ay ef;rw[TY,T2,Is i _ k,yl i k,Jz i l];by_cases a:e.kind=2
 ·rw[a1 a,bz a];simp only[aA,Option.bind,cond_true,eO];cases decide (e.num=0)<;>cases jB e.read<;>cases cQ e.index<;>simp
 rw[a6 a,bx a];by_cases c:e.kind=3
 ·rw[a1 c,bz c];simp only[aA,Option.bind,cond_true,cond_false];cases decide (e.num=0)<;>cases hc e.index<;>simp
 rw[a6 c,bx c];by_cases h:e.kind=1
 ·rw[a1 h,bz h];simp only[aA,Option.bind,cond_true,cond_false];by_cases m:0<=e.num<;>by_cases o:e.num<=99<;>cases hc e.index<;>simp[m,o]
 rw[a6 h,bx h];simp only[aA,Option.bind,cond_false];cases decide (e.num=0)<;>cases hc e.index<;>simp
end
section
def wo:Nat->Expr->Prop
 |0,_=>True
 |L+1,e=>e.bm.length<=1000/\jk e.index/\ki e.read.bC/\ ∀k∈e.bm,wo L k
def dA:Nat->Expr->Int->Bool
 |0,_,_=>false
 |L+1,e,d=>decide (fq e.kind=e.bm.length)&&(ef e d&&e.bm.all λk=>dA L k d)
def dy:Nat->Expr->Int
 |0,_=>1
 |L+1,e=>1+(e.bm.map (dy L)).sum
theorem pe(k:Int):fq k<=2:=by unfold fq;split;omega;split<;>omega
theorem J0(d:Int): ∀(L n:Nat) (e:Expr),5000+L<=n->L<=1000->wo L e->qS (n+1) e d (L:Int)=some (dA L e d)
 |0,n,e,_,_,_=>by unfold qS;rfl
 |L+1,n,e,K,Q,A=>by
  obtain⟨R,B,C,D⟩:=A;unfold qS;refine ab.eq ?_;refine ab.aA (λz=>z= !(decide (fq e.kind=e.bm.length)&&ef e d)) (λj s=>aQ (λh=>O) λh=>ag (T3 n _) (eP (λh=>s _ ?_) λh=>ag (US O B C d) (s _ ?_))) λz F=>?_
  ·rw[bx h];rfl
  ·rw[bz h];rfl
  subst F;unfold dA;cases w:(decide (fq e.kind=e.bm.length)&&ef e d) with
  |false=>exact ab.some (by rw[<-lV,w];rfl)
  |true=>
   rw[<-lV,w,fb];refine b3 ?_;obtain⟨n,rfl⟩: ∃j,n=j+1:=⟨n-1,O⟩
   have G:wr (((L+1:Nat):Int)-1)=(L:Int):=by rw[be O];omega
   rw[G];refine pz (l:=e.bm) (p:=λ_ k=>dA L k d) O O (λa i x m q r=>?_) (λa o=>?_) (λ⟨i,x,m,H⟩=>?_)
   ·have aH:=(bR.1 m).1;rw[bz (show(i:Int)<(e.bm.length:Int) by omega)];refine bS (ag (bk m) (ag (J0 d L n x O O (D x (bF m))) ?_));cases y:dA L x d with
    |true=>show ab (a _) _;rw[be O];exact q y
    |false=>exact ab.some (r y)
   ·rw[bx (show¬(e.bm.length:Int)<(e.bm.length:Int) by omega)];refine ab.some ?_;exact(fw.2 λc I=>by obtain⟨i,aH⟩:=k' I;exact o i c aH).symm
   exact(jf.2 ⟨x,bF m,by rw[H];simp⟩).symm
theorem q6: ∀(L:Nat) (e:Expr),1<=dy L e
 |0,_=>gu _
 |L+1,e=>by have:=nr (dy L) e.bm λk _=>q6 L k;simp only[dy];omega
theorem AU{k:Type}(f:k->Int)(M:Int): ∀(l:List k),(∀x∈l,f x<=M)->(l.map f).sum<=l.length*M
 | [],_=>aX
 |x::l,h=>by have c:=AU f M l λy a=>h y (by simp[a]);have d:=h x aX;simp only[List.map_cons,List.sum_cons,List.length_cons,Int.natCast_add,Int.add_mul];omega
variable {d c:Int}{n i k:Nat}{s:Stmt}{r:List cg}{x:Part}{a:b0}{p:Prog}{q m:List Int}
theorem gY{L:Nat}{e:Expr}(h:dA (L+1) e d=true):fq e.kind=e.bm.length/\ef e d=true/\ ∀k∈e.bm,dA L k d=true:=by simp only[dA,Bool.and_eq_true,decide_eq_true_eq,List.all_eq_true] at h;exact⟨h.1,h.2.1,h.2.2⟩
theorem AR: ∀{L:Nat} {e:Expr} {d:Int},dA L e d=true->dy L e+1<=2^L
 |0,e,d,h=>by cases h
 |L+1,e,d,h=>by
  obtain⟨i,_,a⟩:=gY h;have l:=AU (dy L) ((2:Int)^L-1) e.bm λk c=>by have:=AR (a k c);omega
  have m:=pe e.kind;have n:(e.bm.length:Int)*((2:Int)^L-1)<=2*((2:Int)^L-1):=by
   refine Int.mul_le_mul_of_nonneg_right O ?_
   have:(0:Int)<2^L:=Int.pow_pos O;omega
  simp only[dy];rw[Int.pow_succ];omega
theorem J1{d:Int}: ∀(L n:Nat) (e:Expr),5000+L<=n->L<=5->dA L e d=true->sM (n+1) e (L:Int)=some (dy L e)
 |0,n,e,_,_,h=>by cases h
 |L+1,n,e,I,s,h=>by
  obtain⟨K,_,p⟩:=gY h;have Q:=pe e.kind;have q: ∀k∈e.bm,dy L k<=40:=λk c=>by
   have R:=AR (p k c);have U:(2:Int)^L<=40:=by
    match L,s with
    |0,_=>decide
    |1,_=>decide
    |2,_=>decide
    |3,_=>decide
    |4,_=>decide
   omega
  unfold sM;refine ab.eq ?_;obtain⟨n,rfl⟩: ∃j,n=j+1:=⟨n-1,O⟩
  have w:wr (((L+1:Nat):Int)-1)=(L:Int):=by rw[be O];omega
  rw[w];refine ab.loop (λx:Int×Int=> ∃i:Nat,x.2=i/\i<=e.bm.length/\x.1=1+((e.bm.take i).map (dy L)).sum) (λx=>e.bm.length-x.2.toNat) ?_ (n+1) _ ⟨0,rfl,O,aX⟩ bQ;rintro l ⟨x,k⟩ ⟨i,c,W,m⟩ A;dsimp only at c m⊢;subst c;refine ab.aA (λz=>z=decide (i<e.bm.length)) (λj r=>aQ (λh=>r _ ?_) λh=>r _ ?_) λz B=>?_
  ·rw[bz (show(0:Int)<((L+1:Nat):Int) by omega),bz O]
  ·rw[bx O]
  subst B;refine aQ (λo=>?_) λC=>ab.some ?_
  ·have a:=bs o;have hm:=bF a;refine ag (bk a) (ag (J1 (d:=d) L n _ O O (p _ hm)) ?_);have hs:=AU (dy L) 40 (e.bm.take i) λy D=>q y (fR D);have F:=nr (dy L) (e.bm.take i) λy _=>q6 L y;have G:=q _ hm;have H:=q6 L e.bm[i];have X:((e.bm.take i).length:Int)<=2:=bQ
   rw[be (n:=x+dy L e.bm[i]) O,be O];refine A _ ⟨i+1,Z,O,?_⟩ Z;dsimp only;rw[ei,a,fQ,yD,m];simp;omega
  have:i=e.bm.length:=O
  rw[m,this,c4];rfl
def wU(e:Expr):Bool:=(decide (e.kind=1)||decide (e.num=0))&&((decide (e.kind=2)||hc e.index)&&(decide (e.kind=3)||jB e.read))
theorem I4(d:Int): ∀(L n:Nat) (e:Expr) (c:Int),5000+L<=n->L<=5->wo L e->0<=c->c<=12->
  ab (o8 (n+1) e d (6-(L:Int)) c) (λr=>r.1=(dA L e d&&decide (c+dy L e<=12))/\(r.1=true->r.2=c+dy L e))
 |0,n,e,c,P,S,u,T,V=>by
  unfold o8;refine ab.aA (λz=>z=true) (λj i=>aQ (λh=>i _ rfl) λh=>i _ (by decide)) λz p=>?_;subst p;exact ab.some ⟨rfl,λh=>by cases h⟩
 |L+1,n,e,c,P,S,u,T,V=>by
  obtain⟨e1,v,kQ,E⟩:=u;have af7:=q6 (L+1) e;unfold o8;have G6:wr (c+1)=c+1:=be O;have agR:wr (6-(((L+1:Nat)):Int)+1)=6-(L:Int):=by rw[be O];omega
  rw[G6,agR];refine ab.aA (λz=>z=decide (12<c+1)) (λj i=>aQ (λh=>i _ (bz h).symm) λh=>i _ ?_) λz p=>?_
  ·rw[bx h,bx O]
  subst p;refine aQ (λh=>ab.some ⟨?_,λh=>by cases h⟩) λbP=>?_
  ·rw[bx (show¬c+dy (L+1) e<=12 by omega),jg]
  refine ab.aA (λz=>z= !wU e) (λj i=>?_) λz p=>?_
  ·rw[Tm,Tn];unfold wU at i;simp only[Option.bind];by_cases w:e.kind=1
   ·have o: ¬e.kind=2:=O
    have l: ¬e.kind=3:=O
    rw[bz w,bx o,bx l] at*;simp only[Bool.not_true,Bool.not_false,cond_true,cond_false,Bool.true_or,Bool.true_and,Bool.false_or] at*;cases R:hc e.index with
    |false=>exact i _ (by rw[R];rfl)
    |true=>exact i _ (by rw[R];rfl)
   rw[bx w] at*;simp only[Bool.not_false,cond_true,Bool.false_or] at*;by_cases s:e.num=0
   ·rw[bz s] at*;simp only[Bool.not_true,cond_false,Bool.true_and] at*;by_cases o:e.kind=2
    ·have l: ¬e.kind=3:=O
     rw[bz o,bx l] at*;simp only[Bool.not_true,Bool.not_false,cond_true,cond_false,Bool.true_or,Bool.true_and,Bool.false_or] at*;exact i _ rfl
    rw[bx o] at*;simp only[Bool.not_false,cond_true,Bool.false_or] at*;cases R:hc e.index with
    |false=>exact i _ (by rw[R];rfl)
    |true=>
     by_cases l:e.kind=3
     ·rw[bz l] at*;exact i _ (by rw[R];rfl)
     rw[bx l] at*;exact i _ (by rw[R];rfl)
   rw[bx s] at*;exact i _ rfl
  subst p;cases A:wU e with
  |false=>
   refine ab.some ⟨?_,λh=>by cases h⟩
   have:ef e d=false:=by
    unfold wU at A;unfold ef;by_cases o:e.kind=2
    ·have w: ¬e.kind=1:=O
     have l: ¬e.kind=3:=O
     rw[a1 o];rw[bz o,bx w,bx l] at A;revert A;cases decide (e.num=0)<;>cases jB e.read<;>simp
    rw[a6 o];by_cases l:e.kind=3
    ·have w: ¬e.kind=1:=O
     rw[a1 l];rw[bx o,bx w,bz l] at A;revert A;cases decide (e.num=0)<;>cases hc e.index<;>simp
    rw[a6 l];rw[bx o,bx l] at A;by_cases w:e.kind=1
    ·rw[a1 w];rw[bz w] at A;revert A;cases hc e.index<;>cases jB e.read<;>simp
    rw[a6 w];rw[bx w] at A;revert A;cases decide (e.num=0)<;>cases hc e.index<;>cases jB e.read<;>simp
   unfold dA;rw[this];simp
  |true=>
   refine b3 ?_;unfold wU at A;simp only[Bool.and_eq_true,Bool.or_eq_true,decide_eq_true_eq] at A;obtain⟨x5,M,W⟩:=A;have y: ∀(b:Bool),ef e d=b->fq e.kind=0-> ∀(z:Bool),z=(b&&decide ((e.bm.length:Int)=0))->z=(dA (L+1) e d&&decide (c+dy (L+1) e<=12))/\(z=true->c+1=c+dy (L+1) e):=by
    intro b a8 I z p;unfold dA;rw[a8,I];by_cases h:e.bm.length=0
    ·have G:e.bm=[]:=kE h;have K:dy (L+1) e=1:=by simp[dy,G]
     rw[K,bz (O:c+1<=12)];rw[bz (show(e.bm.length:Int)=0 by omega)] at p;rw[p,G];simp
    rw[bx (show¬(e.bm.length:Int)=0 by omega)] at p;rw[p,bx (show¬(0:Int)=(e.bm.length:Int) by omega)];simp
   by_cases w:e.kind=1
   ·have o: ¬e.kind=2:=O
    have l: ¬e.kind=3:=O
    rw[bz w];have m:ef e d=decide (0<=e.num/\e.num<=99):=by
     unfold ef;rw[a6 o,a6 l,a1 w];rcases M with h|h
     ·exact bA h o
     rcases W with D|D
     ·exact bA D l
     rw[h,D];simp
    refine bS (ab.aA (λz=>z=(decide (0<=e.num/\e.num<=99)&&decide ((e.bm.length:Int)=0))) (λj i=>ag (d4 n _ _ _) ?_) λz p=>ab.some ?_)
    ·cases C:decide (0<=e.num/\e.num<=99) with
     |true=>exact i _ (by rw[C];rfl)
     |false=>exact i _ (by rw[C];rfl)
    exact y _ m (by unfold fq;rw[a1 (Or.inl w)]) _ p
   rw[bx w];refine b3 ?_;have s:e.num=0:=by
    rcases x5 with h|h
    ·exact bA h w
    exact h
   by_cases o:e.kind=2
   ·have l: ¬e.kind=3:=O
    rw[bz o];have m:ef e d=eO e.index d:=by
     unfold ef;rw[a1 o,bz s];rcases W with D|D
     ·exact bA D l
     rw[D];simp
    refine bS (ab.aA (λz=>z=(eO e.index d&&decide ((e.bm.length:Int)=0))) (λj i=>ag (Q6 O _ v) ?_) λz p=>ab.some ?_)
    ·unfold eO at i;cases C:cQ e.index with
     |false=>exact i _ (by rw[C];rfl)
     |true=>
      refine ag (yW O v) (aQ (λh=>i _ ?_) λh=>i _ ?_)
      ·rw[C,bz h];rfl
      rw[C,bx h];rfl
    exact y _ m (by unfold fq;rw[a1 (Or.inr (Or.inl o))]) _ p
   rw[bx o];refine b3 ?_;have F:hc e.index=true:=by
    rcases M with h|h
    ·exact bA h o
    exact h
   by_cases l:e.kind=3
   ·rw[bz l];have m:ef e d=fN e.read d:=by
     unfold ef;rw[a6 o,a1 l,bz s,F];simp
    refine bS (ab.aA (λz=>z=(fN e.read d&&decide ((e.bm.length:Int)=0))) (λj i=>ag (JC O kQ d) ?_) λz p=>ab.some ?_)
    ·cases C:fN e.read d with
     |false=>exact i _ (by rw[C];rfl)
     |true=>exact i _ (by rw[C];rfl)
    exact y _ m (by unfold fq;rw[a1 (Or.inr (Or.inr l))]) _ p
   rw[bx l];refine b3 ?_;have m:ef e d=true:=by
    unfold ef;rw[a6 o,a6 l,a6 w,bz s,F];rcases W with D|D
    ·exact bA D l
    rw[D];rfl
   have X:rv n e.kind=some (decide (4<=e.kind/\e.kind<=6)):=by unfold rv;rw[d4];rfl
   have Q:(fq e.kind=2↔(4<=e.kind/\e.kind<=6))/\(fq e.kind=2\/fq e.kind= -1):=by
    unfold fq;rw[a6 O];split<;>omega
   refine ab.aA (λz=>z= !(decide (4<=e.kind/\e.kind<=6)&&decide ((e.bm.length:Int)=2))) (λj i=>ag X ?_) λz p=>?_
   ·cases C:decide (4<=e.kind/\e.kind<=6) with
    |false=>exact i _ (by rw[C];rfl)
    |true=>exact i _ (by rw[C];rfl)
   subst p;by_cases I:(4<=e.kind/\e.kind<=6)/\(e.bm.length:Int)=2
   ·rw[bz I.1,bz I.2];refine b3 ?_;obtain⟨a,b,B⟩: ∃a b,e.bm=[a,b]:=by
     have:e.bm.length=2:=O
     match df:e.bm,this with
     | [a,b],_=>exact⟨a,b,rfl⟩
    have Y:dA (L+1) e d=(dA L a d&&dA L b d):=by
     show(decide (fq e.kind=e.bm.length)&&(ef e d&&e.bm.all λk=>dA L k d))=_;rw[m,B,bz (show fq e.kind=(([a,b]:List Expr).length:Int) by rw[Q.1.2 I.1];rfl)];simp
    have K:dy (L+1) e=1+(dy L a+dy L b):=by simp[dy,B]
    have ahm:=q6 L a;have ahn:=q6 L b;rw[Y,K];obtain⟨n,rfl⟩: ∃j,n=j+1:=⟨n-1,O⟩
    refine ab.aA (λz:Int×Bool=>z.2=(dA L a d&&dA L b d&&decide (c+(1+(dy L a+dy L b))<=12))/\(z.2=true->z.1=c+(1+(dy L a+dy L b)))) (λj i=>?_) λz p=>ab.some p;refine ag (x:=a) (by rw[B];rfl) (cc (I4 d L n a (c+1) O O (E a (by rw[B];simp)) O O) λr ⟨H,f⟩=>?_);cases t:r.1 with
    |false=>
     refine i _ ⟨?_,λh=>by cases h⟩;rw[t] at H;show false=_;by_cases U:dA L a d=true
     ·rw[U,fb] at H
      have:=of_decide_eq_false H.symm;rw[bx (show¬c+(1+(dy L a+dy L b))<=12 by omega),jg]
     rw[Bool.eq_false_iff.2 U];rfl
    |true=>
     have f:=f t;rw[t] at H;have H:=H.symm;rw[oE,decide_eq_true_eq] at H;refine ag (x:=b) (by rw[B];rfl) ?_;rw[f];refine cc (I4 d L n b (c+1+dy L a) O O (E b (by rw[B];simp)) O O) λq ⟨k7,q2⟩=>i _ ⟨?_,λh=>?_⟩
     ·show q.1=_;rw[k7,H.1,fb];congr 1;exact decide_eq_decide.2 O
     show q.2=_;rw[q2 h];omega
   have hY:dA (L+1) e d=false:=by
    unfold dA;rw[bx (show¬fq e.kind=(e.bm.length:Int) by
     intro h;rcases Q.2 with N|N
     ·exact I ⟨Q.1.1 N,O⟩
     omega)]
    rfl
   have:(decide (4<=e.kind/\e.kind<=6)&&decide ((e.bm.length:Int)=2))=false:=by
    by_cases g:4<=e.kind/\e.kind<=6
    ·rw[bx (show¬(e.bm.length:Int)=2 from λh=>I ⟨g,h⟩),jg]
    rw[bx g];rfl
   rw[this,hY];exact ab.some ⟨rfl,λh=>by cases h⟩
def eo(s:Stmt)(d:Int):Bool:=decide (0<=d/\d<=4)&&(fN s.write d&&(dA 5 s.value d&&decide (dy 5 s.value<=12)))
def zF(s:Stmt):Prop:=ki s.write.bC/\wo 5 s.value
theorem Sq(m:6000<=n)(h:zF s)(d:Int):Dl n s d=some (eo s d):=by
 obtain⟨n,rfl⟩: ∃j,n=j+1:=⟨n-1,O⟩
 refine ab.eq ?_;unfold Dl;generalize a:eo s d=T;unfold eo at a;refine ab.aA (λz:Int×Bool=>z.2=T) (λj c=>ag (d4 _ _ _ _) ?_) λz k=>ab.some k;cases e:decide (0<=d/\d<=4) with
 |false=>exact c (0,false) (by rw[<-a,e];rfl)
 |true=>
  refine bS (ag (JC O h.1 d) ?_);cases i:fN s.write d with
  |false=>exact c (0,false) (by rw[<-a,e,i];rfl)
  |true=>
   refine bS (cc (I4 d 5 n s.value 0 O O h.2 O O) λr ⟨l,o⟩=>c _ ?_);rw[<-a,e,i];show r.1=_;rw[l];simp
theorem t6(o:6000<=n)(h:zF s)(d:Int):ss n s d=some (eo s d):=by
 obtain⟨n,rfl⟩: ∃j,n=j+1:=⟨n-1,O⟩
 refine ab.eq ?_;unfold ss;generalize l:eo s d=T;generalize a:(decide (0<=d/\d<=4)&&(fN s.write d&&dA 5 s.value d))=B;have c:T=(B&&decide (dy 5 s.value<=12)):=by rw[<-l,<-a];unfold eo;simp only[Bool.and_assoc]
 refine ab.aA (λz=>z= !B) (λj e=>aQ (λh=>e _ ?_) λp=>aQ (λh=>e _ ?_) λq=>ag (Jz O h.1 d) ?_) λz m=>?_
 ·rw[<-a,bx (show¬(0<=d/\d<=4) by omega)];rfl
 ·rw[<-a,bx (show¬(0<=d/\d<=4) by omega)];rfl
 ·rw[bz (O:0<=d/\d<=4)] at a;cases k:fN s.write d with
  |false=>exact bS (e _ (by rw[<-a,k];rfl))
  |true=>exact b3 (ag (J0 d 5 n s.value O O h.2) (e _ (by rw[<-a,k];rfl)))
 subst m;cases i:B with
 |false=>exact ab.some (by rw[c,i];rfl)
 |true=>
  rw[i] at a;simp only[Bool.and_eq_true] at a;refine b3 (ag (J1 (d:=d) 5 n s.value O O a.2.2) (ab.some ?_));rw[c,i];rfl
def j4(a:List Int):Bool:=decide (1<=a.length/\a.length<=2)&&a.all λd=>decide (1<=d/\d<=6)
def rq(a:List cg)(i:Nat)(x:cg):Bool:=match i with
 |0=>true
 |i+1=>match a[i]? with
  |some y=>Op.bytesLess y.name x.name
  |none=>false
def nP(a:List cg)(i:Nat)(x:cg):Bool:=nu x.name&&(rq a i x&&j4 x.bU)
def jx(a:List cg):Bool:=wO (nP a) a&&decide (a.length<=4)
def Ee(a:List cg):Prop:=a.length<=1000/\ ∀x∈a,x.bU.length<=1000
theorem Kn{x y:cg}(h:r[i]? =some y):rq r (i+1) x=Op.bytesLess y.name x.name:=by simp only[rq,h]
theorem Za(a:List Int):(a.any λd=> !decide (1<=d/\d<=6))= !(a.all λd=>decide (1<=d/\d<=6)):=by rw[s4];simp
theorem To(U:6000<=n){w:List cg}(h:Ee w):yX n w=some (jx w):=by
 obtain⟨W,I⟩:=h;refine ab.eq ?_;unfold yX;refine pz (l:=w) (p:=nP w) O O (λa i x m s y=>?_) (λa o=>?_) (λ⟨i,x,m,A⟩=>?_)
 ·have aH:=(bR.1 m).1;have hm:=I x (bF m);rw[bz (show(i:Int)<(w.length:Int) by omega)];have K:nU n x.bU (λB=>qo n B)=some (!(x.bU.all λd=>decide (1<=d/\d<=6))):=by
   rw[<-Za];exact CV (λd _=>by unfold qo;rw[d4];rfl) O O
  refine bS (ag (bk m) (ab.aA (λz=>z= !nP w i x) (λj k=>ag (JW n _) ?_) λz L=>?_))
  ·unfold nP j4 at k;cases C:nu x.name with
   |false=>exact bS (k _ (by rw[C];rfl))
   |true=>
    rw[C] at k;refine b3 ?_;rw[DL];have c:rq w i x=true->ab (Option.bind (some (decide (1<=x.bU.length/\x.bU.length<=2))) λQ=>bif !Q then j true else Option.bind (nU n x.bU λB=>qo n B) λR=>j R) (λr=>r=jx w):=by
     intro A;rw[A] at k;show ab (bif _ then _ else _) _;cases D:decide (1<=x.bU.length/\x.bU.length<=2) with
     |false=>exact bS (k _ (by rw[D];rfl))
     |true=>exact b3 (ag K (k _ (by rw[D];rfl)))
    cases i with
    |zero=>exact aQ (λh=>bA h (by decide)) (λ_=>c rfl)
    |succ i=>
     have F:=bs (O:i<w.length);have e:wr (((i+1:Nat):Int)-1)=(i:Int):=by rw[be O];omega
     rw[e];refine aQ (λ_=>ag (bk F) ?_) λh=>bA (show(0:Int)<((i+1:Nat):Int) by omega) h;have q:=Kn (x:=x) F;cases G:Op.bytesLess w[i].name x.name with
     |false=>exact bS (k _ (by rw[q,G];rfl))
     |true=>exact b3 (c (by rw[q,G]))
  subst L;cases H:nP w i x with
  |true=>show ab (a _) _;rw[be O];exact s H
  |false=>exact ab.some (y H)
 ·rw[bx (show¬(w.length:Int)<(w.length:Int) by omega)];refine ab.some ?_;unfold jx;rw[Dh o,fb];exact decide_eq_decide.2 O
 unfold jx;rw[CR m A];rfl
theorem Xw(s:List UInt8):(!Op.bytesLess s [68]&& !s==[68])= !(Op.bytesLess s [68]||s==[68]):=by cases Op.bytesLess s [68]<;>cases (s==[68])<;>rfl
theorem Sv(V:6000<=n){a:List cg}(h:Ee a):DB n a=some (jx a):=by
 obtain⟨h0,f⟩:=h;refine ab.eq ?_;unfold DB;refine pz (l:=a) (p:=nP a) O O (λq i x w H A=>?_) (λq B=>?_) (λ⟨i,x,w,I⟩=>?_)
 ·have aH:=(bR.1 w).1;have hm:=f x (bF w);rw[bz (show(i:Int)<(a.length:Int) by omega)];refine bS (ag (bk w) (ab.aA (λz=>z= !(nu x.name&&(rq a i x&&decide (1<=x.bU.length/\x.bU.length<=2)))) (λj c=>?_) λz K=>?_))
  ·refine eP (λg=>c _ ?_) λg=>?_
   ·rw[Eh O];rfl
   obtain⟨b,o⟩:=GV (O:x.name.length=1);rw[Xw];have L: ∀(y:cg),Op.bytesLess y.name x.name=Op.bytesLess y.name [b]:=λy=>by rw[o]
   have Q:nu x.name=decide (65<=b.toNat/\b.toNat<=68):=by rw[o];rfl
   have u:Op.bytesLess x.name [65]=decide (b.toNat<65):=by rw[o];exact KE b
   have v:(Op.bytesLess x.name [68]||x.name==[68])=decide (b.toNat<=68):=by rw[o];exact KD b
   rw[u,v];rw[Q] at c;refine aQ (λE=>c _ ?_) λE=>eP (λM=>c _ ?_) λM=>?_
   ·rw[bx (show¬(65<=b.toNat/\b.toNat<=68) by omega)];rfl
   ·rw[bx (show¬(65<=b.toNat/\b.toNat<=68) by omega)];rfl
   rw[bz (O:65<=b.toNat/\b.toNat<=68)] at c;have m:rq a i x=true->ab (bif decide ((x.bU.length:Int)<1) then j true else j (decide ((2:Int)<(x.bU.length:Int)))) (λr=>r=jx a):=by
    intro I;rw[I] at c;refine aQ (λh=>c _ ?_) λh=>c _ ?_
    ·rw[bx (show¬(1<=x.bU.length/\x.bU.length<=2) by omega)];rfl
    by_cases h2:x.bU.length<=2
    ·rw[bx (show¬(2:Int)<(x.bU.length:Int) by omega),bz (O:1<=x.bU.length/\x.bU.length<=2)];rfl
    rw[bz (show(2:Int)<(x.bU.length:Int) by omega),bx (show¬(1<=x.bU.length/\x.bU.length<=2) by omega)];rfl
   cases i with
   |zero=>exact aQ (λh=>bA h (by decide)) (λ_=>m rfl)
   |succ i=>
    have W:=bs (O:i<a.length);have e:wr (((i+1:Nat):Int)-1)=(i:Int):=by rw[be O];omega
    rw[e];refine aQ (λ_=>ag (bk W) ?_) λh=>bA (show(0:Int)<((i+1:Nat):Int) by omega) h;have C:=Kn (x:=x) W;cases X:Op.bytesLess a[i].name x.name with
    |false=>exact bS (c _ (by rw[C,X];rfl))
    |true=>exact b3 (m (by rw[C,X]))
  subst K;cases o:(nu x.name&&(rq a i x&&decide (1<=x.bU.length/\x.bU.length<=2))) with
  |false=>
   refine ab.some (A ?_);unfold nP j4;rw[<-lV,<-lV];rw[<-lV] at o;rw[o];rfl
  |true=>
   have D:nP a i x=x.bU.all (λd=>decide (1<=d/\d<=6)):=by
    unfold nP j4;rw[<-lV,<-lV];rw[<-lV] at o;rw[o];rfl
   refine b3 ?_;refine ab.loop (λy:Int=> ∃k:Nat,y=k/\k<=x.bU.length/\ ∀(t:Nat) d,t<k->x.bU[t]? =some d->decide (1<=d/\d<=6)=true) (λy=>x.bU.length-y.toNat) ?_ n _ ⟨0,rfl,O,λt d h=>O⟩ bQ;rintro G y ⟨k,rfl,hk,Y⟩ N;refine aQ (λP=>?_) λS=>?_
   ·have cv:=bs (O:k<x.bU.length);have T:wr ((k:Int)+1)=((k+1:Nat):Int):=by rw[be O];omega
    refine ab.aA (λz=>z= !decide (1<=x.bU[k]/\x.bU[k]<=6)) (λj c=>ag (bk cv) (aQ (λh=>c _ ?_) λh=>c _ ?_)) λz K=>?_
    ·rw[bx O];rfl
    ·by_cases h6:x.bU[k]<=6
     ·rw[bx (show¬(6:Int)<x.bU[k] by omega),bz (O:1<=x.bU[k]/\x.bU[k]<=6)];rfl
     rw[bz (show(6:Int)<x.bU[k] by omega),bx (show¬(1<=x.bU[k]/\x.bU[k]<=6) by omega)];rfl
    subst K;cases F:decide (1<=x.bU[k]/\x.bU[k]<=6) with
    |false=>
     refine ab.some (A ?_);rw[D];exact jf.2 ⟨_,bF cv,by rw[F];simp⟩
    |true=>
     rw[T];refine N _ ⟨k+1,rfl,O,λt d R s=>?_⟩ O;by_cases U:t=k
     ·subst U;rw[cv] at s;cases s;exact F
     exact Y t d O s
   have e:wr ((i:Int)+1)=(i:Int)+1:=be O;rw[e];refine H ?_;rw[D];refine fw.2 λd cv=>?_;obtain⟨t,R⟩:=k' cv
   have:=(bR.1 R).1;exact Y t d O R
 ·rw[bx (show¬(a.length:Int)<(a.length:Int) by omega)];refine ab.some ?_;unfold jx;rw[Dh B,fb];exact decide_eq_decide.2 O
 unfold jx;rw[CR w I];rfl
def gT:List Int->Int
 | []=>1
 |d::a=>d*gT a
theorem Gb{d:List Int}(h:j4 d=true):(∃a,d=[a]/\1<=a/\a<=6)\/ ∃a b,d=[a,b]/\(1<=a/\a<=6)/\1<=b/\b<=6:=by
 simp only[j4,Bool.and_eq_true,decide_eq_true_eq,List.all_eq_true] at h;obtain⟨⟨e,i⟩,c⟩:=h
 match d,e,i,c with
 | [a],_,_,c=>exact .inl ⟨a,rfl,c a aX⟩
 | [a,b],_,_,c=>exact .inr ⟨a,b,rfl,c a aX,c b aX⟩
theorem OP{a b:Int}(c:1<=a/\a<=6)(d:1<=b/\b<=6):1<=a*b/\a*b<=36:=by
 constructor
 ·have:=q1 c.1 d.1 O O;omega
 have:=q1 c.2 d.2 O O;omega
theorem rA{d:List Int}(h:j4 d=true):1<=gT d/\gT d<=36:=by
 rcases Gb h with ⟨a,rfl,c⟩|⟨a,b,rfl,c,e⟩
 ·simp[gT];omega
 have:=OP c e;simp[gT];omega
theorem DW(l:6000<=n){x:cg}(h:j4 x.bU=true):vZ n x=some (gT x.bU):=by
 obtain⟨n,rfl⟩: ∃j,n=j+3:=⟨n-3,O⟩
 unfold vZ;rcases Gb h with ⟨a,e,d⟩|⟨a,b,e,d,i⟩
 ·rw[e];have c:wr a=a:=be O;simp[bo,au,gT,c,show wr 1=1 from be O]
 rw[e]
 have:=OP d i;have c:wr a=a:=be O;have k:wr (a*b)=a*b:=be O;simp[bo,au,gT,c,k,show wr 1=1 from be O,show wr 2=2 from be O]
theorem Xl(a:6000<=n){x:cg}(h:j4 x.bU=true):CU n x=some (gT x.bU):=DW a h
def ho:List ay->List Int->List Int->Int->Int
 |s::c,d::e,p,a=>if 0<=i8 s p/\i8 s p<d then ho c e p (a*d+i8 s p) else-1
 |_,_,_,a=>a
def ez:List cg->b0->List Int->Int->Int
 | [],_,_,_=> -1
 |x::d,a,p,c=>if x.name=a.array then(if a.bC.length=x.bU.length then(if ho a.bC x.bU p 0<0 then-1 else c+ho a.bC x.bU p 0) else-1) else ez d a p (c+gT x.bU)
def ku(a:List cg):Prop:= ∀x∈a,j4 x.bU=true
theorem abd{d:List Int}(e:j4 d=true){l:List ay}(c:l.length=d.length)(p:List Int):ho l d p 0= -1\/(0<=ho l d p 0/\ho l d p 0<gT d):=by
 rcases Gb e with ⟨a,rfl,h⟩|⟨a,b,rfl,h,k⟩
 ·match l,c with
  | [s],_=>
   simp only[ho,gT,Int.zero_mul,Int.zero_add,Int.mul_one];split<;>omega
 match l,c with
 | [s,t],_=>
  simp only[ho,gT,Int.zero_mul,Int.zero_add,Int.mul_one];split
  ·rename_i i;split
   ·rename_i m;refine .inr ⟨?_,?_⟩
    ·have:=mK i.1 (O:0<=b);omega
    have:=Int.mul_le_mul_of_nonneg_right (O:i8 s p<=a-1) (O:0<=b);rw[Int.sub_mul] at this;omega
   exact .inl rfl
  exact .inl rfl
def fV(a:List cg):Int:=(a.map λx=>gT x.bU).sum
theorem Nr: ∀{xs:List cg},ku xs-> ∀(a:b0) (p:List Int) (c:Int),0<=c->ez xs a p c= -1\/(c<=ez xs a p c/\ez xs a p c<c+fV xs)
 | [],_,a,p,c,_=> .inl rfl
 |x::xs,k,a,p,c,n=>by
  have l:=k x aX;have hs:=rA l;have d:ku xs:=λy i=>k y (by simp[i]);have o:0<=fV xs:=by
   have:=nr (λx:cg=>gT x.bU) xs λy i=>(rA (d y i)).1;unfold fV;omega
  have e:fV (x::xs)=gT x.bU+fV xs:=by simp[fV]
  rw[e];simp only[ez];split
  ·split
   ·rename_i m;rcases abd l m p with h|h
    ·rw[a1 O];exact .inl rfl
    rw[a6 O];exact .inr ⟨O,O⟩
   exact .inl rfl
  rcases Nr d a p (c+gT x.bU) O with h|h
  ·exact .inl h
  exact .inr ⟨O,O⟩
theorem mN(h:fN a d=true):1<=a.bC.length/\a.bC.length<=2/\ ∀x∈a.bC,cQ x=true:=by
 simp only[fN,Bool.and_eq_true,decide_eq_true_eq,List.all_eq_true] at h;refine⟨h.2.2.1,h.2.2.2,λx c=>?_⟩
 have:=h.1 x c;simp only[eO,Bool.and_eq_true] at this;exact this.1
theorem jU{k:Type}{l:List k}{x:k}(h:l[i]? =some x):l.drop i=x::l.drop (i+1):=by obtain⟨a,c⟩:=bR.1 h;rw[k9 a,c]
theorem MX{a v:Int}(c:0<=a/\a<=36)(e:1<=d/\d<=6)(h:0<=v/\v<d):0<=a*d/\a*d<=216/\0<=a*d+v:=by have i:=mK c.1 (O:0<=d);have k:=q1 c.2 e.2 O O;omega
theorem YD(t:6000<=n)(u:a.bC.length<=2)(W: ∀x∈a.bC,cQ x=true){e:List Int}(Q:j4 e=true)(v:a.bC.length=e.length){p:List Int}(X:hQ k p)(c:Int)(E:0<=c/\c<=1000000):
  bo (λl ((R,B):Int×Int)=>bif decide (B<(a.bC.length:Int)) then(Option.bind (au a.bC B) λY=>Option.bind (nW n Y p) λr=>Option.bind (au e B) λs=>Option.bind (fg n r 0 (wr (s-1))) λC=>bif !C then(some (-1)) else(l (wr ((wr (R*s))+r),wr (B+1)))) else(some (wr (c+R)))) n (0,0)
   =some (if ho a.bC e p 0<0 then-1 else c+ho a.bC e p 0):=by
 have D: ∀d∈e,1<=d/\d<=6:=by
  simp only[j4,Bool.and_eq_true,decide_eq_true_eq,List.all_eq_true] at Q;exact λd h=>Q.2 d h
 refine ab.eq ?_;refine ab.loop (λx:Int×Int=> ∃i:Nat,x.2=i/\i<=a.bC.length/\0<=x.1/\x.1<=36*i/\(i=0->x.1=0)/\(i=1->x.1<=5)/\ho a.bC e p 0=ho (a.bC.drop i) (e.drop i) p x.1) (λx=>a.bC.length-x.2.toNat) ?_ n _ ⟨0,rfl,O,aX,aX,λ_=>rfl,λh=>O,rfl⟩ bQ;rintro F ⟨x,z⟩ ⟨i,U,M,G,H,o,w,m⟩ b;dsimp only at U G H o w m⊢;subst U;refine aQ (λf=>?_) λg=>ab.some ?_
 ·have hs:=bs (O:i<a.bC.length);have q:=bs (O:i<e.length);have y:=D _ (bF q);have j:wr (e[i]-1)=e[i]-1:=be O;rw[jU hs,jU q] at m;simp only[ho] at m;refine ag (bk hs) (ag (w4 O (W _ (bF hs)) X) (ag (bk q) (ag (d4 _ _ _ _) ?_)));rw[j];by_cases I:0<=i8 a.bC[i] p/\i8 a.bC[i] p<e[i]
  ·rw[a1 I] at m;rw[bz (O:0<=i8 a.bC[i] p/\i8 a.bC[i] p<=e[i]-1)];obtain⟨N,P,S⟩:=MX (a:=x) O y I;refine b3 ?_;rw[be (n:=x*e[i]) O,be (n:=x*e[i]+i8 a.bC[i] p) O,be O];have A:i=0\/i=1:=O
   refine b _ ⟨i+1,Z,O,Z,?_,λh=>O,λh=>?_,m⟩ Z
   ·dsimp only;rcases A with rfl|rfl
    ·rw[o rfl];omega
    have:=w rfl
    have:=q1 this y.2 O O;omega
   dsimp only
   have:i=0:=O
   subst this;rw[o rfl];omega
  rw[a6 I] at m;rw[bx (show¬(0<=i8 a.bC[i] p/\i8 a.bC[i] p<=e[i]-1) by omega)];refine bS (ab.some ?_);rw[m];rfl
 have K:i=a.bC.length:=O
 have L:ho (a.bC.drop i) (e.drop i) p x=x:=by
  rw[K,ny];unfold ho;rfl
 rw[L] at m;rw[m,a6 O,be O]
theorem XM(M:6000<=n)(N:1<=a.bC.length)(P:a.bC.length<=2)(f: ∀x∈a.bC,cQ x=true){c:List Int}(W:j4 c=true){p:List Int}(g:hQ k p)(e:Int)(S:0<=e/\e<=1000000):
  bo (λl ((X,w):Int×Int)=>bif decide (w<(a.bC.length:Int)) then(bif !decide ((a.bC.length:Int)=(c.length:Int)) then(some (-1)) else(Option.bind (au a.bC w) λt=>Option.bind (oi n t p) λr=>aA (fun(F:Bool)=>bif F then(some (-1)) else(Option.bind (au c w) λG=>l (wr ((wr (X*G))+r),wr (w+1)))) λy=>bif decide (r<0) then(y true) else(Option.bind (au c w) λH=>y (decide (H<=r))))) else(some (wr (e+X)))) n (0,0)
   =some (if a.bC.length=c.length then(if ho a.bC c p 0<0 then-1 else e+ho a.bC c p 0) else-1):=by
 by_cases Y:a.bC.length=c.length
 ·rw[a1 Y];rw[bz (show(a.bC.length:Int)=(c.length:Int) by omega)];have I: ∀d∈c,1<=d/\d<=6:=by
   simp only[j4,Bool.and_eq_true,decide_eq_true_eq,List.all_eq_true] at W;exact λd h=>W.2 d h
  refine ab.eq ?_;refine ab.loop (λx:Int×Int=> ∃i:Nat,x.2=i/\i<=a.bC.length/\0<=x.1/\x.1<=36*i/\(i=0->x.1=0)/\(i=1->x.1<=5)/\ho a.bC c p 0=ho (a.bC.drop i) (c.drop i) p x.1) (λx=>a.bC.length-x.2.toNat) ?_ n _ ⟨0,rfl,O,aX,aX,λ_=>rfl,λh=>O,rfl⟩ bQ;rintro K ⟨x,z⟩ ⟨i,D,T,L,Q,s,A,m⟩ u;dsimp only at D L Q s A m⊢;subst D;refine aQ (λv=>?_) λE=>ab.some ?_
  ·have hs:=bs (O:i<a.bC.length);have o:=bs (O:i<c.length);have B:=I _ (bF o);rw[jU hs,jU o] at m;simp only[ho] at m;refine b3 (ag (bk hs) (ag (wZ O (f _ (bF hs)) g) (ab.aA (λz=>z= !decide (0<=i8 a.bC[i] p/\i8 a.bC[i] p<c[i])) (λj b=>aQ (λh=>b _ ?_) λh=>ag (bk o) (b _ ?_)) λz D=>?_)))
   ·rw[bx O];rfl
   ·by_cases q:c[i]<=i8 a.bC[i] p
    ·rw[bz q,bx O];rfl
    rw[bx q,bz O];rfl
   subst D;by_cases q:0<=i8 a.bC[i] p/\i8 a.bC[i] p<c[i]
   ·rw[a1 q] at m;rw[bz q];obtain⟨V,g2,g3⟩:=MX (a:=x) O B q;refine b3 (ag (bk o) ?_);rw[be (n:=x*c[i]) O,be (n:=x*c[i]+i8 a.bC[i] p) O,be O];have C:i=0\/i=1:=O
    refine u _ ⟨i+1,Z,O,Z,?_,λh=>O,λh=>?_,m⟩ Z
    ·dsimp only;rcases C with rfl|rfl
     ·rw[s rfl];omega
     have:=A rfl
     have:=q1 this B.2 O O;omega
    dsimp only
    have:i=0:=O
    subst this;rw[s rfl];omega
   rw[a6 q] at m;rw[bx q];refine bS (ab.some ?_);rw[m];rfl
  have R:i=a.bC.length:=O
  have U:ho (a.bC.drop i) (c.drop i) p x=x:=by
   rw[R,ny];unfold ho;rfl
  rw[U] at m;rw[m,a6 O,be O]
 rw[a6 Y,bx (show¬(a.bC.length:Int)=(c.length:Int) by omega)];obtain⟨n,rfl⟩: ∃j,n=j+1:=⟨n-1,O⟩
 simp only[bo];rw[bz (show(0:Int)<(a.bC.length:Int) by omega)];rfl
theorem zt(y:6000<=n)(L:p.aS.length<=4)(B:ku p.aS)(C:fN a d=true)(D:hQ k q):r2 n p a q=some (ez p.aS a q 0):=by
 obtain⟨a0,aJ,a2⟩:=mN C;refine ab.eq ?_;unfold r2;refine ab.loop (λx:Int×Int=> ∃i:Nat,x.2=i/\i<=p.aS.length/\0<=x.1/\x.1<=36*i/\ez p.aS a q 0=ez (p.aS.drop i) a q x.1) (λx=>p.aS.length-x.2.toNat) ?_ n _ ⟨0,rfl,O,aX,aX,rfl⟩ bQ;rintro m ⟨x,z⟩ ⟨i,A,Q,o,r,c⟩ F;dsimp only at A o r c⊢;subst A;refine aQ (λG=>?_) λH=>ab.some ?_
 ·have s:=bs (O:i<p.aS.length);have h:=B _ (bF s);have kW:=rA h;rw[jU s] at c;simp only[ez] at c;refine ag (bk s) (eP (λl=>?_) λI=>?_)
  ·rw[a6 l] at c;refine ag (Xl y h) ?_;rw[be (n:=x+gT p.aS[i].bU) O,be O];exact F _ ⟨i+1,Z,O,Z,Z,c⟩ Z
  rw[a1 I] at c;refine eP (λl=>ab.some ?_) λK=>?_
  ·rw[c,a6 O]
  have e:a.bC.length=p.aS[i].bU.length:=O
  rw[a1 e] at c;exact ab.of (YD y aJ a2 h e D x O) c.symm
 have w:i=p.aS.length:=O
 rw[c,w,ny];rfl
theorem LO(w:6000<=n)(I:r.length<=4)(A:ku r)(B:fN a d=true)(C:hQ k q):v7 n r a q=some (ez r a q 0):=by
 obtain⟨a0,aJ,a2⟩:=mN B;refine ab.eq ?_;unfold v7;refine ab.loop (λx:Int×Int=> ∃i:Nat,x.2=i/\i<=r.length/\0<=x.1/\x.1<=36*i/\ez r a q 0=ez (r.drop i) a q x.1) (λx=>r.length-x.2.toNat) ?_ n _ ⟨0,rfl,O,aX,aX,rfl⟩ bQ;rintro h ⟨x,z⟩ ⟨i,y,K,l,m,c⟩ D;dsimp only at y l m c⊢;subst y;refine aQ (λF=>?_) λG=>ab.some ?_
 ·have o:=bs (O:i<r.length);have e:=A _ (bF o);have kW:=rA e;rw[jU o] at c;simp only[ez] at c;refine ag (bk o) (eP (λp=>?_) λH=>?_)
  ·rw[a6 p] at c;refine ag (DW w e) ?_;rw[be (n:=x+gT r[i].bU) O,be O];exact D _ ⟨i+1,Z,O,Z,Z,c⟩ Z
  rw[a1 H] at c;exact ab.of (XM w a0 aJ a2 e C x O) c.symm
 have s:i=r.length:=O
 rw[c,s,ny];rfl
def dX:Nat->Expr->List b0
 |0,_=>[]
 |L+1,e=>(if e.kind=3 then [e.read] else [])++e.bm.flatMap (dX L)
theorem EP{d:Int}: ∀{L:Nat} {e:Expr},dA L e d=true-> ∀a∈dX L e,fN a d=true
 |0,e,h,a,c=>by cases h
 |L+1,e,h,a,c=>by
  obtain⟨o,i,m⟩:=gY h;simp only[dX,List.mem_append,List.mem_flatMap] at c;rcases c with c|⟨k,n,c⟩
  ·split at c
   ·rename_i l;simp at c;subst c;unfold ef at i;rw[a6 O,a1 l] at i;simp only[Bool.and_eq_true] at i;exact i.2.2
   simp at c
  exact EP (m k n) a c
theorem zj: ∀(L:Nat) (e:Expr),((dX L e).length:Int)<=dy L e
 |0,e=>by simp[dX,dy]
 |L+1,e=>by
  have h: ∀(l:List Expr),((l.flatMap (dX L)).length:Int)<=(l.map (dy L)).sum:=by
   intro l;induction l with
   |nil=>simp
   |cons k l a=>
    have:=zj L k;simp only[List.flatMap_cons,List.length_append,List.map_cons,List.sum_cons];omega
  have:=h e.bm;simp only[dX,dy,List.length_append];split
  ·rw[mG];omega
  rw[List.length_nil];omega
theorem El{d:Int}: ∀(L n:Nat) (e:Expr),6000+L<=n->L<=5->dA L e d=true->qt (n+1) e=some (dX L e)
 |0,n,e,_,_,h=>by cases h
 |L+1,n,e,C,w,h=>by
  obtain⟨D,F,s⟩:=gY h;have y:=pe e.kind;unfold qt;refine ab.eq (aQ (λc=>ab.some ?_) λm=>?_)
  ·have:e.bm=[]:=by
    have G:fq e.kind=0:=by unfold fq;rw[a1 (Or.inr (Or.inr c))]
    exact kE O
   simp[dX,c,this]
  obtain⟨n,rfl⟩: ∃j,n=j+1:=⟨n-1,O⟩
  have o: ∀k∈e.bm,((dX L k).length:Int)<=100:=λk l=>by
   have H:=AR (s k l);have I:(2:Int)^L<=40:=by
    match L,w with
    |0,_=>decide
    |1,_=>decide
    |2,_=>decide
    |3,_=>decide
    |4,_=>decide
   have:=zj L k;omega
  refine ab.loop (λx:List b0×Int=> ∃i:Nat,x.2=i/\i<=e.bm.length/\x.1=(e.bm.take i).flatMap (dX L)/\(x.1.length:Int)<=100*i) (λx=>e.bm.length-x.2.toNat) ?_ (n+1) _ ⟨0,rfl,O,aX,aX⟩ bQ;rintro p ⟨x,k⟩ ⟨i,l,K,q,r⟩ z;dsimp only at l q r⊢;subst l;refine aQ (λA=>?_) λB=>ab.some ?_
  ·have a:=bs (O:i<e.bm.length);have hm:=bF a;have a8:=o _ hm;refine ag (bk a) (ag (El (d:=d) L n _ O O (s _ hm)) (ag (cX O) ?_));rw[be O];refine z _ ⟨i+1,Z,O,?_,by dsimp only;rw[dB];omega⟩ Z;dsimp only;rw[ei,a,oD,q];simp
  have:i=e.bm.length:=O
  rw[q,this,c4];simp[dX,m]
theorem y1(n:Nat){a:ay}(h:a.aT.length<=1000):qb n a=some a:=by
 unfold qb;refine ab.eq (aQ (λd=>ab.some ?_) λd=>ag (na _ h) (ab.some rfl));obtain⟨cs,c⟩:=a
 have:cs=[]:=kE (by simpa using d);subst this;rfl
theorem yw(q:5000<=n)(h:ki a.bC):qc n a=some a:=by
 obtain⟨r,l⟩:=h;refine ab.eq ?_;unfold qc;refine ab.loop (λx:List ay×Int=> ∃i:Nat,x.2=i/\i<=a.bC.length/\x.1=a.bC.take i) (λx=>a.bC.length-x.2.toNat) ?_ n _ ⟨0,rfl,O,aX⟩ bQ;rintro d ⟨x,k⟩ ⟨i,e,s,c⟩ m;dsimp only at e c⊢;subst e;refine aQ (λo=>?_) λp=>ab.some ?_
 ·have hs:=bs (O:i<a.bC.length);have w:x.length=i:=by rw[c,cJ];omega
  refine ag (bk hs) (ag (y1 n (l _ (bF hs))) (ag (cX bQ) ?_));rw[be O];refine m _ ⟨i+1,Z,O,?_⟩ Z;dsimp only;rw[ei,hs,c];rfl
 have:i=a.bC.length:=O
 rw[c,this,c4]
theorem Nx{l:List ay}(e:l.length<=2)(c: ∀a∈l,cQ a=true):ki l:=⟨O,λa d=>by have:=(fK (c a d)).1;unfold jk;omega⟩
theorem Ks{d:Int}: ∀(L n:Nat) (e:Expr) (out:List b0),6000+L<=n->L<=5->dA L e d=true->(out.length:Int)<=1000+200*(6-(L:Int))->sN (n+1) out e=some (out++dX L e)
 |0,n,e,out,_,_,h,_=>by cases h
 |L+1,n,e,out,Q,B,h,R=>by
  obtain⟨U,W,w⟩:=gY h;have C:=pe e.kind;unfold sN;refine ab.eq (ab.aA (λz=>z=out++(if e.kind=3 then [e.read] else [])) (λj y=>aQ (λa=>?_) λo=>y _ (by rw[a6 o];simp)) λz A=>?_)
  ·have D:=EP h e.read (by simp[dX,a]);obtain⟨_,F,G⟩:=mN D;exact ag (yw O (Nx F G)) (ag (cX bQ) (y _ (by rw[a1 a])))
  subst A;obtain⟨n,rfl⟩: ∃j,n=j+1:=⟨n-1,O⟩
  by_cases a:e.kind=3
  ·have c:e.bm=[]:=by
    have A:fq e.kind=0:=by unfold fq;rw[a1 (Or.inr (Or.inr a))]
    exact kE O
   rw[c];refine ab.some ?_;simp[dX,a,c]
  have p: ∀k∈e.bm,((dX L k).length:Int)<=100:=λk m=>by
   have X:=AR (w k m);have Y:(2:Int)^L<=40:=by
    match L,B with
    |0,_=>decide
    |1,_=>decide
    |2,_=>decide
    |3,_=>decide
    |4,_=>decide
   have:=zj L k;omega
  rw[a6 a,kG];refine ab.loop (λx:List b0×Int=> ∃i:Nat,x.2=i/\i<=e.bm.length/\x.1=out++(e.bm.take i).flatMap (dX L)/\(x.1.length:Int)<=out.length+100*i) (λx=>e.bm.length-x.2.toNat) ?_ (n+1) _ ⟨0,rfl,O,aX,aX⟩ bQ;rintro q ⟨x,k⟩ ⟨i,m,b,r,s⟩ H;dsimp only at m r s⊢;subst m;refine aQ (λI=>?_) λK=>ab.some ?_
  ·have l:=bs (O:i<e.bm.length);have hm:=bF l;have a8:=p _ hm;refine ag (bk l) (ag (Ks (d:=d) L n _ x O O (w _ hm) O) ?_);rw[be O];refine H _ ⟨i+1,Z,O,?_,by dsimp only;rw[dB];omega⟩ Z;dsimp only;rw[ei,l,oD,r];simp
  have:i=e.bm.length:=O
  rw[r,this,c4];simp[dX,a]
theorem NT{o:List Loop}(c:Fit o): ∀(bZ:List Loop) (k:Nat) (p q:List Int),o.drop k=bZ->k<=o.length->hQ k p->q∈fl bZ p->hQ o.length q
 | [],k,p,q,d,h,e,a=>by
  have:=zY d h;simp only[fl,List.mem_singleton] at a;subst a;subst this;exact e
 |l::bZ,k,p,q,d,h,e,a=>by obtain⟨i,m,x⟩:=zw d;obtain⟨n,r⟩:=c.2 k l i;have s:=c.1;simp only[fl,List.mem_flatMap] at a;obtain⟨v,w,a⟩:=a;exact NT c bZ (k+1) _ q m O (AA n r e O (ZU.1 w)) a
theorem rV{o:List Loop}{z:List (List Int)}(h:jJ o=some z):Fit o/\z.length<=120/\(∀q∈z,hQ o.length q)/\z=fl o []/\fu o []<=1200:=by
 unfold jJ at h;split at h
 ·rename_i a;cases h;have c:=AP a.1;exact⟨c,a.2.2,λq d=>NT c o 0 [] q rfl O x' d,rfl,a.2.1⟩
 cases h
def gD(c:List cg)(s:Stmt)(q:List Int):Bool:=decide (0<=ez c s.write q 0)&&(dX 5 s.value).all λa=>decide (0<=ez c a q 0)
theorem kv(h:eo s d=true):fN s.write d=true/\dA 5 s.value d=true/\(∀a∈dX 5 s.value,fN a d=true)/\(dX 5 s.value).length<=12:=by
 simp only[eo,Bool.and_eq_true,decide_eq_true_eq] at h;obtain⟨_,e,c,i⟩:=h
 have:=zj 5 s.value;exact⟨e,c,EP c,O⟩
theorem Uy(D:7000<=n)(e:p.aS.length<=4)(i:ku p.aS)(r:eo s d=true)(m:hQ k q):B' n p s q=some (gD p.aS s q):=by
 obtain⟨w,x,y,F⟩:=kv r;obtain⟨n,rfl⟩: ∃j,n=j+1:=⟨n-1,O⟩
 refine ab.eq ?_;unfold B';generalize c:gD p.aS s q=T;unfold gD at c;refine ab.aA (λz=>z=T) (λj o=>ag (zt O e i w m) (aQ (λh=>?_) λh=>o _ ?_)) λz A=>ab.some A
 ·have bP:=RV (n:=n+1) (f:=λB=>xj (n+1) B p q) (p:=λa=>decide (ez p.aS a q 0<0)) (l:=dX 5 s.value)
   (λa C=>by unfold xj;rw[zt O e i (y a C) m];rfl) O O
  refine ag (El (d:=d) 5 n s.value O O x) (ag bP (o _ ?_));rw[<-c,bz h,fb,s4];congr 1;apply congrArg λf=>List.any (dX 5 s.value) f;funext a;rw[B7]
 rw[<-c,bx h];rfl
theorem JZ(f:7000<=n)(D:r.length<=4)(F:ku r)(I:eo s d=true)(G:hQ k q):
  vj n r s q=some (if gD r s q=true then((dX 5 s.value).map λa=>ez r a q 0,ez r s.write q 0,true) else([],0,false)):=by
 obtain⟨K,L,Q,g⟩:=kv I;obtain⟨n,rfl⟩: ∃j,n=j+1:=⟨n-1,O⟩
 refine ab.eq ?_;unfold vj;refine ag (Ks (d:=d) 5 n s.value [] O O L aX) ?_;rw[sY];generalize U:dX 5 s.value=R at*;have e:gD r s q=(decide (0<=ez r s.write q 0)&&R.all λa=>decide (0<=ez r a q 0)):=by unfold gD;rw[U]
 refine ab.loop (λx:List Int×Int=> ∃i:Nat,x.2=i/\i<=R.length/\x.1=(R.take i).map (λa=>ez r a q 0)/\ ∀(t:Nat) a,t<i->R[t]? =some a->0<=ez r a q 0) (λx=>R.length-x.2.toNat) ?_ (n+1) _ ⟨0,rfl,O,aX,λt a h=>O⟩ Z;rintro w ⟨x,z⟩ ⟨i,H,u,p,y⟩ W;dsimp only at H p y⊢;subst H;refine aQ (λX=>?_) λY=>?_
 ·have bO:=bs (O:i<R.length);have hm:=bF bO;refine ag (bk bO) (ag (LO O D F (Q _ hm) G) (aQ (λl=>ab.some ?_) λm=>?_))
  ·rw[a6];rw[e];intro h;rw[oE] at h
   have:=fw.1 h.2 _ hm;rw[decide_eq_true_eq] at this;omega
  have b:x.length<=12:=by rw[p,c6,cJ];omega
  refine ag (cX bQ) ?_;rw[be O];refine W _ ⟨i+1,Z,O,?_,λt a A c=>?_⟩ Z
  ·dsimp only;rw[ei,bO,fQ,p];rfl
  by_cases B:t=i
  ·subst B;rw[bO] at c;cases c;omega
  exact y t a O c
 have C:i=R.length:=O
 have o:R.all (λa=>decide (0<=ez r a q 0))=true:=fw.2 (λa hm=>by
  obtain⟨t,A⟩:=k' hm
  have:=(bR.1 A).1;exact bz (y t a O A))
 rw[e,o,Bool.and_true];refine ag (LO O D F K G) (aQ (λl=>ab.some ?_) λm=>ab.some ?_)
 ·rw[a6 (by rw[decide_eq_true_eq];omega)]
 rw[a1 (by rw[decide_eq_true_eq];omega),p,C,c4]
def j5(q:List Int):Bool:=decide (q.length<=4)&&q.all λx=>decide (-9999<=x/\x<=9999)
theorem TO(c:5000<=n)(h:q.length<=1000):zs n q=some (j5 q):=by
 unfold zs j5;have bP:=CV (n:=n) (f:=λa=>ye n a) (p:=λx=> !decide (-9999<=x/\x<=9999)) (l:=q) (λx _=>by unfold ye;rw[d4];rfl) O O;simp only[aA,Option.bind];rw[bP];have e:(q.any λx=> !decide (-9999<=x/\x<=9999))= !(q.all λx=>decide (-9999<=x/\x<=9999)):=by rw[s4];simp
 rw[e,show decide ((q.length:Int)<=4)=decide (q.length<=4) from decide_eq_decide.2 O];cases decide (q.length<=4)<;>simp
theorem TZ(s:5000<=n)(h:q.length<=1000):zd n q=some (j5 q):=by
 refine ab.eq ?_;unfold zd;refine pz (l:=q) (p:=λ_ x=>decide (-9999<=x/\x<=9999)) O O (λa i x e m o=>?_) (λa d=>?_) (λ⟨i,x,e,k⟩=>?_)
 ·have aH:=(bR.1 e).1;rw[bz (show(i:Int)<(q.length:Int) by omega)];refine bS (ag (bk e) (ag (yb n x 9999 O) ?_));cases k:decide (-9999<=x/\x<=9999) with
  |true=>show ab (a _) _;rw[be O];exact m k
  |false=>exact ab.some (o k)
 ·rw[bx (show¬(q.length:Int)<(q.length:Int) by omega)];refine ab.some ?_;unfold j5;rw[fw.2 (λc r=>by obtain⟨i,aH⟩:=k' r;exact d i c aH),Bool.and_true];exact decide_eq_decide.2 O
 unfold j5;rw[jf.2 ⟨x,bF e,by rw[k];simp⟩,jg]
theorem MU{k:Type}(p q:k->Bool): ∀l:List k,(l.all p&&l.all q)=l.all (λx=>p x&&q x)
 | []=>rfl
 |x::l=>by simp only[List.all_cons,<-MU p q l];cases p x<;>cases q x<;>cases l.all p<;>cases l.all q<;>rfl
def nN(a:Part):Bool:=decide (1<=a.body.length/\a.body.length<=4)&&a.body.all λs=>eo s (a.nest.length:Int)
def iX(a:Part):List (List Int):=(jJ a.nest).getD []
def en(c:List cg)(a:Part):Bool:=(jJ a.nest).isSome&&(nN a&&a.body.all λs=>(iX a).all λq=>gD c s q&&j5 q)
def A6(x:Part):Prop:=pV x.nest/\x.body.length<=1000/\ ∀s∈x.body,zF s
def ln(p:Prog):Prop:=Ee p.aS/\p.parts.length<=1000/\ ∀x∈p.parts,A6 x
theorem gh(h:en r x=true):jJ x.nest=some (iX x)/\(1<=x.body.length/\x.body.length<=4)/\(∀s∈x.body,eo s (x.nest.length:Int)=true)/\ ∀s∈x.body,∀q∈iX x,gD r s q=true/\j5 q=true:=by
 simp only[en,nN,Bool.and_eq_true,decide_eq_true_eq,List.all_eq_true] at h;refine⟨?_,h.2.1.1,h.2.1.2,h.2.2⟩;unfold iX;cases a:jJ x.nest with
 |none=>rw[a] at h;simp at h
 |some c=>rfl
theorem Gw{list:List cg}(h:jx list=true):list.length<=4/\ku list:=by
 simp only[jx,Bool.and_eq_true,decide_eq_true_eq] at h;refine⟨h.2,λx a=>?_⟩;obtain⟨i,c⟩:=k' a
 have:=KH h.1 c;simp only[nP,Bool.and_eq_true] at this;exact this.2.2
theorem DX(cG:7000<=n){a:List cg}(E:a.length<=4)(M:ku a)(N:A6 x):
  vF n a x=some (if en a x=true then(((iX x).length:Int)*(x.body.length:Int),true) else(0,false)):=by
 obtain⟨P,h2,S⟩:=N;refine ab.eq ?_;unfold vF;generalize f:(if en a x=true then(((iX x).length:Int)*(x.body.length:Int),true) else((0:Int),false))=T;refine ag (R6 O P) ?_;have d:en a x=false->((0:Int),false)=T:=λh=>by rw[<-f,h];rfl
 refine ab.aA (λz=>z= !((jJ x.nest).isSome&&decide (1<=x.body.length/\x.body.length<=4))) (λj m=>?_) λz Q=>?_
 ·cases o:jJ x.nest with
  |none=>exact bS (m _ (by rw[o];rfl))
  |some c=>
   refine b3 (aQ (λh=>m _ ?_) λh=>m _ ?_)
   ·rw[o,bx O];rfl
   rw[o];by_cases h4:x.body.length<=4
   ·rw[bx (show¬(4:Int)<(x.body.length:Int) by omega),bz O];rfl
   rw[bz (show(4:Int)<(x.body.length:Int) by omega),bx O];rfl
 subst Q;cases o:jJ x.nest with
 |none=>exact ab.some (d (by unfold en;rw[o];rfl))
 |some c=>
  obtain⟨hY,V,R,adt,adu⟩:=rV o;have B:iX x=c:=by unfold iX;rw[o];rfl
  by_cases K:1<=x.body.length/\x.body.length<=4
  ·rw[bz K];refine b3 ?_;have p:en a x=x.body.all (λs=>eo s (x.nest.length:Int)&&c.all λq=>gD a s q&&j5 q):=by
    unfold en nN;rw[o,B,bz K,Option.isSome_some,fb,fb];exact MU _ _ _
   refine ab.loop (λy:Int=> ∃i:Nat,y=i/\i<=x.body.length/\ ∀(t:Nat) s,t<i->x.body[t]? =some s->(eo s (x.nest.length:Int)&&c.all λq=>gD a s q&&j5 q)=true) (λy=>x.body.length-y.toNat) ?_ n _ ⟨0,rfl,O,λt s h=>O⟩ bQ;rintro U y ⟨i,rfl,aH,g⟩ b7;refine aQ (λhlt=>?_) λiC=>ab.some ?_
   ·have bO:=bs (O:i<x.body.length);have hm:=bF bO;refine ag (bk bO) (ag (t6 O (S _ hm) _) ?_);cases l:eo x.body[i] (x.nest.length:Int) with
    |false=>
     refine bS (ab.some (d ?_));rw[p];exact jf.2 ⟨_,hm,by rw[l];simp⟩
    |true=>
     refine b3 ?_;show ab (bo (λe (ik:Int)=>bif decide (ik<(c.length:Int)) then _ else _) n 0) _;refine ab.loop (λy:Int=> ∃k:Nat,y=k/\k<=c.length/\ ∀(t:Nat) q,t<k->c[t]? =some q->(gD a x.body[i] q&&j5 q)=true) (λy=>c.length-y.toNat) ?_ n _ ⟨0,rfl,O,λt s h=>O⟩ bQ;rintro e y ⟨k,rfl,hk,C⟩ W;refine aQ (λu=>?_) λv=>?_
     ·have r:=bs (O:k<c.length);have D:=bF r;have F:=R _ D;have X:c[k].length<=1000:=by have:=F.1;have:=F.2.1;omega
      refine ag (bk r) (ag (JZ O E M l F) (ab.aA (λz=>z= !(gD a x.body[i] c[k]&&j5 c[k])) (λj m=>?_) λz Q=>?_))
      ·cases G:gD a x.body[i] c[k] with
       |false=>
        rw[G] at m;exact bS (m _ rfl)
       |true=>
        rw[G] at m;exact b3 (ag (TZ O X) (m _ rfl))
      subst Q;cases G:(gD a x.body[i] c[k]&&j5 c[k]) with
      |false=>
       refine ab.some (d ?_);rw[p];refine jf.2 ⟨_,hm,?_⟩;rw[l,fb];rw[jf.2 ⟨_,D,by rw[G];simp⟩];simp
      |true=>
       show ab (e _) _;rw[be O];refine W _ ⟨k+1,O,O,λt q L w=>?_⟩ O;by_cases Y:t=k
       ·subst Y;rw[r] at w;cases w;exact G
       exact C t q O w
     rw[be O];refine b7 _ ⟨i+1,O,O,λt s L A=>?_⟩ O;by_cases b:t=i
     ·subst b;rw[bO] at A;cases A;rw[l,fb];refine fw.2 λq F=>?_;obtain⟨lR,H⟩:=k' F
      have:=(bR.1 H).1;exact C lR q O H
     exact g t s O A
   have I:en a x=true:=by
    rw[p];refine fw.2 λs hs=>?_;obtain⟨t,L⟩:=k' hs
    have:=(bR.1 L).1;exact g t s O L
   rw[<-f,I,a1 rfl,B];show(wr ((c.length:Int)*(x.body.length:Int)),true)=_;have kr:(0:Int)<=(c.length:Int)*(x.body.length:Int):=mK O O;have BA:(c.length:Int)*(x.body.length:Int)<=120*4:=q1 O O O O;rw[be O]
  rw[bx K];refine ab.some (d ?_);unfold en nN;rw[bx K];simp
def fB(x:Part):Int:=((iX x).length:Int)*(x.body.length:Int)
def oa(i:Nat)(x:Part):List cx:=(iX x).flatMap λq=>(List.range x.body.length).map fun(k:Nat)=>(⟨(i:Int),(k:Int),q⟩:cx)
def bB(a:List Part):List cx:=a.zipIdx.flatMap λy=>oa y.2 y.1
def j7(p:Prog):Bool:=jx p.aS&&(decide (p.parts.length<=4)&&p.parts.all (en p.aS))
def b2(p:Prog):Bool:=j7 p&&decide ((p.parts.map fB).sum<=120)
theorem aea(l:List Part)(x:Part):bB (l++[x])=bB l++oa l.length x:=by unfold bB;rw[List.zipIdx_append,oD];simp
theorem H7{l:List Part}(h:l[i]? =some x):bB (l.take (i+1))=bB (l.take i)++oa i x:=by have aH:=(bR.1 h).1;rw[ei,h];show bB (l.take i++[x])=_;rw[aea,cJ,vx (Nat.le_of_lt aH)]
theorem zX{k R:Type}(f:k->List R)(m:Nat)(h: ∀x,(f x).length=m): ∀l:List k,(l.flatMap f).length=l.length*m
 | []=>aX
 |x::l=>by rw[List.flatMap_cons,dB,h,zX f m h l,List.length_cons,dj];omega
theorem H6(i:Nat)(x:Part):((oa i x).length:Int)=fB x:=by unfold oa fB;rw[zX _ x.body.length λq=>aX];exact Int.natCast_mul _ _
theorem Mi{l:List Part}(h:l[i]? =some x):((l.take (i+1)).map fB).sum=((l.take i).map fB).sum+fB x:=by rw[ei,h];simp
theorem PY: ∀(l:List Part) (i:Nat),i<=l.length->((bB (l.take i)).length:Int)=((l.take i).map fB).sum
 |l,0,_=>by simp[bB]
 |l,i+1,h=>by
  have bO:=bs (O:i<l.length);rw[H7 bO,dB,Mi bO]
  have:=PY l i O
  have:=H6 i l[i];omega
theorem BR(l:List Part):((bB l).length:Int)=(l.map fB).sum:=by
 have:=PY l l.length (cN _)
 rwa [c4] at this
theorem yT(h:en r x=true):0<=fB x/\fB x<=480:=by
 obtain⟨a,c,_⟩:=gh h;obtain⟨_,d,_⟩:=rV a;unfold fB;refine⟨mK O O,?_⟩
 have:=q1 (show((iX x).length:Int)<=120 by omega) (show(x.body.length:Int)<=4 by omega) O O;omega
theorem jP(Y:7000<=n)(G:ln p):kl n p=some (b2 p):=by
 obtain⟨H,b,I⟩:=G;refine ab.eq ?_;unfold kl;generalize q:b2 p=T;unfold b2 j7 at q;refine ab.aA (λz=>z= !(jx p.aS&&decide (p.parts.length<=4))) (λj C=>ag (Sv O H) ?_) λz m=>?_
 ·cases e:jx p.aS with
  |false=>exact bS (C _ (by rw[e];rfl))
  |true=>
   refine b3 (C _ ?_);rw[e];by_cases D:p.parts.length<=4
   ·rw[bx (show¬(4:Int)<(p.parts.length:Int) by omega),bz D];rfl
   rw[bz (show(4:Int)<(p.parts.length:Int) by omega),bx D];rfl
 subst m;cases o:(jx p.aS&&decide (p.parts.length<=4)) with
 |false=>
  refine ab.some ?_;rw[<-q,<-lV,o];rfl
 |true=>
  have k:T=(p.parts.all (en p.aS)&&decide ((p.parts.map fB).sum<=120)):=by rw[<-q,<-lV,o];rfl
  rw[oE,decide_eq_true_eq] at o;obtain⟨K,L⟩:=Gw o.1;refine b3 ?_;refine ab.loop (λx:Int×Int=> ∃i:Nat,x.2=i/\i<=p.parts.length/\x.1=((p.parts.take i).map fB).sum/\0<=x.1/\x.1<=480*i/\ ∀(t:Nat) y,t<i->p.parts[t]? =some y->en p.aS y=true) (λx=>p.parts.length-x.2.toNat) ?_ n _ ⟨0,rfl,O,aX,aX,aX,λt y h=>O⟩ Z;rintro a ⟨x,z⟩ ⟨i,m,f,F,r,s,e⟩ Q;dsimp only at m F r s e⊢;subst m;refine aQ (λR=>?_) λU=>ab.some ?_
  ·have bO:=bs (O:i<p.parts.length);have hm:=bF bO;refine ag (bk bO) (ag (DX O K L (I _ hm)) ?_);cases c:en p.aS p.parts[i] with
   |false=>
    rw[a6 aX];refine ab.some ?_;rw[k,jf.2 ⟨_,hm,by rw[c];simp⟩];rfl
   |true=>
    rw[a1 rfl];have W:=yT c;show ab (a (wr (x+fB p.parts[i]),wr ((i:Int)+1))) _;rw[be (n:=x+fB p.parts[i]) O,be O];refine Q _ ⟨i+1,Z,O,by dsimp only;rw[Mi bO];omega,Z,Z,λt y w d=>?_⟩ Z;by_cases A:t=i
    ·subst A;rw[bO] at d;cases d;exact c
    exact e t y O d
  have B:i=p.parts.length:=O
  have l:p.parts.all (en p.aS)=true:=fw.2 (λy X=>by
   obtain⟨t,w⟩:=k' X
   have:=(bR.1 w).1;exact e t y O w)
  rw[k,l,fb,F,B,c4]
theorem Jr{R:Type}(f:Nat->R)(k:Nat):(List.range (k+1)).map f=(List.range k).map f++[f k]:=by rw[pD,fQ];rfl
theorem Js(cG:7000<=n)(hp:ln p):uf n p=some (if j7 p=true then(bB p.parts,decide ((bB p.parts).length<=120)) else([],false)):=by
 obtain⟨h1,h2,h3⟩:=hp;refine ab.eq ?_;unfold uf;generalize kp:(if j7 p=true then(bB p.parts,decide ((bB p.parts).length<=120)) else([],false))=T;have a:j7 p=false->(([]:List cx),false)=T:=λh=>by rw[<-kp,h];rfl
 refine ab.aA (λz=>z= !(jx p.aS&&decide (p.parts.length<=4))) (λj b=>ag (To O h1) ?_) λz d=>?_
 ·cases g:jx p.aS with
  |false=>exact bS (b _ (by rw[g];rfl))
  |true=>
   refine b3 (b _ ?_);rw[g];by_cases h4:p.parts.length<=4
   ·rw[bx (show¬(4:Int)<(p.parts.length:Int) by omega),bz h4];rfl
   rw[bz (show(4:Int)<(p.parts.length:Int) by omega),bx h4];rfl
 subst d;cases a8:(jx p.aS&&decide (p.parts.length<=4)) with
 |false=>exact ab.some (a (by unfold j7;rw[<-lV,a8];rfl))
 |true=>
  have o:j7 p=p.parts.all (en p.aS):=by unfold j7;rw[<-lV,a8];rfl
  rw[oE,decide_eq_true_eq] at a8;obtain⟨cD,cv⟩:=Gw a8.1;refine b3 ?_;refine ab.loop (λx:List cx×Int=> ∃i:Nat,x.2=i/\i<=p.parts.length/\x.1=bB (p.parts.take i)/\x.1.length<=480*i/\ ∀(t:Nat) y,t<i->p.parts[t]? =some y->en p.aS y=true) (λx=>p.parts.length-x.2.toNat) ?_ n _ ⟨0,rfl,O,by simp[bB],aX,λt y h=>O⟩ Z;rintro again ⟨x,z⟩ ⟨i,d,aH,hx,adQ,g⟩ b7;dsimp only at d hx adQ g⊢;subst d;refine aQ (λhlt=>?_) λiC=>ab.some ?_
  ·have bO:=bs (O:i<p.parts.length);have hm:=bF bO;obtain⟨s1,s2,ag'⟩:=h3 _ hm;generalize xm:p.parts[i]=P at*;have w:en p.aS P=false->j7 p=false:=λh=>by rw[o];exact jf.2 ⟨_,hm,by rw[h];simp⟩
   refine ag (bk bO) (ag (R9 O s1) (ab.aA (λz=>z= !((jJ P.nest).isSome&&nN P)) (λj b=>?_) λz d=>?_))
   ·cases B:jJ P.nest with
    |none=>exact bS (b _ (by rw[B];rfl))
    |some c=>
     refine b3 ?_;have hw:fg n (P.body.length:Int) 1 4=some (decide (1<=P.body.length/\P.body.length<=4)):=by
      rw[d4];congr 1;exact decide_eq_decide.2 O
     refine ag hw ?_;have bP:=Tr (n:=n) (f:=λoo=>xh n oo P) (p:=λs=> !eo s (P.nest.length:Int)) (l:=P.body) (λs v=>by unfold xh;rw[Sq O (ag' s v)];rfl) O O;have e:(P.body.any λs=> !eo s (P.nest.length:Int))= !(P.body.all λs=>eo s (P.nest.length:Int)):=by rw[s4];simp
     cases E:decide (1<=P.body.length/\P.body.length<=4) with
     |false=>exact bS (b _ (by unfold nN;rw[B,E];rfl))
     |true=>exact b3 (ag bP (b _ (by unfold nN;rw[B,E,e];rfl)))
   subst d;cases B:jJ P.nest with
   |none=>exact ab.some (a (w (by unfold en;rw[B];rfl)))
   |some c=>
    obtain⟨hY,agk,ads,adt,adu⟩:=rV B;have M:iX P=c:=by unfold iX;rw[B];rfl
    cases G:nN P with
    |false=>exact ab.some (a (w (by unfold en;rw[G];simp)))
    |true=>
     have C:=G;simp only[nN,Bool.and_eq_true,decide_eq_true_eq,List.all_eq_true] at C;obtain⟨⟨kr,BA⟩,xp⟩:=C;have H:en p.aS P=P.body.all (λs=>c.all λq=>gD p.aS s q&&j5 q):=by
      unfold en;rw[B,G,M];rfl
     let row:List Int->List cx:=λq=>(List.range P.body.length).map fun(k:Nat)=>(⟨(i:Int),(k:Int),q⟩:cx)
     have hrl: ∀q,(row q).length=P.body.length:=λq=>by simp[row]
     have r:oa i P=c.flatMap row:=by unfold oa;rw[M]
     refine b3 ?_;rw[show(rO (some c)).1=c from rfl];refine ab.loop (λy:List cx×Int=> ∃k:Nat,y.2=k/\k<=c.length/\y.1=x++(c.take k).flatMap row/\ ∀(t:Nat) q,t<k->c[t]? =some q->j5 q=true/\ ∀s∈P.body,gD p.aS s q=true) (λy=>c.length-y.2.toNat) ?_ n _ ⟨0,rfl,O,aX,λt q h=>O⟩ Z;rintro N ⟨y,z⟩ ⟨k,d,hk,I,K⟩ S;dsimp only at d I K⊢;subst d;refine aQ (λhlt2=>?_) λaga=>?_
     ·have A:=bs (O:k<c.length);have L:=bF A;generalize Hi:c[k]=Q at*;have V:=ads _ L;have adw:Q.length<=4:=by have:=V.1;have:=V.2.1;omega
      refine ag (bk A) (ag (TO O O) ?_);have adS:y.length<=480*4+480:=by
       rw[I,dB,zX row _ hrl,cJ]
       have:min k c.length*P.body.length<=120*4:=nz O BA;omega
      cases PK:j5 Q with
      |false=>
       refine bS (ab.some (a (w ?_)));rw[H];obtain⟨IE,adC⟩: ∃IE,IE∈P.body:=List.exists_mem_of_length_pos O;refine jf.2 ⟨IE,adC,?_⟩;rw[jf.2 ⟨Q,L,by rw[PK];simp⟩];simp
      |true=>
       refine b3 ?_;refine ab.loop (λu:List cx×Int=> ∃m:Nat,u.2=m/\m<=P.body.length/\u.1=y++(List.range m).map (fun(k:Nat)=>(⟨(i:Int),(k:Int),Q⟩:cx))/\ ∀(t:Nat) s,t<m->P.body[t]? =some s->gD p.aS s Q=true) (λu=>P.body.length-u.2.toNat) ?_ n _ ⟨0,rfl,O,aX,λt s h=>O⟩ Z;rintro afN ⟨u,z⟩ ⟨m,d,mg,hu,R⟩ ady;dsimp only at d hu R⊢;subst d;refine aQ (λagh=>?_) λagb=>?_
       ·have U:=bs (O:m<P.body.length);have D:=bF U;refine ag (bk U) (ag (Uy O cD cv (xp _ D) V) ?_);cases Ps:gD p.aS P.body[m] Q with
        |false=>
         refine bS (ab.some (a (w ?_)));rw[H];refine jf.2 ⟨_,D,?_⟩;rw[jf.2 ⟨Q,L,by rw[Ps];simp⟩];simp
        |true=>
         have hcl:jy Q=some Q:=by unfold jy;rw[a1 O]
         have o4:u.length<=480*4+480+4:=by rw[hu];simp;omega
         refine b3 (ag hcl (ag (cX bQ) ?_));rw[be O];refine ady _ ⟨m+1,Z,O,?_,λt s F W=>?_⟩ Z
         ·dsimp only;rw[hu,Jr,ie]
         by_cases adK:t=m
         ·subst adK;rw[U] at W;cases W;exact Ps
         exact R t s O W
       have ade:m=P.body.length:=O
       rw[be O];refine S _ ⟨k+1,Z,O,?_,λt q F X=>?_⟩ Z
       ·dsimp only;rw[ei,A,oD,<-ie,<-I,hu,ade];simp[row]
       by_cases adJ:t=k
       ·subst adJ;rw[A] at X;cases X;refine⟨PK,λs v=>?_⟩;obtain⟨lR,PO⟩:=k' v
        have:=(bR.1 PO).1;exact R lR s O PO
       exact K t q O X
     have Pz:k=c.length:=O
     have PJ:en p.aS P=true:=by
      rw[H];refine fw.2 λs v=>fw.2 λq V=>?_;obtain⟨t,F⟩:=k' V
      have:=(bR.1 F).1;obtain⟨g1,g2⟩:=K t q O F;rw[g1,g2 s v];rfl
     have BB:=yT PJ;have BH:=H6 i P;rw[be O];refine b7 _ ⟨i+1,Z,O,?_,?_,λt y F Y=>?_⟩ Z
     ·dsimp only;rw[H7 bO,r,I,Pz,c4,hx]
     ·dsimp only;rw[I,Pz,c4,dB,<-r];omega
     by_cases adI:t=i
     ·subst adI;rw[bO] at Y;cases Y;exact PJ
     exact g t y O Y
  have acU:i=p.parts.length:=O
  have hall:j7 p=true:=by
   rw[o];exact fw.2 (λy I=>by
    obtain⟨t,F⟩:=k' I
    have:=(bR.1 F).1;exact g t y O F)
  rw[<-kp,a1 hall,hx,acU,c4];congr 1;exact decide_eq_decide.2 O
theorem uh(a:7000<=n)(c:ln p):r3 n p=some (b2 p):=by
 unfold r3;rw[Js a c];unfold b2;cases h:j7 p with
 |false=>rfl
 |true=>
  rw[a1 rfl];show some (decide _)=_;rw[fb];congr 1
  have:=BR p.parts;exact decide_eq_decide.2 O
theorem ey(h:b2 p=true):p.aS.length<=4/\ku p.aS/\p.parts.length<=4/\(∀x∈p.parts,en p.aS x=true)/\(bB p.parts).length<=120:=by
 simp only[b2,j7,Bool.and_eq_true,decide_eq_true_eq,List.all_eq_true] at h;obtain⟨⟨c,d,e⟩,i⟩:=h;obtain⟨a,b⟩:=Gw c
 have:=BR p.parts;exact⟨a,b,d,e,O⟩
theorem uE(cG:7000<=n)(S:b2 p=true):oT n p=some (bB p.parts):=by
 obtain⟨cD,cv,h4,D,T⟩:=ey S;refine ab.eq ?_;unfold oT;refine ab.loop (λx:List cx×Int=> ∃i:Nat,x.2=i/\i<=p.parts.length/\x.1=bB (p.parts.take i)/\x.1.length<=480*i) (λx=>p.parts.length-x.2.toNat) ?_ n _ ⟨0,rfl,O,by simp[bB],aX⟩ Z;rintro F ⟨x,z⟩ ⟨i,c,aH,G,H⟩ V;dsimp only at c G H⊢;subst c;refine aQ (λhlt=>?_) λiC=>ab.some ?_
 ·have bO:=bs (O:i<p.parts.length);have hm:=bF bO;have e:=D _ hm;generalize xm:p.parts[i]=P at*;obtain⟨k7,q2,pf,Qb⟩:=gh e;obtain⟨f,I,K,h,L⟩:=rV k7;generalize R:iX P=g at*;have BB:=yT e;have j:=H6 i P;let row:List Int->List cx:=λq=>(List.range P.body.length).map fun(k:Nat)=>(⟨(i:Int),(k:Int),q⟩:cx)
  have U: ∀q,(row q).length=P.body.length:=λq=>by simp[row]
  have a:oa i P=g.flatMap row:=by unfold oa;rw[R]
  refine ag (bk bO) (cc (DV f P.nest n 0 [] [] (by have:=f.1;omega) rfl O x' L aX) λr ⟨sK,vb⟩=>?_);have W:r=g:=by rw[sK (by rw[<-h];simpa using I),h];rfl
  subst W;refine ab.loop (λy:List cx×Int=> ∃k:Nat,y.2=k/\k<=r.length/\y.1=x++(r.take k).flatMap row) (λy=>r.length-y.2.toNat) ?_ n _ ⟨0,rfl,O,aX⟩ Z;rintro l ⟨y,z⟩ ⟨k,c,hk,o⟩ s;dsimp only at c o⊢;subst c;refine aQ (λt=>?_) λv=>?_
  ·have d:=bs (O:k<r.length);have X:=bF d;generalize Hi:r[k]=Q at*;have E:=K _ X;have adw:Q.length<=4:=by have:=E.1;have:=E.2.1;omega
   have adS:y.length<=480*4+480:=by
    rw[o,dB,zX row _ U,cJ]
    have:min k r.length*P.body.length<=120*4:=nz O q2.2;omega
   refine ab.loop (λu:List cx×Int=> ∃m:Nat,u.2=m/\m<=P.body.length/\u.1=y++(List.range m).map (fun(k:Nat)=>(⟨(i:Int),(k:Int),Q⟩:cx))) (λu=>P.body.length-u.2.toNat) ?_ n _ ⟨0,rfl,O,aX⟩ Z;rintro w ⟨u,z⟩ ⟨m,c,mg,C⟩ A;dsimp only at c C⊢;subst c;refine aQ (λM=>?_) λN=>?_
   ·have o4:u.length<=480*4+480+4:=by rw[C];simp;omega
    refine ag (bk d) (ag (na _ O) (ag (cX bQ) ?_));rw[be O];refine A _ ⟨m+1,Z,O,?_⟩ Z;dsimp only;rw[C,Jr,ie]
   have Y:m=P.body.length:=O
   rw[be O];refine s _ ⟨k+1,Z,O,?_⟩ Z;dsimp only;rw[ei,d,oD,<-ie,<-o,C,Y];simp[row]
  have B:k=r.length:=O
  rw[be O];refine V _ ⟨i+1,Z,O,?_,?_⟩ Z
  ·dsimp only;rw[H7 bO,a,o,B,c4,G]
  dsimp only;rw[o,B,c4,dB,<-a];omega
 have b:i=p.parts.length:=O
 rw[G,b,c4]
theorem UP{l:List cg}{x:cg}(h:l[i]? =some x):fV (l.take (i+1))=fV (l.take i)+gT x.bU:=by unfold fV;rw[List.take_add_one,h];simp
theorem KA(s:7000<=n)(w:p.aS.length<=4)(m:ku p.aS):zb n p=some (fV p.aS):=by
 refine ab.eq ?_;unfold zb;refine ab.loop (λx:Int×Int=> ∃i:Nat,x.2=i/\i<=p.aS.length/\x.1=fV (p.aS.take i)/\0<=x.1/\x.1<=36*i) (λx=>p.aS.length-x.2.toNat) ?_ n _ ⟨0,rfl,O,by simp[fV],aX,aX⟩ Z;rintro c ⟨x,z⟩ ⟨i,k,y,l,d,e⟩ o;dsimp only at k l d e⊢;subst k;refine aQ (λq=>?_) λr=>ab.some ?_
 ·have bO:=bs (O:i<p.aS.length);have a:=m _ (bF bO);have kW:=rA a;refine ag (bk bO) (ag (DW O a) ?_);rw[be (n:=x+gT p.aS[i].bU) O,be O];exact o _ ⟨i+1,Z,O,by dsimp only;rw[UP bO];omega,Z,Z⟩ Z
 have h:i=p.aS.length:=O
 rw[l,h,c4]
theorem KJ(a:7000<=n)(c:p.aS.length<=4)(d:ku p.aS):Ce n p=some (fV p.aS):=KA a c d
def jK:Nat->List cg->List Int->Expr->List Int->Int
 |0,_,_,_,_=>0
 |L+1,c,m,e,q=>
  if e.kind=1 then e.num
  else if e.kind=2 then i8 e.index q%1000
  else if e.kind=3 then m.getD (ez c e.read q 0).toNat 0
  else match e.bm with
   | [a,b]=>if e.kind=4 then(jK L c m a q+jK L c m b q)%1000 else if e.kind=5 then(jK L c m a q-jK L c m b q)%1000 else(jK L c m a q*jK L c m b q)%1000
   |_=>0
def rM(a:List cg)(m:List Int):Prop:=(m.length:Int)=fV a/\ ∀x∈m,0<=x/\x<=999
theorem aar(h:rM r m)(i:Nat):0<=m.getD i 0/\m.getD i 0<=999:=by
 rw[eu];cases a:m[i]? with
 |none=>simp
 |some x=>exact h.2 x (bF a)
theorem Z1(c:rM r m): ∀{L:Nat} {e:Expr},dA L e d=true->0<=jK L r m e q/\jK L r m e q<=999
 |0,e,h=>by cases h
 |L+1,e,h=>by
  obtain⟨k,a,l⟩:=gY h;simp only[jK];split
  ·rename_i i;unfold ef at a;rw[a6 O,a6 O,a1 i] at a;simp only[Bool.and_eq_true,decide_eq_true_eq] at a;omega
  split
  ·omega
  split
  ·exact aar c _
  split
  ·split
   ·omega
   split<;>omega
  omega
def gk(p:Prog)(x:cx):Prop:= ∃(i k:Nat) (P:Part) (s:Stmt),x.part=i/\x.stmt=k/\p.parts[i]? =some P/\P.body[k]? =some s/\x.cL∈iX P
def tB(p:Prog)(x:cx):Option Stmt:=(p.parts[x.part.toNat]?).bind λP=>P.body[x.stmt.toNat]?
def jj(p:Prog)(m:List Int)(x:cx):List Int:=match tB p x with
 |some s=>m.set (ez p.aS s.write x.cL 0).toNat (jK 5 p.aS m s.value x.cL)
 |none=>m
theorem uI(o:b2 p=true){x:cx}(q:gk p x): ∃(i k:Nat) (P:Part) (s:Stmt) (d:Int),x.part=i/\x.stmt=k/\p.parts[i]? =some P/\P.body[k]? =some s/\tB p x=some s/\eo s d=true/\hQ P.nest.length x.cL/\gD p.aS s x.cL=true:=by obtain⟨D,F,G,a,r⟩:=ey o;obtain⟨i,k,P,s,l,m,c,e,n⟩:=q;obtain⟨w,H,y,z⟩:=gh (a P (bF c));obtain⟨I,A,h,B,C⟩:=rV w;have hs:=bF e;exact⟨i,k,P,s,_,l,m,c,e,by unfold tB;rw[l,m,cY,c];exact(by rw[cY];exact e),y s hs,h _ n,(z s hs _ n).1⟩
theorem FE(h:gD r s q=true):0<=ez r s.write q 0/\ ∀a∈dX 5 s.value,0<=ez r a q 0:=by simp only[gD,Bool.and_eq_true,decide_eq_true_eq,List.all_eq_true] at h;exact h
theorem Ff{k:Type}{l:List k}(a:0<=c)(h:c.toNat<l.length)(x:k):b' l c x=some (l.set c.toNat x):=by unfold b';rw[a1 ⟨a,O⟩]
theorem wW{k:Type}{l:List k}(a:0<=c)(h:c.toNat<l.length):au l c=some l[c.toNat]:=by unfold au;rw[a1 a,List.getElem?_eq_getElem h]
theorem M3(e:b2 p=true)(a:rM p.aS m){x:cx}(l:gk p x):rM p.aS (jj p m x):=by
 obtain⟨i,k,P,s,d,q,r,w,y,n,o,z,A⟩:=uI e l;unfold jj;rw[n];refine⟨by rw[eS];exact a.1,λv c=>?_⟩;rcases q3 c with h|h
 ·exact a.2 v h
 rw[h];exact Z1 a (kv o).2.1
theorem iE{l:List Part}{x:cx}(h:x∈bB l): ∃(i k:Nat) (P:Part) (s:Stmt),x.part=i/\x.stmt=k/\l[i]? =some P/\P.body[k]? =some s/\x.cL∈iX P:=by unfold bB at h;rw[yC] at h;obtain⟨⟨P,i⟩,d,a⟩:=h;unfold oa at a;rw[yC] at a;obtain⟨q,e,c⟩:=a;rw[eK] at c;obtain⟨k,m,rfl⟩:=c;have n:=s0.1 m;exact⟨i,k,P,P.body[k],rfl,rfl,C3.1 d,bs n,e⟩
def my(p:Prog)(m:List Int)(l:List cx):List Int:=l.foldl (jj p) m
end
def dm(B:Nat)(a:ay):Prop:=a.aT.length<=B
def eM(B:Nat)(l:List ay):Prop:=l.length<=B/\ ∀a∈l,dm B a
def kb(B:Nat)(a:List Loop):Prop:=a.length<=B/\ ∀l∈a,eM B l.bf/\eM B l.aH
def hR(B:Nat):Nat->Expr->Prop
 |0,_=>False
 |L+1,e=>e.bm.length<=B/\dm B e.index/\eM B e.read.bC/\ ∀k∈e.bm,hR B L k
def iv(B:Nat)(s:Stmt):Prop:=eM B s.write.bC/\hR B 5 s.value
def fv(B:Nat)(x:Part):Prop:=kb B x.nest/\x.body.length<=B/\ ∀s∈x.body,iv B s
def rl(B:Nat)(l:List cg):Prop:=l.length<=B/\ ∀x∈l,x.bU.length<=B
def c5(B:Nat)(p:Prog):Prop:=rl B p.aS/\p.parts.length<=B/\ ∀x∈p.parts,fv B x
variable {B C n:Nat}{a b:ay}{s:Stmt}{p:Prog}{k d:Int}{r:cA}{R:Type}{Q:R->Prop}
theorem dm.mono(h:B<=C)(c:dm B a):dm C a:=gr c h
theorem eM.mono(h:B<=C){l:List ay}(c:eM B l):eM C l:=⟨gr c.1 h,λa d=>(c.2 a d).mono h⟩
theorem kb.mono(h:B<=C){l:List Loop}(c:kb B l):kb C l:=⟨gr c.1 h,λa d=>⟨(c.2 a d).1.mono h,(c.2 a d).2.mono h⟩⟩
theorem hR.mono{B C:Nat}(h:B<=C): ∀{L M:Nat} {e:Expr},L<=M->hR B L e->hR C M e
 |0,_,_,_,a=>a.elim
 |L+1,0,_,c,_=>O
 |L+1,M+1,e,c,a=>⟨gr a.1 h,a.2.1.mono h,a.2.2.1.mono h,λk d=>hR.mono h O (a.2.2.2 k d)⟩
theorem iv.mono(h:B<=C)(a:iv B s):iv C s:=⟨a.1.mono h,a.2.mono h (cN _)⟩
theorem fv.mono(h:B<=C){s:Part}(a:fv B s):fv C s:=⟨a.1.mono h,gr a.2.1 h,λs c=>(a.2.2 s c).mono h⟩
theorem rl.mono(h:B<=C){s:List cg}(a:rl B s):rl C s:=⟨gr a.1 h,λs c=>gr (a.2 s c) h⟩
theorem c5.mono(h:B<=C)(a:c5 B p):c5 C p:=⟨a.1.mono h,gr a.2.1 h,λs c=>(a.2.2 s c).mono h⟩
theorem eM.sm{l:List ay}(h:eM 1000 l):ki l:=⟨h.1,h.2⟩
theorem hR.sm: ∀{L:Nat} (j:Nat) {e:Expr},hR 1000 L e->wo j e
 |_,0,_,_=>trivial
 |0,_+1,_,h=>h.elim
 |L+1,j+1,e,h=>⟨h.1,h.2.1,h.2.2.1.sm,λk a=>hR.sm j (h.2.2.2 k a)⟩
theorem iv.sm(h:iv 1000 s):zF s:=⟨h.1.sm,h.2.sm 5⟩
theorem kb.sm{l:List Loop}(h:kb 1000 l):pV l:=⟨h.1,λx a=>⟨(h.2 x a).1.sm,(h.2 x a).2.sm⟩⟩
theorem fv.sm{x:Part}(h:fv 1000 x):A6 x:=⟨h.1.sm,h.2.1,λs a=>(h.2.2 s a).sm⟩
theorem c5.sm(h:c5 1000 p):ln p:=⟨⟨h.1.1,h.1.2⟩,h.2.1,λx a=>(h.2.2 x a).sm⟩
theorem iZ(n:Nat){m:Int}(a:cM k r)(c:k<=1000000000):ab (gA n r m) (λx=>0<=x.1/\(1<=m->x.1<m)/\cM (k+1) x.2):=Ny a c
theorem gG(n:Nat){l:List Int}(a:cM k r)(c:k<=1000000000)(d:l≠[]):ab (fz n r l) (λx=>x.1∈l/\cM (k+1) x.2):=aaT a c d
theorem Bp(n:Nat){l:List (List UInt8)}(c:cM k r)(d:k<=1000000000)(e:l≠[]):ab (o' n r l) (λx=>x.1∈l/\cM (k+1) x.2):=by
 unfold o';have p:1<=l.length:=by cases l;exact bA rfl e;simp
 refine cc (iZ n c d) λx ⟨h,i,m⟩=>?_;obtain⟨y,o,a⟩:=gm h (i O);exact ag o (ab.some ⟨bF a,m⟩)
def l0(a:ay):Prop:=a.aT.length=4
theorem gW(n:Nat)(c:Int):gf n c=some ⟨[0,0,0,0],c⟩:=rfl
theorem wG(n:Nat){v:Int}(h:0<=v/\v<=3):ab (lK n v) l0:=by
 unfold lK;refine ag (x:=⟨[0,0,0,0],0⟩) rfl ?_;obtain⟨y,a,_⟩:=gm (l:=[(0:Int),0,0,0]) (i:=v) h.1 bQ;refine ag a ?_;have c:b' [(0:Int),0,0,0] v 1=some ([(0:Int),0,0,0].set v.toNat 1):=by unfold b';rw[a1 ⟨h.1,bQ⟩]
 exact ag c (ab.some (by unfold l0;rw[eS];rfl))
theorem K3(p:5000<=n)(e:l0 a)(h:l0 b)(x y:Int):ab (hW n a x b y) l0:=by unfold l0 at e h;unfold hW;refine ab.loop (λz:List Int×Int=> ∃i:Nat,z.2=i/\i<=4/\z.1.length=i) (λz=>4-z.2.toNat) ?_ n _ ⟨0,rfl,O,rfl⟩ Z;rintro c ⟨z,w⟩ ⟨i,d,q,k⟩ l;dsimp only at d k⊢;subst d;refine aQ (λm=>?_) λo=>ab.some (by unfold l0;dsimp only;omega);refine ag (bk (bs (O:i<a.aT.length))) (ag (bk (bs (O:i<b.aT.length))) (ag (cX bQ) ?_));rw[be (n:=(i:Int)+1) O];exact l _ ⟨i+1,Z,O,by dsimp only;simp;omega⟩ Z
theorem l0.OZ(h:l0 a):dm 10 a:=by unfold l0 at h;unfold dm;omega
theorem oR(h:dm 10 a):eM 10 [a]:=⟨aX,λx c=>by simp at c;subst c;exact h⟩
theorem ON(h:dm 10 a)(k:dm 10 b):eM 10 [a,b]:=⟨aX,λx c=>by simp at c;rcases c with rfl|rfl;exact h;exact k⟩
theorem Zv(Q:5000<=n)(R:cM k r)(T:0<=k/\k<=100000000)(V:0<=d/\d<=3):ab (Ab n r d) (λx=>(eM 10 x.1.bf/\eM 10 x.1.aH)/\cM (k+10) x.2):=by
 unfold Ab;refine cc (gG n R O aX) λfZ ⟨_,U⟩=>ag (gW _ _) (cc (gG n U O aX) λij ⟨_,I⟩=>ag (gW _ _) ?_);refine ab.aA (λz:List UInt8×Int×List Int×Int×List Int×Int=>cM (k+5) ⟨z.1,z.2.1⟩/\z.2.2.1.length=4/\z.2.2.2.2.1.length=4) (λj i=>?_) λz l=>?_
 ·refine ab.aA (λz:List UInt8×Int×Bool=>cM (k+3) ⟨z.1,z.2.1⟩/\(z.2.2=true->0<d)) (λxH p=>aQ (λh=>?_) λh=>p _ ⟨I.mono O,λh=>by cases h⟩) λz l=>?_
  ·exact cc (iZ n I O) λhN ⟨_,_,W⟩=>p _ ⟨W.mono O,λ_=>h⟩
  obtain⟨X,Y,w⟩:=z;obtain⟨a,e⟩:=l;dsimp only at a e⊢;cases w with
  |false=>exact i _ ⟨a.mono O,rfl,rfl⟩
  |true=>
   have b:=e rfl;refine cc (iZ n a O) λq ⟨f,g,y⟩=>cc (iZ n y O) λt ⟨_,_,s⟩=>?_;have K:0<=q.1/\q.1<=3:=⟨f,by have:=g O;omega⟩
   refine aQ (λ_=>cc (wG n K) λu A=>i _ ⟨s.mono O,A,rfl⟩) λ_=>cc (wG n K) λv B=>ag (gW _ _) (cc (K3 Q B (show l0 ⟨[0,0,0,0],1⟩ from rfl) 1 1) λE C=>i _ ⟨s.mono O,rfl,C⟩)
 obtain⟨X,Y,w,M,N,P⟩:=z;obtain⟨a,e,D⟩:=l;dsimp only at a e D⊢;have F:dm 10 ⟨w,M⟩:=by unfold dm;dsimp only;omega
 have G:dm 10 ⟨N,P⟩:=by unfold dm;dsimp only;omega
 have L: ∀c:Int,dm 10 ⟨[0,0,0,0],c⟩:=λc=>by unfold dm;simp
 refine ab.aA (λz:List UInt8×Int×List ay×List ay=>cM (k+10) ⟨z.1,z.2.1⟩/\eM 10 z.2.2.1/\eM 10 z.2.2.2) (λj i=>?_) λz l=>ab.some ⟨⟨l.2.1,l.2.2⟩,l.1⟩;refine cc (iZ n a O) λS ⟨_,_,m⟩=>aQ (λ_=>?_) λ_=>aQ (λ_=>?_) λ_=>i _ ⟨m.mono O,oR F,oR G⟩
 ·exact cc (gG n m O aX) λH ⟨_,o⟩=>ag (gW _ _) (ag (cX aX) (i _ ⟨o.mono O,oR F,ON G (L _)⟩))
 exact cc (gG n m O aX) λH ⟨_,o⟩=>ag (gW _ _) (ag (cX aX) (i _ ⟨o.mono O,ON F (L _),oR G⟩))
theorem Zp(p:5000<=n)(s:cM k r)(I:0<=k/\k<=90000000):ab (Aa n r) (λx=>(x.1.length<=3/\kb 10 x.1)/\cM (k+40) x.2):=by
 unfold Aa;refine cc (gG n s O aX) λa ⟨w,y⟩=>?_;have K:1<=a.1/\a.1<=3:=by simp at w;omega
 refine ab.loop (λz:List UInt8×Int×List Loop×Int=>0<=z.2.2.2/\(z.2.2.1.length:Int)+z.2.2.2=a.1/\cM (k+1+10*z.2.2.1.length) ⟨z.1,z.2.1⟩/\ ∀l∈z.2.2.1,eM 10 l.bf/\eM 10 l.aH) (λz=>z.2.2.2.toNat) ?_ n _ ⟨Z,aX,by simpa using y,λl h=>by simp at h⟩ Z;rintro e ⟨b,q,bZ,c⟩ ⟨A,B,i,m⟩ o;dsimp only at A B i m⊢;refine aQ (λC=>?_) λD=>ab.some ⟨⟨Z,Z,m⟩,i.mono O⟩;refine cc (Zv p i O (d:=(bZ.length:Int)) O) λL ⟨F,G⟩=>ag (cX bQ) ?_;rw[be O];refine o _ ⟨Z,by dsimp only;simp;omega,G.mono bQ,λl H=>?_⟩ Z;rcases dZ.1 H with h|h
 ·exact m l h
 simp at h;subst h;exact F
theorem Nh(Q:5000<=n)(R:cM k r)(hk:0<=k/\k<=90000000)(cv:0<=d/\d<=3):ab (vH n r d) (λx=>eM 10 x.1.bC/\cM (k+20) x.2):=by
 unfold vH;refine cc (Bp n R O aX) λfZ ⟨m1,U⟩=>?_;refine ab.aA (λz:Int=>1<=z/\z<=2) (λj m=>aQ (λ_=>m _ O) λ_=>m _ O) λw hw=>?_;refine ab.loop (λz:List UInt8×Int×List ay×Int=>0<=z.2.2.2/\z.2.2.2<=w/\(z.2.2.1.length:Int)=z.2.2.2/\cM (k+1+8*z.2.2.2) ⟨z.1,z.2.1⟩/\ ∀a∈z.2.2.1,dm 10 a) (λz=>(w-z.2.2.2).toNat) ?_ n _ ⟨Z,Z,aX,by simpa using U,λl h=>by simp at h⟩ Z;rintro s ⟨b,q,bZ,c⟩ ⟨W,X,Y,y,A⟩ B;dsimp only at W X Y y A⊢;refine aQ (λf=>?_) λg=>ab.some ⟨⟨Z,A⟩,y.mono O⟩;refine cc (gG n y O aX) λt ⟨_,o⟩=>ag (gW _ _) ?_;refine ab.aA (λz:List UInt8×Int×List Int×Int=>cM (k+1+8*c+8) ⟨z.1,z.2.1⟩/\z.2.2.1.length=4) (λj m=>?_) λz C=>?_
 ·refine ab.aA (λz:List UInt8×Int×Bool=>cM (k+1+8*c+2) ⟨z.1,z.2.1⟩/\(z.2.2=true->0<d)) (λxH p=>aQ (λh=>?_) λh=>p _ ⟨o.mono O,λh=>by cases h⟩) λz C=>?_
  ·exact cc (iZ n o O) λhN ⟨_,_,u⟩=>p _ ⟨u.mono O,λ_=>h⟩
  obtain⟨v,E,L⟩:=z;obtain⟨e,i⟩:=C;dsimp only at e i⊢;cases L with
  |false=>exact m _ ⟨e.mono O,rfl⟩
  |true=>
   have M:=i rfl;refine cc (iZ n e O) λN ⟨P,S,D⟩=>cc (wG n ⟨P,by have:=S O;omega⟩) λT F=>?_;refine cc (gG n D O aX) λV ⟨_,G⟩=>cc (gG n G O aX) λH ⟨_,I⟩=>ag (gW _ _) ?_;exact cc (K3 Q F (show l0 ⟨[0,0,0,0],H.1⟩ from rfl) _ _) λoH K=>m _ ⟨I.mono O,K⟩
 obtain⟨v,E,L,z4⟩:=z;obtain⟨e,i⟩:=C;dsimp only at e i⊢;refine ag (cX bQ) ?_;rw[be O];refine B _ ⟨Z,Z,by dsimp only;simp;omega,e.mono Z,λa fM=>?_⟩ Z;rcases dZ.1 fM with h|h
 ·exact A a h
 simp at h;subst h;unfold dm;dsimp only;omega
theorem Zh(H:5000<=n)(s:cM k r)(I:0<=k/\k<=90000000)(K:0<=d/\d<=3):ab (wa n r d) (λx=>dm 10 x.1/\cM (k+10) x.2):=by
 unfold wa;refine cc (gG n s O aX) λL ⟨Q,w⟩=>ag (gW _ _) ?_;refine ab.loop (λz:List UInt8×Int×List Int×Int=>0<=z.2.2.2/\z.2.2.2<=d/\z.2.2.1.length=4/\cM (k+1+z.2.2.2) ⟨z.1,z.2.1⟩) (λz=>(d-z.2.2.2).toNat) ?_ n _ ⟨Z,Z,aX,by simpa using w⟩ Z;rintro a ⟨b,q,bZ,c⟩ ⟨e,A,o,h⟩ m;dsimp only at e A o h⊢;refine aQ (λB=>?_) λC=>ab.some ⟨by unfold dm;dsimp only;omega,h.mono O⟩;refine cc (gG n h O aX) λp ⟨_,D⟩=>?_;obtain⟨y,F,_⟩:=gm (l:=bZ) (i:=c) e O;have G:b' bZ c p.1=some (bZ.set c.toNat p.1):=by unfold b';rw[a1 ⟨e,O⟩]
 refine ag F (ag G ?_);rw[be O];exact m _ ⟨Z,Z,by dsimp only;rw[eS];exact o,D.mono Z⟩ Z
def lg:Nat->Int
 |0=>30
 |L+1=>30+2*lg L
theorem LL: ∀L,30<=lg L
 |0=>gu _
 |L+1=>by have:=LL L;simp only[lg];omega
theorem MC{L:Nat}(h:L<=2):lg L<=210:=by
 have a:L=0\/L=1\/L=2:=O
 rcases a with rfl|rfl|rfl<;>decide
theorem t':dm 10 ⟨[],0⟩:=by unfold dm;simp
theorem tW:eM 10 []:=⟨aX,λx a=>by simp at a⟩
theorem XZ(Y:0<=d/\d<=3): ∀(L n:Nat) (k:Int) (r:cA),5000+L<=n->L<=2->cM k r->0<=k->k<=80000000+10000*(2-(L:Int))->ab (qT (n+1) r d ((L:Int)+1)) (λx=>hR 10 (L+1) x.1/\cM (k+lg L) x.2):=by
 have a: ∀(L n:Nat) (k:Int) (r:cA),5000<=n->cM k r->0<=k->k<=80100000->
   ab (Option.bind (gA n r 4) λi=>bif decide (i.1=0) then(Option.bind (fz n i.2 [1,2,0,99,3]) λo=>some ((⟨1,o.1,(⟨[],0⟩:ay),(⟨[],[]⟩:b0),[]⟩:Expr),o.2)) else(bif decide (i.1=1) then(Option.bind (wa n i.2 d) λf=>some ((⟨2,0,f.1,(⟨[],[]⟩:b0),[]⟩:Expr),f.2)) else(Option.bind (vH n i.2 d) λg=>some ((⟨3,0,(⟨[],0⟩:ay),g.1,[]⟩:Expr),g.2)))) (λx=>hR 10 (L+1) x.1/\cM (k+25) x.2):=by
  intro L n k r B m D t;refine cc (iZ n m O) λi ⟨_,_,F⟩=>aQ (λ_=>?_) λ_=>aQ (λ_=>?_) λ_=>?_
  ·exact cc (gG n F O aX) λo ⟨_,p⟩=>ab.some ⟨⟨aX,t',tW,λk h=>by simp at h⟩,p.mono O⟩
  ·exact cc (Zh B F O Y) λo ⟨G,p⟩=>ab.some ⟨⟨aX,G,tW,λk h=>by simp at h⟩,p.mono O⟩
  exact cc (Nh B F O Y) λo ⟨G,p⟩=>ab.some ⟨⟨aX,t',G,λk h=>by simp at h⟩,p.mono O⟩
 intro L;induction L with
 |zero=>
  intro n k r B v m D t;unfold qT;refine ab.aA (λz:List UInt8×Int×Bool=>cM k ⟨z.1,z.2.1⟩/\z.2.2=true) (λj C=>aQ (λ_=>C _ ⟨m,rfl⟩) λh=>bA (show((0:Nat):Int)+1<2 by omega) h) λz s=>?_;obtain⟨E,M,u⟩:=z;obtain⟨w,y⟩:=s;dsimp only at w y⊢;subst y;exact(a 0 n k _ O w D O).mono (λx A=>⟨A.1,A.2.mono (by simp only[lg];omega)⟩)
 |succ L N=>
  intro n k r B v m D t;have P:=LL L;have S:lg L<=210:=MC O;unfold qT;refine ab.aA (λz:List UInt8×Int×Bool=>cM (k+1) ⟨z.1,z.2.1⟩) (λj C=>aQ (λh=>C _ (m.mono O)) λh=>cc (iZ n m O) λih ⟨_,_,T⟩=>C _ T) λz s=>?_;obtain⟨E,M,u⟩:=z;dsimp only at s⊢;cases u with
  |true=>exact(a (L+1) n (k+1) _ O s O O).mono (λx A=>⟨A.1,A.2.mono (by simp only[lg];omega)⟩)
  |false=>
   refine b3 (cc (gG n s O aX) λV ⟨_,H⟩=>?_);obtain⟨n,rfl⟩: ∃j,n=j+1:=⟨n-1,O⟩
   have G6:wr (((L+1:Nat):Int)+1-1)=(L:Int)+1:=by rw[be O];omega
   rw[G6];refine ab.loop (λz:List UInt8×Int×List Expr×Int=>0<=z.2.2.2/\z.2.2.2<=2/\(z.2.2.1.length:Int)=z.2.2.2/\cM (k+2+lg L*z.2.2.2) ⟨z.1,z.2.1⟩/\ ∀e∈z.2.2.1,hR 10 (L+1) e) (λz=>(2-z.2.2.2).toNat) ?_ (n+1) _ ⟨Z,Z,aX,H.mono bQ,λl h=>by simp at h⟩ Z;rintro I ⟨b,q,bZ,c⟩ ⟨i1,i2,i3,K,Q⟩ R;dsimp only at i1 i2 i3 K Q⊢;have af6:0<=lg L*c/\lg L*c<=2*lg L:=by
    have U:c=0\/c=1\/c=2:=O
    rcases U with rfl|rfl|rfl<;>omega
   refine aQ (λhlt=>?_) λiC=>ab.some ⟨⟨Z,t',tW,Q⟩,K.mono (by simp only[lg];omega)⟩;refine cc (N n _ _ O O K O O) λnA ⟨W,X⟩=>ag (cX bQ) ?_;rw[be O];refine R _ ⟨Z,Z,by dsimp only;simp;omega,X.mono (by dsimp only;rw[Int.mul_add];omega),λe he=>?_⟩ Z;rcases dZ.1 he with h|h
   ·exact Q e h
   simp at h;subst h;exact W
theorem ZL(B:6000<=n)(m:cM k r)(C:0<=k/\k<=70000000)(c:0<=d/\d<=3):ab (z8 n r d) (λx=>iv 10 x.1/\cM (k+300) x.2):=by
 unfold z8;refine cc (Nh O m O c) λo ⟨p,q⟩=>cc (gG n q O aX) λs ⟨e,w⟩=>?_;obtain⟨L,y,a⟩: ∃L:Nat,s.1=(L:Int)+1/\L<=2:=by
  simp at e;rcases e with h|h|h|h
  ·exact⟨1,O,O⟩
  ·exact⟨2,O,O⟩
  ·exact⟨0,O,O⟩
  exact⟨1,O,O⟩
 obtain⟨n,rfl⟩: ∃j,n=j+1:=⟨n-1,O⟩
 have D:lg L<=210:=MC a;rw[y];refine cc (XZ c L n _ _ O a w O O) λz ⟨A,i⟩=>?_;have l:iv 10 ⟨o.1,z.1⟩:=⟨p,A.mono (cN _) O⟩
 refine ag (t6 O (l.mono O).sm d) (ab.cond (λ_=>ab.some ⟨l,i.mono O⟩) λ_=>ag (x:=⟨[0,0,0,0],0⟩) rfl (ab.some ⟨⟨oR (by unfold dm;simp),⟨aX,t',tW,λk h=>by simp at h⟩⟩,i.mono O⟩))
theorem Xv:Db N [65,91,105,93,61,40,65,91,105,93,43,123,105,125,41]=some (⟨⟨[65],[⟨[1,0,0,0],0⟩]⟩,⟨4,0,⟨[],0⟩,⟨[],[]⟩,[⟨3,0,⟨[],0⟩,⟨[65],[⟨[1,0,0,0],0⟩]⟩,[]⟩,⟨2,0,⟨[1,0,0,0],0⟩,⟨[],[]⟩,[]⟩]⟩⟩,true):=J
theorem aaC:EM N [4]=some ([⟨[⟨[0,0,0,0],0⟩],[⟨[0,0,0,0],4⟩]⟩],true):=J
def oB:List cg:=[⟨[65],[6]⟩,⟨[66],[4,5]⟩,⟨[67],[3]⟩]
theorem zI:oB.length<=4/\ku oB:=by refine⟨by decide,λx a=>?_⟩;simp[oB] at a;rcases a with rfl|rfl|rfl<;>decide
theorem M0:rl 10 oB:=by refine⟨by decide,λx a=>?_⟩;simp[oB] at a;rcases a with rfl|rfl|rfl<;>decide
theorem aav:fv 10 ⟨[⟨[⟨[0,0,0,0],0⟩],[⟨[0,0,0,0],4⟩]⟩],[⟨⟨[65],[⟨[1,0,0,0],0⟩]⟩,⟨4,0,⟨[],0⟩,⟨[],[]⟩,[⟨3,0,⟨[],0⟩,⟨[65],[⟨[1,0,0,0],0⟩]⟩,[]⟩,⟨2,0,⟨[1,0,0,0],0⟩,⟨[],[]⟩,[]⟩]⟩⟩]⟩:=by
 have i: ∀(a b c d e:Int),dm 10 ⟨[a,b,c,d],e⟩:=λa b c d e=>by unfold dm;simp
 refine⟨⟨aX,λl m=>?_⟩,aX,λs n=>?_⟩
 ·simp at m;subst m;exact⟨oR (i _ _ _ _ _),oR (i _ _ _ _ _)⟩
 simp at n;subst n;refine⟨oR (i _ _ _ _ _),aX,t',tW,λk o=>?_⟩;simp at o;rcases o with rfl|rfl
 ·exact⟨aX,t',oR (i _ _ _ _ _),λk h=>by simp at h⟩
 exact⟨aX,i _ _ _ _ _,tW,λk h=>by simp at h⟩
theorem aai(E:cM k r)(hk:0<=k/\k<=10000000):ab (z7 N r) (λx=>fv 10 x.1/\cM (k+40000) x.2):=by
 have fr:N=100000:=rfl;unfold z7;refine ab.loop (λz:List UInt8×Int×Int=>0<=z.2.2/\z.2.2<=4/\cM (k+10000*z.2.2) ⟨z.1,z.2.1⟩) (λz=>(4-z.2.2).toNat) ?_ N _ ⟨Z,Z,by simpa using E⟩ Z;rintro K ⟨b,q,c⟩ ⟨M,P,L⟩ Q;dsimp only at M P L⊢;refine aQ (λS=>?_) λT=>ag Xv (ag aaC (ab.some ⟨aav,L.mono O⟩));refine cc (Zp O L O) λi ⟨⟨n3,V⟩,IA⟩=>cc (gG N IA O aX) λe ⟨m6,ag9⟩=>?_;have hm:1<=e.1/\e.1<=3:=by simp at m6;omega
 refine ab.loop (λz:List UInt8×Int×List Loop×List Stmt×Int=>z.2.2.1=i.1/\0<=z.2.2.2.2/\z.2.2.2.2<=e.1/\(z.2.2.2.1.length:Int)+z.2.2.2.2<=e.1/\cM (k+10000*c+41+1500*(e.1-z.2.2.2.2)) ⟨z.1,z.2.1⟩/\ ∀s∈z.2.2.2.1,iv 10 s) (λz=>z.2.2.2.2.toNat) ?_ N _ ⟨rfl,Z,Z,aX,ag9.mono Z,λs h=>by simp at h⟩ Z;rintro m ⟨cT,k7,agw,cR,w⟩ ⟨X,sq,iF,P2,G,H⟩ n;dsimp only at X sq iF P2 G H⊢;subst X;have a: ∀(l:List Stmt),l.length<=10->(∀s∈l,iv 10 s)->fv 10 ⟨i.1,l⟩:=λl h1 h2=>⟨V,h1,h2⟩
 refine aQ (λY=>?_) λf=>?_
 ·refine ab.aA (λz:List UInt8×Int×List Stmt=>cM (k+10000*c+41+1500*(e.1-w)+1500) ⟨z.1,z.2.1⟩/\z.2.2.length<=cR.length+1/\ ∀s∈z.2.2,iv 10 s) (λaed o=>?_) λz eH=>?_
  ·refine ab.loop (λz:List UInt8×Int×Int=>0<=z.2.2/\z.2.2<=5/\cM (k+10000*c+41+1500*(e.1-w)+300*z.2.2) ⟨z.1,z.2.1⟩) (λz=>(5-z.2.2).toNat) ?_ N _ ⟨Z,Z,by simpa using G⟩ Z;rintro p ⟨cu,q2,v⟩ ⟨g1,g2,R⟩ y;dsimp only at g1 g2 R⊢;refine aQ (λg=>?_) λt=>o _ ⟨R.mono O,Z,H⟩;refine cc (ZL O R O (d:=(i.1.length:Int)) O) λA ⟨B,C⟩=>ag (x:=oB) rfl ?_;have U:A6 ⟨i.1,[A.1]⟩:=((a [A.1] aX λs I=>by simp at I;subst I;exact B).mono O).sm;refine ag (DX O zI.1 zI.2 U) (ab.cond (λ_=>ag (cX bQ) (o _ ⟨C.mono O,aX,λs I=>?_⟩)) λ_=>?_)
   ·rcases dZ.1 I with h|h
    ·exact H s h
    simp at h;subst h;exact B
   rw[be O];exact y _ ⟨Z,Z,C.mono Z⟩ Z
  obtain⟨yU,z2,z3⟩:=z;obtain⟨D,W,F⟩:=eH;dsimp only at D W F⊢;rw[be O];exact n _ ⟨rfl,Z,Z,Z,D.mono Z,F⟩ Z
 have u:fv 10 ⟨i.1,cR⟩:=a cR O H;refine ag (x:=oB) rfl (ag (DX O zI.1 zI.2 (u.mono O).sm) ?_);refine ab.aA (λz=>True) (λj o=>ab.cond (λ_=>o _ trivial) λ_=>o _ trivial) λz _=>?_;cases z with
 |true=>exact ab.some ⟨u,G.mono O⟩
 |false=>
  refine b3 ?_;rw[be O];exact Q _ ⟨Z,Z,G.mono Z⟩ Z
theorem Xf(o:cM k r)(G:0<=k/\k<=1000000):ab (z6 N r) (λx=>c5 10 x.1/\cM (k+200000) x.2):=by
 have H:N=100000:=rfl;unfold z6;refine ag (x:=oB) rfl (cc (gG N o O aX) λe ⟨p,s⟩=>?_);have I:1<=e.1/\e.1<=3:=by simp at p;omega
 refine ab.loop (λz:List UInt8×Int×List Part×Int=>0<=z.2.2.2/\(z.2.2.1.length:Int)+z.2.2.2=e.1/\cM (k+1+40000*z.2.2.1.length) ⟨z.1,z.2.1⟩/\ ∀x∈z.2.2.1,fv 10 x) (λz=>z.2.2.2.toNat) ?_ N _ ⟨Z,aX,by simpa using s,λx h=>by simp at h⟩ Z;rintro i ⟨b,q,w,c⟩ ⟨y,A,a,d⟩ l;dsimp only at y A a d⊢;refine aQ (λB=>?_) λC=>?_
 ·refine cc (aai a O) λK ⟨D,F⟩=>ag (cX bQ) ?_;rw[be O];refine l _ ⟨Z,by dsimp only;simp;omega,F.mono bQ,λx m=>?_⟩ Z;rcases dZ.1 m with h|h
  ·exact d x h
  simp at h;subst h;exact D
 have n:c5 10 ⟨oB,w⟩:=⟨M0,Z,d⟩
 refine ag (jP O (n.mono O).sm) (ab.cond (λ_=>ab.some ⟨n,a.mono O⟩) λ_=>ag (x:=oB) rfl (ag (gN O O O) (ab.some ⟨⟨M0,?_,λx m=>d x ?_⟩,a.mono O⟩)))
 ·simp;omega
 exact fR (eV m)
theorem EG{k h:Type}{l:List k}{f:k->Option h}{g:k->h->k}{K:List k->Option R}(m: ∀x∈l,∃z,f x=some z/\g x z=x)(B:l.length<=1000)(C:5000<=n)(o:ab (K l) Q):
  ab (bo (λa ((x,i):List k×Int)=>bif decide (i<(l.length:Int)) then(Option.bind (au l i) λy=>Option.bind (f y) λz=>Option.bind (app x [g y z]) λw=>a (w,wr (i+1))) else K x) n ([],0)) Q:=by
 refine ab.loop (λz:List k×Int=> ∃i:Nat,z.2=i/\i<=l.length/\z.1=l.take i) (λz=>l.length-z.2.toNat) ?_ n _ ⟨0,rfl,O,aX⟩ Z;rintro a ⟨x,z⟩ ⟨i,e,D,c⟩ p;dsimp only at e c⊢;subst e;refine aQ (λq=>?_) λr=>?_
 ·have bO:=bs (O:i<l.length);have s:x.length<=1000:=by rw[c,cJ];omega
  obtain⟨y,A,d⟩:=m _ (bF bO);refine ag (bk bO) (ag A (ag (cX bQ) ?_));rw[be O];refine p _ ⟨i+1,Z,O,?_⟩ Z;dsimp only;rw[ei,bO,c,d];rfl
 have:i=l.length:=O
 rw[c,this,c4];exact o
theorem qN{k:Type}{l:List k}{f:k->Option k}{K:List k->Option R}(c: ∀x∈l,f x=some x)(d:l.length<=1000)(e:5000<=n)(h:ab (K l) Q):
  ab (bo (λa ((x,i):List k×Int)=>bif decide (i<(l.length:Int)) then(Option.bind (au l i) λy=>Option.bind (f y) λz=>Option.bind (app x [z]) λw=>a (w,wr (i+1))) else K x) n ([],0)) Q:=
 EG (g:=λ_ z=>z) (λx m=>⟨x,c x m,rfl⟩) d e h
theorem J8: ∀(L n:Nat) (e:Expr),5000+L<=n->hR 1000 L e->qR (n+1) e=some e
 |0,_,_,_,h=>h.elim
 |L+1,n,e,m,h=>by
  obtain⟨a,c,d,i⟩:=h;unfold qR;refine ab.eq (ag (y1 n c) (ag (yw O d.sm) ?_));obtain⟨n,rfl⟩: ∃j,n=j+1:=⟨n-1,O⟩
  exact qN (f:=qR (n+1)) (K:=λk=>some (⟨e.kind,e.num,e.index,e.read,k⟩:Expr)) (λx l=>J8 L n x O (i x l)) a O (ab.some (by cases e;rfl))
theorem J6(a:6000<=n)(h:iv 1000 s):sQ n s=some s:=by
 obtain⟨n,rfl⟩: ∃j,n=j+1:=⟨n-1,O⟩
 unfold sQ;rw[yw O h.1.sm,J8 5 n s.value O h.2];rfl
theorem J7(W:6000<=n){nest:List Loop}(h:kb 1000 nest):vI n nest=some nest:=by
 obtain⟨X,C⟩:=h;refine ab.eq ?_;unfold vI;refine ab.loop (λz:List Loop×Int=> ∃i:Nat,z.2=i/\i<=nest.length/\z.1=nest.take i) (λz=>nest.length-z.2.toNat) ?_ n _ ⟨0,rfl,O,aX⟩ Z;rintro c ⟨x,z⟩ ⟨i,e,Y,k⟩ D;dsimp only at e k⊢;subst e;refine aQ (λF=>?_) λG=>ab.some ?_
 ·have bO:=bs (O:i<nest.length);obtain⟨⟨b,H⟩,⟨I,L⟩⟩:=C _ (bF bO);have Q:x.length<=1000:=by rw[k,cJ];omega
  refine ab.loop (λz:List ay×Int=> ∃t:Nat,z.2=t/\t<=nest[i].bf.length/\z.1=nest[i].bf.take t) (λz=>nest[i].bf.length-z.2.toNat) ?_ n _ ⟨0,rfl,O,aX⟩ Z;rintro m ⟨y,z⟩ ⟨t,e,j,o⟩ p;dsimp only at e o⊢;subst e;refine ag (bk bO) (aQ (λA=>?_) λB=>?_)
  ·have d:=bs (O:t<nest[i].bf.length);have R:y.length<=1000:=by rw[o,cJ];omega
   refine ag (bk d) (ag (na _ (H _ (bF d))) (ag (cX bQ) ?_));rw[be O];refine p _ ⟨t+1,Z,O,?_⟩ Z;dsimp only;rw[ei,d,o];rfl
  have q:t=nest[i].bf.length:=O
  refine EG (l:=nest[i].aH) (f:=λa:ay=>app [] a.aT) (g:=λa r=>(⟨r,a.const⟩:ay)) (K:=λs=>Option.bind (app x [(⟨y,s⟩:Loop)]) λw=>c (w,wr ((i:Int)+1))) (λa U=>⟨_,na _ (L a U),rfl⟩) I O ?_;refine ag (cX bQ) ?_;rw[be O];refine D _ ⟨i+1,Z,O,?_⟩ Z;dsimp only;rw[ei,bO,k,o,q,c4];rfl
 have:i=nest.length:=O
 rw[k,this,c4]
theorem m'(F:6000<=n)(h:c5 1000 p):qK n p=some p:=by
 obtain⟨⟨aJ,a2⟩,v,I⟩:=h;refine ab.eq ?_;unfold qK;refine EG (n:=n) (l:=p.aS) (f:=λw:cg=>app [] w.bU) (g:=λw L=>(⟨w.name,L⟩:cg)) (K:=λQ=>bo (λc ((G,y):(List Part)×Int)=>
    bif decide (y<(p.parts.length:Int)) then(
     Option.bind (au p.parts y) λk=>
     Option.bind (vI n k.nest) λA=>
     bo (λd ((e,m):(List Stmt)×Int)=>
      bif decide (m<(k.body.length:Int)) then(
       Option.bind (au k.body m) λB=>
       Option.bind (sQ n B) λC=>
       Option.bind (app e [C]) λD=>
       d (D,wr (m+1))
      ) else(
       Option.bind (app G [(⟨A,e⟩:Part)]) λo=>
       c (o,wr (y+1))
      )
     ) n ([],0)
    ) else(
     some (⟨Q,G⟩:Prog)
    )
   ) n ([],0)) (λa R=>⟨_,na _ (a2 a R),rfl⟩) aJ O ?_
 refine ab.loop (λz:List Part×Int=> ∃i:Nat,z.2=i/\i<=p.parts.length/\z.1=p.parts.take i) (λz=>p.parts.length-z.2.toNat) ?_ n _ ⟨0,rfl,O,aX⟩ Z;rintro q ⟨x,z⟩ ⟨i,H,E,r⟩ U;dsimp only at H r⊢;subst H;refine aQ (λW=>?_) λX=>ab.some ?_
 ·have bO:=bs (O:i<p.parts.length);obtain⟨Y,b,j⟩:=I _ (bF bO);have t:x.length<=1000:=by rw[r,cJ];omega
  refine ag (bk bO) (ag (J7 F Y) ?_);refine qN (f:=sQ n) (K:=λe=>Option.bind (app x [(⟨p.parts[i].nest,e⟩:Part)]) λo=>q (o,wr ((i:Int)+1))) (λs u=>J6 F (j s u)) b O ?_;refine ag (cX bQ) ?_;rw[be O];refine U _ ⟨i+1,Z,O,?_⟩ Z;dsimp only;rw[ei,bO,r];rfl
 have:i=p.parts.length:=O
 rw[r,this,c4]
theorem po{k:Type}{l:List k}{i:Nat}{x:k}{P:k->Prop}(h: ∀y∈l,P y)(c:P x): ∀y∈l.set i x,P y:=λy d=>by
 rcases q3 d with a|a
 ·exact h y a
 rw[a];exact c
theorem As{k:Type}{l:List k}{x:k}{P:k->Prop}(h: ∀y∈l,P y)(c:P x): ∀y∈l++[x],P y:=λy d=>by
 rcases dZ.1 d with a|a
 ·exact h y a
 simp at a;rw[a];exact c
theorem dH{k:Type}{l:List k}{i:Int}(h:0<=i/\i<l.length)(x:k):b' l i x=some (l.set i.toNat x):=by unfold b';rw[a1 h]
theorem aaj{l:List ay}(h:eM B l)(c:dm (B+5) a):eM (B+5) (l++[a]):=⟨by have:=h.1;simp;omega,As (λy d=>(h.2 y d).mono O) c⟩
theorem MS{l:List ay}(h:eM B l)(d:dm (B+5) a)(e:dm (B+5) b):eM (B+5) (l++[a,b]):=⟨by have:=h.1;simp;omega,λy i=>by
 rcases dZ.1 i with c|c
 ·exact(h.2 y c).mono O
 simp at c;rcases c with rfl|rfl;exact d;exact e⟩
theorem Ao(h:4<=B)(c:Int):dm B ⟨[0,0,0,0],c⟩:=by unfold dm;simpa using h
theorem FZ(W:6000<=n)(P:10<=B/\B<=900)(L:cM k r)(S:0<=k/\k<=90000000){c:List Loop}(h:kb B c):ab (u7 n r c) (λx=>kb (B+5) x.1/\cM (k+5) x.2):=by
 unfold u7;refine ag (J7 W (h.mono O)) (aQ (λ_=>ab.some ⟨h.mono O,L.mono O⟩) λX=>?_);have s:0<c.length:=O
 have o:=h.mono (O:B<=B+5);have Y:=h.1;have b:wr ((c.length:Int)-1)=(c.length:Int)-1:=be O;rw[b];refine ab.aA (λz:List UInt8×Int×List Loop=>cM (k+5) ⟨z.1,z.2.1⟩/\kb (B+5) z.2.2) (λj p=>?_) λz Q=>ab.some ⟨Q.2,Q.1⟩;have d: ∀(i:Nat) (l:Loop),eM (B+5) l.bf->eM (B+5) l.aH->kb (B+5) (c.set i l):=λi l f g=>⟨by rw[eS];exact o.1,po o.2 ⟨f,g⟩⟩
 obtain⟨T,w,e⟩:=gm (l:=c) (i:=0) O O;obtain⟨V,A,m⟩:=gm (l:=c) (i:=(c.length:Int)-1) O O;have R:=h.2 _ (bF e);have U:=h.2 _ (bF m);have C:=o.2 _ (bF e);have D:=o.2 _ (bF m);refine cc (iZ n L O) λij ⟨_,_,q⟩=>aQ (λ_=>?_) λ_=>aQ (λ_=>?_) λ_=>aQ (λ_=>?_) λ_=>aQ (λ_=>?_) λ_=>aQ (λ_=>?_) λ_=>p _ ⟨q.mono O,o⟩
 ·refine ag w (cc (iZ n q O) λkI ⟨t,u,v⟩=>cc (wG n ⟨t,by have:=u O;omega⟩) λoI E=>ag (cX (by have:=R.1.1;simp;omega)) (ag (dH O _) (p _ ⟨v.mono O,d _ _ (aaj R.1 (E.OZ.mono O)) C.2⟩)))
 ·exact ag A (ag (dH O _) (p _ ⟨q.mono O,d _ _ D.1 ⟨aX,λa F=>by simp at F⟩⟩))
 ·exact ag A (ag (gW _ _) (ag (gW _ _) (ag (cX (by have:=U.2.1;simp;omega)) (ag (dH O _) (p _ ⟨q.mono O,d _ _ D.1 (MS U.2 (Ao O _) (Ao O _))⟩)))))
 ·exact ag (gW _ _) (ag w (ag (dH O _) (p _ ⟨q.mono O,d _ _ C.1 ⟨aX,λa F=>by simp at F;subst F;exact Ao O _⟩⟩)))
 refine ab.loop (λz:List Loop=>0<z.length/\kb (B+5) z) (λz=>5-z.length) ?_ n _ ⟨s,o⟩ O;rintro G z ⟨yU,H⟩ I;refine aQ (λM=>?_) λ_=>p _ ⟨q.mono O,H⟩;obtain⟨y,N,K⟩:=gm (l:=z) (i:=0) O O;exact ag N (ag (cX bQ) (I _ ⟨aX,bQ,As H.2 (H.2 _ (bF K))⟩ bQ))
theorem FY(y:6000<=n)(I:10<=B/\B<=900)(A:cM k r)(K:0<=k/\k<=90000000)(h:iv B s):ab (u6 n r s) (λx=>iv (B+5) x.1/\cM (k+5) x.2):=by
 have q:=h.mono (O:B<=B+5);obtain⟨l,m,C,D,c⟩:=q;have F:=h.1.1;have G:=h.2.1;unfold u6;refine ag (J6 y (h.mono O)) ?_;refine ab.aA (λz:List UInt8×Int×List ay×List Expr×List UInt8×Int×Int=>cM (k+5) ⟨z.1,z.2.1⟩/\eM (B+5) z.2.2.1/\z.2.2.2.1.length<=B+5/\ ∀e∈z.2.2.2.1,hR (B+5) 4 e) (λj d=>?_) λz p=>ab.some ⟨⟨p.2.1,p.2.2.1,C,D,p.2.2.2⟩,p.1⟩;refine cc (iZ n A O) λL ⟨_,_,i⟩=>aQ (λ_=>?_) λ_=>aQ (λ_=>?_) λ_=>aQ (λ_=>?_) λ_=>aQ (λ_=>?_) λ_=>aQ (λ_=>?_) λ_=>d _ ⟨i.mono O,l,m,c⟩
 ·exact cc (Bp n i O aX) λw ⟨_,o⟩=>d _ ⟨o.mono O,l,m,c⟩
 ·exact cc (wG n (v:=3) O) λQ q=>ag (x:=⟨[0,0,0,0],0⟩) rfl (ag (cX bQ) (d _ ⟨i.mono O,MS h.1 (q.OZ.mono O) (Ao O _),m,c⟩))
 ·exact cc (gG n i O aX) λw ⟨_,o⟩=>d _ ⟨o.mono O,l,m,c⟩
 ·exact cc (gG n i O aX) λw ⟨_,o⟩=>d _ ⟨o.mono O,l,m,c⟩
 exact ag (cX bQ) (d _ ⟨i.mono O,l,bQ,As c ⟨aX,by unfold dm;simp,⟨aX,λa H=>by simp at H⟩,λk h=>by simp at h⟩⟩)
theorem Zr(F:6000<=n)(S:cM k r)(hk:0<=k/\k<=80000000)(h:c5 10 p):ab (DA n r p) (λx=>c5 30 x.1/\cM (k+30) x.2):=by
 have W:=h.mono (O:10<=30);obtain⟨m,C,o⟩:=W;have fM:=h.1.1;have hp:=h.2.1;unfold DA;refine ag (m' F (h.mono O)) ?_;have T:wr ((p.parts.length:Int)-1)=(p.parts.length:Int)-1:=be O;rw[T];refine ab.aA (λz:List UInt8×Int×List cg×List Part=>cM (k+30) ⟨z.1,z.2.1⟩/\rl 30 z.2.2.1/\z.2.2.2.length<=30/\ ∀x∈z.2.2.2,fv 30 x) (λj R=>?_) λz U=>ab.some ⟨⟨U.2.1,U.2.2.1,U.2.2.2⟩,U.1⟩;have q: ∀(i:Nat) (x:Part),fv 30 x->(p.parts.set i x).length<=30/\ ∀y∈p.parts.set i x,fv 30 y:=λi x g=>⟨by rw[eS];exact C,po o g⟩
 have a: ∀{X:cA},cM (k+20) X->ab (j (X.b,X.p,p.aS,p.parts)) (λx=>c5 30 x.1/\cM (k+30) x.2):=λY=>R _ ⟨Y.mono O,m,C,o⟩;refine cc (iZ n S O) λij ⟨_,_,A⟩=>aQ (λ_=>?_) λ_=>aQ (λ_=>?_) λ_=>aQ (λ_=>?_) λ_=>aQ (λ_=>?_) λ_=>aQ (λ_=>?_) λ_=>a (A.mono O)
 ·refine cc (Bp n A O aX) λjG ⟨_,V⟩=>cc (gG n V O aX) λkI ⟨_,IA⟩=>ag (cX bQ) (R _ ⟨IA.mono O,⟨bQ,As m.2 aX⟩,C,o⟩)
 ·refine aQ (λc=>?_) λ_=>a (A.mono O);obtain⟨y,w,d⟩:=gm (l:=p.aS) (i:=0) O c;exact cc (gG n A O aX) λhN ⟨_,ag_⟩=>ag w (ag (dH O _) (R _ ⟨ag_.mono O,⟨by rw[eS];exact m.1,po m.2 aX⟩,C,o⟩))
 ·refine aQ (λc=>?_) λ_=>a (A.mono O);obtain⟨y,w,d⟩:=gm (l:=p.parts) (i:=0) O c;have f:=h.2.2 _ (bF d);have e:=o _ (bF d);refine ag w (cc (FZ F (B:=10) O A O f.1) λt ⟨G,H⟩=>cc (FZ F (B:=15) O H O G) λu ⟨I,K⟩=>cc (FZ F (B:=20) O K O I) λv ⟨L,Q⟩=>ag (dH O _) ?_);exact R _ ⟨Q.mono O,m,q _ _ ⟨L.mono O,e.2.1,e.2.2⟩⟩
 ·refine ab.aA (λz:Bool=>z=true->0<(p.parts.length:Int)/\ ∀x,au p.parts ((p.parts.length:Int)-1)=some x->0<(x.body.length:Int)) (λH9 D=>aQ (λc=>?_) λ_=>D _ λh=>by cases h) λz U=>?_
  ·obtain⟨y,w,d⟩:=gm (l:=p.parts) (i:=(p.parts.length:Int)-1) O O;refine ag w (D _ λcv=>⟨c,λx P=>?_⟩);rw[w] at P;cases P;exact e4 cv
  cases z with
  |false=>exact a (A.mono O)
  |true=>
   obtain⟨c,a8⟩:=U rfl;obtain⟨y,w,d⟩:=gm (l:=p.parts) (i:=(p.parts.length:Int)-1) O O;have E:=a8 y w;have f:=h.2.2 _ (bF d);have e:=o _ (bF d);obtain⟨s,M,N⟩:=gm (l:=y.body) (i:=0) O E;have ms:=f.2.2 _ (bF N);refine bS (ag w (ag M (cc (FY F (B:=10) O A O ms) λt ⟨G,H⟩=>cc (FY F (B:=15) O H O G) λu ⟨I,K⟩=>cc (FY F (B:=20) O K O I) λv ⟨L,Q⟩=>ag (dH O _) (ag (dH O _) ?_))));exact R _ ⟨Q.mono O,m,q _ _ ⟨e.1,by rw[eS];exact e.2.1,po e.2.2 (L.mono O)⟩⟩
 refine aQ (λc=>?_) λ_=>a (A.mono O);obtain⟨y,w,d⟩:=gm (l:=p.parts) (i:=(p.parts.length:Int)-1) O O;have e:=o _ (bF d);exact ag w (ag (dH O _) (R _ ⟨A.mono O,m,q _ _ ⟨e.1,aX,λs M=>by simp at M⟩⟩))
theorem ZJ{r:List cg}(c:ku r):0<=fV r/\fV r<=36*r.length:=by have d:=nr (λx:cg=>gT x.bU) r λy a=>(rA (c y a)).1;have e:=AU (λx:cg=>gT x.bU) 36 r λy a=>(rA (c y a)).2;unfold fV;omega
end Go.Lift
