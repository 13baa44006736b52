/- Tools. -/
import Derived.Test.YtfegpkfpnpjgeaaGreatBLawDraw
set_option maxRecDepth 100000
set_option linter.unusedVariables false
namespace Go.Lift
open Go
section
variable {a x b:cb}{l:List cb}{i q n k:Nat}{p:Prog}{R:Type}
theorem gi{a:Type}{l:List a}{x:a}(h:l[i]? =some x):l.take (i+1)=l.take i++[x]:=by rw[eg,h];rfl
def c5(p:Prog)(x:cb):Nat:=match tT p x with
 |some s=>(eB p.aR s.write x.cK 0).toNat
 |none=>0
def rc(p:Prog)(x:cb):List Int:=match tT p x with
 |some s=>(dU 5 s.value).map (λa=>eB p.aR a x.cK 0)
 |none=>[]
def tw(p:Prog)(m:List Int)(x:cb):Int:=match tT p x with
 |some s=>jW 5 p.aR m s.value x.cK
 |none=>0
theorem Ov{list:List cI}(c:kC list){a:bX}{q:List Int}(h:0<=eB list a q 0):eB list a q 0<gH list:=by rcases Ow c a q 0 (fT 0) with bG|bG<;>omega
theorem nz(e:bT p=true)(o:gn p x):(c5 p x:Int)<gH p.aR/\(∀c∈rc p x,0<=c/\c<gH p.aR)/\(rc p x).length<=12/\ ∀m,jw p m x=m.set (c5 p x) (tw p m x):=by obtain⟨i,k,P,s,d,F,G,H,K,q,r,L,w⟩:=u2 e o;obtain⟨Q,h,R,y,z⟩:=ei e;obtain⟨A,l⟩:=Gy w;obtain⟨W,X,b,B⟩:=kD r;unfold c5 rc tw jw;rw[q];dsimp only;refine⟨by have:=Ov h A;omega,λc C=>?_,by rw[dn];exact B,λm=>rfl⟩;obtain⟨a,n,rfl⟩:=ey.1 C;exact⟨l a n,Ov h (l a n)⟩
theorem UA(D:7100<=n)(m:bT p=true)(A:gn p x):Ct n p x=some (rc p x,(c5 p x:Int)):=by
 obtain⟨i,k,P,s,d,B,C,F,G,o,H,q,K⟩:=u2 m A;obtain⟨r,w,E,L,Q⟩:=ei m;obtain⟨I,M⟩:=Gy K;obtain⟨W,X,b,N⟩:=kD H;obtain⟨n,rfl⟩: ∃j,n=j+1:=⟨n-1,O⟩
 have h:CR (n+1) p x=some s:=by
  unfold CR;rw[B,C,be F];show Option.bind (ar P.body (k:Int)) _=_;rw[be G];rfl
 have f:(c5 p x:Int)=eB p.aR s.write x.cK 0:=by unfold c5;rw[o];dsimp only;omega
 have g:rc p x=(dU 5 s.value).map (λa=>eB p.aR a x.cK 0):=by unfold rc;rw[o]
 rw[f,g];refine aa.eq ?_;unfold Ct;refine ab h (ab (ER (d:=d) 5 n s.value O O X) ?_);generalize S:dU 5 s.value=R at*;refine aa.loop (λz:List Int×Int=> ∃i:Nat,z.2=i/\i<=R.length/\z.1=(R.take i).map λa=>eB p.aR a x.cK 0) (λz=>R.length-z.2.toNat) ?_ (n+1) _ ⟨0,rfl,O,aP⟩ Z;rintro l ⟨out,z⟩ ⟨i,y,T,c⟩ t;dsimp only at y c⊢;subst y;refine aN (λu=>?_) λv=>?_
 ·have bI:=bo (O:i<R.length);refine ab (be bI) (ab (zZ O r w (b _ (bE bI)) q) (ab (cB (by rw[c,dn,cE,mS];omega)) ?_));rw[bb O];refine t _ ⟨i+1,Z,O,?_⟩ Z;dsimp only;rw[gi bI,ho,c];rfl
 have e:i=R.length:=O
 refine ab (zZ O r w W q) (aa.some ?_);rw[c,e,dz]
theorem XY(H:7100<=n)(c:bT p=true)(l:gn p x): ∃P s,ar p.parts x.part=some P/\ar P.body x.stmt=some s/\vI n p.aR s x.cK=some (rc p x,(c5 p x:Int),true):=by
 obtain⟨i,k,P,s,d,m,o,q,r,e,w,y,h⟩:=u2 c l;obtain⟨z,A,K,B,C⟩:=ei c;obtain⟨L,Q⟩:=Gy h;have F:(c5 p x:Int)=eB p.aR s.write x.cK 0:=by unfold c5;rw[e];dsimp only;omega
 have G:rc p x=(dU 5 s.value).map (λa=>eB p.aR a x.cK 0):=by unfold rc;rw[e]
 refine⟨P,s,by rw[m];exact be q,by rw[o];exact be r,?_⟩;rw[Kz O z A w y,a1 h,F,G]
theorem Mr{r:List cI}{m l:List Int}{q:List Int}{d:Int}: ∀{L:Nat} {e:Expr},dw L e d=true->(∀a∈dU L e,m.getD (eB r a q 0).toNat 0=l.getD (eB r a q 0).toNat 0)->jW L r m e q=jW L r l e q
 |0,e,h,_=>by cases h
 |L+1,e,h,n=>by
  obtain⟨w,x,p⟩:=ha h;simp only[jW];split
  ·rfl
  split
  ·rfl
  split
  ·rename_i d';exact n _ (by simp[dU,d'])
  have i: ∀c∈e.bm,jW L r m c q=jW L r l c q:=λc o=>
   Mr (p c o) λa s=>n a (by simp only[dU,List.mem_append,List.mem_flatMap];exact .inr ⟨c,o,s⟩)
  split
  ·rename_i a b k;rw[k] at i;rw[i a aP,i b aP]
  rfl
theorem aaj(l:bT p=true)(n:gn p x){m e:List Int}(h: ∀c∈rc p x,m.getD c.toNat 0=e.getD c.toNat 0):tw p m x=tw p e x:=by obtain⟨i,k,P,s,d,w,y,z,A,o,q,B,C⟩:=u2 l n;unfold tw;unfold rc at h;rw[o] at h⊢;exact Mr (kD q).2.1 λa r=>h _ (List.mem_map_of_mem r)
theorem F3{a:Type}(l:List a)(i j:Nat)(x d:a):(l.set i x).getD j d=if i=j/\i<l.length then x else l.getD j d:=by
 rw[eL,eL,List.getElem?_set];split
 ·rename_i h;subst h;split
  ·rename_i c;rw[a1 ⟨rfl,c⟩];rfl
  rename_i c;rw[aZ O,Dy O]
 rename_i h;rw[aZ λc=>h c.1]
def pP(l:List Bool):List Int:=((List.range l.length).filter λi=>l.getD i false).map (fun(i:Nat)=>(i:Int))
theorem V'{l:List Bool}(s:l.length<n)(m:l.length<=1000):vl n l=some (pP l):=by
 refine aa.eq ?_;unfold vl;refine aa.loop (λz:List Int×Int=> ∃i:Nat,z.2=i/\i<=l.length/\z.1.length<=i/\z.1=((List.range i).filter λi=>l.getD i false).map (fun(i:Nat)=>(i:Int))) (λz=>l.length-z.2.toNat) ?_ n _ ⟨0,rfl,O,aP,aP⟩ Z;rintro d ⟨out,z⟩ ⟨i,a,w,ny,c⟩ o;dsimp only at a c ny⊢;subst a;refine aN (λp=>?_) λq=>aa.some ?_
 ·have bI:=bo (O:i<l.length);have r:l.getD i false=l[i]:=by rw[eL,bI];rfl
  refine aa.ay (λz=>z.length<=i+1/\z=((List.range (i+1)).filter λi=>l.getD i false).map (fun(i:Nat)=>(i:Int))) (λj k=>ab (be bI) (aa.cond (λh=>ab (cB (by rw[mS];omega)) (k _ ?_)) λh=>k _ ?_)) λz a=>?_
  ·refine⟨by rw[cV,mS];omega,?_⟩;rw[nO,pY,ho,<-c];simp[bI,h]
  ·refine⟨O,?_⟩;rw[nO,pY,ho,<-c];simp[bI,h]
  rw[bb O];exact o _ ⟨i+1,Z,O,a.1,a.2⟩ Z
 have e:i=l.length:=O
 rw[c,e];rfl
theorem Kt{l:List Bool}(c:l.length<n)(a:l.length<=1000):vl n l=some (pP l):=V' c a
theorem K5(l:List Bool):(pP l).length<=l.length:=by unfold pP;rw[dn];exact f' (tu _ _) aP
theorem Ew{l:List Bool}{c:Int}:c∈pP l↔0<=c/\l.getD c.toNat false=true:=by
 unfold pP;simp only[List.mem_map,List.mem_filter,List.mem_range];constructor
 ·rintro⟨i,⟨e,a⟩,rfl⟩;exact⟨O,by rw[m7];exact a⟩
 rintro⟨e,a⟩;refine⟨c.toNat,⟨?_,a⟩,O⟩;refine vT λd=>?_;rw[eL,Dy d] at a;cases a
theorem UD(c:7000<=n)(d:ja p): ∃L,uG n p=some (L,bT p)/\(bT p=true->L=bn p.parts):=by
 rw[J8 c d];cases a:jq p with
 |false=>
  refine⟨[],?_,λh=>?_⟩
  ·rw[aZ aP,show bT p=false by unfold bT;rw[a];rfl]
  unfold bT at h;rw[a] at h;cases h
 |true=>
  refine⟨bn p.parts,?_,λ_=>rfl⟩;rw[a1 rfl,show bT p=decide ((bn p.parts).length<=120) by
   unfold bT;rw[a,Bool.true_and];exact decide_eq_decide.2 (by have:=Ck p.parts;omega)]
abbrev iv(p:Prog):Nat:=(gH p.aR).toNat
theorem O9{a:Type}{n:Int}(h:0<=n/\n<=1000000000)(x:a):mk n x=some (List.replicate n.toNat x):=by unfold mk;rw[a1 h]
def pick(l:List cb)(o:List Int):List cb:=o.filterMap λc=>l[c.toNat]?
def Py(p:Prog)(a b:cb):Prop:=(c5 p a:Int)∈rc p b\/(c5 p b:Int)∈rc p a\/c5 p a=c5 p b
def HE(p:Prog)(a b:cb):Prop:= ∀m,r5 p.aR m->jw p (jw p m a) b=jw p (jw p m b) a
theorem OC(a:bT p=true)(d:gn p b){w:Nat}(h:(w:Int)∉rc p b)(m:List Int)(v:Int):tw p (m.set w v) b=tw p m b:=by refine aaj a d λc i=>?_;have k:=(nz a d).2.1 c i;rw[F3,aZ];rintro⟨e,_⟩;exact h (by rw[e,y2 k.1];exact i)
theorem swap(c:bT p=true)(d:gn p a)(i:gn p b)(h: ¬Py p a b):HE p a b:=by intro m _;have n:(c5 p a:Int)∉rc p b:=λe=>h (.inl e);have o:(c5 p b:Int)∉rc p a:=λe=>h (.inr (.inl e));have q:c5 p a≠c5 p b:=λe=>h (.inr (.inr e));have k:=(nz c d).2.2.2;have l:=(nz c i).2.2.2;rw[k,l,l,k,OC c i n,OC c d o,List.set_comm _ _ q]
def nX(p:Prog)(a b:cb):Int:=(if(c5 p a:Int)∈rc p b then 1 else 0)+(if(c5 p b:Int)∈rc p a then 2 else 0)+(if c5 p a=c5 p b then 4 else 0)
theorem acg(p:Prog)(a b:cb):0<=nX p a b/\nX p a b<=7:=by unfold nX;split<;>split<;>split<;>omega
def mC(p:Prog)(l:List cb)(i k:Nat):Int:=match l[i]?,l[k]? with
 |some a,some b=>nX p a b
 |_,_=>0
theorem Ga(c:l[i]? =some a)(d:l[k]? =some b):mC p l i k=nX p a b:=by unfold mC;rw[c,d]
theorem ac7(p:Prog)(l:List cb)(i k:Nat):0<=mC p l i k/\mC p l i k<=7:=by
 unfold mC;split
 ·exact acg _ _ _
 omega
def la(p:Prog)(l:List cb)(i j:Nat):List fC:=((List.range j).filter λk=>decide (i<k)&&decide (mC p l i k≠0)).map (fun(k:Nat)=>(⟨(i:Int),(k:Int),mC p l i k⟩:fC))
def fY(p:Prog)(l:List cb)(n:Nat):List fC:=(List.range n).flatMap λi=>la p l i l.length
theorem DX(p:Prog)(l:List cb){j:Nat}(h:i<j):la p l i (j+1)=la p l i j++(if mC p l i j=0 then [] else [⟨(i:Int),(j:Int),mC p l i j⟩]):=by
 unfold la;rw[nO,pY,ho];congr 1;split
 ·rename_i e;simp[e]
 rename_i e;simp[e,h]
theorem EU(p:Prog)(l:List cb)(i:Nat): ∀j,j<=i+1->la p l i j=[]
 |0,_=>rfl
 |j+1,h=>by have a:=EU p l i j O;unfold la at a⊢;rw[nO,pY,ho,a];simp[show¬i<j by omega]
theorem ET(p:Prog)(l:List cb)(n:Nat):fY p l (n+1)=fY p l n++la p l n l.length:=by unfold fY;rw[nO,mT];simp
theorem EV(p:Prog)(l:List cb)(i j:Nat):(la p l i j).length<=j:=by unfold la;rw[dn];exact f' (tu _ _) aP
theorem zh(p:Prog)(l:List cb): ∀n,(fY p l n).length<=n*l.length
 |0=>by simp[fY]
 |n+1=>by
  rw[ET,cV,dG,Nat.one_mul]
  have:=zh p l n
  have:=EV p l n l.length;omega
theorem M1{d:fC}:d∈fY p l l.length↔ ∃i k:Nat,i<k/\k<l.length/\mC p l i k≠0/\d=⟨(i:Int),(k:Int),mC p l i k⟩:=by
 unfold fY la;simp only[List.mem_flatMap,List.mem_range,List.mem_map,List.mem_filter,Bool.and_eq_true,decide_eq_true_eq];constructor
 ·rintro⟨i,e,k,⟨a,c,h⟩,rfl⟩;exact⟨i,k,c,a,h,rfl⟩
 rintro⟨i,k,e,a,c,rfl⟩;exact⟨i,O,k,⟨a,e,c⟩,rfl⟩
def places(o:List Int):Nat->List Int
 |0=>List.replicate o.length 0
 |k+1=>(places o k).set (o.getD k 0).toNat (k:Int)
def oY(p:Prog)(l:List cb)(i:Nat):Int:=match l[i]? with
 |some a=>(c5 p a:Int)
 |none=> -1
def C4(p:Prog)(l:List cb)(i:Nat):List Int:=match l[i]? with
 |some a=>rc p a
 |none=>[]
theorem wu(h:l[i]? =some a):oY p l i=(c5 p a:Int):=by unfold oY;rw[h]
theorem AB(h:l[i]? =some a):C4 p l i=rc p a:=by unfold C4;rw[h]
def iY(p:Prog)(l:List cb)(c:Int):Nat->Int
 |0=> -1
 |i+1=>if oY p l i=c then(i:Int) else iY p l c i
theorem OO(p:Prog)(l:List cb)(c:Int): ∀i,-1<=iY p l c i/\iY p l c i<(i:Int)
 |0=>by simp[iY]
 |i+1=>by have:=OO p l c i;unfold iY;split<;>omega
def mc(p:Prog)(l:List cb)(i:Nat):Bool:= !(l.drop (i+1)).any λx=>decide ((c5 p x:Int)=oY p l i)
def km(f:List Bool)(a:List Int):List Bool:=a.foldl (λf s=>if 0<=s then f.set s.toNat true else f) f
theorem AG: ∀(a:List Int) (f:List Bool),(km f a).length=f.length
 | [],f=>rfl
 |s::a,f=>by
  show(km (if 0<=s then f.set s.toNat true else f) a).length=_;rw[AG];split
  ·rw[eR]
  rfl
theorem zV(f:List Bool)(a:List Int)(s:Int):km f (a++[s])=if 0<=s then(km f a).set s.toNat true else km f a:=by unfold km;rw[List.foldl_append];rfl
theorem M2{i:Nat}: ∀{a:List Int} {f:List Bool},i<f.length->((km f a).getD i false=true↔f.getD i false=true\/(i:Int)∈a)
 | [],f,_=>by simp[km]
 |s::a,f,h=>by
  show(km (if 0<=s then f.set s.toNat true else f) a).getD i false=true↔_;rw[M2 (by split;rw[eR];exact h;exact h),dL];by_cases c:0<=s
  ·rw[a1 c,F3];by_cases e:s.toNat=i
   ·rw[a1 ⟨e,O⟩];simp[show(i:Int)=s by omega]
   rw[aZ λd=>e d.1]
   have: ¬(i:Int)=s:=O
   simp[this]
  rw[aZ c]
  have: ¬(i:Int)=s:=O
  simp[this]
def hU(p:Prog)(l:List cb)(i:Nat):List Int:=(C4 p l i).map λc=>iY p l c i
def kK(p:Prog)(l:List cb):Nat->List Bool
 |0=>List.replicate l.length false
 |j+1=>if(kK p l j).getD (l.length-1-j) false=true\/mc p l (l.length-1-j)=true then km ((kK p l j).set (l.length-1-j) true) (hU p l (l.length-1-j)) else kK p l j
theorem s3(p:Prog)(l:List cb): ∀j,(kK p l j).length=l.length
 |0=>by simp[kK]
 |j+1=>by
  unfold kK;split
  ·rw[AG,eR,s3 p l j]
  exact s3 p l j
abbrev kL(p:Prog)(l:List cb):List Bool:=kK p l l.length
def uo(a b:aw):Bool:=decide (a.aQ=b.aQ)&&decide (a.const=b.const)
def p1:List aw->List aw->Bool
 | [],[]=>true
 |a::as,b::c=>uo a b&&p1 as c
 |_,_=>false
theorem OP: ∀d∈fY p l l.length,0<=d.1/\d.1<d.2/\d.2<(l.length:Int):=by
 intro d a;obtain⟨i,k,c,e,h,rfl⟩:=M1.1 a
 grind
theorem Eg{l:List Int}(o:l.length<n)(p:l.length<=1000)(v:Int):u4 n l v=some (decide (v∈l)):=by
 refine aa.eq ?_;unfold u4;refine cr (P:=λi=>decide ((0:Int)<=i)=decide (v∈l)) ?_ λx c=>aa.some c;unfold Es;refine aa.loop (λz:Int=> ∃i:Nat,z=i/\i<=l.length/\v∉l.take i) (λz=>l.length-z.toNat) ?_ n 0 ⟨0,rfl,O,aP⟩ O;rintro a z ⟨i,rfl,q,d⟩ h;refine aN (λk=>?_) λm=>aa.some ?_
 ·have bI:=bo (O:i<l.length);refine ab (be bI) (aN (λe=>aa.some ?_) λe=>?_)
  ·rw[bF O,bF];rw[e];exact bE bI
  rw[bb O];refine h _ ⟨i+1,O,O,?_⟩ O;rw[gi bI,eh,nN]
  grind
 have e:i=l.length:=O
 grind
theorem FV{l:List Int}(m:l.length<n)(o:l.length<=1000)(v:Int):tI n l v=some (decide (v∈l)):=by
 refine aa.eq ?_;unfold tI;refine aa.loop (λz:Int=> ∃i:Nat,z=i/\i<=l.length/\v∉l.take i) (λz=>l.length-z.toNat) ?_ n 0 ⟨0,rfl,O,aP⟩ O;rintro a z ⟨i,rfl,p,c⟩ d;refine aN (λh=>?_) λk=>aa.some ?_
 ·have bI:=bo (O:i<l.length);refine ab (be bI) (aN (λe=>aa.some ?_) λe=>?_)
  ·rw[bF];rw[<-e];exact bE bI
  rw[bb O];refine d _ ⟨i+1,O,O,?_⟩ O;rw[gi bI,eh,nN]
  grind
 have e:i=l.length:=O
 grind
def fx(p:Prog):n0:=⟨p,bn p.parts,(bn p.parts).map (rc p),(bn p.parts).map λx=>(c5 p x:Int)⟩
theorem jI{a:Type}{l:List a}{f:a->R}{x:a}(h:l[i]? =some x):(l.map f)[i]? =some (f x):=by rw[ev,h];rfl
theorem AH{a:Type}{l:List a}{f:a->R}{x:a}(h:l[i]? =some x):(l.take (i+1)).map f=(l.take i).map f++[f x]:=by rw[gi h,ho];rfl
theorem vy(A:7100<=n)(m:ja p):oI n p=some (if bT p=true then(some (fx p),true) else(none,false)):=by
 obtain⟨L,o,q⟩:=UD (n:=n) O m;refine aa.eq ?_;unfold oI;refine ab o ?_;dsimp only;cases h:bT p with
 |false=>exact aa.some rfl
 |true=>
  rw[q h];have r:=(ei h).2.2.2.2;refine b3 (aa.loop (λz:List (List Int)×List Int×Int=> ∃i:Nat,z.2.2=i/\i<=(bn p.parts).length/\z.1=((bn p.parts).take i).map (rc p)/\z.2.1=((bn p.parts).take i).map λx=>(c5 p x:Int)) (λz=>(bn p.parts).length-z.2.2.toNat) ?_ n _ ⟨0,rfl,O,rfl,rfl⟩ (by first|omega|(dsimp only;omega)));rintro k ⟨a,b,z⟩ ⟨i,l,B,c,d⟩ s;dsimp only at l c d⊢;subst l;refine aN (λw=>?_) λy=>aa.some ?_
  ·have bI:=bo (O:i<(bn p.parts).length);refine ab (be bI) (ab (UA O h (hd (bE bI))) (ab (cB (by rw[c,dn,cE,mS];omega)) (ab (cB (by rw[d,dn,cE,mS];omega)) ?_)));rw[bb O];exact s _ ⟨i+1,Z,O,by dsimp only;rw[AH bI,c],by dsimp only;rw[AH bI,d]⟩ Z
  have e:i=(bn p.parts).length:=O
  rw[c,d,e,dz];rfl
def kd(p:Prog):List ki:=(bn p.parts).map λx=>(⟨rc p x,(c5 p x:Int)⟩:ki)
theorem zE(l:7100<=n)(c:bT p=true):t6 n p=some (kd p):=by
 have m:=(ei c).2.2.2.2;refine aa.eq ?_;unfold t6 kd;refine ab (u3 O c) (aa.loop (λz:List ki×Int=> ∃i:Nat,z.2=i/\i<=(bn p.parts).length/\z.1=((bn p.parts).take i).map λx=>(⟨rc p x,(c5 p x:Int)⟩:ki)) (λz=>(bn p.parts).length-z.2.toNat) ?_ n _ ⟨0,rfl,O,rfl⟩ Z);rintro d ⟨a,z⟩ ⟨i,k,B,h⟩ o;dsimp only at k h⊢;subst k;refine aN (λq=>?_) λr=>aa.some ?_
 ·have bI:=bo (O:i<(bn p.parts).length);obtain⟨P,s,w,y,A⟩:=XY l c (hd (bE bI));refine ab (be bI) (ab w (ab y (ab A (ab (cB (by rw[h,dn,cE,mS];omega)) ?_))));rw[bb O];exact o _ ⟨i+1,Z,O,by dsimp only;rw[AH bI,h]⟩ Z
 have e:i=(bn p.parts).length:=O
 grind
theorem rI(c:bT p=true)(d: ∀x∈l,gn p x)(h:l[i]? =some a):(rc p a).length<=12:=(nz c (d _ (bE h))).2.2.1
theorem NI{Q:R->Prop}{A B:Option Bool}(q:A=some (decide ((c5 p a:Int)∈rc p b)))(r:B=some (decide ((c5 p b:Int)∈rc p a))){c:Int->Option R}(h:aa (c (nX p a b)) Q):
  aa (ay (fun(m:Int)=>ay (fun(i:Int)=>ay c λk=>bif decide ((c5 p a:Int)=(c5 p b:Int)) then(k (wr (i+4))) else(k i))
   λn=>Option.bind B λs=>bif s then(n (wr (m+2))) else(n m))
   λo=>Option.bind A λw=>bif w then(o (wr (0+1))) else(o 0)) Q:=by
 refine aa.ay (λz=>z=if(c5 p a:Int)∈rc p b then 1 else 0) (λj d=>ab q (aN (λe=>d _ (by rw[a1 e];rfl)) λe=>d _ (by rw[aZ e]))) λz l=>?_;subst l;refine aa.ay (λz=>z=(if(c5 p a:Int)∈rc p b then 1 else 0)+if(c5 p b:Int)∈rc p a then 2 else 0) (λj d=>ab r (aN (λe=>d _ ?_) λe=>d _ ?_)) λz l=>?_
 ·rw[a1 e];split<;>rfl
 ·rw[aZ e,Int.add_zero]
 subst l;refine aa.ay (λz=>z=nX p a b) (λj d=>aN (λe=>d _ ?_) λe=>d _ ?_) λz l=>by subst l;exact h
 ·unfold nX;rw[a1 (O:c5 p a=c5 p b)];split<;>split<;>rfl
 unfold nX;rw[aZ (show¬c5 p a=c5 p b by omega),Int.add_zero]
theorem UE(r:7100<=n)(h:bT p=true)(c:(bn p.parts)[i]? =some a)(d:(bn p.parts)[k]? =some b):CD n (fx p) (i:Int) (k:Int)=some (mC p (bn p.parts) i k):=by rw[Ga c d];have s:=rI h (λx e=>hd e) c;have w:=rI h (λx e=>hd e) d;have l:ar (fx p).reads (i:Int)=some (rc p a):=be (jI c);have m:ar (fx p).reads (k:Int)=some (rc p b):=be (jI d);have o:ar (fx p).da (i:Int)=some (c5 p a:Int):=be (jI c);have q:ar (fx p).da (k:Int)=some (c5 p b:Int):=be (jI d);refine aa.eq ?_;unfold CD;rw[l,m,o,q];exact NI (Eg O O _) (Eg O O _) (aa.some rfl)
theorem Wo(c:7100<=n)(d:(rc p a).length<=12)(e:(rc p b).length<=12):zG n ⟨rc p a,(c5 p a:Int)⟩ ⟨rc p b,(c5 p b:Int)⟩=some (nX p a b):=by refine aa.eq ?_;unfold zG;exact NI (FV O O _) (FV O O _) (aa.some rfl)
theorem Fq(L:7100<=n)(F:bT p=true):u' n (fx p)=some (fY p (bn p.parts) (bn p.parts).length):=by
 have s:=(ei F).2.2.2.2;refine aa.eq ?_;unfold u';rw[show(fx p).list=bn p.parts from rfl];generalize m:bn p.parts=l at*;have Q: ∀x∈l,gn p x:=λx R=>hd (by rw[m];exact R);refine aa.loop (λz:List fC×Int=> ∃i:Nat,z.2=i/\i<=l.length/\z.1=fY p l i) (λz=>l.length-z.2.toNat) ?_ n _ ⟨0,rfl,O,rfl⟩ Z;rintro w ⟨a,z⟩ ⟨i,o,t,A⟩ W;dsimp only at o A⊢;subst o;refine aN (λX=>?_) λf=>aa.some ?_
 ·have bI:=bo (O:i<l.length);rw[bb O];refine aa.loop (λz:List fC×Int=> ∃j:Nat,z.2=j/\i<j/\j<=l.length/\z.1=fY p l i++la p l i j) (λz=>l.length-z.2.toNat) ?_ n _ ⟨i+1,Z,O,O,by dsimp only;rw[A,EU p l i _ (cJ _),kP]⟩ Z;rintro q ⟨b,y⟩ ⟨j,G,c,u,r⟩ B;dsimp only at G r⊢;subst G;refine aN (λH=>?_) λK=>?_
  ·have C:=bo (O:j<l.length);have d:=UE L F (i:=i) (k:=j) (by rw[m];exact bI) (by rw[m];exact C);rw[m] at d;have g:=(ac7 p l i j).1;refine aa.ay (λz=>z=fY p l i++la p l i (j+1)) (λv h=>ab d (aN (λe=>ab (cB ?_) (h _ ?_)) λe=>h _ ?_)) λz o=>?_
   ·have D:=zh p l i;have E:=EV p l i j;have I:i*l.length<=120*120:=nP O s
    grind
   ·rw[r,DX p l c,aZ O,fy]
   ·rw[r,DX p l c,a1 O,kP]
   subst o;rw[bb O];exact B _ ⟨j+1,Z,O,O,rfl⟩ Z
  have e:j=l.length:=O
  try rw[bb O]
  exact W _ ⟨i+1,Z,O,by dsimp only;rw[r,e,ET]⟩ Z
 have e:i=l.length:=O
 rw[A,e]
theorem Fg(H:7100<=n)(q:bT p=true):v' n p=some (fY p (bn p.parts) (bn p.parts).length):=by
 have A:=(ei q).2.2.2.2;refine aa.eq ?_;unfold v';refine ab (zE H q) ?_;have B:(kd p).length=(bn p.parts).length:=by unfold kd;rw[dn]
 have d: ∀(i:Nat) x,(bn p.parts)[i]? =some x->ar (kd p) (i:Int)=some ⟨rc p x,(c5 p x:Int)⟩:=λi x h=>be (jI h);rw[B];generalize kd p=u at*;generalize R:bn p.parts=l at*;have k: ∀x∈l,gn p x:=λx W=>hd (by rw[R];exact W);refine aa.loop (λz:List fC×Int=> ∃i:Nat,z.2=i/\i<=l.length/\z.1=fY p l i) (λz=>l.length-z.2.toNat) ?_ n _ ⟨0,rfl,O,rfl⟩ Z;rintro C ⟨a,z⟩ ⟨i,r,v,F⟩ X;dsimp only at r F⊢;subst r;refine aN (λf=>?_) λg=>aa.some ?_
 ·have bI:=bo (O:i<l.length);rw[bb O];refine aa.loop (λz:List fC×Int=> ∃j:Nat,z.2=j/\i<j/\j<=l.length/\z.1=fY p l i++la p l i j) (λz=>l.length-z.2.toNat) ?_ n _ ⟨i+1,Z,O,O,by dsimp only;rw[F,EU p l i _ (cJ _),kP]⟩ Z;rintro s ⟨b,y⟩ ⟨j,K,m,D,w⟩ G;dsimp only at K w⊢;subst K;refine aN (λL=>?_) λQ=>?_
  ·have c:=bo (O:j<l.length);have t:=Wo H (rI q k bI) (rI q k c);refine aa.ay (λz=>z=fY p l i++la p l i (j+1)) (λE o=>ab (d _ _ bI) (ab (d _ _ c) (ab t (eV (λe=>ab (cB ?_) (o _ ?_)) λe=>o _ ?_)))) λz r=>?_
   ·have I:=zh p l i;have M:=EV p l i j;have N:i*l.length<=120*120:=nP O A
    grind
   ·rw[w,DX p l m,Ga bI c,aZ e,fy]
   ·rw[w,DX p l m,Ga bI c,a1 e,kP]
   subst r;rw[bb O];exact G _ ⟨j+1,Z,O,O,rfl⟩ Z
  have e:j=l.length:=O
  try rw[bb O]
  exact X _ ⟨i+1,Z,O,by dsimp only;rw[w,e,ET]⟩ Z
 have e:i=l.length:=O
 rw[F,e]
theorem zD(p:Prog)(l:List cb)(c:Int)(i:Nat):iY p l c (i+1)=if oY p l i=c then(i:Int) else iY p l c i:=rfl
theorem UB(E:7100<=n)(K:bT p=true)(R:i<(bn p.parts).length):CC n (fx p) (i:Int)=some (hU p (bn p.parts) i):=by
 have W:=(ei K).2.2.2.2;have r: ∀x∈bn p.parts,gn p x:=λx X=>hd X;have w:=bo R;have I:=rI K r w;have b:ar (fx p).reads (i:Int)=some (rc p (bn p.parts)[i]):=be (jI w);refine aa.eq ?_;unfold CC hU;rw[AB w,b];generalize rc p (bn p.parts)[i]=d at*;have A:wr ((i:Int)-1)=(i:Int)-1:=bb O;rw[A];refine ab rfl (aa.loop (λz:List Int×Int=> ∃k:Nat,z.2=k/\k<=d.length/\z.1=(d.take k).map λc=>iY p (bn p.parts) c i) (λz=>d.length-z.2.toNat) ?_ n _ ⟨0,rfl,O,rfl⟩ Z);rintro h ⟨a,z⟩ ⟨k,m,M,B⟩ f;dsimp only at m B⊢;subst m;refine aN (λg=>?_) λt=>aa.some ?_
 ·have bI:=bo (O:k<d.length);refine ab (be bI) ?_;have C: ∀y:Int,y=iY p (bn p.parts) d[k] i->aa (Option.bind (app a [y]) λF=>h (F,wr ((k:Int)+1))) (λx=>x=d.map λc=>iY p (bn p.parts) c i):=by
   intro y u;refine ab (cB (by rw[B,dn,cE,mS];omega)) ?_;rw[bb O];exact f _ ⟨k+1,Z,O,by dsimp only;rw[AH bI,B,u]⟩ Z
  refine aa.loop (λz:Int=> ∃s:Nat,z=(s:Int)-1/\s<=i/\iY p (bn p.parts) d[k] i=iY p (bn p.parts) d[k] s) (λz=>(z+1).toNat) ?_ n _ ⟨i,rfl,cJ _,rfl⟩ O;rintro o z ⟨s,rfl,N,l⟩ G;refine aa.ay (λz=>z=true/\(∃q,s=q+1/\oY p (bn p.parts) q≠d[k])\/z=false/\(s:Int)-1=iY p (bn p.parts) d[k] i) (λj L=>aN (λv=>?_) λv=>L _ (.inr ⟨rfl,?_⟩)) λz m=>?_
  ·obtain⟨q,rfl⟩: ∃q,s=q+1:=⟨s-1,O⟩
   have Q:=bo (O:q<(bn p.parts).length);have D:ar (fx p).da (((q+1:Nat):Int)-1)=some (oY p (bn p.parts) q):=by
    rw[show((q+1:Nat):Int)-1=(q:Int) by omega,wu Q];exact be (jI Q)
   refine ab D ?_;by_cases e:oY p (bn p.parts) q=d[k]
   ·rw[bF e];refine L _ (.inr ⟨rfl,?_⟩);rw[l,zD,a1 e];omega
   rw[bD e]
   grind
  ·have:s=0:=O
   subst this;rw[l];rfl
  rcases m with ⟨rfl,q,rfl,H⟩|⟨rfl,m⟩
  ·refine b1 ?_;rw[bb O];exact G _ ⟨q,O,O,by rw[l,zD,aZ H]⟩ O
  exact b3 (C _ m)
 have e:k=d.length:=O
 grind
theorem VE(B:7100<=n)(o:bT p=true)(C:i<=(bn p.parts).length)(c:Int):D2 n (kd p) (i:Int) c=some (iY p (bn p.parts) c i):=by
 have r:=(ei o).2.2.2.2;have k: ∀(i:Nat) x,(bn p.parts)[i]? =some x->ar (kd p) (i:Int)=some ⟨rc p x,(c5 p x:Int)⟩:=λi x h=>be (jI h);refine aa.eq ?_;unfold D2;rw[bb O];refine aa.loop (λz:Int=> ∃s:Nat,z=(s:Int)-1/\s<=i/\iY p (bn p.parts) c i=iY p (bn p.parts) c s) (λz=>(z+1).toNat) ?_ n _ ⟨i,rfl,cJ _,rfl⟩ O;rintro d z ⟨s,rfl,F,a⟩ l;refine aN (λw=>?_) λw=>aa.some ?_
 ·obtain⟨q,rfl⟩: ∃q,s=q+1:=⟨s-1,O⟩
  have m:=bo (O:q<(bn p.parts).length);have y:=k _ _ m;have A:((q+1:Nat):Int)-1=(q:Int):=O
  rw[A];refine ab y (aN (λe=>aa.some ?_) λe=>?_)
  ·dsimp only at e;rw[a,zD,wu m,a1 e]
  dsimp only at e;rw[bb O];exact l _ ⟨q,O,O,by rw[a,zD,wu m,aZ e]⟩ O
 have:s=0:=O
 subst this;rw[a];rfl
theorem abG{f:cb->Int}{w:Int}:decide (w∈l.map f)=l.any (λx=>decide (f x=w)):=by grind
theorem Lb(p:Prog)(l:List cb)(j q:Nat)(h:l.length-1-j=q):kK p l (j+1)=if(kK p l j).getD q false=true\/mc p l q=true then km ((kK p l j).set q true) (hU p l q) else kK p l j:=by subst h;rfl
theorem Nd{y:Int}(h:(hU p l q)[k]? =some y): -1<=y/\y<(q:Int):=by
 unfold hU at h;rw[ev] at h;cases a:(C4 p l q)[k]? with
 |none=>rw[a] at h;cases h
 |some c=>rw[a] at h;cases h;exact OO p l c q
theorem YC(v:7100<=n)(K:bT p=true):CU n (fx p)=some (kL p (bn p.parts)):=by
 have D:=(ei K).2.2.2.2;have L: ∀x∈bn p.parts,gn p x:=λx E=>hd E;have Q:=fun(i:Nat) h=>UB v K (i:=i) h;have a:(fx p).da.length=(bn p.parts).length:=by unfold fx;dsimp only;rw[dn]
 have w:(fx p).da=(bn p.parts).map (λx=>(c5 p x:Int)):=rfl;refine aa.eq ?_;unfold CU;refine ab (O9 (n:=((fx p).list.length:Int)) (x:=false) (by show _/\((bn p.parts).length:Int)<=_;omega)) ?_;rw[show((fx p).list.length:Int)=((bn p.parts).length:Int) from rfl,m7,a,bb O];generalize Y:bn p.parts=l at*;refine aa.loop (λz:List Bool×Int=> ∃j:Nat,z.2=(l.length:Int)-1-j/\j<=l.length/\z.1=kK p l j) (λz=>(z.2+1).toNat) ?_ n _ ⟨0,Z,O,rfl⟩ Z;rintro R ⟨f,z⟩ ⟨j,o,hj,F⟩ I;dsimp only at o F⊢;refine aN (λM=>?_) λM=>aa.some ?_
 ·obtain⟨q,N⟩: ∃q,l.length-1-j=q:=⟨_,rfl⟩
  have W:z=(q:Int):=O
  subst W;have A:q<l.length:=O
  have X:f.length=l.length:=by rw[F,s3]
  have bI:=bo A;have s:=bo (O:q<f.length);have b:f.getD q false=f[q]:=by rw[eL,s];rfl
  have c:=Lb p l j q N;rw[<-F] at c;refine aa.ay (λz=>z=kK p l (j+1)) (λqP B=>?_) λz o=>?_
  ·refine aa.ay (λz=>z= !decide (f.getD q false=true\/mc p l q=true)) (λIU d=>ab (be s) ?_) λz o=>?_
   ·rw[b] at d;cases aY:f[q] with
    |true=>rw[aY] at d;exact b3 (d _ aP)
    |false=>
     rw[aY] at d;have t:ar (fx p).da (q:Int)=some (c5 p l[q]:Int):=by rw[w];exact be (jI bI)
     rw[bb O];refine b1 (ab (gE O O (by rw[a];omega)) (ab t (ab (Eg ?_ ?_ _) (d _ ?_))))
     ·rw[fz,cE,a];omega
     ·rw[fz,cE,a];omega
     rw[show(((l.length:Nat):Int)).toNat=l.length by omega,<-a,dz,show(((q:Int)+1)).toNat=q+1 by omega,w,<-List.map_drop,abG];unfold mc;rw[wu bI];cases (List.drop (q+1) l).any (λx=>decide ((c5 p x:Int)=(c5 p l[q]:Int)))<;>simp
   subst o;by_cases G:f.getD q false=true\/mc p l q=true
   ·rw[bF G];rw[a1 G] at c;refine b3 (ab (be s) (ab (dD ⟨O,O⟩ true) (ab (Q q A) ?_)));rw[m7];have P:(hU p l q).length<=12:=by unfold hU;rw[dn,AB bI];exact rI K L bI
    refine aa.loop (λz:List Bool×Int=> ∃k:Nat,z.2=k/\k<=(hU p l q).length/\z.1=km (f.set q true) ((hU p l q).take k)) (λz=>(hU p l q).length-z.2.toNat) ?_ n _ ⟨0,rfl,O,rfl⟩ Z;rintro H ⟨g,z⟩ ⟨k,o,hk,m⟩ u;dsimp only at o m⊢;subst o;refine aN (λS=>?_) λT=>B _ ?_
    ·have r:=bo (O:k<(hU p l q).length);have aY:=Nd r;have U:g.length=l.length:=by rw[m,AG,eR,X]
     refine aa.ay (λz=>z=km (f.set q true) ((hU p l q).take (k+1))) (λain C=>ab (be r) (aN (λe=>?_) λe=>C _ ?_)) λz o=>?_
     ·obtain⟨y,V,_⟩:=gu (l:=g) e O;refine ab V (ab (dD ⟨e,O⟩ true) (C _ ?_));rw[gi r,zV,a1 e,m]
     ·rw[gi r,zV,aZ e,m]
     subst o;rw[bb O];exact u _ ⟨k+1,Z,O,rfl⟩ Z
    have e:k=(hU p l q).length:=O
    rw[m,e,dz,c]
   rw[bD G];rw[aZ G] at c;exact b1 (B _ c.symm)
  subst o;rw[bb O];exact I _ ⟨j+1,Z,O,rfl⟩ Z
 have e:j=l.length:=O
 rw[F,e]
def rN(p:Prog)(l:List cb)(q k:Nat):Bool:= !((l.take k).drop (q+1)).any λx=>decide ((c5 p x:Int)=oY p l q)
theorem Vk(h:q<k)(a:l[k]? =some b):rN p l q (k+1)=(rN p l q k&& !decide ((c5 p b:Int)=oY p l q)):=by have c:=(bU.1 a).1;unfold rN;rw[gi a,JF (by rw[cE];omega),ts];simp
theorem Sn(cy:7100<=n)(hp:ja p):CI n p=some (if bT p=true then pP (kL p (bn p.parts)) else []):=by
 refine aa.eq ?_;unfold CI;refine ab (jB O hp) ?_;cases M:bT p with
 |false=>exact aa.some rfl
 |true=>
  have Cc:=(ei M).2.2.2.2;have S: ∀x∈bn p.parts,gn p x:=λx hx=>hd hx;have T:(kd p).length=(bn p.parts).length:=by unfold kd;rw[dn]
  have r: ∀(i:Nat) x,(bn p.parts)[i]? =some x->ar (kd p) (i:Int)=some ⟨rc p x,(c5 p x:Int)⟩:=λi x h=>be (jI h);have U:=fun(i:Nat) h=>VE cy M (i:=i) h;refine b3 (ab (zE cy M) ?_);rw[T,a1 rfl];generalize kd p=u at*;generalize su:bn p.parts=l at*;refine ab (O9 (n:=(l.length:Int)) (x:=false) O) ?_;rw[m7,bb O];refine aa.loop (λz:List Bool×Int=> ∃j:Nat,z.2=(l.length:Int)-1-j/\j<=l.length/\z.1=kK p l j) (λz=>(z.2+1).toNat) ?_ n _ ⟨0,Z,O,rfl⟩ Z;rintro C ⟨f,z⟩ ⟨j,a,hj,N⟩ bR;dsimp only at a N⊢;refine aN (λh0=>?_) λh0=>?_
  ·obtain⟨q,hq⟩: ∃q,l.length-1-j=q:=⟨_,rfl⟩
   have V:z=(q:Int):=O
   subst V;have Y:q<l.length:=O
   have aei:f.length=l.length:=by rw[N,s3]
   have bI:=bo Y;have F:=bo (O:q<f.length);have K:f.getD q false=f[q]:=by rw[eL,F];rfl
   have s:=Lb p l j q hq;rw[<-N] at s;have L: ∀y:Int,y=(q:Int)-1->aa (C (kK p l (j+1),y)) _:=λy hy=>bR _ ⟨j+1,Z,O,rfl⟩ Z;have fp:wr ((q:Int)+1)=((q+1:Nat):Int):=by rw[bb O];omega
   have w2:wr ((q:Int)-1)=(q:Int)-1:=bb O;rw[fp,w2];refine aa.loop (λz:Bool×Int=> ∃k:Nat,z.2=k/\q<k/\k<=l.length/\z.1=rN p l q k) (λz=>l.length-z.2.toNat) ?_ n _ ⟨q+1,rfl,O,O,?_⟩ Z
   ·rintro P ⟨b,z⟩ ⟨k,a,aeV,hk,aY⟩ x0;dsimp only at a aY⊢;subst a;refine aN (λhlt=>?_) λji=>?_
    ·have m:=bo (O:k<l.length);have Q:=Vk (p:=p) aeV m;refine aa.ay (λz=>z=rN p l q (k+1)) (λQN A=>?_) λz a=>?_
     ·cases R:b with
      |false=>exact b3 (A _ (by rw[Q,<-aY,R];rfl))
      |true=>
       refine b1 (ab (r _ _ m) (ab (r _ _ bI) (A _ ?_)));rw[Q,<-aY,R,wu bI];rfl
     subst a;rw[bb O];exact x0 _ ⟨k+1,Z,O,O,rfl⟩ Z
    have e:k=l.length:=O
    have H6:b=mc p l q:=by rw[aY,e];unfold rN mc;rw[dz]
    refine aa.ay (λz=>z=f.set q (f.getD q false||mc p l q)) (λIP c=>ab (be F) ?_) λz a=>?_
    ·rw[K] at c;cases W:f[q] with
     |true=>
      rw[W] at c;refine b1 (ab (dD ⟨O,O⟩ true) (c _ ?_));rw[m7];rfl
     |false=>
      rw[W] at c;refine b3 (ab (dD ⟨O,O⟩ b) (c _ ?_));rw[m7,H6];rfl
    subst a;have hrl:=rI M S bI;by_cases H:f.getD q false=true\/mc p l q=true
    ·rw[a1 H] at s;have G:(f.getD q false||mc p l q)=true:=by rcases H with h|h<;>rw[h]<;>simp
     rw[G];have ae5:(hU p l q).length=(rc p l[q]).length:=by unfold hU;rw[dn,AB bI]
     refine aa.loop (λz:List Bool×Int=> ∃k:Nat,z.2=k/\k<=(rc p l[q]).length/\z.1=km (f.set q true) ((hU p l q).take k)) (λz=>(rc p l[q]).length-z.2.toNat) ?_ n _ ⟨0,rfl,O,rfl⟩ Z;rintro w ⟨g,z⟩ ⟨k,a,hk,o⟩ X;dsimp only at a o⊢;subst a;have ahD:g.length=l.length:=by rw[o,AG,eR,aei]
     have t:=bo (O:q<g.length);have hgt:g[q]=true:=by
      have v:g.getD q false=true:=by
       rw[o,M2 (by rw[eR];omega),F3,a1 ⟨rfl,O⟩];exact .inl rfl
      rwa [eL,t] at v
     refine aa.ay (λz=>z=decide (k<(rc p l[q]).length)) (λIQ d=>ab (r _ _ bI) (aN (λe=>ab (be t) (d _ ?_)) λe=>d _ ?_)) λz a=>?_
     ·dsimp only at e;rw[hgt,bF O]
     ·dsimp only at e;rw[bD O]
     subst a;refine aN (λe=>?_) λe=>?_
     ·have D:=bo e;have m:(hU p l q)[k]? =some (iY p l (rc p l[q])[k] q):=by unfold hU;rw[AB bI];exact jI D
      have aY:=Nd m;refine aa.ay (λz=>z=km (f.set q true) ((hU p l q).take (k+1))) (λain E=>ab (r _ _ bI) (ab (be D) (ab (U q O _) (aN (λe=>?_) λe=>E _ ?_)))) λz a=>?_
      ·obtain⟨y,hy,_⟩:=gu (l:=g) e O;refine ab hy (ab (dD ⟨e,O⟩ true) (E _ ?_));rw[gi m,zV,a1 e,o]
      ·rw[gi m,zV,aZ e,o]
      subst a;rw[bb O];exact X _ ⟨k+1,Z,O,rfl⟩ Z
     have e2:k=(hU p l q).length:=O
     rw[o,e2,dz,<-s];exact L _ rfl
    rw[aZ H] at s;have G:(f.getD q false||mc p l q)=false:=by
     cases v:f.getD q false with
     |true=>exact bz (.inl v) H
     |false=>
      cases h2:mc p l q with
      |true=>exact bz (.inr h2) H
      |false=>rfl
    have B:f[q]=false:=by
     rw[<-K];cases v:f.getD q false with
     |true=>exact bz (.inl v) H
     |false=>rfl
    have I:f.set q false=f:=by
     have h:=List.set_getElem_self (as:=f) (i:=q) O
     rwa [B] at h
    rw[G,I];refine aa.loop (λz:List Bool×Int=>z=(f,0)) (λ_=>0) ?_ n _ rfl O;rintro w z rfl X;dsimp only;refine aa.ay (λz=>z=false) (λIQ d=>ab (r _ _ bI) (aa.cond (λ_=>ab (be F) (d _ B)) λ_=>d _ rfl)) λz a=>?_;subst a;refine b3 ?_;rw[<-s];exact L _ rfl
   dsimp only;unfold rN;rw[Dx (by rw[cE];omega)];rfl
  have e:j=l.length:=O
  rw[N,e];exact ab (Kt (by rw[s3];omega) (by rw[s3];omega)) (aa.some rfl)
theorem FX(a:l.length<=120):(fY p l l.length).length<=15000:=by have c:=zh p l l.length;have d:l.length*l.length<=120*120:=nP a a;omega
def kJ{R:Type}(p:R->R->Bool):List R->List R->Bool
 | [],[]=>true
 |a::as,b::c=>p a b&&kJ p as c
 |_,_=>false
theorem Fe{R:Type}{p:R->R->Bool}: ∀{a b:List R},kJ p a b=true->a.length=b.length
 | [],[],_=>rfl
 |a::as,b::c,h=>by
  simp only[kJ,Bool.and_eq_true] at h;simp[Fe h.2]
 | [],b::c,h=>by cases h
 |a::as,[],h=>by cases h
theorem FQ{f:R->R->Option Bool}{p:R->R->Bool}{a b:List R}(r: ∀x∈a,∀y∈b,f x y=some (p x y))(H:a.length<n)(K:a.length<=1000000):
  (bif !decide ((a.length:Int)=(b.length:Int)) then(some false) else(bd (λd (e:Int)=>bif decide (e<(a.length:Int)) then(Option.bind (ar a e) λs=>Option.bind (ar b e) λw=>Option.bind (f s w) λz=>bif !z then(some false) else(d (wr (e+1)))) else(some true)) n 0))=some (kJ p a b):=by
 refine aa.eq (eV (λh=>aa.some ?_) λh=>?_)
 ·cases c:kJ p a b with
  |false=>rfl
  |true=>exact bz (by rw[Fe c]) h
 refine aa.loop (λx:Int=> ∃i:Nat,x=i/\i<=a.length/\kJ p (a.drop i) (b.drop i)=kJ p a b) (λx=>a.length-x.toNat) ?_ n 0 ⟨0,rfl,O,rfl⟩ O;rintro k x ⟨i,rfl,L,c⟩ A;refine aN (λB=>?_) λC=>aa.some ?_
 ·have l:i<a.length:=O
  have m:i<b.length:=O
  have o:=bo l;have aY:=bo m;refine ab (be o) (ab (be aY) (ab (r _ (bE o) _ (bE aY)) ?_));rw[kN l,kN m] at c;simp only[kJ] at c;cases q:p a[i] b[i] with
  |false=>rw[q] at c;exact b1 (aa.some c)
  |true=>
   rw[q,fK] at c;refine b3 ?_;rw[bb O];exact A _ ⟨i+1,O,O,c⟩ O
 have F:a.drop i=[]:=kO O;have G:b.drop i=[]:=kO O;rw[F,G] at c;exact c
theorem Mw{a b:List Int}(F:a.length<n)(G:a.length<=1000000):
  (bif !decide ((a.length:Int)=(b.length:Int)) then(some false) else(bd (λc (d:Int)=>bif decide (d<(a.length:Int)) then(Option.bind (ar a d) λp=>Option.bind (ar b d) λq=>bif !decide (p=q) then(some false) else(c (wr (d+1)))) else(some true)) n 0))=some (decide (a=b)):=by
 refine aa.eq (eV (λh=>aa.some ?_) λh=>?_)
 ·exact(bD λe=>h (by rw[e])).symm
 refine aa.loop (λx:Int=> ∃i:Nat,x=i/\i<=a.length/\a.take i=b.take i) (λx=>a.length-x.toNat) ?_ n 0 ⟨0,rfl,O,rfl⟩ O;rintro k x ⟨i,rfl,H,l⟩ r;refine aN (λs=>?_) λw=>aa.some ?_
 ·have y:i<a.length:=O
  have z:i<b.length:=O
  have o:=bo y;have aY:=bo z;refine ab (be o) (ab (be aY) ?_);refine eV (λm=>aa.some ?_) λA=>?_
  ·exact(bD λe=>m (by subst e;rfl)).symm
  rw[bb O];exact r _ ⟨i+1,O,O,by rw[gi o,gi aY,l,A]⟩ O
 have B:a.take i=a:=hS O;have C:b.take i=b:=hS O;rw[B,C] at l;exact(bF l).symm
theorem Tl{a b:List Int}(c:a.length<n)(d:a.length<=1000000):DN n a b=some (decide (a=b)):=by unfold DN;exact Mw c d
theorem KY{a b:List Int}(c:a.length<n)(d:a.length<=1000000):wE n a b=some (decide (a=b)):=by unfold wE;exact Mw c d
theorem S'(k:5000<=n){a b:aw}(d:jy a):om n a b=some (uo a b):=by unfold jy at d;unfold om uo;have h:=Tl (n:=n) (a:=a.aQ) (b:=b.aQ) O O;refine aa.eq (aa.ay (λz=>z=(decide (a.aQ=b.aQ)&&decide (a.const=b.const))) (λj c=>ab h (aa.cond (λe=>c _ (by rw[e];rfl)) λe=>c _ (by rw[e];rfl))) λz i=>aa.some i)
theorem S7(k:5000<=n){a b:aw}(d:jy a):yw n a b=some (uo a b):=by unfold jy at d;unfold yw uo;have h:=KY (n:=n) (a:=a.aQ) (b:=b.aQ) O O;refine aa.eq (aa.ay (λz=>z=(decide (a.aQ=b.aQ)&&decide (a.const=b.const))) (λj c=>aa.cond (λe=>ab h (c _ (by rw[e,Bool.and_true]))) λe=>c _ (by rw[e,kg])) λz i=>aa.some i)
theorem EI: ∀a b:List aw,kJ uo a b=p1 a b
 | [],[]=>rfl
 |a::as,b::c=>by simp only[kJ,p1,EI as c]
 | [],b::c=>rfl
 |a::as,[]=>rfl
theorem Kf(h:5000<=n){a b:List aw}(c:kp a):xN n a b (λd e=>om n d e)=some (p1 a b):=by unfold xN;rw[<-EI];exact FQ (f:=λd e=>om n d e) (λx i y _=>S' h (c.2 x i)) (by have:=c.1;omega) (by have:=c.1;omega)
theorem Kd(d:5000<=n){a b:List aw}(c:kp a):yv n a b=some (p1 a b):=by unfold yv;rw[<-EI];exact FQ (f:=λe h=>yw n e h) (λx i y _=>S7 d (c.2 x i)) (by have:=c.1;omega) (by have:=c.1;omega)
end
section
def ux(B:Nat)(l:List aw):Bool:=Nat.ble l.length B&&l.all λa=>Nat.ble a.aQ.length B
def Hv(B:Nat)(a:List Loop):Bool:=Nat.ble a.length B&&a.all λl=>ux B l.lo&&ux B l.aE
def xE(B:Nat):Nat->Expr->Bool
 |0,_=>false
 |L+1,e=>Nat.ble e.bm.length B&&(Nat.ble e.index.aQ.length B&&(ux B e.read.bx&&e.bm.all (xE B L)))
def PK(B:Nat)(s:Stmt):Bool:=ux B s.write.bx&&xE B 5 s.value
def PI(B:Nat)(x:Part):Bool:=Hv B x.nest&&(Nat.ble x.body.length B&&x.body.all (PK B))
def PJ(B:Nat)(l:List cI):Bool:=Nat.ble l.length B&&l.all λx=>Nat.ble x.b2.length B
def Hu(B:Nat)(p:Prog):Bool:=PJ B p.aR&&(Nat.ble p.parts.length B&&p.parts.all (PI B))
variable {B:Nat}{l:List (List UInt8)}{s:List UInt8}{k:Int}{r:cH}
theorem Bx{l:List aw}(h:ux B l=true):eQ B l:=by simp only[ux,Bool.and_eq_true,List.all_eq_true] at h;exact⟨dY h.1,λa c=>dY (h.2 a c)⟩
theorem acq{l:List Loop}(h:Hv B l=true):kR B l:=by simp only[Hv,Bool.and_eq_true,List.all_eq_true] at h;exact⟨dY h.1,λa c=>⟨Bx (h.2 a c).1,Bx (h.2 a c).2⟩⟩
theorem Pm{B:Nat}: ∀{L:Nat} {e:Expr},xE B L e=true->iG B L e
 |0,e,h=>by simp[xE] at h
 |L+1,e,h=>by simp only[xE,Bool.and_eq_true,List.all_eq_true] at h;exact⟨dY h.1,dY h.2.1,Bx h.2.2.1,λk a=>Pm (h.2.2.2 k a)⟩
theorem acr{p:Prog}(h:Hu B p=true):db B p:=by simp only[Hu,PJ,PI,PK,Bool.and_eq_true,List.all_eq_true] at h;exact⟨⟨dY h.1.1,λa e=>dY (h.1.2 a e)⟩,dY h.2.1,λx c=>⟨acq (h.2.2 x c).1,dY (h.2.2 x c).2.1,λs d=>⟨Bx ((h.2.2 x c).2.2 s d).1,Pm ((h.2.2 x c).2.2 s d).2⟩⟩⟩
def Hl(a t:List UInt8):Bool:=match cat a t with
 |some x=>match so N x with
  |some (p,_)=>Hu 10 p
  |none=>false
 |none=>false
theorem ZX{t:List UInt8}(h:l.all (Hl s)=true)(d:t∈l): ∃x q,cat s t=some x/\so N x=some q/\db 10 q.1:=by
 have h:=fZ.1 h t d;unfold Hl at h;cases c:cat s t with
 |none=>rw[c] at h;cases h
 |some x=>
  rw[c] at h;dsimp only at h;cases a:so N x with
  |none=>rw[a] at h;cases h
  |some q=>rw[a] at h;exact⟨x,q,rfl,a,acr h⟩
theorem NQ{R:Type}(e:cX k r)(i:k<=1000000000)(m:l≠[])(h:l.all (Hl s)=true){K:List UInt8×cH->List UInt8->Prog×Bool->Option R}{Q:R->Prop}
  (n: ∀a c d,cX (k+1) a.2->db 10 d.1->aa (K a c d) Q):aa (Option.bind (pz N r l) λa=>Option.bind (cat s a.1) λc=>Option.bind (so N c) λd=>K a c d) Q:=by refine cr (BX N e i m) λa ⟨o,p⟩=>?_;obtain⟨x,q,w,y,z⟩:=ZX h o;exact ab w (ab y (n _ _ _ p z))
theorem XI(e:cX k r)(n:0<=k/\k<=900000):aa (AO N r) (λx=>db 10 x.1/\cX (k+210000) x.2):=by
 unfold AO;refine NQ e O aP J λo p q a h=>?_;refine aa.ay (λz=>cX (k+2) ⟨z.1,z.2.1⟩) (λj c=>?_) λz d=>?_
 ·exact aa.cond (λ_=>cr (kE N a O) λs ⟨_,_,i⟩=>c _ (i.mono O)) λ_=>c _ (a.mono O)
 exact aa.cond (λ_=>aa.some ⟨h,d.mono O⟩) λ_=>cr (XK d O) λw ⟨l,m⟩=>aa.some ⟨l,m.mono O⟩
theorem Wi(e:cX k r)(n:0<=k/\k<=800000):aa (zM N r) (λx=>db 10 x.1/\cX (k+220000) x.2):=by
 unfold zM;refine NQ e O aP J λo p q a h=>?_;refine aa.ay (λz=>cX (k+2) ⟨z.1,z.2.1⟩) (λj c=>?_) λz d=>?_
 ·exact aa.cond (λ_=>cr (kE N a O) λs ⟨_,_,i⟩=>c _ (i.mono O)) λ_=>c _ (a.mono O)
 exact aa.cond (λ_=>aa.some ⟨h,d.mono O⟩) λ_=>cr (XI d O) λw ⟨l,m⟩=>aa.some ⟨l,m.mono O⟩
end
def kG(p:Prog)(j:Nat):Nat:=match p.parts[j]? with
 |some x=>x.nest.length
 |none=>0
def qo(i m:Nat):List Step:=(List.range m).map λk:Nat=>⟨1,i,k,0⟩
def uA(i m:Nat):List Step:=(List.range m).map λk:Nat=>⟨2,i,k,0⟩
def PN(p:Prog)(j:Nat):List Step:=qo j (kG p j-1)++uA j (kG p j)
def j1(p:Prog)(i:Nat):List Step:=(List.range i).flatMap (PN p)
def qp(i:Nat):List Step:=(List.range i).flatMap λj:Nat=>[⟨6,j,0,0⟩,⟨9,j,0,0⟩]
def uz(i:Nat):List Step:=(List.range i).map λj:Nat=>⟨10,j,0,0⟩
def nh(p:Prog):List Step:=j1 p p.parts.length++qp (p.parts.length-1)++uz p.parts.length++[⟨11,0,0,0⟩]
variable {a:Type}{n i m:Nat}{xs:List Step}
theorem G8(f:Nat->a)(i:Nat):(List.range (i+1)).map f=(List.range i).map f++[f i]:=by rw[nO,ho];rfl
theorem xr(f:Nat->List a)(i:Nat):(List.range (i+1)).flatMap f=(List.range i).flatMap f++f i:=by rw[nO,mT];simp
theorem Bu(i m:Nat):(qo i m).length=m:=by simp[qo]
theorem O0(i m:Nat):(uA i m).length=m:=by simp[uA]
theorem G3(m:Nat):(uz m).length=m:=by simp[uz]
theorem xl: ∀(m:Nat),(qp m).length=2*m
 |0=>rfl
 |m+1=>by rw[qp,xr,cV,<-qp,xl m];simp;omega
theorem w5{p:Prog}(h: ∀j,kG p j<=4): ∀(m:Nat),(j1 p m).length<=8*m
 |0=>by simp[j1]
 |m+1=>by
  have:=w5 h m
  have:=h m;rw[j1,xr,cV,<-j1,PN,cV,Bu,O0];omega
theorem ue{p:Prog}(h:bT p=true)(j:Nat):kG p j<=4:=by
 unfold kG;cases d:p.parts[j]? with
 |none=>simp
 |some x=>
  simp only[bT,jq,Bool.and_eq_true,decide_eq_true_eq,List.all_eq_true] at h;have c:=h.1.2.2 x (bE d);simp only[ej,Bool.and_eq_true] at c;have a:=c.1;unfold jx at a;split at a
  ·rename_i e
   have:=e.1;simp only[kF,Bool.and_eq_true,decide_eq_true_eq] at this;exact this.2
  cases a
theorem wH{p:Prog}(h:bT p=true):p.parts.length<=4:=by
 simp only[bT,jq,Bool.and_eq_true,decide_eq_true_eq] at h
 grind
theorem Mj{a b:Int}(h: ¬a<b):b<=a:=Int.not_lt.1 h
section
variable {p:Prog}{R:Type}{Q:R->Prop}
theorem Pb(s:5000<=n)(w:m<=4)(y:xs.length<=100){K:List Step->Option R}(l:aa (K (xs++qo i (m-1))) Q):
  aa (bd (λa (z:List Step×Int)=>bif decide (wr (z.2+1)<(m:Int)) then Option.bind (app z.1 [(⟨1,(i:Int),z.2,0⟩:Step)]) λd=>a (d,wr (z.2+1)) else K z.1) n (xs,0)) Q:=by
 refine aa.loop (λz:List Step×Int=> ∃k:Nat,z.2=k/\k<=m-1/\z.1=xs++qo i k) (λz=>m-z.2.toNat) ?_ n _ ⟨0,rfl,O,by simp[qo]⟩ Z;rintro a ⟨x,c⟩ ⟨k,e,A,h⟩ o;dsimp only at e h⊢;subst e h;rw[bb O];refine aN (λq=>ab (cB (by rw[cV,Bu];simp;omega)) (o _ ⟨k+1,aP,O,?_⟩ Z)) λr=>?_
 ·dsimp only;rw[fy];congr 1;exact(G8 _ _).symm
 rw[show k=m-1 by omega];exact l
theorem O'(s:5000<=n)(w:m<=4)(y:xs.length<=100){K:List Step->Option R}(A:aa (K (xs++uA i m)) Q):
  aa (bd (λa (z:List Step×Int)=>bif decide (z.2<(m:Int)) then Option.bind (app z.1 [(⟨2,(i:Int),z.2,0⟩:Step)]) λd=>a (d,wr (z.2+1)) else K z.1) n (xs,0)) Q:=by
 refine aa.loop (λz:List Step×Int=> ∃k:Nat,z.2=k/\k<=m/\z.1=xs++uA i k) (λz=>m-z.2.toNat) ?_ n _ ⟨0,rfl,O,by simp[uA]⟩ Z;rintro a ⟨x,c⟩ ⟨k,l,B,o⟩ q;dsimp only at l o⊢;subst l o;refine aN (λr=>ab (cB (by rw[cV,O0];simp;omega)) ?_) λh=>?_
 ·rw[bb O];refine q _ ⟨k+1,aP,O,?_⟩ Z;dsimp only;rw[fy];congr 1;exact(G8 _ _).symm
 have e:k=m:=by have:=Mj h;omega
 grind
theorem acz(r:5000<=n)(s:m<=4)(w:xs.length<=100){K:List Step->Option R}(i:aa (K (xs++qp (m-1))) Q):
  aa (bd (λa (z:List Step×Int)=>bif decide (wr (z.2+1)<(m:Int)) then Option.bind (app z.1 [(⟨6,z.2,0,0⟩:Step),(⟨9,z.2,0,0⟩:Step)]) λd=>a (d,wr (z.2+1)) else K z.1) n (xs,0)) Q:=by
 refine aa.loop (λz:List Step×Int=> ∃k:Nat,z.2=k/\k<=m-1/\z.1=xs++qp k) (λz=>m-z.2.toNat) ?_ n _ ⟨0,rfl,O,by simp[qp]⟩ Z;rintro a ⟨x,c⟩ ⟨k,e,y,h⟩ l;dsimp only at e h⊢;subst e h;rw[bb O];refine aN (λo=>ab (cB (by rw[cV,xl];simp;omega)) (l _ ⟨k+1,aP,O,?_⟩ Z)) λq=>?_
 ·dsimp only;rw[fy];congr 1;exact(xr _ _).symm
 rw[show k=m-1 by omega];exact i
theorem acy(r:5000<=n)(s:m<=4)(w:xs.length<=100){K:List Step->Option R}(y:aa (K (xs++uz m)) Q):
  aa (bd (λa (z:List Step×Int)=>bif decide (z.2<(m:Int)) then Option.bind (app z.1 [(⟨10,z.2,0,0⟩:Step)]) λd=>a (d,wr (z.2+1)) else K z.1) n (xs,0)) Q:=by
 refine aa.loop (λz:List Step×Int=> ∃k:Nat,z.2=k/\k<=m/\z.1=xs++uz k) (λz=>m-z.2.toNat) ?_ n _ ⟨0,rfl,O,by simp[uz]⟩ Z;rintro a ⟨x,c⟩ ⟨k,i,A,l⟩ o;dsimp only at i l⊢;subst i l;refine aN (λq=>ab (cB (by rw[cV,G3];simp;omega)) ?_) λh=>?_
 ·rw[bb O];refine o _ ⟨k+1,aP,O,?_⟩ Z;dsimp only;rw[fy];congr 1;exact(G8 _ _).symm
 have e:k=m:=by have:=Mj h;omega
 grind
end
theorem NS(o:5000<=n){p:Prog}(q:bT p=true){Q:List Step->Prop}(s:Q (nh p)):
  aa (bd (λd ((l,i):(List Step)×Int)=>bif decide (wr (i+1)<(p.parts.length:Int)) then Option.bind (app l [(⟨6,i,0,0⟩:Step),(⟨9,i,0,0⟩:Step)]) λm=>d (m,wr (i+1)) else
   bd (λa ((e,c):(List Step)×Int)=>bif decide (c<(p.parts.length:Int)) then Option.bind (app e [(⟨10,c,0,0⟩:Step)]) λk=>a (k,wr (c+1)) else Option.bind (app e [(⟨11,0,0,0⟩:Step)]) λh=>some h) n (l,0)) n (j1 p p.parts.length,0)) Q:=by have r:=wH q;have b8:=w5 (ue q) p.parts.length;refine acz o r (xs:=j1 p p.parts.length) O (K:=λx=>bd (λa ((e,c):(List Step)×Int)=>bif decide (c<(p.parts.length:Int)) then Option.bind (app e [(⟨10,c,0,0⟩:Step)]) λk=>a (k,wr (c+1)) else Option.bind (app e [(⟨11,0,0,0⟩:Step)]) λh=>some h) n (x,0)) ?_;refine acy o r (xs:=j1 p p.parts.length++qp (p.parts.length-1)) (by rw[cV,xl];omega) (K:=λx=>Option.bind (app x [(⟨11,0,0,0⟩:Step)]) λh=>some h) ?_;exact ab (cB (by rw[cV,cV,xl,G3];simp;omega)) (aa.some s)
theorem Pt{p:Prog}{x:Part}(h:p.parts[i]? =some x):kG p i=x.nest.length:=by unfold kG;rw[h]
theorem Q7(A:7000<=n){p:Prog}(B:ja p):yb n p=some (if bT p=true then nh p else []):=by
 refine aa.eq ?_;unfold yb;refine ab (sf A B) (aa.cond (λh=>aa.some ?_) λh=>?_)
 ·rw[aZ (by simpa using h)]
 have l:bT p=true:=by simpa using h
 rw[a1 l];have L:=wH l;refine aa.loop (λz:List Step×Int=> ∃i:Nat,z.2=i/\i<=p.parts.length/\z.1=j1 p i) (λz=>p.parts.length-z.2.toNat) ?_ n _ ⟨0,rfl,O,by simp[j1]⟩ Z;rintro a ⟨x,c⟩ ⟨i,r,W,s⟩ C;dsimp only at r s⊢;subst r s;have b8:=w5 (ue l) i;refine aN (λF=>?_) λG=>?_
 ·have w:p.parts[i]? =some p.parts[i]:=bo O;refine ab (be w) ?_;have o:=Pt w;have y:=ue l i;generalize p.parts[i]=X at o⊢;rw[<-o];refine Pb (n:=n) (i:=i) (m:=kG p i) (xs:=j1 p i) O y O (K:=λH=>bd (λd ((e,k):(List Step)×Int)=>bif decide (k<(kG p i:Int)) then Option.bind (app e [(⟨2,(i:Int),k,0⟩:Step)]) λq=>d (q,wr (k+1)) else a (e,wr ((i:Int)+1))) n (H,0)) ?_;refine O' (n:=n) (i:=i) (m:=kG p i) (xs:=j1 p i++qo i (kG p i-1)) O y (by rw[cV,Bu];omega) (K:=λe=>a (e,wr ((i:Int)+1))) ?_;rw[bb O];refine C _ ⟨i+1,aP,O,?_⟩ Z;dsimp only;rw[fy];exact(xr _ _).symm
 rw[show i=p.parts.length by omega];exact NS O l rfl
theorem Si(B:7000<=n){p:Prog}(C:ja p):CA n p=some (if bT p=true then nh p else []):=by
 refine aa.eq ?_;unfold CA;refine ab (jB B C) (aa.cond (λh=>aa.some ?_) λh=>?_)
 ·rw[aZ (by simpa using h)]
 have l:bT p=true:=by simpa using h
 rw[a1 l];have W:=wH l;refine aa.loop (λz:List Step×Int=> ∃i:Nat,z.2=i/\i<=p.parts.length/\z.1=j1 p i) (λz=>p.parts.length-z.2.toNat) ?_ n _ ⟨0,rfl,O,by simp[j1]⟩ Z;rintro a ⟨x,c⟩ ⟨i,s,X,w⟩ F;dsimp only at s w⊢;subst s w;have b8:=w5 (ue l) i;refine aN (λG=>?_) λH=>?_
 ·have y:p.parts[i]? =some p.parts[i]:=bo O;have q:ar p.parts (i:Int)=some p.parts[i]:=be y;have o:=Pt y;have A:=ue l i;simp only[q,Option.bind_some];generalize p.parts[i]=b at o⊢;rw[<-o];refine Pb (n:=n) (i:=i) (m:=kG p i) (xs:=j1 p i) O A O (K:=λL=>bd (λd ((e,k):(List Step)×Int)=>bif decide (k<(kG p i:Int)) then Option.bind (app e [(⟨2,(i:Int),k,0⟩:Step)]) λr=>d (r,wr (k+1)) else a (e,wr ((i:Int)+1))) n (L,0)) ?_;refine O' (n:=n) (i:=i) (m:=kG p i) (xs:=j1 p i++qo i (kG p i-1)) O A (by rw[cV,Bu];omega) (K:=λe=>a (e,wr ((i:Int)+1))) ?_;rw[bb O];refine F _ ⟨i+1,aP,O,?_⟩ Z;dsimp only;rw[fy];exact(xr _ _).symm
 rw[show i=p.parts.length by omega];exact NS O l rfl
theorem ZA{p:Prog}(a:bT p=true):(nh p).length<=100/\0<(nh p).length:=by
 have c:=wH a
 have:=w5 (ue a) p.parts.length;unfold nh;simp only[List.length_append,xl,G3,List.length_cons,List.length_nil];omega
end Go.Lift
