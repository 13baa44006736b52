/- Tools. -/
import Derived.Test.YtcihigfifglboabGreatGLawDraw
set_option maxRecDepth 100000
set_option linter.unusedVariables false
namespace Go.Lift
open Go
section
variable {k R:Type}{l:List cx}{i q n:Nat}{x a b:cx}{p:Prog}{f:k->R}
theorem gd{l:List k}{x:k}(h:l[i]? =some x):l.take (i+1)=l.take i++[x]:=by rw[ei,h];rfl
def dc(p:Prog)(x:cx):Nat:=match tB p x with
 |some s=>(ez p.aS s.write x.cL 0).toNat
 |none=>0
def rc(p:Prog)(x:cx):List Int:=match tB p x with
 |some s=>(dX 5 s.value).map (λa=>ez p.aS a x.cL 0)
 |none=>[]
def ta(p:Prog)(m:List Int)(x:cx):Int:=match tB p x with
 |some s=>jK 5 p.aS m s.value x.cL
 |none=>0
theorem Nq{list:List cg}(c:ku list){a:b0}{q:List Int}(h:0<=ez list a q 0):ez list a q 0<fV list:=by rcases Nr c a q 0 (gu 0) with bP|bP<;>omega
theorem qw(e:b2 p=true)(o:gk p x):(dc p x:Int)<fV p.aS/\(∀c∈rc p x,0<=c/\c<fV p.aS)/\(rc p x).length<=12/\ ∀m,jj p m x=m.set (dc p x) (ta p m x):=by obtain⟨i,k,P,s,d,D,F,G,H,q,r,I,w⟩:=uI e o;obtain⟨K,h,L,y,z⟩:=ey e;obtain⟨A,l⟩:=FE w;obtain⟨Q,R,U,B⟩:=kv r;unfold dc rc ta jj;rw[q];dsimp only;refine⟨by have:=Nq h A;omega,λc C=>?_,by rw[c6];exact B,λm=>rfl⟩;obtain⟨a,n,rfl⟩:=eK.1 C;exact⟨l a n,Nq h (l a n)⟩
theorem T1(g:7100<=n)(m:b2 p=true)(A:gk p x):B1 n p x=some (rc p x,(dc p x:Int)):=by
 obtain⟨i,k,P,s,d,B,C,D,F,o,G,q,H⟩:=uI m A;obtain⟨r,w,t,I,K⟩:=ey m;obtain⟨u,v⟩:=FE H;obtain⟨L,Q,U,E⟩:=kv G;obtain⟨n,rfl⟩: ∃j,n=j+1:=⟨n-1,O⟩
 have h:Cn (n+1) p x=some s:=by
  unfold Cn;rw[B,C,bk D];show Option.bind (au P.body (k:Int)) _=_;rw[bk F];rfl
 have W:(dc p x:Int)=ez p.aS s.write x.cL 0:=by unfold dc;rw[o];dsimp only;omega
 have X:rc p x=(dX 5 s.value).map (λa=>ez p.aS a x.cL 0):=by unfold rc;rw[o]
 rw[W,X];refine ab.eq ?_;unfold B1;refine ag h (ag (El (d:=d) 5 n s.value O O Q) ?_);generalize M:dX 5 s.value=R at*;refine ab.loop (λz:List Int×Int=> ∃i:Nat,z.2=i/\i<=R.length/\z.1=(R.take i).map λa=>ez p.aS a x.cL 0) (λz=>R.length-z.2.toNat) ?_ (n+1) _ ⟨0,rfl,O,aX⟩ Z;rintro l ⟨out,z⟩ ⟨i,y,N,c⟩ Y;dsimp only at y c⊢;subst y;refine aQ (λb=>?_) λf=>?_
 ·have bO:=bs (O:i<R.length);refine ag (bk bO) (ag (zt O r w (U _ (bF bO)) q) (ag (cX (by rw[c,c6,cJ,mG];omega)) ?_));rw[be O];refine Y _ ⟨i+1,Z,O,?_⟩ Z;dsimp only;rw[gd bO,fQ,c];rfl
 have e:i=R.length:=O
 refine ag (zt O r w L q) (ab.some ?_);rw[c,e,c4]
theorem W7(G:7100<=n)(c:b2 p=true)(l:gk p x): ∃P s,au p.parts x.part=some P/\au P.body x.stmt=some s/\vj n p.aS s x.cL=some (rc p x,(dc p x:Int),true):=by
 obtain⟨i,k,P,s,d,m,o,q,r,e,w,y,h⟩:=uI c l;obtain⟨z,A,H,B,C⟩:=ey c;obtain⟨I,K⟩:=FE h;have D:(dc p x:Int)=ez p.aS s.write x.cL 0:=by unfold dc;rw[e];dsimp only;omega
 have F:rc p x=(dX 5 s.value).map (λa=>ez p.aS a x.cL 0):=by unfold rc;rw[e]
 refine⟨P,s,by rw[m];exact bk q,by rw[o];exact bk r,?_⟩;rw[JZ O z A w y,a1 h,D,F]
theorem Lr{r:List cg}{m l:List Int}{q:List Int}{d:Int}: ∀{L:Nat} {e:Expr},dA L e d=true->(∀a∈dX L e,m.getD (ez r a q 0).toNat 0=l.getD (ez r a q 0).toNat 0)->jK L r m e q=jK L r l e q
 |0,e,h,_=>by cases h
 |L+1,e,h,n=>by
  obtain⟨x,y,p⟩:=gY h;simp only[jK];split
  ·rfl
  split
  ·rfl
  split
  ·rename_i s;exact n _ (by simp[dX,s])
  have i: ∀c∈e.bm,jK L r m c q=jK L r l c q:=λc o=>
   Lr (p c o) λa w=>n a (by simp only[dX,List.mem_append,List.mem_flatMap];exact .inr ⟨c,o,w⟩)
  split
  ·rename_i a b k;rw[k] at i;rw[i a aX,i b aX]
  rfl
theorem YY(l:b2 p=true)(n:gk p x){m e:List Int}(h: ∀c∈rc p x,m.getD c.toNat 0=e.getD c.toNat 0):ta p m x=ta p e x:=by obtain⟨i,k,P,s,d,w,y,z,A,o,q,B,C⟩:=uI l n;unfold ta;unfold rc at h;rw[o] at h⊢;exact Lr (kv q).2.1 λa r=>h _ (List.mem_map_of_mem r)
theorem Ft(l:List k)(i j:Nat)(x d:k):(l.set i x).getD j d=if i=j/\i<l.length then x else l.getD j d:=by
 rw[eu,eu,List.getElem?_set];split
 ·rename_i h;subst h;split
  ·rename_i a;rw[a1 ⟨rfl,a⟩];rfl
  rename_i a;rw[a6 O,q4 O]
 rename_i h;rw[a6 λa=>h a.1]
def px(l:List Bool):List Int:=((List.range l.length).filter λi=>l.getD i false).map (fun(i:Nat)=>(i:Int))
theorem UC{l:List Bool}(s:l.length<n)(m:l.length<=1000):uZ n l=some (px l):=by
 refine ab.eq ?_;unfold uZ;refine ab.loop (λz:List Int×Int=> ∃i:Nat,z.2=i/\i<=l.length/\z.1.length<=i/\z.1=((List.range i).filter λi=>l.getD i false).map (fun(i:Nat)=>(i:Int))) (λz=>l.length-z.2.toNat) ?_ n _ ⟨0,rfl,O,aX,aX⟩ Z;rintro d ⟨out,z⟩ ⟨i,a,w,o1,c⟩ o;dsimp only at a c o1⊢;subst a;refine aQ (λp=>?_) λq=>ab.some ?_
 ·have bO:=bs (O:i<l.length);have r:l.getD i false=l[i]:=by rw[eu,bO];rfl
  refine ab.aA (λz=>z.length<=i+1/\z=((List.range (i+1)).filter λi=>l.getD i false).map (fun(i:Nat)=>(i:Int))) (λj k=>ag (bk bO) (ab.cond (λh=>ag (cX (by rw[mG];omega)) (k _ ?_)) λh=>k _ ?_)) λz a=>?_
  ·refine⟨by rw[dB,mG];omega,?_⟩;rw[pD,vu,fQ,<-c];simp[bO,h]
  ·refine⟨O,?_⟩;rw[pD,vu,fQ,<-c];simp[bO,h]
  rw[be O];exact o _ ⟨i+1,Z,O,a.1,a.2⟩ Z
 have e:i=l.length:=O
 rw[c,e];rfl
theorem J2{l:List Bool}(c:l.length<n)(a:l.length<=1000):uZ n l=some (px l):=UC c a
theorem Kp(l:List Bool):(px l).length<=l.length:=by unfold px;rw[c6];exact gr (List.length_filter_le _ _) aX
theorem D2{l:List Bool}{c:Int}:c∈px l↔0<=c/\l.getD c.toNat false=true:=by
 unfold px;simp only[List.mem_map,List.mem_filter,List.mem_range];constructor
 ·rintro⟨i,⟨e,a⟩,rfl⟩;exact⟨O,by rw[cY];exact a⟩
 rintro⟨e,a⟩;refine⟨c.toNat,⟨?_,a⟩,O⟩;refine sX λd=>?_;rw[eu,q4 d] at a;cases a
theorem TP(c:7000<=n)(d:ln p): ∃L,uf n p=some (L,b2 p)/\(b2 p=true->L=bB p.parts):=by
 rw[Js c d];cases a:j7 p with
 |false=>
  refine⟨[],?_,λh=>?_⟩
  ·rw[a6 aX,show b2 p=false by unfold b2;rw[a];rfl]
  unfold b2 at h;rw[a] at h;cases h
 |true=>
  refine⟨bB p.parts,?_,λ_=>rfl⟩;rw[a1 rfl,show b2 p=decide ((bB p.parts).length<=120) by
   unfold b2;rw[a,Bool.true_and];exact decide_eq_decide.2 (by have:=BR p.parts;omega)]
abbrev ib(p:Prog):Nat:=(fV p.aS).toNat
theorem OG{n:Int}(h:0<=n/\n<=1000000000)(x:k):mk n x=some (List.replicate n.toNat x):=by unfold mk;rw[a1 h]
def pick(l:List cx)(o:List Int):List cx:=o.filterMap λc=>l[c.toNat]?
def OM(p:Prog)(a b:cx):Prop:=(dc p a:Int)∈rc p b\/(dc p b:Int)∈rc p a\/dc p a=dc p b
def G0(p:Prog)(a b:cx):Prop:= ∀m,rM p.aS m->jj p (jj p m a) b=jj p (jj p m b) a
theorem N0(a:b2 p=true)(d:gk p b){w:Nat}(h:(w:Int)∉rc p b)(m:List Int)(v:Int):ta p (m.set w v) b=ta p m b:=by refine YY a d λc i=>?_;have k:=(qw a d).2.1 c i;rw[Ft,a6];rintro⟨e,_⟩;exact h (by rw[e,yB k.1];exact i)
theorem swap(c:b2 p=true)(d:gk p a)(i:gk p b)(h: ¬OM p a b):G0 p a b:=by intro m _;have n:(dc p a:Int)∉rc p b:=λe=>h (.inl e);have o:(dc p b:Int)∉rc p a:=λe=>h (.inr (.inl e));have q:dc p a≠dc p b:=λe=>h (.inr (.inr e));have k:=(qw c d).2.2.2;have l:=(qw c i).2.2.2;rw[k,l,l,k,N0 c i n,N0 c d o,List.set_comm _ _ q]
def nK(p:Prog)(a b:cx):Int:=(if(dc p a:Int)∈rc p b then 1 else 0)+(if(dc p b:Int)∈rc p a then 2 else 0)+(if dc p a=dc p b then 4 else 0)
theorem aaU(p:Prog)(a b:cx):0<=nK p a b/\nK p a b<=7:=by unfold nK;split<;>split<;>split<;>omega
def mn(p:Prog)(l:List cx)(i k:Nat):Int:=match l[i]?,l[k]? with
 |some a,some b=>nK p a b
 |_,_=>0
theorem F2{k:Nat}(c:l[i]? =some a)(d:l[k]? =some b):mn p l i k=nK p a b:=by unfold mn;rw[c,d]
theorem abI(p:Prog)(l:List cx)(i k:Nat):0<=mn p l i k/\mn p l i k<=7:=by
 unfold mn;split
 ·exact aaU _ _ _
 omega
def k6(p:Prog)(l:List cx)(i j:Nat):List fH:=((List.range j).filter λk=>decide (i<k)&&decide (mn p l i k≠0)).map (fun(k:Nat)=>(⟨(i:Int),(k:Int),mn p l i k⟩:fH))
def fW(p:Prog)(l:List cx)(n:Nat):List fH:=(List.range n).flatMap λi=>k6 p l i l.length
theorem Ds(p:Prog)(l:List cx){j:Nat}(h:i<j):k6 p l i (j+1)=k6 p l i j++(if mn p l i j=0 then [] else [⟨(i:Int),(j:Int),mn p l i j⟩]):=by
 unfold k6;rw[pD,vu,fQ];congr 1;split
 ·rename_i e;simp[e]
 rename_i e;simp[e,h]
theorem Ep(p:Prog)(l:List cx)(i:Nat): ∀j,j<=i+1->k6 p l i j=[]
 |0,_=>rfl
 |j+1,h=>by have a:=Ep p l i j O;unfold k6 at a⊢;rw[pD,vu,fQ,a];simp[show¬i<j by omega]
theorem Eo(p:Prog)(l:List cx)(n:Nat):fW p l (n+1)=fW p l n++k6 p l n l.length:=by unfold fW;rw[pD,oD];simp
theorem Er(p:Prog)(l:List cx)(i j:Nat):(k6 p l i j).length<=j:=by unfold k6;rw[c6];exact gr (List.length_filter_le _ _) aX
theorem yS(p:Prog)(l:List cx): ∀n,(fW p l n).length<=n*l.length
 |0=>by simp[fW]
 |n+1=>by
  rw[Eo,dB,dj,Nat.one_mul]
  have:=yS p l n
  have:=Er p l n l.length;omega
theorem MK{d:fH}:d∈fW p l l.length↔ ∃i k:Nat,i<k/\k<l.length/\mn p l i k≠0/\d=⟨(i:Int),(k:Int),mn p l i k⟩:=by
 unfold fW k6;simp only[List.mem_flatMap,List.mem_range,List.mem_map,List.mem_filter,Bool.and_eq_true,decide_eq_true_eq];constructor
 ·rintro⟨i,e,k,⟨a,c,h⟩,rfl⟩;exact⟨i,k,c,a,h,rfl⟩
 rintro⟨i,k,e,a,c,rfl⟩;exact⟨i,O,k,⟨a,e,c⟩,rfl⟩
def places(o:List Int):Nat->List Int
 |0=>List.replicate o.length 0
 |k+1=>(places o k).set (o.getD k 0).toNat (k:Int)
def oG(p:Prog)(l:List cx)(i:Nat):Int:=match l[i]? with
 |some a=>(dc p a:Int)
 |none=> -1
def CC(p:Prog)(l:List cx)(i:Nat):List Int:=match l[i]? with
 |some a=>rc p a
 |none=>[]
theorem vQ(h:l[i]? =some a):oG p l i=(dc p a:Int):=by unfold oG;rw[h]
theorem Al(h:l[i]? =some a):CC p l i=rc p a:=by unfold CC;rw[h]
def iN(p:Prog)(l:List cx)(c:Int):Nat->Int
 |0=> -1
 |i+1=>if oG p l i=c then(i:Int) else iN p l c i
theorem NV(p:Prog)(l:List cx)(c:Int): ∀i,-1<=iN p l c i/\iN p l c i<(i:Int)
 |0=>by simp[iN]
 |i+1=>by have:=NV p l c i;unfold iN;split<;>omega
def l2(p:Prog)(l:List cx)(i:Nat):Bool:= !(l.drop (i+1)).any λx=>decide ((dc p x:Int)=oG p l i)
def kf(f:List Bool)(a:List Int):List Bool:=a.foldl (λf s=>if 0<=s then f.set s.toNat true else f) f
theorem zN: ∀(a:List Int) (f:List Bool),(kf f a).length=f.length
 | [],f=>rfl
 |s::a,f=>by
  show(kf (if 0<=s then f.set s.toNat true else f) a).length=_;rw[zN];split
  ·rw[eS]
  rfl
theorem zp(f:List Bool)(a:List Int)(s:Int):kf f (a++[s])=if 0<=s then(kf f a).set s.toNat true else kf f a:=by unfold kf;rw[List.foldl_append];rfl
theorem ML{i:Nat}: ∀{a:List Int} {f:List Bool},i<f.length->((kf f a).getD i false=true↔f.getD i false=true\/(i:Int)∈a)
 | [],f,_=>by simp[kf]
 |s::a,f,h=>by
  show(kf (if 0<=s then f.set s.toNat true else f) a).getD i false=true↔_;rw[ML (by split;rw[eS];exact h;exact h),dN];by_cases c:0<=s
  ·rw[a1 c,Ft];by_cases e:s.toNat=i
   ·rw[a1 ⟨e,O⟩];simp[show(i:Int)=s by omega]
   rw[a6 λd=>e d.1]
   have: ¬(i:Int)=s:=O
   simp[this]
  rw[a6 c]
  have: ¬(i:Int)=s:=O
  simp[this]
def hL(p:Prog)(l:List cx)(i:Nat):List Int:=(CC p l i).map λc=>iN p l c i
def kC(p:Prog)(l:List cx):Nat->List Bool
 |0=>List.replicate l.length false
 |j+1=>if(kC p l j).getD (l.length-1-j) false=true\/l2 p l (l.length-1-j)=true then kf ((kC p l j).set (l.length-1-j) true) (hL p l (l.length-1-j)) else kC p l j
theorem sF(p:Prog)(l:List cx): ∀j,(kC p l j).length=l.length
 |0=>by simp[kC]
 |j+1=>by
  unfold kC;split
  ·rw[zN,eS,sF p l j]
  exact sF p l j
abbrev j6(p:Prog)(l:List cx):List Bool:=kC p l l.length
def tN(a b:ay):Bool:=decide (a.aT=b.aT)&&decide (a.const=b.const)
def pN:List ay->List ay->Bool
 | [],[]=>true
 |a::as,b::c=>tN a b&&pN as c
 |_,_=>false
theorem Oa: ∀d∈fW p l l.length,0<=d.1/\d.1<d.2/\d.2<(l.length:Int):=by intro d a;obtain⟨i,k,c,e,h,rfl⟩:=MK.1 a;exact⟨by show(0:Int)<=(i:Int);omega,by show(i:Int)<(k:Int);omega,by show(k:Int)<_;omega⟩
theorem DM{l:List Int}(p:l.length<n)(q:l.length<=1000)(v:Int):uF n l v=some (decide (v∈l)):=by
 refine ab.eq ?_;unfold uF;refine cc (P:=λi=>decide ((0:Int)<=i)=decide (v∈l)) ?_ λx d=>ab.some d;unfold DY;refine ab.loop (λz:Int=> ∃i:Nat,z=i/\i<=l.length/\v∉l.take i) (λz=>l.length-z.toNat) ?_ n 0 ⟨0,rfl,O,aX⟩ O;rintro c z ⟨i,rfl,r,a⟩ k;refine aQ (λm=>?_) λo=>ab.some ?_
 ·have bO:=bs (O:i<l.length);refine ag (bk bO) (aQ (λe=>ab.some ?_) λe=>?_)
  ·rw[bz O,bz];rw[e];exact bF bO
  rw[be O];refine k _ ⟨i+1,O,O,?_⟩ O;rw[gd bO,dZ,mI];rintro(h|h)
  ·exact a h
  exact e h
 have e:i=l.length:=O
 rw[e,c4] at a;rw[bx O,bx a]
theorem Fa{l:List Int}(o:l.length<n)(p:l.length<=1000)(v:Int):tk n l v=some (decide (v∈l)):=by
 refine ab.eq ?_;unfold tk;refine ab.loop (λz:Int=> ∃i:Nat,z=i/\i<=l.length/\v∉l.take i) (λz=>l.length-z.toNat) ?_ n 0 ⟨0,rfl,O,aX⟩ O;rintro c z ⟨i,rfl,q,a⟩ d;refine aQ (λk=>?_) λm=>ab.some ?_
 ·have bO:=bs (O:i<l.length);refine ag (bk bO) (aQ (λe=>ab.some ?_) λe=>?_)
  ·rw[bz];rw[<-e];exact bF bO
  rw[be O];refine d _ ⟨i+1,O,O,?_⟩ O;rw[gd bO,dZ,mI];rintro(h|h)
  ·exact a h
  exact e h.symm
 have e:i=l.length:=O
 rw[e,c4] at a;rw[bx a]
def fX(p:Prog):nO:=⟨p,bB p.parts,(bB p.parts).map (rc p),(bB p.parts).map λx=>(dc p x:Int)⟩
theorem kZ{l:List k}{x:k}(h:l[i]? =some x):(l.map f)[i]? =some (f x):=by rw[et,h];rfl
theorem zO{l:List k}{x:k}(h:l[i]? =some x):(l.take (i+1)).map f=(l.take i).map f++[f x]:=by rw[gd h,fQ];rfl
theorem yp(A:7100<=n)(m:ln p):pk n p=some (if b2 p=true then(some (fX p),true) else(none,false)):=by
 obtain⟨L,o,q⟩:=TP (n:=n) O m;refine ab.eq ?_;unfold pk;refine ag o ?_;dsimp only;cases h:b2 p with
 |false=>exact ab.some rfl
 |true=>
  rw[q h];have r:=(ey h).2.2.2.2;refine b3 (ab.loop (λz:List (List Int)×List Int×Int=> ∃i:Nat,z.2.2=i/\i<=(bB p.parts).length/\z.1=((bB p.parts).take i).map (rc p)/\z.2.1=((bB p.parts).take i).map λx=>(dc p x:Int)) (λz=>(bB p.parts).length-z.2.2.toNat) ?_ n _ ⟨0,rfl,O,rfl,rfl⟩ (by first|omega|(dsimp only;omega)));rintro k ⟨a,b,z⟩ ⟨i,l,B,c,d⟩ s;dsimp only at l c d⊢;subst l;refine aQ (λw=>?_) λy=>ab.some ?_
  ·have bO:=bs (O:i<(bB p.parts).length);refine ag (bk bO) (ag (T1 O h (iE (bF bO))) (ag (cX (by rw[c,c6,cJ,mG];omega)) (ag (cX (by rw[d,c6,cJ,mG];omega)) ?_)));rw[be O];exact s _ ⟨i+1,Z,O,by dsimp only;rw[zO bO,c],by dsimp only;rw[zO bO,d]⟩ Z
  have e:i=(bB p.parts).length:=O
  rw[c,d,e,c4];rfl
def lW(p:Prog):List kJ:=(bB p.parts).map λx=>(⟨rc p x,(dc p x:Int)⟩:kJ)
theorem E4(l:7100<=n)(d:b2 p=true):vD n p=some (lW p):=by
 have m:=(ey d).2.2.2.2;refine ab.eq ?_;unfold vD lW;refine ag (uE O d) (ab.loop (λz:List kJ×Int=> ∃i:Nat,z.2=i/\i<=(bB p.parts).length/\z.1=((bB p.parts).take i).map λx=>(⟨rc p x,(dc p x:Int)⟩:kJ)) (λz=>(bB p.parts).length-z.2.toNat) ?_ n _ ⟨0,rfl,O,rfl⟩ Z);rintro h ⟨a,z⟩ ⟨i,k,B,c⟩ o;dsimp only at k c⊢;subst k;refine aQ (λq=>?_) λr=>ab.some ?_
 ·have bO:=bs (O:i<(bB p.parts).length);obtain⟨P,s,w,y,A⟩:=W7 l d (iE (bF bO));refine ag (bk bO) (ag w (ag y (ag A (ag (cX (by rw[c,c6,cJ,mG];omega)) ?_))));rw[be O];exact o _ ⟨i+1,Z,O,by dsimp only;rw[zO bO,c]⟩ Z
 have e:i=(bB p.parts).length:=O
 rw[c,e,c4]
theorem rp(c:b2 p=true)(d: ∀x∈l,gk p x)(h:l[i]? =some a):(rc p a).length<=12:=(qw c (d _ (bF h))).2.2.1
theorem NH{Q:R->Prop}{A B:Option Bool}(o:A=some (decide ((dc p a:Int)∈rc p b)))(q:B=some (decide ((dc p b:Int)∈rc p a))){D:Int->Option R}(h:ab (D (nK p a b)) Q):
  ab (aA (fun(l:Int)=>aA (fun(d:Int)=>aA D λi=>bif decide ((dc p a:Int)=(dc p b:Int)) then(i (wr (d+4))) else(i d))
   λm=>Option.bind B λr=>bif r then(m (wr (l+2))) else(m l))
   λn=>Option.bind A λs=>bif s then(n (wr (0+1))) else(n 0)) Q:=by
 refine ab.aA (λz=>z=if(dc p a:Int)∈rc p b then 1 else 0) (λj c=>ag o (aQ (λe=>c _ (by rw[a1 e];rfl)) λe=>c _ (by rw[a6 e]))) λz k=>?_;subst k;refine ab.aA (λz=>z=(if(dc p a:Int)∈rc p b then 1 else 0)+if(dc p b:Int)∈rc p a then 2 else 0) (λj c=>ag q (aQ (λe=>c _ ?_) λe=>c _ ?_)) λz k=>?_
 ·rw[a1 e];split<;>rfl
 ·rw[a6 e,Int.add_zero]
 subst k;refine ab.aA (λz=>z=nK p a b) (λj c=>aQ (λe=>c _ ?_) λe=>c _ ?_) λz k=>by subst k;exact h
 ·unfold nK;rw[a1 (O:dc p a=dc p b)];split<;>split<;>rfl
 unfold nK;rw[a6 (show¬dc p a=dc p b by omega),Int.add_zero]
theorem TQ(r:7100<=n)(h:b2 p=true){k:Nat}(c:(bB p.parts)[i]? =some a)(d:(bB p.parts)[k]? =some b):B9 n (fX p) (i:Int) (k:Int)=some (mn p (bB p.parts) i k):=by rw[F2 c d];have s:=rp h (λx e=>iE e) c;have w:=rp h (λx e=>iE e) d;have l:au (fX p).reads (i:Int)=some (rc p a):=bk (kZ c);have m:au (fX p).reads (k:Int)=some (rc p b):=bk (kZ d);have o:au (fX p).dv (i:Int)=some (dc p a:Int):=bk (kZ c);have q:au (fX p).dv (k:Int)=some (dc p b:Int):=bk (kZ d);refine ab.eq ?_;unfold B9;rw[l,m,o,q];exact NH (DM O O _) (DM O O _) (ab.some rfl)
theorem VG(c:7100<=n)(d:(rc p a).length<=12)(e:(rc p b).length<=12):za n ⟨rc p a,(dc p a:Int)⟩ ⟨rc p b,(dc p b:Int)⟩=some (nK p a b):=by refine ab.eq ?_;unfold za;exact NH (Fa O O _) (Fa O O _) (ab.some rfl)
theorem EX(I:7100<=n)(D:b2 p=true):uM n (fX p)=some (fW p (bB p.parts) (bB p.parts).length):=by
 have s:=(ey D).2.2.2.2;refine ab.eq ?_;unfold uM;rw[show(fX p).list=bB p.parts from rfl];generalize o:bB p.parts=l at*;have K: ∀x∈l,gk p x:=λx L=>iE (by rw[o];exact L);refine ab.loop (λz:List fH×Int=> ∃i:Nat,z.2=i/\i<=l.length/\z.1=fW p l i) (λz=>l.length-z.2.toNat) ?_ n _ ⟨0,rfl,O,rfl⟩ Z;rintro w ⟨a,z⟩ ⟨i,q,X,A⟩ Q;dsimp only at q A⊢;subst q;refine aQ (λR=>?_) λU=>ab.some ?_
 ·have bO:=bs (O:i<l.length);rw[be O];refine ab.loop (λz:List fH×Int=> ∃j:Nat,z.2=j/\i<j/\j<=l.length/\z.1=fW p l i++k6 p l i j) (λz=>l.length-z.2.toNat) ?_ n _ ⟨i+1,Z,O,O,by dsimp only;rw[A,Ep p l i _ (cN _),kG]⟩ Z;rintro r ⟨b,y⟩ ⟨j,F,c,Y,d⟩ B;dsimp only at F d⊢;subst F;refine aQ (λG=>?_) λH=>?_
  ·have C:=bs (O:j<l.length);have h:=TQ I D (i:=i) (k:=j) (by rw[o];exact bO) (by rw[o];exact C);rw[o] at h;have W:=(abI p l i j).1;refine ab.aA (λz=>z=fW p l i++k6 p l i (j+1)) (λf m=>ag h (aQ (λe=>ag (cX ?_) (m _ ?_)) λe=>m _ ?_)) λz q=>?_
   ·have g:=yS p l i;have t:=Er p l i j;have u:i*l.length<=120*120:=nz O s;rw[d,dB,mG];omega
   ·rw[d,Ds p l c,a6 O,ie]
   ·rw[d,Ds p l c,a1 O,kG]
   subst q;rw[be O];exact B _ ⟨j+1,Z,O,O,rfl⟩ Z
  have e:j=l.length:=O
  try rw[be O]
  exact Q _ ⟨i+1,Z,O,by dsimp only;rw[d,e,Eo]⟩ Z
 have e:i=l.length:=O
 rw[A,e]
theorem EL(G:7100<=n)(r:b2 p=true):vE n p=some (fW p (bB p.parts) (bB p.parts).length):=by
 have A:=(ey r).2.2.2.2;refine ab.eq ?_;unfold vE;refine ag (E4 G r) ?_;have B:(lW p).length=(bB p.parts).length:=by unfold lW;rw[c6]
 have d: ∀(i:Nat) x,(bB p.parts)[i]? =some x->au (lW p) (i:Int)=some ⟨rc p x,(dc p x:Int)⟩:=λi x h=>bk (kZ h);rw[B];generalize lW p=u at*;generalize L:bB p.parts=l at*;have k: ∀x∈l,gk p x:=λx Q=>iE (by rw[L];exact Q);refine ab.loop (λz:List fH×Int=> ∃i:Nat,z.2=i/\i<=l.length/\z.1=fW p l i) (λz=>l.length-z.2.toNat) ?_ n _ ⟨0,rfl,O,rfl⟩ Z;rintro C ⟨a,z⟩ ⟨i,s,Y,D⟩ R;dsimp only at s D⊢;subst s;refine aQ (λU=>?_) λW=>ab.some ?_
 ·have bO:=bs (O:i<l.length);rw[be O];refine ab.loop (λz:List fH×Int=> ∃j:Nat,z.2=j/\i<j/\j<=l.length/\z.1=fW p l i++k6 p l i j) (λz=>l.length-z.2.toNat) ?_ n _ ⟨i+1,Z,O,O,by dsimp only;rw[D,Ep p l i _ (cN _),kG]⟩ Z;rintro w ⟨b,y⟩ ⟨j,H,m,f,o⟩ F;dsimp only at H o⊢;subst H;refine aQ (λI=>?_) λK=>?_
  ·have c:=bs (O:j<l.length);have X:=VG G (rp r k bO) (rp r k c);refine ab.aA (λz=>z=fW p l i++k6 p l i (j+1)) (λg q=>ag (d _ _ bO) (ag (d _ _ c) (ag X (eP (λe=>ag (cX ?_) (q _ ?_)) λe=>q _ ?_)))) λz s=>?_
   ·have t:=yS p l i;have v:=Er p l i j;have E:i*l.length<=120*120:=nz O A;rw[o,dB,mG];omega
   ·rw[o,Ds p l m,F2 bO c,a6 e,ie]
   ·rw[o,Ds p l m,F2 bO c,a1 e,kG]
   subst s;rw[be O];exact F _ ⟨j+1,Z,O,O,rfl⟩ Z
  have e:j=l.length:=O
  try rw[be O]
  exact R _ ⟨i+1,Z,O,by dsimp only;rw[o,e,Eo]⟩ Z
 have e:i=l.length:=O
 rw[D,e]
theorem y9(p:Prog)(l:List cx)(c:Int)(i:Nat):iN p l c (i+1)=if oG p l i=c then(i:Int) else iN p l c i:=rfl
theorem TN(t:7100<=n)(I:b2 p=true)(L:i<(bB p.parts).length):B8 n (fX p) (i:Int)=some (hL p (bB p.parts) i):=by
 have Q:=(ey I).2.2.2.2;have w: ∀x∈bB p.parts,gk p x:=λx R=>iE R;have A:=bs L;have u:=rp I w A;have U:au (fX p).reads (i:Int)=some (rc p (bB p.parts)[i]):=bk (kZ A);refine ab.eq ?_;unfold B8 hL;rw[Al A,U];generalize rc p (bB p.parts)[i]=d at*;have B:wr ((i:Int)-1)=(i:Int)-1:=be O;rw[B];refine ag rfl (ab.loop (λz:List Int×Int=> ∃k:Nat,z.2=k/\k<=d.length/\z.1=(d.take k).map λc=>iN p (bB p.parts) c i) (λz=>d.length-z.2.toNat) ?_ n _ ⟨0,rfl,O,rfl⟩ Z);rintro h ⟨a,z⟩ ⟨k,m,v,o⟩ W;dsimp only at m o⊢;subst m;refine aQ (λX=>?_) λY=>ab.some ?_
 ·have bO:=bs (O:k<d.length);refine ag (bk bO) ?_;have C: ∀y:Int,y=iN p (bB p.parts) d[k] i->ab (Option.bind (app a [y]) λD=>h (D,wr ((k:Int)+1))) (λx=>x=d.map λc=>iN p (bB p.parts) c i):=by
   intro y b;refine ag (cX (by rw[o,c6,cJ,mG];omega)) ?_;rw[be O];exact W _ ⟨k+1,Z,O,by dsimp only;rw[zO bO,o,b]⟩ Z
  refine ab.loop (λz:Int=> ∃s:Nat,z=(s:Int)-1/\s<=i/\iN p (bB p.parts) d[k] i=iN p (bB p.parts) d[k] s) (λz=>(z+1).toNat) ?_ n _ ⟨i,rfl,cN _,rfl⟩ O;rintro r z ⟨s,rfl,E,l⟩ F;refine ab.aA (λz=>z=true/\(∃q,s=q+1/\oG p (bB p.parts) q≠d[k])\/z=false/\(s:Int)-1=iN p (bB p.parts) d[k] i) (λj G=>aQ (λf=>?_) λf=>G _ (.inr ⟨rfl,?_⟩)) λz m=>?_
  ·obtain⟨q,rfl⟩: ∃q,s=q+1:=⟨s-1,O⟩
   have K:=bs (O:q<(bB p.parts).length);have g:au (fX p).dv (((q+1:Nat):Int)-1)=some (oG p (bB p.parts) q):=by
    rw[show((q+1:Nat):Int)-1=(q:Int) by omega,vQ K];exact bk (kZ K)
   refine ag g ?_;by_cases e:oG p (bB p.parts) q=d[k]
   ·rw[bz e];refine G _ (.inr ⟨rfl,?_⟩);rw[l,y9,a1 e];omega
   rw[bx e];exact G _ (.inl ⟨rfl,q,rfl,e⟩)
  ·have:s=0:=O
   subst this;rw[l];rfl
  rcases m with ⟨rfl,q,rfl,H⟩|⟨rfl,m⟩
  ·refine bS ?_;rw[be O];exact F _ ⟨q,O,O,by rw[l,y9,a6 H]⟩ O
  exact b3 (C _ m)
 have e:k=d.length:=O
 rw[o,e,c4]
theorem Uc(B:7100<=n)(o:b2 p=true)(C:i<=(bB p.parts).length)(c:Int):Dz n (lW p) (i:Int) c=some (iN p (bB p.parts) c i):=by
 have r:=(ey o).2.2.2.2;have k: ∀(i:Nat) x,(bB p.parts)[i]? =some x->au (lW p) (i:Int)=some ⟨rc p x,(dc p x:Int)⟩:=λi x h=>bk (kZ h);refine ab.eq ?_;unfold Dz;rw[be O];refine ab.loop (λz:Int=> ∃s:Nat,z=(s:Int)-1/\s<=i/\iN p (bB p.parts) c i=iN p (bB p.parts) c s) (λz=>(z+1).toNat) ?_ n _ ⟨i,rfl,cN _,rfl⟩ O;rintro d z ⟨s,rfl,D,a⟩ l;refine aQ (λw=>?_) λw=>ab.some ?_
 ·obtain⟨q,rfl⟩: ∃q,s=q+1:=⟨s-1,O⟩
  have m:=bs (O:q<(bB p.parts).length);have y:=k _ _ m;have A:((q+1:Nat):Int)-1=(q:Int):=O
  rw[A];refine ag y (aQ (λe=>ab.some ?_) λe=>?_)
  ·dsimp only at e;rw[a,y9,vQ m,a1 e]
  dsimp only at e;rw[be O];exact l _ ⟨q,O,O,by rw[a,y9,vQ m,a6 e]⟩ O
 have:s=0:=O
 subst this;rw[a];rfl
theorem aak{f:cx->Int}{w:Int}:decide (w∈l.map f)=l.any (λx=>decide (f x=w)):=by
 rw[e5,decide_eq_true_eq,eK,ig];constructor
 ·rintro⟨x,a,c⟩;exact⟨x,a,bz c⟩
 rintro⟨x,a,c⟩;exact⟨x,a,e4 c⟩
theorem KC(p:Prog)(l:List cx)(j q:Nat)(h:l.length-1-j=q):kC p l (j+1)=if(kC p l j).getD q false=true\/l2 p l q=true then kf ((kC p l j).set q true) (hL p l q) else kC p l j:=by subst h;rfl
theorem Mm{k:Nat}{y:Int}(h:(hL p l q)[k]? =some y): -1<=y/\y<(q:Int):=by
 unfold hL at h;rw[et] at h;cases a:(CC p l q)[k]? with
 |none=>rw[a] at h;cases h
 |some c=>rw[a] at h;cases h;exact NV p l c q
theorem Xo(Y:7100<=n)(H:b2 p=true):Cx n (fX p)=some (j6 p (bB p.parts)):=by
 have b:=(ey H).2.2.2.2;have I: ∀x∈bB p.parts,gk p x:=λx t=>iE t;have K:=fun(i:Nat) h=>TN Y H (i:=i) h;have a:(fX p).dv.length=(bB p.parts).length:=by unfold fX;dsimp only;rw[c6]
 have w:(fX p).dv=(bB p.parts).map (λx=>(dc p x:Int)):=rfl;refine ab.eq ?_;unfold Cx;refine ag (OG (n:=((fX p).list.length:Int)) (x:=false) (by show _/\((bB p.parts).length:Int)<=_;omega)) ?_;rw[show((fX p).list.length:Int)=((bB p.parts).length:Int) from rfl,cY,a,be O];generalize V:bB p.parts=l at*;refine ab.loop (λz:List Bool×Int=> ∃j:Nat,z.2=(l.length:Int)-1-j/\j<=l.length/\z.1=kC p l j) (λz=>(z.2+1).toNat) ?_ n _ ⟨0,Z,O,rfl⟩ Z;rintro L ⟨f,z⟩ ⟨j,o,hj,D⟩ u;dsimp only at o D⊢;refine aQ (λv=>?_) λv=>ab.some ?_
 ·obtain⟨q,E⟩: ∃q,l.length-1-j=q:=⟨_,rfl⟩
  have Q:z=(q:Int):=O
  subst Q;have A:q<l.length:=O
  have R:f.length=l.length:=by rw[D,sF]
  have bO:=bs A;have s:=bs (O:q<f.length);have U:f.getD q false=f[q]:=by rw[eu,s];rfl
  have c:=KC p l j q E;rw[<-D] at c;refine ab.aA (λz=>z=kC p l (j+1)) (λxH B=>?_) λz o=>?_
  ·refine ab.aA (λz=>z= !decide (f.getD q false=true\/l2 p l q=true)) (λP3 d=>ag (bk s) ?_) λz o=>?_
   ·rw[U] at d;cases a8:f[q] with
    |true=>rw[a8] at d;exact b3 (d _ aX)
    |false=>
     rw[a8] at d;have W:au (fX p).dv (q:Int)=some (dc p l[q]:Int):=by rw[w];exact bk (kZ bO)
     rw[be O];refine bS (ag (gN O O (by rw[a];omega)) (ag W (ag (DM ?_ ?_ _) (d _ ?_))))
     ·rw[e6,cJ,a];omega
     ·rw[e6,cJ,a];omega
     rw[show(((l.length:Nat):Int)).toNat=l.length by omega,<-a,c4,show(((q:Int)+1)).toNat=q+1 by omega,w,<-List.map_drop,aak];unfold l2;rw[vQ bO];cases (List.drop (q+1) l).any (λx=>decide ((dc p x:Int)=(dc p l[q]:Int)))<;>simp
   subst o;by_cases F:f.getD q false=true\/l2 p l q=true
   ·rw[bz F];rw[a1 F] at c;refine b3 (ag (bk s) (ag (dH ⟨O,O⟩ true) (ag (K q A) ?_)));rw[cY];have M:(hL p l q).length<=12:=by unfold hL;rw[c6,Al bO];exact rp H I bO
    refine ab.loop (λz:List Bool×Int=> ∃k:Nat,z.2=k/\k<=(hL p l q).length/\z.1=kf (f.set q true) ((hL p l q).take k)) (λz=>(hL p l q).length-z.2.toNat) ?_ n _ ⟨0,rfl,O,rfl⟩ Z;rintro G ⟨g,z⟩ ⟨k,o,hk,m⟩ X;dsimp only at o m⊢;subst o;refine aQ (λN=>?_) λP=>B _ ?_
    ·have r:=bs (O:k<(hL p l q).length);have a8:=Mm r;have S:g.length=l.length:=by rw[m,zN,eS,R]
     refine ab.aA (λz=>z=kf (f.set q true) ((hL p l q).take (k+1))) (λagV C=>ag (bk r) (aQ (λe=>?_) λe=>C _ ?_)) λz o=>?_
     ·obtain⟨y,T,_⟩:=gm (l:=g) e O;refine ag T (ag (dH ⟨e,O⟩ true) (C _ ?_));rw[gd r,zp,a1 e,m]
     ·rw[gd r,zp,a6 e,m]
     subst o;rw[be O];exact X _ ⟨k+1,Z,O,rfl⟩ Z
    have e:k=(hL p l q).length:=O
    rw[m,e,c4,c]
   rw[bx F];rw[a6 F] at c;exact bS (B _ c.symm)
  subst o;rw[be O];exact u _ ⟨j+1,Z,O,rfl⟩ Z
 have e:j=l.length:=O
 rw[D,e]
def ru(p:Prog)(l:List cx)(q k:Nat):Bool:= !((l.take k).drop (q+1)).any λx=>decide ((dc p x:Int)=oG p l q)
theorem UK{k:Nat}(h:q<k)(a:l[k]? =some b):ru p l q (k+1)=(ru p l q k&& !decide ((dc p b:Int)=oG p l q)):=by have c:=(bR.1 a).1;unfold ru;rw[gd a,C2 (by rw[cJ];omega),sZ];simp
theorem Rp(cG:7100<=n)(hp:ln p):Cd n p=some (if b2 p=true then px (j6 p (bB p.parts)) else []):=by
 refine ab.eq ?_;unfold Cd;refine ag (jP O hp) ?_;cases v:b2 p with
 |false=>exact ab.some rfl
 |true=>
  have BH:=(ey v).2.2.2.2;have N: ∀x∈bB p.parts,gk p x:=λx hx=>iE hx;have P:(lW p).length=(bB p.parts).length:=by unfold lW;rw[c6]
  have r: ∀(i:Nat) x,(bB p.parts)[i]? =some x->au (lW p) (i:Int)=some ⟨rc p x,(dc p x:Int)⟩:=λi x h=>bk (kZ h);have S:=fun(i:Nat) h=>Uc cG v (i:=i) h;refine b3 (ag (E4 cG v) ?_);rw[P,a1 rfl];generalize lW p=u at*;generalize r9:bB p.parts=l at*;refine ag (OG (n:=(l.length:Int)) (x:=false) O) ?_;rw[cY,be O];refine ab.loop (λz:List Bool×Int=> ∃j:Nat,z.2=(l.length:Int)-1-j/\j<=l.length/\z.1=kC p l j) (λz=>(z.2+1).toNat) ?_ n _ ⟨0,Z,O,rfl⟩ Z;rintro C ⟨f,z⟩ ⟨j,a,hj,E⟩ b7;dsimp only at a E⊢;refine aQ (λh0=>?_) λh0=>?_
  ·obtain⟨q,df⟩: ∃q,l.length-1-j=q:=⟨_,rfl⟩
   have T:z=(q:Int):=O
   subst T;have V:q<l.length:=O
   have acP:f.length=l.length:=by rw[E,sF]
   have bO:=bs V;have D:=bs (O:q<f.length);have H:f.getD q false=f[q]:=by rw[eu,D];rfl
   have s:=KC p l j q df;rw[<-E] at s;have I: ∀y:Int,y=(q:Int)-1->ab (C (kC p l (j+1),y)) _:=λy hy=>b7 _ ⟨j+1,Z,O,rfl⟩ Z;have gv:wr ((q:Int)+1)=((q+1:Nat):Int):=by rw[be O];omega
   have ahd:wr ((q:Int)-1)=(q:Int)-1:=be O;rw[gv,ahd];refine ab.loop (λz:Bool×Int=> ∃k:Nat,z.2=k/\q<k/\k<=l.length/\z.1=ru p l q k) (λz=>l.length-z.2.toNat) ?_ n _ ⟨q+1,rfl,O,O,?_⟩ Z
   ·rintro M ⟨b,z⟩ ⟨k,a,adv,hk,a8⟩ BM;dsimp only at a a8⊢;subst a;refine aQ (λhlt=>?_) λiC=>?_
    ·have m:=bs (O:k<l.length);have K:=UK (p:=p) adv m;refine ab.aA (λz=>z=ru p l q (k+1)) (λP1 A=>?_) λz a=>?_
     ·cases L:b with
      |false=>exact b3 (A _ (by rw[K,<-a8,L];rfl))
      |true=>
       refine bS (ag (r _ _ m) (ag (r _ _ bO) (A _ ?_)));rw[K,<-a8,L,vQ bO];rfl
     subst a;rw[be O];exact BM _ ⟨k+1,Z,O,O,rfl⟩ Z
    have e:k=l.length:=O
    have Hn:b=l2 p l q:=by rw[a8,e];unfold ru l2;rw[c4]
    refine ab.aA (λz=>z=f.set q (f.getD q false||l2 p l q)) (λH9 c=>ag (bk D) ?_) λz a=>?_
    ·rw[H] at c;cases Q:f[q] with
     |true=>
      rw[Q] at c;refine bS (ag (dH ⟨O,O⟩ true) (c _ ?_));rw[cY];rfl
     |false=>
      rw[Q] at c;refine b3 (ag (dH ⟨O,O⟩ b) (c _ ?_));rw[cY,Hn];rfl
    subst a;have hrl:=rp v N bO;by_cases G:f.getD q false=true\/l2 p l q=true
    ·rw[a1 G] at s;have F:(f.getD q false||l2 p l q)=true:=by rcases G with h|h<;>rw[h]<;>simp
     rw[F];have adF:(hL p l q).length=(rc p l[q]).length:=by unfold hL;rw[c6,Al bO]
     refine ab.loop (λz:List Bool×Int=> ∃k:Nat,z.2=k/\k<=(rc p l[q]).length/\z.1=kf (f.set q true) ((hL p l q).take k)) (λz=>(rc p l[q]).length-z.2.toNat) ?_ n _ ⟨0,rfl,O,rfl⟩ Z;rintro w ⟨g,z⟩ ⟨k,a,hk,o⟩ R;dsimp only at a o⊢;subst a;have agc:g.length=l.length:=by rw[o,zN,eS,acP]
     have U:=bs (O:q<g.length);have hgt:g[q]=true:=by
      have W:g.getD q false=true:=by
       rw[o,ML (by rw[eS];omega),Ft,a1 ⟨rfl,O⟩];exact .inl rfl
      rwa [eu,U] at W
     refine ab.aA (λz=>z=decide (k<(rc p l[q]).length)) (λH' d=>ag (r _ _ bO) (aQ (λe=>ag (bk U) (d _ ?_)) λe=>d _ ?_)) λz a=>?_
     ·dsimp only at e;rw[hgt,bz O]
     ·dsimp only at e;rw[bx O]
     subst a;refine aQ (λe=>?_) λe=>?_
     ·have X:=bs e;have m:(hL p l q)[k]? =some (iN p l (rc p l[q])[k] q):=by unfold hL;rw[Al bO];exact kZ X
      have a8:=Mm m;refine ab.aA (λz=>z=kf (f.set q true) ((hL p l q).take (k+1))) (λagV Y=>ag (r _ _ bO) (ag (bk X) (ag (S q O _) (aQ (λe=>?_) λe=>Y _ ?_)))) λz a=>?_
      ·obtain⟨y,hy,_⟩:=gm (l:=g) e O;refine ag hy (ag (dH ⟨e,O⟩ true) (Y _ ?_));rw[gd m,zp,a1 e,o]
      ·rw[gd m,zp,a6 e,o]
      subst a;rw[be O];exact R _ ⟨k+1,Z,O,rfl⟩ Z
     have e2:k=(hL p l q).length:=O
     rw[o,e2,c4,<-s];exact I _ rfl
    rw[a6 G] at s;have F:(f.getD q false||l2 p l q)=false:=by
     cases W:f.getD q false with
     |true=>exact bA (.inl W) G
     |false=>
      cases h2:l2 p l q with
      |true=>exact bA (.inr h2) G
      |false=>rfl
    have B:f[q]=false:=by
     rw[<-H];cases W:f.getD q false with
     |true=>exact bA (.inl W) G
     |false=>rfl
    have t:f.set q false=f:=by
     have h:=List.set_getElem_self (as:=f) (i:=q) O
     rwa [B] at h
    rw[F,t];refine ab.loop (λz:List Bool×Int=>z=(f,0)) (λ_=>0) ?_ n _ rfl O;rintro w z rfl R;dsimp only;refine ab.aA (λz=>z=false) (λH' d=>ag (r _ _ bO) (ab.cond (λ_=>ag (bk D) (d _ B)) λ_=>d _ rfl)) λz a=>?_;subst a;refine b3 ?_;rw[<-s];exact I _ rfl
   dsimp only;unfold ru;rw[List.drop_of_length_le (by rw[cJ];omega)];rfl
  have e:j=l.length:=O
  rw[E,e];exact ag (J2 (by rw[sF];omega) (by rw[sF];omega)) (ab.some rfl)
theorem FC(a:l.length<=120):(fW p l l.length).length<=15000:=by have c:=yS p l l.length;have d:l.length*l.length<=120*120:=nz a a;omega
def kB{k:Type}(p:k->k->Bool):List k->List k->Bool
 | [],[]=>true
 |a::as,b::c=>p a b&&kB p as c
 |_,_=>false
theorem E3{k:Type}{p:k->k->Bool}: ∀{a b:List k},kB p a b=true->a.length=b.length
 | [],[],_=>rfl
 |a::as,b::c,h=>by
  simp only[kB,Bool.and_eq_true] at h;simp[E3 h.2]
 | [],b::c,h=>by cases h
 |a::as,[],h=>by cases h
theorem Fg{f:k->k->Option Bool}{p:k->k->Bool}{a b:List k}(s: ∀x∈a,∀y∈b,f x y=some (p x y))(H:a.length<n)(I:a.length<=1000000):
  (bif !decide ((a.length:Int)=(b.length:Int)) then(some false) else(bo (λd (e:Int)=>bif decide (e<(a.length:Int)) then(Option.bind (au a e) λw=>Option.bind (au b e) λz=>Option.bind (f w z) λA=>bif !A then(some false) else(d (wr (e+1)))) else(some true)) n 0))=some (kB p a b):=by
 refine ab.eq (eP (λh=>ab.some ?_) λh=>?_)
 ·cases c:kB p a b with
  |false=>rfl
  |true=>exact bA (by rw[E3 c]) h
 refine ab.loop (λx:Int=> ∃i:Nat,x=i/\i<=a.length/\kB p (a.drop i) (b.drop i)=kB p a b) (λx=>a.length-x.toNat) ?_ n 0 ⟨0,rfl,O,rfl⟩ O;rintro l x ⟨i,rfl,K,c⟩ B;refine aQ (λC=>?_) λD=>ab.some ?_
 ·have m:i<a.length:=O
  have o:i<b.length:=O
  have q:=bs m;have a8:=bs o;refine ag (bk q) (ag (bk a8) (ag (s _ (bF q) _ (bF a8)) ?_));rw[k9 m,k9 o] at c;simp only[kB] at c;cases r:p a[i] b[i] with
  |false=>rw[r] at c;exact bS (ab.some c)
  |true=>
   rw[r,fb] at c;refine b3 ?_;rw[be O];exact B _ ⟨i+1,O,O,c⟩ O
 have F:a.drop i=[]:=kF O;have G:b.drop i=[]:=kF O;rw[F,G] at c;exact c
theorem Ll{a b:List Int}(D:a.length<n)(F:a.length<=1000000):
  (bif !decide ((a.length:Int)=(b.length:Int)) then(some false) else(bo (λc (d:Int)=>bif decide (d<(a.length:Int)) then(Option.bind (au a d) λp=>Option.bind (au b d) λq=>bif !decide (p=q) then(some false) else(c (wr (d+1)))) else(some true)) n 0))=some (decide (a=b)):=by
 refine ab.eq (eP (λh=>ab.some ?_) λh=>?_)
 ·exact(bx λe=>h (by rw[e])).symm
 refine ab.loop (λx:Int=> ∃i:Nat,x=i/\i<=a.length/\a.take i=b.take i) (λx=>a.length-x.toNat) ?_ n 0 ⟨0,rfl,O,rfl⟩ O;rintro k x ⟨i,rfl,G,l⟩ r;refine aQ (λs=>?_) λw=>ab.some ?_
 ·have y:i<a.length:=O
  have z:i<b.length:=O
  have o:=bs y;have a8:=bs z;refine ag (bk o) (ag (bk a8) ?_);refine eP (λm=>ab.some ?_) λA=>?_
  ·exact(bx λe=>m (by subst e;rfl)).symm
  rw[be O];exact r _ ⟨i+1,O,O,by rw[gd o,gd a8,l,A]⟩ O
 have B:a.take i=a:=jd O;have C:b.take i=b:=jd O;rw[B,C] at l;exact(bz l).symm
theorem Sp{a b:List Int}(c:a.length<n)(d:a.length<=1000000):su n a b=some (decide (a=b)):=by unfold su;exact Ll c d
theorem Kj{a b:List Int}(c:a.length<n)(d:a.length<=1000000):v' n a b=some (decide (a=b)):=by unfold v';exact Ll c d
theorem R'(k:5000<=n){a b:ay}(d:jk a):jR n a b=some (tN a b):=by unfold jk at d;unfold jR tN;have h:=Sp (n:=n) (a:=a.aT) (b:=b.aT) O O;refine ab.eq (ab.aA (λz=>z=(decide (a.aT=b.aT)&&decide (a.const=b.const))) (λj c=>ag h (ab.cond (λe=>c _ (by rw[e];rfl)) λe=>c _ (by rw[e];rfl))) λz i=>ab.some i)
theorem R7(k:5000<=n){a b:ay}(d:jk a):x3 n a b=some (tN a b):=by unfold jk at d;unfold x3 tN;have h:=Kj (n:=n) (a:=a.aT) (b:=b.aT) O O;refine ab.eq (ab.aA (λz=>z=(decide (a.aT=b.aT)&&decide (a.const=b.const))) (λj c=>ab.cond (λe=>ag h (c _ (by rw[e,Bool.and_true]))) λe=>c _ (by rw[e,jg])) λz i=>ab.some i)
theorem Eb: ∀a b:List ay,kB tN a b=pN a b
 | [],[]=>rfl
 |a::as,b::c=>by simp only[kB,pN,Eb as c]
 | [],b::c=>rfl
 |a::as,[]=>rfl
theorem JA(h:5000<=n){a b:List ay}(c:ki a):p9 n a b (λd e=>jR n d e)=some (pN a b):=by unfold p9;rw[<-Eb];exact Fg (f:=λd e=>jR n d e) (λx i y _=>R' h (c.2 x i)) (by have:=c.1;omega) (by have:=c.1;omega)
theorem Jy(d:5000<=n){a b:List ay}(c:ki a):x2 n a b=some (pN a b):=by unfold x2;rw[<-Eb];exact Fg (f:=λe h=>x3 n e h) (λx i y _=>R7 d (c.2 x i)) (by have:=c.1;omega) (by have:=c.1;omega)
end
def tZ(B:Nat)(l:List ay):Bool:=Nat.ble l.length B&&l.all λa=>Nat.ble a.aT.length B
def GX(B:Nat)(a:List Loop):Bool:=Nat.ble a.length B&&a.all λl=>tZ B l.bf&&tZ B l.aH
def w8(B:Nat):Nat->Expr->Bool
 |0,_=>false
 |L+1,e=>Nat.ble e.bm.length B&&(Nat.ble e.index.aT.length B&&(tZ B e.read.bC&&e.bm.all (w8 B L)))
def OY(B:Nat)(s:Stmt):Bool:=tZ B s.write.bC&&w8 B 5 s.value
def OW(B:Nat)(x:Part):Bool:=GX B x.nest&&(Nat.ble x.body.length B&&x.body.all (OY B))
def OX(B:Nat)(l:List cg):Bool:=Nat.ble l.length B&&l.all λx=>Nat.ble x.bU.length B
def GW(B:Nat)(p:Prog):Bool:=OX B p.aS&&(Nat.ble p.parts.length B&&p.parts.all (OW B))
variable {B:Nat}{l:List (List UInt8)}{s:List UInt8}{k:Int}{r:cA}
theorem A4{l:List ay}(h:tZ B l=true):eM B l:=by simp only[tZ,Bool.and_eq_true,List.all_eq_true] at h;exact⟨ea h.1,λa c=>ea (h.2 a c)⟩
theorem aa4{l:List Loop}(h:GX B l=true):kb B l:=by simp only[GX,Bool.and_eq_true,List.all_eq_true] at h;exact⟨ea h.1,λa c=>⟨A4 (h.2 a c).1,A4 (h.2 a c).2⟩⟩
theorem Ov{B:Nat}: ∀{L:Nat} {e:Expr},w8 B L e=true->hR B L e
 |0,e,h=>by simp[w8] at h
 |L+1,e,h=>by simp only[w8,Bool.and_eq_true,List.all_eq_true] at h;exact⟨ea h.1,ea h.2.1,A4 h.2.2.1,λk a=>Ov (h.2.2.2 k a)⟩
theorem aa5{p:Prog}(h:GW B p=true):c5 B p:=by simp only[GW,OX,OW,OY,Bool.and_eq_true,List.all_eq_true] at h;exact⟨⟨ea h.1.1,λa e=>ea (h.1.2 a e)⟩,ea h.2.1,λx c=>⟨aa4 (h.2.2 x c).1,ea (h.2.2 x c).2.1,λs d=>⟨A4 ((h.2.2 x c).2.2 s d).1,Ov ((h.2.2 x c).2.2 s d).2⟩⟩⟩
def GO(a t:List UInt8):Bool:=match cat a t with
 |some x=>match r1 N x with
  |some (p,_)=>GW 10 p
  |none=>false
 |none=>false
theorem YF{t:List UInt8}(h:l.all (GO s)=true)(d:t∈l): ∃x q,cat s t=some x/\r1 N x=some q/\c5 10 q.1:=by
 have h:=fw.1 h t d;unfold GO at h;cases c:cat s t with
 |none=>rw[c] at h;cases h
 |some x=>
  rw[c] at h;dsimp only at h;cases a:r1 N x with
  |none=>rw[a] at h;cases h
  |some q=>rw[a] at h;exact⟨x,q,rfl,a,aa5 h⟩
theorem Na{R:Type}(e:cM k r)(i:k<=1000000000)(m:l≠[])(h:l.all (GO s)=true){K:List UInt8×cA->List UInt8->Prog×Bool->Option R}{Q:R->Prop}
  (n: ∀a c d,cM (k+1) a.2->c5 10 d.1->ab (K a c d) Q):ab (Option.bind (o' N r l) λa=>Option.bind (cat s a.1) λc=>Option.bind (r1 N c) λd=>K a c d) Q:=by refine cc (Bp N e i m) λa ⟨o,p⟩=>?_;obtain⟨x,q,w,y,z⟩:=YF h o;exact ag w (ag y (n _ _ _ p z))
theorem Xd(e:cM k r)(n:0<=k/\k<=900000):ab (zZ N r) (λx=>c5 10 x.1/\cM (k+210000) x.2):=by
 unfold zZ;refine Na e O aX J λo p q a h=>?_;refine ab.aA (λz=>cM (k+2) ⟨z.1,z.2.1⟩) (λj c=>?_) λz d=>?_
 ·exact ab.cond (λ_=>cc (iZ N a O) λs ⟨_,_,i⟩=>c _ (i.mono O)) λ_=>c _ (a.mono O)
 exact ab.cond (λ_=>ab.some ⟨h,d.mono O⟩) λ_=>cc (Xf d O) λw ⟨l,m⟩=>ab.some ⟨l,m.mono O⟩
theorem VR(e:cM k r)(n:0<=k/\k<=800000):ab (zg N r) (λx=>c5 10 x.1/\cM (k+220000) x.2):=by
 unfold zg;refine Na e O aX J λo p q a h=>?_;refine ab.aA (λz=>cM (k+2) ⟨z.1,z.2.1⟩) (λj c=>?_) λz d=>?_
 ·exact ab.cond (λ_=>cc (iZ N a O) λs ⟨_,_,i⟩=>c _ (i.mono O)) λ_=>c _ (a.mono O)
 exact ab.cond (λ_=>ab.some ⟨h,d.mono O⟩) λ_=>cc (Xd d O) λw ⟨l,m⟩=>ab.some ⟨l,m.mono O⟩
end Go.Lift
