/- Tools. -/
import Derived.Test.YtcihigfifglboabGreatHLawDraw
set_option maxRecDepth 100000
set_option linter.unusedVariables false
namespace Go.Lift
open Go
section
variable {k R:Type}{l:List cx}{i q n:Nat}{x a b:cx}{p:Prog}{f:k->R}
theorem gh{l:List k}{x:k}(h:l[i]? =some x):l.take (i+1)=l.take i++[x]:=by rw[ek,h];rfl
def dd(p:Prog)(x:cx):Nat:=match tF p x with
 |some s=>(eB p.aR s.write x.cK 0).toNat
 |none=>0
def rc(p:Prog)(x:cx):List Int:=match tF p x with
 |some s=>(dX 5 s.value).map (λa=>eB p.aR a x.cK 0)
 |none=>[]
def td(p:Prog)(m:List Int)(x:cx):Int:=match tF p x with
 |some s=>jM 5 p.aR m s.value x.cK
 |none=>0
theorem Ns{list:List cg}(c:kz list){a:bZ}{q:List Int}(h:0<=eB list a q 0):eB list a q 0<fX list:=by rcases Nt c a q 0 (gx 0) with bP|bP<;>omega
theorem qB(e:b2 p=true)(o:gn p x):(dd p x:Int)<fX p.aR/\(∀c∈rc p x,0<=c/\c<fX p.aR)/\(rc p x).length<=12/\ ∀m,iL p m x=m.set (dd p x) (td p m x):=by obtain⟨i,k,P,s,d,D,F,G,H,q,r,I,w⟩:=uJ e o;obtain⟨K,h,L,y,z⟩:=eA e;obtain⟨A,l⟩:=FR w;obtain⟨Q,R,U,B⟩:=kA r;unfold dd rc td iL;rw[q];dsimp only;refine⟨by have:=Ns h A;omega,λc C=>?_,by rw[c5];exact B,λm=>rfl⟩;obtain⟨a,n,rfl⟩:=eM.1 C;exact⟨l a n,Ns h (l a n)⟩
theorem T4(g:7100<=n)(m:b2 p=true)(A:gn p x):B6 n p x=some (rc p x,(dd p x:Int)):=by
 obtain⟨i,k,P,s,d,B,C,D,F,o,G,q,H⟩:=uJ m A;obtain⟨r,w,t,I,K⟩:=eA m;obtain⟨u,v⟩:=FR H;obtain⟨L,Q,U,E⟩:=kA G;obtain⟨n,rfl⟩: ∃j,n=j+1:=⟨n-1,O⟩
 have h:Cs (n+1) p x=some s:=by
  unfold Cs;rw[B,C,bk D];show Option.bind (au P.body (k:Int)) _=_;rw[bk F];rfl
 have W:(dd p x:Int)=eB p.aR s.write x.cK 0:=by unfold dd;rw[o];dsimp only;omega
 have X:rc p x=(dX 5 s.value).map (λa=>eB p.aR a x.cK 0):=by unfold rc;rw[o]
 rw[W,X];refine ab.eq ?_;unfold B6;refine ag h (ag (Eo (d:=d) 5 n s.value O O Q) ?_);generalize M:dX 5 s.value=R at*;refine ab.loop (λz:List Int×Int=> ∃i:Nat,z.2=i/\i<=R.length/\z.1=(R.take i).map λa=>eB p.aR a x.cK 0) (λz=>R.length-z.2.toNat) ?_ (n+1) _ ⟨0,rfl,O,aW⟩ Z;rintro l ⟨out,z⟩ ⟨i,y,N,c⟩ Y;dsimp only at y c⊢;subst y;refine aQ (λb=>?_) λf=>?_
 ·have bN:=bs (O:i<R.length);refine ag (bk bN) (ag (zx O r w (U _ (bE bN)) q) (ag (cY (by rw[c,c5,cL,mI];omega)) ?_));rw[be O];refine Y _ ⟨i+1,Z,O,?_⟩ Z;dsimp only;rw[gh bN,fU,c];rfl
 have e:i=R.length:=O
 refine ag (zx O r w L q) (ab.some ?_);rw[c,e,c6]
theorem WA(G:7100<=n)(c:b2 p=true)(l:gn p x): ∃P s,au p.parts x.part=some P/\au P.body x.stmt=some s/\vj n p.aR s x.cK=some (rc p x,(dd p x:Int),true):=by
 obtain⟨i,k,P,s,d,m,o,q,r,e,w,y,h⟩:=uJ c l;obtain⟨z,A,H,B,C⟩:=eA c;obtain⟨I,K⟩:=FR h;have D:(dd p x:Int)=eB p.aR s.write x.cK 0:=by unfold dd;rw[e];dsimp only;omega
 have F:rc p x=(dX 5 s.value).map (λa=>eB p.aR a x.cK 0):=by unfold rc;rw[e]
 refine⟨P,s,by rw[m];exact bk q,by rw[o];exact bk r,?_⟩;rw[J1 O z A w y,a1 h,D,F]
theorem Lu{r:List cg}{m l:List Int}{q:List Int}{d:Int}: ∀{L:Nat} {e:Expr},dC L e d=true->(∀a∈dX L e,m.getD (eB r a q 0).toNat 0=l.getD (eB r a q 0).toNat 0)->jM L r m e q=jM L r l e q
 |0,e,h,_=>by cases h
 |L+1,e,h,n=>by
  obtain⟨w,x,p⟩:=g' h;simp only[jM];split
  ·rfl
  split
  ·rfl
  split
  ·rename_i eg;exact n _ (by simp[dX,eg])
  have i: ∀c∈e.bm,jM L r m c q=jM L r l c q:=λc o=>
   Lu (p c o) λa s=>n a (by simp only[dX,List.mem_append,List.mem_flatMap];exact .inr ⟨c,o,s⟩)
  split
  ·rename_i a b k;rw[k] at i;rw[i a aW,i b aW]
  rfl
theorem YW(l:b2 p=true)(n:gn p x){m e:List Int}(h: ∀c∈rc p x,m.getD c.toNat 0=e.getD c.toNat 0):td p m x=td p e x:=by obtain⟨i,k,P,s,d,w,y,z,A,o,q,B,C⟩:=uJ l n;unfold td;unfold rc at h;rw[o] at h⊢;exact Lu (kA q).2.1 λa r=>h _ (List.mem_map_of_mem r)
theorem Fs(l:List k)(i j:Nat)(x d:k):(l.set i x).getD j d=if i=j/\i<l.length then x else l.getD j d:=by
 rw[ew,ew,List.getElem?_set];split
 ·rename_i h;subst h;split
  ·rename_i a;rw[a1 ⟨rfl,a⟩];rfl
  rename_i a;rw[a6 O,q8 O]
 rename_i h;rw[a6 λa=>h a.1]
def pr(l:List Bool):List Int:=((List.range l.length).filter λi=>l.getD i false).map (fun(i:Nat)=>(i:Int))
theorem UF{l:List Bool}(s:l.length<n)(m:l.length<=1000):uZ n l=some (pr l):=by
 refine ab.eq ?_;unfold uZ;refine ab.loop (λz:List Int×Int=> ∃i:Nat,z.2=i/\i<=l.length/\z.1.length<=i/\z.1=((List.range i).filter λi=>l.getD i false).map (fun(i:Nat)=>(i:Int))) (λz=>l.length-z.2.toNat) ?_ n _ ⟨0,rfl,O,aW,aW⟩ Z;rintro d ⟨out,z⟩ ⟨i,a,w,o4,c⟩ o;dsimp only at a c o4⊢;subst a;refine aQ (λp=>?_) λq=>ab.some ?_
 ·have bN:=bs (O:i<l.length);have r:l.getD i false=l[i]:=by rw[ew,bN];rfl
  refine ab.aA (λz=>z.length<=i+1/\z=((List.range (i+1)).filter λi=>l.getD i false).map (fun(i:Nat)=>(i:Int))) (λj k=>ag (bk bN) (ab.cond (λh=>ag (cY (by rw[mI];omega)) (k _ ?_)) λh=>k _ ?_)) λz a=>?_
  ·refine⟨by rw[dD,mI];omega,?_⟩;rw[pG,vu,fU,<-c];simp[bN,h]
  ·refine⟨O,?_⟩;rw[pG,vu,fU,<-c];simp[bN,h]
  rw[be O];exact o _ ⟨i+1,Z,O,a.1,a.2⟩ Z
 have e:i=l.length:=O
 rw[c,e];rfl
theorem J4{l:List Bool}(c:l.length<n)(a:l.length<=1000):uZ n l=some (pr l):=UF c a
theorem Ko(l:List Bool):(pr l).length<=l.length:=by unfold pr;rw[c5];exact gw (List.length_filter_le _ _) aW
theorem D5{l:List Bool}{c:Int}:c∈pr l↔0<=c/\l.getD c.toNat false=true:=by
 unfold pr;simp only[List.mem_map,List.mem_filter,List.mem_range];constructor
 ·rintro⟨i,⟨e,a⟩,rfl⟩;exact⟨O,by rw[c3];exact a⟩
 rintro⟨e,a⟩;refine⟨c.toNat,⟨?_,a⟩,O⟩;refine s3 λd=>?_;rw[ew,q8 d] at a;cases a
theorem TT(c:7000<=n)(d:lp p): ∃L,ui n p=some (L,b2 p)/\(b2 p=true->L=bz p.parts):=by
 rw[Js c d];cases a:ka p with
 |false=>
  refine⟨[],?_,λh=>?_⟩
  ·rw[a6 aW,show b2 p=false by unfold b2;rw[a];rfl]
  unfold b2 at h;rw[a] at h;cases h
 |true=>
  refine⟨bz p.parts,?_,λ_=>rfl⟩;rw[a1 rfl,show b2 p=decide ((bz p.parts).length<=120) by
   unfold b2;rw[a,Bool.true_and];exact decide_eq_decide.2 (by have:=BW p.parts;omega)]
abbrev ie(p:Prog):Nat:=(fX p.aR).toNat
theorem OE{n:Int}(h:0<=n/\n<=1000000000)(x:k):mk n x=some (List.replicate n.toNat x):=by unfold mk;rw[a1 h]
def pick(l:List cx)(o:List Int):List cx:=o.filterMap λc=>l[c.toNat]?
def OY(p:Prog)(a b:cx):Prop:=(dd p a:Int)∈rc p b\/(dd p b:Int)∈rc p a\/dd p a=dd p b
def G0(p:Prog)(a b:cx):Prop:= ∀m,rQ p.aR m->iL p (iL p m a) b=iL p (iL p m b) a
theorem N4(a:b2 p=true)(d:gn p b){w:Nat}(h:(w:Int)∉rc p b)(m:List Int)(v:Int):td p (m.set w v) b=td p m b:=by refine YW a d λc i=>?_;have k:=(qB a d).2.1 c i;rw[Fs,a6];rintro⟨e,_⟩;exact h (by rw[e,yE k.1];exact i)
theorem swap(c:b2 p=true)(d:gn p a)(i:gn p b)(h: ¬OY p a b):G0 p a b:=by intro m _;have n:(dd p a:Int)∉rc p b:=λe=>h (.inl e);have o:(dd p b:Int)∉rc p a:=λe=>h (.inr (.inl e));have q:dd p a≠dd p b:=λe=>h (.inr (.inr e));have k:=(qB c d).2.2.2;have l:=(qB c i).2.2.2;rw[k,l,l,k,N4 c i n,N4 c d o,List.set_comm _ _ q]
def nL(p:Prog)(a b:cx):Int:=(if(dd p a:Int)∈rc p b then 1 else 0)+(if(dd p b:Int)∈rc p a then 2 else 0)+(if dd p a=dd p b then 4 else 0)
theorem aaT(p:Prog)(a b:cx):0<=nL p a b/\nL p a b<=7:=by unfold nL;split<;>split<;>split<;>omega
def mq(p:Prog)(l:List cx)(i k:Nat):Int:=match l[i]?,l[k]? with
 |some a,some b=>nL p a b
 |_,_=>0
theorem F2{k:Nat}(c:l[i]? =some a)(d:l[k]? =some b):mq p l i k=nL p a b:=by unfold mq;rw[c,d]
theorem abE(p:Prog)(l:List cx)(i k:Nat):0<=mq p l i k/\mq p l i k<=7:=by
 unfold mq;split
 ·exact aaT _ _ _
 omega
def k9(p:Prog)(l:List cx)(i j:Nat):List fJ:=((List.range j).filter λk=>decide (i<k)&&decide (mq p l i k≠0)).map (fun(k:Nat)=>(⟨(i:Int),(k:Int),mq p l i k⟩:fJ))
def fY(p:Prog)(l:List cx)(n:Nat):List fJ:=(List.range n).flatMap λi=>k9 p l i l.length
theorem C7(p:Prog)(l:List cx){j:Nat}(h:i<j):k9 p l i (j+1)=k9 p l i j++(if mq p l i j=0 then [] else [⟨(i:Int),(j:Int),mq p l i j⟩]):=by
 unfold k9;rw[pG,vu,fU];congr 1;split
 ·rename_i e;simp[e]
 rename_i e;simp[e,h]
theorem Es(p:Prog)(l:List cx)(i:Nat): ∀j,j<=i+1->k9 p l i j=[]
 |0,_=>rfl
 |j+1,h=>by have a:=Es p l i j O;unfold k9 at a⊢;rw[pG,vu,fU,a];simp[show¬i<j by omega]
theorem Er(p:Prog)(l:List cx)(n:Nat):fY p l (n+1)=fY p l n++k9 p l n l.length:=by unfold fY;rw[pG,oE];simp
theorem Et(p:Prog)(l:List cx)(i j:Nat):(k9 p l i j).length<=j:=by unfold k9;rw[c5];exact gw (List.length_filter_le _ _) aW
theorem yV(p:Prog)(l:List cx): ∀n,(fY p l n).length<=n*l.length
 |0=>by simp[fY]
 |n+1=>by
  rw[Er,dD,dn,Nat.one_mul]
  have:=yV p l n
  have:=Et p l n l.length;omega
theorem MM{d:fJ}:d∈fY p l l.length↔ ∃i k:Nat,i<k/\k<l.length/\mq p l i k≠0/\d=⟨(i:Int),(k:Int),mq p l i k⟩:=by
 unfold fY k9;simp only[List.mem_flatMap,List.mem_range,List.mem_map,List.mem_filter,Bool.and_eq_true,decide_eq_true_eq];constructor
 ·rintro⟨i,e,k,⟨a,c,h⟩,rfl⟩;exact⟨i,k,c,a,h,rfl⟩
 rintro⟨i,k,e,a,c,rfl⟩;exact⟨i,O,k,⟨a,e,c⟩,rfl⟩
def places(o:List Int):Nat->List Int
 |0=>List.replicate o.length 0
 |k+1=>(places o k).set (o.getD k 0).toNat (k:Int)
def oG(p:Prog)(l:List cx)(i:Nat):Int:=match l[i]? with
 |some a=>(dd p a:Int)
 |none=> -1
def CG(p:Prog)(l:List cx)(i:Nat):List Int:=match l[i]? with
 |some a=>rc p a
 |none=>[]
theorem vP(h:l[i]? =some a):oG p l i=(dd p a:Int):=by unfold oG;rw[h]
theorem Ap(h:l[i]? =some a):CG p l i=rc p a:=by unfold CG;rw[h]
def iQ(p:Prog)(l:List cx)(c:Int):Nat->Int
 |0=> -1
 |i+1=>if oG p l i=c then(i:Int) else iQ p l c i
theorem NZ(p:Prog)(l:List cx)(c:Int): ∀i,-1<=iQ p l c i/\iQ p l c i<(i:Int)
 |0=>by simp[iQ]
 |i+1=>by have:=NZ p l c i;unfold iQ;split<;>omega
def l4(p:Prog)(l:List cx)(i:Nat):Bool:= !(l.drop (i+1)).any λx=>decide ((dd p x:Int)=oG p l i)
def kj(f:List Bool)(a:List Int):List Bool:=a.foldl (λf s=>if 0<=s then f.set s.toNat true else f) f
theorem zS: ∀(a:List Int) (f:List Bool),(kj f a).length=f.length
 | [],f=>rfl
 |s::a,f=>by
  show(kj (if 0<=s then f.set s.toNat true else f) a).length=_;rw[zS];split
  ·rw[eV]
  rfl
theorem zt(f:List Bool)(a:List Int)(s:Int):kj f (a++[s])=if 0<=s then(kj f a).set s.toNat true else kj f a:=by unfold kj;rw[List.foldl_append];rfl
theorem MN{i:Nat}: ∀{a:List Int} {f:List Bool},i<f.length->((kj f a).getD i false=true↔f.getD i false=true\/(i:Int)∈a)
 | [],f,_=>by simp[kj]
 |s::a,f,h=>by
  show(kj (if 0<=s then f.set s.toNat true else f) a).getD i false=true↔_;rw[MN (by split;rw[eV];exact h;exact h),dP];by_cases c:0<=s
  ·rw[a1 c,Fs];by_cases e:s.toNat=i
   ·rw[a1 ⟨e,O⟩];simp[show(i:Int)=s by omega]
   rw[a6 λd=>e d.1]
   have: ¬(i:Int)=s:=O
   simp[this]
  rw[a6 c]
  have: ¬(i:Int)=s:=O
  simp[this]
def hM(p:Prog)(l:List cx)(i:Nat):List Int:=(CG p l i).map λc=>iQ p l c i
def kG(p:Prog)(l:List cx):Nat->List Bool
 |0=>List.replicate l.length false
 |j+1=>if(kG p l j).getD (l.length-1-j) false=true\/l4 p l (l.length-1-j)=true then kj ((kG p l j).set (l.length-1-j) true) (hM p l (l.length-1-j)) else kG p l j
theorem sL(p:Prog)(l:List cx): ∀j,(kG p l j).length=l.length
 |0=>by simp[kG]
 |j+1=>by
  unfold kG;split
  ·rw[zS,eV,sL p l j]
  exact sL p l j
abbrev j'(p:Prog)(l:List cx):List Bool:=kG p l l.length
def tP(a b:ay):Bool:=decide (a.aT=b.aT)&&decide (a.const=b.const)
def pQ:List ay->List ay->Bool
 | [],[]=>true
 |a::as,b::c=>tP a b&&pQ as c
 |_,_=>false
theorem N6: ∀d∈fY p l l.length,0<=d.1/\d.1<d.2/\d.2<(l.length:Int):=by intro d a;obtain⟨i,k,c,e,h,rfl⟩:=MM.1 a;exact⟨by show(0:Int)<=(i:Int);omega,by show(i:Int)<(k:Int);omega,by show(k:Int)<_;omega⟩
theorem DP{l:List Int}(p:l.length<n)(q:l.length<=1000)(v:Int):i8 n l v=some (decide (v∈l)):=by
 refine ab.eq ?_;unfold i8;refine cc (P:=λi=>decide ((0:Int)<=i)=decide (v∈l)) ?_ λx d=>ab.some d;unfold D1;refine ab.loop (λz:Int=> ∃i:Nat,z=i/\i<=l.length/\v∉l.take i) (λz=>l.length-z.toNat) ?_ n 0 ⟨0,rfl,O,aW⟩ O;rintro c z ⟨i,rfl,r,a⟩ k;refine aQ (λm=>?_) λo=>ab.some ?_
 ·have bN:=bs (O:i<l.length);refine ag (bk bN) (aQ (λe=>ab.some ?_) λe=>?_)
  ·rw[bA O,bA];rw[e];exact bE bN
  rw[be O];refine k _ ⟨i+1,O,O,?_⟩ O;rw[gh bN,dZ,mK];rintro(h|h)
  ·exact a h
  exact e h
 have e:i=l.length:=O
 rw[e,c6] at a;rw[bu O,bu a]
theorem Fa{l:List Int}(o:l.length<n)(p:l.length<=1000)(v:Int):tq n l v=some (decide (v∈l)):=by
 refine ab.eq ?_;unfold tq;refine ab.loop (λz:Int=> ∃i:Nat,z=i/\i<=l.length/\v∉l.take i) (λz=>l.length-z.toNat) ?_ n 0 ⟨0,rfl,O,aW⟩ O;rintro c z ⟨i,rfl,q,a⟩ d;refine aQ (λk=>?_) λm=>ab.some ?_
 ·have bN:=bs (O:i<l.length);refine ag (bk bN) (aQ (λe=>ab.some ?_) λe=>?_)
  ·rw[bA];rw[<-e];exact bE bN
  rw[be O];refine d _ ⟨i+1,O,O,?_⟩ O;rw[gh bN,dZ,mK];rintro(h|h)
  ·exact a h
  exact e h.symm
 have e:i=l.length:=O
 rw[e,c6] at a;rw[bu a]
def fZ(p:Prog):nP:=⟨p,bz p.parts,(bz p.parts).map (rc p),(bz p.parts).map λx=>(dd p x:Int)⟩
theorem k3{l:List k}{x:k}(h:l[i]? =some x):(l.map f)[i]? =some (f x):=by rw[ev,h];rfl
theorem zT{l:List k}{x:k}(h:l[i]? =some x):(l.take (i+1)).map f=(l.take i).map f++[f x]:=by rw[gh h,fU];rfl
theorem yt(A:7100<=n)(m:lp p):px n p=some (if b2 p=true then(some (fZ p),true) else(none,false)):=by
 obtain⟨L,o,q⟩:=TT (n:=n) O m;refine ab.eq ?_;unfold px;refine ag o ?_;dsimp only;cases h:b2 p with
 |false=>exact ab.some rfl
 |true=>
  rw[q h];have r:=(eA h).2.2.2.2;refine b5 (ab.loop (λz:List (List Int)×List Int×Int=> ∃i:Nat,z.2.2=i/\i<=(bz p.parts).length/\z.1=((bz p.parts).take i).map (rc p)/\z.2.1=((bz p.parts).take i).map λx=>(dd p x:Int)) (λz=>(bz p.parts).length-z.2.2.toNat) ?_ n _ ⟨0,rfl,O,rfl,rfl⟩ (by first|omega|(dsimp only;omega)));rintro k ⟨a,b,z⟩ ⟨i,l,B,c,d⟩ s;dsimp only at l c d⊢;subst l;refine aQ (λw=>?_) λy=>ab.some ?_
  ·have bN:=bs (O:i<(bz p.parts).length);refine ag (bk bN) (ag (T4 O h (iF (bE bN))) (ag (cY (by rw[c,c5,cL,mI];omega)) (ag (cY (by rw[d,c5,cL,mI];omega)) ?_)));rw[be O];exact s _ ⟨i+1,Z,O,by dsimp only;rw[zT bN,c],by dsimp only;rw[zT bN,d]⟩ Z
  have e:i=(bz p.parts).length:=O
  rw[c,d,e,c6];rfl
def lX(p:Prog):List kN:=(bz p.parts).map λx=>(⟨rc p x,(dd p x:Int)⟩:kN)
theorem E4(l:7100<=n)(d:b2 p=true):vD n p=some (lX p):=by
 have m:=(eA d).2.2.2.2;refine ab.eq ?_;unfold vD lX;refine ag (uG O d) (ab.loop (λz:List kN×Int=> ∃i:Nat,z.2=i/\i<=(bz p.parts).length/\z.1=((bz p.parts).take i).map λx=>(⟨rc p x,(dd p x:Int)⟩:kN)) (λz=>(bz p.parts).length-z.2.toNat) ?_ n _ ⟨0,rfl,O,rfl⟩ Z);rintro h ⟨a,z⟩ ⟨i,k,B,c⟩ o;dsimp only at k c⊢;subst k;refine aQ (λq=>?_) λr=>ab.some ?_
 ·have bN:=bs (O:i<(bz p.parts).length);obtain⟨P,s,w,y,A⟩:=WA l d (iF (bE bN));refine ag (bk bN) (ag w (ag y (ag A (ag (cY (by rw[c,c5,cL,mI];omega)) ?_))));rw[be O];exact o _ ⟨i+1,Z,O,by dsimp only;rw[zT bN,c]⟩ Z
 have e:i=(bz p.parts).length:=O
 rw[c,e,c6]
theorem rs(c:b2 p=true)(d: ∀x∈l,gn p x)(h:l[i]? =some a):(rc p a).length<=12:=(qB c (d _ (bE h))).2.2.1
theorem NG{Q:R->Prop}{A B:Option Bool}(o:A=some (decide ((dd p a:Int)∈rc p b)))(q:B=some (decide ((dd p b:Int)∈rc p a))){D:Int->Option R}(h:ab (D (nL p a b)) Q):
  ab (aA (fun(l:Int)=>aA (fun(d:Int)=>aA D λi=>bif decide ((dd p a:Int)=(dd p b:Int)) then(i (wr (d+4))) else(i d))
   λm=>Option.bind B λr=>bif r then(m (wr (l+2))) else(m l))
   λn=>Option.bind A λs=>bif s then(n (wr (0+1))) else(n 0)) Q:=by
 refine ab.aA (λz=>z=if(dd p a:Int)∈rc p b then 1 else 0) (λj c=>ag o (aQ (λe=>c _ (by rw[a1 e];rfl)) λe=>c _ (by rw[a6 e]))) λz k=>?_;subst k;refine ab.aA (λz=>z=(if(dd p a:Int)∈rc p b then 1 else 0)+if(dd p b:Int)∈rc p a then 2 else 0) (λj c=>ag q (aQ (λe=>c _ ?_) λe=>c _ ?_)) λz k=>?_
 ·rw[a1 e];split<;>rfl
 ·rw[a6 e,Int.add_zero]
 subst k;refine ab.aA (λz=>z=nL p a b) (λj c=>aQ (λe=>c _ ?_) λe=>c _ ?_) λz k=>by subst k;exact h
 ·unfold nL;rw[a1 (O:dd p a=dd p b)];split<;>split<;>rfl
 unfold nL;rw[a6 (show¬dd p a=dd p b by omega),Int.add_zero]
theorem TU(r:7100<=n)(h:b2 p=true){k:Nat}(c:(bz p.parts)[i]? =some a)(d:(bz p.parts)[k]? =some b):Cd n (fZ p) (i:Int) (k:Int)=some (mq p (bz p.parts) i k):=by rw[F2 c d];have s:=rs h (λx e=>iF e) c;have w:=rs h (λx e=>iF e) d;have l:au (fZ p).reads (i:Int)=some (rc p a):=bk (k3 c);have m:au (fZ p).reads (k:Int)=some (rc p b):=bk (k3 d);have o:au (fZ p).dx (i:Int)=some (dd p a:Int):=bk (k3 c);have q:au (fZ p).dx (k:Int)=some (dd p b:Int):=bk (k3 d);refine ab.eq ?_;unfold Cd;rw[l,m,o,q];exact NG (DP O O _) (DP O O _) (ab.some rfl)
theorem U3(c:7100<=n)(d:(rc p a).length<=12)(e:(rc p b).length<=12):zd n ⟨rc p a,(dd p a:Int)⟩ ⟨rc p b,(dd p b:Int)⟩=some (nL p a b):=by refine ab.eq ?_;unfold zd;exact NG (Fa O O _) (Fa O O _) (ab.some rfl)
theorem EV(I:7100<=n)(D:b2 p=true):uN n (fZ p)=some (fY p (bz p.parts) (bz p.parts).length):=by
 have s:=(eA D).2.2.2.2;refine ab.eq ?_;unfold uN;rw[show(fZ p).list=bz p.parts from rfl];generalize o:bz p.parts=l at*;have K: ∀x∈l,gn p x:=λx L=>iF (by rw[o];exact L);refine ab.loop (λz:List fJ×Int=> ∃i:Nat,z.2=i/\i<=l.length/\z.1=fY p l i) (λz=>l.length-z.2.toNat) ?_ n _ ⟨0,rfl,O,rfl⟩ Z;rintro w ⟨a,z⟩ ⟨i,q,X,A⟩ Q;dsimp only at q A⊢;subst q;refine aQ (λR=>?_) λU=>ab.some ?_
 ·have bN:=bs (O:i<l.length);rw[be O];refine ab.loop (λz:List fJ×Int=> ∃j:Nat,z.2=j/\i<j/\j<=l.length/\z.1=fY p l i++k9 p l i j) (λz=>l.length-z.2.toNat) ?_ n _ ⟨i+1,Z,O,O,by dsimp only;rw[A,Es p l i _ (cO _),kK]⟩ Z;rintro r ⟨b,y⟩ ⟨j,F,c,Y,d⟩ B;dsimp only at F d⊢;subst F;refine aQ (λG=>?_) λH=>?_
  ·have C:=bs (O:j<l.length);have h:=TU I D (i:=i) (k:=j) (by rw[o];exact bN) (by rw[o];exact C);rw[o] at h;have W:=(abE p l i j).1;refine ab.aA (λz=>z=fY p l i++k9 p l i (j+1)) (λf m=>ag h (aQ (λe=>ag (cY ?_) (m _ ?_)) λe=>m _ ?_)) λz q=>?_
   ·have g:=yV p l i;have t:=Et p l i j;have u:i*l.length<=120*120:=nA O s;rw[d,dD,mI];omega
   ·rw[d,C7 p l c,a6 O,ih]
   ·rw[d,C7 p l c,a1 O,kK]
   subst q;rw[be O];exact B _ ⟨j+1,Z,O,O,rfl⟩ Z
  have e:j=l.length:=O
  try rw[be O]
  exact Q _ ⟨i+1,Z,O,by dsimp only;rw[d,e,Er]⟩ Z
 have e:i=l.length:=O
 rw[A,e]
theorem E6(G:7100<=n)(r:b2 p=true):vE n p=some (fY p (bz p.parts) (bz p.parts).length):=by
 have A:=(eA r).2.2.2.2;refine ab.eq ?_;unfold vE;refine ag (E4 G r) ?_;have B:(lX p).length=(bz p.parts).length:=by unfold lX;rw[c5]
 have d: ∀(i:Nat) x,(bz p.parts)[i]? =some x->au (lX p) (i:Int)=some ⟨rc p x,(dd p x:Int)⟩:=λi x h=>bk (k3 h);rw[B];generalize lX p=u at*;generalize L:bz p.parts=l at*;have k: ∀x∈l,gn p x:=λx Q=>iF (by rw[L];exact Q);refine ab.loop (λz:List fJ×Int=> ∃i:Nat,z.2=i/\i<=l.length/\z.1=fY p l i) (λz=>l.length-z.2.toNat) ?_ n _ ⟨0,rfl,O,rfl⟩ Z;rintro C ⟨a,z⟩ ⟨i,s,Y,D⟩ R;dsimp only at s D⊢;subst s;refine aQ (λU=>?_) λW=>ab.some ?_
 ·have bN:=bs (O:i<l.length);rw[be O];refine ab.loop (λz:List fJ×Int=> ∃j:Nat,z.2=j/\i<j/\j<=l.length/\z.1=fY p l i++k9 p l i j) (λz=>l.length-z.2.toNat) ?_ n _ ⟨i+1,Z,O,O,by dsimp only;rw[D,Es p l i _ (cO _),kK]⟩ Z;rintro w ⟨b,y⟩ ⟨j,H,m,f,o⟩ F;dsimp only at H o⊢;subst H;refine aQ (λI=>?_) λK=>?_
  ·have c:=bs (O:j<l.length);have X:=U3 G (rs r k bN) (rs r k c);refine ab.aA (λz=>z=fY p l i++k9 p l i (j+1)) (λg q=>ag (d _ _ bN) (ag (d _ _ c) (ag X (eS (λe=>ag (cY ?_) (q _ ?_)) λe=>q _ ?_)))) λz s=>?_
   ·have t:=yV p l i;have v:=Et p l i j;have E:i*l.length<=120*120:=nA O A;rw[o,dD,mI];omega
   ·rw[o,C7 p l m,F2 bN c,a6 e,ih]
   ·rw[o,C7 p l m,F2 bN c,a1 e,kK]
   subst s;rw[be O];exact F _ ⟨j+1,Z,O,O,rfl⟩ Z
  have e:j=l.length:=O
  try rw[be O]
  exact R _ ⟨i+1,Z,O,by dsimp only;rw[o,e,Er]⟩ Z
 have e:i=l.length:=O
 rw[D,e]
theorem zb(p:Prog)(l:List cx)(c:Int)(i:Nat):iQ p l c (i+1)=if oG p l i=c then(i:Int) else iQ p l c i:=rfl
theorem T5(t:7100<=n)(I:b2 p=true)(L:i<(bz p.parts).length):Cc n (fZ p) (i:Int)=some (hM p (bz p.parts) i):=by
 have Q:=(eA I).2.2.2.2;have w: ∀x∈bz p.parts,gn p x:=λx R=>iF R;have A:=bs L;have u:=rs I w A;have U:au (fZ p).reads (i:Int)=some (rc p (bz p.parts)[i]):=bk (k3 A);refine ab.eq ?_;unfold Cc hM;rw[Ap A,U];generalize rc p (bz p.parts)[i]=d at*;have B:wr ((i:Int)-1)=(i:Int)-1:=be O;rw[B];refine ag rfl (ab.loop (λz:List Int×Int=> ∃k:Nat,z.2=k/\k<=d.length/\z.1=(d.take k).map λc=>iQ p (bz p.parts) c i) (λz=>d.length-z.2.toNat) ?_ n _ ⟨0,rfl,O,rfl⟩ Z);rintro h ⟨a,z⟩ ⟨k,m,v,o⟩ W;dsimp only at m o⊢;subst m;refine aQ (λX=>?_) λY=>ab.some ?_
 ·have bN:=bs (O:k<d.length);refine ag (bk bN) ?_;have C: ∀y:Int,y=iQ p (bz p.parts) d[k] i->ab (Option.bind (app a [y]) λD=>h (D,wr ((k:Int)+1))) (λx=>x=d.map λc=>iQ p (bz p.parts) c i):=by
   intro y b;refine ag (cY (by rw[o,c5,cL,mI];omega)) ?_;rw[be O];exact W _ ⟨k+1,Z,O,by dsimp only;rw[zT bN,o,b]⟩ Z
  refine ab.loop (λz:Int=> ∃s:Nat,z=(s:Int)-1/\s<=i/\iQ p (bz p.parts) d[k] i=iQ p (bz p.parts) d[k] s) (λz=>(z+1).toNat) ?_ n _ ⟨i,rfl,cO _,rfl⟩ O;rintro r z ⟨s,rfl,E,l⟩ F;refine ab.aA (λz=>z=true/\(∃q,s=q+1/\oG p (bz p.parts) q≠d[k])\/z=false/\(s:Int)-1=iQ p (bz p.parts) d[k] i) (λj G=>aQ (λf=>?_) λf=>G _ (.inr ⟨rfl,?_⟩)) λz m=>?_
  ·obtain⟨q,rfl⟩: ∃q,s=q+1:=⟨s-1,O⟩
   have K:=bs (O:q<(bz p.parts).length);have g:au (fZ p).dx (((q+1:Nat):Int)-1)=some (oG p (bz p.parts) q):=by
    rw[show((q+1:Nat):Int)-1=(q:Int) by omega,vP K];exact bk (k3 K)
   refine ag g ?_;by_cases e:oG p (bz p.parts) q=d[k]
   ·rw[bA e];refine G _ (.inr ⟨rfl,?_⟩);rw[l,zb,a1 e];omega
   rw[bu e];exact G _ (.inl ⟨rfl,q,rfl,e⟩)
  ·have:s=0:=O
   subst this;rw[l];rfl
  rcases m with ⟨rfl,q,rfl,H⟩|⟨rfl,m⟩
  ·refine bR ?_;rw[be O];exact F _ ⟨q,O,O,by rw[l,zb,a6 H]⟩ O
  exact b5 (C _ m)
 have e:k=d.length:=O
 rw[o,e,c6]
theorem Ue(B:7100<=n)(o:b2 p=true)(C:i<=(bz p.parts).length)(c:Int):DC n (lX p) (i:Int) c=some (iQ p (bz p.parts) c i):=by
 have r:=(eA o).2.2.2.2;have k: ∀(i:Nat) x,(bz p.parts)[i]? =some x->au (lX p) (i:Int)=some ⟨rc p x,(dd p x:Int)⟩:=λi x h=>bk (k3 h);refine ab.eq ?_;unfold DC;rw[be O];refine ab.loop (λz:Int=> ∃s:Nat,z=(s:Int)-1/\s<=i/\iQ p (bz p.parts) c i=iQ p (bz p.parts) c s) (λz=>(z+1).toNat) ?_ n _ ⟨i,rfl,cO _,rfl⟩ O;rintro d z ⟨s,rfl,D,a⟩ l;refine aQ (λw=>?_) λw=>ab.some ?_
 ·obtain⟨q,rfl⟩: ∃q,s=q+1:=⟨s-1,O⟩
  have m:=bs (O:q<(bz p.parts).length);have y:=k _ _ m;have A:((q+1:Nat):Int)-1=(q:Int):=O
  rw[A];refine ag y (aQ (λe=>ab.some ?_) λe=>?_)
  ·dsimp only at e;rw[a,zb,vP m,a1 e]
  dsimp only at e;rw[be O];exact l _ ⟨q,O,O,by rw[a,zb,vP m,a6 e]⟩ O
 have:s=0:=O
 subst this;rw[a];rfl
theorem aaq{f:cx->Int}{w:Int}:decide (w∈l.map f)=l.any (λx=>decide (f x=w)):=by
 rw[e8,decide_eq_true_eq,eM,ij];constructor
 ·rintro⟨x,a,c⟩;exact⟨x,a,bA c⟩
 rintro⟨x,a,c⟩;exact⟨x,a,e6 c⟩
theorem KY(p:Prog)(l:List cx)(j q:Nat)(h:l.length-1-j=q):kG p l (j+1)=if(kG p l j).getD q false=true\/l4 p l q=true then kj ((kG p l j).set q true) (hM p l q) else kG p l j:=by subst h;rfl
theorem Mr{k:Nat}{y:Int}(h:(hM p l q)[k]? =some y): -1<=y/\y<(q:Int):=by
 unfold hM at h;rw[ev] at h;cases a:(CG p l q)[k]? with
 |none=>rw[a] at h;cases h
 |some c=>rw[a] at h;cases h;exact NZ p l c q
theorem Xr(Y:7100<=n)(H:b2 p=true):CC n (fZ p)=some (j' p (bz p.parts)):=by
 have b:=(eA H).2.2.2.2;have I: ∀x∈bz p.parts,gn p x:=λx t=>iF t;have K:=fun(i:Nat) h=>T5 Y H (i:=i) h;have a:(fZ p).dx.length=(bz p.parts).length:=by unfold fZ;dsimp only;rw[c5]
 have w:(fZ p).dx=(bz p.parts).map (λx=>(dd p x:Int)):=rfl;refine ab.eq ?_;unfold CC;refine ag (OE (n:=((fZ p).list.length:Int)) (x:=false) (by show _/\((bz p.parts).length:Int)<=_;omega)) ?_;rw[show((fZ p).list.length:Int)=((bz p.parts).length:Int) from rfl,c3,a,be O];generalize V:bz p.parts=l at*;refine ab.loop (λz:List Bool×Int=> ∃j:Nat,z.2=(l.length:Int)-1-j/\j<=l.length/\z.1=kG p l j) (λz=>(z.2+1).toNat) ?_ n _ ⟨0,Z,O,rfl⟩ Z;rintro L ⟨f,z⟩ ⟨j,o,hj,D⟩ u;dsimp only at o D⊢;refine aQ (λv=>?_) λv=>ab.some ?_
 ·obtain⟨q,E⟩: ∃q,l.length-1-j=q:=⟨_,rfl⟩
  have Q:z=(q:Int):=O
  subst Q;have A:q<l.length:=O
  have R:f.length=l.length:=by rw[D,sL]
  have bN:=bs A;have s:=bs (O:q<f.length);have U:f.getD q false=f[q]:=by rw[ew,s];rfl
  have c:=KY p l j q E;rw[<-D] at c;refine ab.aA (λz=>z=kG p l (j+1)) (λxG B=>?_) λz o=>?_
  ·refine ab.aA (λz=>z= !decide (f.getD q false=true\/l4 p l q=true)) (λP8 d=>ag (bk s) ?_) λz o=>?_
   ·rw[U] at d;cases a':f[q] with
    |true=>rw[a'] at d;exact b5 (d _ aW)
    |false=>
     rw[a'] at d;have W:au (fZ p).dx (q:Int)=some (dd p l[q]:Int):=by rw[w];exact bk (k3 bN)
     rw[be O];refine bR (ag (hG O O (by rw[a];omega)) (ag W (ag (DP ?_ ?_ _) (d _ ?_))))
     ·rw[fq,cL,a];omega
     ·rw[fq,cL,a];omega
     rw[show(((l.length:Nat):Int)).toNat=l.length by omega,<-a,c6,show(((q:Int)+1)).toNat=q+1 by omega,w,<-List.map_drop,aaq];unfold l4;rw[vP bN];cases (List.drop (q+1) l).any (λx=>decide ((dd p x:Int)=(dd p l[q]:Int)))<;>simp
   subst o;by_cases F:f.getD q false=true\/l4 p l q=true
   ·rw[bA F];rw[a1 F] at c;refine b5 (ag (bk s) (ag (dJ ⟨O,O⟩ true) (ag (K q A) ?_)));rw[c3];have M:(hM p l q).length<=12:=by unfold hM;rw[c5,Ap bN];exact rs H I bN
    refine ab.loop (λz:List Bool×Int=> ∃k:Nat,z.2=k/\k<=(hM p l q).length/\z.1=kj (f.set q true) ((hM p l q).take k)) (λz=>(hM p l q).length-z.2.toNat) ?_ n _ ⟨0,rfl,O,rfl⟩ Z;rintro G ⟨g,z⟩ ⟨k,o,hk,m⟩ X;dsimp only at o m⊢;subst o;refine aQ (λN=>?_) λP=>B _ ?_
    ·have r:=bs (O:k<(hM p l q).length);have a':=Mr r;have S:g.length=l.length:=by rw[m,zS,eV,R]
     refine ab.aA (λz=>z=kj (f.set q true) ((hM p l q).take (k+1))) (λagW C=>ag (bk r) (aQ (λe=>?_) λe=>C _ ?_)) λz o=>?_
     ·obtain⟨y,T,_⟩:=gq (l:=g) e O;refine ag T (ag (dJ ⟨e,O⟩ true) (C _ ?_));rw[gh r,zt,a1 e,m]
     ·rw[gh r,zt,a6 e,m]
     subst o;rw[be O];exact X _ ⟨k+1,Z,O,rfl⟩ Z
    have e:k=(hM p l q).length:=O
    rw[m,e,c6,c]
   rw[bu F];rw[a6 F] at c;exact bR (B _ c.symm)
  subst o;rw[be O];exact u _ ⟨j+1,Z,O,rfl⟩ Z
 have e:j=l.length:=O
 rw[D,e]
def rA(p:Prog)(l:List cx)(q k:Nat):Bool:= !((l.take k).drop (q+1)).any λx=>decide ((dd p x:Int)=oG p l q)
theorem UP{k:Nat}(h:q<k)(a:l[k]? =some b):rA p l q (k+1)=(rA p l q k&& !decide ((dd p b:Int)=oG p l q)):=by have c:=(bS.1 a).1;unfold rA;rw[gh a,C8 (by rw[cL];omega),s6];simp
theorem Rv(cH:7100<=n)(hp:lp p):Cj n p=some (if b2 p=true then pr (j' p (bz p.parts)) else []):=by
 refine ab.eq ?_;unfold Cj;refine ag (jR O hp) ?_;cases v:b2 p with
 |false=>exact ab.some rfl
 |true=>
  have BM:=(eA v).2.2.2.2;have N: ∀x∈bz p.parts,gn p x:=λx hx=>iF hx;have P:(lX p).length=(bz p.parts).length:=by unfold lX;rw[c5]
  have r: ∀(i:Nat) x,(bz p.parts)[i]? =some x->au (lX p) (i:Int)=some ⟨rc p x,(dd p x:Int)⟩:=λi x h=>bk (k3 h);have S:=fun(i:Nat) h=>Ue cH v (i:=i) h;refine b5 (ag (E4 cH v) ?_);rw[P,a1 rfl];generalize lX p=u at*;generalize sd:bz p.parts=l at*;refine ag (OE (n:=(l.length:Int)) (x:=false) O) ?_;rw[c3,be O];refine ab.loop (λz:List Bool×Int=> ∃j:Nat,z.2=(l.length:Int)-1-j/\j<=l.length/\z.1=kG p l j) (λz=>(z.2+1).toNat) ?_ n _ ⟨0,Z,O,rfl⟩ Z;rintro C ⟨f,z⟩ ⟨j,a,hj,E⟩ b7;dsimp only at a E⊢;refine aQ (λh0=>?_) λh0=>?_
  ·obtain⟨q,di⟩: ∃q,l.length-1-j=q:=⟨_,rfl⟩
   have T:z=(q:Int):=O
   subst T;have V:q<l.length:=O
   have acU:f.length=l.length:=by rw[E,sL]
   have bN:=bs V;have D:=bs (O:q<f.length);have H:f.getD q false=f[q]:=by rw[ew,D];rfl
   have s:=KY p l j q di;rw[<-E] at s;have I: ∀y:Int,y=(q:Int)-1->ab (C (kG p l (j+1),y)) _:=λy hy=>b7 _ ⟨j+1,Z,O,rfl⟩ Z;have gy:wr ((q:Int)+1)=((q+1:Nat):Int):=by rw[be O];omega
   have ahc:wr ((q:Int)-1)=(q:Int)-1:=be O;rw[gy,ahc];refine ab.loop (λz:Bool×Int=> ∃k:Nat,z.2=k/\q<k/\k<=l.length/\z.1=rA p l q k) (λz=>l.length-z.2.toNat) ?_ n _ ⟨q+1,rfl,O,O,?_⟩ Z
   ·rintro M ⟨b,z⟩ ⟨k,a,adA,hk,a'⟩ BR;dsimp only at a a'⊢;subst a;refine aQ (λhlt=>?_) λiD=>?_
    ·have m:=bs (O:k<l.length);have K:=UP (p:=p) adA m;refine ab.aA (λz=>z=rA p l q (k+1)) (λP6 A=>?_) λz a=>?_
     ·cases L:b with
      |false=>exact b5 (A _ (by rw[K,<-a',L];rfl))
      |true=>
       refine bR (ag (r _ _ m) (ag (r _ _ bN) (A _ ?_)));rw[K,<-a',L,vP bN];rfl
     subst a;rw[be O];exact BR _ ⟨k+1,Z,O,O,rfl⟩ Z
    have e:k=l.length:=O
    have Hl:b=l4 p l q:=by rw[a',e];unfold rA l4;rw[c6]
    refine ab.aA (λz=>z=f.set q (f.getD q false||l4 p l q)) (λH7 c=>ag (bk D) ?_) λz a=>?_
    ·rw[H] at c;cases Q:f[q] with
     |true=>
      rw[Q] at c;refine bR (ag (dJ ⟨O,O⟩ true) (c _ ?_));rw[c3];rfl
     |false=>
      rw[Q] at c;refine b5 (ag (dJ ⟨O,O⟩ b) (c _ ?_));rw[c3,Hl];rfl
    subst a;have hrl:=rs v N bN;by_cases G:f.getD q false=true\/l4 p l q=true
    ·rw[a1 G] at s;have F:(f.getD q false||l4 p l q)=true:=by rcases G with h|h<;>rw[h]<;>simp
     rw[F];have adK:(hM p l q).length=(rc p l[q]).length:=by unfold hM;rw[c5,Ap bN]
     refine ab.loop (λz:List Bool×Int=> ∃k:Nat,z.2=k/\k<=(rc p l[q]).length/\z.1=kj (f.set q true) ((hM p l q).take k)) (λz=>(rc p l[q]).length-z.2.toNat) ?_ n _ ⟨0,rfl,O,rfl⟩ Z;rintro w ⟨g,z⟩ ⟨k,a,hk,o⟩ R;dsimp only at a o⊢;subst a;have agb:g.length=l.length:=by rw[o,zS,eV,acU]
     have U:=bs (O:q<g.length);have hgt:g[q]=true:=by
      have W:g.getD q false=true:=by
       rw[o,MN (by rw[eV];omega),Fs,a1 ⟨rfl,O⟩];exact .inl rfl
      rwa [ew,U] at W
     refine ab.aA (λz=>z=decide (k<(rc p l[q]).length)) (λH8 d=>ag (r _ _ bN) (aQ (λe=>ag (bk U) (d _ ?_)) λe=>d _ ?_)) λz a=>?_
     ·dsimp only at e;rw[hgt,bA O]
     ·dsimp only at e;rw[bu O]
     subst a;refine aQ (λe=>?_) λe=>?_
     ·have X:=bs e;have m:(hM p l q)[k]? =some (iQ p l (rc p l[q])[k] q):=by unfold hM;rw[Ap bN];exact k3 X
      have a':=Mr m;refine ab.aA (λz=>z=kj (f.set q true) ((hM p l q).take (k+1))) (λagW Y=>ag (r _ _ bN) (ag (bk X) (ag (S q O _) (aQ (λe=>?_) λe=>Y _ ?_)))) λz a=>?_
      ·obtain⟨y,hy,_⟩:=gq (l:=g) e O;refine ag hy (ag (dJ ⟨e,O⟩ true) (Y _ ?_));rw[gh m,zt,a1 e,o]
      ·rw[gh m,zt,a6 e,o]
      subst a;rw[be O];exact R _ ⟨k+1,Z,O,rfl⟩ Z
     have e2:k=(hM p l q).length:=O
     rw[o,e2,c6,<-s];exact I _ rfl
    rw[a6 G] at s;have F:(f.getD q false||l4 p l q)=false:=by
     cases W:f.getD q false with
     |true=>exact bB (.inl W) G
     |false=>
      cases h2:l4 p l q with
      |true=>exact bB (.inr h2) G
      |false=>rfl
    have B:f[q]=false:=by
     rw[<-H];cases W:f.getD q false with
     |true=>exact bB (.inl W) G
     |false=>rfl
    have t:f.set q false=f:=by
     have h:=List.set_getElem_self (as:=f) (i:=q) O
     rwa [B] at h
    rw[F,t];refine ab.loop (λz:List Bool×Int=>z=(f,0)) (λ_=>0) ?_ n _ rfl O;rintro w z rfl R;dsimp only;refine ab.aA (λz=>z=false) (λH8 d=>ag (r _ _ bN) (ab.cond (λ_=>ag (bk D) (d _ B)) λ_=>d _ rfl)) λz a=>?_;subst a;refine b5 ?_;rw[<-s];exact I _ rfl
   dsimp only;unfold rA;rw[List.drop_of_length_le (by rw[cL];omega)];rfl
  have e:j=l.length:=O
  rw[E,e];exact ag (J4 (by rw[sL];omega) (by rw[sL];omega)) (ab.some rfl)
theorem FC(a:l.length<=120):(fY p l l.length).length<=15000:=by have c:=yV p l l.length;have d:l.length*l.length<=120*120:=nA a a;omega
def kF{k:Type}(p:k->k->Bool):List k->List k->Bool
 | [],[]=>true
 |a::as,b::c=>p a b&&kF p as c
 |_,_=>false
theorem E3{k:Type}{p:k->k->Bool}: ∀{a b:List k},kF p a b=true->a.length=b.length
 | [],[],_=>rfl
 |a::as,b::c,h=>by
  simp only[kF,Bool.and_eq_true] at h;simp[E3 h.2]
 | [],b::c,h=>by cases h
 |a::as,[],h=>by cases h
theorem Fg{f:k->k->Option Bool}{p:k->k->Bool}{a b:List k}(s: ∀x∈a,∀y∈b,f x y=some (p x y))(H:a.length<n)(I:a.length<=1000000):
  (bif !decide ((a.length:Int)=(b.length:Int)) then(some false) else(bo (λd (e:Int)=>bif decide (e<(a.length:Int)) then(Option.bind (au a e) λw=>Option.bind (au b e) λz=>Option.bind (f w z) λA=>bif !A then(some false) else(d (wr (e+1)))) else(some true)) n 0))=some (kF p a b):=by
 refine ab.eq (eS (λh=>ab.some ?_) λh=>?_)
 ·cases c:kF p a b with
  |false=>rfl
  |true=>exact bB (by rw[E3 c]) h
 refine ab.loop (λx:Int=> ∃i:Nat,x=i/\i<=a.length/\kF p (a.drop i) (b.drop i)=kF p a b) (λx=>a.length-x.toNat) ?_ n 0 ⟨0,rfl,O,rfl⟩ O;rintro l x ⟨i,rfl,K,c⟩ B;refine aQ (λC=>?_) λD=>ab.some ?_
 ·have m:i<a.length:=O
  have o:i<b.length:=O
  have q:=bs m;have a':=bs o;refine ag (bk q) (ag (bk a') (ag (s _ (bE q) _ (bE a')) ?_));rw[lg m,lg o] at c;simp only[kF] at c;cases r:p a[i] b[i] with
  |false=>rw[r] at c;exact bR (ab.some c)
  |true=>
   rw[r,fe] at c;refine b5 ?_;rw[be O];exact B _ ⟨i+1,O,O,c⟩ O
 have F:a.drop i=[]:=kJ O;have G:b.drop i=[]:=kJ O;rw[F,G] at c;exact c
theorem Lm{a b:List Int}(D:a.length<n)(F:a.length<=1000000):
  (bif !decide ((a.length:Int)=(b.length:Int)) then(some false) else(bo (λc (d:Int)=>bif decide (d<(a.length:Int)) then(Option.bind (au a d) λp=>Option.bind (au b d) λq=>bif !decide (p=q) then(some false) else(c (wr (d+1)))) else(some true)) n 0))=some (decide (a=b)):=by
 refine ab.eq (eS (λh=>ab.some ?_) λh=>?_)
 ·exact(bu λe=>h (by rw[e])).symm
 refine ab.loop (λx:Int=> ∃i:Nat,x=i/\i<=a.length/\a.take i=b.take i) (λx=>a.length-x.toNat) ?_ n 0 ⟨0,rfl,O,rfl⟩ O;rintro k x ⟨i,rfl,G,l⟩ r;refine aQ (λs=>?_) λw=>ab.some ?_
 ·have y:i<a.length:=O
  have z:i<b.length:=O
  have o:=bs y;have a':=bs z;refine ag (bk o) (ag (bk a') ?_);refine eS (λm=>ab.some ?_) λA=>?_
  ·exact(bu λe=>m (by subst e;rfl)).symm
  rw[be O];exact r _ ⟨i+1,O,O,by rw[gh o,gh a',l,A]⟩ O
 have B:a.take i=a:=ji O;have C:b.take i=b:=ji O;rw[B,C] at l;exact(bA l).symm
theorem St{a b:List Int}(c:a.length<n)(d:a.length<=1000000):sB n a b=some (decide (a=b)):=by unfold sB;exact Lm c d
theorem Ki{a b:List Int}(c:a.length<n)(d:a.length<=1000000):v' n a b=some (decide (a=b)):=by unfold v';exact Lm c d
theorem Sh(k:5000<=n){a b:ay}(d:jo a):jT n a b=some (tP a b):=by unfold jo at d;unfold jT tP;have h:=St (n:=n) (a:=a.aT) (b:=b.aT) O O;refine ab.eq (ab.aA (λz=>z=(decide (a.aT=b.aT)&&decide (a.const=b.const))) (λj c=>ag h (ab.cond (λe=>c _ (by rw[e];rfl)) λe=>c _ (by rw[e];rfl))) λz i=>ab.some i)
theorem Se(k:5000<=n){a b:ay}(d:jo a):x3 n a b=some (tP a b):=by unfold jo at d;unfold x3 tP;have h:=Ki (n:=n) (a:=a.aT) (b:=b.aT) O O;refine ab.eq (ab.aA (λz=>z=(decide (a.aT=b.aT)&&decide (a.const=b.const))) (λj c=>ab.cond (λe=>ag h (c _ (by rw[e,Bool.and_true]))) λe=>c _ (by rw[e,jl])) λz i=>ab.some i)
theorem Ee: ∀a b:List ay,kF tP a b=pQ a b
 | [],[]=>rfl
 |a::as,b::c=>by simp only[kF,pQ,Ee as c]
 | [],b::c=>rfl
 |a::as,[]=>rfl
theorem JB(h:5000<=n){a b:List ay}(c:kn a):qd n a b (λd e=>jT n d e)=some (pQ a b):=by unfold qd;rw[<-Ee];exact Fg (f:=λd e=>jT n d e) (λx i y _=>Sh h (c.2 x i)) (by have:=c.1;omega) (by have:=c.1;omega)
theorem Jz(d:5000<=n){a b:List ay}(c:kn a):x2 n a b=some (pQ a b):=by unfold x2;rw[<-Ee];exact Fg (f:=λe h=>x3 n e h) (λx i y _=>Se d (c.2 x i)) (by have:=c.1;omega) (by have:=c.1;omega)
end
def ub(B:Nat)(l:List ay):Bool:=Nat.ble l.length B&&l.all λa=>Nat.ble a.aT.length B
def GX(B:Nat)(a:List Loop):Bool:=Nat.ble a.length B&&a.all λl=>ub B l.bf&&ub B l.aI
def w8(B:Nat):Nat->Expr->Bool
 |0,_=>false
 |L+1,e=>Nat.ble e.bm.length B&&(Nat.ble e.index.aT.length B&&(ub B e.read.bC&&e.bm.all (w8 B L)))
def O1(B:Nat)(s:Stmt):Bool:=ub B s.write.bC&&w8 B 5 s.value
def OZ(B:Nat)(x:Part):Bool:=GX B x.nest&&(Nat.ble x.body.length B&&x.body.all (O1 B))
def O0(B:Nat)(l:List cg):Bool:=Nat.ble l.length B&&l.all λx=>Nat.ble x.bT.length B
def GW(B:Nat)(p:Prog):Bool:=O0 B p.aR&&(Nat.ble p.parts.length B&&p.parts.all (OZ B))
variable {B:Nat}{l:List (List UInt8)}{s:List UInt8}{k:Int}{r:cA}
theorem A9{l:List ay}(h:ub B l=true):eP B l:=by simp only[ub,Bool.and_eq_true,List.all_eq_true] at h;exact⟨d' h.1,λa c=>d' (h.2 a c)⟩
theorem aa4{l:List Loop}(h:GX B l=true):kf B l:=by simp only[GX,Bool.and_eq_true,List.all_eq_true] at h;exact⟨d' h.1,λa c=>⟨A9 (h.2 a c).1,A9 (h.2 a c).2⟩⟩
theorem Ou{B:Nat}: ∀{L:Nat} {e:Expr},w8 B L e=true->hT B L e
 |0,e,h=>by simp[w8] at h
 |L+1,e,h=>by simp only[w8,Bool.and_eq_true,List.all_eq_true] at h;exact⟨d' h.1,d' h.2.1,A9 h.2.2.1,λk a=>Ou (h.2.2.2 k a)⟩
theorem aa5{p:Prog}(h:GW B p=true):c9 B p:=by simp only[GW,O0,OZ,O1,Bool.and_eq_true,List.all_eq_true] at h;exact⟨⟨d' h.1.1,λa e=>d' (h.1.2 a e)⟩,d' h.2.1,λx c=>⟨aa4 (h.2.2 x c).1,d' (h.2.2 x c).2.1,λs d=>⟨A9 ((h.2.2 x c).2.2 s d).1,Ou ((h.2.2 x c).2.2 s d).2⟩⟩⟩
def GP(a t:List UInt8):Bool:=match cat a t with
 |some x=>match r7 N x with
  |some (p,_)=>GW 10 p
  |none=>false
 |none=>false
theorem YG{t:List UInt8}(h:l.all (GP s)=true)(d:t∈l): ∃x q,cat s t=some x/\r7 N x=some q/\c9 10 q.1:=by
 have h:=fy.1 h t d;unfold GP at h;cases c:cat s t with
 |none=>rw[c] at h;cases h
 |some x=>
  rw[c] at h;dsimp only at h;cases a:r7 N x with
  |none=>rw[a] at h;cases h
  |some q=>rw[a] at h;exact⟨x,q,rfl,a,aa5 h⟩
theorem Nb{R:Type}(e:cN k r)(i:k<=1000000000)(m:l≠[])(h:l.all (GP s)=true){K:List UInt8×cA->List UInt8->Prog×Bool->Option R}{Q:R->Prop}
  (n: ∀a c d,cN (k+1) a.2->c9 10 d.1->ab (K a c d) Q):ab (Option.bind (pc N r l) λa=>Option.bind (cat s a.1) λc=>Option.bind (r7 N c) λd=>K a c d) Q:=by refine cc (Bt N e i m) λa ⟨o,p⟩=>?_;obtain⟨x,q,w,y,z⟩:=YG h o;exact ag w (ag y (n _ _ _ p z))
theorem Xg(e:cN k r)(n:0<=k/\k<=900000):ab (zP N r) (λx=>c9 10 x.1/\cN (k+210000) x.2):=by
 unfold zP;refine Nb e O aW J λo p q a h=>?_;refine ab.aA (λz=>cN (k+2) ⟨z.1,z.2.1⟩) (λj c=>?_) λz d=>?_
 ·exact ab.cond (λ_=>cc (jd N a O) λs ⟨_,_,i⟩=>c _ (i.mono O)) λ_=>c _ (a.mono O)
 exact ab.cond (λ_=>ab.some ⟨h,d.mono O⟩) λ_=>cc (Xi d O) λw ⟨l,m⟩=>ab.some ⟨l,m.mono O⟩
theorem VW(e:cN k r)(n:0<=k/\k<=800000):ab (zj N r) (λx=>c9 10 x.1/\cN (k+220000) x.2):=by
 unfold zj;refine Nb e O aW J λo p q a h=>?_;refine ab.aA (λz=>cN (k+2) ⟨z.1,z.2.1⟩) (λj c=>?_) λz d=>?_
 ·exact ab.cond (λ_=>cc (jd N a O) λs ⟨_,_,i⟩=>c _ (i.mono O)) λ_=>c _ (a.mono O)
 exact ab.cond (λ_=>ab.some ⟨h,d.mono O⟩) λ_=>cc (Xg d O) λw ⟨l,m⟩=>ab.some ⟨l,m.mono O⟩
end Go.Lift
