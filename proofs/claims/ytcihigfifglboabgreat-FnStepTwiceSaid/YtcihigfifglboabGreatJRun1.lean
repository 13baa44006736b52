/- Tools. -/
import Derived.Test.YtcihigfifglboabGreatJLawDraw
set_option maxRecDepth 100000
set_option linter.unusedVariables false
namespace Go.Lift
open Go
section
variable {k R:Type}{l:List cx}{i q n:Nat}{x a b:cx}{p:Prog}{f:k->R}
theorem gp{l:List k}{x:k}(h:l[i]? =some x):l.take (i+1)=l.take i++[x]:=by rw[en,h];rfl
def dd(p:Prog)(x:cx):Nat:=match tJ p x with
 |some s=>(eD p.aR s.write x.cM 0).toNat
 |none=>0
def rc(p:Prog)(x:cx):List Int:=match tJ p x with
 |some s=>(dX 5 s.value).map (λa=>eD p.aR a x.cM 0)
 |none=>[]
def tj(p:Prog)(m:List Int)(x:cx):Int:=match tJ p x with
 |some s=>jX 5 p.aR m s.value x.cM
 |none=>0
theorem Ny{list:List ch}(c:kH list){a:bZ}{q:List Int}(h:0<=eD list a q 0):eD list a q 0<gd list:=by rcases Nz c a q 0 (gH 0) with bP|bP<;>omega
theorem qD(e:b6 p=true)(o:gw p x):(dd p x:Int)<gd p.aR/\(∀c∈rc p x,0<=c/\c<gd p.aR)/\(rc p x).length<=12/\ ∀m,iV p m x=m.set (dd p x) (tj p m x):=by obtain⟨i,k,P,s,d,D,F,G,H,q,r,I,w⟩:=uP e o;obtain⟨K,h,L,y,z⟩:=eC e;obtain⟨A,l⟩:=Gc w;obtain⟨Q,R,U,B⟩:=kI r;unfold dd rc tj iV;rw[q];dsimp only;refine⟨by have:=Ny h A;omega,λc C=>?_,by rw[c5];exact B,λm=>rfl⟩;obtain⟨a,n,rfl⟩:=eP.1 C;exact⟨l a n,Ny h (l a n)⟩
theorem TR(g:7100<=n)(m:b6 p=true)(A:gw p x):Cb n p x=some (rc p x,(dd p x:Int)):=by
 obtain⟨i,k,P,s,d,B,C,D,F,o,G,q,H⟩:=uP m A;obtain⟨r,w,t,I,K⟩:=eC m;obtain⟨u,v⟩:=Gc H;obtain⟨L,Q,U,E⟩:=kI G;obtain⟨n,rfl⟩: ∃j,n=j+1:=⟨n-1,O⟩
 have h:Cy (n+1) p x=some s:=by
  unfold Cy;rw[B,C,bk D];show Option.bind (au P.body (k:Int)) _=_;rw[bk F];rfl
 have W:(dd p x:Int)=eD p.aR s.write x.cM 0:=by unfold dd;rw[o];dsimp only;omega
 have X:rc p x=(dX 5 s.value).map (λa=>eD p.aR a x.cM 0):=by unfold rc;rw[o]
 rw[W,X];refine ab.eq ?_;unfold Cb;refine ag h (ag (Ew (d:=d) 5 n s.value O O Q) ?_);generalize M:dX 5 s.value=R at*;refine ab.loop (λz:List Int×Int=> ∃i:Nat,z.2=i/\i<=R.length/\z.1=(R.take i).map λa=>eD p.aR a x.cM 0) (λz=>R.length-z.2.toNat) ?_ (n+1) _ ⟨0,rfl,O,aV⟩ Z;rintro l ⟨out,z⟩ ⟨i,y,N,c⟩ Y;dsimp only at y c⊢;subst y;refine aP (λb=>?_) λf=>?_
 ·have bM:=br (O:i<R.length);refine ag (bk bM) (ag (zC O r w (U _ (bE bM)) q) (ag (cY (by rw[c,c5,cG,mS];omega)) ?_));rw[be O];refine Y _ ⟨i+1,Z,O,?_⟩ Z;dsimp only;rw[gp bM,f',c];rfl
 have e:i=R.length:=O
 refine ag (zC O r w L q) (ab.some ?_);rw[c,e,c6]
theorem Xq(G:7100<=n)(c:b6 p=true)(l:gw p x): ∃P s,au p.parts x.part=some P/\au P.body x.stmt=some s/\vp n p.aR s x.cM=some (rc p x,(dd p x:Int),true):=by
 obtain⟨i,k,P,s,d,m,o,q,r,e,w,y,h⟩:=uP c l;obtain⟨z,A,H,B,C⟩:=eC c;obtain⟨I,K⟩:=Gc h;have D:(dd p x:Int)=eD p.aR s.write x.cM 0:=by unfold dd;rw[e];dsimp only;omega
 have F:rc p x=(dX 5 s.value).map (λa=>eD p.aR a x.cM 0):=by unfold rc;rw[e]
 refine⟨P,s,by rw[m];exact bk q,by rw[o];exact bk r,?_⟩;rw[J5 O z A w y,a1 h,D,F]
theorem Lu{r:List ch}{m l:List Int}{q:List Int}{d:Int}: ∀{L:Nat} {e:Expr},dD L e d=true->(∀a∈dX L e,m.getD (eD r a q 0).toNat 0=l.getD (eD r a q 0).toNat 0)->jX L r m e q=jX L r l e q
 |0,e,h,_=>by cases h
 |L+1,e,h,n=>by
  obtain⟨w,x,p⟩:=hi h;simp only[jX];split
  ·rfl
  split
  ·rfl
  split
  ·rename_i ei;exact n _ (by simp[dX,ei])
  have i: ∀c∈e.bm,jX L r m c q=jX L r l c q:=λc o=>
   Lu (p c o) λa s=>n a (by simp only[dX,List.mem_append,List.mem_flatMap];exact .inr ⟨c,o,s⟩)
  split
  ·rename_i a b k;rw[k] at i;rw[i a aV,i b aV]
  rfl
theorem Za(l:b6 p=true)(n:gw p x){m e:List Int}(h: ∀c∈rc p x,m.getD c.toNat 0=e.getD c.toNat 0):tj p m x=tj p e x:=by obtain⟨i,k,P,s,d,w,y,z,A,o,q,B,C⟩:=uP l n;unfold tj;unfold rc at h;rw[o] at h⊢;exact Lu (kI q).2.1 λa r=>h _ (List.mem_map_of_mem r)
theorem FB(l:List k)(i j:Nat)(x d:k):(l.set i x).getD j d=if i=j/\i<l.length then x else l.getD j d:=by
 rw[ez,ez,List.getElem?_set];split
 ·rename_i h;subst h;split
  ·rename_i a;rw[a1 ⟨rfl,a⟩];rfl
  rename_i a;rw[aY O,q8 O]
 rename_i h;rw[aY λa=>h a.1]
def pI(l:List Bool):List Int:=((List.range l.length).filter λi=>l.getD i false).map (fun(i:Nat)=>(i:Int))
theorem UM{l:List Bool}(s:l.length<n)(m:l.length<=1000):u6 n l=some (pI l):=by
 refine ab.eq ?_;unfold u6;refine ab.loop (λz:List Int×Int=> ∃i:Nat,z.2=i/\i<=l.length/\z.1.length<=i/\z.1=((List.range i).filter λi=>l.getD i false).map (fun(i:Nat)=>(i:Int))) (λz=>l.length-z.2.toNat) ?_ n _ ⟨0,rfl,O,aV,aV⟩ Z;rintro d ⟨out,z⟩ ⟨i,a,w,pc,c⟩ o;dsimp only at a c pc⊢;subst a;refine aP (λp=>?_) λq=>ab.some ?_
 ·have bM:=br (O:i<l.length);have r:l.getD i false=l[i]:=by rw[ez,bM];rfl
  refine ab.aA (λz=>z.length<=i+1/\z=((List.range (i+1)).filter λi=>l.getD i false).map (fun(i:Nat)=>(i:Int))) (λj k=>ag (bk bM) (ab.cond (λh=>ag (cY (by rw[mS];omega)) (k _ ?_)) λh=>k _ ?_)) λz a=>?_
  ·refine⟨by rw[dE,mS];omega,?_⟩;rw[pO,vB,f',<-c];simp[bM,h]
  ·refine⟨O,?_⟩;rw[pO,vB,f',<-c];simp[bM,h]
  rw[be O];exact o _ ⟨i+1,Z,O,a.1,a.2⟩ Z
 have e:i=l.length:=O
 rw[c,e];rfl
theorem J8{l:List Bool}(c:l.length<n)(a:l.length<=1000):u6 n l=some (pI l):=UM c a
theorem Kx(l:List Bool):(pI l).length<=l.length:=by unfold pI;rw[c5];exact gE (List.length_filter_le _ _) aV
theorem Ea{l:List Bool}{c:Int}:c∈pI l↔0<=c/\l.getD c.toNat false=true:=by
 unfold pI;simp only[List.mem_map,List.mem_filter,List.mem_range];constructor
 ·rintro⟨i,⟨e,a⟩,rfl⟩;exact⟨O,by rw[c3];exact a⟩
 rintro⟨e,a⟩;refine⟨c.toNat,⟨?_,a⟩,O⟩;refine ta λd=>?_;rw[ez,q8 d] at a;cases a
theorem TU(c:7000<=n)(d:lC p): ∃L,uo n p=some (L,b6 p)/\(b6 p=true->L=bz p.parts):=by
 rw[Jz c d];cases a:kj p with
 |false=>
  refine⟨[],?_,λh=>?_⟩
  ·rw[aY aV,show b6 p=false by unfold b6;rw[a];rfl]
  unfold b6 at h;rw[a] at h;cases h
 |true=>
  refine⟨bz p.parts,?_,λ_=>rfl⟩;rw[a1 rfl,show b6 p=decide ((bz p.parts).length<=120) by
   unfold b6;rw[a,Bool.true_and];exact decide_eq_decide.2 (by have:=B3 p.parts;omega)]
abbrev iv(p:Prog):Nat:=(gd p.aR).toNat
theorem OI{n:Int}(h:0<=n/\n<=1000000000)(x:k):mk n x=some (List.replicate n.toNat x):=by unfold mk;rw[a1 h]
def pick(l:List cx)(o:List Int):List cx:=o.filterMap λc=>l[c.toNat]?
def O2(p:Prog)(a b:cx):Prop:=(dd p a:Int)∈rc p b\/(dd p b:Int)∈rc p a\/dd p a=dd p b
def G'(p:Prog)(a b:cx):Prop:= ∀m,rQ p.aR m->iV p (iV p m a) b=iV p (iV p m b) a
theorem N'(a:b6 p=true)(d:gw p b){w:Nat}(h:(w:Int)∉rc p b)(m:List Int)(v:Int):tj p (m.set w v) b=tj p m b:=by refine Za a d λc i=>?_;have k:=(qD a d).2.1 c i;rw[FB,aY];rintro⟨e,_⟩;exact h (by rw[e,yJ k.1];exact i)
theorem swap(c:b6 p=true)(d:gw p a)(i:gw p b)(h: ¬O2 p a b):G' p a b:=by intro m _;have n:(dd p a:Int)∉rc p b:=λe=>h (.inl e);have o:(dd p b:Int)∉rc p a:=λe=>h (.inr (.inl e));have q:dd p a≠dd p b:=λe=>h (.inr (.inr e));have k:=(qD c d).2.2.2;have l:=(qD c i).2.2.2;rw[k,l,l,k,N' c i n,N' c d o,List.set_comm _ _ q]
def nS(p:Prog)(a b:cx):Int:=(if(dd p a:Int)∈rc p b then 1 else 0)+(if(dd p b:Int)∈rc p a then 2 else 0)+(if dd p a=dd p b then 4 else 0)
theorem aaK(p:Prog)(a b:cx):0<=nS p a b/\nS p a b<=7:=by unfold nS;split<;>split<;>split<;>omega
def mC(p:Prog)(l:List cx)(i k:Nat):Int:=match l[i]?,l[k]? with
 |some a,some b=>nS p a b
 |_,_=>0
theorem FW{k:Nat}(c:l[i]? =some a)(d:l[k]? =some b):mC p l i k=nS p a b:=by unfold mC;rw[c,d]
theorem abN(p:Prog)(l:List cx)(i k:Nat):0<=mC p l i k/\mC p l i k<=7:=by
 unfold mC;split
 ·exact aaK _ _ _
 omega
def lo(p:Prog)(l:List cx)(i j:Nat):List fL:=((List.range j).filter λk=>decide (i<k)&&decide (mC p l i k≠0)).map (fun(k:Nat)=>(⟨(i:Int),(k:Int),mC p l i k⟩:fL))
def gf(p:Prog)(l:List cx)(n:Nat):List fL:=(List.range n).flatMap λi=>lo p l i l.length
theorem DB(p:Prog)(l:List cx){j:Nat}(h:i<j):lo p l i (j+1)=lo p l i j++(if mC p l i j=0 then [] else [⟨(i:Int),(j:Int),mC p l i j⟩]):=by
 unfold lo;rw[pO,vB,f'];congr 1;split
 ·rename_i e;simp[e]
 rename_i e;simp[e,h]
theorem Ez(p:Prog)(l:List cx)(i:Nat): ∀j,j<=i+1->lo p l i j=[]
 |0,_=>rfl
 |j+1,h=>by have a:=Ez p l i j O;unfold lo at a⊢;rw[pO,vB,f',a];simp[show¬i<j by omega]
theorem Ey(p:Prog)(l:List cx)(n:Nat):gf p l (n+1)=gf p l n++lo p l n l.length:=by unfold gf;rw[pO,oM];simp
theorem EA(p:Prog)(l:List cx)(i j:Nat):(lo p l i j).length<=j:=by unfold lo;rw[c5];exact gE (List.length_filter_le _ _) aV
theorem yZ(p:Prog)(l:List cx): ∀n,(gf p l n).length<=n*l.length
 |0=>by simp[gf]
 |n+1=>by
  rw[Ey,dE,dp,Nat.one_mul]
  have:=yZ p l n
  have:=EA p l n l.length;omega
theorem MV{d:fL}:d∈gf p l l.length↔ ∃i k:Nat,i<k/\k<l.length/\mC p l i k≠0/\d=⟨(i:Int),(k:Int),mC p l i k⟩:=by
 unfold gf lo;simp only[List.mem_flatMap,List.mem_range,List.mem_map,List.mem_filter,Bool.and_eq_true,decide_eq_true_eq];constructor
 ·rintro⟨i,e,k,⟨a,c,h⟩,rfl⟩;exact⟨i,k,c,a,h,rfl⟩
 rintro⟨i,k,e,a,c,rfl⟩;exact⟨i,O,k,⟨a,e,c⟩,rfl⟩
def places(o:List Int):Nat->List Int
 |0=>List.replicate o.length 0
 |k+1=>(places o k).set (o.getD k 0).toNat (k:Int)
def oP(p:Prog)(l:List cx)(i:Nat):Int:=match l[i]? with
 |some a=>(dd p a:Int)
 |none=> -1
def CM(p:Prog)(l:List cx)(i:Nat):List Int:=match l[i]? with
 |some a=>rc p a
 |none=>[]
theorem vY(h:l[i]? =some a):oP p l i=(dd p a:Int):=by unfold oP;rw[h]
theorem Av(h:l[i]? =some a):CM p l i=rc p a:=by unfold CM;rw[h]
def i'(p:Prog)(l:List cx)(c:Int):Nat->Int
 |0=> -1
 |i+1=>if oP p l i=c then(i:Int) else i' p l c i
theorem N7(p:Prog)(l:List cx)(c:Int): ∀i,-1<=i' p l c i/\i' p l c i<(i:Int)
 |0=>by simp[i']
 |i+1=>by have:=N7 p l c i;unfold i';split<;>omega
def me(p:Prog)(l:List cx)(i:Nat):Bool:= !(l.drop (i+1)).any λx=>decide ((dd p x:Int)=oP p l i)
def ks(f:List Bool)(a:List Int):List Bool:=a.foldl (λf s=>if 0<=s then f.set s.toNat true else f) f
theorem zY: ∀(a:List Int) (f:List Bool),(ks f a).length=f.length
 | [],f=>rfl
 |s::a,f=>by
  show(ks (if 0<=s then f.set s.toNat true else f) a).length=_;rw[zY];split
  ·rw[eS]
  rfl
theorem zy(f:List Bool)(a:List Int)(s:Int):ks f (a++[s])=if 0<=s then(ks f a).set s.toNat true else ks f a:=by unfold ks;rw[List.foldl_append];rfl
theorem MW{i:Nat}: ∀{a:List Int} {f:List Bool},i<f.length->((ks f a).getD i false=true↔f.getD i false=true\/(i:Int)∈a)
 | [],f,_=>by simp[ks]
 |s::a,f,h=>by
  show(ks (if 0<=s then f.set s.toNat true else f) a).getD i false=true↔_;rw[MW (by split;rw[eS];exact h;exact h),dP];by_cases c:0<=s
  ·rw[a1 c,FB];by_cases e:s.toNat=i
   ·rw[a1 ⟨e,O⟩];simp[show(i:Int)=s by omega]
   rw[aY λd=>e d.1]
   have: ¬(i:Int)=s:=O
   simp[this]
  rw[aY c]
  have: ¬(i:Int)=s:=O
  simp[this]
def hX(p:Prog)(l:List cx)(i:Nat):List Int:=(CM p l i).map λc=>i' p l c i
def kO(p:Prog)(l:List cx):Nat->List Bool
 |0=>List.replicate l.length false
 |j+1=>if(kO p l j).getD (l.length-1-j) false=true\/me p l (l.length-1-j)=true then ks ((kO p l j).set (l.length-1-j) true) (hX p l (l.length-1-j)) else kO p l j
theorem sN(p:Prog)(l:List cx): ∀j,(kO p l j).length=l.length
 |0=>by simp[kO]
 |j+1=>by
  unfold kO;split
  ·rw[zY,eS,sN p l j]
  exact sN p l j
abbrev ki(p:Prog)(l:List cx):List Bool:=kO p l l.length
def tO(a b:ay):Bool:=decide (a.aT=b.aT)&&decide (a.const=b.const)
def pY:List ay->List ay->Bool
 | [],[]=>true
 |a::as,b::c=>tO a b&&pY as c
 |_,_=>false
theorem Oo: ∀d∈gf p l l.length,0<=d.1/\d.1<d.2/\d.2<(l.length:Int):=by intro d a;obtain⟨i,k,c,e,h,rfl⟩:=MV.1 a;exact⟨by show(0:Int)<=(i:Int);omega,by show(i:Int)<(k:Int);omega,by show(k:Int)<_;omega⟩
theorem DV{l:List Int}(p:l.length<n)(q:l.length<=1000)(v:Int):uM n l v=some (decide (v∈l)):=by
 refine ab.eq ?_;unfold uM;refine cb (P:=λi=>decide ((0:Int)<=i)=decide (v∈l)) ?_ λx d=>ab.some d;unfold D7;refine ab.loop (λz:Int=> ∃i:Nat,z=i/\i<=l.length/\v∉l.take i) (λz=>l.length-z.toNat) ?_ n 0 ⟨0,rfl,O,aV⟩ O;rintro c z ⟨i,rfl,r,a⟩ k;refine aP (λm=>?_) λo=>ab.some ?_
 ·have bM:=br (O:i<l.length);refine ag (bk bM) (aP (λe=>ab.some ?_) λe=>?_)
  ·rw[bA O,bA];rw[e];exact bE bM
  rw[be O];refine k _ ⟨i+1,O,O,?_⟩ O;rw[gp bM,d',mU];rintro(h|h)
  ·exact a h
  exact e h
 have e:i=l.length:=O
 rw[e,c6] at a;rw[bx O,bx a]
theorem FC{l:List Int}(o:l.length<n)(p:l.length<=1000)(v:Int):tu n l v=some (decide (v∈l)):=by
 refine ab.eq ?_;unfold tu;refine ab.loop (λz:Int=> ∃i:Nat,z=i/\i<=l.length/\v∉l.take i) (λz=>l.length-z.toNat) ?_ n 0 ⟨0,rfl,O,aV⟩ O;rintro c z ⟨i,rfl,q,a⟩ d;refine aP (λk=>?_) λm=>ab.some ?_
 ·have bM:=br (O:i<l.length);refine ag (bk bM) (aP (λe=>ab.some ?_) λe=>?_)
  ·rw[bA];rw[<-e];exact bE bM
  rw[be O];refine d _ ⟨i+1,O,O,?_⟩ O;rw[gp bM,d',mU];rintro(h|h)
  ·exact a h
  exact e h.symm
 have e:i=l.length:=O
 rw[e,c6] at a;rw[bx a]
def gg(p:Prog):nW:=⟨p,bz p.parts,(bz p.parts).map (rc p),(bz p.parts).map λx=>(dd p x:Int)⟩
theorem lf{l:List k}{x:k}(h:l[i]? =some x):(l.map f)[i]? =some (f x):=by rw[ey,h];rfl
theorem zZ{l:List k}{x:k}(h:l[i]? =some x):(l.take (i+1)).map f=(l.take i).map f++[f x]:=by rw[gp h,f'];rfl
theorem yz(A:7100<=n)(m:lC p):pA n p=some (if b6 p=true then(some (gg p),true) else(none,false)):=by
 obtain⟨L,o,q⟩:=TU (n:=n) O m;refine ab.eq ?_;unfold pA;refine ag o ?_;dsimp only;cases h:b6 p with
 |false=>exact ab.some rfl
 |true=>
  rw[q h];have r:=(eC h).2.2.2.2;refine b3 (ab.loop (λz:List (List Int)×List Int×Int=> ∃i:Nat,z.2.2=i/\i<=(bz p.parts).length/\z.1=((bz p.parts).take i).map (rc p)/\z.2.1=((bz p.parts).take i).map λx=>(dd p x:Int)) (λz=>(bz p.parts).length-z.2.2.toNat) ?_ n _ ⟨0,rfl,O,rfl,rfl⟩ (by first|omega|(dsimp only;omega)));rintro k ⟨a,b,z⟩ ⟨i,l,B,c,d⟩ s;dsimp only at l c d⊢;subst l;refine aP (λw=>?_) λy=>ab.some ?_
  ·have bM:=br (O:i<(bz p.parts).length);refine ag (bk bM) (ag (TR O h (iP (bE bM))) (ag (cY (by rw[c,c5,cG,mS];omega)) (ag (cY (by rw[d,c5,cG,mS];omega)) ?_)));rw[be O];exact s _ ⟨i+1,Z,O,by dsimp only;rw[zZ bM,c],by dsimp only;rw[zZ bM,d]⟩ Z
  have e:i=(bz p.parts).length:=O
  rw[c,d,e,c6];rfl
def l8(p:Prog):List kV:=(bz p.parts).map λx=>(⟨rc p x,(dd p x:Int)⟩:kV)
theorem EV(l:7100<=n)(d:b6 p=true):vL n p=some (l8 p):=by
 have m:=(eC d).2.2.2.2;refine ab.eq ?_;unfold vL l8;refine ag (uL O d) (ab.loop (λz:List kV×Int=> ∃i:Nat,z.2=i/\i<=(bz p.parts).length/\z.1=((bz p.parts).take i).map λx=>(⟨rc p x,(dd p x:Int)⟩:kV)) (λz=>(bz p.parts).length-z.2.toNat) ?_ n _ ⟨0,rfl,O,rfl⟩ Z);rintro h ⟨a,z⟩ ⟨i,k,B,c⟩ o;dsimp only at k c⊢;subst k;refine aP (λq=>?_) λr=>ab.some ?_
 ·have bM:=br (O:i<(bz p.parts).length);obtain⟨P,s,w,y,A⟩:=Xq l d (iP (bE bM));refine ag (bk bM) (ag w (ag y (ag A (ag (cY (by rw[c,c5,cG,mS];omega)) ?_))));rw[be O];exact o _ ⟨i+1,Z,O,by dsimp only;rw[zZ bM,c]⟩ Z
 have e:i=(bz p.parts).length:=O
 rw[c,e,c6]
theorem rv(c:b6 p=true)(d: ∀x∈l,gw p x)(h:l[i]? =some a):(rc p a).length<=12:=(qD c (d _ (bE h))).2.2.1
theorem NT{Q:R->Prop}{A B:Option Bool}(o:A=some (decide ((dd p a:Int)∈rc p b)))(q:B=some (decide ((dd p b:Int)∈rc p a))){D:Int->Option R}(h:ab (D (nS p a b)) Q):
  ab (aA (fun(l:Int)=>aA (fun(d:Int)=>aA D λi=>bif decide ((dd p a:Int)=(dd p b:Int)) then(i (wr (d+4))) else(i d))
   λm=>Option.bind B λr=>bif r then(m (wr (l+2))) else(m l))
   λn=>Option.bind A λs=>bif s then(n (wr (0+1))) else(n 0)) Q:=by
 refine ab.aA (λz=>z=if(dd p a:Int)∈rc p b then 1 else 0) (λj c=>ag o (aP (λe=>c _ (by rw[a1 e];rfl)) λe=>c _ (by rw[aY e]))) λz k=>?_;subst k;refine ab.aA (λz=>z=(if(dd p a:Int)∈rc p b then 1 else 0)+if(dd p b:Int)∈rc p a then 2 else 0) (λj c=>ag q (aP (λe=>c _ ?_) λe=>c _ ?_)) λz k=>?_
 ·rw[a1 e];split<;>rfl
 ·rw[aY e,Int.add_zero]
 subst k;refine ab.aA (λz=>z=nS p a b) (λj c=>aP (λe=>c _ ?_) λe=>c _ ?_) λz k=>by subst k;exact h
 ·unfold nS;rw[a1 (O:dd p a=dd p b)];split<;>split<;>rfl
 unfold nS;rw[aY (show¬dd p a=dd p b by omega),Int.add_zero]
theorem TV(r:7100<=n)(h:b6 p=true){k:Nat}(c:(bz p.parts)[i]? =some a)(d:(bz p.parts)[k]? =some b):Ci n (gg p) (i:Int) (k:Int)=some (mC p (bz p.parts) i k):=by rw[FW c d];have s:=rv h (λx e=>iP e) c;have w:=rv h (λx e=>iP e) d;have l:au (gg p).reads (i:Int)=some (rc p a):=bk (lf c);have m:au (gg p).reads (k:Int)=some (rc p b):=bk (lf d);have o:au (gg p).dy (i:Int)=some (dd p a:Int):=bk (lf c);have q:au (gg p).dy (k:Int)=some (dd p b:Int):=bk (lf d);refine ab.eq ?_;unfold Ci;rw[l,m,o,q];exact NT (DV O O _) (DV O O _) (ab.some rfl)
theorem VV(c:7100<=n)(d:(rc p a).length<=12)(e:(rc p b).length<=12):zi n ⟨rc p a,(dd p a:Int)⟩ ⟨rc p b,(dd p b:Int)⟩=some (nS p a b):=by refine ab.eq ?_;unfold zi;exact NT (FC O O _) (FC O O _) (ab.some rfl)
theorem E8(I:7100<=n)(D:b6 p=true):uT n (gg p)=some (gf p (bz p.parts) (bz p.parts).length):=by
 have s:=(eC D).2.2.2.2;refine ab.eq ?_;unfold uT;rw[show(gg p).list=bz p.parts from rfl];generalize o:bz p.parts=l at*;have K: ∀x∈l,gw p x:=λx L=>iP (by rw[o];exact L);refine ab.loop (λz:List fL×Int=> ∃i:Nat,z.2=i/\i<=l.length/\z.1=gf p l i) (λz=>l.length-z.2.toNat) ?_ n _ ⟨0,rfl,O,rfl⟩ Z;rintro w ⟨a,z⟩ ⟨i,q,X,A⟩ Q;dsimp only at q A⊢;subst q;refine aP (λR=>?_) λU=>ab.some ?_
 ·have bM:=br (O:i<l.length);rw[be O];refine ab.loop (λz:List fL×Int=> ∃j:Nat,z.2=j/\i<j/\j<=l.length/\z.1=gf p l i++lo p l i j) (λz=>l.length-z.2.toNat) ?_ n _ ⟨i+1,Z,O,O,by dsimp only;rw[A,Ez p l i _ (cQ _),kS]⟩ Z;rintro r ⟨b,y⟩ ⟨j,F,c,Y,d⟩ B;dsimp only at F d⊢;subst F;refine aP (λG=>?_) λH=>?_
  ·have C:=br (O:j<l.length);have h:=TV I D (i:=i) (k:=j) (by rw[o];exact bM) (by rw[o];exact C);rw[o] at h;have W:=(abN p l i j).1;refine ab.aA (λz=>z=gf p l i++lo p l i (j+1)) (λf m=>ag h (aP (λe=>ag (cY ?_) (m _ ?_)) λe=>m _ ?_)) λz q=>?_
   ·have g:=yZ p l i;have t:=EA p l i j;have u:i*l.length<=120*120:=nH O s;rw[d,dE,mS];omega
   ·rw[d,DB p l c,aY O,iy]
   ·rw[d,DB p l c,a1 O,kS]
   subst q;rw[be O];exact B _ ⟨j+1,Z,O,O,rfl⟩ Z
  have e:j=l.length:=O
  try rw[be O]
  exact Q _ ⟨i+1,Z,O,by dsimp only;rw[d,e,Ey]⟩ Z
 have e:i=l.length:=O
 rw[A,e]
theorem EX(G:7100<=n)(r:b6 p=true):vM n p=some (gf p (bz p.parts) (bz p.parts).length):=by
 have A:=(eC r).2.2.2.2;refine ab.eq ?_;unfold vM;refine ag (EV G r) ?_;have B:(l8 p).length=(bz p.parts).length:=by unfold l8;rw[c5]
 have d: ∀(i:Nat) x,(bz p.parts)[i]? =some x->au (l8 p) (i:Int)=some ⟨rc p x,(dd p x:Int)⟩:=λi x h=>bk (lf h);rw[B];generalize l8 p=u at*;generalize L:bz p.parts=l at*;have k: ∀x∈l,gw p x:=λx Q=>iP (by rw[L];exact Q);refine ab.loop (λz:List fL×Int=> ∃i:Nat,z.2=i/\i<=l.length/\z.1=gf p l i) (λz=>l.length-z.2.toNat) ?_ n _ ⟨0,rfl,O,rfl⟩ Z;rintro C ⟨a,z⟩ ⟨i,s,Y,D⟩ R;dsimp only at s D⊢;subst s;refine aP (λU=>?_) λW=>ab.some ?_
 ·have bM:=br (O:i<l.length);rw[be O];refine ab.loop (λz:List fL×Int=> ∃j:Nat,z.2=j/\i<j/\j<=l.length/\z.1=gf p l i++lo p l i j) (λz=>l.length-z.2.toNat) ?_ n _ ⟨i+1,Z,O,O,by dsimp only;rw[D,Ez p l i _ (cQ _),kS]⟩ Z;rintro w ⟨b,y⟩ ⟨j,H,m,f,o⟩ F;dsimp only at H o⊢;subst H;refine aP (λI=>?_) λK=>?_
  ·have c:=br (O:j<l.length);have X:=VV G (rv r k bM) (rv r k c);refine ab.aA (λz=>z=gf p l i++lo p l i (j+1)) (λg q=>ag (d _ _ bM) (ag (d _ _ c) (ag X (eK (λe=>ag (cY ?_) (q _ ?_)) λe=>q _ ?_)))) λz s=>?_
   ·have t:=yZ p l i;have v:=EA p l i j;have E:i*l.length<=120*120:=nH O A;rw[o,dE,mS];omega
   ·rw[o,DB p l m,FW bM c,aY e,iy]
   ·rw[o,DB p l m,FW bM c,a1 e,kS]
   subst s;rw[be O];exact F _ ⟨j+1,Z,O,O,rfl⟩ Z
  have e:j=l.length:=O
  try rw[be O]
  exact R _ ⟨i+1,Z,O,by dsimp only;rw[o,e,Ey]⟩ Z
 have e:i=l.length:=O
 rw[D,e]
theorem zg(p:Prog)(l:List cx)(c:Int)(i:Nat):i' p l c (i+1)=if oP p l i=c then(i:Int) else i' p l c i:=rfl
theorem TS(t:7100<=n)(I:b6 p=true)(L:i<(bz p.parts).length):Ch n (gg p) (i:Int)=some (hX p (bz p.parts) i):=by
 have Q:=(eC I).2.2.2.2;have w: ∀x∈bz p.parts,gw p x:=λx R=>iP R;have A:=br L;have u:=rv I w A;have U:au (gg p).reads (i:Int)=some (rc p (bz p.parts)[i]):=bk (lf A);refine ab.eq ?_;unfold Ch hX;rw[Av A,U];generalize rc p (bz p.parts)[i]=d at*;have B:wr ((i:Int)-1)=(i:Int)-1:=be O;rw[B];refine ag rfl (ab.loop (λz:List Int×Int=> ∃k:Nat,z.2=k/\k<=d.length/\z.1=(d.take k).map λc=>i' p (bz p.parts) c i) (λz=>d.length-z.2.toNat) ?_ n _ ⟨0,rfl,O,rfl⟩ Z);rintro h ⟨a,z⟩ ⟨k,m,v,o⟩ W;dsimp only at m o⊢;subst m;refine aP (λX=>?_) λY=>ab.some ?_
 ·have bM:=br (O:k<d.length);refine ag (bk bM) ?_;have C: ∀y:Int,y=i' p (bz p.parts) d[k] i->ab (Option.bind (app a [y]) λD=>h (D,wr ((k:Int)+1))) (λx=>x=d.map λc=>i' p (bz p.parts) c i):=by
   intro y b;refine ag (cY (by rw[o,c5,cG,mS];omega)) ?_;rw[be O];exact W _ ⟨k+1,Z,O,by dsimp only;rw[zZ bM,o,b]⟩ Z
  refine ab.loop (λz:Int=> ∃s:Nat,z=(s:Int)-1/\s<=i/\i' p (bz p.parts) d[k] i=i' p (bz p.parts) d[k] s) (λz=>(z+1).toNat) ?_ n _ ⟨i,rfl,cQ _,rfl⟩ O;rintro r z ⟨s,rfl,E,l⟩ F;refine ab.aA (λz=>z=true/\(∃q,s=q+1/\oP p (bz p.parts) q≠d[k])\/z=false/\(s:Int)-1=i' p (bz p.parts) d[k] i) (λj G=>aP (λf=>?_) λf=>G _ (.inr ⟨rfl,?_⟩)) λz m=>?_
  ·obtain⟨q,rfl⟩: ∃q,s=q+1:=⟨s-1,O⟩
   have K:=br (O:q<(bz p.parts).length);have g:au (gg p).dy (((q+1:Nat):Int)-1)=some (oP p (bz p.parts) q):=by
    rw[show((q+1:Nat):Int)-1=(q:Int) by omega,vY K];exact bk (lf K)
   refine ag g ?_;by_cases e:oP p (bz p.parts) q=d[k]
   ·rw[bA e];refine G _ (.inr ⟨rfl,?_⟩);rw[l,zg,a1 e];omega
   rw[bx e];exact G _ (.inl ⟨rfl,q,rfl,e⟩)
  ·have:s=0:=O
   subst this;rw[l];rfl
  rcases m with ⟨rfl,q,rfl,H⟩|⟨rfl,m⟩
  ·refine bS ?_;rw[be O];exact F _ ⟨q,O,O,by rw[l,zg,aY H]⟩ O
  exact b3 (C _ m)
 have e:k=d.length:=O
 rw[o,e,c6]
theorem T7(B:7100<=n)(o:b6 p=true)(C:i<=(bz p.parts).length)(c:Int):DH n (l8 p) (i:Int) c=some (i' p (bz p.parts) c i):=by
 have r:=(eC o).2.2.2.2;have k: ∀(i:Nat) x,(bz p.parts)[i]? =some x->au (l8 p) (i:Int)=some ⟨rc p x,(dd p x:Int)⟩:=λi x h=>bk (lf h);refine ab.eq ?_;unfold DH;rw[be O];refine ab.loop (λz:Int=> ∃s:Nat,z=(s:Int)-1/\s<=i/\i' p (bz p.parts) c i=i' p (bz p.parts) c s) (λz=>(z+1).toNat) ?_ n _ ⟨i,rfl,cQ _,rfl⟩ O;rintro d z ⟨s,rfl,D,a⟩ l;refine aP (λw=>?_) λw=>ab.some ?_
 ·obtain⟨q,rfl⟩: ∃q,s=q+1:=⟨s-1,O⟩
  have m:=br (O:q<(bz p.parts).length);have y:=k _ _ m;have A:((q+1:Nat):Int)-1=(q:Int):=O
  rw[A];refine ag y (aP (λe=>ab.some ?_) λe=>?_)
  ·dsimp only at e;rw[a,zg,vY m,a1 e]
  dsimp only at e;rw[be O];exact l _ ⟨q,O,O,by rw[a,zg,vY m,aY e]⟩ O
 have:s=0:=O
 subst this;rw[a];rfl
theorem aaA{f:cx->Int}{w:Int}:decide (w∈l.map f)=l.any (λx=>decide (f x=w)):=by
 rw[fg,decide_eq_true_eq,eP,iz];constructor
 ·rintro⟨x,a,c⟩;exact⟨x,a,bA c⟩
 rintro⟨x,a,c⟩;exact⟨x,a,e8 c⟩
theorem KJ(p:Prog)(l:List cx)(j q:Nat)(h:l.length-1-j=q):kO p l (j+1)=if(kO p l j).getD q false=true\/me p l q=true then ks ((kO p l j).set q true) (hX p l q) else kO p l j:=by subst h;rfl
theorem Mg{k:Nat}{y:Int}(h:(hX p l q)[k]? =some y): -1<=y/\y<(q:Int):=by
 unfold hX at h;rw[ey] at h;cases a:(CM p l q)[k]? with
 |none=>rw[a] at h;cases h
 |some c=>rw[a] at h;cases h;exact N7 p l c q
theorem W4(Y:7100<=n)(H:b6 p=true):CJ n (gg p)=some (ki p (bz p.parts)):=by
 have b:=(eC H).2.2.2.2;have I: ∀x∈bz p.parts,gw p x:=λx t=>iP t;have K:=fun(i:Nat) h=>TS Y H (i:=i) h;have a:(gg p).dy.length=(bz p.parts).length:=by unfold gg;dsimp only;rw[c5]
 have w:(gg p).dy=(bz p.parts).map (λx=>(dd p x:Int)):=rfl;refine ab.eq ?_;unfold CJ;refine ag (OI (n:=((gg p).list.length:Int)) (x:=false) (by show _/\((bz p.parts).length:Int)<=_;omega)) ?_;rw[show((gg p).list.length:Int)=((bz p.parts).length:Int) from rfl,c3,a,be O];generalize V:bz p.parts=l at*;refine ab.loop (λz:List Bool×Int=> ∃j:Nat,z.2=(l.length:Int)-1-j/\j<=l.length/\z.1=kO p l j) (λz=>(z.2+1).toNat) ?_ n _ ⟨0,Z,O,rfl⟩ Z;rintro L ⟨f,z⟩ ⟨j,o,hj,D⟩ u;dsimp only at o D⊢;refine aP (λv=>?_) λv=>ab.some ?_
 ·obtain⟨q,E⟩: ∃q,l.length-1-j=q:=⟨_,rfl⟩
  have Q:z=(q:Int):=O
  subst Q;have A:q<l.length:=O
  have R:f.length=l.length:=by rw[D,sN]
  have bM:=br A;have s:=br (O:q<f.length);have U:f.getD q false=f[q]:=by rw[ez,s];rfl
  have c:=KJ p l j q E;rw[<-D] at c;refine ab.aA (λz=>z=kO p l (j+1)) (λxP B=>?_) λz o=>?_
  ·refine ab.aA (λz=>z= !decide (f.getD q false=true\/me p l q=true)) (λQg d=>ag (bk s) ?_) λz o=>?_
   ·rw[U] at d;cases a':f[q] with
    |true=>rw[a'] at d;exact b3 (d _ aV)
    |false=>
     rw[a'] at d;have W:au (gg p).dy (q:Int)=some (dd p l[q]:Int):=by rw[w];exact bk (lf bM)
     rw[be O];refine bS (ag (hR O O (by rw[a];omega)) (ag W (ag (DV ?_ ?_ _) (d _ ?_))))
     ·rw[fs,cG,a];omega
     ·rw[fs,cG,a];omega
     rw[show(((l.length:Nat):Int)).toNat=l.length by omega,<-a,c6,show(((q:Int)+1)).toNat=q+1 by omega,w,<-List.map_drop,aaA];unfold me;rw[vY bM];cases (List.drop (q+1) l).any (λx=>decide ((dd p x:Int)=(dd p l[q]:Int)))<;>simp
   subst o;by_cases F:f.getD q false=true\/me p l q=true
   ·rw[bA F];rw[a1 F] at c;refine b3 (ag (bk s) (ag (dK ⟨O,O⟩ true) (ag (K q A) ?_)));rw[c3];have M:(hX p l q).length<=12:=by unfold hX;rw[c5,Av bM];exact rv H I bM
    refine ab.loop (λz:List Bool×Int=> ∃k:Nat,z.2=k/\k<=(hX p l q).length/\z.1=ks (f.set q true) ((hX p l q).take k)) (λz=>(hX p l q).length-z.2.toNat) ?_ n _ ⟨0,rfl,O,rfl⟩ Z;rintro G ⟨g,z⟩ ⟨k,o,hk,m⟩ X;dsimp only at o m⊢;subst o;refine aP (λN=>?_) λP=>B _ ?_
    ·have r:=br (O:k<(hX p l q).length);have a':=Mg r;have S:g.length=l.length:=by rw[m,zY,eS,R]
     refine ab.aA (λz=>z=ks (f.set q true) ((hX p l q).take (k+1))) (λaha C=>ag (bk r) (aP (λe=>?_) λe=>C _ ?_)) λz o=>?_
     ·obtain⟨y,T,_⟩:=gy (l:=g) e O;refine ag T (ag (dK ⟨e,O⟩ true) (C _ ?_));rw[gp r,zy,a1 e,m]
     ·rw[gp r,zy,aY e,m]
     subst o;rw[be O];exact X _ ⟨k+1,Z,O,rfl⟩ Z
    have e:k=(hX p l q).length:=O
    rw[m,e,c6,c]
   rw[bx F];rw[aY F] at c;exact bS (B _ c.symm)
  subst o;rw[be O];exact u _ ⟨j+1,Z,O,rfl⟩ Z
 have e:j=l.length:=O
 rw[D,e]
def rC(p:Prog)(l:List cx)(q k:Nat):Bool:= !((l.take k).drop (q+1)).any λx=>decide ((dd p x:Int)=oP p l q)
theorem UD{k:Nat}(h:q<k)(a:l[k]? =some b):rC p l q (k+1)=(rC p l q k&& !decide ((dd p b:Int)=oP p l q)):=by have c:=(bR.1 a).1;unfold rC;rw[gp a,vE (by rw[cG];omega),tb];simp
theorem RD(cJ:7100<=n)(hp:lC p):Co n p=some (if b6 p=true then pI (ki p (bz p.parts)) else []):=by
 refine ab.eq ?_;unfold Co;refine ag (kv O hp) ?_;cases v:b6 p with
 |false=>exact ab.some rfl
 |true=>
  have BR:=(eC v).2.2.2.2;have N: ∀x∈bz p.parts,gw p x:=λx hx=>iP hx;have P:(l8 p).length=(bz p.parts).length:=by unfold l8;rw[c5]
  have r: ∀(i:Nat) x,(bz p.parts)[i]? =some x->au (l8 p) (i:Int)=some ⟨rc p x,(dd p x:Int)⟩:=λi x h=>bk (lf h);have S:=fun(i:Nat) h=>T7 cJ v (i:=i) h;refine b3 (ag (EV cJ v) ?_);rw[P,a1 rfl];generalize l8 p=u at*;generalize sg:bz p.parts=l at*;refine ag (OI (n:=(l.length:Int)) (x:=false) O) ?_;rw[c3,be O];refine ab.loop (λz:List Bool×Int=> ∃j:Nat,z.2=(l.length:Int)-1-j/\j<=l.length/\z.1=kO p l j) (λz=>(z.2+1).toNat) ?_ n _ ⟨0,Z,O,rfl⟩ Z;rintro C ⟨f,z⟩ ⟨j,a,hj,E⟩ b7;dsimp only at a E⊢;refine aP (λh0=>?_) λh0=>?_
  ·obtain⟨q,dj⟩: ∃q,l.length-1-j=q:=⟨_,rfl⟩
   have T:z=(q:Int):=O
   subst T;have V:q<l.length:=O
   have ada:f.length=l.length:=by rw[E,sN]
   have bM:=br V;have D:=br (O:q<f.length);have H:f.getD q false=f[q]:=by rw[ez,D];rfl
   have s:=KJ p l j q dj;rw[<-E] at s;have I: ∀y:Int,y=(q:Int)-1->ab (C (kO p l (j+1),y)) _:=λy hy=>b7 _ ⟨j+1,Z,O,rfl⟩ Z;have gI:wr ((q:Int)+1)=((q+1:Nat):Int):=by rw[be O];omega
   have ahs:wr ((q:Int)-1)=(q:Int)-1:=be O;rw[gI,ahs];refine ab.loop (λz:Bool×Int=> ∃k:Nat,z.2=k/\q<k/\k<=l.length/\z.1=rC p l q k) (λz=>l.length-z.2.toNat) ?_ n _ ⟨q+1,rfl,O,O,?_⟩ Z
   ·rintro M ⟨b,z⟩ ⟨k,a,adR,hk,a'⟩ BW;dsimp only at a a'⊢;subst a;refine aP (λhlt=>?_) λiN=>?_
    ·have m:=br (O:k<l.length);have K:=UD (p:=p) adR m;refine ab.aA (λz=>z=rC p l q (k+1)) (λQe A=>?_) λz a=>?_
     ·cases L:b with
      |false=>exact b3 (A _ (by rw[K,<-a',L];rfl))
      |true=>
       refine bS (ag (r _ _ m) (ag (r _ _ bM) (A _ ?_)));rw[K,<-a',L,vY bM];rfl
     subst a;rw[be O];exact BW _ ⟨k+1,Z,O,O,rfl⟩ Z
    have e:k=l.length:=O
    have Hv:b=me p l q:=by rw[a',e];unfold rC me;rw[c6]
    refine ab.aA (λz=>z=f.set q (f.getD q false||me p l q)) (λIh c=>ag (bk D) ?_) λz a=>?_
    ·rw[H] at c;cases Q:f[q] with
     |true=>
      rw[Q] at c;refine bS (ag (dK ⟨O,O⟩ true) (c _ ?_));rw[c3];rfl
     |false=>
      rw[Q] at c;refine b3 (ag (dK ⟨O,O⟩ b) (c _ ?_));rw[c3,Hv];rfl
    subst a;have hrl:=rv v N bM;by_cases G:f.getD q false=true\/me p l q=true
    ·rw[a1 G] at s;have F:(f.getD q false||me p l q)=true:=by rcases G with h|h<;>rw[h]<;>simp
     rw[F];have ad1:(hX p l q).length=(rc p l[q]).length:=by unfold hX;rw[c5,Av bM]
     refine ab.loop (λz:List Bool×Int=> ∃k:Nat,z.2=k/\k<=(rc p l[q]).length/\z.1=ks (f.set q true) ((hX p l q).take k)) (λz=>(rc p l[q]).length-z.2.toNat) ?_ n _ ⟨0,rfl,O,rfl⟩ Z;rintro w ⟨g,z⟩ ⟨k,a,hk,o⟩ R;dsimp only at a o⊢;subst a;have ags:g.length=l.length:=by rw[o,zY,eS,ada]
     have U:=br (O:q<g.length);have hgt:g[q]=true:=by
      have W:g.getD q false=true:=by
       rw[o,MW (by rw[eS];omega),FB,a1 ⟨rfl,O⟩];exact .inl rfl
      rwa [ez,U] at W
     refine ab.aA (λz=>z=decide (k<(rc p l[q]).length)) (λIi d=>ag (r _ _ bM) (aP (λe=>ag (bk U) (d _ ?_)) λe=>d _ ?_)) λz a=>?_
     ·dsimp only at e;rw[hgt,bA O]
     ·dsimp only at e;rw[bx O]
     subst a;refine aP (λe=>?_) λe=>?_
     ·have X:=br e;have m:(hX p l q)[k]? =some (i' p l (rc p l[q])[k] q):=by unfold hX;rw[Av bM];exact lf X
      have a':=Mg m;refine ab.aA (λz=>z=ks (f.set q true) ((hX p l q).take (k+1))) (λaha Y=>ag (r _ _ bM) (ag (bk X) (ag (S q O _) (aP (λe=>?_) λe=>Y _ ?_)))) λz a=>?_
      ·obtain⟨y,hy,_⟩:=gy (l:=g) e O;refine ag hy (ag (dK ⟨e,O⟩ true) (Y _ ?_));rw[gp m,zy,a1 e,o]
      ·rw[gp m,zy,aY e,o]
      subst a;rw[be O];exact R _ ⟨k+1,Z,O,rfl⟩ Z
     have e2:k=(hX p l q).length:=O
     rw[o,e2,c6,<-s];exact I _ rfl
    rw[aY G] at s;have F:(f.getD q false||me p l q)=false:=by
     cases W:f.getD q false with
     |true=>exact bB (.inl W) G
     |false=>
      cases h2:me p l q with
      |true=>exact bB (.inr h2) G
      |false=>rfl
    have B:f[q]=false:=by
     rw[<-H];cases W:f.getD q false with
     |true=>exact bB (.inl W) G
     |false=>rfl
    have t:f.set q false=f:=by
     have h:=List.set_getElem_self (as:=f) (i:=q) O
     rwa [B] at h
    rw[F,t];refine ab.loop (λz:List Bool×Int=>z=(f,0)) (λ_=>0) ?_ n _ rfl O;rintro w z rfl R;dsimp only;refine ab.aA (λz=>z=false) (λIi d=>ag (r _ _ bM) (ab.cond (λ_=>ag (bk D) (d _ B)) λ_=>d _ rfl)) λz a=>?_;subst a;refine b3 ?_;rw[<-s];exact I _ rfl
   dsimp only;unfold rC;rw[vx (by rw[cG];omega)];rfl
  have e:j=l.length:=O
  rw[E,e];exact ag (J8 (by rw[sN];omega) (by rw[sN];omega)) (ab.some rfl)
theorem FK(a:l.length<=120):(gf p l l.length).length<=15000:=by have c:=yZ p l l.length;have d:l.length*l.length<=120*120:=nH a a;omega
def kN{k:Type}(p:k->k->Bool):List k->List k->Bool
 | [],[]=>true
 |a::as,b::c=>p a b&&kN p as c
 |_,_=>false
theorem Fc{k:Type}{p:k->k->Bool}: ∀{a b:List k},kN p a b=true->a.length=b.length
 | [],[],_=>rfl
 |a::as,b::c,h=>by
  simp only[kN,Bool.and_eq_true] at h;simp[Fc h.2]
 | [],b::c,h=>by cases h
 |a::as,[],h=>by cases h
theorem Fh{f:k->k->Option Bool}{p:k->k->Bool}{a b:List k}(s: ∀x∈a,∀y∈b,f x y=some (p x y))(H:a.length<n)(I:a.length<=1000000):
  (bif !decide ((a.length:Int)=(b.length:Int)) then(some false) else(bp (λd (e:Int)=>bif decide (e<(a.length:Int)) then(Option.bind (au a e) λw=>Option.bind (au b e) λz=>Option.bind (f w z) λA=>bif !A then(some false) else(d (wr (e+1)))) else(some true)) n 0))=some (kN p a b):=by
 refine ab.eq (eK (λh=>ab.some ?_) λh=>?_)
 ·cases c:kN p a b with
  |false=>rfl
  |true=>exact bB (by rw[Fc c]) h
 refine ab.loop (λx:Int=> ∃i:Nat,x=i/\i<=a.length/\kN p (a.drop i) (b.drop i)=kN p a b) (λx=>a.length-x.toNat) ?_ n 0 ⟨0,rfl,O,rfl⟩ O;rintro l x ⟨i,rfl,K,c⟩ B;refine aP (λC=>?_) λD=>ab.some ?_
 ·have m:i<a.length:=O
  have o:i<b.length:=O
  have q:=br m;have a':=br o;refine ag (bk q) (ag (bk a') (ag (s _ (bE q) _ (bE a')) ?_));rw[lr m,lr o] at c;simp only[kN] at c;cases r:p a[i] b[i] with
  |false=>rw[r] at c;exact bS (ab.some c)
  |true=>
   rw[r,ff] at c;refine b3 ?_;rw[be O];exact B _ ⟨i+1,O,O,c⟩ O
 have F:a.drop i=[]:=kR O;have G:b.drop i=[]:=kR O;rw[F,G] at c;exact c
theorem Lt{a b:List Int}(D:a.length<n)(F:a.length<=1000000):
  (bif !decide ((a.length:Int)=(b.length:Int)) then(some false) else(bp (λc (d:Int)=>bif decide (d<(a.length:Int)) then(Option.bind (au a d) λp=>Option.bind (au b d) λq=>bif !decide (p=q) then(some false) else(c (wr (d+1)))) else(some true)) n 0))=some (decide (a=b)):=by
 refine ab.eq (eK (λh=>ab.some ?_) λh=>?_)
 ·exact(bx λe=>h (by rw[e])).symm
 refine ab.loop (λx:Int=> ∃i:Nat,x=i/\i<=a.length/\a.take i=b.take i) (λx=>a.length-x.toNat) ?_ n 0 ⟨0,rfl,O,rfl⟩ O;rintro k x ⟨i,rfl,G,l⟩ r;refine aP (λs=>?_) λw=>ab.some ?_
 ·have y:i<a.length:=O
  have z:i<b.length:=O
  have o:=br y;have a':=br z;refine ag (bk o) (ag (bk a') ?_);refine eK (λm=>ab.some ?_) λA=>?_
  ·exact(bx λe=>m (by subst e;rfl)).symm
  rw[be O];exact r _ ⟨i+1,O,O,by rw[gp o,gp a',l,A]⟩ O
 have B:a.take i=a:=hU O;have C:b.take i=b:=hU O;rw[B,C] at l;exact(bA l).symm
theorem SA{a b:List Int}(c:a.length<n)(d:a.length<=1000000):sD n a b=some (decide (a=b)):=by unfold sD;exact Lt c d
theorem Kr{a b:List Int}(c:a.length<n)(d:a.length<=1000000):wj n a b=some (decide (a=b)):=by unfold wj;exact Lt c d
theorem R8(k:5000<=n){a b:ay}(d:jA a):j3 n a b=some (tO a b):=by unfold jA at d;unfold j3 tO;have h:=SA (n:=n) (a:=a.aT) (b:=b.aT) O O;refine ab.eq (ab.aA (λz=>z=(decide (a.aT=b.aT)&&decide (a.const=b.const))) (λj c=>ag h (ab.cond (λe=>c _ (by rw[e];rfl)) λe=>c _ (by rw[e];rfl))) λz i=>ab.some i)
theorem Sh(k:5000<=n){a b:ay}(d:jA a):x9 n a b=some (tO a b):=by unfold jA at d;unfold x9 tO;have h:=Kr (n:=n) (a:=a.aT) (b:=b.aT) O O;refine ab.eq (ab.aA (λz=>z=(decide (a.aT=b.aT)&&decide (a.const=b.const))) (λj c=>ab.cond (λe=>ag h (c _ (by rw[e,Bool.and_true]))) λe=>c _ (by rw[e,jv])) λz i=>ab.some i)
theorem El: ∀a b:List ay,kN tO a b=pY a b
 | [],[]=>rfl
 |a::as,b::c=>by simp only[kN,pY,El as c]
 | [],b::c=>rfl
 |a::as,[]=>rfl
theorem JH(h:5000<=n){a b:List ay}(c:ku a):qg n a b (λd e=>j3 n d e)=some (pY a b):=by unfold qg;rw[<-El];exact Fh (f:=λd e=>j3 n d e) (λx i y _=>R8 h (c.2 x i)) (by have:=c.1;omega) (by have:=c.1;omega)
theorem JF(d:5000<=n){a b:List ay}(c:ku a):x8 n a b=some (pY a b):=by unfold x8;rw[<-El];exact Fh (f:=λe h=>x9 n e h) (λx i y _=>Sh d (c.2 x i)) (by have:=c.1;omega) (by have:=c.1;omega)
end
def uf(B:Nat)(l:List ay):Bool:=Nat.ble l.length B&&l.all λa=>Nat.ble a.aT.length B
def G7(B:Nat)(a:List Loop):Bool:=Nat.ble a.length B&&a.all λl=>uf B l.bf&&uf B l.aH
def xh(B:Nat):Nat->Expr->Bool
 |0,_=>false
 |L+1,e=>Nat.ble e.bm.length B&&(Nat.ble e.index.aT.length B&&(uf B e.read.bC&&e.bm.all (xh B L)))
def O9(B:Nat)(s:Stmt):Bool:=uf B s.write.bC&&xh B 5 s.value
def O7(B:Nat)(x:Part):Bool:=G7 B x.nest&&(Nat.ble x.body.length B&&x.body.all (O9 B))
def O8(B:Nat)(l:List ch):Bool:=Nat.ble l.length B&&l.all λx=>Nat.ble x.bT.length B
def G6(B:Nat)(p:Prog):Bool:=O8 B p.aR&&(Nat.ble p.parts.length B&&p.parts.all (O7 B))
variable {B:Nat}{l:List (List UInt8)}{s:List UInt8}{k:Int}{r:cB}
theorem Be{l:List ay}(h:uf B l=true):eR B l:=by simp only[uf,Bool.and_eq_true,List.all_eq_true] at h;exact⟨ea h.1,λa c=>ea (h.2 a c)⟩
theorem ab1{l:List Loop}(h:G7 B l=true):ko B l:=by simp only[G7,Bool.and_eq_true,List.all_eq_true] at h;exact⟨ea h.1,λa c=>⟨Be (h.2 a c).1,Be (h.2 a c).2⟩⟩
theorem OS{B:Nat}: ∀{L:Nat} {e:Expr},xh B L e=true->ia B L e
 |0,e,h=>by simp[xh] at h
 |L+1,e,h=>by simp only[xh,Bool.and_eq_true,List.all_eq_true] at h;exact⟨ea h.1,ea h.2.1,Be h.2.2.1,λk a=>OS (h.2.2.2 k a)⟩
theorem ab2{p:Prog}(h:G6 B p=true):da B p:=by simp only[G6,O8,O7,O9,Bool.and_eq_true,List.all_eq_true] at h;exact⟨⟨ea h.1.1,λa e=>ea (h.1.2 a e)⟩,ea h.2.1,λx c=>⟨ab1 (h.2.2 x c).1,ea (h.2.2 x c).2.1,λs d=>⟨Be ((h.2.2 x c).2.2 s d).1,OS ((h.2.2 x c).2.2 s d).2⟩⟩⟩
def GN(a t:List UInt8):Bool:=match cat a t with
 |some x=>match r9 N x with
  |some (p,_)=>G6 10 p
  |none=>false
 |none=>false
theorem Ys{t:List UInt8}(h:l.all (GN s)=true)(d:t∈l): ∃x q,cat s t=some x/\r9 N x=some q/\da 10 q.1:=by
 have h:=fB.1 h t d;unfold GN at h;cases c:cat s t with
 |none=>rw[c] at h;cases h
 |some x=>
  rw[c] at h;dsimp only at h;cases a:r9 N x with
  |none=>rw[a] at h;cases h
  |some q=>rw[a] at h;exact⟨x,q,rfl,a,ab2 h⟩
theorem Nb{R:Type}(e:cO k r)(i:k<=1000000000)(m:l≠[])(h:l.all (GN s)=true){K:List UInt8×cB->List UInt8->Prog×Bool->Option R}{Q:R->Prop}
  (n: ∀a c d,cO (k+1) a.2->da 10 d.1->ab (K a c d) Q):ab (Option.bind (pq N r l) λa=>Option.bind (cat s a.1) λc=>Option.bind (r9 N c) λd=>K a c d) Q:=by refine cb (Bt N e i m) λa ⟨o,p⟩=>?_;obtain⟨x,q,w,y,z⟩:=Ys h o;exact ag w (ag y (n _ _ _ p z))
theorem Xz(e:cO k r)(n:0<=k/\k<=900000):ab (zU N r) (λx=>da 10 x.1/\cO (k+210000) x.2):=by
 unfold zU;refine Nb e O aV J λo p q a h=>?_;refine ab.aA (λz=>cO (k+2) ⟨z.1,z.2.1⟩) (λj c=>?_) λz d=>?_
 ·exact ab.cond (λ_=>cb (jn N a O) λs ⟨_,_,i⟩=>c _ (i.mono O)) λ_=>c _ (a.mono O)
 exact ab.cond (λ_=>ab.some ⟨h,d.mono O⟩) λ_=>cb (XB d O) λw ⟨l,m⟩=>ab.some ⟨l,m.mono O⟩
theorem VC(e:cO k r)(n:0<=k/\k<=800000):ab (zo N r) (λx=>da 10 x.1/\cO (k+220000) x.2):=by
 unfold zo;refine Nb e O aV J λo p q a h=>?_;refine ab.aA (λz=>cO (k+2) ⟨z.1,z.2.1⟩) (λj c=>?_) λz d=>?_
 ·exact ab.cond (λ_=>cb (jn N a O) λs ⟨_,_,i⟩=>c _ (i.mono O)) λ_=>c _ (a.mono O)
 exact ab.cond (λ_=>ab.some ⟨h,d.mono O⟩) λ_=>cb (Xz d O) λw ⟨l,m⟩=>ab.some ⟨l,m.mono O⟩
end Go.Lift
