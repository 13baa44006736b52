/- Tools. -/
import Derived.Test.YteifkndfpnkalacGreatQLawDraw
set_option maxRecDepth 100000
set_option linter.unusedVariables false
namespace Go.Lift
open Go
open Option renaming some -> aa, bind -> bL
open Bool renaming true -> ab, false -> ak, and_eq_true -> b5
open Decidable renaming decide -> ah
open List renaming all_eq_true -> g', replicate -> dq, range -> fp
open Nat renaming ble -> cY
section
variable {n i q k:Nat}{a x b:bU}{p:Prog}{m o:List Int}{l:List bU}{c:Int}{R:Type}
theorem VV(l:5000<=n){a:List Int}(h:a.length<=1000):vW n a a=aa ab:=by refine ad.eq ?_;unfold vW;refine eO (λh=>bz rfl h) λ_=>?_;refine ad.loop (λx:Int=>0<=x/\x<=a.length) (λx=>(a.length-x).toNat) ?_ n 0 ⟨O,O⟩ O;rintro c x ⟨i,m⟩ k;refine aU (λd=>?_) λ_=>ad.some rfl;obtain⟨y,e,_⟩:=gk i d;refine ai e (ai e (eO (λh=>bz rfl h) λ_=>?_));rw[bh O];exact k _ ⟨O,O⟩ O
def f'(k:Nat)(x:bU):bU:=⟨x.part+(k:Int),x.stmt,x.b2⟩
theorem ags(k i:Nat)(x:Part):eV (k+i) x=(eV i x).map (f' k):=by
 unfold eV;rw[nO];congr 1;funext q;rw[j3];congr 1;funext m;simp only[Function.comp,f',Int.natCast_add]
 grind
theorem xH(a b:List Part):I (a++b)=I a++(I b).map (f' a.length):=by unfold I;rw[List.zipIdx_append,l8,nO,eg];congr 1;have e:b.zipIdx a.length=b.zipIdx.map (λy=>(y.1,a.length+y.2)):=List.zipIdx_eq_map_add;rw[e,vC];congr 1;funext y;exact ags a.length y.2 y.1
theorem y9{R a:Type}{f g:a->R->a}: ∀{l:List R} {b:a},(∀x∈l,∀b,f b x=g b x)->l.foldl f b=l.foldl g b
 | [],_,_=>rfl
 |x::l,b,h=>by simp only[List.foldl_cons];rw[h x aW b];exact y9 λy c=>h y (by simp[c])
theorem iF(p:Prog)(m:List Int)(a b:List bU):c7 p m (a++b)=c7 p (c7 p m a) b:=by unfold c7;rw[List.foldl_append]
theorem abv(h:bt p=ab)(a:fv p.aV m):o' p m=ab:=by simp only[o',b5,decide_eq_true_eq,g'];exact⟨h,a.1,a.2⟩
theorem Ow(h:bt p=ab)(a:fv p.aV m):m.length<=1000:=by
 obtain⟨d,c,_⟩:=ev h
 have:=NL c
 have:=a.1;omega
def uM:List Loop->List Int->List Int->Bool
 | [],_,[]=>ab
 |l::bH,p,v::a=>decide (c3 l p<=v/\v<dG l p)&&uM bH (p++[v]) a
 |_,_,_=>ak
theorem AJ: ∀(bH:List Loop) (p q:List Int),q∈dE bH p↔ ∃a,q=p++a/\uM bH p a=ab
 | [],p,q=>by
  simp only[dE,List.mem_singleton];constructor
  ·rintro rfl;exact⟨[],aW,rfl⟩
  rintro⟨a,rfl,h⟩;cases a with
  |nil=>simp
  |cons=>simp[uM] at h
 |l::bH,p,q=>by
  simp only[dE,List.mem_flatMap,Od];constructor
  ·rintro⟨v,c,d⟩;obtain⟨a,rfl,h⟩:=(AJ bH (p++[v]) q).1 d;exact⟨v::a,aW,by simp[uM,c,h]⟩
  rintro⟨a,rfl,h⟩;cases a with
  |nil=>simp[uM] at h
  |cons v a=>
   simp only[uM,b5,decide_eq_true_eq] at h;exact⟨v,h.1,(AJ bH (p++[v]) _).2 ⟨a,aW,h.2⟩⟩
theorem gC{a:Type}{l:List a}{x:a}(h:l[i]? =aa x):l.take (i+1)=l.take i++[x]:=by rw[ej,h];rfl
def cT(p:Prog)(x:bU):Nat:=match fZ p x with
 |some s=>(dU p.aV s.write x.b2 0).toNat
 |none=>0
def rc(p:Prog)(x:bU):List Int:=match fZ p x with
 |some s=>(dx 5 s.value).map (λa=>dU p.aV a x.b2 0)
 |none=>[]
def tf(p:Prog)(m:List Int)(x:bU):Int:=match fZ p x with
 |some s=>et 5 p.aV m s.value x.b2
 |none=>0
theorem N6{list:List ca}(c:jV list){a:b0}{q:List Int}(h:0<=dU list a q 0):dU list a q 0<gj list:=by rcases AQ c a q 0 (fM 0) with bN|bN<;>omega
theorem ll(e:bt p=ab)(o:dm p x):(cT p x:Int)<gj p.aV/\(∀c∈rc p x,0<=c/\c<gj p.aV)/\(rc p x).length<=12/\ ∀m,ey p m x=m.set (cT p x) (tf p m x):=by obtain⟨i,k,P,s,d,F,G,H,K,q,r,L,w⟩:=pC e o;obtain⟨Q,h,R,y,z⟩:=ev e;obtain⟨A,l⟩:=AP w;obtain⟨W,X,Z,B⟩:=ig r;unfold cT rc tf ey;rw[q];dsimp only;refine⟨by have:=N6 h A;omega,λc C=>?_,by rw[dz];exact B,λm=>rfl⟩;obtain⟨a,n,rfl⟩:=eo.1 C;exact⟨l a n,N6 h (l a n)⟩
theorem Uy(v:7100<=n)(m:bt p=ab)(A:dm p x):B5 n p x=aa (rc p x,(cT p x:Int)):=by
 obtain⟨i,k,P,s,d,B,C,F,G,o,H,q,K⟩:=pC m A;obtain⟨r,w,D,L,Q⟩:=ev m;obtain⟨E,I⟩:=AP K;obtain⟨W,X,Z,M⟩:=ig H;obtain⟨n,rfl⟩: ∃j,n=j+1:=⟨n-1,O⟩
 have h:sd (n+1) p x=aa s:=by
  unfold sd;rw[B,C,bq F];show bL (az P.body (k:Int)) _=_;rw[bq G];rfl
 have b:(cT p x:Int)=dU p.aV s.write x.b2 0:=by unfold cT;rw[o];dsimp only;omega
 have f:rc p x=(dx 5 s.value).map (λa=>dU p.aV a x.b2 0):=by unfold rc;rw[o]
 rw[b,f];refine ad.eq ?_;unfold B5;refine ai h (ai (Er (d:=d) 5 n s.value O O X) ?_);generalize N:dx 5 s.value=R at*;refine ad.loop (λz:List Int×Int=> ∃i:Nat,z.2=i/\i<=R.length/\z.1=(R.take i).map λa=>dU p.aV a x.b2 0) (λz=>R.length-z.2.toNat) ?_ (n+1) _ ⟨0,rfl,O,aW⟩ J;rintro l ⟨out,z⟩ ⟨i,y,S,c⟩ g;dsimp only at y c⊢;subst y;refine aU (λt=>?_) λu=>?_
 ·have bG:=bo (O:i<R.length);refine ai (bq bG) (ai (vt O r w (Z _ (bJ bG)) q) (ai (cU (by rw[c,dz,dr,nK];omega)) ?_));rw[bh O];refine g _ ⟨i+1,J,O,?_⟩ J;dsimp only;rw[gC bG,eZ,c];rfl
 have e:i=R.length:=O
 refine ai (vt O r w W q) (ad.some ?_);rw[c,e,dF]
theorem Yw(H:7100<=n)(c:bt p=ab)(l:dm p x): ∃P s,az p.parts x.part=aa P/\az P.body x.stmt=aa s/\vm n p.aV s x.b2=aa (rc p x,(cT p x:Int),ab):=by
 obtain⟨i,k,P,s,d,m,o,q,r,e,w,y,h⟩:=pC c l;obtain⟨z,A,K,B,C⟩:=ev c;obtain⟨L,Q⟩:=AP h;have F:(cT p x:Int)=dU p.aV s.write x.b2 0:=by unfold cT;rw[e];dsimp only;omega
 have G:rc p x=(dx 5 s.value).map (λa=>dU p.aV a x.b2 0):=by unfold rc;rw[e]
 refine⟨P,s,by rw[m];exact bq q,by rw[o];exact bq r,?_⟩;rw[JR O z A w y,aX h,F,G]
theorem Lj{r:List ca}{m l:List Int}{q:List Int}{d:Int}: ∀{L:Nat} {e:Expr},dd L e d=ab->(∀a∈dx L e,m.getD (dU r a q 0).toNat 0=l.getD (dU r a q 0).toNat 0)->et L r m e q=et L r l e q
 |0,e,h,_=>by cases h
 |L+1,e,h,n=>by
  obtain⟨w,x,p⟩:=fQ h;simp only[et];split
  ·rfl
  split
  ·rfl
  split
  ·rename_i dW;exact n _ (by simp[dx,dW])
  have i: ∀c∈e.bk,et L r m c q=et L r l c q:=λc o=>
   Lj (p c o) λa s=>n a (by simp only[dx,List.mem_append,List.mem_flatMap];exact .inr ⟨c,o,s⟩)
  split
  ·rename_i a b k;rw[k] at i;rw[i a aW,i b aW]
  rfl
theorem NH(e:bt p=ab)(l:dm p x){m':List Int}(h: ∀c∈rc p x,m.getD c.toNat 0=m'.getD c.toNat 0):tf p m x=tf p m' x:=by obtain⟨i,k,P,s,d,r,w,y,z,n,o,A,B⟩:=pC e l;unfold tf;unfold rc at h;rw[n] at h⊢;exact Lj (ig o).2.1 λa q=>h _ (C8 q)
theorem s3{a:Type}(l:List a)(i j:Nat)(x d:a):(l.set i x).getD j d=if i=j/\i<l.length then x else l.getD j d:=by
 rw[eB,eB,List.getElem?_set];split
 ·rename_i h;subst h;split
  ·rename_i c;rw[aX ⟨rfl,c⟩];rfl
  rename_i c;rw[aY O,tb O]
 rename_i h;rw[aY λc=>h c.1]
theorem Zm{a b:List Int}(h:a.length=b.length)(e: ∀c,c<a.length->a.getD c 0=b.getD c 0):a=b:=by
 refine List.ext_getElem h λi d k=>?_
 have:=e i d;rw[eB,eB,bo d,bo k] at this;exact this
theorem AF{p:Prog}(a:bt p=ab): ∀{l:List bU} {m:List Int},(∀x∈l,dm p x)->(c7 p m l).length=m.length
 | [],m,_=>rfl
 |x::l,m,h=>by show(c7 p (ey p m x) l).length=_;rw[AF a (λy c=>h y (by simp[c])),(ll a (h x aW)).2.2.2,e7]
def l1(l:List Bool):List Int:=((fp l.length).filter λi=>l.getD i ak).map (fun(i:Nat)=>(i:Int))
theorem V3{l:List Bool}(s:l.length<n)(m:l.length<=1000):uZ n l=aa (l1 l):=by
 refine ad.eq ?_;unfold uZ;refine ad.loop (λz:List Int×Int=> ∃i:Nat,z.2=i/\i<=l.length/\z.1.length<=i/\z.1=((fp i).filter λi=>l.getD i ak).map (fun(i:Nat)=>(i:Int))) (λz=>l.length-z.2.toNat) ?_ n _ ⟨0,rfl,O,aW,aW⟩ J;rintro d ⟨out,z⟩ ⟨i,a,w,ns,c⟩ o;dsimp only at a c ns⊢;subst a;refine aU (λp=>?_) λq=>ad.some ?_
 ·have bG:=bo (O:i<l.length);have r:l.getD i ak=l[i]:=by rw[eB,bG];rfl
  refine ad.aE (λz=>z.length<=i+1/\z=((fp (i+1)).filter λi=>l.getD i ak).map (fun(i:Nat)=>(i:Int))) (λj k=>ai (bq bG) (ad.cond (λh=>ai (cU (by rw[nK];omega)) (k _ ?_)) λh=>k _ ?_)) λz a=>?_
  ·refine⟨by rw[dp,nK];omega,?_⟩;rw[mT,ma,eZ,<-c];simp[bG,h]
  ·refine⟨O,?_⟩;rw[mT,ma,eZ,<-c];simp[bG,h]
  rw[bh O];exact o _ ⟨i+1,J,O,a.1,a.2⟩ J
 have e:i=l.length:=O
 rw[c,e];rfl
theorem JU{l:List Bool}(c:l.length<n)(a:l.length<=1000):uZ n l=aa (l1 l):=V3 c a
theorem Kb(l:List Bool):(l1 l).length<=l.length:=by unfold l1;rw[dz];exact hA (C6 _ _) aW
theorem D1{l:List Bool}:c∈l1 l↔0<=c/\l.getD c.toNat ak=ab:=by
 unfold l1;simp only[List.mem_map,List.mem_filter,List.mem_range];constructor
 ·rintro⟨i,⟨e,a⟩,rfl⟩;exact⟨O,by rw[c'];exact a⟩
 rintro⟨e,a⟩;refine⟨c.toNat,⟨?_,a⟩,O⟩;refine vB λd=>?_;rw[eB,tb d] at a;cases a
theorem Vd(c:7000<=n)(d:fP p): ∃L,r6 n p=aa (L,bt p)/\(bt p=ab->L=I p.parts):=by
 rw[II c d];cases a:jk p with
 |false=>
  refine⟨[],?_,λh=>?_⟩
  ·rw[aY aW,show bt p=ak by unfold bt;rw[a];rfl]
  unfold bt at h;rw[a] at h;cases h
 |true=>
  refine⟨I p.parts,?_,λ_=>rfl⟩;rw[aX rfl,show bt p=ah ((I p.parts).length<=120) by
   unfold bt;rw[a,Bool.true_and];exact decide_eq_decide.2 (by have:=xI p.parts;omega)]
abbrev iT(p:Prog):Nat:=(gj p.aV).toNat
theorem PB{a:Type}{n:Int}(h:0<=n/\n<=1000000000)(x:a):mk n x=aa (dq n.toNat x):=by unfold mk;rw[aX h]
def pick(l:List bU)(o:List Int):List bU:=o.filterMap λc=>l[c.toNat]?
theorem EX(h:l[c.toNat]? =aa x):pick l (o++[c])=pick l o++[x]:=by unfold pick;rw[List.filterMap_append];simp[h]
theorem MG(h:x∈pick l o):x∈l:=by
 unfold pick at h
 grind
def nZ(p:Prog)(a b:bU):Prop:=(cT p a:Int)∈rc p b\/(cT p b:Int)∈rc p a\/cT p a=cT p b
def pj(p:Prog)(a b:bU):Prop:= ∀m,fv p.aV m->ey p (ey p m a) b=ey p (ey p m b) a
theorem OG(a:bt p=ab)(d:dm p b){w:Nat}(h:(w:Int)∉rc p b)(m:List Int)(v:Int):tf p (m.set w v) b=tf p m b:=by
 refine NH a d λc e=>?_;have i:=(ll a d).2.1 c e
 grind
theorem swap(c:bt p=ab)(d:dm p a)(i:dm p b)(h: ¬nZ p a b):pj p a b:=by intro m _;have n:(cT p a:Int)∉rc p b:=λe=>h (.inl e);have o:(cT p b:Int)∉rc p a:=λe=>h (.inr (.inl e));have q:cT p a≠cT p b:=λe=>h (.inr (.inr e));have k:=(ll c d).2.2.2;have l:=(ll c i).2.2.2;rw[k,l,l,k,OG c i n,OG c d o,List.set_comm _ _ q]
def lv(p:Prog)(a b:bU):Int:=(if(cT p a:Int)∈rc p b then 1 else 0)+(if(cT p b:Int)∈rc p a then 2 else 0)+(if cT p a=cT p b then 4 else 0)
theorem acR(p:Prog)(a b:bU):0<=lv p a b/\lv p a b<=7:=by
 unfold lv
 grind
theorem X7(h:lv p a b=0): ¬nZ p a b:=by
 unfold lv at h;rintro(e|e|e)
 ·rw[aX e] at h
  grind
 ·rw[aX e] at h
  grind
 rw[aX e] at h
 grind
def lX(p:Prog)(l:List bU)(i k:Nat):Int:=match l[i]?,l[k]? with
 |some a,aa b=>lv p a b
 |_,_=>0
theorem tw(c:l[i]? =aa a)(d:l[k]? =aa b):lX p l i k=lv p a b:=by unfold lX;rw[c,d]
theorem adO(p:Prog)(l:List bU)(i k:Nat):0<=lX p l i k/\lX p l i k<=7:=by
 unfold lX;split
 ·exact acR _ _ _
 omega
def lp(p:Prog)(l:List bU)(i j:Nat):List gg:=((fp j).filter λk=>decide (i<k)&&ah (lX p l i k≠0)).map (fun(k:Nat)=>(⟨(i:Int),(k:Int),lX p l i k⟩:gg))
def gH(p:Prog)(l:List bU)(n:Nat):List gg:=(fp n).flatMap λi=>lp p l i l.length
theorem Dq(p:Prog)(l:List bU){j:Nat}(h:i<j):lp p l i (j+1)=lp p l i j++(if lX p l i j=0 then [] else [⟨(i:Int),(j:Int),lX p l i j⟩]):=by
 unfold lp;rw[mT,ma,eZ]
 grind
theorem Ev(p:Prog)(l:List bU)(i:Nat): ∀j,j<=i+1->lp p l i j=[]
 |0,_=>rfl
 |j+1,h=>by have a:=Ev p l i j O;unfold lp at a⊢;rw[mT,ma,eZ,a];simp[show¬i<j by omega]
theorem Eu(p:Prog)(l:List bU)(n:Nat):gH p l (n+1)=gH p l n++lp p l n l.length:=by unfold gH;rw[mT,l8];simp
theorem Ew(p:Prog)(l:List bU)(i j:Nat):(lp p l i j).length<=j:=by
 unfold lp
 grind
theorem y1(p:Prog)(l:List bU): ∀n,(gH p l n).length<=n*l.length
 |0=>by simp[gH]
 |n+1=>by
  rw[Eu,dp,fc,Nat.one_mul]
  have:=y1 p l n
  have:=Ew p l n l.length;omega
theorem wo{d:gg}:d∈gH p l l.length↔ ∃i k:Nat,i<k/\k<l.length/\lX p l i k≠0/\d=⟨(i:Int),(k:Int),lX p l i k⟩:=by
 unfold gH lp;simp only[List.mem_flatMap,List.mem_range,List.mem_map,List.mem_filter,b5,decide_eq_true_eq]
 grind
def places(o:List Int):Nat->List Int
 |0=>dq o.length 0
 |k+1=>(places o k).set (o.getD k 0).toNat (k:Int)
theorem Z6(r:bt p=ab)(o: ∀x∈l,dm p x)(i k:Nat)(a b:bU)(c:i<k)(q:l[i]? =aa a)(n:l[k]? =aa b)(h: ∀d∈gH p l l.length,¬(d.1=(i:Int)/\d.2=(k:Int))):pj p b a:=by
 by_cases e:lX p l i k=0
 ·rw[tw q n] at e;have hs:=swap r (o _ (bJ q)) (o _ (bJ n)) (X7 e);exact λm s=>(hs m s).symm
 exact bz ⟨rfl,rfl⟩ (h _ (wo.2 ⟨i,k,c,(bX.1 n).1,e,rfl⟩))
def iW(p:Prog)(l:List bU)(i:Nat):Int:=match l[i]? with
 |some a=>(cT p a:Int)
 |none=> -1
def vi(p:Prog)(l:List bU)(i:Nat):List Int:=match l[i]? with
 |some a=>rc p a
 |none=>[]
theorem q0(h:l[i]? =aa a):iW p l i=(cT p a:Int):=by unfold iW;rw[h]
theorem wj(h:l[i]? =aa a):vi p l i=rc p a:=by unfold vi;rw[h]
def gX(p:Prog)(l:List bU)(c:Int):Nat->Int
 |0=> -1
 |i+1=>if iW p l i=c then(i:Int) else gX p l c i
theorem OR(p:Prog)(l:List bU)(c:Int): ∀i,-1<=gX p l c i/\gX p l c i<(i:Int)
 |0=>by simp[gX]
 |i+1=>by have:=OR p l c i;unfold gX;split<;>omega
theorem OQ{p:Prog}{l:List bU}{c:Int}: ∀{i s:Nat},gX p l c i=(s:Int)->iW p l s=c/\s<i/\ ∀t,s<t->t<i->iW p l t≠c
 |0,s,h=>by simp[gX] at h
 |i+1,s,h=>by
  unfold gX at h;split at h
  ·rename_i e
   have:i=s:=O
   subst this;exact⟨e,O,λt d k=>O⟩
  rename_i e;obtain⟨d,k,m⟩:=OQ h;refine⟨d,O,λt n o=>?_⟩;by_cases a:t=i
  ·rw[a];exact e
  exact m t n O
theorem NA{p:Prog}{l:List bU}{c:Int}{s:Nat}: ∀{i:Nat},iW p l s=c->s<i->(∀t,s<t->t<i->iW p l t≠c)->gX p l c i=(s:Int)
 |0,_,h,_=>bz h (p4 _)
 |i+1,d,m,k=>by
  unfold gX;by_cases e:s=i
  ·subst e;rw[aX d]
  rw[aY (k i O O)];exact NA d O λt a b=>k t a O
def j0(p:Prog)(l:List bU)(i:Nat):Bool:= !(l.drop (i+1)).any λx=>decide ((cT p x:Int)=iW p l i)
theorem X2(n:i<l.length):j0 p l i=ab↔ ∀t,i<t->t<l.length->iW p l t≠iW p l i:=by
 unfold j0;rw[Bool.not_eq_true',List.any_eq_false];constructor
 ·intro h t o a e;have c:(l.drop (i+1))[t-(i+1)]? =aa l[t]:=by
   grind
  refine h _ (bJ c) ?_;rw[q0 (bo a)] at e
  grind
 intro h x d q;obtain⟨k,m,rfl⟩:=List.getElem_of_mem d;rw[im] at m;refine h (i+1+k) O O ?_;rw[q0 (bo (O:i+1+k<l.length))]
 grind
def j'(f:List Bool)(a:List Int):List Bool:=a.foldl (λf s=>if 0<=s then f.set s.toNat ab else f) f
theorem zR: ∀(a:List Int) (f:List Bool),(j' f a).length=f.length
 | [],f=>rfl
 |s::a,f=>by
  show(j' (if 0<=s then f.set s.toNat ab else f) a).length=_;rw[zR];split
  ·rw[e7]
  rfl
theorem zC(f:List Bool)(a:List Int)(s:Int):j' f (a++[s])=if 0<=s then(j' f a).set s.toNat ab else j' f a:=by unfold j';rw[List.foldl_append];rfl
theorem Fj{i:Nat}: ∀{a:List Int} {f:List Bool},i<f.length->((j' f a).getD i ak=ab↔f.getD i ak=ab\/(i:Int)∈a)
 | [],f,_=>by simp[j']
 |s::a,f,h=>by
  show(j' (if 0<=s then f.set s.toNat ab else f) a).getD i ak=ab↔_;rw[Fj (by split;rw[e7];exact h;exact h),ef];by_cases c:0<=s
  ·rw[aX c,s3];by_cases e:s.toNat=i
   ·rw[aX ⟨e,O⟩];simp[show(i:Int)=s by omega]
   rw[aY λd=>e d.1]
   have: ¬(i:Int)=s:=O
   simp[this]
  rw[aY c]
  have: ¬(i:Int)=s:=O
  simp[this]
def gd(p:Prog)(l:List bU)(i:Nat):List Int:=(vi p l i).map λc=>gX p l c i
def fT(p:Prog)(l:List bU):Nat->List Bool
 |0=>dq l.length ak
 |j+1=>if(fT p l j).getD (l.length-1-j) ak=ab\/j0 p l (l.length-1-j)=ab then j' ((fT p l j).set (l.length-1-j) ab) (gd p l (l.length-1-j)) else fT p l j
theorem pK(p:Prog)(l:List bU): ∀j,(fT p l j).length=l.length
 |0=>by simp[fT]
 |j+1=>by
  unfold fT;split
  ·rw[zR,e7,pK p l j]
  exact pK p l j
theorem Mo:(i:Int)∈gd p l k↔ ∃c∈vi p l k,gX p l c k=(i:Int):=by unfold gd;rw[List.mem_map]
theorem abH(h:(i:Int)∈gd p l k):i<k:=by obtain⟨c,_,h⟩:=Mo.1 h;exact(OQ h).2.1
theorem LG(p:Prog)(l:List bU): ∀j,j<=l.length-> ∀i,i<l.length->((fT p l j).getD i ak=ab↔(l.length-j<=i/\j0 p l i=ab)\/ ∃k,l.length-j<=k/\k<l.length/\(fT p l j).getD k ak=ab/\(i:Int)∈gd p l k)
 |0,_,i,n=>by
  have y:(fT p l 0).getD i ak=ak:=by
   unfold fT;rw[List.getD_eq_getElem?_getD,List.getElem?_replicate];split<;>rfl
  rw[y];constructor
  ·intro h;cases h
  rintro(⟨h,_⟩|⟨k,c,a,_⟩)<;>omega
 |j+1,C,i,n=>by
  have o:=LG p l j O;obtain⟨q,x⟩: ∃q,l.length-1-j=q:=⟨_,rfl⟩
  have z:l.length-j=q+1:=O
  have A:l.length-(j+1)=q:=O
  rw[z] at o;rw[A];have w:q<(fT p l j).length:=by rw[pK];omega
  by_cases r:(fT p l j).getD q ak=ab\/j0 p l q=ab
  ·have cw:fT p l (j+1)=j' ((fT p l j).set q ab) (gd p l q):=by
    conv=>lhs;unfold fT
    rw[x,aX r]
   have get: ∀t,t<l.length->((fT p l (j+1)).getD t ak=ab↔(t=q\/(fT p l j).getD t ak=ab)\/(t:Int)∈gd p l q):=λt B=>by
    rw[cw,Fj (by rw[e7,pK];exact B),s3];by_cases e:q=t
    ·subst e;rw[aX ⟨rfl,w⟩];simp
    rw[aY λh=>e h.1]
    have: ¬t=q:=λh=>e h.symm;simp[this]
   rw[get i n];constructor
   ·rintro((rfl|h)|h)
    ·rcases r with h|h
     ·rcases(o i n).1 h with ⟨c,_⟩|⟨k,c,a,d,m⟩
      ·omega
      exact .inr ⟨k,O,a,(get k a).2 (.inl (.inr d)),m⟩
     exact .inl ⟨cV _,h⟩
    ·rcases(o i n).1 h with ⟨c,a⟩|⟨k,c,a,d,m⟩
     ·exact .inl ⟨O,a⟩
     exact .inr ⟨k,O,a,(get k a).2 (.inl (.inr d)),m⟩
    exact .inr ⟨q,cV _,O,(get q O).2 (.inl (.inl rfl)),h⟩
   rintro(⟨c,a⟩|⟨k,c,a,d,m⟩)
   ·by_cases e:i=q
    ·exact .inl (.inl e)
    exact .inl (.inr ((o i n).2 (.inl ⟨O,a⟩)))
   by_cases e:k=q
   ·subst e;exact .inr m
   rcases(get k a).1 d with (s|s)|s
   ·exact bz s e
   ·exact .inl (.inr ((o i n).2 (.inr ⟨k,O,a,s,m⟩)))
   have:=abH s;omega
  have cw:fT p l (j+1)=fT p l j:=by
   conv=>lhs;unfold fT
   rw[x,aY r]
  rw[cw,o i n];constructor
  ·rintro(⟨c,a⟩|⟨k,c,a,d,m⟩)
   ·exact .inl ⟨O,a⟩
   exact .inr ⟨k,O,a,d,m⟩
  rintro(⟨c,a⟩|⟨k,c,a,d,m⟩)
  ·by_cases e:i=q
   ·subst e;exact bz (.inr a) r
   exact .inl ⟨O,a⟩
  by_cases e:k=q
  ·subst e;exact bz (.inl d) r
  exact .inr ⟨k,O,a,d,m⟩
abbrev hg(p:Prog)(l:List bU):List Bool:=fT p l l.length
theorem Zl(a:i<l.length):(hg p l).getD i ak=ab↔j0 p l i=ab\/ ∃k,k<l.length/\(hg p l).getD k ak=ab/\(i:Int)∈gd p l k:=by
 have:=LG p l l.length (cV _) i a
 grind
def G8(p:Prog)(l:List bU)(k c:Nat):Prop:=(∃j,k<=j/\j<l.length/\(hg p l).getD j ak=ab/\(c:Int)∈vi p l j/\ ∀t,k<=t->t<j->iW p l t≠(c:Int))\/(∀t,k<=t->t<l.length->iW p l t≠(c:Int))
def pT(f:List Bool)(k:Nat):List Int:=((fp k).filter λi=>f.getD i ak).map (fun(i:Nat)=>(i:Int))
theorem JF(f:List Bool)(k:Nat):pT f (k+1)=pT f k++(if f.getD k ak=ab then [(k:Int)] else []):=by
 unfold pT;rw[mT,ma,eZ]
 grind
theorem J6(f:List Bool):pT f f.length=l1 f:=rfl
def qp(a b:aF):Bool:=ah (a.a1=b.a1)&&ah (a.const=b.const)
def nF:List aF->List aF->Bool
 | [],[]=>ab
 |a::as,b::c=>qp a b&&nF as c
 |_,_=>ak
theorem abV{a b:aF}(h:qp a b=ab):a=b:=by
 obtain⟨c,k⟩:=a;obtain⟨d,e⟩:=b;simp only[qp,b5,decide_eq_true_eq] at h
 grind
theorem Fp: ∀{a b:List aF},nF a b=ab->a=b
 | [],[],_=>rfl
 |a::as,b::c,h=>by
  simp only[nF,b5] at h;rw[abV h.1,Fp h.2]
 | [],b::c,h=>by cases h
 |a::as,[],h=>by cases h
theorem OW: ∀d∈gH p l l.length,0<=d.1/\d.1<d.2/\d.2<(l.length:Int):=by
 intro d a;obtain⟨i,k,c,e,h,rfl⟩:=wo.1 a
 grind
theorem DG{l:List Int}(o:l.length<n)(p:l.length<=1000)(v:Int):uP n l v=aa (ah (v∈l)):=by
 refine ad.eq ?_;unfold uP;refine cB (P:=λi=>decide ((0:Int)<=i)=ah (v∈l)) ?_ λx c=>ad.some c;unfold DX;refine ad.loop (λz:Int=> ∃i:Nat,z=i/\i<=l.length/\v∉l.take i) (λz=>l.length-z.toNat) ?_ n 0 ⟨0,rfl,O,aW⟩ O;rintro a z ⟨i,rfl,q,d⟩ h;refine aU (λk=>?_) λm=>ad.some ?_
 ·have bG:=bo (O:i<l.length);refine ai (bq bG) (aU (λe=>ad.some ?_) λe=>?_)
  ·rw[bW O,bW];rw[e];exact bJ bG
  rw[bh O];refine h _ ⟨i+1,O,O,?_⟩ O;rw[gC bG,eS,nL]
  grind
 have e:i=l.length:=O
 grind
theorem Fw{l:List Int}(m:l.length<n)(o:l.length<=1000)(v:Int):tu n l v=aa (ah (v∈l)):=by
 refine ad.eq ?_;unfold tu;refine ad.loop (λz:Int=> ∃i:Nat,z=i/\i<=l.length/\v∉l.take i) (λz=>l.length-z.toNat) ?_ n 0 ⟨0,rfl,O,aW⟩ O;rintro a z ⟨i,rfl,p,c⟩ d;refine aU (λh=>?_) λk=>ad.some ?_
 ·have bG:=bo (O:i<l.length);refine ai (bq bG) (aU (λe=>ad.some ?_) λe=>?_)
  ·rw[bW];rw[<-e];exact bJ bG
  rw[bh O];refine d _ ⟨i+1,O,O,?_⟩ O;rw[gC bG,eS,nL]
  grind
 have e:i=l.length:=O
 grind
def fV(p:Prog):nX:=⟨p,I p.parts,(I p.parts).map (rc p),(I p.parts).map λx=>(cT p x:Int)⟩
theorem jU{a:Type}{l:List a}{f:a->R}{x:a}(h:l[i]? =aa x):(l.map f)[i]? =aa (f x):=by rw[ek,h];rfl
theorem zS{a:Type}{l:List a}{f:a->R}{x:a}(h:l[i]? =aa x):(l.take (i+1)).map f=(l.take i).map f++[f x]:=by rw[gC h,eZ];rfl
theorem yt(A:7100<=n)(m:fP p):pY n p=aa (if bt p=ab then(aa (fV p),ab) else(none,ak)):=by
 obtain⟨L,o,q⟩:=Vd (n:=n) O m;refine ad.eq ?_;unfold pY;refine ai o ?_;dsimp only;cases h:bt p with
 |false=>exact ad.some rfl
 |true=>
  rw[q h];have r:=(ev h).2.2.2.2;refine cd (ad.loop (λz:List (List Int)×List Int×Int=> ∃i:Nat,z.2.2=i/\i<=(I p.parts).length/\z.1=((I p.parts).take i).map (rc p)/\z.2.1=((I p.parts).take i).map λx=>(cT p x:Int)) (λz=>(I p.parts).length-z.2.2.toNat) ?_ n _ ⟨0,rfl,O,rfl,rfl⟩ (by first|omega|(dsimp only;omega)));rintro k ⟨a,b,z⟩ ⟨i,l,B,c,d⟩ s;dsimp only at l c d⊢;subst l;refine aU (λw=>?_) λy=>ad.some ?_
  ·have bG:=bo (O:i<(I p.parts).length);refine ai (bq bG) (ai (Uy O h (e9 (bJ bG))) (ai (cU (by rw[c,dz,dr,nK];omega)) (ai (cU (by rw[d,dz,dr,nK];omega)) ?_)));rw[bh O];exact s _ ⟨i+1,J,O,by dsimp only;rw[zS bG,c],by dsimp only;rw[zS bG,d]⟩ J
  have e:i=(I p.parts).length:=O
  rw[c,d,e,dF];rfl
def kp(p:Prog):List kD:=(I p.parts).map λx=>(⟨rc p x,(cT p x:Int)⟩:kD)
theorem zl(l:7100<=n)(c:bt p=ab):sV n p=aa (kp p):=by
 have m:=(ev c).2.2.2.2;refine ad.eq ?_;unfold sV kp;refine ai (xU O c) (ad.loop (λz:List kD×Int=> ∃i:Nat,z.2=i/\i<=(I p.parts).length/\z.1=((I p.parts).take i).map λx=>(⟨rc p x,(cT p x:Int)⟩:kD)) (λz=>(I p.parts).length-z.2.toNat) ?_ n _ ⟨0,rfl,O,rfl⟩ J);rintro d ⟨a,z⟩ ⟨i,k,B,h⟩ o;dsimp only at k h⊢;subst k;refine aU (λq=>?_) λr=>ad.some ?_
 ·have bG:=bo (O:i<(I p.parts).length);obtain⟨P,s,w,y,A⟩:=Yw l c (e9 (bJ bG));refine ai (bq bG) (ai w (ai y (ai A (ai (cU (by rw[h,dz,dr,nK];omega)) ?_))));rw[bh O];exact o _ ⟨i+1,J,O,by dsimp only;rw[zS bG,h]⟩ J
 have e:i=(I p.parts).length:=O
 grind
theorem rI(c:bt p=ab)(d: ∀x∈l,dm p x)(h:l[i]? =aa a):(rc p a).length<=12:=(ll c (d _ (bJ h))).2.2.1
theorem Oy{Q:R->Prop}{A B:Option Bool}(q:A=aa (ah ((cT p a:Int)∈rc p b)))(r:B=aa (ah ((cT p b:Int)∈rc p a))){c:Int->Option R}(h:ad (c (lv p a b)) Q):
  ad (aE (fun(m:Int)=>aE (fun(i:Int)=>aE c λk=>bif ah ((cT p a:Int)=(cT p b:Int)) then(k (wr (i+4))) else(k i))
   λn=>bL B λs=>bif s then(n (wr (m+2))) else(n m))
   λo=>bL A λw=>bif w then(o (wr (0+1))) else(o 0)) Q:=by
 refine ad.aE (λz=>z=if(cT p a:Int)∈rc p b then 1 else 0) (λj d=>ai q (aU (λe=>d _ (by rw[aX e];rfl)) λe=>d _ (by rw[aY e]))) λz l=>?_;subst l;refine ad.aE (λz=>z=(if(cT p a:Int)∈rc p b then 1 else 0)+if(cT p b:Int)∈rc p a then 2 else 0) (λj d=>ai r (aU (λe=>d _ ?_) λe=>d _ ?_)) λz l=>?_
 ·rw[aX e];split<;>rfl
 ·rw[aY e,Int.add_zero]
 subst l;refine ad.aE (λz=>z=lv p a b) (λj d=>aU (λe=>d _ ?_) λe=>d _ ?_) λz l=>by subst l;exact h
 ·unfold lv;rw[aX (O:cT p a=cT p b)];split<;>split<;>rfl
 unfold lv;rw[aY (show¬cT p a=cT p b by omega),Int.add_zero]
theorem Ve(r:7100<=n)(h:bt p=ab)(c:(I p.parts)[i]? =aa a)(d:(I p.parts)[k]? =aa b):Cd n (fV p) (i:Int) (k:Int)=aa (lX p (I p.parts) i k):=by rw[tw c d];have s:=rI h (λx e=>e9 e) c;have w:=rI h (λx e=>e9 e) d;have l:az (fV p).reads (i:Int)=aa (rc p a):=bq (jU c);have m:az (fV p).reads (k:Int)=aa (rc p b):=bq (jU d);have o:az (fV p).ix (i:Int)=aa (cT p a:Int):=bq (jU c);have q:az (fV p).ix (k:Int)=aa (cT p b:Int):=bq (jU d);refine ad.eq ?_;unfold Cd;rw[l,m,o,q];exact Oy (DG O O _) (DG O O _) (ad.some rfl)
theorem V8(c:7100<=n)(d:(rc p a).length<=12)(e:(rc p b).length<=12):zo n ⟨rc p a,(cT p a:Int)⟩ ⟨rc p b,(cT p b:Int)⟩=aa (lv p a b):=by refine ad.eq ?_;unfold zo;exact Oy (Fw O O _) (Fw O O _) (ad.some rfl)
theorem LN(L:7100<=n)(F:bt p=ab):x0 n (fV p)=aa (gH p (I p.parts) (I p.parts).length):=by
 have s:=(ev F).2.2.2.2;refine ad.eq ?_;unfold x0;rw[show(fV p).list=I p.parts from rfl];generalize m:I p.parts=l at*;have Q: ∀x∈l,dm p x:=λx R=>e9 (by rw[m];exact R);refine ad.loop (λz:List gg×Int=> ∃i:Nat,z.2=i/\i<=l.length/\z.1=gH p l i) (λz=>l.length-z.2.toNat) ?_ n _ ⟨0,rfl,O,rfl⟩ J;rintro w ⟨a,z⟩ ⟨i,o,g,A⟩ W;dsimp only at o A⊢;subst o;refine aU (λX=>?_) λZ=>ad.some ?_
 ·have bG:=bo (O:i<l.length);rw[bh O];refine ad.loop (λz:List gg×Int=> ∃j:Nat,z.2=j/\i<j/\j<=l.length/\z.1=gH p l i++lp p l i j) (λz=>l.length-z.2.toNat) ?_ n _ ⟨i+1,J,O,O,by dsimp only;rw[A,Ev p l i _ (cV _),jn]⟩ J;rintro q ⟨b,y⟩ ⟨j,G,c,t,r⟩ B;dsimp only at G r⊢;subst G;refine aU (λH=>?_) λK=>?_
  ·have C:=bo (O:j<l.length);have d:=Ve L F (i:=i) (k:=j) (by rw[m];exact bG) (by rw[m];exact C);rw[m] at d;have f:=(adO p l i j).1;refine ad.aE (λz=>z=gH p l i++lp p l i (j+1)) (λu h=>ai d (aU (λe=>ai (cU ?_) (h _ ?_)) λe=>h _ ?_)) λz o=>?_
   ·have v:=y1 p l i;have D:=Ew p l i j;have E:i*l.length<=120*120:=oQ O s
    grind
   ·rw[r,Dq p l c,aY O,fr]
   ·rw[r,Dq p l c,aX O,jn]
   subst o;rw[bh O];exact B _ ⟨j+1,J,O,O,rfl⟩ J
  have e:j=l.length:=O
  try rw[bh O]
  exact W _ ⟨i+1,J,O,by dsimp only;rw[r,e,Eu]⟩ J
 have e:i=l.length:=O
 rw[A,e]
theorem LY(H:7100<=n)(q:bt p=ab):wa n p=aa (gH p (I p.parts) (I p.parts).length):=by
 have A:=(ev q).2.2.2.2;refine ad.eq ?_;unfold wa;refine ai (zl H q) ?_;have B:(kp p).length=(I p.parts).length:=by unfold kp;rw[dz]
 have d: ∀(i:Nat) x,(I p.parts)[i]? =aa x->az (kp p) (i:Int)=aa ⟨rc p x,(cT p x:Int)⟩:=λi x h=>bq (jU h);rw[B];generalize kp p=u at*;generalize R:I p.parts=l at*;have k: ∀x∈l,dm p x:=λx W=>e9 (by rw[R];exact W);refine ad.loop (λz:List gg×Int=> ∃i:Nat,z.2=i/\i<=l.length/\z.1=gH p l i) (λz=>l.length-z.2.toNat) ?_ n _ ⟨0,rfl,O,rfl⟩ J;rintro C ⟨a,z⟩ ⟨i,r,t,F⟩ X;dsimp only at r F⊢;subst r;refine aU (λZ=>?_) λf=>ad.some ?_
 ·have bG:=bo (O:i<l.length);rw[bh O];refine ad.loop (λz:List gg×Int=> ∃j:Nat,z.2=j/\i<j/\j<=l.length/\z.1=gH p l i++lp p l i j) (λz=>l.length-z.2.toNat) ?_ n _ ⟨i+1,J,O,O,by dsimp only;rw[F,Ev p l i _ (cV _),jn]⟩ J;rintro s ⟨b,y⟩ ⟨j,K,m,v,w⟩ G;dsimp only at K w⊢;subst K;refine aU (λL=>?_) λQ=>?_
  ·have c:=bo (O:j<l.length);have g:=V8 H (rI q k bG) (rI q k c);refine ad.aE (λz=>z=gH p l i++lp p l i (j+1)) (λD o=>ai (d _ _ bG) (ai (d _ _ c) (ai g (eO (λe=>ai (cU ?_) (o _ ?_)) λe=>o _ ?_)))) λz r=>?_
   ·have E:=y1 p l i;have M:=Ew p l i j;have N:i*l.length<=120*120:=oQ O A
    grind
   ·rw[w,Dq p l m,tw bG c,aY e,fr]
   ·rw[w,Dq p l m,tw bG c,aX e,jn]
   subst r;rw[bh O];exact G _ ⟨j+1,J,O,O,rfl⟩ J
  have e:j=l.length:=O
  try rw[bh O]
  exact X _ ⟨i+1,J,O,by dsimp only;rw[w,e,Eu]⟩ J
 have e:i=l.length:=O
 rw[F,e]
theorem zk(p:Prog)(l:List bU)(c:Int)(i:Nat):gX p l c (i+1)=if iW p l i=c then(i:Int) else gX p l c i:=rfl
theorem Uz(D:7100<=n)(K:bt p=ab)(R:i<(I p.parts).length):Cc n (fV p) (i:Int)=aa (gd p (I p.parts) i):=by
 have W:=(ev K).2.2.2.2;have r: ∀x∈I p.parts,dm p x:=λx X=>e9 X;have w:=bo R;have E:=rI K r w;have Z:az (fV p).reads (i:Int)=aa (rc p (I p.parts)[i]):=bq (jU w);refine ad.eq ?_;unfold Cc gd;rw[wj w,Z];generalize rc p (I p.parts)[i]=d at*;have A:wr ((i:Int)-1)=(i:Int)-1:=bh O;rw[A];refine ai rfl (ad.loop (λz:List Int×Int=> ∃k:Nat,z.2=k/\k<=d.length/\z.1=(d.take k).map λc=>gX p (I p.parts) c i) (λz=>d.length-z.2.toNat) ?_ n _ ⟨0,rfl,O,rfl⟩ J);rintro h ⟨a,z⟩ ⟨k,m,M,B⟩ b;dsimp only at m B⊢;subst m;refine aU (λf=>?_) λg=>ad.some ?_
 ·have bG:=bo (O:k<d.length);refine ai (bq bG) ?_;have C: ∀y:Int,y=gX p (I p.parts) d[k] i->ad (bL (app a [y]) λF=>h (F,wr ((k:Int)+1))) (λx=>x=d.map λc=>gX p (I p.parts) c i):=by
   intro y t;refine ai (cU (by rw[B,dz,dr,nK];omega)) ?_;rw[bh O];exact b _ ⟨k+1,J,O,by dsimp only;rw[zS bG,B,t]⟩ J
  refine ad.loop (λz:Int=> ∃s:Nat,z=(s:Int)-1/\s<=i/\gX p (I p.parts) d[k] i=gX p (I p.parts) d[k] s) (λz=>(z+1).toNat) ?_ n _ ⟨i,rfl,cV _,rfl⟩ O;rintro o z ⟨s,rfl,N,l⟩ G;refine ad.aE (λz=>z=ab/\(∃q,s=q+1/\iW p (I p.parts) q≠d[k])\/z=ak/\(s:Int)-1=gX p (I p.parts) d[k] i) (λj L=>aU (λu=>?_) λu=>L _ (.inr ⟨rfl,?_⟩)) λz m=>?_
  ·obtain⟨q,rfl⟩: ∃q,s=q+1:=⟨s-1,O⟩
   have Q:=bo (O:q<(I p.parts).length);have v:az (fV p).ix (((q+1:Nat):Int)-1)=aa (iW p (I p.parts) q):=by
    rw[show((q+1:Nat):Int)-1=(q:Int) by omega,q0 Q];exact bq (jU Q)
   refine ai v ?_;by_cases e:iW p (I p.parts) q=d[k]
   ·rw[bW e];refine L _ (.inr ⟨rfl,?_⟩);rw[l,zk,aX e];omega
   rw[bT e]
   grind
  ·have:s=0:=O
   subst this;rw[l];rfl
  rcases m with ⟨rfl,q,rfl,H⟩|⟨rfl,m⟩
  ·refine b' ?_;rw[bh O];exact G _ ⟨q,O,O,by rw[l,zk,aY H]⟩ O
  exact cd (C _ m)
 have e:k=d.length:=O
 grind
theorem Vt(B:7100<=n)(o:bt p=ab)(C:i<=(I p.parts).length)(c:Int):Ds n (kp p) (i:Int) c=aa (gX p (I p.parts) c i):=by
 have r:=(ev o).2.2.2.2;have k: ∀(i:Nat) x,(I p.parts)[i]? =aa x->az (kp p) (i:Int)=aa ⟨rc p x,(cT p x:Int)⟩:=λi x h=>bq (jU h);refine ad.eq ?_;unfold Ds;rw[bh O];refine ad.loop (λz:Int=> ∃s:Nat,z=(s:Int)-1/\s<=i/\gX p (I p.parts) c i=gX p (I p.parts) c s) (λz=>(z+1).toNat) ?_ n _ ⟨i,rfl,cV _,rfl⟩ O;rintro d z ⟨s,rfl,F,a⟩ l;refine aU (λw=>?_) λw=>ad.some ?_
 ·obtain⟨q,rfl⟩: ∃q,s=q+1:=⟨s-1,O⟩
  have m:=bo (O:q<(I p.parts).length);have y:=k _ _ m;have A:((q+1:Nat):Int)-1=(q:Int):=O
  rw[A];refine ai y (aU (λe=>ad.some ?_) λe=>?_)
  ·dsimp only at e;rw[a,zk,q0 m,aX e]
  dsimp only at e;rw[bh O];exact l _ ⟨q,O,O,by rw[a,zk,q0 m,aY e]⟩ O
 have:s=0:=O
 subst this;rw[a];rfl
theorem abU{f:bU->Int}{w:Int}:ah (w∈l.map f)=l.any (λx=>decide (f x=w)):=by grind
theorem KK(p:Prog)(l:List bU)(j q:Nat)(h:l.length-1-j=q):fT p l (j+1)=if(fT p l j).getD q ak=ab\/j0 p l q=ab then j' ((fT p l j).set q ab) (gd p l q) else fT p l j:=by subst h;rfl
theorem MV{y:Int}(h:(gd p l q)[k]? =aa y): -1<=y/\y<(q:Int):=by
 unfold gd at h;rw[ek] at h;cases a:(vi p l q)[k]? with
 |none=>rw[a] at h;cases h
 |some c=>rw[a] at h;cases h;exact OR p l c q
theorem Yg(u:7100<=n)(K:bt p=ab):Cz n (fV p)=aa (hg p (I p.parts)):=by
 have v:=(ev K).2.2.2.2;have L: ∀x∈I p.parts,dm p x:=λx D=>e9 D;have Q:=fun(i:Nat) h=>Uz u K (i:=i) h;have a:(fV p).ix.length=(I p.parts).length:=by unfold fV;dsimp only;rw[dz]
 have w:(fV p).ix=(I p.parts).map (λx=>(cT p x:Int)):=rfl;refine ad.eq ?_;unfold Cz;refine ai (PB (n:=((fV p).list.length:Int)) (x:=ak) (by show _/\((I p.parts).length:Int)<=_;omega)) ?_;rw[show((fV p).list.length:Int)=((I p.parts).length:Int) from rfl,c',a,bh O];generalize qI:I p.parts=l at*;refine ad.loop (λz:List Bool×Int=> ∃j:Nat,z.2=(l.length:Int)-1-j/\j<=l.length/\z.1=fT p l j) (λz=>(z.2+1).toNat) ?_ n _ ⟨0,J,O,rfl⟩ J;rintro R ⟨f,z⟩ ⟨j,o,hj,F⟩ E;dsimp only at o F⊢;refine aU (λM=>?_) λM=>ad.some ?_
 ·obtain⟨q,N⟩: ∃q,l.length-1-j=q:=⟨_,rfl⟩
  have W:z=(q:Int):=O
  subst W;have A:q<l.length:=O
  have X:f.length=l.length:=by rw[F,pK]
  have bG:=bo A;have s:=bo (O:q<f.length);have Z:f.getD q ak=f[q]:=by rw[eB,s];rfl
  have c:=KK p l j q N;rw[<-F] at c;refine ad.aE (λz=>z=fT p l (j+1)) (λpG B=>?_) λz o=>?_
  ·refine ad.aE (λz=>z= !decide (f.getD q ak=ab\/j0 p l q=ab)) (λQZ d=>ai (bq s) ?_) λz o=>?_
   ·rw[Z] at d;cases a7:f[q] with
    |true=>rw[a7] at d;exact cd (d _ aW)
    |false=>
     rw[a7] at d;have b:az (fV p).ix (q:Int)=aa (cT p l[q]:Int):=by rw[w];exact bq (jU bG)
     rw[bh O];refine b' (ai (km O O (by rw[a];omega)) (ai b (ai (DG ?_ ?_ _) (d _ ?_))))
     ·rw[im,dr,a];omega
     ·rw[im,dr,a];omega
     rw[show(((l.length:Nat):Int)).toNat=l.length by omega,<-a,dF,show(((q:Int)+1)).toNat=q+1 by omega,w,<-List.map_drop,abU];unfold j0;rw[q0 bG];cases (List.drop (q+1) l).any (λx=>decide ((cT p x:Int)=(cT p l[q]:Int)))<;>simp
   subst o;by_cases G:f.getD q ak=ab\/j0 p l q=ab
   ·rw[bW G];rw[aX G] at c;refine cd (ai (bq s) (ai (eM ⟨O,O⟩ ab) (ai (Q q A) ?_)));rw[c'];have P:(gd p l q).length<=12:=by unfold gd;rw[dz,wj bG];exact rI K L bG
    refine ad.loop (λz:List Bool×Int=> ∃k:Nat,z.2=k/\k<=(gd p l q).length/\z.1=j' (f.set q ab) ((gd p l q).take k)) (λz=>(gd p l q).length-z.2.toNat) ?_ n _ ⟨0,rfl,O,rfl⟩ J;rintro H ⟨g,z⟩ ⟨k,o,hk,m⟩ t;dsimp only at o m⊢;subst o;refine aU (λS=>?_) λT=>B _ ?_
    ·have r:=bo (O:k<(gd p l q).length);have a7:=MV r;have U:g.length=l.length:=by rw[m,zR,e7,X]
     refine ad.aE (λz=>z=j' (f.set q ab) ((gd p l q).take (k+1))) (λajf C=>ai (bq r) (aU (λe=>?_) λe=>C _ ?_)) λz o=>?_
     ·obtain⟨y,V,_⟩:=gk (l:=g) e O;refine ai V (ai (eM ⟨e,O⟩ ab) (C _ ?_));rw[gC r,zC,aX e,m]
     ·rw[gC r,zC,aY e,m]
     subst o;rw[bh O];exact t _ ⟨k+1,J,O,rfl⟩ J
    have e:k=(gd p l q).length:=O
    rw[m,e,dF,c]
   rw[bT G];rw[aY G] at c;exact b' (B _ c.symm)
  subst o;rw[bh O];exact E _ ⟨j+1,J,O,rfl⟩ J
 have e:j=l.length:=O
 rw[F,e]
def rM(p:Prog)(l:List bU)(q k:Nat):Bool:= !((l.take k).drop (q+1)).any λx=>decide ((cT p x:Int)=iW p l q)
theorem VW(h:q<k)(a:l[k]? =aa b):rM p l q (k+1)=(rM p l q k&& !decide ((cT p b:Int)=iW p l q)):=by have c:=(bX.1 a).1;unfold rM;rw[gC a,List.drop_append_of_le_length (by rw[dr];omega),yJ];simp
theorem SD(cG:7100<=n)(hp:fP p):Ci n p=aa (if bt p=ab then l1 (hg p (I p.parts)) else []):=by
 refine ad.eq ?_;unfold Ci;refine ai (kM O hp) ?_;cases M:bt p with
 |false=>exact ad.some rfl
 |true=>
  have BJ:=(ev M).2.2.2.2;have S: ∀x∈I p.parts,dm p x:=λx hx=>e9 hx;have T:(kp p).length=(I p.parts).length:=by unfold kp;rw[dz]
  have r: ∀(i:Nat) x,(I p.parts)[i]? =aa x->az (kp p) (i:Int)=aa ⟨rc p x,(cT p x:Int)⟩:=λi x h=>bq (jU h);have U:=fun(i:Nat) h=>Vt cG M (i:=i) h;refine cd (ai (zl cG M) ?_);rw[T,aX rfl];generalize kp p=u at*;generalize qI:I p.parts=l at*;refine ai (PB (n:=(l.length:Int)) (x:=ak) O) ?_;rw[c',bh O];refine ad.loop (λz:List Bool×Int=> ∃j:Nat,z.2=(l.length:Int)-1-j/\j<=l.length/\z.1=fT p l j) (λz=>(z.2+1).toNat) ?_ n _ ⟨0,J,O,rfl⟩ J;rintro C ⟨f,z⟩ ⟨j,a,hj,N⟩ b3;dsimp only at a N⊢;refine aU (λh0=>?_) λh0=>?_
  ·obtain⟨q,hq⟩: ∃q,l.length-1-j=q:=⟨_,rfl⟩
   have V:z=(q:Int):=O
   subst V;have HL:q<l.length:=O
   have ae':f.length=l.length:=by rw[N,pK]
   have bG:=bo HL;have F:=bo (O:q<f.length);have K:f.getD q ak=f[q]:=by rw[eB,F];rfl
   have s:=KK p l j q hq;rw[<-N] at s;have L: ∀y:Int,y=(q:Int)-1->ad (C (fT p l (j+1),y)) _:=λy hy=>b3 _ ⟨j+1,J,O,rfl⟩ J;have ir:wr ((q:Int)+1)=((q+1:Nat):Int):=by rw[bh O];omega
   have w2:wr ((q:Int)-1)=(q:Int)-1:=bh O;rw[ir,w2];refine ad.loop (λz:Bool×Int=> ∃k:Nat,z.2=k/\q<k/\k<=l.length/\z.1=rM p l q k) (λz=>l.length-z.2.toNat) ?_ n _ ⟨q+1,rfl,O,O,?_⟩ J
   ·rintro P ⟨b,z⟩ ⟨k,a,afL,hk,a7⟩ xw;dsimp only at a a7⊢;subst a;refine aU (λhlt=>?_) λkW=>?_
    ·have m:=bo (O:k<l.length);have Q:=VW (p:=p) afL m;refine ad.aE (λz=>z=rM p l q (k+1)) (λQV A=>?_) λz a=>?_
     ·cases R:b with
      |false=>exact cd (A _ (by rw[Q,<-a7,R];rfl))
      |true=>
       refine b' (ai (r _ _ m) (ai (r _ _ bG) (A _ ?_)));rw[Q,<-a7,R,q0 bG];rfl
     subst a;rw[bh O];exact xw _ ⟨k+1,J,O,O,rfl⟩ J
    have e:k=l.length:=O
    have Hv:b=j0 p l q:=by rw[a7,e];unfold rM j0;rw[dF]
    refine ad.aE (λz=>z=f.set q (f.getD q ak||j0 p l q)) (λH6 c=>ai (bq F) ?_) λz a=>?_
    ·rw[K] at c;cases W:f[q] with
     |true=>
      rw[W] at c;refine b' (ai (eM ⟨O,O⟩ ab) (c _ ?_));rw[c'];rfl
     |false=>
      rw[W] at c;refine cd (ai (eM ⟨O,O⟩ b) (c _ ?_));rw[c',Hv];rfl
    subst a;have hrl:=rI M S bG;by_cases H:f.getD q ak=ab\/j0 p l q=ab
    ·rw[aX H] at s;have G:(f.getD q ak||j0 p l q)=ab:=by rcases H with h|h<;>rw[h]<;>simp
     rw[G];have afT:(gd p l q).length=(rc p l[q]).length:=by unfold gd;rw[dz,wj bG]
     refine ad.loop (λz:List Bool×Int=> ∃k:Nat,z.2=k/\k<=(rc p l[q]).length/\z.1=j' (f.set q ab) ((gd p l q).take k)) (λz=>(rc p l[q]).length-z.2.toNat) ?_ n _ ⟨0,rfl,O,rfl⟩ J;rintro w ⟨g,z⟩ ⟨k,a,hk,o⟩ X;dsimp only at a o⊢;subst a;have aiu:g.length=l.length:=by rw[o,zR,e7,ae']
     have Z:=bo (O:q<g.length);have hgt:g[q]=ab:=by
      have t:g.getD q ak=ab:=by
       rw[o,Fj (by rw[e7];omega),s3,aX ⟨rfl,O⟩];exact .inl rfl
      rwa [eB,Z] at t
     refine ad.aE (λz=>z=ah (k<(rc p l[q]).length)) (λH7 d=>ai (r _ _ bG) (aU (λe=>ai (bq Z) (d _ ?_)) λe=>d _ ?_)) λz a=>?_
     ·dsimp only at e;rw[hgt,bW O]
     ·dsimp only at e;rw[bT O]
     subst a;refine aU (λe=>?_) λe=>?_
     ·have v:=bo e;have m:(gd p l q)[k]? =aa (gX p l (rc p l[q])[k] q):=by unfold gd;rw[wj bG];exact jU v
      have a7:=MV m;refine ad.aE (λz=>z=j' (f.set q ab) ((gd p l q).take (k+1))) (λajf D=>ai (r _ _ bG) (ai (bq v) (ai (U q O _) (aU (λe=>?_) λe=>D _ ?_)))) λz a=>?_
      ·obtain⟨y,hy,_⟩:=gk (l:=g) e O;refine ai hy (ai (eM ⟨e,O⟩ ab) (D _ ?_));rw[gC m,zC,aX e,o]
      ·rw[gC m,zC,aY e,o]
      subst a;rw[bh O];exact X _ ⟨k+1,J,O,rfl⟩ J
     have e2:k=(gd p l q).length:=O
     rw[o,e2,dF,<-s];exact L _ rfl
    rw[aY H] at s;have G:(f.getD q ak||j0 p l q)=ak:=by
     cases t:f.getD q ak with
     |true=>exact bz (.inl t) H
     |false=>
      cases h2:j0 p l q with
      |true=>exact bz (.inr h2) H
      |false=>rfl
    have B:f[q]=ak:=by
     rw[<-K];cases t:f.getD q ak with
     |true=>exact bz (.inl t) H
     |false=>rfl
    have E:f.set q ak=f:=by
     have h:=List.set_getElem_self (as:=f) (i:=q) O
     rwa [B] at h
    rw[G,E];refine ad.loop (λz:List Bool×Int=>z=(f,0)) (λ_=>0) ?_ n _ rfl O;rintro w z rfl X;dsimp only;refine ad.aE (λz=>z=ak) (λH7 d=>ai (r _ _ bG) (ad.cond (λ_=>ai (bq F) (d _ B)) λ_=>d _ rfl)) λz a=>?_;subst a;refine cd ?_;rw[<-s];exact L _ rfl
   dsimp only;unfold rM;rw[List.drop_of_length_le (by rw[dr];omega)];rfl
  have e:j=l.length:=O
  rw[N,e];exact ai (JU (by rw[pK];omega) (by rw[pK];omega)) (ad.some rfl)
theorem FG(a:l.length<=120):(gH p l l.length).length<=15000:=by have c:=y1 p l l.length;have d:l.length*l.length<=120*120:=oQ a a;omega
def kq{R:Type}(p:R->R->Bool):List R->List R->Bool
 | [],[]=>ab
 |a::as,b::c=>p a b&&kq p as c
 |_,_=>ak
theorem EI{R:Type}{p:R->R->Bool}: ∀{a b:List R},kq p a b=ab->a.length=b.length
 | [],[],_=>rfl
 |a::as,b::c,h=>by
  simp only[kq,b5] at h;simp[EI h.2]
 | [],b::c,h=>by cases h
 |a::as,[],h=>by cases h
theorem Fs{f:R->R->Option Bool}{p:R->R->Bool}{a b:List R}(r: ∀x∈a,∀y∈b,f x y=aa (p x y))(H:a.length<n)(K:a.length<=1000000):
  (bif !decide ((a.length:Int)=(b.length:Int)) then(aa ak) else(bj (λd (e:Int)=>bif ah (e<(a.length:Int)) then(bL (az a e) λs=>bL (az b e) λw=>bL (f s w) λz=>bif !z then(aa ak) else(d (wr (e+1)))) else(aa ab)) n 0))=aa (kq p a b):=by
 refine ad.eq (eO (λh=>ad.some ?_) λh=>?_)
 ·cases c:kq p a b with
  |false=>rfl
  |true=>exact bz (by rw[EI c]) h
 refine ad.loop (λx:Int=> ∃i:Nat,x=i/\i<=a.length/\kq p (a.drop i) (b.drop i)=kq p a b) (λx=>a.length-x.toNat) ?_ n 0 ⟨0,rfl,O,rfl⟩ O;rintro k x ⟨i,rfl,L,c⟩ A;refine aU (λB=>?_) λC=>ad.some ?_
 ·have l:i<a.length:=O
  have m:i<b.length:=O
  have o:=bo l;have a7:=bo m;refine ai (bq o) (ai (bq a7) (ai (r _ (bJ o) _ (bJ a7)) ?_));rw[k6 l,k6 m] at c;simp only[kq] at c;cases q:p a[i] b[i] with
  |false=>rw[q] at c;exact b' (ad.some c)
  |true=>
   rw[q,gL] at c;refine cd ?_;rw[bh O];exact A _ ⟨i+1,O,O,c⟩ O
 have F:a.drop i=[]:=l6 O;have G:b.drop i=[]:=l6 O;rw[F,G] at c;exact c
theorem LR{a b:List Int}(B:a.length<n)(C:a.length<=1000000):
  (bif !decide ((a.length:Int)=(b.length:Int)) then(aa ak) else(bj (λc (d:Int)=>bif ah (d<(a.length:Int)) then(bL (az a d) λo=>bL (az b d) λp=>bif !decide (o=p) then(aa ak) else(c (wr (d+1)))) else(aa ab)) n 0))=aa (ah (a=b)):=by
 refine ad.eq (eO (λh=>ad.some ?_) λh=>?_)
 ·exact(bT λe=>h (by rw[e])).symm
 refine ad.loop (λx:Int=> ∃i:Nat,x=i/\i<=a.length/\a.take i=b.take i) (λx=>a.length-x.toNat) ?_ n 0 ⟨0,rfl,O,rfl⟩ O;rintro k x ⟨i,rfl,F,q⟩ r;refine aU (λs=>?_) λw=>ad.some ?_
 ·have y:i<a.length:=O
  have z:i<b.length:=O
  have m:=bo y;have a7:=bo z;refine ai (bq m) (ai (bq a7) ?_);refine eO (λl=>ad.some ?_) λA=>?_
  ·exact(bT λe=>l (by subst e;rfl)).symm
  rw[bh O];exact r _ ⟨i+1,O,O,by rw[gC m,gC a7,q,A]⟩ O
 have G:a.take i=a:=j2 O
 grind
theorem TA{a b:List Int}(c:a.length<n)(d:a.length<=1000000):sD n a b=aa (ah (a=b)):=by unfold sD;exact LR c d
theorem Kk{a b:List Int}(c:a.length<n)(d:a.length<=1000000):wh n a b=aa (ah (a=b)):=by unfold wh;exact LR c d
theorem Tu(k:5000<=n){a b:aF}(d:jM a):kh n a b=aa (qp a b):=by unfold jM at d;unfold kh qp;have h:=TA (n:=n) (a:=a.a1) (b:=b.a1) O O;refine ad.eq (ad.aE (λz=>z=(ah (a.a1=b.a1)&&ah (a.const=b.const))) (λj c=>ai h (ad.cond (λe=>c _ (by rw[e];rfl)) λe=>c _ (by rw[e];rfl))) λz i=>ad.some i)
theorem Tr(k:5000<=n){a b:aF}(d:jM a):x8 n a b=aa (qp a b):=by unfold jM at d;unfold x8 qp;have h:=Kk (n:=n) (a:=a.a1) (b:=b.a1) O O;refine ad.eq (ad.aE (λz=>z=(ah (a.a1=b.a1)&&ah (a.const=b.const))) (λj c=>ad.cond (λe=>ai h (c _ (by rw[e,Bool.and_true]))) λe=>c _ (by rw[e,mU])) λz i=>ad.some i)
theorem Ei: ∀a b:List aF,kq qp a b=nF a b
 | [],[]=>rfl
 |a::as,b::c=>by simp only[kq,nF,Ei as c]
 | [],b::c=>rfl
 |a::as,[]=>rfl
theorem JC(h:5000<=n){a b:List aF}(c:kL a):d5 n a b (λd e=>kh n d e)=aa (nF a b):=by unfold d5;rw[<-Ei];exact Fs (f:=λd e=>kh n d e) (λx i y _=>Tu h (c.2 x i)) (by have:=c.1;omega) (by have:=c.1;omega)
theorem Jy(d:5000<=n){a b:List aF}(c:kL a):x7 n a b=aa (nF a b):=by unfold x7;rw[<-Ei];exact Fs (f:=λe h=>x8 n e h) (λx i y _=>Tr d (c.2 x i)) (by have:=c.1;omega) (by have:=c.1;omega)
end
section
def uh(B:Nat)(l:List aF):Bool:=cY l.length B&&l.all λa=>cY a.a1.length B
def G'(B:Nat)(a:List Loop):Bool:=cY a.length B&&a.all λl=>uh B l.lo&&uh B l.aP
def xg(B:Nat):Nat->Expr->Bool
 |0,_=>ak
 |L+1,e=>cY e.bk.length B&&(cY e.index.a1.length B&&(uh B e.read.bA&&e.bk.all (xg B L)))
def PS(B:Nat)(s:Stmt):Bool:=uh B s.write.bA&&xg B 5 s.value
def PQ(B:Nat)(x:Part):Bool:=G' B x.nest&&(cY x.body.length B&&x.body.all (PS B))
def PR(B:Nat)(l:List ca):Bool:=cY l.length B&&l.all λx=>cY x.b1.length B
def G9(B:Nat)(p:Prog):Bool:=PR B p.aV&&(cY p.parts.length B&&p.parts.all (PQ B))
variable {B:Nat}{l:List (List UInt8)}{s:List UInt8}{k:Int}{r:cL}
theorem A7{l:List aF}(h:uh B l=ab):e6 B l:=by simp only[uh,b5,g'] at h;exact⟨eG h.1,λa c=>eG (h.2 a c)⟩
theorem adK{l:List Loop}(h:G' B l=ab):kA B l:=by simp only[G',b5,g'] at h;exact⟨eG h.1,λa c=>⟨A7 (h.2 a c).1,A7 (h.2 a c).2⟩⟩
theorem Pp{B:Nat}: ∀{L:Nat} {e:Expr},xg B L e=ab->iB B L e
 |0,e,h=>by simp[xg] at h
 |L+1,e,h=>by simp only[xg,b5,g'] at h;exact⟨eG h.1,eG h.2.1,A7 h.2.2.1,λk a=>Pp (h.2.2.2 k a)⟩
theorem adL{p:Prog}(h:G9 B p=ab):dJ B p:=by simp only[G9,PR,PQ,PS,b5,g'] at h;exact⟨⟨eG h.1.1,λa e=>eG (h.1.2 a e)⟩,eG h.2.1,λx c=>⟨adK (h.2.2 x c).1,eG (h.2.2 x c).2.1,λs d=>⟨A7 ((h.2.2 x c).2.2 s d).1,Pp ((h.2.2 x c).2.2 s d).2⟩⟩⟩
def G0(a t:List UInt8):Bool:=match cat a t with
 |some x=>match sc N x with
  |some (p,_)=>G9 10 p
  |none=>ak
 |none=>ak
theorem aat{t:List UInt8}(h:l.all (G0 s)=ab)(d:t∈l): ∃x q,cat s t=aa x/\sc N x=aa q/\dJ 10 q.1:=by
 have h:=gq.1 h t d;unfold G0 at h;cases c:cat s t with
 |none=>rw[c] at h;cases h
 |some x=>
  rw[c] at h;dsimp only at h;cases a:sc N x with
  |none=>rw[a] at h;cases h
  |some q=>rw[a] at h;exact⟨x,q,rfl,a,adL h⟩
theorem NM{R:Type}(e:c6 k r)(i:k<=1000000000)(m:l≠[])(h:l.all (G0 s)=ab){K:List UInt8×cL->List UInt8->Prog×Bool->Option R}{Q:R->Prop}
  (o: ∀a c d,c6 (k+1) a.2->dJ 10 d.1->ad (K a c d) Q):ad (bL (pH N r l) λa=>bL (cat s a.1) λc=>bL (sc N c) λd=>K a c d) Q:=by
 refine cB (Bn N e i m) λa ⟨n,p⟩=>?_;obtain⟨x,q,w,y,z⟩:=aat h n
 grind
theorem X4(e:c6 k r)(n:0<=k/\k<=900000):ad (zV N r) (λx=>dJ 10 x.1/\c6 (k+210000) x.2):=by
 unfold zV;refine NM e O aW Y λo p q a h=>?_;refine ad.aE (λz=>c6 (k+2) ⟨z.1,z.2.1⟩) (λj c=>?_) λz d=>?_
 ·exact ad.cond (λ_=>cB (kZ N a O) λs ⟨_,_,i⟩=>c _ (i.mono O)) λ_=>c _ (a.mono O)
 exact ad.cond (λ_=>ad.some ⟨h,d.mono O⟩) λ_=>cB (X6 d O) λw ⟨l,m⟩=>ad.some ⟨l,m.mono O⟩
theorem W9(e:c6 k r)(n:0<=k/\k<=800000):ad (zu N r) (λx=>dJ 10 x.1/\c6 (k+220000) x.2):=by
 unfold zu;refine NM e O aW Y λo p q a h=>?_;refine ad.aE (λz=>c6 (k+2) ⟨z.1,z.2.1⟩) (λj c=>?_) λz d=>?_
 ·exact ad.cond (λ_=>cB (kZ N a O) λs ⟨_,_,i⟩=>c _ (i.mono O)) λ_=>c _ (a.mono O)
 exact ad.cond (λ_=>ad.some ⟨h,d.mono O⟩) λ_=>cB (X4 d O) λw ⟨l,m⟩=>ad.some ⟨l,m.mono O⟩
end
def k1(p:Prog)(j:Nat):Nat:=match p.parts[j]? with
 |some x=>x.nest.length
 |none=>0
def qx(i m:Nat):List Step:=(fp m).map λk:Nat=>⟨1,i,k,0⟩
def uk(i m:Nat):List Step:=(fp m).map λk:Nat=>⟨2,i,k,0⟩
def PW(p:Prog)(j:Nat):List Step:=qx j (k1 p j-1)++uk j (k1 p j)
def kg(p:Prog)(i:Nat):List Step:=(fp i).flatMap (PW p)
def qy(i:Nat):List Step:=(fp i).flatMap λj:Nat=>[⟨6,j,0,0⟩,⟨9,j,0,0⟩]
def uj(i:Nat):List Step:=(fp i).map λj:Nat=>⟨10,j,0,0⟩
def n0(p:Prog):List Step:=kg p p.parts.length++qy (p.parts.length-1)++uj p.parts.length++[⟨11,0,0,0⟩]
variable {a:Type}{n i m:Nat}{xs:List Step}
theorem GL(f:Nat->a)(i:Nat):(fp (i+1)).map f=(fp i).map f++[f i]:=by rw[mT,eZ];rfl
theorem w4(f:Nat->List a)(i:Nat):(fp (i+1)).flatMap f=(fp i).flatMap f++f i:=by rw[mT,l8];simp
theorem A5(i m:Nat):(qx i m).length=m:=by simp[qx]
theorem O6(i m:Nat):(uk i m).length=m:=by simp[uk]
theorem GH(m:Nat):(uj m).length=m:=by simp[uj]
theorem wZ: ∀(m:Nat),(qy m).length=2*m
 |0=>rfl
 |m+1=>by rw[qy,w4,dp,<-qy,wZ m];simp;omega
theorem wD{p:Prog}(h: ∀j,k1 p j<=4): ∀(m:Nat),(kg p m).length<=8*m
 |0=>by simp[kg]
 |m+1=>by
  have:=wD h m
  have:=h m;rw[kg,w4,dp,<-kg,PW,dp,A5,O6];omega
theorem tP{p:Prog}(h:bt p=ab)(j:Nat):k1 p j<=4:=by
 unfold k1;cases d:p.parts[j]? with
 |none=>simp
 |some x=>
  simp only[bt,jk,b5,decide_eq_true_eq,g'] at h;have c:=h.1.2.2 x (bJ d);simp only[eI,b5] at c;have a:=c.1;unfold jL at a;split at a
  ·rename_i e
   have:=e.1;simp only[k0,b5,decide_eq_true_eq] at this;exact this.2
  cases a
theorem wk{p:Prog}(h:bt p=ab):p.parts.length<=4:=by
 simp only[bt,jk,b5,decide_eq_true_eq] at h
 grind
theorem L6{a b:Int}(h: ¬a<b):b<=a:=Int.not_lt.1 h
section
variable {p:Prog}{R:Type}{Q:R->Prop}
theorem PD(s:5000<=n)(w:m<=4)(y:xs.length<=100){K:List Step->Option R}(l:ad (K (xs++qx i (m-1))) Q):
  ad (bj (λa (z:List Step×Int)=>bif ah (wr (z.2+1)<(m:Int)) then bL (app z.1 [(⟨1,(i:Int),z.2,0⟩:Step)]) λd=>a (d,wr (z.2+1)) else K z.1) n (xs,0)) Q:=by
 refine ad.loop (λz:List Step×Int=> ∃k:Nat,z.2=k/\k<=m-1/\z.1=xs++qx i k) (λz=>m-z.2.toNat) ?_ n _ ⟨0,rfl,O,by simp[qx]⟩ J;rintro a ⟨x,c⟩ ⟨k,e,A,h⟩ o;dsimp only at e h⊢;subst e h;rw[bh O];refine aU (λq=>ai (cU (by rw[dp,A5];simp;omega)) (o _ ⟨k+1,aW,O,?_⟩ J)) λr=>?_
 ·dsimp only;rw[fr];congr 1;exact(GL _ _).symm
 rw[show k=m-1 by omega];exact l
theorem PC(s:5000<=n)(w:m<=4)(y:xs.length<=100){K:List Step->Option R}(A:ad (K (xs++uk i m)) Q):
  ad (bj (λa (z:List Step×Int)=>bif ah (z.2<(m:Int)) then bL (app z.1 [(⟨2,(i:Int),z.2,0⟩:Step)]) λd=>a (d,wr (z.2+1)) else K z.1) n (xs,0)) Q:=by
 refine ad.loop (λz:List Step×Int=> ∃k:Nat,z.2=k/\k<=m/\z.1=xs++uk i k) (λz=>m-z.2.toNat) ?_ n _ ⟨0,rfl,O,by simp[uk]⟩ J;rintro a ⟨x,c⟩ ⟨k,l,B,o⟩ q;dsimp only at l o⊢;subst l o;refine aU (λr=>ai (cU (by rw[dp,O6];simp;omega)) ?_) λh=>?_
 ·rw[bh O];refine q _ ⟨k+1,aW,O,?_⟩ J;dsimp only;rw[fr];congr 1;exact(GL _ _).symm
 have e:k=m:=by have:=L6 h;omega
 grind
theorem adU(r:5000<=n)(s:m<=4)(w:xs.length<=100){K:List Step->Option R}(i:ad (K (xs++qy (m-1))) Q):
  ad (bj (λa (z:List Step×Int)=>bif ah (wr (z.2+1)<(m:Int)) then bL (app z.1 [(⟨6,z.2,0,0⟩:Step),(⟨9,z.2,0,0⟩:Step)]) λd=>a (d,wr (z.2+1)) else K z.1) n (xs,0)) Q:=by
 refine ad.loop (λz:List Step×Int=> ∃k:Nat,z.2=k/\k<=m-1/\z.1=xs++qy k) (λz=>m-z.2.toNat) ?_ n _ ⟨0,rfl,O,by simp[qy]⟩ J;rintro a ⟨x,c⟩ ⟨k,e,y,h⟩ l;dsimp only at e h⊢;subst e h;rw[bh O];refine aU (λo=>ai (cU (by rw[dp,wZ];simp;omega)) (l _ ⟨k+1,aW,O,?_⟩ J)) λq=>?_
 ·dsimp only;rw[fr];congr 1;exact(w4 _ _).symm
 rw[show k=m-1 by omega];exact i
theorem adT(r:5000<=n)(s:m<=4)(w:xs.length<=100){K:List Step->Option R}(y:ad (K (xs++uj m)) Q):
  ad (bj (λa (z:List Step×Int)=>bif ah (z.2<(m:Int)) then bL (app z.1 [(⟨10,z.2,0,0⟩:Step)]) λd=>a (d,wr (z.2+1)) else K z.1) n (xs,0)) Q:=by
 refine ad.loop (λz:List Step×Int=> ∃k:Nat,z.2=k/\k<=m/\z.1=xs++uj k) (λz=>m-z.2.toNat) ?_ n _ ⟨0,rfl,O,by simp[uj]⟩ J;rintro a ⟨x,c⟩ ⟨k,i,A,l⟩ o;dsimp only at i l⊢;subst i l;refine aU (λq=>ai (cU (by rw[dp,GH];simp;omega)) ?_) λh=>?_
 ·rw[bh O];refine o _ ⟨k+1,aW,O,?_⟩ J;dsimp only;rw[fr];congr 1;exact(GL _ _).symm
 have e:k=m:=by have:=L6 h;omega
 grind
end
theorem Nu(o:5000<=n){p:Prog}(q:bt p=ab){Q:List Step->Prop}(s:Q (n0 p)):
  ad (bj (λd ((l,i):(List Step)×Int)=>bif ah (wr (i+1)<(p.parts.length:Int)) then bL (app l [(⟨6,i,0,0⟩:Step),(⟨9,i,0,0⟩:Step)]) λm=>d (m,wr (i+1)) else
   bj (λa ((e,c):(List Step)×Int)=>bif ah (c<(p.parts.length:Int)) then bL (app e [(⟨10,c,0,0⟩:Step)]) λk=>a (k,wr (c+1)) else bL (app e [(⟨11,0,0,0⟩:Step)]) λh=>aa h) n (l,0)) n (kg p p.parts.length,0)) Q:=by have r:=wk q;have cC:=wD (tP q) p.parts.length;refine adU o r (xs:=kg p p.parts.length) O (K:=λx=>bj (λa ((e,c):(List Step)×Int)=>bif ah (c<(p.parts.length:Int)) then bL (app e [(⟨10,c,0,0⟩:Step)]) λk=>a (k,wr (c+1)) else bL (app e [(⟨11,0,0,0⟩:Step)]) λh=>aa h) n (x,0)) ?_;refine adT o r (xs:=kg p p.parts.length++qy (p.parts.length-1)) (by rw[dp,wZ];omega) (K:=λx=>bL (app x [(⟨11,0,0,0⟩:Step)]) λh=>aa h) ?_;exact ai (cU (by rw[dp,dp,wZ,GH];simp;omega)) (ad.some s)
theorem Px{p:Prog}{x:Part}(h:p.parts[i]? =aa x):k1 p i=x.nest.length:=by unfold k1;rw[h]
theorem Sw(A:7000<=n){p:Prog}(B:fP p):Cf n p=aa (if bt p=ab then n0 p else []):=by
 refine ad.eq ?_;unfold Cf;refine ai (oe A B) (ad.cond (λh=>ad.some ?_) λh=>?_)
 ·rw[aY (by simpa using h)]
 have l:bt p=ab:=by simpa using h
 rw[aX l];have L:=wk l;refine ad.loop (λz:List Step×Int=> ∃i:Nat,z.2=i/\i<=p.parts.length/\z.1=kg p i) (λz=>p.parts.length-z.2.toNat) ?_ n _ ⟨0,rfl,O,by simp[kg]⟩ J;rintro a ⟨x,c⟩ ⟨i,r,W,s⟩ C;dsimp only at r s⊢;subst r s;have cC:=wD (tP l) i;refine aU (λF=>?_) λG=>?_
 ·have w:p.parts[i]? =aa p.parts[i]:=bo O;refine ai (bq w) ?_;have o:=Px w;have y:=tP l i;generalize p.parts[i]=X at o⊢;rw[<-o];refine PD (n:=n) (i:=i) (m:=k1 p i) (xs:=kg p i) O y O (K:=λH=>bj (λd ((e,k):(List Step)×Int)=>bif ah (k<(k1 p i:Int)) then bL (app e [(⟨2,(i:Int),k,0⟩:Step)]) λq=>d (q,wr (k+1)) else a (e,wr ((i:Int)+1))) n (H,0)) ?_;refine PC (n:=n) (i:=i) (m:=k1 p i) (xs:=kg p i++qx i (k1 p i-1)) O y (by rw[dp,A5];omega) (K:=λe=>a (e,wr ((i:Int)+1))) ?_;rw[bh O];refine C _ ⟨i+1,aW,O,?_⟩ J;dsimp only;rw[fr];exact(w4 _ _).symm
 rw[show i=p.parts.length by omega];exact Nu O l rfl
theorem Su(B:7000<=n){p:Prog}(C:fP p):Ca n p=aa (if bt p=ab then n0 p else []):=by
 refine ad.eq ?_;unfold Ca;refine ai (kM B C) (ad.cond (λh=>ad.some ?_) λh=>?_)
 ·rw[aY (by simpa using h)]
 have l:bt p=ab:=by simpa using h
 rw[aX l];have W:=wk l;refine ad.loop (λz:List Step×Int=> ∃i:Nat,z.2=i/\i<=p.parts.length/\z.1=kg p i) (λz=>p.parts.length-z.2.toNat) ?_ n _ ⟨0,rfl,O,by simp[kg]⟩ J;rintro a ⟨x,c⟩ ⟨i,s,X,w⟩ F;dsimp only at s w⊢;subst s w;have cC:=wD (tP l) i;refine aU (λG=>?_) λH=>?_
 ·have y:p.parts[i]? =aa p.parts[i]:=bo O;have q:az p.parts (i:Int)=aa p.parts[i]:=bq y;have o:=Px y;have A:=tP l i;simp only[q,Option.bind_some];generalize p.parts[i]=Z at o⊢;rw[<-o];refine PD (n:=n) (i:=i) (m:=k1 p i) (xs:=kg p i) O A O (K:=λL=>bj (λd ((e,k):(List Step)×Int)=>bif ah (k<(k1 p i:Int)) then bL (app e [(⟨2,(i:Int),k,0⟩:Step)]) λr=>d (r,wr (k+1)) else a (e,wr ((i:Int)+1))) n (L,0)) ?_;refine PC (n:=n) (i:=i) (m:=k1 p i) (xs:=kg p i++qx i (k1 p i-1)) O A (by rw[dp,A5];omega) (K:=λe=>a (e,wr ((i:Int)+1))) ?_;rw[bh O];refine F _ ⟨i+1,aW,O,?_⟩ J;dsimp only;rw[fr];exact(w4 _ _).symm
 rw[show i=p.parts.length by omega];exact Nu O l rfl
theorem aa1{p:Prog}(a:bt p=ab):(n0 p).length<=100/\0<(n0 p).length:=by
 have c:=wk a
 have:=wD (tP a) p.parts.length;unfold n0;simp only[List.length_append,wZ,GH,List.length_cons,List.length_nil];omega
end Go.Lift
