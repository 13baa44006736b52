/- Two programs that do the same. -/
import Derived.Test.YtdcjmccimcppbaaGreatARun1
import Derived.Test.YtdcjmccimcppbaaGreatADraw1
import Derived.Test.YtdcjmccimcppbaaGreatADrawD
set_option maxRecDepth 100000
set_option linter.unusedVariables false
namespace Go.Lift
open Go
theorem aHq{n:Nat}(hn:7100≤n){p:Prog}(hp:SmP p)(hv:dL p=true):kJ n p=some (iM p.arrays):=by
 refine Ev.eq ?_
 obtain⟨hl,hd,_⟩:=mD hv
 unfold kJ
 refine aA (gO (by omega) hp) ?_
 rw [hv]
 exact bY (aA (G6 (by omega) hl hd) (Ev.some rfl))
theorem aIw{α:Type}{n:Int}(h:0≤n∧n≤1000000000)(x:α):mk n x=some (List.replicate n.toNat x):=by unfold mk;rw [if_pos h]
theorem aFo{R:Type}{Q:R→Prop}{n:Nat}(hn:5000≤n){T:Nat}(hT:T≤1000){e:Int→Int}(he: ∀i,0≤i→i<(T:Int)→0≤e i∧e i≤999){K:List Int→Option R}(hK: ∀m,m.length=T→(∀x∈m,0≤x∧x≤999)→Ev (K m) Q):
  Ev (aL (fun again (z:(List Int)×Int)=>bif decide (z.2<(z.1.length:Int)) then(Option.bind (ix z.1 z.2) fun _=>Option.bind (gD z.1 z.2 (e z.2)) fun y=>again (y,wr (z.2+1))) else(K z.1)) n (List.replicate T 0,0)) Q:=by
 refine Ev.loop (fun z:List Int×Int=>0≤z.2∧z.2≤T∧z.1.length=T∧ ∀x∈z.1,0≤x∧x≤999) (fun z=>T-z.2.toNat) ?_ n _ ⟨Int.le_refl _,by dsimp only;omega,List.length_replicate,fun x hx=>by rw [(List.mem_replicate.1 hx).2];omega⟩ (by dsimp only;omega)
 rintro again ⟨x,i⟩ ⟨h0,h1,h2,h3⟩ hr
 dsimp only at h0 h1 h2 h3⊢
 refine aI (fun hlt=> ?_) (fun hge=>hK _ h2 h3)
 refine aA (aHK h0 (by omega)) (aA (aAp h0 (by omega) _) ?_)
 rw [aM (by omega)]
 exact hr _ ⟨by dsimp only;omega,by dsimp only;omega,by dsimp only;rw [List.length_set,h2],fun y hy=>by
  rcases List.mem_or_eq_of_mem_set hy with hy|rfl
  ·exact h3 y hy
  ·exact he i h0 (by omega)⟩ (by dsimp only;omega)
theorem aJi{x:Int}(h:0≤x):0≤Int.tmod x 1000∧Int.tmod x 1000≤999:=by
 have h1:=Int.tmod_nonneg 1000 h
 have h2:=Int.tmod_lt_of_pos x (show(0:Int)<1000 by omega)
 omega
theorem aEF{p:Prog}(hv:dL p=true):0≤iM p.arrays∧iM p.arrays≤144:=by
 obtain⟨hl,hd,_⟩:=mD hv
 have:=aCY hd
 omega
theorem aHF{p:Prog}{m:List Int}(hv:dL p=true)(hm:iO p.arrays m):aGW p m=(jZ p m (insts p.parts),true):=by
 unfold aGW;rw [aHa hv hm];rfl
theorem aF7{p q:Prog}(hp:SmP p)(hq:SmP q)(hv:dL p=true)(hw:dL q=true)(ha:q.arrays=p.arrays)(h: ∀m,iO p.arrays m→jZ q m (insts q.parts)=jZ p m (insts p.parts)){s:Int}(hs:0≤s∧s≤1048576):pE N p q s=some true:=by
 have hN:N=100000:=rfl
 have ht:=aEF hv
 refine Ev.eq ?_
 unfold pE
 refine aA (aHq (by omega) hp hv) (aA (aIw ⟨by omega,by omega⟩ 0) (aFo (n:=N) (T:=(iM p.arrays).toNat) (e:=fun i=>Int.tmod (wr ((wr ((wr (i*41))+(wr (s*17))))+3)) 1000) (K:=fun x3=>Option.bind (fC N p x3) fun x9=>Option.bind (fC N q x3) fun x10=>jn (fun(x13:Bool)=>some x13) (fun j11=>bif x9.2 then(bif x10.2 then(Option.bind (pD N x9.1 x10.1) fun x12=>j11 x12) else(j11 false)) else(j11 false))) (by omega) (by omega) (fun i h0 h1=> ?_) (fun m h1 h2=> ?_)))
 ·rw [aM (n:=i*41) (by omega),aM (n:=s*17) (by omega),aM (n:=i*41+s*17) (by omega),aM (by omega)]
  exact aJi (by omega)
 ·have hmo:iO p.arrays m:=⟨by omega,h2⟩
  have hmq:iO q.arrays m:=by rw [ha];exact hmo
  have hml:=aDc hv hmo
  refine aA (rG (by omega) hp hml) (aA (rG (by omega) hq hml) ?_)
  rw [aHF hv hmo,aHF hw hmq,h m hmo]
  have hok: ∀x∈insts p.parts,tD p x:=fun x hx=>insts_mem hx
  refine Ev.jn (fun z=>z=true) (fun j hj=>bX (bX (aA (aAG (by omega) (aDc hv (xL hv hok hmo))) (hj _ rfl)))) (fun z hz=>Ev.some hz)
theorem F6{α β R:Type}{l:List α}{F:α→(β→Option R)→Option R}{g:α→β}{K:List β→Option R}{Q:R→Prop}{n:Nat}(hF: ∀x∈l,∀k:β→Option R,Ev (k (g x)) Q→Ev (F x k) Q)
  {s:Nat} (hs:s≤l.length) {pre:List β} (hp:pre.length≤1000) (hl:l.length≤1000) (hn:5000≤n) (hK:Ev (K (pre++(l.drop s).map g)) Q):
  Ev (aL (fun again ((x,i):List β×Int)=>bif decide (i<(l.length:Int)) then(Option.bind (ix l i) fun y=>F y (fun z=>Option.bind (app x [z]) fun w=>again (w,wr (i+1)))) else K x) n (pre,(s:Int))) Q:=by
 refine Ev.loop (fun z:List β×Int=> ∃i:Nat,z.2=i∧s≤i∧i≤l.length∧z.1=pre++((l.drop s).take (i-s)).map g) (fun z=>l.length-z.2.toNat) ?_ n _ ⟨s,rfl,by omega,by omega,by simp⟩ (by dsimp only;omega)
 rintro again ⟨x,z⟩ ⟨i,hz,hsi,hi,hx⟩ hr
 dsimp only at hz hx⊢
 subst hz
 refine aI (fun hlt=> ?_) (fun hge=> ?_)
 ·have hg:=List.getElem?_eq_getElem (show i<l.length by omega)
  have hxl:x.length≤2000:=by rw [hx,List.length_append,List.length_map,List.length_take,List.length_drop];omega
  refine aA (aW hg) (hF _ (List.mem_of_getElem? hg) _ (aA (cO (by simp;omega)) ?_))
  rw [aM (by omega)]
  refine hr _ ⟨i+1,by dsimp only;omega,by omega,by omega,?_⟩ (by dsimp only;omega)
  dsimp only
  rw [show i+1-s=(i-s)+1 by omega,List.take_add_one,List.getElem?_drop,show s+(i-s)=i by omega,hg,hx,List.map_append,List.append_assoc];rfl
 ·have:i=l.length:=by omega
  subst this
  rw [hx,List.take_of_length_le (by rw [List.length_drop];omega)];exact hK
theorem tQ{α β R:Type}{l:List α}{f:α→Option β}{g:α→β}{K:List β→Option R}{Q:R→Prop}{n:Nat}(hf: ∀x∈l,f x=some (g x))(hl:l.length≤1000)(hn:5000≤n)(hK:Ev (K (l.map g)) Q):
  Ev (aL (fun again ((x,i):List β×Int)=>bif decide (i<(l.length:Int)) then(Option.bind (ix l i) fun y=>Option.bind (f y) fun z=>Option.bind (app x [z]) fun w=>again (w,wr (i+1))) else K x) n ([],0)) Q:=
 F6 (F:=fun y k=>Option.bind (f y) k) (g:=g) (s:=0) (pre:=[]) (fun x hx k hk=>aA (hf x hx) hk) (by omega) (by simp) hl hn (by simpa using hK)
theorem aCW{α R:Type}{l:List α}{F:α→(α→Option R)→Option R}{W:List α→Option R→Option R}{m:List α→Int}{g:α→α}{K:List α→Option R}{Q:R→Prop}{n:Nat}
  (hW: ∀y o,y.length=l.length→Ev o Q→Ev (W y o) Q) (hm: ∀y:List α,y.length=l.length→m y=(l.length:Int))
  {s:Nat} (hs:s≤l.length) (hF: ∀x∈l,∀k:α→Option R,Ev (k (g x)) Q→Ev (F x k) Q) (hl:l.length≤1000) (hn:5000≤n) (hK:Ev (K (l.take s++(l.drop s).map g)) Q):
  Ev (aL (fun again ((y,i):List α×Int)=>W y (bif decide (i<m y) then(Option.bind (ix y i) fun x=>F x (fun z=>Option.bind (gD y i z) fun w=>again (w,wr (i+1)))) else K y)) n (l,(s:Int))) Q:=by
 refine Ev.loop (fun z:List α×Int=> ∃i:Nat,z.2=i∧s≤i∧i≤l.length∧z.1=l.take s++((l.drop s).take (i-s)).map g++l.drop i) (fun z=>l.length-z.2.toNat) ?_ n _ ⟨s,rfl,by omega,by omega,by simp⟩ (by dsimp only;omega)
 rintro again ⟨x,z⟩ ⟨i,hz,hsi,hi,hx⟩ hr
 dsimp only at hz hx⊢
 subst hz
 have hpl:(l.take s++((l.drop s).take (i-s)).map g).length=i:=by rw [List.length_append,List.length_map,List.length_take,List.length_take,List.length_drop];omega
 have hxl:x.length=l.length:=by rw [hx,List.length_append,hpl,List.length_drop];omega
 refine hW _ _ hxl ?_
 rw [hm _ hxl]
 refine aI (fun hlt=> ?_) (fun hge=> ?_)
 ·obtain⟨e,hg⟩: ∃e,l[i]? =some e:=⟨_,List.getElem?_eq_getElem (show i<l.length by omega)⟩
  have hgx:x[i]? =some e:=by
   rw [hx,List.getElem?_append_right (by omega),hpl,Nat.sub_self,List.getElem?_drop];exact hg
  refine aA (aW hgx) (hF _ (List.mem_of_getElem? hg) _ (aA (gL (by omega) _) ?_))
  rw [aM (by omega)]
  refine hr _ ⟨i+1,by dsimp only;omega,by omega,by omega,?_⟩ (by dsimp only;omega)
  dsimp only
  rw [hx,Int.toNat_natCast,List.set_append_right _ _ (by omega),hpl,Nat.sub_self,kM hg,List.set_cons_zero,show i+1-s=(i-s)+1 by omega,List.take_add_one,List.getElem?_drop,show s+(i-s)=i by omega,hg]
  simp
 ·have:i=l.length:=by omega
  subst this
  rw [hx,List.take_of_length_le (l:=l.drop s) (by rw [List.length_drop];omega),List.drop_length,List.append_nil];exact hK
def xS(f:Affine→Affine)(a:Access):Access:=⟨a.array,a.subs.map f⟩
def aE5(f:Affine→Affine):Nat→Expr→Expr
 |0,e=>e
 |L+1,e=>⟨e.kind,e.num,if e.kind=2 then f e.index else⟨[],0⟩,if e.kind=3 then xS f e.read else⟨[],[]⟩,e.kids.map (aE5 f L)⟩
def aIx(f:Affine→Affine)(s:Stmt):Stmt:=⟨xS f s.write,aE5 f 5 s.value⟩
theorem uL{e:Expr}{d:Int}(h:cR e d=true)(hk:e.kind=2):dD e.index=true∧l3 e.read=true:=by
 unfold cR bP at h
 rw [if_pos hk] at h
 simp only [Bool.and_eq_true] at h
 exact⟨h.2.2.1,h.2.1⟩
theorem D7{e:Expr}{d:Int}(h:cR e d=true)(hk:e.kind=3):fY e.read d=true∧iN e.index=true:=by
 unfold cR at h
 rw [if_neg (by omega),if_pos hk] at h
 simp only [Bool.and_eq_true] at h
 exact⟨h.2.2,h.2.1⟩
theorem D8{e:Expr}{d:Int}(h:cR e d=true)(h2: ¬e.kind=2)(h3: ¬e.kind=3):iN e.index=true∧l3 e.read=true:=by
 unfold cR at h
 rw [if_neg h2,if_neg h3] at h
 split at h<;>simp only [Bool.and_eq_true] at h<;>exact⟨h.2.1,h.2.2⟩
theorem nR{a:Affine}(h:iN a=true):a=⟨[],0⟩:=by
 obtain⟨c,k⟩:=a
 simp only [iN,Bool.and_eq_true,decide_eq_true_eq] at h
 obtain⟨h1,rfl⟩:=h
 rw [List.eq_nil_of_length_eq_zero h1]
theorem nS{a:Access}(h:l3 a=true):a=⟨[],[]⟩:=by
 obtain⟨c,k⟩:=a
 simp only [l3,Bool.and_eq_true,decide_eq_true_eq] at h
 obtain⟨rfl,h1⟩:=h
 rw [List.eq_nil_of_length_eq_zero h1]
theorem sV{n:Nat}(hn:5000≤n){a:Access}{d:Int}(ha:fY a d=true){F:Affine→Option Affine}{f:Affine→Affine}(hF: ∀x,dD x=true→F x=some (f x)):jN n a F=some (xS f a):=by
 obtain⟨h1,h2,h3⟩:=zE ha
 refine Ev.eq ?_
 unfold jN
 exact tQ (K:=fun x1=>some (⟨a.array,x1⟩:Access)) (fun x hx=>hF x (h3 x hx)) (by omega) hn (Ev.some rfl)
theorem wI{d:Int}{F:Affine→Option Affine}{f:Affine→Affine}(hF: ∀x,dD x=true→F x=some (f x)): ∀(L n:Nat) (e:Expr),5000+L≤n→bL L e d=true→i_exprMap (n+1) e F=some (aE5 f L e)
 |0,_,_,_,h=>by cases h
 |L+1,n,e,hn,h=>by
  obtain⟨hk,ho,hs⟩:=cC h
  obtain⟨n,rfl⟩: ∃j,n=j+1:=⟨n-1,by omega⟩
  have hkl:e.kids.length≤2:=by have:=nV e.kind;omega
  unfold i_exprMap
  refine Ev.eq (Ev.jn (fun z=>(⟨z.1,z.2.1⟩:Affine)=(if e.kind=2 then f e.index else⟨[],0⟩)∧(⟨z.2.2.1,z.2.2.2⟩:Access)=(if e.kind=3 then xS f e.read else⟨[],[]⟩)) (fun j hj=> ?_) (fun z hz=> ?_))
  ·refine aI (fun h2=> ?_) (fun h2=>aI (fun h3=> ?_) (fun h3=> ?_))
   ·exact aA (hF _ (uL ho h2).1) (hj _ ⟨by rw [if_pos h2],by rw [if_neg (by omega)]⟩)
   ·exact aA (sV (by omega) (D7 ho h3).1 hF) (hj _ ⟨by rw [if_neg h2],by rw [if_pos h3]⟩)
   ·exact hj _ ⟨by rw [if_neg h2],by rw [if_neg h3]⟩
  ·obtain⟨x4,x5,x6,x7⟩:=z
   obtain⟨z1,z2⟩:=hz
   dsimp only at z1 z2⊢
   refine tQ (K:=fun x8=>some (⟨e.kind,e.num,(⟨x4,x5⟩:Affine),(⟨x6,x7⟩:Access),x8⟩:Expr)) (fun x hx=>wI hF L n x (by omega) (hs x hx)) (by omega) (by omega) (Ev.some ?_)
   rw [z1,z2];rfl
theorem V5{n:Nat}(hn:6000≤n){s:Stmt}{d:Int}(hs:dJ s d=true){F:Affine→Option Affine}{f:Affine→Affine}(hF: ∀x,dD x=true→F x=some (f x)):pR n s F=some (aIx f s):=by
 obtain⟨h1,h2,_⟩:=kW hs
 obtain⟨n,rfl⟩: ∃j,n=j+1:=⟨n-1,by omega⟩
 unfold pR
 rw [sV (by omega) h1 hF,wI hF 5 n s.value (by omega) h2];rfl
theorem aB3{α:Type}{f:α→α}: ∀{l:List α},(∀x∈l,f x=x)→l.map f=l
 | [],_=>rfl
 |x::l,h=>by rw [List.map_cons,h x List.mem_cons_self,aB3 (fun y hy=>h y (List.mem_cons_of_mem _ hy))]
theorem Q1{f:Affine→Affine}{a:Access}{d:Int}(ha:fY a d=true)(hf: ∀x,dD x=true→f x=x):xS f a=a:=by
 obtain⟨h1,h2,h3⟩:=zE ha
 unfold xS
 rw [aB3 (fun x hx=>hf x (h3 x hx))]
theorem aDd{d:Int}{f:Affine→Affine}(hf: ∀x,dD x=true→f x=x): ∀{L:Nat} {e:Expr},bL L e d=true→aE5 f L e=e
 |0,_,_=>rfl
 |L+1,e,h=>by
  obtain⟨hk,ho,hs⟩:=cC h
  obtain⟨kind,num,index,read,kids⟩:=e
  unfold aE5
  dsimp only at hk ho hs⊢
  rw [aB3 (fun x hx=>aDd hf (hs x hx))]
  by_cases h2:kind=2
  ·have e1:=uL ho h2
   dsimp only at e1
   rw [if_pos h2,if_neg (by omega),hf _ e1.1,nS e1.2]
  ·by_cases h3:kind=3
   ·have e1:=D7 ho h3
    dsimp only at e1
    rw [if_neg h2,if_pos h3,Q1 e1.1 hf,nR e1.2]
   ·have e1:=D8 ho h2 h3
    dsimp only at e1
    rw [if_neg h2,if_neg h3,nR e1.1,nS e1.2]
theorem aHb{f:Affine→Affine}(hf: ∀x,dD x=true→f x=x){s:Stmt}{d:Int}(hs:dJ s d=true):aIx f s=s:=by
 obtain⟨h1,h2,_⟩:=kW hs
 unfold aIx
 rw [Q1 h1 hf,aDd hf h2]
def aIy(l:Loop):Prop:=(l.lo.length≤2∧ ∀x∈l.lo,dD x=true)∧l.hi.length≤2∧ ∀x∈l.hi,dD x=true
theorem aIK{nest:List Loop}(h:Fit nest): ∀l∈nest,aIy l:=fun l hl=>by
 obtain⟨i,hi⟩:=List.mem_iff_getElem?.1 hl
 have:=h.2 i l hi
 exact⟨(rU this.1).2,(rU this.2).2⟩
theorem aC6{list:List Arr}{x:Part}(h:cM list x=true):x.nest.length≤4∧ ∀l∈x.nest,aIy l:=by
 have:=(aGf (kC h).1).1
 exact⟨this.1,aIK this⟩
theorem aHV{a:Affine}(h:dD a=true):BA 4 a:=by have:=(lU h).1;unfold BA;omega
theorem Y7{l:List Affine}(h1:l.length≤2)(h2: ∀x∈l,dD x=true):BAs 4 l:=⟨by omega,fun a ha=>aHV (h2 a ha)⟩
theorem aHU{d:Int}: ∀{L:Nat} {e:Expr},bL L e d=true→BE 4 L e
 |0,_,h=>by cases h
 |L+1,e,h=>by
  obtain⟨hk,ho,hs⟩:=cC h
  have:=nV e.kind
  refine⟨by omega,?_,?_,fun k hk=>aHU (hs k hk)⟩
  ·by_cases h2:e.kind=2
   ·exact aHV (uL ho h2).1
   ·by_cases h3:e.kind=3
    ·rw [nR (D7 ho h3).2];unfold BA;simp
    ·rw [nR (D8 ho h2 h3).1];unfold BA;simp
  ·by_cases h3:e.kind=3
   ·have:=zE (D7 ho h3).1
    exact Y7 this.2.1 this.2.2
   ·by_cases h2:e.kind=2
    ·rw [nS (uL ho h2).2];exact⟨by simp,fun x hx=>by cases hx⟩
    ·rw [nS (D8 ho h2 h3).2];exact⟨by simp,fun x hx=>by cases hx⟩
theorem aHR{s:Stmt}{d:Int}(hs:dJ s d=true):BS 4 s:=by
 obtain⟨h1,h2,_⟩:=kW hs
 have:=zE h1
 exact⟨Y7 this.2.1 this.2.2,aHU h2⟩
theorem aIS{list:List Arr}{x:Part}(h:cM list x=true):BPt 4 x:=by
 obtain⟨h1,h2⟩:=aC6 h
 obtain⟨_,h4,h5,_⟩:=kC h
 exact⟨⟨h1,fun l hl=>⟨Y7 (h2 l hl).1.1 (h2 l hl).1.2,Y7 (h2 l hl).2.1 (h2 l hl).2.2⟩⟩,h4.2,fun s hs=>aHR (h5 s hs)⟩
theorem aHS{l:List Arr}(h1:l.length≤4)(h2:fL l):BR 4 l:=⟨h1,fun x hx=>by
 have:=h2 x hx
 simp only [iQ,Bool.and_eq_true,decide_eq_true_eq] at this
 omega⟩
theorem aHT{p:Prog}(h:dL p=true):BG 4 p:=by
 obtain⟨h1,h2,h3,h4,_⟩:=mD h
 exact⟨aHS h1 h2,h3,fun x hx=>aIS (h4 x hx)⟩
theorem aDJ(n:Nat){a:Affine}(h:a.coefs.length≤1000):fB n a=some a:=by
 unfold fB m_ownClone
 rw [if_pos (by omega)];rfl
theorem O9(n:Nat): ∀x,dD x=true→fB n x=some x:=fun x hx=>aDJ n (by have:=(lU hx).1;omega)
theorem D9{n:Nat}(hn:5000≤n){l:List Affine}(h1:l.length≤2)(h2: ∀x∈l,dD x=true):fA n l=some l:=by
 unfold fA
 refine Ev.eq (tQ (g:=fun x=>x) (K:=fun x1=>some x1) (fun x hx=>O9 n x (h2 x hx)) (by omega) hn (Ev.some ?_))
 simp
theorem aBS{n:Nat}(hn:5000≤n){nest:List Loop}(h1:nest.length≤4)(h2: ∀l∈nest,aIy l):pS n nest=some nest:=by
 unfold pS
 refine Ev.eq ?_
 refine F6 (β:=Loop) (l:=nest) (n:=n) (F:=fun x5 k=>Option.bind (fA n x5.lo) fun x6=>Option.bind (fA n x5.hi) fun x7=>k (⟨x6,x7⟩:Loop)) (g:=fun x=>x) (s:=0) (pre:=[]) (K:=fun x1=>some x1) ?_ (by omega) (by simp) (by omega) hn (Ev.some (by simp))
 exact fun x hx k hk=>aA (D9 hn (h2 x hx).1.1 (h2 x hx).1.2) (aA (D9 hn (h2 x hx).2.1 (h2 x hx).2.2) hk)
theorem D6{n:Nat}(hn:6000≤n){s:Stmt}{d:Int}(hs:dJ s d=true):m8 n s=some s:=by
 unfold m8
 rw [V5 hn hs (F:=fun q0=>fB n q0) (f:=fun x=>x) (O9 n),aHb (fun _ _=>rfl) hs];rfl
theorem aBR{n:Nat}(hn:6000≤n){list:List Arr}{x:Part}(h:cM list x=true):m9 n x=some x:=by
 obtain⟨h1,h2⟩:=aC6 h
 obtain⟨_,h4,h5,_⟩:=kC h
 unfold m9
 refine Ev.eq (aA (aBS (by omega) h1 h2) (tQ (g:=fun x=>x) (K:=fun x2=>some (⟨x.nest,x2⟩:Part)) (fun s hs=>D6 hn (h5 s hs)) (by omega) (by omega) (Ev.some ?_)))
 simp
theorem aIs{n:Nat}(hn:6000≤n){p:Prog}(h:dL p=true):iW n p=some p:=by
 obtain⟨h1,h2,h3,h4,_⟩:=mD h
 unfold iW
 refine Ev.eq (F6 (F:=fun x5 k=>Option.bind (m_ownClone x5.dims) fun x6=>k (⟨x5.name,x6⟩:Arr)) (g:=fun x=>x) (s:=0) (pre:=[]) (K:=fun x1=>aL (fun again11 ((x8,x9):(List Part)×Int)=>
    bif decide (x9<(p.parts.length:Int)) then(
     Option.bind (ix p.parts x9) fun x12=>
     Option.bind (m9 n x12) fun x13=>
     Option.bind (app x8 [x13]) fun x14=>
     again11 (x14,wr (x9+1))
    ) else(
     some (⟨x1,x8⟩:Prog)
    )
   ) n ([],0)) (fun x hx k hk=>aA (x:=x.dims) ?_ hk) (by omega) (by simp) (by omega) (by omega) ?_)
 ·have:=(aHS h1 h2).2 x hx
  unfold m_ownClone
  rw [if_pos (by omega)]
 ·refine tQ (g:=fun x=>x) (K:=fun x8=>some (⟨_,x8⟩:Prog)) (fun x hx=>aBR hn (h4 x hx)) (by omega) (by omega) (Ev.some ?_)
  simp
theorem aBH{α:Type}{a b:List α}(h:b.length=a.length):jQ a b=some ():=by unfold jQ;rw [if_pos h]
theorem P5(n:Nat){a:Affine}(h:BA 1000 a):fP n a=some a:=by
 unfold fP
 rw [fG _ h];rfl
theorem uO{n:Nat}(hn:5000≤n){l:List Affine}(h:BAs 1000 l):cL n l=some l:=by
 unfold cL
 exact Ev.eq (l8 (K:=fun x1=>some x1) (fun x hx=>P5 n (h.2 x hx)) h.1 hn (Ev.some rfl))
theorem P6{n:Nat}(hn:5000≤n){a:Access}(h:BAs 1000 a.subs):fQ n a=some a:=by
 unfold fQ
 rw [uO hn h];rfl
theorem E3: ∀(L n:Nat) (e:Expr),5000+L≤n→BE 1000 L e→s_l16OwnExpr (n+1) e=some e
 |0,_,_,_,h=>h.elim
 |L+1,n,e,hn,h=>by
  obtain⟨h1,h2,h3,h4⟩:=h
  obtain⟨n,rfl⟩: ∃j,n=j+1:=⟨n-1,by omega⟩
  unfold s_l16OwnExpr iA
  rw [P5 _ h2,P6 (by omega) h3]
  refine Ev.eq (aA rfl (aA rfl (aA (x:=e.kids) ?_ (Ev.some (by cases e;rfl)))))
  exact Ev.eq (l8 (f:=s_l16OwnExpr (n+1)) (K:=fun x1=>some x1) (fun x hx=>E3 L n x (by omega) (h4 x hx)) h1 (by omega) (Ev.some rfl))
theorem aBW{n:Nat}(hn:6000≤n){s:Stmt}(h:BS 1000 s):jT n s=some s:=by
 obtain⟨n,rfl⟩: ∃j,n=j+1:=⟨n-1,by omega⟩
 unfold jT
 rw [P6 (by omega) h.1,E3 5 n s.value (by omega) h.2];rfl
theorem aBY{n:Nat}(hn:6000≤n){x:Part}(h:BPt 1000 x):jU n x=some x:=by
 obtain⟨⟨h1,h2⟩,h3,h4⟩:=h
 have e1:fO n x.nest=some x.nest:=by
  unfold fO
  refine Ev.eq (l8 (K:=fun x1=>some x1) (fun l hl=> ?_) h1 (by omega) (Ev.some rfl))
  unfold mO
  rw [uO (by omega) (h2 l hl).1,uO (by omega) (h2 l hl).2];rfl
 have e2:fM n x.body=some x.body:=by
  unfold fM
  exact Ev.eq (l8 (K:=fun x1=>some x1) (fun l hl=>aBW hn (h4 l hl)) h3 (by omega) (Ev.some rfl))
 unfold jU
 rw [e1,e2];rfl
theorem aBX{n:Nat}(hn:6000≤n){p:Prog}(h:BG 1000 p):gE n p=some p:=by
 obtain⟨⟨h1,h2⟩,h3,h4⟩:=h
 have e1:eU n p.arrays=some p.arrays:=by
  unfold eU
  refine Ev.eq (l8 (K:=fun x1=>some x1) (fun l hl=> ?_) h1 (by omega) (Ev.some rfl))
  unfold lN
  rw [fG _ (h2 l hl)];rfl
 have e2:fN n p.parts=some p.parts:=by
  unfold fN
  exact Ev.eq (l8 (K:=fun x1=>some x1) (fun l hl=>aBY hn (h4 l hl)) h3 (by omega) (Ev.some rfl))
 unfold gE
 rw [e1,e2];rfl
theorem pG{α:Type}{f:α→α→Option Bool}{l:List α}(hf: ∀x∈l,f x x=some true){n:Nat}(hn:l.length<n)(hl:l.length≤1000000):
  (bif !decide ((l.length:Int)=(l.length:Int)) then(some false) else(aL (fun again2 (x1:Int)=>bif decide (x1<(l.length:Int)) then(Option.bind (ix l x1) fun x3=>Option.bind (ix l x1) fun x4=>Option.bind (f x3 x4) fun x5=>bif !x5 then(some false) else(again2 (wr (x1+1)))) else(some true)) n 0))=some true:=by
 refine Ev.eq (iL (fun h=>(h rfl).elim) (fun _=> ?_))
 refine Ev.loop (fun x:Int=> ∃i:Nat,x=i∧i≤l.length) (fun x=>l.length-x.toNat) ?_ n 0 ⟨0,rfl,by omega⟩ (by omega)
 rintro again x ⟨i,rfl,hi⟩ hr
 refine aI (fun hlt=> ?_) (fun _=>Ev.some rfl)
 obtain⟨e,hg⟩: ∃e,l[i]? =some e:=⟨_,List.getElem?_eq_getElem (show i<l.length by omega)⟩
 refine aA (aW hg) (aA (aW hg) (aA (hf e (List.mem_of_getElem? hg)) (bY ?_)))
 rw [aM (by omega)]
 exact hr _ ⟨i+1,by omega,by omega⟩ (by omega)
theorem O2{a:List Int}{n:Nat}(hn:a.length<n)(hl:a.length≤1000000):jK n a a=some true:=by
 unfold jK
 refine Ev.eq (iL (fun h=>(h rfl).elim) (fun _=> ?_))
 refine Ev.loop (fun x:Int=> ∃i:Nat,x=i∧i≤a.length) (fun x=>a.length-x.toNat) ?_ n 0 ⟨0,rfl,by omega⟩ (by omega)
 rintro again x ⟨i,rfl,hi⟩ hr
 refine aI (fun hlt=> ?_) (fun _=>Ev.some rfl)
 obtain⟨e,hg⟩: ∃e,a[i]? =some e:=⟨_,List.getElem?_eq_getElem (show i<a.length by omega)⟩
 refine aA (aW hg) (aA (aW hg) (iL (fun h=>(h rfl).elim) (fun _=> ?_)))
 rw [aM (by omega)]
 exact hr _ ⟨i+1,by omega,by omega⟩ (by omega)
theorem aDv{n:Nat}(hn:5000≤n){a:Affine}(h:BA 1000 a):b8 n a a=some true:=by
 unfold BA at h
 unfold b8
 refine Ev.eq (Ev.jn (fun z=>z=true) (fun j hj=>aA (O2 (by omega) (by omega)) (bX (hj _ (decide_eq_true rfl)))) (fun z hz=>Ev.some hz))
theorem L4{n:Nat}(hn:5000≤n){l:List Affine}(h:BAs 1000 l):cN n l l (fun q0 q1=>b8 n q0 q1)=some true:=by
 have:=h.1
 unfold cN
 exact pG (fun x hx=>aDv hn (h.2 x hx)) (by omega) (by omega)
theorem aDw{n:Nat}(hn:5000≤n){a:Access}(h:BAs 1000 a.subs):iH n a a=some true:=by
 unfold iH
 refine Ev.eq (Ev.jn (fun z=>z=true) (fun j hj=> ?_) (fun z hz=>Ev.some hz))
 exact aI (fun _=>aA (L4 hn h) (hj _ rfl)) (fun h=>(h rfl).elim)
theorem aAW: ∀(L n:Nat) (e:Expr),5000+L≤n→BE 1000 L e→i_exprSame (n+1) e e=some true
 |0,_,_,_,h=>h.elim
 |L+1,n,e,hn,h=>by
  obtain⟨h1,h2,h3,h4⟩:=h
  obtain⟨n,rfl⟩: ∃j,n=j+1:=⟨n-1,by omega⟩
  unfold i_exprSame
  refine Ev.eq (Ev.jn (fun z=>z=true) (fun j hj=> ?_) (fun z hz=>Ev.some hz))
  refine aI (fun _=>aI (fun _=>aA (aDv (by omega) h2) (bX (aA (aDw (by omega) h3) (bX (aA (x:=true) ?_ (hj _ rfl)))))) (fun h=>(h rfl).elim)) (fun h=>(h rfl).elim)
  unfold iG
  exact pG (fun x hx=>aAW L n x (by omega) (h4 x hx)) (by omega) (by omega)
theorem aEH{n:Nat}(hn:6000≤n){s:Stmt}(h:BS 1000 s):lH n s s=some true:=by
 obtain⟨n,rfl⟩: ∃j,n=j+1:=⟨n-1,by omega⟩
 unfold lH
 refine Ev.eq (Ev.jn (fun z=>z=true) (fun j hj=> ?_) (fun z hz=>Ev.some hz))
 exact aA (aDw (by omega) h.1) (bX (aA (aAW 5 n s.value (by omega) h.2) (hj _ rfl)))
theorem aE1{n:Nat}(hn:5000≤n){nest:List Loop}(h:BN 1000 nest):nY n nest nest=some true:=by
 have:=h.1
 unfold nY iF
 rw [pG (fun l hl=> ?_) (by omega) (by omega)]
 ·rfl
 ·unfold kH
  refine Ev.eq (Ev.jn (fun z=>z=true) (fun j hj=> ?_) (fun z hz=>Ev.some hz))
  exact aA (L4 hn (h.2 l hl).1) (bX (aA (L4 hn (h.2 l hl).2) (hj _ rfl)))
theorem aEW{n:Nat}(hn:6000≤n){x:Part}(h:BPt 1000 x):eN n x x=some true:=by
 have:=h.2.1
 unfold eN
 refine Ev.eq (Ev.jn (fun z=>z=true) (fun j hj=> ?_) (fun z hz=>Ev.some hz))
 refine aA (aE1 (by omega) h.1) (bX (aA (x:=true) ?_ (hj _ rfl)))
 unfold iD
 exact pG (fun s hs=>aEH hn (h.2.2 s hs)) (by omega) (by omega)
theorem aAB{n:Nat}(hn:6000≤n){p:Prog}(h:BG 1000 p):dH n p p=some true:=by
 obtain⟨⟨h1,h2⟩,h3,h4⟩:=h
 unfold dH
 refine Ev.eq (Ev.jn (fun z=>z=true) (fun j hj=> ?_) (fun z hz=>Ev.some hz))
 refine aA (x:=true) ?_ (bX (aA (x:=true) ?_ (hj _ rfl)))
 ·unfold gN
  refine pG (fun x hx=> ?_) (by omega) (by omega)
  unfold eO
  refine Ev.eq (Ev.jn (fun z=>z=true) (fun j hj=> ?_) (fun z hz=>Ev.some hz))
  have:=h2 x hx
  exact aI (fun _=>aA (O2 (by omega) (by omega)) (hj _ rfl)) (fun h=>(h rfl).elim)
 ·unfold iE
  exact pG (fun x hx=>aEW hn (h4 x hx)) (by omega) (by omega)
def bB(m:Int)(a:Affine):Prop:=a.coefs.length=4∧zX m a.const∧ ∀c∈a.coefs,zX m c
theorem bB.mono{m m':Int}{a:Affine}(h:bB m a)(hm:m≤m'):bB m' a:=⟨h.1,⟨by have:=h.2.1.1;omega,by have:=h.2.1.2;omega⟩,fun c hc=>⟨by have:=(h.2.2 c hc).1;omega,by have:=(h.2.2 c hc).2;omega⟩⟩
def noP:Prog×Bool:=(⟨[],[]⟩,false)
theorem aEK{α:Type}{l:List α}{i:Nat}{x:α}(h:l[i]? =some x):l.set i x=l:=by
 refine List.ext_getElem? (fun j=> ?_)
 by_cases hj:i=j
 ·subst hj
  rw [List.getElem?_set_self (List.getElem?_eq_some_iff.1 h).1,h]
 ·rw [List.getElem?_set_ne hj]
theorem aIu:BG 1000 noP.1:=⟨⟨by simp [noP],fun x hx=>by cases hx⟩,by simp [noP],fun x hx=>by cases hx⟩
theorem aIJ{B:Option Bool}{a b:Int}(h:b≤1048576→Ev B (fun r=>r=true)):Ev (jn (fun(x2:Bool)=>bif x2 then(some true) else B) (fun j1=>bif decide ((1048576:Int)<a) then(j1 true) else(j1 (decide ((1048576:Int)<b))))) (fun r=>r=true):=by
 exact Ev.jn (fun z=>z=false→b≤1048576) (fun j hj=>aI (fun _=>hj _ (fun h=>by cases h)) (fun _=>hj _ (fun h=>by have:=of_decide_eq_false h;omega))) (fun z hz=>Ev.cond (fun _=>Ev.some rfl) (fun h0=>h (hz h0)))
theorem aII{I S:Option (Prog×Bool)}{REST:Prog×Bool→Prog×Bool→Option Bool}{R:Prog×Bool}(hR:BG 1000 R.1)(h1:I=some R)(h2:S=some R)(hb:R.2=true→Ev (REST R R) (fun r=>r=true)):
  Ev (Option.bind I fun x4=>Option.bind S fun x5=>jn (fun(x8:Bool)=>
    bif x8 then(
     jn (fun(x11:Bool)=>
      some x11
     ) (fun j9=>
      bif(x4.2==x5.2) then(
       Option.bind (dH N x4.1 x5.1) fun x10=>
       j9 x10
      ) else(
       j9 false
      )
     )
    ) else(
     REST x4 x5
    )
   ) (fun j6=>
    bif !(x4.2==x5.2) then(
     j6 true
    ) else(
     Option.bind (dH N x4.1 x5.1) fun x7=>
     bif !x7 then(
      j6 true
     ) else(
      j6 (!x4.2)
     )
    )
   )) (fun r=>r=true):=by
 have hN:N=100000:=rfl
 have hs:=aAB (n:=N) (by omega) hR
 have he:(R.2==R.2)=true:=by cases R.2<;>rfl
 refine aA h1 (aA h2 (Ev.jn (fun z=>z= !R.2) (fun j hj=> ?_) (fun z hz=> ?_)))
 ·rw [he]
  exact bY (aA hs (bY (hj _ rfl)))
 ·subst hz
  cases hr:R.2 with
  |false=>exact bX (Ev.jn (fun z=>z=true) (fun j hj=>bX (aA hs (hj _ rfl))) (fun z hz=>Ev.some hz))
  |true=>exact bY (hb hr)
theorem Q0{α β:Type}{f g:α→β}: ∀{l:List α},(∀x∈l,f x=g x)→l.map f=l.map g
 | [],_=>rfl
 |x::l,h=>by rw [List.map_cons,List.map_cons,h x List.mem_cons_self,Q0 (fun y hy=>h y (List.mem_cons_of_mem _ hy))]
def qO(n:Int):Expr:=⟨1,n,⟨[],0⟩,⟨[],[]⟩,[]⟩
def yV(e:Expr)(n:Int):Bool:=decide (e.kind=1)&&decide (e.num=n)
def uM(k x y:Int):Int:=if k=5 then x-y else if k=6 then x*y else x+y
def fS(e:Expr):Expr:=
 if e.kind=2∧b9 e.index.coefs=0∧0≤e.index.const then qO e.index.const
 else match e.kids with
  | [a,b]=>
   if a.kind=1∧b.kind=1 then(if 0≤uM e.kind a.num b.num∧uM e.kind a.num b.num≤99 then qO (uM e.kind a.num b.num) else e)
   else if(¬e.kind=6∧yV b 0=true)∨(e.kind=6∧yV b 1=true) then a
   else if(e.kind=4∧yV a 0=true)∨(e.kind=6∧yV a 1=true) then b
   else if e.kind=6∧(yV a 0=true∨yV b 0=true) then qO 0
   else e
  |_=>e
def gP(e:Expr)(ks:List Expr):Expr:=⟨e.kind,e.num,e.index,e.read,ks⟩
def bV:Nat→Expr→Expr
 |0,e=>e
 |L+1,e=>fS (gP e (e.kids.map (bV L)))
theorem aAo{d:Int}: ∀{L:Nat} {e:Expr},bL L e d=true→bL (L+1) e d=true
 |0,_,h=>by cases h
 |L+1,e,h=>by
  obtain⟨hk,ho,hs⟩:=cC h
  show(decide (eA e.kind=e.kids.length)&&(cR e d&&e.kids.all (fun k=>bL (L+1) k d)))=true
  rw [decide_eq_true hk,ho,Bool.true_and,Bool.true_and]
  exact List.all_eq_true.2 (fun k hkm=>aAo (hs k hkm))
theorem vU{L:Nat}{e:Expr}{d:Int}(h1:eA e.kind=e.kids.length)(h2:cR e d=true)(h3: ∀k∈e.kids,bL L k d=true):bL (L+1) e d=true:=by
 show(decide (eA e.kind=e.kids.length)&&(cR e d&&e.kids.all (fun k=>bL L k d)))=true
 rw [decide_eq_true h1,h2,Bool.true_and,Bool.true_and]
 exact List.all_eq_true.2 h3
theorem aDm{d:Int}: ∀{L:Nat} {e:Expr},bL L e d=true→bV (L+1) e=bV L e
 |0,_,h=>by cases h
 |L+1,e,h=>by
  obtain⟨hk,ho,hs⟩:=cC h
  show fS (gP e (e.kids.map (bV (L+1))))=fS (gP e (e.kids.map (bV L)))
  rw [show e.kids.map (bV (L+1))=e.kids.map (bV L) from List.map_congr_left (fun k hkm=>aDm (hs k hkm))]
theorem aFY{d:Int}: ∀{L:Nat} {e:Expr},bL L e d=true→kS (L+1) e=kS L e
 |0,_,h=>by cases h
 |L+1,e,h=>by
  obtain⟨hk,ho,hs⟩:=cC h
  show 1+(e.kids.map (kS (L+1))).sum=1+(e.kids.map (kS L)).sum
  rw [show e.kids.map (kS (L+1))=e.kids.map (kS L) from List.map_congr_left (fun k hkm=>aFY (hs k hkm))]
theorem aAA{d:Int}: ∀{L:Nat} {e:Expr},bL L e d=true→bO (L+1) e=bO L e
 |0,_,h=>by cases h
 |L+1,e,h=>by
  obtain⟨hk,ho,hs⟩:=cC h
  show(if e.kind=3 then [e.read] else [])++e.kids.flatMap (bO (L+1))=(if e.kind=3 then [e.read] else [])++e.kids.flatMap (bO L)
  rw [List.flatMap_def,List.flatMap_def,show e.kids.map (bO (L+1))=e.kids.map (bO L) from List.map_congr_left (fun k hkm=>aAA (hs k hkm))]
theorem T4{d:Int}(list:List Arr)(m q:List Int): ∀{L:Nat} {e:Expr},bL L e d=true→iP (L+1) list m e q=iP L list m e q
 |0,_,h=>by cases h
 |L+1,e,h=>by
  obtain⟨hk,ho,hs⟩:=cC h
  obtain⟨kind,num,index,read,kids⟩:=e
  dsimp only at hs
  unfold iP
  dsimp only
  match kids,hs with
  | [],_=>rfl
  | [a],_=>rfl
  | [a,b],hs=>simp only [T4 list m q (hs a (by simp)),T4 list m q (hs b (by simp))]
  |a::b::c::r,_=>rfl
theorem zW{e:Expr}{d:Int}(ho:cR e d=true):fS e=e∨(∃n,fS e=qO n∧0≤n∧n≤99)∨ ∃k∈e.kids,fS e=k:=by
 obtain⟨kind,num,index,read,kids⟩:=e
 unfold fS
 dsimp only
 split
 ·rename_i h
  have:=(lU (uL ho h.1).1).2.1
  exact .inr (.inl ⟨_,rfl,h.2.2,this.2⟩)
 ·match kids with
  | []=>exact .inl rfl
  | [a]=>exact .inl rfl
  | [a,b]=>
   dsimp only
   split
   ·split
    ·rename_i h;exact .inr (.inl ⟨_,rfl,h⟩)
    ·exact .inl rfl
   ·split
    ·exact .inr (.inr ⟨a,by simp,rfl⟩)
    ·split
     ·exact .inr (.inr ⟨b,by simp,rfl⟩)
     ·split
      ·exact .inr (.inl ⟨0,rfl,by omega,by omega⟩)
      ·exact .inl rfl
  |a::b::c::r=>exact .inl rfl
theorem aDL(L:Nat){n:Int}(h:0≤n∧n≤99)(d:Int):bL (L+1) (qO n) d=true:=by
 refine vU (by simp [qO,eA]) ?_ (fun k hk=>by cases hk)
 unfold cR qO iN l3
 simp
 omega
theorem tE{e:Expr}{d:Int}(h:cR e d=true)(ks:List Expr):cR (gP e ks) d=true:=h
theorem fI{d:Int}: ∀{L:Nat} {e:Expr},bL L e d=true→bL L (bV L e) d=true
 |0,_,h=>by cases h
 |L+1,e,h=>by
  obtain⟨hk,ho,hs⟩:=cC h
  have hx:bL (L+1) (gP e (e.kids.map (bV L))) d=true:=vU (by simp only [gP,List.length_map];exact hk) ho (fun k hkm=>by
   obtain⟨y,hy,rfl⟩:=List.mem_map.1 hkm
   exact fI (hs y hy))
  show bL (L+1) (fS (gP e (e.kids.map (bV L)))) d=true
  rcases zW (tE ho (e.kids.map (bV L))) with e1|⟨n,e1,hn⟩|⟨k,hkm,e1⟩
  ·rw [e1];exact hx
  ·rw [e1];exact aDL L hn d
  ·rw [e1]
   obtain⟨y,hy,rfl⟩:=List.mem_map.1 hkm
   exact aAo (fI (hs y hy))
theorem H2{d:Int}: ∀{L:Nat} {e:Expr},bL L e d=true→bV L (bV L e)=bV L e
 |0,_,h=>by cases h
 |L+1,e,h=>by
  obtain⟨hk,ho,hs⟩:=cC h
  show bV (L+1) (fS (gP e (e.kids.map (bV L))))=fS (gP e (e.kids.map (bV L)))
  rcases zW (tE ho (e.kids.map (bV L))) with e1|⟨n,e1,hn⟩|⟨k,hkm,e1⟩
  ·rw [e1]
   show fS (gP e ((e.kids.map (bV L)).map (bV L)))=_
   rw [List.map_map,show e.kids.map (bV L ∘ bV L)=e.kids.map (bV L) from List.map_congr_left (fun k hkm=>H2 (hs k hkm))]
   exact e1
  ·rw [e1];rfl
  ·rw [e1]
   obtain⟨y,hy,rfl⟩:=List.mem_map.1 hkm
   rw [aDm (fI (hs y hy)),H2 (hs y hy)]
theorem aC0{α:Type}(f:α→Int)(h0: ∀x,0≤f x): ∀{l:List α} {x:α},x∈l→f x≤(l.map f).sum
 |y::l,x,h=>by
  have hn: ∀l:List α,0≤(l.map f).sum:=fun l=>by
   induction l with
   |nil=>simp
   |cons a l ih=>simp only [List.map_cons,List.sum_cons];have:=h0 a;omega
  simp only [List.map_cons,List.sum_cons]
  rcases List.mem_cons.1 h with rfl|h
  ·have:=hn l;omega
  ·have:=aC0 f h0 h;have:=h0 y;omega
theorem aAn{α:Type}(f g:α→Int): ∀{l:List α},(∀x∈l,f x≤g x)→(l.map f).sum≤(l.map g).sum
 | [],_=>Int.le_refl _
 |x::l,h=>by
  simp only [List.map_cons,List.sum_cons]
  have:=h x List.mem_cons_self
  have:=aAn f g (fun y hy=>h y (List.mem_cons_of_mem _ hy))
  omega
theorem aAR{d:Int}: ∀{L:Nat} {e:Expr},bL L e d=true→kS L (bV L e)≤kS L e
 |0,_,h=>by cases h
 |L+1,e,h=>by
  obtain⟨hk,ho,hs⟩:=cC h
  have hx:kS (L+1) (gP e (e.kids.map (bV L)))≤kS (L+1) e:=by
   show 1+((e.kids.map (bV L)).map (kS L)).sum≤1+(e.kids.map (kS L)).sum
   rw [List.map_map]
   have:=aAn (kS L ∘ bV L) (kS L) (l:=e.kids) (fun k hkm=>aAR (hs k hkm))
   omega
  show kS (L+1) (fS (gP e (e.kids.map (bV L))))≤kS (L+1) e
  rcases zW (tE ho (e.kids.map (bV L))) with e1|⟨n,e1,hn⟩|⟨k,hkm,e1⟩
  ·rw [e1];exact hx
  ·rw [e1]
   exact oP (L+1) e
  ·rw [e1]
   refine Int.le_trans ?_ hx
   obtain⟨y,hy,rfl⟩:=List.mem_map.1 hkm
   rw [aFY (fI (hs y hy))]
   have h1:kS L (bV L y)≤((e.kids.map (bV L)).map (kS L)).sum:=aC0 (kS L) (fun x=>by have:=oP L x;omega) hkm
   show _≤1+((e.kids.map (bV L)).map (kS L)).sum
   omega
theorem H3{d:Int}: ∀{L:Nat} {e:Expr},bL L e d=true→ ∀a∈bO L (bV L e),a∈bO L e
 |0,_,h=>by cases h
 |L+1,e,h=>by
  obtain⟨hk,ho,hs⟩:=cC h
  have hx: ∀a∈bO (L+1) (gP e (e.kids.map (bV L))),a∈bO (L+1) e:=fun a ha=>by
   have ha:a∈(if e.kind=3 then [e.read] else [])++(e.kids.map (bV L)).flatMap (bO L):=ha
   show a∈(if e.kind=3 then [e.read] else [])++e.kids.flatMap (bO L)
   rcases List.mem_append.1 ha with ha|ha
   ·exact List.mem_append_left _ ha
   ·refine List.mem_append_right _ ?_
    obtain⟨y,hy,hay⟩:=List.mem_flatMap.1 ha
    obtain⟨z,hz,rfl⟩:=List.mem_map.1 hy
    exact List.mem_flatMap.2 ⟨z,hz,H3 (hs z hz) a hay⟩
  intro a ha
  have ha:a∈bO (L+1) (fS (gP e (e.kids.map (bV L)))):=ha
  rcases zW (tE ho (e.kids.map (bV L))) with e1|⟨n,e1,hn⟩|⟨k,hkm,e1⟩
  ·rw [e1] at ha;exact hx a ha
  ·rw [e1] at ha;simp [bO,qO] at ha
  ·rw [e1] at ha
   obtain⟨y,hy,rfl⟩:=List.mem_map.1 hkm
   rw [aAA (fI (hs y hy))] at ha
   refine hx a ?_
   show a∈(if e.kind=3 then [e.read] else [])++(e.kids.map (bV L)).flatMap (bO L)
   exact List.mem_append_right _ (List.mem_flatMap.2 ⟨_,hkm,ha⟩)
theorem aHQ: ∀{cs:List Int},b9 cs=0→ ∀p,S0 cs p=0
 | [],_,_=>by simp [S0]
 |c::cs,h,[]=>by simp [S0]
 |c::cs,h,x::p=>by
  have h1:c=0:=yY (l:=c::cs) (i:=0) rfl (by omega)
  have h2:b9 cs=0:=by
   cases hd:b9 cs with
   |zero=>rfl
   |succ k=>unfold b9 at h;rw [hd] at h;simp at h
  simp only [S0]
  rw [h1,aHQ h2];simp
theorem T5(L:Nat)(list:List Arr)(m q:List Int)(n:Int):iP (L+1) list m (qO n) q=n:=by simp [iP,qO]
theorem tF{L:Nat}{list:List Arr}{m q:List Int}{a:Expr}{n:Int}(h:yV a n=true):iP (L+1) list m a q=n:=by
 unfold yV at h
 rw [Bool.and_eq_true,decide_eq_true_eq,decide_eq_true_eq] at h
 unfold iP
 rw [if_pos h.1,h.2]
theorem N7{L:Nat}{list:List Arr}{m q:List Int}{a:Expr}(h:a.kind=1):iP (L+1) list m a q=a.num:=by
 unfold iP
 rw [if_pos h]
theorem N9{L:Nat}{e:Expr}{d:Int}(h:bL L e d=true): ∃K,L=K+1:=by
 cases L with
 |zero=>cases h
 |succ K=>exact⟨K,rfl⟩
theorem aE0{list:List Arr}{m:List Int}(hm:iO list m){d:Int}{q:List Int}{L:Nat}{e:Expr}(h:bL (L+1) e d=true):iP (L+1) list m (fS e) q=iP (L+1) list m e q:=by
 obtain⟨hk,ho,hs⟩:=cC h
 have hvb:=xC hm (q:=q) h
 obtain⟨kind,num,index,read,kids⟩:=e
 unfold fS
 dsimp only at hk hs⊢
 split
 ·rename_i hc
  have hi:=(lU (uL ho hc.1).1).2.1
  dsimp only at hi
  have hi2:index.const≤99:=hi.2
  rw [T5]
  obtain⟨rfl,hd,h0⟩:=hc
  simp only [iP]
  unfold fK
  rw [aHQ hd]
  simp
  omega
 ·match kids,hs,hk with
  | [],_,_=>rfl
  | [a],_,_=>rfl
  |a::b::c::r,_,_=>rfl
  | [a,b],hs,hk=>
   have ha:=hs a (by simp)
   have hb:=hs b (by simp)
   obtain⟨K,rfl⟩:=N9 ha
   have va:=xC hm (q:=q) ha
   have vb:=xC hm (q:=q) hb
   have hkk:kind=4∨kind=5∨kind=6:=by
    unfold eA at hk
    split at hk
    ·simp at hk
    ·split at hk
     ·assumption
     ·simp at hk
   have hv:iP (K+1+1) list m ⟨kind,num,index,read,[a,b]⟩ q=uM kind (iP (K+1) list m a q) (iP (K+1) list m b q)%1000:=by
    simp only [iP,uM]
    rcases hkk with rfl|rfl|rfl<;>simp
   dsimp only
   split
   ·rename_i h1
    split
    ·rename_i h2
     rw [T5,hv,N7 h1.1,N7 h1.2];omega
    ·rfl
   ·split
    ·rename_i h2
     rw [T4 list m q ha,hv]
     rcases h2 with ⟨h6,h2⟩|⟨rfl,h2⟩
     ·rw [tF h2]
      unfold uM
      rw [if_neg h6]
      split<;>omega
     ·rw [tF h2]
      unfold uM
      simp;omega
    ·split
     ·rename_i h2
      rw [T4 list m q hb,hv]
      rcases h2 with ⟨rfl,h2⟩|⟨rfl,h2⟩
      ·rw [tF h2]
       unfold uM
       simp;omega
      ·rw [tF h2]
       unfold uM
       simp;omega
     ·split
      ·rename_i h2
       rw [T5,hv]
       obtain⟨rfl,h2|h2⟩:=h2
       ·rw [tF h2];unfold uM;simp
       ·rw [tF h2];unfold uM;simp
      ·rfl
theorem H1{list:List Arr}{m:List Int}(hm:iO list m){d:Int}{q:List Int}: ∀{L:Nat} {e:Expr},bL L e d=true→iP L list m (bV L e) q=iP L list m e q
 |0,_,h=>by cases h
 |L+1,e,h=>by
  obtain⟨hk,ho,hs⟩:=cC h
  have hx:bL (L+1) (gP e (e.kids.map (bV L))) d=true:=vU (by simp only [gP,List.length_map];exact hk) ho (fun k hkm=>by
   obtain⟨y,hy,rfl⟩:=List.mem_map.1 hkm
   exact fI (hs y hy))
  show iP (L+1) list m (fS (gP e (e.kids.map (bV L)))) q=_
  rw [aE0 hm hx]
  obtain⟨kind,num,index,read,kids⟩:=e
  dsimp only at hs
  unfold gP iP
  dsimp only
  match kids,hs with
  | [],_=>rfl
  | [a],_=>rfl
  | [a,b],hs=>
   simp only [List.map_cons,List.map_nil]
   rw [H1 hm (hs a (by simp)),H1 hm (hs b (by simp))]
  |a::b::c::r,_=>rfl
theorem aB8(n:Nat)(e:Expr)(k:Int):dV n e k=some (yV e k):=by
 unfold dV yV
 cases decide (e.kind=1)<;>rfl
theorem aBK(n:Nat)(e:Expr)(k:Int):lO n e k=some (yV e k):=by
 unfold lO yV
 cases decide (e.kind=1)<;>rfl
def aG4(a:Expr):Prop:=a.kind=1→0≤a.num∧a.num≤99
theorem aEY{L:Nat}{e:Expr}{d:Int}(h:bL L e d=true):aG4 e:=fun hk=>by
 obtain⟨K,rfl⟩:=N9 h
 obtain⟨_,ho,_⟩:=cC h
 unfold cR at ho
 rw [if_neg (by omega),if_neg (by omega),if_pos hk] at ho
 simp only [Bool.and_eq_true,decide_eq_true_eq] at ho
 exact ho.1
theorem aHI{a b:Int}(ha:0≤a∧a≤99)(hb:0≤b∧b≤99):0≤a*b∧a*b≤9801:=by
 refine⟨Int.mul_nonneg ha.1 hb.1,?_⟩
 have:=Int.mul_le_mul ha.2 hb.2 hb.1 (by omega:(0:Int)≤99)
 omega
theorem aIG(n:Nat){kind:Int}(hk:kind=4∨kind=5∨kind=6){a b:Expr}(ha:aG4 a)(hb:aG4 b):
  jn (fun(x11:Bool)=>
      bif x11 then(
       jn (fun(x13:Int)=>
        Option.bind (bT n x13 0 99) fun x14=>
        bif x14 then(
         Option.bind (sQ n x13) fun x15=>
         some x15
        ) else(
         some (⟨kind,0,(⟨[],0⟩:Affine),(⟨[],[]⟩:Access),[a,b]⟩:Expr)
        )
       ) (fun j12=>
        bif decide (kind=5) then(
         j12 (wr (a.num-b.num))
        ) else(
         bif decide (kind=6) then(
          j12 (wr (a.num*b.num))
         ) else(
          j12 (wr (a.num+b.num))
         )
        )
       )
      ) else(
       jn (fun(x20:Bool)=>
        bif x20 then(
         some a
        ) else(
         jn (fun(x25:Bool)=>
          bif x25 then(
           some b
          ) else(
           jn (fun(x29:Bool)=>
            bif x29 then(
             Option.bind (sQ n 0) fun x30=>
             some x30
            ) else(
             some (⟨kind,0,(⟨[],0⟩:Affine),(⟨[],[]⟩:Access),[a,b]⟩:Expr)
            )
           ) (fun j26=>
            bif decide (kind=6) then(
             Option.bind (dV n a 0) fun x27=>
             bif x27 then(
              j26 true
             ) else(
              Option.bind (dV n b 0) fun x28=>
              j26 x28
             )
            ) else(
             j26 false
            )
           )
          )
         ) (fun j21=>
          bif decide (kind=4) then(
           Option.bind (dV n a 0) fun x23=>
           bif x23 then(
            j21 true
           ) else(
            bif decide (kind=6) then(
             Option.bind (dV n a 1) fun x24=>
             j21 x24
            ) else(
             j21 false
            )
           )
          ) else(
           bif decide (kind=6) then(
            Option.bind (dV n a 1) fun x22=>
            j21 x22
           ) else(
            j21 false
           )
          )
         )
        )
       ) (fun j16=>
        bif !(decide (kind=6)) then(
         Option.bind (dV n b 0) fun x18=>
         bif x18 then(
          j16 true
         ) else(
          bif decide (kind=6) then(
           Option.bind (dV n b 1) fun x19=>
           j16 x19
          ) else(
           j16 false
          )
         )
        ) else(
         bif decide (kind=6) then(
          Option.bind (dV n b 1) fun x17=>
          j16 x17
         ) else(
          j16 false
         )
        )
       )
      )
     ) (fun j10=>
      bif decide (a.kind=1) then(
       j10 (decide (b.kind=1))
      ) else(
       j10 false
      )
     )=some (fS ⟨kind,0,⟨[],0⟩,⟨[],[]⟩,[a,b]⟩):=by
 have h2: ¬(kind=2∧b9 ([]:List Int)=0∧(0:Int)≤0):=fun h=>by omega
 unfold fS
 dsimp only
 rw [if_neg h2]
 simp only [aB8,Option.bind_some,jn]
 by_cases h1:a.kind=1∧b.kind=1
 ·have e1:=ha h1.1
  have e2:=hb h1.2
  have e3:=aHI e1 e2
  rw [if_pos h1,decide_eq_true h1.1,decide_eq_true h1.2]
  simp only [cond_true]
  have hn:(bif decide (kind=5) then(Option.bind (bT n (wr (a.num-b.num)) 0 99) fun x14=>bif x14 then(Option.bind (sQ n (wr (a.num-b.num))) fun x15=>some x15) else(some (⟨kind,0,⟨[],0⟩,⟨[],[]⟩,[a,b]⟩:Expr)))
    else bif decide (kind=6) then(Option.bind (bT n (wr (a.num*b.num)) 0 99) fun x14=>bif x14 then(Option.bind (sQ n (wr (a.num*b.num))) fun x15=>some x15) else(some (⟨kind,0,⟨[],0⟩,⟨[],[]⟩,[a,b]⟩:Expr)))
    else(Option.bind (bT n (wr (a.num+b.num)) 0 99) fun x14=>bif x14 then(Option.bind (sQ n (wr (a.num+b.num))) fun x15=>some x15) else(some (⟨kind,0,⟨[],0⟩,⟨[],[]⟩,[a,b]⟩:Expr))))
    =Option.bind (bT n (uM kind a.num b.num) 0 99) fun x14=>bif x14 then(Option.bind (sQ n (uM kind a.num b.num)) fun x15=>some x15) else(some (⟨kind,0,⟨[],0⟩,⟨[],[]⟩,[a,b]⟩:Expr)):=by
   rw [aM (n:=a.num-b.num) (by omega),aM (n:=a.num*b.num) (by omega),aM (n:=a.num+b.num) (by omega)]
   unfold uM
   rcases hk with rfl|rfl|rfl<;>rfl
  refine hn.trans ?_
  rw [eD,Option.bind_some]
  by_cases hc:0≤uM kind a.num b.num∧uM kind a.num b.num≤99
  ·rw [if_pos hc,decide_eq_true hc];rfl
  ·rw [if_neg hc,decide_eq_false hc];rfl
 ·rw [if_neg h1]
  have hz:(bif decide (a.kind=1) then decide (b.kind=1) else false)=false:=by
   cases hx:decide (a.kind=1) with
   |false=>rfl
   |true=>
    have: ¬b.kind=1:=fun h=>h1 ⟨of_decide_eq_true hx,h⟩
    rw [decide_eq_false this];rfl
  have hc: ∀{f:Bool→Option Expr},(bif decide (a.kind=1) then f (decide (b.kind=1)) else f false)=f false:=fun {f}=>by
   have:(bif decide (a.kind=1) then f (decide (b.kind=1)) else f false)=f (bif decide (a.kind=1) then decide (b.kind=1) else false):=by cases decide (a.kind=1)<;>rfl
   rw [this,hz]
  refine(hc (f:=fun z=>bif z then _ else _)).trans ?_
  generalize yV a 0=a0
  generalize yV a 1=a1
  generalize yV b 0=b0
  generalize yV b 1=b1
  rcases hk with rfl|rfl|rfl<;>cases a0<;>cases a1<;>cases b0<;>cases b1<;>rfl
theorem aDT(n:Nat)(k:Int):sS n k=some (decide (4≤k∧k≤6)):=by
 unfold sS;rw [eD];rfl
theorem V3{e:Expr}(h:eA e.kind=e.kids.length):((e.kind=1∨e.kind=2∨e.kind=3)∧e.kids=[])∨((e.kind=4∨e.kind=5∨e.kind=6)∧ ∃a b,e.kids=[a,b]):=by
 unfold eA at h
 split at h
 ·rename_i hk
  exact .inl ⟨hk,List.eq_nil_of_length_eq_zero (by omega)⟩
 ·split at h
  ·rename_i hk
   refine .inr ⟨hk,?_⟩
   match hl:e.kids,h with
   | [a,b],_=>exact⟨a,b,rfl⟩
   | [],h=>simp at h
   | [a],h=>simp at h
   |a::b::c::r,h=>simp at h;omega
  ·omega
theorem aIr{e:Expr}{d:Int}(ho:cR e d=true)(hk:e.kind=4∨e.kind=5∨e.kind=6):e.num=0∧e.index=⟨[],0⟩∧e.read=⟨[],[]⟩:=by
 have h0:=D8 ho (by omega) (by omega)
 unfold cR at ho
 rw [if_neg (by omega),if_neg (by omega),if_neg (by omega)] at ho
 simp only [Bool.and_eq_true,decide_eq_true_eq] at ho
 exact⟨ho.1,nR h0.1,nS h0.2⟩
theorem U4{e:Expr}{d:Int}(ho:cR e d=true):SmA e.index∧yM e.read.subs:=by
 by_cases h2:e.kind=2
 ·have:=uL ho h2
  refine⟨by have:=(lU this.1).1;unfold SmA;omega,?_⟩
  rw [nS this.2];exact⟨by simp,fun x hx=>by cases hx⟩
 ·by_cases h3:e.kind=3
  ·have:=D7 ho h3
   have ha:=zE this.1
   refine⟨?_,aDx ha.2.1 ha.2.2⟩
   rw [nR this.2];unfold SmA;simp
  ·have:=D8 ho h2 h3
   refine⟨?_,?_⟩
   ·rw [nR this.1];unfold SmA;simp
   ·rw [nS this.2];exact⟨by simp,fun x hx=>by cases hx⟩
def mF(e:Expr):Bool:=decide (e.kind=2)&&(decide (b9 e.index.coefs=0)&&decide (0≤e.index.const))
theorem I9(e:Expr):mF e=true↔e.kind=2∧b9 e.index.coefs=0∧0≤e.index.const:=by
 unfold mF;simp
theorem E7{e:Expr}(h:mF e=true):fS e=qO e.index.const:=by
 unfold fS;rw [if_pos ((I9 e).1 h)]
theorem P7{e:Expr}(h:mF e=false)(hk:e.kids=[]):fS e=e:=by
 unfold fS
 rw [if_neg (fun hc=>by rw [(I9 e).2 hc] at h;cases h),hk]
theorem xW{d:Int}: ∀(L n:Nat) (e:Expr),6000+L≤n→bL L e d=true→i_fold (n+1) e=some (bV L e)
 |0,_,_,_,h=>by cases h
 |L+1,n,e,hn,h=>by
  obtain⟨hk,ho,hs⟩:=cC h
  obtain⟨n,rfl⟩: ∃j,n=j+1:=⟨n-1,by omega⟩
  unfold i_fold
  refine Ev.eq (Ev.jn (fun z=>z=mF e) (fun j hj=> ?_) (fun z hz=> ?_))
  ·refine aI (fun h2=>aA (uS (by omega) (U4 ho).1) (aI (fun h0=>hj _ ?_) (fun h0=>hj _ ?_))) (fun h2=>hj _ ?_)
   ·unfold mF
    rw [decide_eq_true h2,decide_eq_true (show b9 e.index.coefs=0 by omega)];rfl
   ·unfold mF
    rw [decide_eq_false (show¬b9 e.index.coefs=0 by omega),Bool.false_and,Bool.and_false]
   ·unfold mF
    rw [decide_eq_false h2];rfl
  ·subst hz
   have hf:bV (L+1) e=fS (gP e (e.kids.map (bV L))):=rfl
   refine Ev.cond (fun hc=> ?_) (fun hc=> ?_)
   ·refine aA (x:=qO e.index.const) rfl (Ev.some ?_)
    rw [hf]
    exact(E7 (e:=gP e (e.kids.map (bV L))) hc).symm
   ·refine aA (aDT _ _) (iL (fun hop=>Ev.some ?_) (fun hop=> ?_))
    ·rcases V3 hk with ⟨_,hk0⟩|⟨hkk,_⟩
     ·rw [hf,hk0]
      have:gP e []=e:=by cases e;cases hk0;rfl
      show e=fS (gP e [])
      rw [this]
      exact(P7 hc hk0).symm
     ·exact absurd (by omega) hop
    ·rcases V3 hk with ⟨hkk,_⟩|⟨hkk,a,b,hab⟩
     ·omega
     ·have sa:=hs a (by rw [hab];simp)
      have sb:=hs b (by rw [hab];simp)
      have e0:ix e.kids 0=some a:=by rw [hab];rfl
      have e1:ix e.kids 1=some b:=by rw [hab];rfl
      refine aA e0 (aA (xW L n a (by omega) sa) (aA e1 (aA (xW L n b (by omega) sb) (Ev.of (aIG (n+1) hkk (aEY (fI sa)) (aEY (fI sb))) ?_))))
      obtain⟨o1,o2,o3⟩:=aIr ho hkk
      rw [hf,hab]
      unfold gP
      rw [o1,o2,o3];rfl
theorem aEM(n:Nat){e:Expr}(hk:e.kind=4∨e.kind=5∨e.kind=6){x y:Int}(hx:0≤x∧x≤99)(hy:0≤y∧y≤99):sK n e x y=some (if 0≤uM e.kind x y∧uM e.kind x y≤99 then qO (uM e.kind x y) else e):=by
 have e3:=aHI hx hy
 unfold sK
 refine Ev.eq (Ev.jn (fun z=>z=uM e.kind x y) (fun j hj=> ?_) (fun z hz=> ?_))
 ·rw [aM (n:=x+y) (by omega),aM (n:=x-y) (by omega),aM (n:=x*y) (by omega)]
  refine aI (fun h=>hj _ ?_) (fun h=>aI (fun h5=>hj _ ?_) (fun h5=>hj _ ?_))
  ·unfold uM;rw [if_neg (by omega),if_neg (by omega)]
  ·unfold uM;rw [if_pos h5]
  ·unfold uM;rw [if_neg h5,if_pos (by omega)]
 ·subst hz
  refine Ev.jn (fun z=>z= !decide (0≤uM e.kind x y∧uM e.kind x y≤99)) (fun j hj=>aI (fun h=>hj _ ?_) (fun h=>hj _ ?_)) (fun z hz=> ?_)
  ·rw [decide_eq_false (by omega)];rfl
  ·by_cases h9:(99:Int)<uM e.kind x y
   ·rw [decide_eq_true h9,decide_eq_false (by omega)];rfl
   ·rw [decide_eq_false h9,decide_eq_true (by omega)];rfl
  ·subst hz
   by_cases hc:0≤uM e.kind x y∧uM e.kind x y≤99
   ·rw [decide_eq_true hc,if_pos hc];exact bY (aA rfl (Ev.some rfl))
   ·rw [decide_eq_false hc,if_neg hc];exact bX (Ev.some rfl)
theorem aDF{n:Nat}(hn:5000≤n){e:Expr}(hi:SmA e.index)(hk:eA e.kind=e.kids.length)(hb: ∀k∈e.kids,aG4 k):m5 n e=some (fS e):=by
 unfold m5
 refine Ev.eq (Ev.jn (fun z=>z=mF e) (fun j hj=> ?_) (fun z hz=> ?_))
 ·refine aI (fun h2=>aA (qH (by omega) hi) (aI (fun h0=>hj _ ?_) (fun h0=>hj _ ?_))) (fun h2=>hj _ ?_)
  ·unfold mF
   rw [decide_eq_true h2,decide_eq_true (show b9 e.index.coefs=0 by omega)];rfl
  ·unfold mF
   rw [decide_eq_false (show¬b9 e.index.coefs=0 by omega),Bool.false_and,Bool.and_false]
  ·unfold mF
   rw [decide_eq_false h2];rfl
 ·subst hz
  refine Ev.cond (fun hc=>aA (x:=qO e.index.const) rfl (Ev.some (E7 hc).symm)) (fun hc=> ?_)
  rcases V3 hk with ⟨_,hk0⟩|⟨hkk,a,b,hab⟩
  ·refine aI (fun _=>Ev.some (P7 hc hk0).symm) (fun h=>absurd (by rw [hk0];rfl) h)
  ·have na:=hb a (by rw [hab];simp)
   have nb:=hb b (by rw [hab];simp)
   refine aI (fun h=>by rw [hab] at h;simp at h) (fun _=>aA (show ix e.kids 0=some a by rw [hab];rfl) (aA (show ix e.kids 1=some b by rw [hab];rfl) ?_))
   have hnode:fS e=(if a.kind=1∧b.kind=1 then(if 0≤uM e.kind a.num b.num∧uM e.kind a.num b.num≤99 then qO (uM e.kind a.num b.num) else e)
     else if(¬e.kind=6∧yV b 0=true)∨(e.kind=6∧yV b 1=true) then a
     else if(e.kind=4∧yV a 0=true)∨(e.kind=6∧yV a 1=true) then b
     else if e.kind=6∧(yV a 0=true∨yV b 0=true) then qO 0
     else e):=by
    unfold fS
    rw [if_neg (fun h=>by omega),hab]
   rw [hnode]
   refine Ev.jn (fun z=>z=decide (a.kind=1∧b.kind=1)) (fun j hj=>aI (fun h=>hj _ ?_) (fun h=>hj _ ?_)) (fun z hz=> ?_)
   ·by_cases h9:b.kind=1
    ·rw [decide_eq_true h9,decide_eq_true ⟨h,h9⟩]
    ·rw [decide_eq_false h9,decide_eq_false (fun hh=>h9 hh.2)]
   ·rw [decide_eq_false (fun hh=>h hh.1)]
   ·subst hz
    by_cases h1:a.kind=1∧b.kind=1
    ·rw [decide_eq_true h1,if_pos h1]
     exact bX (aA (aEM n hkk (na h1.1) (nb h1.2)) (Ev.some rfl))
    ·rw [decide_eq_false h1,if_neg h1]
     refine bY ?_
     simp only [aBK,Option.bind_some,jn]
     generalize yV a 0=a0
     generalize yV a 1=a1
     generalize yV b 0=b0
     generalize yV b 1=b1
     obtain⟨kind,num,index,read,kids⟩:=e
     dsimp only at hkk⊢
     rcases hkk with rfl|rfl|rfl<;>cases a0<;>cases a1<;>cases b0<;>cases b1<;>exact Ev.some rfl
theorem O4{d:Int}: ∀(L n:Nat) (e:Expr),6000+L≤n→bL L e d=true→s_l13Fold (n+1) e=some (bV L e)
 |0,_,_,_,h=>by cases h
 |L+1,n,e,hn,h=>by
  obtain⟨hk,ho,hs⟩:=cC h
  obtain⟨n,rfl⟩: ∃j,n=j+1:=⟨n-1,by omega⟩
  have hkl:e.kids.length≤2:=by have:=nV e.kind;omega
  unfold s_l13Fold
  refine Ev.eq (aA (uV _ (U4 ho).1) (aA (n8 (by omega) (U4 ho).2) ?_))
  refine tQ (f:=s_l13Fold (n+1)) (g:=bV L) (K:=fun x3=>Option.bind (m5 (n+1) (⟨e.kind,e.num,e.index,e.read,x3⟩:Expr)) fun x10=>some x10) (fun x hx=>O4 L n x (by omega) (hs x hx)) (by omega) (by omega) ?_
  refine aA (aDF (by omega) (U4 ho).1 (by simpa using hk) (fun k hkm=> ?_)) (Ev.some rfl)
  obtain⟨y,hy,rfl⟩:=List.mem_map.1 hkm
  exact aEY (fI (hs y hy))
end Go.Lift
