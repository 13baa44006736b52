/- Two programs that do the same. -/
import Derived.Test.YtdcjmccimcppbaaGreatERun1
import Derived.Test.YtdcjmccimcppbaaGreatEDraw1
import Derived.Test.YtdcjmccimcppbaaGreatEDrawD
set_option maxRecDepth 100000
set_option linter.unusedVariables false
namespace Go.Lift
open Go
theorem aIC{n:Nat}(hn:7100≤n){p:Prog}(hp:SmP p)(hv:bK p=true):kR n p=some (gF p.arrays):=by
 refine Ev.eq ?_
 obtain⟨hl,hd,_⟩:=eP hv
 unfold kR
 refine aA (fE (by omega) hp) ?_
 rw [hv]
 exact b8 (aA (L0 (by omega) hl hd) (Ev.some rfl))
theorem aJC{α:Type}{n:Int}(h:0≤n∧n≤1000000000)(x:α):mk n x=some (List.replicate n.toNat x):=by unfold mk;rw [if_pos h]
theorem aGz{R:Type}{Q:R→Prop}{n:Nat}(hn:5000≤n){T:Nat}(hT:T≤1000){e:Int→Int}(he: ∀i,0≤i→i<(T:Int)→0≤e i∧e i≤999){K:List Int→Option R}(hK: ∀m,m.length=T→(∀x∈m,0≤x∧x≤999)→Ev (K m) Q):
  Ev (aL (fun again (z:(List Int)×Int)=>bif decide (z.2<(z.1.length:Int)) then(Option.bind (ix z.1 z.2) fun _=>Option.bind (jK z.1 z.2 (e z.2)) fun y=>again (y,wr (z.2+1))) else(K z.1)) n (List.replicate T 0,0)) Q:=by
 refine Ev.loop (fun z:List Int×Int=>0≤z.2∧z.2≤T∧z.1.length=T∧ ∀x∈z.1,0≤x∧x≤999) (fun z=>T-z.2.toNat) ?_ n _ ⟨Int.le_refl _,by dsimp only;omega,List.length_replicate,fun x hx=>by rw [(List.mem_replicate.1 hx).2];omega⟩ (by dsimp only;omega)
 rintro again ⟨x,i⟩ ⟨h0,h1,h2,h3⟩ hr
 dsimp only at h0 h1 h2 h3⊢
 refine aG (fun hlt=> ?_) (fun hge=>hK _ h2 h3)
 refine aA (aIW h0 (by omega)) (aA (aBa h0 (by omega) _) ?_)
 rw [aM (by omega)]
 exact hr _ ⟨by dsimp only;omega,by dsimp only;omega,by dsimp only;rw [List.length_set,h2],fun y hy=>by
  rcases List.mem_or_eq_of_mem_set hy with hy|rfl
  ·exact h3 y hy
  ·exact he i h0 (by omega)⟩ (by dsimp only;omega)
theorem aKu{x:Int}(h:0≤x):0≤Int.tmod x 1000∧Int.tmod x 1000≤999:=by
 have h1:=Int.tmod_nonneg 1000 h
 have h2:=Int.tmod_lt_of_pos x (show(0:Int)<1000 by omega)
 omega
theorem aFR{p:Prog}(hv:bK p=true):0≤gF p.arrays∧gF p.arrays≤144:=by
 obtain⟨hl,hd,_⟩:=eP hv
 have:=aDR hd
 omega
theorem aIS{p:Prog}{m:List Int}(hv:bK p=true)(hm:gT p.arrays m):aH3 p m=(cA p m (insts p.parts),true):=by
 unfold aH3;rw [aIh hv hm];rfl
theorem aHj{p q:Prog}(hp:SmP p)(hq:SmP q)(hv:bK p=true)(hw:bK q=true)(ha:q.arrays=p.arrays)(h: ∀m,gT p.arrays m→cA q m (insts q.parts)=cA p m (insts p.parts)){s:Int}(hs:0≤s∧s≤1048576):pI N p q s=some true:=by
 have hN:N=100000:=rfl
 have ht:=aFR hv
 refine Ev.eq ?_
 unfold pI
 refine aA (aIC (by omega) hp hv) (aA (aJC ⟨by omega,by omega⟩ 0) (aGz (n:=N) (T:=(gF p.arrays).toNat) (e:=fun i=>Int.tmod (wr ((wr ((wr (i*41))+(wr (s*17))))+3)) 1000) (K:=fun x3=>Option.bind (fC N p x3) fun x9=>Option.bind (fC N q x3) fun x10=>jn (fun(x13:Bool)=>some x13) (fun j11=>bif x9.2 then(bif x10.2 then(Option.bind (pH N x9.1 x10.1) fun x12=>j11 x12) else(j11 false)) else(j11 false))) (by omega) (by omega) (fun i h0 h1=> ?_) (fun m h1 h2=> ?_)))
 ·rw [aM (n:=i*41) (by omega),aM (n:=s*17) (by omega),aM (n:=i*41+s*17) (by omega),aM (by omega)]
  exact aKu (by omega)
 ·have hmo:gT p.arrays m:=⟨by omega,h2⟩
  have hmq:gT q.arrays m:=by rw [ha];exact hmo
  have hml:=aD3 hv hmo
  refine aA (rV (by omega) hp hml) (aA (rV (by omega) hq hml) ?_)
  rw [aIS hv hmo,aIS hw hmq,h m hmo]
  have hok: ∀x∈insts p.parts,cN p x:=fun x hx=>insts_mem hx
  refine Ev.jn (fun z=>z=true) (fun j hj=>bZ (bZ (aA (aBp (by omega) (aD3 hv (nH hv hok hmo))) (hj _ rfl)))) (fun z hz=>Ev.some hz)
theorem inst_pl{p:Prog}(hv:bK p=true){x:Inst}(hx:cN p x):x.point.length≤4:=by
 obtain⟨i,k,P,s,d,e1,e2,e3,e4,e5,e6,e7,e8⟩:=inst_d hv hx
 have:=e7.1;have:=e7.2.1;omega
theorem J9{α β R:Type}{l:List α}{F:α→(β→Option R)→Option R}{g:α→β}{K:List β→Option R}{Q:R→Prop}{n:Nat}(hF: ∀x∈l,∀k:β→Option R,Ev (k (g x)) Q→Ev (F x k) Q)
  {s:Nat} (hs:s≤l.length) {pre:List β} (hp:pre.length≤1000) (hl:l.length≤1000) (hn:5000≤n) (hK:Ev (K (pre++(l.drop s).map g)) Q):
  Ev (aL (fun again ((x,i):List β×Int)=>bif decide (i<(l.length:Int)) then(Option.bind (ix l i) fun y=>F y (fun z=>Option.bind (app x [z]) fun w=>again (w,wr (i+1)))) else K x) n (pre,(s:Int))) Q:=by
 refine Ev.loop (fun z:List β×Int=> ∃i:Nat,z.2=i∧s≤i∧i≤l.length∧z.1=pre++((l.drop s).take (i-s)).map g) (fun z=>l.length-z.2.toNat) ?_ n _ ⟨s,rfl,by omega,by omega,by simp⟩ (by dsimp only;omega)
 rintro again ⟨x,z⟩ ⟨i,hz,hsi,hi,hx⟩ hr
 dsimp only at hz hx⊢
 subst hz
 refine aG (fun hlt=> ?_) (fun hge=> ?_)
 ·have hg:=List.getElem?_eq_getElem (show i<l.length by omega)
  have hxl:x.length≤2000:=by rw [hx,List.length_append,List.length_map,List.length_take,List.length_drop];omega
  refine aA (aQ hg) (hF _ (List.mem_of_getElem? hg) _ (aA (bT (by simp;omega)) ?_))
  rw [aM (by omega)]
  refine hr _ ⟨i+1,by dsimp only;omega,by omega,by omega,?_⟩ (by dsimp only;omega)
  dsimp only
  rw [show i+1-s=(i-s)+1 by omega,List.take_add_one,List.getElem?_drop,show s+(i-s)=i by omega,hg,hx,List.map_append,List.append_assoc];rfl
 ·have:i=l.length:=by omega
  subst this
  rw [hx,List.take_of_length_le (by rw [List.length_drop];omega)];exact hK
theorem xG{α β R:Type}{l:List α}{f:α→Option β}{g:α→β}{K:List β→Option R}{Q:R→Prop}{n:Nat}(hf: ∀x∈l,f x=some (g x))(hl:l.length≤1000)(hn:5000≤n)(hK:Ev (K (l.map g)) Q):
  Ev (aL (fun again ((x,i):List β×Int)=>bif decide (i<(l.length:Int)) then(Option.bind (ix l i) fun y=>Option.bind (f y) fun z=>Option.bind (app x [z]) fun w=>again (w,wr (i+1))) else K x) n ([],0)) Q:=
 J9 (F:=fun y k=>Option.bind (f y) k) (g:=g) (s:=0) (pre:=[]) (fun x hx k hk=>aA (hf x hx) hk) (by omega) (by simp) hl hn (by simpa using hK)
def y9(f:Affine→Affine)(a:Access):Access:=⟨a.array,a.subs.map f⟩
def aGg(f:Affine→Affine):Nat→Expr→Expr
 |0,e=>e
 |L+1,e=>⟨e.kind,e.num,if e.kind=2 then f e.index else⟨[],0⟩,if e.kind=3 then y9 f e.read else⟨[],[]⟩,e.kids.map (aGg f L)⟩
def aJD(f:Affine→Affine)(s:Stmt):Stmt:=⟨y9 f s.write,aGg f 5 s.value⟩
theorem Z7{e:Expr}{d:Int}(h:fT e d=true)(hk:e.kind=2):dK e.index=true∧mS e.read=true:=by
 unfold fT bV at h
 rw [if_pos hk] at h
 simp only [Bool.and_eq_true] at h
 exact⟨h.2.2.1,h.2.1⟩
theorem Z6{e:Expr}{d:Int}(h:fT e d=true)(hk:e.kind=3):iI e.read d=true∧i8 e.index=true:=by
 unfold fT at h
 rw [if_neg (by omega),if_pos hk] at h
 simp only [Bool.and_eq_true] at h
 exact⟨h.2.2,h.2.1⟩
theorem aCH{e:Expr}{d:Int}(h:fT e d=true)(h2: ¬e.kind=2)(h3: ¬e.kind=3):i8 e.index=true∧mS e.read=true:=by
 unfold fT at h
 rw [if_neg h2,if_neg h3] at h
 split at h<;>simp only [Bool.and_eq_true] at h<;>exact⟨h.2.1,h.2.2⟩
theorem xB{a:Affine}(h:i8 a=true):a=⟨[],0⟩:=by
 obtain⟨c,k⟩:=a
 simp only [i8,Bool.and_eq_true,decide_eq_true_eq] at h
 obtain⟨h1,rfl⟩:=h
 rw [List.eq_nil_of_length_eq_zero h1]
theorem xC{a:Access}(h:mS a=true):a=⟨[],[]⟩:=by
 obtain⟨c,k⟩:=a
 simp only [mS,Bool.and_eq_true,decide_eq_true_eq] at h
 obtain⟨rfl,h1⟩:=h
 rw [List.eq_nil_of_length_eq_zero h1]
theorem tM{n:Nat}(hn:5000≤n){a:Access}{d:Int}(ha:iI a d=true){F:Affine→Option Affine}{f:Affine→Affine}(hF: ∀x,dK x=true→F x=some (f x)):jW n a F=some (y9 f a):=by
 obtain⟨h1,h2,h3⟩:=Q3 ha
 refine Ev.eq ?_
 unfold jW
 exact xG (K:=fun x1=>some (⟨a.array,x1⟩:Access)) (fun x hx=>hF x (h3 x hx)) (by omega) hn (Ev.some rfl)
theorem xN{d:Int}{F:Affine→Option Affine}{f:Affine→Affine}(hF: ∀x,dK x=true→F x=some (f x)): ∀(L n:Nat) (e:Expr),5000+L≤n→dQ L e d=true→i_exprMap (n+1) e F=some (aGg f L e)
 |0,_,_,_,h=>by cases h
 |L+1,n,e,hn,h=>by
  obtain⟨hk,ho,hs⟩:=jE h
  obtain⟨n,rfl⟩: ∃j,n=j+1:=⟨n-1,by omega⟩
  have hkl:e.kids.length≤2:=by have:=pU e.kind;omega
  unfold i_exprMap
  refine Ev.eq (Ev.jn (fun z=>(⟨z.1,z.2.1⟩:Affine)=(if e.kind=2 then f e.index else⟨[],0⟩)∧(⟨z.2.2.1,z.2.2.2⟩:Access)=(if e.kind=3 then y9 f e.read else⟨[],[]⟩)) (fun j hj=> ?_) (fun z hz=> ?_))
  ·refine aG (fun h2=> ?_) (fun h2=>aG (fun h3=> ?_) (fun h3=> ?_))
   ·exact aA (hF _ (Z7 ho h2).1) (hj _ ⟨by rw [if_pos h2],by rw [if_neg (by omega)]⟩)
   ·exact aA (tM (by omega) (Z6 ho h3).1 hF) (hj _ ⟨by rw [if_neg h2],by rw [if_pos h3]⟩)
   ·exact hj _ ⟨by rw [if_neg h2],by rw [if_neg h3]⟩
  ·obtain⟨x4,x5,x6,x7⟩:=z
   obtain⟨z1,z2⟩:=hz
   dsimp only at z1 z2⊢
   refine xG (K:=fun x8=>some (⟨e.kind,e.num,(⟨x4,x5⟩:Affine),(⟨x6,x7⟩:Access),x8⟩:Expr)) (fun x hx=>xN hF L n x (by omega) (hs x hx)) (by omega) (by omega) (Ev.some ?_)
   rw [z1,z2];rfl
theorem aAi{n:Nat}(hn:6000≤n){s:Stmt}{d:Int}(hs:gX s d=true){F:Affine→Option Affine}{f:Affine→Affine}(hF: ∀x,dK x=true→F x=some (f x)):pY n s F=some (aJD f s):=by
 obtain⟨h1,h2,_⟩:=o9 hs
 obtain⟨n,rfl⟩: ∃j,n=j+1:=⟨n-1,by omega⟩
 unfold pY
 rw [tM (by omega) h1 hF,xN hF 5 n s.value (by omega) h2];rfl
theorem J8{α:Type}{f:α→α}: ∀{l:List α},(∀x∈l,f x=x)→l.map f=l
 | [],_=>rfl
 |x::l,h=>by rw [List.map_cons,h x List.mem_cons_self,J8 (fun y hy=>h y (List.mem_cons_of_mem _ hy))]
theorem U7{f:Affine→Affine}{a:Access}{d:Int}(ha:iI a d=true)(hf: ∀x,dK x=true→f x=x):y9 f a=a:=by
 obtain⟨h1,h2,h3⟩:=Q3 ha
 unfold y9
 rw [J8 (fun x hx=>hf x (h3 x hx))]
theorem aD4{d:Int}{f:Affine→Affine}(hf: ∀x,dK x=true→f x=x): ∀{L:Nat} {e:Expr},dQ L e d=true→aGg f L e=e
 |0,_,_=>rfl
 |L+1,e,h=>by
  obtain⟨hk,ho,hs⟩:=jE h
  obtain⟨kind,num,index,read,kids⟩:=e
  unfold aGg
  dsimp only at hk ho hs⊢
  rw [J8 (fun x hx=>aD4 hf (hs x hx))]
  by_cases h2:kind=2
  ·have e1:=Z7 ho h2
   dsimp only at e1
   rw [if_pos h2,if_neg (by omega),hf _ e1.1,xC e1.2]
  ·by_cases h3:kind=3
   ·have e1:=Z6 ho h3
    dsimp only at e1
    rw [if_neg h2,if_pos h3,U7 e1.1 hf,xB e1.2]
   ·have e1:=aCH ho h2 h3
    dsimp only at e1
    rw [if_neg h2,if_neg h3,xB e1.1,xC e1.2]
theorem aIi{f:Affine→Affine}(hf: ∀x,dK x=true→f x=x){s:Stmt}{d:Int}(hs:gX s d=true):aJD f s=s:=by
 obtain⟨h1,h2,_⟩:=o9 hs
 unfold aJD
 rw [U7 h1 hf,aD4 hf h2]
def aJE(l:Loop):Prop:=(l.lo.length≤2∧ ∀x∈l.lo,dK x=true)∧l.hi.length≤2∧ ∀x∈l.hi,dK x=true
theorem aJT{nest:List Loop}(h:Fit nest): ∀l∈nest,aJE l:=fun l hl=>by
 obtain⟨i,hi⟩:=List.mem_iff_getElem?.1 hl
 have:=h.2 i l hi
 exact⟨(sM this.1).2,(sM this.2).2⟩
theorem Z5{list:List Arr}{x:Part}(h:dD list x=true):x.nest.length≤4∧ ∀l∈x.nest,aJE l:=by
 have:=(aFi (mD h).1).1
 exact⟨this.1,aJT this⟩
theorem aI4{a:Affine}(h:dK a=true):BA 4 a:=by have:=(rQ h).1;unfold BA;omega
theorem aAJ{l:List Affine}(h1:l.length≤2)(h2: ∀x∈l,dK x=true):BAs 4 l:=⟨by omega,fun a ha=>aI4 (h2 a ha)⟩
theorem aI3{d:Int}: ∀{L:Nat} {e:Expr},dQ L e d=true→BE 4 L e
 |0,_,h=>by cases h
 |L+1,e,h=>by
  obtain⟨hk,ho,hs⟩:=jE h
  have:=pU e.kind
  refine⟨by omega,?_,?_,fun k hk=>aI3 (hs k hk)⟩
  ·by_cases h2:e.kind=2
   ·exact aI4 (Z7 ho h2).1
   ·by_cases h3:e.kind=3
    ·rw [xB (Z6 ho h3).2];unfold BA;simp
    ·rw [xB (aCH ho h2 h3).1];unfold BA;simp
  ·by_cases h3:e.kind=3
   ·have:=Q3 (Z6 ho h3).1
    exact aAJ this.2.1 this.2.2
   ·by_cases h2:e.kind=2
    ·rw [xC (Z7 ho h2).2];exact⟨by simp,fun x hx=>by cases hx⟩
    ·rw [xC (aCH ho h2 h3).2];exact⟨by simp,fun x hx=>by cases hx⟩
theorem aKP{s:Stmt}{d:Int}(hs:gX s d=true):BS 4 s:=by
 obtain⟨h1,h2,_⟩:=o9 hs
 have:=Q3 h1
 exact⟨aAJ this.2.1 this.2.2,aI3 h2⟩
theorem aJ3{list:List Arr}{x:Part}(h:dD list x=true):BPt 4 x:=by
 obtain⟨h1,h2⟩:=Z5 h
 obtain⟨_,h4,h5,_⟩:=mD h
 exact⟨⟨h1,fun l hl=>⟨aAJ (h2 l hl).1.1 (h2 l hl).1.2,aAJ (h2 l hl).2.1 (h2 l hl).2.2⟩⟩,h4.2,fun s hs=>aKP (h5 s hs)⟩
theorem aI2{l:List Arr}(h1:l.length≤4)(h2:fG l):BR 4 l:=⟨h1,fun x hx=>by
 have:=h2 x hx
 simp only [iW,Bool.and_eq_true,decide_eq_true_eq] at this
 omega⟩
theorem aEp{p:Prog}(h:bK p=true):BG 4 p:=by
 obtain⟨h1,h2,h3,h4,_⟩:=eP h
 exact⟨aI2 h1 h2,h3,fun x hx=>aJ3 (h4 x hx)⟩
theorem aEI(n:Nat){a:Affine}(h:a.coefs.length≤1000):fB n a=some a:=by
 unfold fB m_ownClone
 rw [if_pos (by omega)];rfl
theorem T6(n:Nat): ∀x,dK x=true→fB n x=some x:=fun x hx=>aEI n (by have:=(rQ hx).1;omega)
theorem I6{n:Nat}(hn:5000≤n){l:List Affine}(h1:l.length≤2)(h2: ∀x∈l,dK x=true):fA n l=some l:=by
 unfold fA
 refine Ev.eq (xG (g:=fun x=>x) (K:=fun x1=>some x1) (fun x hx=>T6 n x (h2 x hx)) (by omega) hn (Ev.some ?_))
 simp
theorem I5{n:Nat}(hn:5000≤n){nest:List Loop}(h1:nest.length≤4)(h2: ∀l∈nest,aJE l):jU n nest=some nest:=by
 unfold jU
 refine Ev.eq ?_
 refine J9 (β:=Loop) (l:=nest) (n:=n) (F:=fun x5 k=>Option.bind (fA n x5.lo) fun x6=>Option.bind (fA n x5.hi) fun x7=>k (⟨x6,x7⟩:Loop)) (g:=fun x=>x) (s:=0) (pre:=[]) (K:=fun x1=>some x1) ?_ (by omega) (by simp) (by omega) hn (Ev.some (by simp))
 exact fun x hx k hk=>aA (I6 hn (h2 x hx).1.1 (h2 x hx).1.2) (aA (I6 hn (h2 x hx).2.1 (h2 x hx).2.2) hk)
theorem aCF{n:Nat}(hn:6000≤n){s:Stmt}{d:Int}(hs:gX s d=true):pZ n s=some s:=by
 unfold pZ
 rw [aAi hn hs (F:=fun q0=>fB n q0) (f:=fun x=>x) (T6 n),aIi (fun _ _=>rfl) hs];rfl
theorem aCG{n:Nat}(hn:6000≤n){list:List Arr}{x:Part}(h:dD list x=true):jT n x=some x:=by
 obtain⟨h1,h2⟩:=Z5 h
 obtain⟨_,h4,h5,_⟩:=mD h
 unfold jT
 refine Ev.eq (aA (I5 (by omega) h1 h2) (xG (g:=fun x=>x) (K:=fun x2=>some (⟨x.nest,x2⟩:Part)) (fun s hs=>aCF hn (h5 s hs)) (by omega) (by omega) (Ev.some ?_)))
 simp
theorem aF9{n:Nat}(hn:6000≤n){p:Prog}(h:bK p=true):d9 n p=some p:=by
 obtain⟨h1,h2,h3,h4,_⟩:=eP h
 unfold d9
 refine Ev.eq (J9 (F:=fun x5 k=>Option.bind (m_ownClone x5.dims) fun x6=>k (⟨x5.name,x6⟩:Arr)) (g:=fun x=>x) (s:=0) (pre:=[]) (K:=fun x1=>aL (fun again11 ((x8,x9):(List Part)×Int)=>
    bif decide (x9<(p.parts.length:Int)) then(
     Option.bind (ix p.parts x9) fun x12=>
     Option.bind (jT n x12) fun x13=>
     Option.bind (app x8 [x13]) fun x14=>
     again11 (x14,wr (x9+1))
    ) else(
     some (⟨x1,x8⟩:Prog)
    )
   ) n ([],0)) (fun x hx k hk=>aA (x:=x.dims) ?_ hk) (by omega) (by simp) (by omega) (by omega) ?_)
 ·have:=(aI2 h1 h2).2 x hx
  unfold m_ownClone
  rw [if_pos (by omega)]
 ·refine xG (g:=fun x=>x) (K:=fun x8=>some (⟨_,x8⟩:Prog)) (fun x hx=>aCG hn (h4 x hx)) (by omega) (by omega) (Ev.some ?_)
  simp
theorem U2(n:Nat){a:Affine}(h:BA 1000 a):fQ n a=some a:=by
 unfold fQ
 rw [eB _ h];rfl
theorem vH{n:Nat}(hn:5000≤n){l:List Affine}(h:BAs 1000 l):cP n l=some l:=by
 unfold cP
 exact Ev.eq (mJ (K:=fun x1=>some x1) (fun x hx=>U2 n (h.2 x hx)) h.1 hn (Ev.some rfl))
theorem U3{n:Nat}(hn:5000≤n){a:Access}(h:BAs 1000 a.subs):fR n a=some a:=by
 unfold fR
 rw [vH hn h];rfl
theorem J0: ∀(L n:Nat) (e:Expr),5000+L≤n→BE 1000 L e→s_l16OwnExpr (n+1) e=some e
 |0,_,_,_,h=>h.elim
 |L+1,n,e,hn,h=>by
  obtain⟨h1,h2,h3,h4⟩:=h
  obtain⟨n,rfl⟩: ∃j,n=j+1:=⟨n-1,by omega⟩
  unfold s_l16OwnExpr iK
  rw [U2 _ h2,U3 (by omega) h3]
  refine Ev.eq (aA rfl (aA rfl (aA (x:=e.kids) ?_ (Ev.some (by cases e;rfl)))))
  exact Ev.eq (mJ (f:=s_l16OwnExpr (n+1)) (K:=fun x1=>some x1) (fun x hx=>J0 L n x (by omega) (h4 x hx)) h1 (by omega) (Ev.some rfl))
theorem aCL{n:Nat}(hn:6000≤n){s:Stmt}(h:BS 1000 s):kE n s=some s:=by
 obtain⟨n,rfl⟩: ∃j,n=j+1:=⟨n-1,by omega⟩
 unfold kE
 rw [U3 (by omega) h.1,J0 5 n s.value (by omega) h.2];rfl
theorem aCN{n:Nat}(hn:6000≤n){x:Part}(h:BPt 1000 x):kF n x=some x:=by
 obtain⟨⟨h1,h2⟩,h3,h4⟩:=h
 have e1:fP n x.nest=some x.nest:=by
  unfold fP
  refine Ev.eq (mJ (K:=fun x1=>some x1) (fun l hl=> ?_) h1 (by omega) (Ev.some rfl))
  unfold mX
  rw [vH (by omega) (h2 l hl).1,vH (by omega) (h2 l hl).2];rfl
 have e2:fN n x.body=some x.body:=by
  unfold fN
  exact Ev.eq (mJ (K:=fun x1=>some x1) (fun l hl=>aCL hn (h4 l hl)) h3 (by omega) (Ev.some rfl))
 unfold kF
 rw [e1,e2];rfl
theorem aCM{n:Nat}(hn:6000≤n){p:Prog}(h:BG 1000 p):gG n p=some p:=by
 obtain⟨⟨h1,h2⟩,h3,h4⟩:=h
 have e1:eZ n p.arrays=some p.arrays:=by
  unfold eZ
  refine Ev.eq (mJ (K:=fun x1=>some x1) (fun l hl=> ?_) h1 (by omega) (Ev.some rfl))
  unfold l4
  rw [eB _ (h2 l hl)];rfl
 have e2:fO n p.parts=some p.parts:=by
  unfold fO
  exact Ev.eq (mJ (K:=fun x1=>some x1) (fun l hl=>aCN hn (h4 l hl)) h3 (by omega) (Ev.some rfl))
 unfold gG
 rw [e1,e2];rfl
theorem pK{α:Type}{f:α→α→Option Bool}{l:List α}(hf: ∀x∈l,f x x=some true){n:Nat}(hn:l.length<n)(hl:l.length≤1000000):
  (bif !decide ((l.length:Int)=(l.length:Int)) then(some false) else(aL (fun again2 (x1:Int)=>bif decide (x1<(l.length:Int)) then(Option.bind (ix l x1) fun x3=>Option.bind (ix l x1) fun x4=>Option.bind (f x3 x4) fun x5=>bif !x5 then(some false) else(again2 (wr (x1+1)))) else(some true)) n 0))=some true:=by
 refine Ev.eq (gU (fun h=>(h rfl).elim) (fun _=> ?_))
 refine Ev.loop (fun x:Int=> ∃i:Nat,x=i∧i≤l.length) (fun x=>l.length-x.toNat) ?_ n 0 ⟨0,rfl,by omega⟩ (by omega)
 rintro again x ⟨i,rfl,hi⟩ hr
 refine aG (fun hlt=> ?_) (fun _=>Ev.some rfl)
 obtain⟨e,hg⟩: ∃e,l[i]? =some e:=⟨_,List.getElem?_eq_getElem (show i<l.length by omega)⟩
 refine aA (aQ hg) (aA (aQ hg) (aA (hf e (List.mem_of_getElem? hg)) (b8 ?_)))
 rw [aM (by omega)]
 exact hr _ ⟨i+1,by omega,by omega⟩ (by omega)
theorem T1{a:List Int}{n:Nat}(hn:a.length<n)(hl:a.length≤1000000):jS n a a=some true:=by
 unfold jS
 refine Ev.eq (gU (fun h=>(h rfl).elim) (fun _=> ?_))
 refine Ev.loop (fun x:Int=> ∃i:Nat,x=i∧i≤a.length) (fun x=>a.length-x.toNat) ?_ n 0 ⟨0,rfl,by omega⟩ (by omega)
 rintro again x ⟨i,rfl,hi⟩ hr
 refine aG (fun hlt=> ?_) (fun _=>Ev.some rfl)
 obtain⟨e,hg⟩: ∃e,a[i]? =some e:=⟨_,List.getElem?_eq_getElem (show i<a.length by omega)⟩
 refine aA (aQ hg) (aA (aQ hg) (gU (fun h=>(h rfl).elim) (fun _=> ?_)))
 rw [aM (by omega)]
 exact hr _ ⟨i+1,by omega,by omega⟩ (by omega)
theorem aEt{n:Nat}(hn:5000≤n){a:Affine}(h:BA 1000 a):cE n a a=some true:=by
 unfold BA at h
 unfold cE
 refine Ev.eq (Ev.jn (fun z=>z=true) (fun j hj=>aA (T1 (by omega) (by omega)) (bZ (hj _ (decide_eq_true rfl)))) (fun z hz=>Ev.some hz))
theorem Q1{n:Nat}(hn:5000≤n){l:List Affine}(h:BAs 1000 l):cQ n l l (fun q0 q1=>cE n q0 q1)=some true:=by
 have:=h.1
 unfold cQ
 exact pK (fun x hx=>aEt hn (h.2 x hx)) (by omega) (by omega)
theorem aEu{n:Nat}(hn:5000≤n){a:Access}(h:BAs 1000 a.subs):iR n a a=some true:=by
 unfold iR
 refine Ev.eq (Ev.jn (fun z=>z=true) (fun j hj=> ?_) (fun z hz=>Ev.some hz))
 exact aG (fun _=>aA (Q1 hn h) (hj _ rfl)) (fun h=>(h rfl).elim)
theorem aBE: ∀(L n:Nat) (e:Expr),5000+L≤n→BE 1000 L e→i_exprSame (n+1) e e=some true
 |0,_,_,_,h=>h.elim
 |L+1,n,e,hn,h=>by
  obtain⟨h1,h2,h3,h4⟩:=h
  obtain⟨n,rfl⟩: ∃j,n=j+1:=⟨n-1,by omega⟩
  unfold i_exprSame
  refine Ev.eq (Ev.jn (fun z=>z=true) (fun j hj=> ?_) (fun z hz=>Ev.some hz))
  refine aG (fun _=>aG (fun _=>aA (aEt (by omega) h2) (bZ (aA (aEu (by omega) h3) (bZ (aA (x:=true) ?_ (hj _ rfl)))))) (fun h=>(h rfl).elim)) (fun h=>(h rfl).elim)
  unfold iQ
  exact pK (fun x hx=>aBE L n x (by omega) (h4 x hx)) (by omega) (by omega)
theorem aFS{n:Nat}(hn:6000≤n){s:Stmt}(h:BS 1000 s):lU n s s=some true:=by
 obtain⟨n,rfl⟩: ∃j,n=j+1:=⟨n-1,by omega⟩
 unfold lU
 refine Ev.eq (Ev.jn (fun z=>z=true) (fun j hj=> ?_) (fun z hz=>Ev.some hz))
 exact aA (aEu (by omega) h.1) (bZ (aA (aBE 5 n s.value (by omega) h.2) (hj _ rfl)))
theorem aGc{n:Nat}(hn:5000≤n){nest:List Loop}(h:BN 1000 nest):n8 n nest nest=some true:=by
 have:=h.1
 unfold n8 iP
 rw [pK (fun l hl=> ?_) (by omega) (by omega)]
 ·rfl
 ·unfold kP
  refine Ev.eq (Ev.jn (fun z=>z=true) (fun j hj=> ?_) (fun z hz=>Ev.some hz))
  exact aA (Q1 hn (h.2 l hl).1) (bZ (aA (Q1 hn (h.2 l hl).2) (hj _ rfl)))
theorem aF7{n:Nat}(hn:6000≤n){x:Part}(h:BPt 1000 x):eS n x x=some true:=by
 have:=h.2.1
 unfold eS
 refine Ev.eq (Ev.jn (fun z=>z=true) (fun j hj=> ?_) (fun z hz=>Ev.some hz))
 refine aA (aGc (by omega) h.1) (bZ (aA (x:=true) ?_ (hj _ rfl)))
 unfold iN
 exact pK (fun s hs=>aFS hn (h.2.2 s hs)) (by omega) (by omega)
theorem aF6{n:Nat}(hn:6000≤n){p:Prog}(h:BG 1000 p):eA n p p=some true:=by
 obtain⟨⟨h1,h2⟩,h3,h4⟩:=h
 unfold eA
 refine Ev.eq (Ev.jn (fun z=>z=true) (fun j hj=> ?_) (fun z hz=>Ev.some hz))
 refine aA (x:=true) ?_ (bZ (aA (x:=true) ?_ (hj _ rfl)))
 ·unfold gR
  refine pK (fun x hx=> ?_) (by omega) (by omega)
  unfold eU
  refine Ev.eq (Ev.jn (fun z=>z=true) (fun j hj=> ?_) (fun z hz=>Ev.some hz))
  have:=h2 x hx
  exact aG (fun _=>aA (T1 (by omega) (by omega)) (hj _ rfl)) (fun h=>(h rfl).elim)
 ·unfold iO
  exact pK (fun x hx=>aF7 hn (h4 x hx)) (by omega) (by omega)
theorem aGl{α:Type}{l:List α}{i:Int}{x:α}(h:ix l i=some x): ∃k:Nat,i=k∧k<l.length∧l[k]? =some x:=by
 obtain⟨h1,h2⟩:=uH h
 exact⟨i.toNat,by omega,(List.getElem?_eq_some_iff.1 h2).1,h2⟩
theorem aER(n:Nat){p:Prog}(h:p.parts.length≤1000)(part:Int):eG n p part=some (decide (0≤part∧part<(p.parts.length:Int))):=by
 unfold eG
 rw [eE,aM (by omega)]
 exact congrArg some (decide_eq_decide.2 (by omega))
def aAp(q:Prog):Prog×Bool:=if bK q=true then(q,true) else(⟨[],[]⟩,false)
theorem aBD{n:Nat}(hn:7000≤n){p:Prog}(hp:BG 1000 p):lQ n p=some (aAp p):=by
 unfold lQ aAp
 refine Ev.eq (aA (fE hn hp.sm) (Ev.cond (fun h=>Ev.some ?_) (fun h=> ?_)))
 ·rw [if_neg (by simpa using h)]
 ·have hv:bK p=true:=by simpa using h
  rw [if_pos hv]
  exact aA (aF9 (by omega) hv) (Ev.some rfl)
def bB(m:Int)(a:Affine):Prop:=a.coefs.length=4∧D9 m a.const∧ ∀c∈a.coefs,D9 m c
theorem bB.mono{m m':Int}{a:Affine}(h:bB m a)(hm:m≤m'):bB m' a:=⟨h.1,⟨by have:=h.2.1.1;omega,by have:=h.2.1.2;omega⟩,fun c hc=>⟨by have:=(h.2.2 c hc).1;omega,by have:=(h.2.2 c hc).2;omega⟩⟩
def noP:Prog×Bool:=(⟨[],[]⟩,false)
theorem take_set{α:Type}{l r:List α}{k:Nat}{x y:α}(h:l[k]? =some x):(l.take (k+1)++r).set k y=l.take k++y::r:=by
 have hk:=(List.getElem?_eq_some_iff.1 h).1
 rw [List.take_add_one,h,List.append_assoc,List.set_append_right _ _ (by simp;omega),List.length_take,Nat.min_eq_left (by omega),Nat.sub_self];rfl
theorem aIw{q:Prog}(h:BG 1000 q):BG 1000 (aAp q).1:=by
 unfold aAp
 split
 ·exact h
 ·exact⟨⟨by simp,fun x hx=>by cases hx⟩,by simp,fun x hx=>by cases hx⟩
theorem aCR:BG 1000 noP.1:=⟨⟨by simp [noP],fun x hx=>by cases hx⟩,by simp [noP],fun x hx=>by cases hx⟩
def kA(k:Nat)(s:Int):Affine:=⟨[0,0,0,0].set k s,0⟩
theorem aJS{B:Option Bool}{a b:Int}(h:b≤1048576→Ev B (fun r=>r=true)):Ev (jn (fun(x2:Bool)=>bif x2 then(some true) else B) (fun j1=>bif decide ((1048576:Int)<a) then(j1 true) else(j1 (decide ((1048576:Int)<b))))) (fun r=>r=true):=by
 exact Ev.jn (fun z=>z=false→b≤1048576) (fun j hj=>aG (fun _=>hj _ (fun h=>by cases h)) (fun _=>hj _ (fun h=>by have:=of_decide_eq_false h;omega))) (fun z hz=>Ev.cond (fun _=>Ev.some rfl) (fun h0=>h (hz h0)))
theorem aJR{I S:Option (Prog×Bool)}{REST:Prog×Bool→Prog×Bool→Option Bool}{R:Prog×Bool}(hR:BG 1000 R.1)(h1:I=some R)(h2:S=some R)(hb:R.2=true→Ev (REST R R) (fun r=>r=true)):
  Ev (Option.bind I fun x4=>Option.bind S fun x5=>jn (fun(x8:Bool)=>
    bif x8 then(
     jn (fun(x11:Bool)=>
      some x11
     ) (fun j9=>
      bif(x4.2==x5.2) then(
       Option.bind (eA N x4.1 x5.1) fun x10=>
       j9 x10
      ) else(
       j9 false
      )
     )
    ) else(
     REST x4 x5
    )
   ) (fun j6=>
    bif !(x4.2==x5.2) then(
     j6 true
    ) else(
     Option.bind (eA N x4.1 x5.1) fun x7=>
     bif !x7 then(
      j6 true
     ) else(
      j6 (!x4.2)
     )
    )
   )) (fun r=>r=true):=by
 have hN:N=100000:=rfl
 have hs:=aF6 (n:=N) (by omega) hR
 have he:(R.2==R.2)=true:=by cases R.2<;>rfl
 refine aA h1 (aA h2 (Ev.jn (fun z=>z= !R.2) (fun j hj=> ?_) (fun z hz=> ?_)))
 ·rw [he]
  exact b8 (aA hs (b8 (hj _ rfl)))
 ·subst hz
  cases hr:R.2 with
  |false=>exact bZ (Ev.jn (fun z=>z=true) (fun j hj=>bZ (aA hs (hj _ rfl))) (fun z hz=>Ev.some hz))
  |true=>exact b8 (hb hr)
theorem aJU{p q:Prog}(h:aAp p=(q,true)):q=p∧bK p=true:=by
 unfold aAp at h
 split at h
 ·rename_i hv;cases h;exact⟨rfl,hv⟩
 ·cases h
def low(k:Nat)(b:Affine):Prop:= ∀j,k≤j→b.coefs.getD j 0=0
def isP(p:Prog)(a:Int):Bool:=decide (0≤a∧a<(p.parts.length:Int))
theorem aCP{b:Bool}(h:(!b)=true):b=false:=by cases b with
 |false=>rfl
 |true=>cases h
theorem aCQ{b:Bool}(h:(!b)=false):b=true:=by cases b with
 |false=>cases h
 |true=>rfl
theorem instP_rho{i j:Nat}{P:Part}{σ:Inst→Inst}(h: ∀s q,σ ⟨(i:Int),s,q⟩=⟨(j:Int),s,q⟩):(instP i P).map σ=instP j P:=by
 unfold instP
 rw [List.map_flatMap,List.flatMap_def,List.flatMap_def]
 congr 1
 refine List.map_congr_left (fun q _=> ?_)
 rw [List.map_map]
 exact List.map_congr_left (fun t _=>h _ _)
theorem insts_cons(P:Part)(ps:List Part):insts (P::ps)=instP 0 P++(insts ps).map (jJ 1):=by
 have h1:=insts_app [P] ps
 have h2:insts [P]=instP 0 P:=by unfold insts;simp
 rw [h2] at h1
 exact h1
theorem insts_two(A C:List Part)(P1 P2:Part):insts (A++P1::P2::C)=insts A++(instP A.length P1++(instP (A.length+1) P2++((insts C).map (jJ 1)).map (fun x=>jJ A.length (jJ 1 x)))):=by
 rw [insts_app,insts_cons,insts_cons,List.map_append,List.map_append,List.map_append]
 congr 2
 ·exact instP_rho (fun s q=>by unfold jJ;simp)
 ·rw [List.map_map,List.map_map]
  congr 1
  exact instP_rho (fun s q=>by unfold jJ;simp<;>omega)
theorem insts_lt{ps:List Part}{x:Inst}(h:x∈insts ps):0≤x.part∧x.part<(ps.length:Int):=by
 obtain⟨i,k,P,s,e1,_,e3,_⟩:=insts_mem h
 have:=(List.getElem?_eq_some_iff.1 e3).1
 omega
theorem aHf{p:Prog}(hv:bK p=true){x:Inst}(hx:cN p x): ∀{Y:List Inst} {m:List Int},(∀y∈Y,cN p y)→(∀y∈Y,com p x y)→gT p.arrays m→cA p (lL p m x) Y=lL p (cA p m Y) x
 | [],m,_,_,_=>rfl
 |y::Y,m,h1,h2,hm=>by
  show cA p (lL p (lL p m x) y) Y=lL p (cA p (lL p m y) Y) x
  rw [h2 y List.mem_cons_self m hm]
  exact aHf hv hx (fun z hz=>h1 z (List.mem_cons_of_mem _ hz)) (fun z hz=>h2 z (List.mem_cons_of_mem _ hz)) (D3 hv hm (h1 y List.mem_cons_self))
theorem block{p:Prog}(hv:bK p=true): ∀{X Y:List Inst} {m:List Int},(∀x∈X,cN p x)→(∀y∈Y,cN p y)→(∀x∈X,∀y∈Y,com p x y)→gT p.arrays m→cA p (cA p m X) Y=cA p (cA p m Y) X
 | [],Y,m,_,_,_,_=>rfl
 |x::X,Y,m,h1,h2,h3,hm=>by
  show cA p (cA p (lL p m x) X) Y=cA p (lL p (cA p m Y) x) X
  rw [block hv (fun z hz=>h1 z (List.mem_cons_of_mem _ hz)) h2 (fun z hz=>h3 z (List.mem_cons_of_mem _ hz)) (D3 hv hm (h1 x List.mem_cons_self)),aHf hv (h1 x List.mem_cons_self) h2 (h3 x List.mem_cons_self) hm]
theorem U5{p:Prog}(hv:bK p=true){X Y:List Int→List Inst}: ∀{L:List (List Int)} {m:List Int},(∀q∈L,∀x∈X q,cN p x)→(∀q∈L,∀y∈Y q,cN p y)→L.Pairwise (fun a b=> ∀y∈Y a,∀x∈X b,com p y x)→gT p.arrays m→
  cA p m (L.flatMap (fun q=>X q++Y q))=cA p m (L.flatMap X++L.flatMap Y)
 | [],m,_,_,_,_=>rfl
 |q::L,m,h1,h2,h3,hm=>by
  rw [List.pairwise_cons] at h3
  have x1:=fun x hx=>h1 q List.mem_cons_self x hx
  have y1:=fun y hy=>h2 q List.mem_cons_self y hy
  have mx:=nH hv x1 hm
  have my:=nH hv y1 mx
  have hXL: ∀x∈L.flatMap X,cN p x:=fun x hx=>by
   obtain⟨c,hc,hx⟩:=List.mem_flatMap.1 hx
   exact h1 c (List.mem_cons_of_mem _ hc) x hx
  rw [List.flatMap_cons,List.flatMap_cons,List.flatMap_cons,fJ,fJ,U5 hv (fun c hc=>h1 c (List.mem_cons_of_mem _ hc)) (fun c hc=>h2 c (List.mem_cons_of_mem _ hc)) h3.2 my,fJ,fJ,fJ,fJ]
  rw [block hv y1 hXL (fun y hy x hx=>by
   obtain⟨c,hc,hx⟩:=List.mem_flatMap.1 hx
   exact h3.1 c hc y hy x hx) mx]
theorem aIs{α:Type}{A U W Z:List α}{x y:α}(hx:x∈U)(hy:y∈W): ∃s t:Nat,s<t∧(A++(U++(W++Z)))[s]? =some x∧(A++(U++(W++Z)))[t]? =some y:=by
 obtain⟨i,hi⟩:=List.mem_iff_getElem?.1 hx
 obtain⟨j,hj⟩:=List.mem_iff_getElem?.1 hy
 have h1:=(List.getElem?_eq_some_iff.1 hi).1
 have h2:=(List.getElem?_eq_some_iff.1 hj).1
 refine⟨A.length+i,A.length+(U.length+j),by omega,?_,?_⟩
 ·rw [List.getElem?_append_right (by omega),show A.length+i-A.length=i by omega,List.getElem?_append_left h1];exact hi
 ·rw [List.getElem?_append_right (by omega),show A.length+(U.length+j)-A.length=U.length+j by omega,List.getElem?_append_right (by omega),show U.length+j-U.length=j by omega,List.getElem?_append_left h2];exact hj
def putP(p:Prog)(i many:Nat)(ys:List Part):Prog:=⟨p.arrays,p.parts.take i++ys++p.parts.drop (i+many)⟩
theorem Z3{p:Prog}(hp:BG 900 p){i many:Nat}{ys:List Part}(h1:ys.length≤4)(h2: ∀y∈ys,BPt 1000 y):BG 1000 (putP p i many ys):=by
 have hpl:=hp.2.1
 refine⟨(hp.mono (show 900≤1000 by omega)).1,?_,fun x hx=> ?_⟩
 ·show(p.parts.take i++ys++p.parts.drop (i+many)).length≤1000
  simp only [List.length_append,List.length_take,List.length_drop];omega
 ·have hx:x∈p.parts.take i++ys++p.parts.drop (i+many):=hx
  simp only [List.mem_append] at hx
  rcases hx with (h|h)|h
  ·exact(hp.mono (show 900≤1000 by omega)).2.2 x (List.mem_of_mem_take h)
  ·exact h2 x h
  ·exact(hp.mono (show 900≤1000 by omega)).2.2 x (List.mem_of_mem_drop h)
theorem aFw{n:Nat}(hn:7000≤n){p:Prog}(hp:BG 900 p){i many:Nat}(hi:i+many≤p.parts.length){ys:List Part}(h1:ys.length≤4)(h2: ∀y∈ys,BPt 1000 y):sP n p (i:Int) (many:Int) ys=some (aAp (putP p i many ys)):=by
 have hpl:=hp.2.1
 have hp':=hp.mono (show 900≤1000 by omega)
 have hq:=Z3 hp (i:=i) (many:=many) h1 h2
 unfold sP aAp
 refine Ev.eq (aA (tN (by omega) hp') (aA (sI (by omega) (by omega) (by omega)) ?_))
 rw [Int.toNat_natCast,show(0:Int).toNat=0 from rfl,List.drop_zero]
 refine aA (x:=p.parts.take i) (bT (by simp;omega)) (aA (x:=p.parts.take i++ys) (bT (by simp;omega)) ?_)
 rw [aM (by omega)]
 refine aA (sI (by omega) (by omega) (by omega)) ?_
 rw [Int.toNat_natCast,List.take_length,show((i:Int)+(many:Int)).toNat=i+many by omega]
 refine aA (x:=(putP p i many ys).parts) ?_ ?_
 rotate_left
 show Ev (Option.bind (cW n (putP p i many ys)) _) _
 refine(aA (gQ hn hq.sm) (Ev.cond (fun h=>Ev.some ?_) (fun h=> ?_)))
 ·rw [if_neg (by simpa using h)]
 ·rw [if_pos (by simpa using h)]
  exact aA (tN (by omega) hq) (Ev.some rfl)
 ·rw [bT (by simp;omega)];rfl
abbrev M9(p:Prog):List Dep:=kT p (insts p.parts) (insts p.parts).length
theorem aEi{p:Prog}(hv:bK p=true){d:Dep}(hd:d∈M9 p): ∃(s t:Nat) (a b:Inst),d.fromF=s∧d.toF=t∧(insts p.parts)[s]? =some a∧(insts p.parts)[t]? =some b∧s<t∧a.point.length≤4∧b.point.length≤4:=by
 obtain⟨s,t,h1,h2,_,rfl⟩:=aBo.1 hd
 have g1:=List.getElem?_eq_getElem (show s<(insts p.parts).length by omega)
 have g2:=List.getElem?_eq_getElem h2
 exact⟨s,t,_,_,rfl,rfl,g1,g2,h1,inst_pl hv (insts_mem (List.mem_of_getElem? g1)),inst_pl hv (insts_mem (List.mem_of_getElem? g2))⟩
theorem W8{p:Prog}(hv:bK p=true):(M9 p).length≤14400:=by
 have h1:=uL p (insts p.parts) (insts p.parts).length
 have h2:=(eP hv).2.2.2.2
 have h3:(insts p.parts).length*(insts p.parts).length≤120*120:=Nat.mul_le_mul h2 h2
 exact Nat.le_trans h1 h3
theorem aE9{n:Nat}(hn:7000≤n){p:Prog}(hp:BG 1000 p)(part:Int):q7 n p part (-1)=some (if bK p=true∧isP p part=true then(p,true) else noP):=by
 unfold q7
 refine Ev.eq (Ev.jn (fun z=>z= !(bK p&&isP p part)) (fun j hj=> ?_) (fun z hz=> ?_))
 ·refine aA (fE hn hp.sm) (Ev.cond (fun h=>hj _ (by rw [aCP h];rfl)) (fun h=> ?_))
  have hv:=aCQ h
  refine aA (aER n hp.2.1 part) (Ev.cond (fun h2=>hj _ ?_) (fun h2=>gU (fun h=>(h rfl).elim) (fun _=>hj _ ?_)))
  ·rw [hv,show isP p part=false from aCP h2];rfl
  ·rw [hv,show isP p part=true from aCQ h2];rfl
 ·subst hz
  refine Ev.cond (fun h=>Ev.some ?_) (fun h=> ?_)
  ·have:=aCP h
   rw [if_neg (fun hc=>by rw [hc.1,hc.2] at this;cases this)];rfl
  ·have:=aCQ h
   simp only [Bool.and_eq_true] at this
   obtain⟨hv,hi⟩:=this
   rw [if_pos ⟨hv,hi⟩]
   have hi':0≤part∧part<(p.parts.length:Int):=of_decide_eq_true hi
   obtain⟨x,hx,_⟩:=kM hi'.1 hi'.2
   exact aA (aF9 (by omega) hv) (aA hx (Ev.some rfl))
def wO(p:Prog)(part k:Int)(d:Dep):Bool:=match (insts p.parts)[d.fromF.toNat]?,(insts p.parts)[d.toF.toNat]? with
 |some a,some b=>decide (a.part=part)&&(decide (b.part=part)&&(decide (k≤a.stmt)&&decide (b.stmt<k)))
 |_,_=>false
def aEh(p:Prog)(part k:Int)(P:Part):Bool:=decide (1≤k∧k<(P.body.length:Int))&& !(M9 p).any (wO p part k)
def iZ(P:Part)(k:Nat):Part:=⟨P.nest,P.body.take k⟩
def kZ(P:Part)(k:Nat):Part:=⟨P.nest,P.body.drop k⟩
def uX(p:Prog)(part k:Int):Prog×Bool:=
 if bK p=true∧isP p part=true then
  (match ix p.parts part with
  |some P=>if aEh p part k P=true then aAp (putP p part.toNat 1 [iZ P k.toNat,kZ P k.toNat]) else noP
  |none=>noP)
 else noP
theorem M8{p:Prog}(hv:bK p=true){P:Part}(h1:P∈p.parts)(k:Nat): ∀y∈[iZ P k,kZ P k],BPt 1000 y:=by
 obtain⟨_,_,h3⟩:=aEp hv
 obtain⟨a1,a2,a3⟩:=h3 P h1
 intro y hy
 simp only [List.mem_cons,List.not_mem_nil,or_false] at hy
 rcases hy with rfl|rfl
 ·refine⟨a1.mono (by omega),?_,fun s hs=>(a3 s (List.mem_of_mem_take hs)).mono (by omega)⟩
  show(P.body.take k).length≤1000
  rw [List.length_take];omega
 ·refine⟨a1.mono (by omega),?_,fun s hs=>(a3 s (List.mem_of_mem_drop hs)).mono (by omega)⟩
  show(P.body.drop k).length≤1000
  rw [List.length_drop];omega
theorem aIr{n:Nat}{s:List Part}{i:Nat}{v:List Part}(h1:i≤s.length)(h2:s.length+v.length≤1000000000):jA n s (i:Int) v=some (s.take i++v++s.drop i):=by
 unfold jA
 rw [decide_eq_true (show(0:Int)≤(i:Int) by omega),decide_eq_true (show(i:Int)≤(s.length:Int) by omega),cond_true,cond_true,Int.toNat_natCast]
 exact bT (by simp only [List.length_append,List.length_take,List.length_drop];omega)
theorem aEY{n:Nat}(hn:20000≤n){p:Prog}(hp:BG 1000 p){part k:Int}(hb: -1≤part∧part≤9):fX n p part k=some (uX p part k):=by
 unfold fX uX
 refine Ev.eq (aA (aE9 (by omega) hp part) ?_)
 by_cases hc:bK p=true∧isP p part=true
 ·rw [if_pos hc,if_pos hc]
  obtain⟨hv,hi⟩:=hc
  have hi':0≤part∧part<(p.parts.length:Int):=of_decide_eq_true hi
  obtain⟨i,rfl⟩: ∃i:Nat,part=i:=⟨part.toNat,by omega⟩
  have e1':=List.getElem?_eq_getElem (show i<p.parts.length by omega)
  have e1:=aQ e1'
  generalize hP1:p.parts[i]=P at e1 e1'
  have hpl:=(eP hv).2.2.1
  have m1:=List.mem_of_getElem? e1'
  have hok:=(eP hv).2.2.2.1 P m1
  obtain⟨hl1,hl2⟩:=Z5 hok
  obtain⟨_,hbl,hbs,_⟩:=mD hok
  refine bZ (aA e1 ?_)
  rw [aM (n:=(i:Int)+1) (by omega),aM (n:=(P.body.length:Int)-1) (by omega),e1]
  dsimp only
  refine Ev.jn (fun z=>z= !decide (1≤k∧k<(P.body.length:Int))) (fun j hj=>aA (eE n k 1 _) (hj _ ?_)) (fun z hz=> ?_)
  ·congr 1
   rw [Bool.eq_iff_iff];simp only [decide_eq_true_eq];omega
  subst hz
  unfold aEh
  cases hne:decide (1≤k∧k<(P.body.length:Int)) with
  |false=>exact bZ (Ev.some rfl)
  |true=>
   have hk:=of_decide_eq_true hne
   obtain⟨t,rfl⟩: ∃t:Nat,k=t:=⟨k.toNat,by omega⟩
   refine b8 (aA (aCZ (by omega) hp.sm) ?_)
   rw [if_pos hv]
   refine bZ (aA (aEW (by omega) hv) ?_)
   have hDl:=W8 hv
   show Ev (aL _ n 0) _
   rw [Bool.true_and]
   generalize hD:M9 p=D at hDl
   rw [show kT p (insts p.parts) (insts p.parts).length=D from hD]
   refine Ev.loop (fun x:Int=> ∃j:Nat,x=j∧j≤D.length∧(D.take j).any (wO p (i:Int) (t:Int))=false) (fun x=>D.length-x.toNat) ?_ n 0 ⟨0,rfl,by omega,rfl⟩ (by omega)
   rintro again x ⟨j,rfl,hj,hs⟩ hr
   refine aG (fun hlt=> ?_) (fun hge=> ?_)
   ·have hd:=List.getElem?_eq_getElem (show j<D.length by omega)
    generalize hdk:D[j]=d at hd
    obtain⟨s,u,a,b,f1,f2,g1,g2,hst,la,lb⟩:=aEi hv (hD▸List.mem_of_getElem? hd)
    refine aA (aQ hd) (aA (x:=a) (by rw [f1];exact aQ g1) (aA (x:=b) (by rw [f2];exact aQ g2) ?_))
    have hbad:wO p (i:Int) (t:Int) d=(decide (a.part=(i:Int))&&(decide (b.part=(i:Int))&&(decide ((t:Int)≤a.stmt)&&decide (b.stmt<(t:Int))))):=by
     unfold wO;rw [f1,f2,Int.toNat_natCast,Int.toNat_natCast,g1,g2]
    refine Ev.jn (fun z=>z=wO p (i:Int) (t:Int) d) (fun q hq=> ?_) (fun z hz=> ?_)
    ·rw [hbad] at hq
     refine aG (fun h1=>aG (fun h2=>aG (fun h3=>hq _ ?_) (fun h3=>hq _ ?_)) (fun h2=>hq _ ?_)) (fun h1=>hq _ ?_)
     ·rw [decide_eq_true h1,decide_eq_true h2,decide_eq_true h3];simp
     ·rw [decide_eq_false h3];simp
     ·rw [decide_eq_false h2];simp
     ·rw [decide_eq_false h1];rfl
    ·subst hz
     refine Ev.cond (fun h=>Ev.some ?_) (fun h=> ?_)
     ·rw [if_neg]; · rfl
      have:D.any (wO p (i:Int) (t:Int))=true:=List.any_eq_true.2 ⟨d,List.mem_of_getElem? hd,h⟩
      rw [this];simp
     ·rw [aM (by omega)]
      exact hr _ ⟨j+1,by omega,by omega,by rw [nF hd,List.any_append,hs];simp [h]⟩ (by omega)
   ·rw [List.take_of_length_le (by omega)] at hs
    rw [hs,if_pos (by rfl)]
    have hq:=Z3 (i:=i) (many:=1) (ys:=[iZ P t,kZ P t]) ((aEp hv).mono (show 4≤900 by omega)) (by simp) (M8 hv m1 t)
    refine aA (I5 (by omega) hl1 hl2) (aA (sI (by omega) (by omega) (by omega)) ?_)
    rw [Int.toNat_natCast,Int.toNat_natCast,List.take_length]
    refine aA (x:=P.body.drop t) ?_ (aA (sI (by omega) (by omega) (by omega)) ?_)
    ·unfold m4
     have:(P.body.drop t).isEmpty=false:=by
      cases hdr:P.body.drop t with
      |nil=>
       have:=congrArg List.length hdr
       rw [List.length_drop,List.length_nil] at this
       omega
      |cons=>rfl
     rw [this,cond_false]
     rw [bT (by simp;omega)];rfl
    ·rw [Int.toNat_natCast,show(0:Int).toNat=0 from rfl,List.drop_zero]
     refine aA (x:=p.parts.set i (iZ P t)) (l3 (by omega) _) (aA (aIr (i:=i+1) (by rw [List.length_set];omega) (by rw [List.length_set];simp;omega)) ?_)
     have hpp:(⟨p.arrays,(p.parts.set i (iZ P t)).take (i+1)++[kZ P t]++(p.parts.set i (iZ P t)).drop (i+1)⟩:Prog)=putP p i 1 [iZ P t,kZ P t]:=by
      unfold putP
      congr 1
      rw [List.take_set,List.drop_set_of_lt (by omega),List.take_add_one,e1',List.set_append_right _ _ (by rw [List.length_take];omega)]
      have:i-(p.parts.take i).length=0:=by rw [List.length_take];omega
      rw [this]
      simp
     show Ev (Option.bind (lQ n (⟨p.arrays,(p.parts.set i (iZ P t)).take (i+1)++[kZ P t]++(p.parts.set i (iZ P t)).drop (i+1)⟩:Prog)) _) _
     rw [hpp]
     simp only [Int.toNat_natCast]
     exact aA (aBD (by omega) hq) (Ev.some rfl)
 ·rw [if_neg hc,if_neg hc]
  exact b8 (Ev.some rfl)
theorem aEF{n:Nat}(hn:20000≤n){p:Prog}(hp:BG 1000 p){part k:Int}(hb: -1≤part∧part≤9):fS n p part k=some (uX p part k):=by
 unfold fS uX
 refine Ev.eq (aA (aCM (by omega) hp) ?_)
 by_cases hc:bK p=true∧isP p part=true
 ·rw [if_pos hc]
  obtain⟨hv,hi⟩:=hc
  have hi':0≤part∧part<(p.parts.length:Int):=of_decide_eq_true hi
  obtain⟨i,rfl⟩: ∃i:Nat,part=i:=⟨part.toNat,by omega⟩
  have e1':=List.getElem?_eq_getElem (show i<p.parts.length by omega)
  have e1:=aQ e1'
  generalize hP1:p.parts[i]=P at e1 e1'
  have hpl:=(eP hv).2.2.1
  have m1:=List.mem_of_getElem? e1'
  have hok:=(eP hv).2.2.2.1 P m1
  obtain⟨_,hbl,hbs,_⟩:=mD hok
  rw [e1]
  dsimp only
  refine Ev.jn (fun z=>z= !decide (1≤k∧k<(P.body.length:Int))) (fun j hj=>aA (gQ (by omega) hp.sm) ?_) (fun z hz=> ?_)
  ·rw [hv]
   refine b8 (aG (fun h=>absurd h (by omega)) (fun _=>aG (fun h=>absurd h (by omega)) (fun _=>aG (fun h=>hj _ ?_) (fun h=>aA rfl (hj _ ?_)))))
   ·rw [decide_eq_false (by omega)];rfl
   ·rw [Bool.eq_iff_iff];simp only [Bool.not_eq_true',decide_eq_true_eq,decide_eq_false_iff_not];omega
  subst hz
  unfold aEh
  cases hne:decide (1≤k∧k<(P.body.length:Int)) with
  |false=>exact bZ (Ev.some rfl)
  |true=>
   have hk:=of_decide_eq_true hne
   obtain⟨t,rfl⟩: ∃t:Nat,k=t:=⟨k.toNat,by omega⟩
   refine b8 (aA (tD (by omega) hv) (aA (aED (by omega) hv) ?_))
   have hDl:=W8 hv
   rw [Bool.true_and]
   generalize hD:M9 p=D at hDl
   rw [show kT p (insts p.parts) (insts p.parts).length=D from hD]
   refine Ev.loop (fun x:Int=> ∃j:Nat,x=j∧j≤D.length∧(D.take j).any (wO p (i:Int) (t:Int))=false) (fun x=>D.length-x.toNat) ?_ n 0 ⟨0,rfl,by omega,rfl⟩ (by omega)
   rintro again x ⟨j,rfl,hj,hs⟩ hr
   refine aG (fun hlt=> ?_) (fun hge=> ?_)
   ·have hd:=List.getElem?_eq_getElem (show j<D.length by omega)
    generalize hdk:D[j]=d at hd
    obtain⟨s,u,a,b,f1,f2,g1,g2,hst,la,lb⟩:=aEi hv (hD▸List.mem_of_getElem? hd)
    refine aA (aQ hd) (aA (x:=a) (by rw [f1];exact aQ g1) (aA (x:=b) (by rw [f2];exact aQ g2) ?_))
    have hbad:wO p (i:Int) (t:Int) d=(decide (a.part=(i:Int))&&(decide (b.part=(i:Int))&&(decide ((t:Int)≤a.stmt)&&decide (b.stmt<(t:Int))))):=by
     unfold wO;rw [f1,f2,Int.toNat_natCast,Int.toNat_natCast,g1,g2]
    refine Ev.jn (fun z=>z=wO p (i:Int) (t:Int) d) (fun q hq=> ?_) (fun z hz=> ?_)
    ·rw [hbad] at hq
     refine aG (fun h1=>aG (fun h2=>aG (fun h3=>hq _ ?_) (fun h3=>hq _ ?_)) (fun h2=>hq _ ?_)) (fun h1=>hq _ ?_)
     ·rw [decide_eq_true h1,decide_eq_true h2,decide_eq_true h3];simp
     ·rw [decide_eq_false h3];simp
     ·rw [decide_eq_false h2];simp
     ·rw [decide_eq_false h1];rfl
    ·subst hz
     refine Ev.cond (fun h=>Ev.some ?_) (fun h=> ?_)
     ·rw [if_neg]; · rfl
      have:D.any (wO p (i:Int) (t:Int))=true:=List.any_eq_true.2 ⟨d,List.mem_of_getElem? hd,h⟩
      rw [this];simp
     ·rw [aM (by omega)]
      exact hr _ ⟨j+1,by omega,by omega,by rw [nF hd,List.any_append,hs];simp [h]⟩ (by omega)
   ·rw [List.take_of_length_le (by omega)] at hs
    rw [hs,if_pos (by rfl)]
    refine aA rfl (aA (sI (by omega) (by omega) (by omega)) (aA (sI (by omega) (by omega) (by omega)) ?_))
    rw [Int.toNat_natCast,Int.toNat_natCast,List.take_length,show(0:Int).toNat=0 from rfl,List.drop_zero,Int.toNat_natCast]
    have hw:=aFw (n:=n) (by omega) ((aEp hv).mono (show 4≤900 by omega)) (i:=i) (many:=1) (by omega) (ys:=[iZ P t,kZ P t]) (by simp) (M8 hv m1 t)
    exact aA hw (Ev.some rfl)
 ·rw [if_neg hc]
  refine Ev.jn (fun z=>z=true) (fun j hj=>aA (gQ (by omega) hp.sm) ?_) (fun z hz=>by rw [hz];exact bZ (Ev.some rfl))
  by_cases hv:bK p=true
  ·have hi: ¬(0≤part∧part<(p.parts.length:Int)):=fun h=>hc ⟨hv,decide_eq_true h⟩
   rw [hv]
   exact b8 (aG (fun _=>hj _ rfl) (fun h=>aG (fun _=>hj _ rfl) (fun h2=>absurd (show(p.parts.length:Int)≤part by omega) h2)))
  ·rw [show bK p=false by simpa using hv]
   exact bZ (hj _ rfl)
end Go.Lift
