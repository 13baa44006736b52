/- Two programs that do the same. -/
import Derived.Test.YtdcjmccimcppbaaGreatCRun1
import Derived.Test.YtdcjmccimcppbaaGreatCDraw1
import Derived.Test.YtdcjmccimcppbaaGreatCDrawD
set_option maxRecDepth 100000
set_option linter.unusedVariables false
namespace Go.Lift
open Go
theorem aHR{n:Nat}(hn:7100≤n){p:Prog}(hp:SmP p)(hv:bI p=true):kI n p=some (fW p.arrays):=by
 refine Ev.eq ?_
 obtain⟨hl,hd,_⟩:=eD hv
 unfold kI
 refine aA (oL (by omega) hp) ?_
 rw [hv]
 exact bT (aA (J2 (by omega) hl hd) (Ev.some rfl))
theorem aIU{α:Type}{n:Int}(h:0≤n∧n≤1000000000)(x:α):mk n x=some (List.replicate n.toNat x):=by unfold mk;rw [if_pos h]
theorem aFW{R:Type}{Q:R→Prop}{n:Nat}(hn:5000≤n){T:Nat}(hT:T≤1000){e:Int→Int}(he: ∀i,0≤i→i<(T:Int)→0≤e i∧e i≤999){K:List Int→Option R}(hK: ∀m,m.length=T→(∀x∈m,0≤x∧x≤999)→Ev (K m) Q):
  Ev (aM (fun again (z:(List Int)×Int)=>bif decide (z.2<(z.1.length:Int)) then(Option.bind (ix z.1 z.2) fun _=>Option.bind (gN z.1 z.2 (e z.2)) fun y=>again (y,wr (z.2+1))) else(K z.1)) n (List.replicate T 0,0)) Q:=by
 refine Ev.loop (fun z:List Int×Int=>0≤z.2∧z.2≤T∧z.1.length=T∧ ∀x∈z.1,0≤x∧x≤999) (fun z=>T-z.2.toNat) ?_ n _ ⟨Int.le_refl _,by dsimp only;omega,List.length_replicate,fun x hx=>by rw [(List.mem_replicate.1 hx).2];omega⟩ (by dsimp only;omega)
 rintro again ⟨x,i⟩ ⟨h0,h1,h2,h3⟩ hr
 dsimp only at h0 h1 h2 h3⊢
 refine aG (fun hlt=> ?_) (fun hge=>hK _ h2 h3)
 refine aA (aIb h0 (by omega)) (aA (aAE h0 (by omega) _) ?_)
 rw [aK (by omega)]
 exact hr _ ⟨by dsimp only;omega,by dsimp only;omega,by dsimp only;rw [List.length_set,h2],fun y hy=>by
  rcases List.mem_or_eq_of_mem_set hy with hy|rfl
  ·exact h3 y hy
  ·exact he i h0 (by omega)⟩ (by dsimp only;omega)
theorem aJK{x:Int}(h:0≤x):0≤Int.tmod x 1000∧Int.tmod x 1000≤999:=by
 have h1:=Int.tmod_nonneg 1000 h
 have h2:=Int.tmod_lt_of_pos x (show(0:Int)<1000 by omega)
 omega
theorem aFe{p:Prog}(hv:bI p=true):0≤fW p.arrays∧fW p.arrays≤144:=by
 obtain⟨hl,hd,_⟩:=eD hv
 have:=aDm hd
 omega
theorem aH6{p:Prog}{m:List Int}(hv:bI p=true)(hm:iP p.arrays m):aHn p m=(b7 p m (insts p.parts),true):=by
 unfold aHn;rw [aHB hv hm];rfl
theorem aGE{p q:Prog}(hp:SmP p)(hq:SmP q)(hv:bI p=true)(hw:bI q=true)(ha:q.arrays=p.arrays)(h: ∀m,iP p.arrays m→b7 q m (insts q.parts)=b7 p m (insts p.parts)){s:Int}(hs:0≤s∧s≤1048576):pC N p q s=some true:=by
 have hN:N=100000:=rfl
 have ht:=aFe hv
 refine Ev.eq ?_
 unfold pC
 refine aA (aHR (by omega) hp hv) (aA (aIU ⟨by omega,by omega⟩ 0) (aFW (n:=N) (T:=(fW p.arrays).toNat) (e:=fun i=>Int.tmod (wr ((wr ((wr (i*41))+(wr (s*17))))+3)) 1000) (K:=fun x3=>Option.bind (eU N p x3) fun x9=>Option.bind (eU N q x3) fun x10=>jn (fun(x13:Bool)=>some x13) (fun j11=>bif x9.2 then(bif x10.2 then(Option.bind (pB N x9.1 x10.1) fun x12=>j11 x12) else(j11 false)) else(j11 false))) (by omega) (by omega) (fun i h0 h1=> ?_) (fun m h1 h2=> ?_)))
 ·rw [aK (n:=i*41) (by omega),aK (n:=s*17) (by omega),aK (n:=i*41+s*17) (by omega),aK (by omega)]
  exact aJK (by omega)
 ·have hmo:iP p.arrays m:=⟨by omega,h2⟩
  have hmq:iP q.arrays m:=by rw [ha];exact hmo
  have hml:=aDB hv hmo
  refine aA (rM (by omega) hp hml) (aA (rM (by omega) hq hml) ?_)
  rw [aH6 hv hmo,aH6 hw hmq,h m hmo]
  have hok: ∀x∈insts p.parts,dF p x:=fun x hx=>insts_mem hx
  refine Ev.jn (fun z=>z=true) (fun j hj=>bU (bU (aA (aAV (by omega) (aDB hv (yG hv hok hmo))) (hj _ rfl)))) (fun z hz=>Ev.some hz)
theorem I0{α β R:Type}{l:List α}{F:α→(β→Option R)→Option R}{g:α→β}{K:List β→Option R}{Q:R→Prop}{n:Nat}(hF: ∀x∈l,∀k:β→Option R,Ev (k (g x)) Q→Ev (F x k) Q)
  {s:Nat} (hs:s≤l.length) {pre:List β} (hp:pre.length≤1000) (hl:l.length≤1000) (hn:5000≤n) (hK:Ev (K (pre++(l.drop s).map g)) Q):
  Ev (aM (fun again ((x,i):List β×Int)=>bif decide (i<(l.length:Int)) then(Option.bind (ix l i) fun y=>F y (fun z=>Option.bind (app x [z]) fun w=>again (w,wr (i+1)))) else K x) n (pre,(s:Int))) Q:=by
 refine Ev.loop (fun z:List β×Int=> ∃i:Nat,z.2=i∧s≤i∧i≤l.length∧z.1=pre++((l.drop s).take (i-s)).map g) (fun z=>l.length-z.2.toNat) ?_ n _ ⟨s,rfl,by omega,by omega,by simp⟩ (by dsimp only;omega)
 rintro again ⟨x,z⟩ ⟨i,hz,hsi,hi,hx⟩ hr
 dsimp only at hz hx⊢
 subst hz
 refine aG (fun hlt=> ?_) (fun hge=> ?_)
 ·have hg:=List.getElem?_eq_getElem (show i<l.length by omega)
  have hxl:x.length≤2000:=by rw [hx,List.length_append,List.length_map,List.length_take,List.length_drop];omega
  refine aA (aO hg) (hF _ (List.mem_of_getElem? hg) _ (aA (bX (by simp;omega)) ?_))
  rw [aK (by omega)]
  refine hr _ ⟨i+1,by dsimp only;omega,by omega,by omega,?_⟩ (by dsimp only;omega)
  dsimp only
  rw [show i+1-s=(i-s)+1 by omega,List.take_add_one,List.getElem?_drop,show s+(i-s)=i by omega,hg,hx,List.map_append,List.append_assoc];rfl
 ·have:i=l.length:=by omega
  subst this
  rw [hx,List.take_of_length_le (by rw [List.length_drop];omega)];exact hK
theorem wT{α β R:Type}{l:List α}{f:α→Option β}{g:α→β}{K:List β→Option R}{Q:R→Prop}{n:Nat}(hf: ∀x∈l,f x=some (g x))(hl:l.length≤1000)(hn:5000≤n)(hK:Ev (K (l.map g)) Q):
  Ev (aM (fun again ((x,i):List β×Int)=>bif decide (i<(l.length:Int)) then(Option.bind (ix l i) fun y=>Option.bind (f y) fun z=>Option.bind (app x [z]) fun w=>again (w,wr (i+1))) else K x) n ([],0)) Q:=
 I0 (F:=fun y k=>Option.bind (f y) k) (g:=g) (s:=0) (pre:=[]) (fun x hx k hk=>aA (hf x hx) hk) (by omega) (by simp) hl hn (by simpa using hK)
def yO(f:Affine→Affine)(a:Access):Access:=⟨a.array,a.subs.map f⟩
def aFE(f:Affine→Affine):Nat→Expr→Expr
 |0,e=>e
 |L+1,e=>⟨e.kind,e.num,if e.kind=2 then f e.index else⟨[],0⟩,if e.kind=3 then yO f e.read else⟨[],[]⟩,e.kids.map (aFE f L)⟩
def aIV(f:Affine→Affine)(s:Stmt):Stmt:=⟨yO f s.write,aFE f 5 s.value⟩
theorem V7{e:Expr}{d:Int}(h:fM e d=true)(hk:e.kind=2):cZ e.index=true∧mE e.read=true:=by
 unfold fM bV at h
 rw [if_pos hk] at h
 simp only [Bool.and_eq_true] at h
 exact⟨h.2.2.1,h.2.1⟩
theorem V6{e:Expr}{d:Int}(h:fM e d=true)(hk:e.kind=3):iA e.read d=true∧iU e.index=true:=by
 unfold fM at h
 rw [if_neg (by omega),if_pos hk] at h
 simp only [Bool.and_eq_true] at h
 exact⟨h.2.2,h.2.1⟩
theorem aCd{e:Expr}{d:Int}(h:fM e d=true)(h2: ¬e.kind=2)(h3: ¬e.kind=3):iU e.index=true∧mE e.read=true:=by
 unfold fM at h
 rw [if_neg h2,if_neg h3] at h
 split at h<;>simp only [Bool.and_eq_true] at h<;>exact⟨h.2.1,h.2.2⟩
theorem wM{a:Affine}(h:iU a=true):a=⟨[],0⟩:=by
 obtain⟨c,k⟩:=a
 simp only [iU,Bool.and_eq_true,decide_eq_true_eq] at h
 obtain⟨h1,rfl⟩:=h
 rw [List.eq_nil_of_length_eq_zero h1]
theorem wN{a:Access}(h:mE a=true):a=⟨[],[]⟩:=by
 obtain⟨c,k⟩:=a
 simp only [mE,Bool.and_eq_true,decide_eq_true_eq] at h
 obtain⟨rfl,h1⟩:=h
 rw [List.eq_nil_of_length_eq_zero h1]
theorem s9{n:Nat}(hn:5000≤n){a:Access}{d:Int}(ha:iA a d=true){F:Affine→Option Affine}{f:Affine→Affine}(hF: ∀x,cZ x=true→F x=some (f x)):jS n a F=some (yO f a):=by
 obtain⟨h1,h2,h3⟩:=N8 ha
 refine Ev.eq ?_
 unfold jS
 exact wT (K:=fun x1=>some (⟨a.array,x1⟩:Access)) (fun x hx=>hF x (h3 x hx)) (by omega) hn (Ev.some rfl)
theorem w4{d:Int}{F:Affine→Option Affine}{f:Affine→Affine}(hF: ∀x,cZ x=true→F x=some (f x)): ∀(L n:Nat) (e:Expr),5000+L≤n→dG L e d=true→i_exprMap (n+1) e F=some (aFE f L e)
 |0,_,_,_,h=>by cases h
 |L+1,n,e,hn,h=>by
  obtain⟨hk,ho,hs⟩:=iZ h
  obtain⟨n,rfl⟩: ∃j,n=j+1:=⟨n-1,by omega⟩
  have hkl:e.kids.length≤2:=by have:=pP e.kind;omega
  unfold i_exprMap
  refine Ev.eq (Ev.jn (fun z=>(⟨z.1,z.2.1⟩:Affine)=(if e.kind=2 then f e.index else⟨[],0⟩)∧(⟨z.2.2.1,z.2.2.2⟩:Access)=(if e.kind=3 then yO f e.read else⟨[],[]⟩)) (fun j hj=> ?_) (fun z hz=> ?_))
  ·refine aG (fun h2=> ?_) (fun h2=>aG (fun h3=> ?_) (fun h3=> ?_))
   ·exact aA (hF _ (V7 ho h2).1) (hj _ ⟨by rw [if_pos h2],by rw [if_neg (by omega)]⟩)
   ·exact aA (s9 (by omega) (V6 ho h3).1 hF) (hj _ ⟨by rw [if_neg h2],by rw [if_pos h3]⟩)
   ·exact hj _ ⟨by rw [if_neg h2],by rw [if_neg h3]⟩
  ·obtain⟨x4,x5,x6,x7⟩:=z
   obtain⟨z1,z2⟩:=hz
   dsimp only at z1 z2⊢
   refine wT (K:=fun x8=>some (⟨e.kind,e.num,(⟨x4,x5⟩:Affine),(⟨x6,x7⟩:Access),x8⟩:Expr)) (fun x hx=>w4 hF L n x (by omega) (hs x hx)) (by omega) (by omega) (Ev.some ?_)
   rw [z1,z2];rfl
theorem W8{n:Nat}(hn:6000≤n){s:Stmt}{d:Int}(hs:gM s d=true){F:Affine→Option Affine}{f:Affine→Affine}(hF: ∀x,cZ x=true→F x=some (f x)):pS n s F=some (aIV f s):=by
 obtain⟨h1,h2,_⟩:=o0 hs
 obtain⟨n,rfl⟩: ∃j,n=j+1:=⟨n-1,by omega⟩
 unfold pS
 rw [s9 (by omega) h1 hF,w4 hF 5 n s.value (by omega) h2];rfl
theorem W4{α:Type}{f:α→α}: ∀{l:List α},(∀x∈l,f x=x)→l.map f=l
 | [],_=>rfl
 |x::l,h=>by rw [List.map_cons,h x List.mem_cons_self,W4 (fun y hy=>h y (List.mem_cons_of_mem _ hy))]
theorem R6{f:Affine→Affine}{a:Access}{d:Int}(ha:iA a d=true)(hf: ∀x,cZ x=true→f x=x):yO f a=a:=by
 obtain⟨h1,h2,h3⟩:=N8 ha
 unfold yO
 rw [W4 (fun x hx=>hf x (h3 x hx))]
theorem aDC{d:Int}{f:Affine→Affine}(hf: ∀x,cZ x=true→f x=x): ∀{L:Nat} {e:Expr},dG L e d=true→aFE f L e=e
 |0,_,_=>rfl
 |L+1,e,h=>by
  obtain⟨hk,ho,hs⟩:=iZ h
  obtain⟨kind,num,index,read,kids⟩:=e
  unfold aFE
  dsimp only at hk ho hs⊢
  rw [W4 (fun x hx=>aDC hf (hs x hx))]
  by_cases h2:kind=2
  ·have e1:=V7 ho h2
   dsimp only at e1
   rw [if_pos h2,if_neg (by omega),hf _ e1.1,wN e1.2]
  ·by_cases h3:kind=3
   ·have e1:=V6 ho h3
    dsimp only at e1
    rw [if_neg h2,if_pos h3,R6 e1.1 hf,wM e1.2]
   ·have e1:=aCd ho h2 h3
    dsimp only at e1
    rw [if_neg h2,if_neg h3,wM e1.1,wN e1.2]
theorem aHC{f:Affine→Affine}(hf: ∀x,cZ x=true→f x=x){s:Stmt}{d:Int}(hs:gM s d=true):aIV f s=s:=by
 obtain⟨h1,h2,_⟩:=o0 hs
 unfold aIV
 rw [R6 h1 hf,aDC hf h2]
def aIW(l:Loop):Prop:=(l.lo.length≤2∧ ∀x∈l.lo,cZ x=true)∧l.hi.length≤2∧ ∀x∈l.hi,cZ x=true
theorem aI8{nest:List Loop}(h:Fit nest): ∀l∈nest,aIW l:=fun l hl=>by
 obtain⟨i,hi⟩:=List.mem_iff_getElem?.1 hl
 have:=h.2 i l hi
 exact⟨(sC this.1).2,(sC this.2).2⟩
theorem aDv{list:List Arr}{x:Part}(h:cU list x=true):x.nest.length≤4∧ ∀l∈x.nest,aIW l:=by
 have:=(aEH (pN h).1).1
 exact⟨this.1,aI8 this⟩
theorem aIj{a:Affine}(h:cZ a=true):BA 4 a:=by have:=(rJ h).1;unfold BA;omega
theorem aAb{l:List Affine}(h1:l.length≤2)(h2: ∀x∈l,cZ x=true):BAs 4 l:=⟨by omega,fun a ha=>aIj (h2 a ha)⟩
theorem aIi{d:Int}: ∀{L:Nat} {e:Expr},dG L e d=true→BE 4 L e
 |0,_,h=>by cases h
 |L+1,e,h=>by
  obtain⟨hk,ho,hs⟩:=iZ h
  have:=pP e.kind
  refine⟨by omega,?_,?_,fun k hk=>aIi (hs k hk)⟩
  ·by_cases h2:e.kind=2
   ·exact aIj (V7 ho h2).1
   ·by_cases h3:e.kind=3
    ·rw [wM (V6 ho h3).2];unfold BA;simp
    ·rw [wM (aCd ho h2 h3).1];unfold BA;simp
  ·by_cases h3:e.kind=3
   ·have:=N8 (V6 ho h3).1
    exact aAb this.2.1 this.2.2
   ·by_cases h2:e.kind=2
    ·rw [wN (V7 ho h2).2];exact⟨by simp,fun x hx=>by cases hx⟩
    ·rw [wN (aCd ho h2 h3).2];exact⟨by simp,fun x hx=>by cases hx⟩
theorem aJ5{s:Stmt}{d:Int}(hs:gM s d=true):BS 4 s:=by
 obtain⟨h1,h2,_⟩:=o0 hs
 have:=N8 h1
 exact⟨aAb this.2.1 this.2.2,aIi h2⟩
theorem aJg{list:List Arr}{x:Part}(h:cU list x=true):BPt 4 x:=by
 obtain⟨h1,h2⟩:=aDv h
 obtain⟨_,h4,h5,_⟩:=pN h
 exact⟨⟨h1,fun l hl=>⟨aAb (h2 l hl).1.1 (h2 l hl).1.2,aAb (h2 l hl).2.1 (h2 l hl).2.2⟩⟩,h4.2,fun s hs=>aJ5 (h5 s hs)⟩
theorem aIh{l:List Arr}(h1:l.length≤4)(h2:eX l):BR 4 l:=⟨h1,fun x hx=>by
 have:=h2 x hx
 simp only [iQ,Bool.and_eq_true,decide_eq_true_eq] at this
 omega⟩
theorem aJ6{p:Prog}(h:bI p=true):BG 4 p:=by
 obtain⟨h1,h2,h3,h4,_⟩:=eD h
 exact⟨aIh h1 h2,h3,fun x hx=>aJg (h4 x hx)⟩
theorem aD8(n:Nat){a:Affine}(h:a.coefs.length≤1000):eS n a=some a:=by
 unfold eS m_ownClone
 rw [if_pos (by omega)];rfl
theorem Q6(n:Nat): ∀x,cZ x=true→eS n x=some x:=fun x hx=>aD8 n (by have:=(rJ hx).1;omega)
theorem G7{n:Nat}(hn:5000≤n){l:List Affine}(h1:l.length≤2)(h2: ∀x∈l,cZ x=true):eQ n l=some l:=by
 unfold eQ
 refine Ev.eq (wT (g:=fun x=>x) (K:=fun x1=>some x1) (fun x hx=>Q6 n x (h2 x hx)) (by omega) hn (Ev.some ?_))
 simp
theorem aCe{n:Nat}(hn:5000≤n){nest:List Loop}(h1:nest.length≤4)(h2: ∀l∈nest,aIW l):pU n nest=some nest:=by
 unfold pU
 refine Ev.eq ?_
 refine I0 (β:=Loop) (l:=nest) (n:=n) (F:=fun x5 k=>Option.bind (eQ n x5.lo) fun x6=>Option.bind (eQ n x5.hi) fun x7=>k (⟨x6,x7⟩:Loop)) (g:=fun x=>x) (s:=0) (pre:=[]) (K:=fun x1=>some x1) ?_ (by omega) (by simp) (by omega) hn (Ev.some (by simp))
 exact fun x hx k hk=>aA (G7 hn (h2 x hx).1.1 (h2 x hx).1.2) (aA (G7 hn (h2 x hx).2.1 (h2 x hx).2.2) hk)
theorem aCb{n:Nat}(hn:6000≤n){s:Stmt}{d:Int}(hs:gM s d=true):pT n s=some s:=by
 unfold pT
 rw [W8 hn hs (F:=fun q0=>eS n q0) (f:=fun x=>x) (Q6 n),aHC (fun _ _=>rfl) hs];rfl
theorem aCc{n:Nat}(hn:6000≤n){list:List Arr}{x:Part}(h:cU list x=true):mZ n x=some x:=by
 obtain⟨h1,h2⟩:=aDv h
 obtain⟨_,h4,h5,_⟩:=pN h
 unfold mZ
 refine Ev.eq (aA (aCe (by omega) h1 h2) (wT (g:=fun x=>x) (K:=fun x2=>some (⟨x.nest,x2⟩:Part)) (fun s hs=>aCb hn (h5 s hs)) (by omega) (by omega) (Ev.some ?_)))
 simp
theorem aIP{n:Nat}(hn:6000≤n){p:Prog}(h:bI p=true):iX n p=some p:=by
 obtain⟨h1,h2,h3,h4,_⟩:=eD h
 unfold iX
 refine Ev.eq (I0 (F:=fun x5 k=>Option.bind (m_ownClone x5.dims) fun x6=>k (⟨x5.name,x6⟩:Arr)) (g:=fun x=>x) (s:=0) (pre:=[]) (K:=fun x1=>aM (fun again11 ((x8,x9):(List Part)×Int)=>
    bif decide (x9<(p.parts.length:Int)) then(
     Option.bind (ix p.parts x9) fun x12=>
     Option.bind (mZ n x12) fun x13=>
     Option.bind (app x8 [x13]) fun x14=>
     again11 (x14,wr (x9+1))
    ) else(
     some (⟨x1,x8⟩:Prog)
    )
   ) n ([],0)) (fun x hx k hk=>aA (x:=x.dims) ?_ hk) (by omega) (by simp) (by omega) (by omega) ?_)
 ·have:=(aIh h1 h2).2 x hx
  unfold m_ownClone
  rw [if_pos (by omega)]
 ·refine wT (g:=fun x=>x) (K:=fun x8=>some (⟨_,x8⟩:Prog)) (fun x hx=>aCc hn (h4 x hx)) (by omega) (by omega) (Ev.some ?_)
  simp
theorem R2(n:Nat){a:Affine}(h:BA 1000 a):fK n a=some a:=by
 unfold fK
 rw [dZ _ h];rfl
theorem uY{n:Nat}(hn:5000≤n){l:List Affine}(h:BAs 1000 l):cK n l=some l:=by
 unfold cK
 exact Ev.eq (l4 (K:=fun x1=>some x1) (fun x hx=>R2 n (h.2 x hx)) h.1 hn (Ev.some rfl))
theorem R3{n:Nat}(hn:5000≤n){a:Access}(h:BAs 1000 a.subs):fL n a=some a:=by
 unfold fL
 rw [uY hn h];rfl
theorem H1: ∀(L n:Nat) (e:Expr),5000+L≤n→BE 1000 L e→s_l16OwnExpr (n+1) e=some e
 |0,_,_,_,h=>h.elim
 |L+1,n,e,hn,h=>by
  obtain⟨h1,h2,h3,h4⟩:=h
  obtain⟨n,rfl⟩: ∃j,n=j+1:=⟨n-1,by omega⟩
  unfold s_l16OwnExpr iB
  rw [R2 _ h2,R3 (by omega) h3]
  refine Ev.eq (aA rfl (aA rfl (aA (x:=e.kids) ?_ (Ev.some (by cases e;rfl)))))
  exact Ev.eq (l4 (f:=s_l16OwnExpr (n+1)) (K:=fun x1=>some x1) (fun x hx=>H1 L n x (by omega) (h4 x hx)) h1 (by omega) (Ev.some rfl))
theorem aCi{n:Nat}(hn:6000≤n){s:Stmt}(h:BS 1000 s):jW n s=some s:=by
 obtain⟨n,rfl⟩: ∃j,n=j+1:=⟨n-1,by omega⟩
 unfold jW
 rw [R3 (by omega) h.1,H1 5 n s.value (by omega) h.2];rfl
theorem aCk{n:Nat}(hn:6000≤n){x:Part}(h:BPt 1000 x):jX n x=some x:=by
 obtain⟨⟨h1,h2⟩,h3,h4⟩:=h
 have e1:fJ n x.nest=some x.nest:=by
  unfold fJ
  refine Ev.eq (l4 (K:=fun x1=>some x1) (fun l hl=> ?_) h1 (by omega) (Ev.some rfl))
  unfold mL
  rw [uY (by omega) (h2 l hl).1,uY (by omega) (h2 l hl).2];rfl
 have e2:fH n x.body=some x.body:=by
  unfold fH
  exact Ev.eq (l4 (K:=fun x1=>some x1) (fun l hl=>aCi hn (h4 l hl)) h3 (by omega) (Ev.some rfl))
 unfold jX
 rw [e1,e2];rfl
theorem aCj{n:Nat}(hn:6000≤n){p:Prog}(h:BG 1000 p):fX n p=some p:=by
 obtain⟨⟨h1,h2⟩,h3,h4⟩:=h
 have e1:eM n p.arrays=some p.arrays:=by
  unfold eM
  refine Ev.eq (l4 (K:=fun x1=>some x1) (fun l hl=> ?_) h1 (by omega) (Ev.some rfl))
  unfold lK
  rw [dZ _ (h2 l hl)];rfl
 have e2:fI n p.parts=some p.parts:=by
  unfold fI
  exact Ev.eq (l4 (K:=fun x1=>some x1) (fun l hl=>aCk hn (h4 l hl)) h3 (by omega) (Ev.some rfl))
 unfold fX
 rw [e1,e2];rfl
theorem pE{α:Type}{f:α→α→Option Bool}{l:List α}(hf: ∀x∈l,f x x=some true){n:Nat}(hn:l.length<n)(hl:l.length≤1000000):
  (bif !decide ((l.length:Int)=(l.length:Int)) then(some false) else(aM (fun again2 (x1:Int)=>bif decide (x1<(l.length:Int)) then(Option.bind (ix l x1) fun x3=>Option.bind (ix l x1) fun x4=>Option.bind (f x3 x4) fun x5=>bif !x5 then(some false) else(again2 (wr (x1+1)))) else(some true)) n 0))=some true:=by
 refine Ev.eq (jC (fun h=>(h rfl).elim) (fun _=> ?_))
 refine Ev.loop (fun x:Int=> ∃i:Nat,x=i∧i≤l.length) (fun x=>l.length-x.toNat) ?_ n 0 ⟨0,rfl,by omega⟩ (by omega)
 rintro again x ⟨i,rfl,hi⟩ hr
 refine aG (fun hlt=> ?_) (fun _=>Ev.some rfl)
 obtain⟨e,hg⟩: ∃e,l[i]? =some e:=⟨_,List.getElem?_eq_getElem (show i<l.length by omega)⟩
 refine aA (aO hg) (aA (aO hg) (aA (hf e (List.mem_of_getElem? hg)) (bT ?_)))
 rw [aK (by omega)]
 exact hr _ ⟨i+1,by omega,by omega⟩ (by omega)
theorem Q0{a:List Int}{n:Nat}(hn:a.length<n)(hl:a.length≤1000000):jO n a a=some true:=by
 unfold jO
 refine Ev.eq (jC (fun h=>(h rfl).elim) (fun _=> ?_))
 refine Ev.loop (fun x:Int=> ∃i:Nat,x=i∧i≤a.length) (fun x=>a.length-x.toNat) ?_ n 0 ⟨0,rfl,by omega⟩ (by omega)
 rintro again x ⟨i,rfl,hi⟩ hr
 refine aG (fun hlt=> ?_) (fun _=>Ev.some rfl)
 obtain⟨e,hg⟩: ∃e,a[i]? =some e:=⟨_,List.getElem?_eq_getElem (show i<a.length by omega)⟩
 refine aA (aO hg) (aA (aO hg) (jC (fun h=>(h rfl).elim) (fun _=> ?_)))
 rw [aK (by omega)]
 exact hr _ ⟨i+1,by omega,by omega⟩ (by omega)
theorem aDU{n:Nat}(hn:5000≤n){a:Affine}(h:BA 1000 a):cB n a a=some true:=by
 unfold BA at h
 unfold cB
 refine Ev.eq (Ev.jn (fun z=>z=true) (fun j hj=>aA (Q0 (by omega) (by omega)) (bU (hj _ (decide_eq_true rfl)))) (fun z hz=>Ev.some hz))
theorem N7{n:Nat}(hn:5000≤n){l:List Affine}(h:BAs 1000 l):cL n l l (fun q0 q1=>cB n q0 q1)=some true:=by
 have:=h.1
 unfold cL
 exact pE (fun x hx=>aDU hn (h.2 x hx)) (by omega) (by omega)
theorem aDV{n:Nat}(hn:5000≤n){a:Access}(h:BAs 1000 a.subs):iJ n a a=some true:=by
 unfold iJ
 refine Ev.eq (Ev.jn (fun z=>z=true) (fun j hj=> ?_) (fun z hz=>Ev.some hz))
 exact aG (fun _=>aA (N7 hn h) (hj _ rfl)) (fun h=>(h rfl).elim)
theorem aA9: ∀(L n:Nat) (e:Expr),5000+L≤n→BE 1000 L e→i_exprSame (n+1) e e=some true
 |0,_,_,_,h=>h.elim
 |L+1,n,e,hn,h=>by
  obtain⟨h1,h2,h3,h4⟩:=h
  obtain⟨n,rfl⟩: ∃j,n=j+1:=⟨n-1,by omega⟩
  unfold i_exprSame
  refine Ev.eq (Ev.jn (fun z=>z=true) (fun j hj=> ?_) (fun z hz=>Ev.some hz))
  refine aG (fun _=>aG (fun _=>aA (aDU (by omega) h2) (bU (aA (aDV (by omega) h3) (bU (aA (x:=true) ?_ (hj _ rfl)))))) (fun h=>(h rfl).elim)) (fun h=>(h rfl).elim)
  unfold iI
  exact pE (fun x hx=>aA9 L n x (by omega) (h4 x hx)) (by omega) (by omega)
theorem aFf{n:Nat}(hn:6000≤n){s:Stmt}(h:BS 1000 s):lF n s s=some true:=by
 obtain⟨n,rfl⟩: ∃j,n=j+1:=⟨n-1,by omega⟩
 unfold lF
 refine Ev.eq (Ev.jn (fun z=>z=true) (fun j hj=> ?_) (fun z hz=>Ev.some hz))
 exact aA (aDV (by omega) h.1) (bU (aA (aA9 5 n s.value (by omega) h.2) (hj _ rfl)))
theorem aFA{n:Nat}(hn:5000≤n){nest:List Loop}(h:BN 1000 nest):nP n nest nest=some true:=by
 have:=h.1
 unfold nP iH
 rw [pE (fun l hl=> ?_) (by omega) (by omega)]
 ·rfl
 ·unfold kG
  refine Ev.eq (Ev.jn (fun z=>z=true) (fun j hj=> ?_) (fun z hz=>Ev.some hz))
  exact aA (N7 hn (h.2 l hl).1) (bU (aA (N7 hn (h.2 l hl).2) (hj _ rfl)))
theorem aFx{n:Nat}(hn:6000≤n){x:Part}(h:BPt 1000 x):eG n x x=some true:=by
 have:=h.2.1
 unfold eG
 refine Ev.eq (Ev.jn (fun z=>z=true) (fun j hj=> ?_) (fun z hz=>Ev.some hz))
 refine aA (aFA (by omega) h.1) (bU (aA (x:=true) ?_ (hj _ rfl)))
 unfold iF
 exact pE (fun s hs=>aFf hn (h.2.2 s hs)) (by omega) (by omega)
theorem aFw{n:Nat}(hn:6000≤n){p:Prog}(h:BG 1000 p):dY n p p=some true:=by
 obtain⟨⟨h1,h2⟩,h3,h4⟩:=h
 unfold dY
 refine Ev.eq (Ev.jn (fun z=>z=true) (fun j hj=> ?_) (fun z hz=>Ev.some hz))
 refine aA (x:=true) ?_ (bU (aA (x:=true) ?_ (hj _ rfl)))
 ·unfold gJ
  refine pE (fun x hx=> ?_) (by omega) (by omega)
  unfold eH
  refine Ev.eq (Ev.jn (fun z=>z=true) (fun j hj=> ?_) (fun z hz=>Ev.some hz))
  have:=h2 x hx
  exact aG (fun _=>aA (Q0 (by omega) (by omega)) (hj _ rfl)) (fun h=>(h rfl).elim)
 ·unfold iG
  exact pE (fun x hx=>aFx hn (h4 x hx)) (by omega) (by omega)
theorem aEh(n:Nat){p:Prog}(h:p.parts.length≤1000)(part:Int):d6 n p part=some (decide (0≤part∧part<(p.parts.length:Int))):=by
 unfold d6
 rw [eE,aK (by omega)]
 exact congrArg some (decide_eq_decide.2 (by omega))
def bB(m:Int)(a:Affine):Prop:=a.coefs.length=4∧C3 m a.const∧ ∀c∈a.coefs,C3 m c
theorem bB.mono{m m':Int}{a:Affine}(h:bB m a)(hm:m≤m'):bB m' a:=⟨h.1,⟨by have:=h.2.1.1;omega,by have:=h.2.1.2;omega⟩,fun c hc=>⟨by have:=(h.2.2 c hc).1;omega,by have:=(h.2.2 c hc).2;omega⟩⟩
def noP:Prog×Bool:=(⟨[],[]⟩,false)
theorem aIT:BG 1000 noP.1:=⟨⟨by simp [noP],fun x hx=>by cases hx⟩,by simp [noP],fun x hx=>by cases hx⟩
theorem aI7{B:Option Bool}{a b:Int}(h:b≤1048576→Ev B (fun r=>r=true)):Ev (jn (fun(x2:Bool)=>bif x2 then(some true) else B) (fun j1=>bif decide ((1048576:Int)<a) then(j1 true) else(j1 (decide ((1048576:Int)<b))))) (fun r=>r=true):=by
 exact Ev.jn (fun z=>z=false→b≤1048576) (fun j hj=>aG (fun _=>hj _ (fun h=>by cases h)) (fun _=>hj _ (fun h=>by have:=of_decide_eq_false h;omega))) (fun z hz=>Ev.cond (fun _=>Ev.some rfl) (fun h0=>h (hz h0)))
theorem aI6{I S:Option (Prog×Bool)}{REST:Prog×Bool→Prog×Bool→Option Bool}{R:Prog×Bool}(hR:BG 1000 R.1)(h1:I=some R)(h2:S=some R)(hb:R.2=true→Ev (REST R R) (fun r=>r=true)):
  Ev (Option.bind I fun x4=>Option.bind S fun x5=>jn (fun(x8:Bool)=>
    bif x8 then(
     jn (fun(x11:Bool)=>
      some x11
     ) (fun j9=>
      bif(x4.2==x5.2) then(
       Option.bind (dY N x4.1 x5.1) fun x10=>
       j9 x10
      ) else(
       j9 false
      )
     )
    ) else(
     REST x4 x5
    )
   ) (fun j6=>
    bif !(x4.2==x5.2) then(
     j6 true
    ) else(
     Option.bind (dY N x4.1 x5.1) fun x7=>
     bif !x7 then(
      j6 true
     ) else(
      j6 (!x4.2)
     )
    )
   )) (fun r=>r=true):=by
 have hN:N=100000:=rfl
 have hs:=aFw (n:=N) (by omega) hR
 have he:(R.2==R.2)=true:=by cases R.2<;>rfl
 refine aA h1 (aA h2 (Ev.jn (fun z=>z= !R.2) (fun j hj=> ?_) (fun z hz=> ?_)))
 ·rw [he]
  exact bT (aA hs (bT (hj _ rfl)))
 ·subst hz
  cases hr:R.2 with
  |false=>exact bU (Ev.jn (fun z=>z=true) (fun j hj=>bU (aA hs (hj _ rfl))) (fun z hz=>Ev.some hz))
  |true=>exact bT (hb hr)
def isP(p:Prog)(a:Int):Bool:=decide (0≤a∧a<(p.parts.length:Int))
theorem aIR{b:Bool}(h:(!b)=true):b=false:=by cases b with
 |false=>rfl
 |true=>cases h
theorem aIS{b:Bool}(h:(!b)=false):b=true:=by cases b with
 |false=>cases h
 |true=>rfl
theorem instP_part{i:Nat}{P:Part}{x:Inst}(h:x∈instP i P):x.part=(i:Int):=by
 unfold instP at h
 obtain⟨q,_,h⟩:=List.mem_flatMap.1 h
 obtain⟨t,_,rfl⟩:=List.mem_map.1 h
 rfl
theorem instP_rho{i j:Nat}{P:Part}{σ:Inst→Inst}(h: ∀s q,σ ⟨(i:Int),s,q⟩=⟨(j:Int),s,q⟩):(instP i P).map σ=instP j P:=by
 unfold instP
 rw [List.map_flatMap,List.flatMap_def,List.flatMap_def]
 congr 1
 refine List.map_congr_left (fun q _=> ?_)
 rw [List.map_map]
 exact List.map_congr_left (fun t _=>h _ _)
theorem insts_cons(P:Part)(ps:List Part):insts (P::ps)=instP 0 P++(insts ps).map (l9 1):=by
 have h1:=insts_app [P] ps
 have h2:insts [P]=instP 0 P:=by unfold insts;simp
 rw [h2] at h1
 exact h1
theorem insts_lt{ps:List Part}{x:Inst}(h:x∈insts ps):0≤x.part∧x.part<(ps.length:Int):=by
 obtain⟨i,k,P,s,e1,_,e3,_⟩:=insts_mem h
 have:=(List.getElem?_eq_some_iff.1 e3).1
 omega
theorem aGB{p:Prog}(hv:bI p=true){x:Inst}(hx:dF p x): ∀{Y:List Inst} {m:List Int},(∀y∈Y,dF p y)→(∀y∈Y,com p x y)→iP p.arrays m→b7 p (mM p m x) Y=mM p (b7 p m Y) x
 | [],m,_,_,_=>rfl
 |y::Y,m,h1,h2,hm=>by
  show b7 p (mM p (mM p m x) y) Y=mM p (b7 p (mM p m y) Y) x
  rw [h2 y List.mem_cons_self m hm]
  exact aGB hv hx (fun z hz=>h1 z (List.mem_cons_of_mem _ hz)) (fun z hz=>h2 z (List.mem_cons_of_mem _ hz)) (B9 hv hm (h1 y List.mem_cons_self))
theorem block{p:Prog}(hv:bI p=true): ∀{X Y:List Inst} {m:List Int},(∀x∈X,dF p x)→(∀y∈Y,dF p y)→(∀x∈X,∀y∈Y,com p x y)→iP p.arrays m→b7 p (b7 p m X) Y=b7 p (b7 p m Y) X
 | [],Y,m,_,_,_,_=>rfl
 |x::X,Y,m,h1,h2,h3,hm=>by
  show b7 p (b7 p (mM p m x) X) Y=b7 p (mM p (b7 p m Y) x) X
  rw [block hv (fun z hz=>h1 z (List.mem_cons_of_mem _ hz)) h2 (fun z hz=>h3 z (List.mem_cons_of_mem _ hz)) (B9 hv hm (h1 x List.mem_cons_self)),aGB hv (h1 x List.mem_cons_self) h2 (h3 x List.mem_cons_self) hm]
end Go.Lift
