/- Two programs that do the same. -/
import Derived.Test.YtdcjmccimcppbaaGreatDRun1
import Derived.Test.YtdcjmccimcppbaaGreatDDraw1
import Derived.Test.YtdcjmccimcppbaaGreatDDrawD
set_option maxRecDepth 100000
set_option linter.unusedVariables false
namespace Go.Lift
open Go
theorem aIP{n:Nat}(hn:7100≤n){p:Prog}(hp:SmP p)(hv:bJ p=true):kN n p=some (gH p.arrays):=by
 refine Ev.eq ?_
 obtain⟨hl,hd,_⟩:=fJ hv
 unfold kN
 refine aA (fE (by omega) hp) ?_
 rw [hv]
 exact bZ (aA (L8 (by omega) hl hd) (Ev.some rfl))
theorem aJR{α:Type}{n:Int}(h:0≤n∧n≤1000000000)(x:α):mk n x=some (List.replicate n.toNat x):=by unfold mk;rw [if_pos h]
theorem aGR{R:Type}{Q:R→Prop}{n:Nat}(hn:5000≤n){T:Nat}(hT:T≤1000){e:Int→Int}(he: ∀i,0≤i→i<(T:Int)→0≤e i∧e i≤999){K:List Int→Option R}(hK: ∀m,m.length=T→(∀x∈m,0≤x∧x≤999)→Ev (K m) Q):
  Ev (aL (fun again (z:(List Int)×Int)=>bif decide (z.2<(z.1.length:Int)) then(Option.bind (ix z.1 z.2) fun _=>Option.bind (jL z.1 z.2 (e z.2)) fun y=>again (y,wr (z.2+1))) else(K z.1)) n (List.replicate T 0,0)) Q:=by
 refine Ev.loop (fun z:List Int×Int=>0≤z.2∧z.2≤T∧z.1.length=T∧ ∀x∈z.1,0≤x∧x≤999) (fun z=>T-z.2.toNat) ?_ n _ ⟨Int.le_refl _,by dsimp only;omega,List.length_replicate,fun x hx=>by rw [(List.mem_replicate.1 hx).2];omega⟩ (by dsimp only;omega)
 rintro again ⟨x,i⟩ ⟨h0,h1,h2,h3⟩ hr
 dsimp only at h0 h1 h2 h3⊢
 refine aG (fun hlt=> ?_) (fun hge=>hK _ h2 h3)
 refine aA (aJa h0 (by omega)) (aA (aBj h0 (by omega) _) ?_)
 rw [aM (by omega)]
 exact hr _ ⟨by dsimp only;omega,by dsimp only;omega,by dsimp only;rw [List.length_set,h2],fun y hy=>by
  rcases List.mem_or_eq_of_mem_set hy with hy|rfl
  ·exact h3 y hy
  ·exact he i h0 (by omega)⟩ (by dsimp only;omega)
theorem aKI{x:Int}(h:0≤x):0≤Int.tmod x 1000∧Int.tmod x 1000≤999:=by
 have h1:=Int.tmod_nonneg 1000 h
 have h2:=Int.tmod_lt_of_pos x (show(0:Int)<1000 by omega)
 omega
theorem aF6{p:Prog}(hv:bJ p=true):0≤gH p.arrays∧gH p.arrays≤144:=by
 obtain⟨hl,hd,_⟩:=fJ hv
 have:=aD7 hd
 omega
theorem aI5{p:Prog}{m:List Int}(hv:bJ p=true)(hm:gU p.arrays m):aIi p m=(cB p m (insts p.parts),true):=by
 unfold aIi;rw [aIv hv hm];rfl
theorem aHz{p q:Prog}(hp:SmP p)(hq:SmP q)(hv:bJ p=true)(hw:bJ q=true)(ha:q.arrays=p.arrays)(h: ∀m,gU p.arrays m→cB q m (insts q.parts)=cB p m (insts p.parts)){s:Int}(hs:0≤s∧s≤1048576):pP N p q s=some true:=by
 have hN:N=100000:=rfl
 have ht:=aF6 hv
 refine Ev.eq ?_
 unfold pP
 refine aA (aIP (by omega) hp hv) (aA (aJR ⟨by omega,by omega⟩ 0) (aGR (n:=N) (T:=(gH p.arrays).toNat) (e:=fun i=>Int.tmod (wr ((wr ((wr (i*41))+(wr (s*17))))+3)) 1000) (K:=fun x3=>Option.bind (fC N p x3) fun x9=>Option.bind (fC N q x3) fun x10=>jn (fun(x13:Bool)=>some x13) (fun j11=>bif x9.2 then(bif x10.2 then(Option.bind (pO N x9.1 x10.1) fun x12=>j11 x12) else(j11 false)) else(j11 false))) (by omega) (by omega) (fun i h0 h1=> ?_) (fun m h1 h2=> ?_)))
 ·rw [aM (n:=i*41) (by omega),aM (n:=s*17) (by omega),aM (n:=i*41+s*17) (by omega),aM (by omega)]
  exact aKI (by omega)
 ·have hmo:gU p.arrays m:=⟨by omega,h2⟩
  have hmq:gU q.arrays m:=by rw [ha];exact hmo
  have hml:=aEm hv hmo
  refine aA (sC (by omega) hp hml) (aA (sC (by omega) hq hml) ?_)
  rw [aI5 hv hmo,aI5 hw hmq,h m hmo]
  have hok: ∀x∈insts p.parts,cM p x:=fun x hx=>insts_mem hx
  refine Ev.jn (fun z=>z=true) (fun j hj=>bW (bW (aA (aBB (by omega) (aEm hv (nG hv hok hmo))) (hj _ rfl)))) (fun z hz=>Ev.some hz)
theorem inst_pl{p:Prog}(hv:bJ p=true){x:Inst}(hx:cM p x):x.point.length≤4:=by
 obtain⟨i,k,P,s,d,e1,e2,e3,e4,e5,e6,e7,e8⟩:=inst_d hv hx
 have:=e7.1;have:=e7.2.1;omega
theorem K6{α β R:Type}{l:List α}{F:α→(β→Option R)→Option R}{g:α→β}{K:List β→Option R}{Q:R→Prop}{n:Nat}(hF: ∀x∈l,∀k:β→Option R,Ev (k (g x)) Q→Ev (F x k) Q)
  {s:Nat} (hs:s≤l.length) {pre:List β} (hp:pre.length≤1000) (hl:l.length≤1000) (hn:5000≤n) (hK:Ev (K (pre++(l.drop s).map g)) Q):
  Ev (aL (fun again ((x,i):List β×Int)=>bif decide (i<(l.length:Int)) then(Option.bind (ix l i) fun y=>F y (fun z=>Option.bind (app x [z]) fun w=>again (w,wr (i+1)))) else K x) n (pre,(s:Int))) Q:=by
 refine Ev.loop (fun z:List β×Int=> ∃i:Nat,z.2=i∧s≤i∧i≤l.length∧z.1=pre++((l.drop s).take (i-s)).map g) (fun z=>l.length-z.2.toNat) ?_ n _ ⟨s,rfl,by omega,by omega,by simp⟩ (by dsimp only;omega)
 rintro again ⟨x,z⟩ ⟨i,hz,hsi,hi,hx⟩ hr
 dsimp only at hz hx⊢
 subst hz
 refine aG (fun hlt=> ?_) (fun hge=> ?_)
 ·have hg:=List.getElem?_eq_getElem (show i<l.length by omega)
  have hxl:x.length≤2000:=by rw [hx,List.length_append,List.length_map,List.length_take,List.length_drop];omega
  refine aA (aO hg) (hF _ (List.mem_of_getElem? hg) _ (aA (bU (by simp;omega)) ?_))
  rw [aM (by omega)]
  refine hr _ ⟨i+1,by dsimp only;omega,by omega,by omega,?_⟩ (by dsimp only;omega)
  dsimp only
  rw [show i+1-s=(i-s)+1 by omega,List.take_add_one,List.getElem?_drop,show s+(i-s)=i by omega,hg,hx,List.map_append,List.append_assoc];rfl
 ·have:i=l.length:=by omega
  subst this
  rw [hx,List.take_of_length_le (by rw [List.length_drop];omega)];exact hK
theorem xH{α β R:Type}{l:List α}{f:α→Option β}{g:α→β}{K:List β→Option R}{Q:R→Prop}{n:Nat}(hf: ∀x∈l,f x=some (g x))(hl:l.length≤1000)(hn:5000≤n)(hK:Ev (K (l.map g)) Q):
  Ev (aL (fun again ((x,i):List β×Int)=>bif decide (i<(l.length:Int)) then(Option.bind (ix l i) fun y=>Option.bind (f y) fun z=>Option.bind (app x [z]) fun w=>again (w,wr (i+1))) else K x) n ([],0)) Q:=
 K6 (F:=fun y k=>Option.bind (f y) k) (g:=g) (s:=0) (pre:=[]) (fun x hx k hk=>aA (hf x hx) hk) (by omega) (by simp) hl hn (by simpa using hK)
def zC(f:Affine→Affine)(a:Access):Access:=⟨a.array,a.subs.map f⟩
def aGw(f:Affine→Affine):Nat→Expr→Expr
 |0,e=>e
 |L+1,e=>⟨e.kind,e.num,if e.kind=2 then f e.index else⟨[],0⟩,if e.kind=3 then zC f e.read else⟨[],[]⟩,e.kids.map (aGw f L)⟩
def aJS(f:Affine→Affine)(s:Stmt):Stmt:=⟨zC f s.write,aGw f 5 s.value⟩
theorem aAc{e:Expr}{d:Int}(h:fT e d=true)(hk:e.kind=2):dJ e.index=true∧mS e.read=true:=by
 unfold fT bV at h
 rw [if_pos hk] at h
 simp only [Bool.and_eq_true] at h
 exact⟨h.2.2.1,h.2.1⟩
theorem aAb{e:Expr}{d:Int}(h:fT e d=true)(hk:e.kind=3):iK e.read d=true∧jC e.index=true:=by
 unfold fT at h
 rw [if_neg (by omega),if_pos hk] at h
 simp only [Bool.and_eq_true] at h
 exact⟨h.2.2,h.2.1⟩
theorem aCV{e:Expr}{d:Int}(h:fT e d=true)(h2: ¬e.kind=2)(h3: ¬e.kind=3):jC e.index=true∧mS e.read=true:=by
 unfold fT at h
 rw [if_neg h2,if_neg h3] at h
 split at h<;>simp only [Bool.and_eq_true] at h<;>exact⟨h.2.1,h.2.2⟩
theorem xC{a:Affine}(h:jC a=true):a=⟨[],0⟩:=by
 obtain⟨c,k⟩:=a
 simp only [jC,Bool.and_eq_true,decide_eq_true_eq] at h
 obtain⟨h1,rfl⟩:=h
 rw [List.eq_nil_of_length_eq_zero h1]
theorem xD{a:Access}(h:mS a=true):a=⟨[],[]⟩:=by
 obtain⟨c,k⟩:=a
 simp only [mS,Bool.and_eq_true,decide_eq_true_eq] at h
 obtain⟨rfl,h1⟩:=h
 rw [List.eq_nil_of_length_eq_zero h1]
theorem tP{n:Nat}(hn:5000≤n){a:Access}{d:Int}(ha:iK a d=true){F:Affine→Option Affine}{f:Affine→Affine}(hF: ∀x,dJ x=true→F x=some (f x)):jW n a F=some (zC f a):=by
 obtain⟨h1,h2,h3⟩:=Q7 ha
 refine Ev.eq ?_
 unfold jW
 exact xH (K:=fun x1=>some (⟨a.array,x1⟩:Access)) (fun x hx=>hF x (h3 x hx)) (by omega) hn (Ev.some rfl)
theorem xO{d:Int}{F:Affine→Option Affine}{f:Affine→Affine}(hF: ∀x,dJ x=true→F x=some (f x)): ∀(L n:Nat) (e:Expr),5000+L≤n→dP L e d=true→i_exprMap (n+1) e F=some (aGw f L e)
 |0,_,_,_,h=>by cases h
 |L+1,n,e,hn,h=>by
  obtain⟨hk,ho,hs⟩:=jH h
  obtain⟨n,rfl⟩: ∃j,n=j+1:=⟨n-1,by omega⟩
  have hkl:e.kids.length≤2:=by have:=qB e.kind;omega
  unfold i_exprMap
  refine Ev.eq (Ev.jn (fun z=>(⟨z.1,z.2.1⟩:Affine)=(if e.kind=2 then f e.index else⟨[],0⟩)∧(⟨z.2.2.1,z.2.2.2⟩:Access)=(if e.kind=3 then zC f e.read else⟨[],[]⟩)) (fun j hj=> ?_) (fun z hz=> ?_))
  ·refine aG (fun h2=> ?_) (fun h2=>aG (fun h3=> ?_) (fun h3=> ?_))
   ·exact aA (hF _ (aAc ho h2).1) (hj _ ⟨by rw [if_pos h2],by rw [if_neg (by omega)]⟩)
   ·exact aA (tP (by omega) (aAb ho h3).1 hF) (hj _ ⟨by rw [if_neg h2],by rw [if_pos h3]⟩)
   ·exact hj _ ⟨by rw [if_neg h2],by rw [if_neg h3]⟩
  ·obtain⟨x4,x5,x6,x7⟩:=z
   obtain⟨z1,z2⟩:=hz
   dsimp only at z1 z2⊢
   refine xH (K:=fun x8=>some (⟨e.kind,e.num,(⟨x4,x5⟩:Affine),(⟨x6,x7⟩:Access),x8⟩:Expr)) (fun x hx=>xO hF L n x (by omega) (hs x hx)) (by omega) (by omega) (Ev.some ?_)
   rw [z1,z2];rfl
theorem aAq{n:Nat}(hn:6000≤n){s:Stmt}{d:Int}(hs:gY s d=true){F:Affine→Option Affine}{f:Affine→Affine}(hF: ∀x,dJ x=true→F x=some (f x)):qE n s F=some (aJS f s):=by
 obtain⟨h1,h2,_⟩:=pE hs
 obtain⟨n,rfl⟩: ∃j,n=j+1:=⟨n-1,by omega⟩
 unfold qE
 rw [tP (by omega) h1 hF,xO hF 5 n s.value (by omega) h2];rfl
theorem K5{α:Type}{f:α→α}: ∀{l:List α},(∀x∈l,f x=x)→l.map f=l
 | [],_=>rfl
 |x::l,h=>by rw [List.map_cons,h x List.mem_cons_self,K5 (fun y hy=>h y (List.mem_cons_of_mem _ hy))]
theorem V2{f:Affine→Affine}{a:Access}{d:Int}(ha:iK a d=true)(hf: ∀x,dJ x=true→f x=x):zC f a=a:=by
 obtain⟨h1,h2,h3⟩:=Q7 ha
 unfold zC
 rw [K5 (fun x hx=>hf x (h3 x hx))]
theorem aEn{d:Int}{f:Affine→Affine}(hf: ∀x,dJ x=true→f x=x): ∀{L:Nat} {e:Expr},dP L e d=true→aGw f L e=e
 |0,_,_=>rfl
 |L+1,e,h=>by
  obtain⟨hk,ho,hs⟩:=jH h
  obtain⟨kind,num,index,read,kids⟩:=e
  unfold aGw
  dsimp only at hk ho hs⊢
  rw [K5 (fun x hx=>aEn hf (hs x hx))]
  by_cases h2:kind=2
  ·have e1:=aAc ho h2
   dsimp only at e1
   rw [if_pos h2,if_neg (by omega),hf _ e1.1,xD e1.2]
  ·by_cases h3:kind=3
   ·have e1:=aAb ho h3
    dsimp only at e1
    rw [if_neg h2,if_pos h3,V2 e1.1 hf,xC e1.2]
   ·have e1:=aCV ho h2 h3
    dsimp only at e1
    rw [if_neg h2,if_neg h3,xC e1.1,xD e1.2]
theorem aIw{f:Affine→Affine}(hf: ∀x,dJ x=true→f x=x){s:Stmt}{d:Int}(hs:gY s d=true):aJS f s=s:=by
 obtain⟨h1,h2,_⟩:=pE hs
 unfold aJS
 rw [V2 h1 hf,aEn hf h2]
def aJT(l:Loop):Prop:=(l.lo.length≤2∧ ∀x∈l.lo,dJ x=true)∧l.hi.length≤2∧ ∀x∈l.hi,dJ x=true
theorem aJ7{nest:List Loop}(h:Fit nest): ∀l∈nest,aJT l:=fun l hl=>by
 obtain⟨i,hi⟩:=List.mem_iff_getElem?.1 hl
 have:=h.2 i l hi
 exact⟨(sQ this.1).2,(sQ this.2).2⟩
theorem aEg{list:List Arr}{x:Part}(h:cY list x=true):x.nest.length≤4∧ ∀l∈x.nest,aJT l:=by
 have:=(aD3 (n4 h).1).1
 exact⟨this.1,aJ7 this⟩
theorem aJi{a:Affine}(h:dJ a=true):BA 4 a:=by have:=(rZ h).1;unfold BA;omega
theorem aAT{l:List Affine}(h1:l.length≤2)(h2: ∀x∈l,dJ x=true):BAs 4 l:=⟨by omega,fun a ha=>aJi (h2 a ha)⟩
theorem aJh{d:Int}: ∀{L:Nat} {e:Expr},dP L e d=true→BE 4 L e
 |0,_,h=>by cases h
 |L+1,e,h=>by
  obtain⟨hk,ho,hs⟩:=jH h
  have:=qB e.kind
  refine⟨by omega,?_,?_,fun k hk=>aJh (hs k hk)⟩
  ·by_cases h2:e.kind=2
   ·exact aJi (aAc ho h2).1
   ·by_cases h3:e.kind=3
    ·rw [xC (aAb ho h3).2];unfold BA;simp
    ·rw [xC (aCV ho h2 h3).1];unfold BA;simp
  ·by_cases h3:e.kind=3
   ·have:=Q7 (aAb ho h3).1
    exact aAT this.2.1 this.2.2
   ·by_cases h2:e.kind=2
    ·rw [xD (aAc ho h2).2];exact⟨by simp,fun x hx=>by cases hx⟩
    ·rw [xD (aCV ho h2 h3).2];exact⟨by simp,fun x hx=>by cases hx⟩
theorem aK5{s:Stmt}{d:Int}(hs:gY s d=true):BS 4 s:=by
 obtain⟨h1,h2,_⟩:=pE hs
 have:=Q7 h1
 exact⟨aAT this.2.1 this.2.2,aJh h2⟩
theorem aKg{list:List Arr}{x:Part}(h:cY list x=true):BPt 4 x:=by
 obtain⟨h1,h2⟩:=aEg h
 obtain⟨_,h4,h5,_⟩:=n4 h
 exact⟨⟨h1,fun l hl=>⟨aAT (h2 l hl).1.1 (h2 l hl).1.2,aAT (h2 l hl).2.1 (h2 l hl).2.2⟩⟩,h4.2,fun s hs=>aK5 (h5 s hs)⟩
theorem aJg{l:List Arr}(h1:l.length≤4)(h2:fG l):BR 4 l:=⟨h1,fun x hx=>by
 have:=h2 x hx
 simp only [iZ,Bool.and_eq_true,decide_eq_true_eq] at this
 omega⟩
theorem X7{p:Prog}(h:bJ p=true):BG 4 p:=by
 obtain⟨h1,h2,h3,h4,_⟩:=fJ h
 exact⟨aJg h1 h2,h3,fun x hx=>aKg (h4 x hx)⟩
theorem aEZ(n:Nat){a:Affine}(h:a.coefs.length≤1000):fB n a=some a:=by
 unfold fB m_ownClone
 rw [if_pos (by omega)];rfl
theorem U1(n:Nat): ∀x,dJ x=true→fB n x=some x:=fun x hx=>aEZ n (by have:=(rZ hx).1;omega)
theorem J2{n:Nat}(hn:5000≤n){l:List Affine}(h1:l.length≤2)(h2: ∀x∈l,dJ x=true):fA n l=some l:=by
 unfold fA
 refine Ev.eq (xH (g:=fun x=>x) (K:=fun x1=>some x1) (fun x hx=>U1 n x (h2 x hx)) (by omega) hn (Ev.some ?_))
 simp
theorem aCW{n:Nat}(hn:5000≤n){nest:List Loop}(h1:nest.length≤4)(h2: ∀l∈nest,aJT l):lL n nest=some nest:=by
 unfold lL
 refine Ev.eq ?_
 refine K6 (β:=Loop) (l:=nest) (n:=n) (F:=fun x5 k=>Option.bind (fA n x5.lo) fun x6=>Option.bind (fA n x5.hi) fun x7=>k (⟨x6,x7⟩:Loop)) (g:=fun x=>x) (s:=0) (pre:=[]) (K:=fun x1=>some x1) ?_ (by omega) (by simp) (by omega) hn (Ev.some (by simp))
 exact fun x hx k hk=>aA (J2 hn (h2 x hx).1.1 (h2 x hx).1.2) (aA (J2 hn (h2 x hx).2.1 (h2 x hx).2.2) hk)
theorem aCT{n:Nat}(hn:6000≤n){s:Stmt}{d:Int}(hs:gY s d=true):qF n s=some s:=by
 unfold qF
 rw [aAq hn hs (F:=fun q0=>fB n q0) (f:=fun x=>x) (U1 n),aIw (fun _ _=>rfl) hs];rfl
theorem aCU{n:Nat}(hn:6000≤n){list:List Arr}{x:Part}(h:cY list x=true):jU n x=some x:=by
 obtain⟨h1,h2⟩:=aEg h
 obtain⟨_,h4,h5,_⟩:=n4 h
 unfold jU
 refine Ev.eq (aA (aCW (by omega) h1 h2) (xH (g:=fun x=>x) (K:=fun x2=>some (⟨x.nest,x2⟩:Part)) (fun s hs=>aCT hn (h5 s hs)) (by omega) (by omega) (Ev.some ?_)))
 simp
theorem aGq{n:Nat}(hn:6000≤n){p:Prog}(h:bJ p=true):d8 n p=some p:=by
 obtain⟨h1,h2,h3,h4,_⟩:=fJ h
 unfold d8
 refine Ev.eq (K6 (F:=fun x5 k=>Option.bind (m_ownClone x5.dims) fun x6=>k (⟨x5.name,x6⟩:Arr)) (g:=fun x=>x) (s:=0) (pre:=[]) (K:=fun x1=>aL (fun again11 ((x8,x9):(List Part)×Int)=>
    bif decide (x9<(p.parts.length:Int)) then(
     Option.bind (ix p.parts x9) fun x12=>
     Option.bind (jU n x12) fun x13=>
     Option.bind (app x8 [x13]) fun x14=>
     again11 (x14,wr (x9+1))
    ) else(
     some (⟨x1,x8⟩:Prog)
    )
   ) n ([],0)) (fun x hx k hk=>aA (x:=x.dims) ?_ hk) (by omega) (by simp) (by omega) (by omega) ?_)
 ·have:=(aJg h1 h2).2 x hx
  unfold m_ownClone
  rw [if_pos (by omega)]
 ·refine xH (g:=fun x=>x) (K:=fun x8=>some (⟨_,x8⟩:Prog)) (fun x hx=>aCU hn (h4 x hx)) (by omega) (by omega) (Ev.some ?_)
  simp
theorem U7(n:Nat){a:Affine}(h:BA 1000 a):fR n a=some a:=by
 unfold fR
 rw [eA _ h];rfl
theorem vN{n:Nat}(hn:5000≤n){l:List Affine}(h:BAs 1000 l):cQ n l=some l:=by
 unfold cQ
 exact Ev.eq (mJ (K:=fun x1=>some x1) (fun x hx=>U7 n (h.2 x hx)) h.1 hn (Ev.some rfl))
theorem U8{n:Nat}(hn:5000≤n){a:Access}(h:BAs 1000 a.subs):fS n a=some a:=by
 unfold fS
 rw [vN hn h];rfl
theorem J6: ∀(L n:Nat) (e:Expr),5000+L≤n→BE 1000 L e→s_l16OwnExpr (n+1) e=some e
 |0,_,_,_,h=>h.elim
 |L+1,n,e,hn,h=>by
  obtain⟨h1,h2,h3,h4⟩:=h
  obtain⟨n,rfl⟩: ∃j,n=j+1:=⟨n-1,by omega⟩
  unfold s_l16OwnExpr iM
  rw [U7 _ h2,U8 (by omega) h3]
  refine Ev.eq (aA rfl (aA rfl (aA (x:=e.kids) ?_ (Ev.some (by cases e;rfl)))))
  exact Ev.eq (mJ (f:=s_l16OwnExpr (n+1)) (K:=fun x1=>some x1) (fun x hx=>J6 L n x (by omega) (h4 x hx)) h1 (by omega) (Ev.some rfl))
theorem aC0{n:Nat}(hn:6000≤n){s:Stmt}(h:BS 1000 s):kA n s=some s:=by
 obtain⟨n,rfl⟩: ∃j,n=j+1:=⟨n-1,by omega⟩
 unfold kA
 rw [U8 (by omega) h.1,J6 5 n s.value (by omega) h.2];rfl
theorem aC2{n:Nat}(hn:6000≤n){x:Part}(h:BPt 1000 x):kB n x=some x:=by
 obtain⟨⟨h1,h2⟩,h3,h4⟩:=h
 have e1:fQ n x.nest=some x.nest:=by
  unfold fQ
  refine Ev.eq (mJ (K:=fun x1=>some x1) (fun l hl=> ?_) h1 (by omega) (Ev.some rfl))
  unfold mX
  rw [vN (by omega) (h2 l hl).1,vN (by omega) (h2 l hl).2];rfl
 have e2:fO n x.body=some x.body:=by
  unfold fO
  exact Ev.eq (mJ (K:=fun x1=>some x1) (fun l hl=>aC0 hn (h4 l hl)) h3 (by omega) (Ev.some rfl))
 unfold kB
 rw [e1,e2];rfl
theorem aC1{n:Nat}(hn:6000≤n){p:Prog}(h:BG 1000 p):gI n p=some p:=by
 obtain⟨⟨h1,h2⟩,h3,h4⟩:=h
 have e1:eX n p.arrays=some p.arrays:=by
  unfold eX
  refine Ev.eq (mJ (K:=fun x1=>some x1) (fun l hl=> ?_) h1 (by omega) (Ev.some rfl))
  unfold lY
  rw [eA _ (h2 l hl)];rfl
 have e2:fP n p.parts=some p.parts:=by
  unfold fP
  exact Ev.eq (mJ (K:=fun x1=>some x1) (fun l hl=>aC2 hn (h4 l hl)) h3 (by omega) (Ev.some rfl))
 unfold gI
 rw [e1,e2];rfl
theorem pR{α:Type}{f:α→α→Option Bool}{l:List α}(hf: ∀x∈l,f x x=some true){n:Nat}(hn:l.length<n)(hl:l.length≤1000000):
  (bif !decide ((l.length:Int)=(l.length:Int)) then(some false) else(aL (fun again2 (x1:Int)=>bif decide (x1<(l.length:Int)) then(Option.bind (ix l x1) fun x3=>Option.bind (ix l x1) fun x4=>Option.bind (f x3 x4) fun x5=>bif !x5 then(some false) else(again2 (wr (x1+1)))) else(some true)) n 0))=some true:=by
 refine Ev.eq (dG (fun h=>(h rfl).elim) (fun _=> ?_))
 refine Ev.loop (fun x:Int=> ∃i:Nat,x=i∧i≤l.length) (fun x=>l.length-x.toNat) ?_ n 0 ⟨0,rfl,by omega⟩ (by omega)
 rintro again x ⟨i,rfl,hi⟩ hr
 refine aG (fun hlt=> ?_) (fun _=>Ev.some rfl)
 obtain⟨e,hg⟩: ∃e,l[i]? =some e:=⟨_,List.getElem?_eq_getElem (show i<l.length by omega)⟩
 refine aA (aO hg) (aA (aO hg) (aA (hf e (List.mem_of_getElem? hg)) (bZ ?_)))
 rw [aM (by omega)]
 exact hr _ ⟨i+1,by omega,by omega⟩ (by omega)
theorem T5{a:List Int}{n:Nat}(hn:a.length<n)(hl:a.length≤1000000):fZ n a a=some true:=by
 unfold fZ
 refine Ev.eq (dG (fun h=>(h rfl).elim) (fun _=> ?_))
 refine Ev.loop (fun x:Int=> ∃i:Nat,x=i∧i≤a.length) (fun x=>a.length-x.toNat) ?_ n 0 ⟨0,rfl,by omega⟩ (by omega)
 rintro again x ⟨i,rfl,hi⟩ hr
 refine aG (fun hlt=> ?_) (fun _=>Ev.some rfl)
 obtain⟨e,hg⟩: ∃e,a[i]? =some e:=⟨_,List.getElem?_eq_getElem (show i<a.length by omega)⟩
 refine aA (aO hg) (aA (aO hg) (dG (fun h=>(h rfl).elim) (fun _=> ?_)))
 rw [aM (by omega)]
 exact hr _ ⟨i+1,by omega,by omega⟩ (by omega)
theorem aEJ{n:Nat}(hn:5000≤n){a:Affine}(h:BA 1000 a):bT n a a=some true:=by
 unfold BA at h
 unfold bT
 refine Ev.eq (Ev.jn (fun z=>z=true) (fun j hj=>aA (T5 (by omega) (by omega)) (bW (hj _ (decide_eq_true rfl)))) (fun z hz=>Ev.some hz))
theorem Q6{n:Nat}(hn:5000≤n){l:List Affine}(h:BAs 1000 l):b6 n l l (fun q0 q1=>bT n q0 q1)=some true:=by
 have:=h.1
 unfold b6
 exact pR (fun x hx=>aEJ hn (h.2 x hx)) (by omega) (by omega)
theorem aEK{n:Nat}(hn:5000≤n){a:Access}(h:BAs 1000 a.subs):iT n a a=some true:=by
 unfold iT
 refine Ev.eq (Ev.jn (fun z=>z=true) (fun j hj=> ?_) (fun z hz=>Ev.some hz))
 exact aG (fun _=>aA (Q6 hn h) (hj _ rfl)) (fun h=>(h rfl).elim)
theorem aBO: ∀(L n:Nat) (e:Expr),5000+L≤n→BE 1000 L e→i_exprSame (n+1) e e=some true
 |0,_,_,_,h=>h.elim
 |L+1,n,e,hn,h=>by
  obtain⟨h1,h2,h3,h4⟩:=h
  obtain⟨n,rfl⟩: ∃j,n=j+1:=⟨n-1,by omega⟩
  unfold i_exprSame
  refine Ev.eq (Ev.jn (fun z=>z=true) (fun j hj=> ?_) (fun z hz=>Ev.some hz))
  refine aG (fun _=>aG (fun _=>aA (aEJ (by omega) h2) (bW (aA (aEK (by omega) h3) (bW (aA (x:=true) ?_ (hj _ rfl)))))) (fun h=>(h rfl).elim)) (fun h=>(h rfl).elim)
  unfold iS
  exact pR (fun x hx=>aBO L n x (by omega) (h4 x hx)) (by omega) (by omega)
theorem aF8{n:Nat}(hn:6000≤n){s:Stmt}(h:BS 1000 s):lP n s s=some true:=by
 obtain⟨n,rfl⟩: ∃j,n=j+1:=⟨n-1,by omega⟩
 unfold lP
 refine Ev.eq (Ev.jn (fun z=>z=true) (fun j hj=> ?_) (fun z hz=>Ev.some hz))
 exact aA (aEK (by omega) h.1) (bW (aA (aBO 5 n s.value (by omega) h.2) (hj _ rfl)))
theorem aGs{n:Nat}(hn:5000≤n){nest:List Loop}(h:BN 1000 nest):iE n nest nest=some true:=by
 have:=h.1
 unfold iE fU
 rw [pR (fun l hl=> ?_) (by omega) (by omega)]
 ·rfl
 ·unfold gC
  refine Ev.eq (Ev.jn (fun z=>z=true) (fun j hj=> ?_) (fun z hz=>Ev.some hz))
  exact aA (Q6 hn (h.2 l hl).1) (bW (aA (Q6 hn (h.2 l hl).2) (hj _ rfl)))
theorem aGo{n:Nat}(hn:6000≤n){x:Part}(h:BPt 1000 x):eO n x x=some true:=by
 have:=h.2.1
 unfold eO
 refine Ev.eq (Ev.jn (fun z=>z=true) (fun j hj=> ?_) (fun z hz=>Ev.some hz))
 refine aA (aGs (by omega) h.1) (bW (aA (x:=true) ?_ (hj _ rfl)))
 unfold iQ
 exact pR (fun s hs=>aF8 hn (h.2.2 s hs)) (by omega) (by omega)
theorem aGn{n:Nat}(hn:6000≤n){p:Prog}(h:BG 1000 p):d9 n p p=some true:=by
 obtain⟨⟨h1,h2⟩,h3,h4⟩:=h
 unfold d9
 refine Ev.eq (Ev.jn (fun z=>z=true) (fun j hj=> ?_) (fun z hz=>Ev.some hz))
 refine aA (x:=true) ?_ (bW (aA (x:=true) ?_ (hj _ rfl)))
 ·unfold gS
  refine pR (fun x hx=> ?_) (by omega) (by omega)
  unfold eP
  refine Ev.eq (Ev.jn (fun z=>z=true) (fun j hj=> ?_) (fun z hz=>Ev.some hz))
  have:=h2 x hx
  exact aG (fun _=>aA (T5 (by omega) (by omega)) (hj _ rfl)) (fun h=>(h rfl).elim)
 ·unfold iR
  exact pR (fun x hx=>aGo hn (h4 x hx)) (by omega) (by omega)
theorem aI9{α:Type}{l:List α}{i:Int}(h: ¬(0≤i∧i<(l.length:Int))):ix l i=none:=by
 cases hx:ix l i with
 |none=>rfl
 |some x=>
  obtain⟨h1,h2⟩:=mZ hx
  have:=(List.getElem?_eq_some_iff.1 h2).1
  exact absurd ⟨h1,by omega⟩ h
theorem aAo{α:Type}{l:List α}{i:Int}{x:α}(h:ix l i=some x): ∃k:Nat,i=k∧k<l.length∧l[k]? =some x:=by
 obtain⟨h1,h2⟩:=mZ h
 exact⟨i.toNat,by omega,(List.getElem?_eq_some_iff.1 h2).1,h2⟩
theorem aE7(n:Nat){p:Prog}(h:p.parts.length≤1000)(part:Int):eD n p part=some (decide (0≤part∧part<(p.parts.length:Int))):=by
 unfold eD
 rw [eN,aM (by omega)]
 exact congrArg some (decide_eq_decide.2 (by omega))
def aAx(q:Prog):Prog×Bool:=if bJ q=true then(q,true) else(⟨[],[]⟩,false)
theorem aBN{n:Nat}(hn:7000≤n){p:Prog}(hp:BG 1000 p):n8 n p=some (aAx p):=by
 unfold n8 aAx
 refine Ev.eq (aA (fE hn hp.sm) (Ev.cond (fun h=>Ev.some ?_) (fun h=> ?_)))
 ·rw [if_neg (by simpa using h)]
 ·have hv:bJ p=true:=by simpa using h
  rw [if_pos hv]
  exact aA (aGq (by omega) hv) (Ev.some rfl)
def bB(m:Int)(a:Affine):Prop:=a.coefs.length=4∧E6 m a.const∧ ∀c∈a.coefs,E6 m c
theorem bB.mono{m m':Int}{a:Affine}(h:bB m a)(hm:m≤m'):bB m' a:=⟨h.1,⟨by have:=h.2.1.1;omega,by have:=h.2.1.2;omega⟩,fun c hc=>⟨by have:=(h.2.2 c hc).1;omega,by have:=(h.2.2 c hc).2;omega⟩⟩
def noP:Prog×Bool:=(⟨[],[]⟩,false)
theorem take_set{α:Type}{l r:List α}{k:Nat}{x y:α}(h:l[k]? =some x):(l.take (k+1)++r).set k y=l.take k++y::r:=by
 have hk:=(List.getElem?_eq_some_iff.1 h).1
 rw [List.take_add_one,h,List.append_assoc,List.set_append_right _ _ (by simp;omega),List.length_take,Nat.min_eq_left (by omega),Nat.sub_self];rfl
theorem aIK{q:Prog}(h:BG 1000 q):BG 1000 (aAx q).1:=by
 unfold aAx
 split
 ·exact h
 ·exact⟨⟨by simp,fun x hx=>by cases hx⟩,by simp,fun x hx=>by cases hx⟩
theorem aC4:BG 1000 noP.1:=⟨⟨by simp [noP],fun x hx=>by cases hx⟩,by simp [noP],fun x hx=>by cases hx⟩
theorem aJ6{B:Option Bool}{a b:Int}(h:b≤1048576→Ev B (fun r=>r=true)):Ev (jn (fun(x2:Bool)=>bif x2 then(some true) else B) (fun j1=>bif decide ((1048576:Int)<a) then(j1 true) else(j1 (decide ((1048576:Int)<b))))) (fun r=>r=true):=by
 exact Ev.jn (fun z=>z=false→b≤1048576) (fun j hj=>aG (fun _=>hj _ (fun h=>by cases h)) (fun _=>hj _ (fun h=>by have:=of_decide_eq_false h;omega))) (fun z hz=>Ev.cond (fun _=>Ev.some rfl) (fun h0=>h (hz h0)))
theorem aJ5{I S:Option (Prog×Bool)}{REST:Prog×Bool→Prog×Bool→Option Bool}{R:Prog×Bool}(hR:BG 1000 R.1)(h1:I=some R)(h2:S=some R)(hb:R.2=true→Ev (REST R R) (fun r=>r=true)):
  Ev (Option.bind I fun x4=>Option.bind S fun x5=>jn (fun(x8:Bool)=>
    bif x8 then(
     jn (fun(x11:Bool)=>
      some x11
     ) (fun j9=>
      bif(x4.2==x5.2) then(
       Option.bind (d9 N x4.1 x5.1) fun x10=>
       j9 x10
      ) else(
       j9 false
      )
     )
    ) else(
     REST x4 x5
    )
   ) (fun j6=>
    bif !(x4.2==x5.2) then(
     j6 true
    ) else(
     Option.bind (d9 N x4.1 x5.1) fun x7=>
     bif !x7 then(
      j6 true
     ) else(
      j6 (!x4.2)
     )
    )
   )) (fun r=>r=true):=by
 have hN:N=100000:=rfl
 have hs:=aGn (n:=N) (by omega) hR
 have he:(R.2==R.2)=true:=by cases R.2<;>rfl
 refine aA h1 (aA h2 (Ev.jn (fun z=>z= !R.2) (fun j hj=> ?_) (fun z hz=> ?_)))
 ·rw [he]
  exact bZ (aA hs (bZ (hj _ rfl)))
 ·subst hz
  cases hr:R.2 with
  |false=>exact bW (Ev.jn (fun z=>z=true) (fun j hj=>bW (aA hs (hj _ rfl))) (fun z hz=>Ev.some hz))
  |true=>exact bZ (hb hr)
theorem aJ8{p q:Prog}(h:aAx p=(q,true)):q=p∧bJ p=true:=by
 unfold aAx at h
 split at h
 ·rename_i hv;cases h;exact⟨rfl,hv⟩
 ·cases h
def low(k:Nat)(b:Affine):Prop:= ∀j,k≤j→b.coefs.getD j 0=0
theorem z7{list:List Arr}{x:Part}(h:cY list x=true):cA x=pts x.nest []:=(aD3 (n4 h).1).2.2.2.1
def isP(p:Prog)(a:Int):Bool:=decide (0≤a∧a<(p.parts.length:Int))
theorem aAd{b:Bool}(h:(!b)=true):b=false:=by cases b with
 |false=>rfl
 |true=>cases h
theorem aAe{b:Bool}(h:(!b)=false):b=true:=by cases b with
 |false=>cases h
 |true=>rfl
theorem aJK{α:Type}{l:List α}{i:Nat}{a b:α}(ha:l[i]? =some a)(hb:l[i+1]? =some b):l=l.take i++a::b::l.drop (i+2):=by
 have h1:l.drop i=a::l.drop (i+1):=mI ha
 have h2:l.drop (i+1)=b::l.drop (i+2):=mI hb
 rw [←h2,←h1,List.take_append_drop]
theorem instP_rho{i j:Nat}{P:Part}{σ:Inst→Inst}(h: ∀s q,σ ⟨(i:Int),s,q⟩=⟨(j:Int),s,q⟩):(instP i P).map σ=instP j P:=by
 unfold instP
 rw [List.map_flatMap,List.flatMap_def,List.flatMap_def]
 congr 1
 refine List.map_congr_left (fun q _=> ?_)
 rw [List.map_map]
 exact List.map_congr_left (fun t _=>h _ _)
theorem insts_cons(P:Part)(ps:List Part):insts (P::ps)=instP 0 P++(insts ps).map (iY 1):=by
 have h1:=insts_app [P] ps
 have h2:insts [P]=instP 0 P:=by unfold insts;simp
 rw [h2] at h1
 exact h1
theorem insts_two(A C:List Part)(P1 P2:Part):insts (A++P1::P2::C)=insts A++(instP A.length P1++(instP (A.length+1) P2++((insts C).map (iY 1)).map (fun x=>iY A.length (iY 1 x)))):=by
 rw [insts_app,insts_cons,insts_cons,List.map_append,List.map_append,List.map_append]
 congr 2
 ·exact instP_rho (fun s q=>by unfold iY;simp)
 ·rw [List.map_map,List.map_map]
  congr 1
  exact instP_rho (fun s q=>by unfold iY;simp<;>omega)
theorem insts_lt{ps:List Part}{x:Inst}(h:x∈insts ps):0≤x.part∧x.part<(ps.length:Int):=by
 obtain⟨i,k,P,s,e1,_,e3,_⟩:=insts_mem h
 have:=(List.getElem?_eq_some_iff.1 e3).1
 omega
theorem aHv{p:Prog}(hv:bJ p=true){x:Inst}(hx:cM p x): ∀{Y:List Inst} {m:List Int},(∀y∈Y,cM p y)→(∀y∈Y,com p x y)→gU p.arrays m→cB p (lJ p m x) Y=lJ p (cB p m Y) x
 | [],m,_,_,_=>rfl
 |y::Y,m,h1,h2,hm=>by
  show cB p (lJ p (lJ p m x) y) Y=lJ p (cB p (lJ p m y) Y) x
  rw [h2 y List.mem_cons_self m hm]
  exact aHv hv hx (fun z hz=>h1 z (List.mem_cons_of_mem _ hz)) (fun z hz=>h2 z (List.mem_cons_of_mem _ hz)) (E0 hv hm (h1 y List.mem_cons_self))
theorem block{p:Prog}(hv:bJ p=true): ∀{X Y:List Inst} {m:List Int},(∀x∈X,cM p x)→(∀y∈Y,cM p y)→(∀x∈X,∀y∈Y,com p x y)→gU p.arrays m→cB p (cB p m X) Y=cB p (cB p m Y) X
 | [],Y,m,_,_,_,_=>rfl
 |x::X,Y,m,h1,h2,h3,hm=>by
  show cB p (cB p (lJ p m x) X) Y=cB p (lJ p (cB p m Y) x) X
  rw [block hv (fun z hz=>h1 z (List.mem_cons_of_mem _ hz)) h2 (fun z hz=>h3 z (List.mem_cons_of_mem _ hz)) (E0 hv hm (h1 x List.mem_cons_self)),aHv hv (h1 x List.mem_cons_self) h2 (h3 x List.mem_cons_self) hm]
def C3(a b:Loop):Bool:=nO a.lo b.lo&&nO a.hi b.hi
def pG(a b:List Loop):Bool:=mR C3 a b
theorem aJU{a b:Loop}(h:C3 a b=true):a=b:=by
 unfold C3 at h
 simp only [Bool.and_eq_true] at h
 obtain⟨a1,a2⟩:=a
 obtain⟨b1,b2⟩:=b
 dsimp only at h
 rw [H1 h.1,H1 h.2]
theorem aBz: ∀{a b:List Loop},pG a b=true→a=b
 | [],[],_=>rfl
 |x::a,y::b,h=>by
  unfold pG at h
  simp only [mR,Bool.and_eq_true] at h
  rw [aJU h.1,aBz h.2]
 | [],y::b,h=>by cases h
 |x::a,[],h=>by cases h
theorem R6{n:Nat}(hn:5000≤n){a b:List Loop}(ha:SmN a):iE n a b=some (pG a b):=by
 unfold iE fU
 refine Ev.eq (aA (H4 (p:=C3) (f:=fun q0 q1=>gC n q0 q1) (fun x hx y _=> ?_) (by have:=ha.1;omega) (by have:=ha.1;omega)) (Ev.some rfl))
 unfold gC C3
 refine Ev.eq (Ev.jn (fun z=>z=(nO x.lo y.lo&&nO x.hi y.hi)) (fun j hj=>aA (uW hn (ha.2 x hx).1) (Ev.cond (fun e=>aA (uW hn (ha.2 x hx).2) (hj _ (by rw [e];rfl))) (fun e=>hj _ (by rw [e];rfl)))) (fun z hz=>Ev.some hz))
theorem R2{n:Nat}(hn:5000≤n){a b:List Loop}(ha:SmN a):nW n a b=some (pG a b):=by
 unfold nW pG
 have hl:=ha.1
 refine Ev.eq (dG (fun h=>Ev.some ?_) (fun h=> ?_))
 ·cases hs:mR C3 a b with
  |false=>rfl
  |true=>exact absurd (by rw [yV hs]) h
 ·refine Ev.loop (fun x:Int=> ∃i:Nat,x=i∧i≤a.length∧mR C3 (a.drop i) (b.drop i)=mR C3 a b) (fun x=>a.length-x.toNat) ?_ n 0 ⟨0,rfl,by omega,rfl⟩ (by omega)
  rintro again x ⟨i,rfl,hi,hs⟩ hr
  refine aG (fun hlt=> ?_) (fun hge=>Ev.some ?_)
  ·have h1:i<a.length:=by omega
   have h2:i<b.length:=by omega
   have ha1:=List.getElem?_eq_getElem h1
   have hb1:=List.getElem?_eq_getElem h2
   have hx:=ha.2 _ (List.mem_of_getElem? ha1)
   rw [List.drop_eq_getElem_cons h1,List.drop_eq_getElem_cons h2] at hs
   simp only [mR] at hs
   refine Ev.jn (fun z=>z= !C3 a[i] b[i]) (fun j hj=> ?_) (fun z hz=> ?_)
   ·refine aA (aO ha1) (aA (aO hb1) (aA (uT hn hx.1) (Ev.cond (fun e=>hj _ ?_) (fun e=>aA (uT hn hx.2) (hj _ ?_)))))
    ·unfold C3;rw [aAd e];rfl
    ·unfold C3;rw [aAe e];rfl
   ·subst hz
    cases hp:C3 a[i] b[i] with
    |false=>rw [hp] at hs;exact bW (Ev.some hs)
    |true=>
     rw [hp,Bool.true_and] at hs
     refine bZ ?_
     rw [aM (by omega)]
     exact hr _ ⟨i+1,by omega,by omega,hs⟩ (by omega)
  ·have e1:a.drop i=[]:=List.drop_eq_nil_of_le (by omega)
   have e2:b.drop i=[]:=List.drop_eq_nil_of_le (by omega)
   rw [e1,e2] at hs
   exact hs
def pH:List Int→List Int→Bool
 |a::as,b::bs=>if a=b then pH as bs else decide (a<b)
 | [],_::_=>true
 |_,[]=>false
theorem aGe{n:Nat}{p q:List Int}(hn:p.length<n)(hp:p.length≤1000)(hq:q.length≤1000):pZ n p q=some (pH p q):=by
 unfold pZ
 refine Ev.eq (Ev.loop (fun x:Int=> ∃i:Nat,x=i∧i≤p.length∧i≤q.length∧pH (p.drop i) (q.drop i)=pH p q) (fun x=>p.length-x.toNat) ?_ n 0 ⟨0,rfl,by omega,by omega,rfl⟩ (by omega))
 rintro again x ⟨i,rfl,h1,h2,hs⟩ hr
 refine Ev.jn (fun z=>z=decide (i<p.length∧i<q.length)) (fun j hj=>aG (fun h=>hj _ ?_) (fun h=>hj _ ?_)) (fun z hz=> ?_)
 ·rw [Bool.eq_iff_iff];simp only [decide_eq_true_eq];omega
 ·exact(decide_eq_false (by omega)).symm
 ·subst hz
  refine aG (fun h=> ?_) (fun h=>Ev.some ?_)
  ·have ha1:=List.getElem?_eq_getElem h.1
   have hb1:=List.getElem?_eq_getElem h.2
   rw [List.drop_eq_getElem_cons h.1,List.drop_eq_getElem_cons h.2] at hs
   simp only [pH] at hs
   refine aA (aO ha1) (aA (aO hb1) (dG (fun hne=>Ev.some ?_) (fun he=> ?_)))
   ·rw [if_neg hne] at hs;exact hs
   ·rw [if_pos he] at hs
    rw [aM (by omega)]
    exact hr _ ⟨i+1,by omega,by omega,by omega,hs⟩ (by omega)
  ·rw [←hs]
   by_cases e:i<p.length
   ·have e2:q.drop i=[]:=List.drop_eq_nil_of_le (by omega)
    rw [e2,List.drop_eq_getElem_cons e]
    simp only [pH]
    exact decide_eq_false (by omega)
   ·have e1:p.drop i=[]:=List.drop_eq_nil_of_le (by omega)
    rw [e1]
    by_cases e3:i<q.length
    ·rw [List.drop_eq_getElem_cons e3]
     simp only [pH]
     exact decide_eq_true (by omega)
    ·rw [List.drop_eq_nil_of_le (show q.length≤i by omega)]
     simp only [pH]
     exact decide_eq_false (by omega)
theorem aDw(n:Nat)(x y:Int):eV n x y=some (if x<y then-1 else if y<x then 1 else 0):=by
 unfold eV gF
 simp only [Option.bind,decide_true,Bool.not_true,cond_false]
 by_cases h:x<y
 ·rw [decide_eq_true h,if_pos h];rfl
 ·rw [decide_eq_false h,if_neg h]
  by_cases h2:y<x
  ·rw [decide_eq_true h2,if_pos h2];rfl
  ·rw [decide_eq_false h2,if_neg h2];rfl
theorem aGH{n:Nat}{p q:List Int}(hn:p.length<n)(hp:p.length≤1000)(hq:q.length≤1000):qH n p q=some (pH p q):=by
 unfold qH l3
 refine Ev.eq (aJ (P:=fun c:Int=>decide (c<0)=pH p q) ?_ (fun c hc=>Ev.some hc))
 refine Ev.loop (fun x:Int=> ∃i:Nat,x=i∧i≤p.length∧i≤q.length∧pH (p.drop i) (q.drop i)=pH p q) (fun x=>p.length-x.toNat) ?_ n 0 ⟨0,rfl,by omega,by omega,rfl⟩ (by omega)
 rintro again x ⟨i,rfl,h1,h2,hs⟩ hr
 refine aG (fun hlt=> ?_) (fun hge=> ?_)
 ·have e:i<p.length:=by omega
  have ha1:=List.getElem?_eq_getElem e
  refine aA (aO ha1) (aG (fun h=>Ev.some ?_) (fun h=> ?_))
  ·rw [←hs,List.drop_eq_nil_of_le (show q.length≤i by omega),List.drop_eq_getElem_cons e]
   simp [pH]
  ·have e2:i<q.length:=by omega
   have hb1:=List.getElem?_eq_getElem e2
   rw [List.drop_eq_getElem_cons e,List.drop_eq_getElem_cons e2] at hs
   simp only [pH] at hs
   refine aA (aO hb1) (aA (aDw n _ _) ?_)
   by_cases c1:p[i]<q[i]
   ·rw [if_pos c1]
    refine dG (fun _=>Ev.some ?_) (fun he=>absurd he (by omega))
    rw [if_neg (by omega)] at hs
    rw [←hs,decide_eq_true c1];rfl
   ·rw [if_neg c1]
    by_cases c2:q[i]<p[i]
    ·rw [if_pos c2]
     refine dG (fun _=>Ev.some ?_) (fun he=>absurd he (by omega))
     rw [if_neg (by omega)] at hs
     rw [←hs,decide_eq_false c1];rfl
    ·rw [if_neg c2]
     refine dG (fun hne=>absurd rfl hne) (fun _=> ?_)
     rw [if_pos (by omega)] at hs
     rw [aM (by omega)]
     exact hr _ ⟨i+1,by omega,by omega,by omega,hs⟩ (by omega)
 ·have e1:p.drop i=[]:=List.drop_eq_nil_of_le (by omega)
  rw [e1] at hs
  refine aG (fun h=>Ev.some ?_) (fun h=>Ev.some ?_)
  ·rw [←hs,List.drop_eq_getElem_cons (show i<q.length by omega)];rfl
  ·rw [←hs,List.drop_eq_nil_of_le (show q.length≤i by omega)];rfl
theorem aBC{v w:Int}(h:v<w)(a b:List Int): ∀p:List Int,pH (p++v::a) (p++w::b)=true
 | []=>by
  simp only [List.nil_append,pH]
  rw [if_neg (by omega)]
  exact decide_eq_true h
 |x::p=>by
  simp only [List.cons_append,pH,if_true]
  exact aBC h a b p
theorem aGh(lo hi:Int):(kX lo hi).Pairwise (fun a b=>a<b):=by
 unfold kX
 rw [List.pairwise_map]
 exact List.pairwise_lt_range.imp (fun h=>by omega)
theorem aEe: ∀(ls:List Loop) (p:List Int),(pts ls p).Pairwise (fun a b=>pH a b=true)
 | [],p=>by simp [pts]
 |l::ls,p=>by
  unfold pts
  rw [List.pairwise_flatMap]
  refine⟨fun v _=>aEe ls _,(aGh _ _).imp (fun {v w} h a ha b hb=> ?_)⟩
  obtain⟨x,rfl,_⟩:=(E5 ls _ _).1 ha
  obtain⟨y,rfl,_⟩:=(E5 ls _ _).1 hb
  rw [List.append_assoc,List.append_assoc]
  exact aBC h x y p
theorem V0{p:Prog}(hv:bJ p=true){X Y:List Int→List Inst}: ∀{L:List (List Int)} {m:List Int},(∀q∈L,∀x∈X q,cM p x)→(∀q∈L,∀y∈Y q,cM p y)→L.Pairwise (fun a b=> ∀y∈Y a,∀x∈X b,com p y x)→gU p.arrays m→
  cB p m (L.flatMap (fun q=>X q++Y q))=cB p m (L.flatMap X++L.flatMap Y)
 | [],m,_,_,_,_=>rfl
 |q::L,m,h1,h2,h3,hm=>by
  rw [List.pairwise_cons] at h3
  have x1:=fun x hx=>h1 q List.mem_cons_self x hx
  have y1:=fun y hy=>h2 q List.mem_cons_self y hy
  have mx:=nG hv x1 hm
  have my:=nG hv y1 mx
  have hXL: ∀x∈L.flatMap X,cM p x:=fun x hx=>by
   obtain⟨c,hc,hx⟩:=List.mem_flatMap.1 hx
   exact h1 c (List.mem_cons_of_mem _ hc) x hx
  rw [List.flatMap_cons,List.flatMap_cons,List.flatMap_cons,dW,dW,V0 hv (fun c hc=>h1 c (List.mem_cons_of_mem _ hc)) (fun c hc=>h2 c (List.mem_cons_of_mem _ hc)) h3.2 my,dW,dW,dW,dW]
  rw [block hv y1 hXL (fun y hy x hx=>by
   obtain⟨c,hc,hx⟩:=List.mem_flatMap.1 hx
   exact h3.1 c hc y hy x hx) mx]
theorem aIF{α:Type}{A U W Z:List α}{x y:α}(hx:x∈U)(hy:y∈W): ∃s t:Nat,s<t∧(A++(U++(W++Z)))[s]? =some x∧(A++(U++(W++Z)))[t]? =some y:=by
 obtain⟨i,hi⟩:=List.mem_iff_getElem?.1 hx
 obtain⟨j,hj⟩:=List.mem_iff_getElem?.1 hy
 have h1:=(List.getElem?_eq_some_iff.1 hi).1
 have h2:=(List.getElem?_eq_some_iff.1 hj).1
 refine⟨A.length+i,A.length+(U.length+j),by omega,?_,?_⟩
 ·rw [List.getElem?_append_right (by omega),show A.length+i-A.length=i by omega,List.getElem?_append_left h1];exact hi
 ·rw [List.getElem?_append_right (by omega),show A.length+(U.length+j)-A.length=U.length+j by omega,List.getElem?_append_right (by omega),show U.length+j-U.length=j by omega,List.getElem?_append_left h2];exact hj
def w9(p:Prog)(i many:Nat)(ys:List Part):Prog:=⟨p.arrays,p.parts.take i++ys++p.parts.drop (i+many)⟩
theorem Z8{p:Prog}(hp:BG 900 p){i many:Nat}{ys:List Part}(h1:ys.length≤4)(h2: ∀y∈ys,BPt 1000 y):BG 1000 (w9 p i many ys):=by
 have hpl:=hp.2.1
 refine⟨(hp.mono (show 900≤1000 by omega)).1,?_,fun x hx=> ?_⟩
 ·show(p.parts.take i++ys++p.parts.drop (i+many)).length≤1000
  simp only [List.length_append,List.length_take,List.length_drop];omega
 ·have hx:x∈p.parts.take i++ys++p.parts.drop (i+many):=hx
  simp only [List.mem_append] at hx
  rcases hx with (h|h)|h
  ·exact(hp.mono (show 900≤1000 by omega)).2.2 x (List.mem_of_mem_take h)
  ·exact h2 x h
  ·exact(hp.mono (show 900≤1000 by omega)).2.2 x (List.mem_of_mem_drop h)
theorem aFK{n:Nat}(hn:7000≤n){p:Prog}(hp:BG 900 p){i many:Nat}(hi:i+many≤p.parts.length){ys:List Part}(h1:ys.length≤4)(h2: ∀y∈ys,BPt 1000 y):sV n p (i:Int) (many:Int) ys=some (aAx (w9 p i many ys)):=by
 have hpl:=hp.2.1
 have hp':=hp.mono (show 900≤1000 by omega)
 have hq:=Z8 hp (i:=i) (many:=many) h1 h2
 unfold sV aAx
 refine Ev.eq (aA (tR (by omega) hp') (aA (Z2 (by omega) (by omega) (by omega)) ?_))
 rw [Int.toNat_natCast,show(0:Int).toNat=0 from rfl,List.drop_zero]
 refine aA (x:=p.parts.take i) (bU (by simp;omega)) (aA (x:=p.parts.take i++ys) (bU (by simp;omega)) ?_)
 rw [aM (by omega)]
 refine aA (Z2 (by omega) (by omega) (by omega)) ?_
 rw [Int.toNat_natCast,List.take_length,show((i:Int)+(many:Int)).toNat=i+many by omega]
 refine aA (x:=(w9 p i many ys).parts) ?_ ?_
 rotate_left
 show Ev (Option.bind (cV n (w9 p i many ys)) _) _
 refine(aA (eY hn hq.sm) (Ev.cond (fun h=>Ev.some ?_) (fun h=> ?_)))
 ·rw [if_neg (by simpa using h)]
 ·rw [if_pos (by simpa using h)]
  exact aA (tR (by omega) hq) (Ev.some rfl)
 ·rw [bU (by simp;omega)];rfl
def wO(p:Prog)(part:Int)(d:Dep):Bool:=match (insts p.parts)[d.fromF.toNat]?,(insts p.parts)[d.toF.toNat]? with
 |some a,some b=>decide (a.part=part)&&(decide (b.part=part+1)&&pH b.point a.point)
 |_,_=>false
def oE(P1 P2:Part):Part:=⟨P1.nest,P1.body++P2.body⟩
abbrev xT(p:Prog):List Dep:=kP p (insts p.parts) (insts p.parts).length
def aEw(p:Prog)(part:Int)(P1 P2:Part):Bool:=pG P1.nest P2.nest&& !(xT p).any (wO p part)
def uZ(p:Prog)(part:Int):Prog×Bool:=
 if bJ p=true∧isP p part=true then
  (match ix p.parts part,ix p.parts (part+1) with
  |some P1,some P2=>if aEw p part P1 P2=true then aAx (w9 p part.toNat 2 [oE P1 P2]) else noP
  |_,_=>noP)
 else noP
theorem aEA{p:Prog}(hv:bJ p=true){d:Dep}(hd:d∈xT p): ∃(s t:Nat) (a b:Inst),d.fromF=s∧d.toF=t∧(insts p.parts)[s]? =some a∧(insts p.parts)[t]? =some b∧s<t∧a.point.length≤4∧b.point.length≤4:=by
 obtain⟨s,t,h1,h2,_,rfl⟩:=aBA.1 hd
 have g1:=List.getElem?_eq_getElem (show s<(insts p.parts).length by omega)
 have g2:=List.getElem?_eq_getElem h2
 exact⟨s,t,_,_,rfl,rfl,g1,g2,h1,inst_pl hv (insts_mem (List.mem_of_getElem? g1)),inst_pl hv (insts_mem (List.mem_of_getElem? g2))⟩
theorem X2{p:Prog}(hv:bJ p=true):(xT p).length≤14400:=by
 have h1:=uK p (insts p.parts) (insts p.parts).length
 have h2:=(fJ hv).2.2.2.2
 have h3:(insts p.parts).length*(insts p.parts).length≤120*120:=Nat.mul_le_mul h2 h2
 exact Nat.le_trans h1 h3
theorem aFo{n:Nat}(hn:7000≤n){p:Prog}(hp:BG 1000 p)(part:Int):rD n p part (-1)=some (if bJ p=true∧isP p part=true then(p,true) else noP):=by
 unfold rD
 refine Ev.eq (Ev.jn (fun z=>z= !(bJ p&&isP p part)) (fun j hj=> ?_) (fun z hz=> ?_))
 ·refine aA (fE hn hp.sm) (Ev.cond (fun h=>hj _ (by rw [aAd h];rfl)) (fun h=> ?_))
  have hv:=aAe h
  refine aA (aE7 n hp.2.1 part) (Ev.cond (fun h2=>hj _ ?_) (fun h2=>dG (fun h=>(h rfl).elim) (fun _=>hj _ ?_)))
  ·rw [hv,show isP p part=false from aAd h2];rfl
  ·rw [hv,show isP p part=true from aAe h2];rfl
 ·subst hz
  refine Ev.cond (fun h=>Ev.some ?_) (fun h=> ?_)
  ·have:=aAd h
   rw [if_neg (fun hc=>by rw [hc.1,hc.2] at this;cases this)];rfl
  ·have:=aAe h
   simp only [Bool.and_eq_true] at this
   obtain⟨hv,hi⟩:=this
   rw [if_pos ⟨hv,hi⟩]
   have hi':0≤part∧part<(p.parts.length:Int):=of_decide_eq_true hi
   obtain⟨x,hx,_⟩:=kJ hi'.1 hi'.2
   exact aA (aGq (by omega) hv) (aA hx (Ev.some rfl))
theorem aIO{n:Nat}{s:List Part}{i j:Nat}(h1:i<j)(h2:j≤s.length): ∃r,jD n s (i:Int) (j:Int)=some r∧r.2.take r.1=s.take i++s.drop j:=by
 refine⟨(gW s i j,tQ s i j (⟨[],[]⟩:Part)),?_,?_⟩
 ·unfold jD
  rw [decide_eq_true (show(0:Int)≤(i:Int) by omega),decide_eq_true (show(i:Int)≤(j:Int) by omega),decide_eq_true (show(j:Int)≤(s.length:Int) by omega),decide_eq_false (show¬(i:Int)=(j:Int) by omega)];rfl
 ·dsimp only
  have hm:(s.take (i:Int).toNat++s.drop (j:Int).toNat).length=gW s i j:=by
   unfold gW
   simp only [List.length_append,List.length_take,List.length_drop];omega
  unfold tQ
  rw [List.take_append_of_le_length (by rw [hm];exact Nat.le_refl _),List.take_of_length_le (l:=s.take (i:Int).toNat++s.drop (j:Int).toNat) (by rw [hm];exact Nat.le_refl _),Int.toNat_natCast,Int.toNat_natCast]
theorem M3{p:Prog}(hv:bJ p=true){P1 P2:Part}(h1:P1∈p.parts)(h2:P2∈p.parts):BPt 1000 (oE P1 P2):=by
 obtain⟨_,_,h3⟩:=X7 hv
 obtain⟨a1,a2,a3⟩:=h3 P1 h1
 obtain⟨b1,b2,b3⟩:=h3 P2 h2
 refine⟨a1.mono (by omega),?_,fun s hs=> ?_⟩
 ·show(P1.body++P2.body).length≤1000
  rw [List.length_append];omega
 ·rcases List.mem_append.1 (show s∈P1.body++P2.body from hs) with h|h
  ·exact(a3 s h).mono (by omega)
  ·exact(b3 s h).mono (by omega)
theorem aFe{n:Nat}(hn:20000≤n){p:Prog}(hp:BG 1000 p){part:Int}(hb: -1≤part∧part≤9):mH n p part=some (uZ p part):=by
 unfold mH uZ
 refine Ev.eq (aA (aFo (by omega) hp part) ?_)
 by_cases hc:bJ p=true∧isP p part=true
 ·rw [if_pos hc,if_pos hc]
  obtain⟨hv,hi⟩:=hc
  have hi':0≤part∧part<(p.parts.length:Int):=of_decide_eq_true hi
  obtain⟨i,rfl⟩: ∃i:Nat,part=i:=⟨part.toNat,by omega⟩
  have e1':=List.getElem?_eq_getElem (show i<p.parts.length by omega)
  have e1:=aO e1'
  generalize hP1:p.parts[i]=P1 at e1 e1'
  have hpl:=(fJ hv).2.2.1
  refine bW (aA e1 ?_)
  rw [aM (n:=(i:Int)+1) (by omega),aM (n:=(i:Int)+2) (by omega),e1]
  by_cases h2:i+1<p.parts.length
  ·have e2':=List.getElem?_eq_getElem h2
   generalize hP2:p.parts[i+1]=P2 at e2'
   have e2:ix p.parts ((i:Int)+1)=some P2:=aO e2'
   have m1:=List.mem_of_getElem? e1'
   have m2:=List.mem_of_getElem? e2'
   rw [e2]
   dsimp only
   refine Ev.jn (fun z=>z= !pG P1.nest P2.nest) (fun j hj=>aG (fun h=>absurd h (by omega)) (fun _=>aA rfl (aA (R6 (by omega) (hp.sm.2.2 P1 m1).1) (hj _ rfl)))) (fun z hz=> ?_)
   subst hz
   unfold aEw
   cases hne:pG P1.nest P2.nest with
   |false=>exact bW (Ev.some rfl)
   |true=>
    refine bZ (aA (aDc (by omega) hp.sm) ?_)
    rw [if_pos hv]
    refine bW (aA (aFc (by omega) hv) ?_)
    have hDl:=X2 hv
    have hDm: ∀d∈xT p,d∈xT p:=fun _ h=>h
    show Ev (aL _ n 0) _
    rw [Bool.true_and]
    generalize hD:xT p=D at hDl hDm
    rw [show kP p (insts p.parts) (insts p.parts).length=D from hD]
    refine Ev.loop (fun x:Int=> ∃k:Nat,x=k∧k≤D.length∧(D.take k).any (wO p (i:Int))=false) (fun x=>D.length-x.toNat) ?_ n 0 ⟨0,rfl,by omega,rfl⟩ (by omega)
    rintro again x ⟨k,rfl,hk,hs⟩ hr
    refine aG (fun hlt=> ?_) (fun hge=> ?_)
    ·have hd:=List.getElem?_eq_getElem (show k<D.length by omega)
     generalize hdk:D[k]=d at hd
     obtain⟨s,t,a,b,f1,f2,g1,g2,hst,la,lb⟩:=aEA hv (hD▸List.mem_of_getElem? hd)
     refine aA (aO hd) (aA (x:=a) (by rw [f1];exact aO g1) (aA (x:=b) (by rw [f2];exact aO g2) ?_))
     have hbad:wO p (i:Int) d=(decide (a.part=(i:Int))&&(decide (b.part=(i:Int)+1)&&pH b.point a.point)):=by
      unfold wO;rw [f1,f2,Int.toNat_natCast,Int.toNat_natCast,g1,g2]
     refine Ev.jn (fun z=>z=wO p (i:Int) d) (fun j hj=> ?_) (fun z hz=> ?_)
     ·rw [hbad] at hj
      refine aG (fun h1=>aG (fun h2=>aA (aGH (by omega) (by omega) (by omega)) (hj _ ?_)) (fun h2=>hj _ ?_)) (fun h1=>hj _ ?_)
      ·rw [decide_eq_true h1,decide_eq_true h2];rfl
      ·rw [decide_eq_true h1,decide_eq_false h2];rfl
      ·rw [decide_eq_false h1];rfl
     ·subst hz
      refine Ev.cond (fun h=>Ev.some ?_) (fun h=> ?_)
      ·rw [if_neg]; · rfl
       have:D.any (wO p (i:Int))=true:=List.any_eq_true.2 ⟨d,List.mem_of_getElem? hd,h⟩
       rw [this];simp
      ·rw [aM (by omega)]
       exact hr _ ⟨k+1,by omega,by omega,by rw [jQ hd,List.any_append,hs];simp [h]⟩ (by omega)
    ·rw [List.take_of_length_le (by omega)] at hs
     rw [hs,if_pos (by rfl)]
     have hq:=Z8 (i:=i) (many:=2) (ys:=[oE P1 P2]) ((X7 hv).mono (show 4≤900 by omega)) (by simp) (fun y hy=>by rw [List.mem_singleton] at hy;subst hy;exact M3 hv m1 m2)
     obtain⟨_,_,h3⟩:=X7 hv
     have b1:=(h3 P1 m1).2.1
     have b2:=(h3 P2 m2).2.1
     obtain⟨r,hr1,hr2⟩:=aIO (n:=n) (s:=p.parts.set i (oE P1 P2)) (i:=i+1) (j:=i+2) (by omega) (by rw [List.length_set];omega)
     refine aA rfl (aA (x:=P1.body++P2.body) (bU (by omega)) (aA (x:=p.parts.set i (oE P1 P2)) (lX (by omega) _) (aA (x:=r) hr1 ?_)))
     have hpp:(⟨p.arrays,r.2.take r.1⟩:Prog)=w9 p i 2 [oE P1 P2]:=by
      unfold w9
      rw [hr2]
      congr 1
      rw [List.take_set,List.drop_set_of_lt (by omega),List.take_add_one,e1',List.set_append_right _ _ (by rw [List.length_take];omega)]
      have:i-(p.parts.take i).length=0:=by rw [List.length_take];omega
      rw [this];rfl
     rw [hpp,Int.toNat_natCast]
     exact aA (aBN (by omega) hq) (Ev.some rfl)
  ·have e2:ix p.parts ((i:Int)+1)=none:=aI9 (by omega)
   rw [e2]
   refine Ev.jn (fun z=>z=true) (fun j hj=>aG (fun _=>hj _ rfl) (fun h=>absurd (show(p.parts.length:Int)≤(i:Int)+1 by omega) h)) (fun z hz=> ?_)
   rw [hz]
   exact bW (Ev.some rfl)
 ·rw [if_neg hc,if_neg hc]
  exact bZ (Ev.some rfl)
theorem aEW{n:Nat}(hn:20000≤n){p:Prog}(hp:BG 1000 p){part:Int}(hb: -1≤part∧part≤9):mB n p part=some (uZ p part):=by
 unfold mB uZ
 refine Ev.eq (aA (aC1 (by omega) hp) ?_)
 by_cases hc:bJ p=true∧isP p part=true
 ·rw [if_pos hc]
  obtain⟨hv,hi⟩:=hc
  have hi':0≤part∧part<(p.parts.length:Int):=of_decide_eq_true hi
  obtain⟨i,rfl⟩: ∃i:Nat,part=i:=⟨part.toNat,by omega⟩
  have e1':=List.getElem?_eq_getElem (show i<p.parts.length by omega)
  have e1:=aO e1'
  generalize hP1:p.parts[i]=P1 at e1 e1'
  have hpl:=(fJ hv).2.2.1
  rw [aM (n:=(i:Int)+1) (by omega),aM (n:=(p.parts.length:Int)-1) (by omega),e1]
  by_cases h2:i+1<p.parts.length
  ·have e2':=List.getElem?_eq_getElem h2
   generalize hP2:p.parts[i+1]=P2 at e2'
   have e2:ix p.parts ((i:Int)+1)=some P2:=aO e2'
   have m1:=List.mem_of_getElem? e1'
   have m2:=List.mem_of_getElem? e2'
   rw [e2]
   dsimp only
   refine Ev.jn (fun z=>z= !pG P1.nest P2.nest) (fun j hj=>aA (eY (by omega) hp.sm) ?_) (fun z hz=> ?_)
   ·rw [hv]
    refine bZ (aG (fun h=>absurd h (by omega)) (fun _=>aG (fun h=>absurd h (by omega)) (fun _=>aA rfl (aA rfl (aA (R2 (by omega) (hp.sm.2.2 P1 m1).1) (hj _ rfl))))))
   ·subst hz
    unfold aEw
    cases hne:pG P1.nest P2.nest with
    |false=>exact bW (Ev.some rfl)
    |true=>
     refine bZ (aA (tG (by omega) hv) (aA (aEU (by omega) hv) ?_))
     have hDl:=X2 hv
     rw [Bool.true_and]
     generalize hD:xT p=D at hDl
     rw [show kP p (insts p.parts) (insts p.parts).length=D from hD]
     refine Ev.loop (fun x:Int=> ∃k:Nat,x=k∧k≤D.length∧(D.take k).any (wO p (i:Int))=false) (fun x=>D.length-x.toNat) ?_ n 0 ⟨0,rfl,by omega,rfl⟩ (by omega)
     rintro again x ⟨k,rfl,hk,hs⟩ hr
     refine aG (fun hlt=> ?_) (fun hge=> ?_)
     ·have hd:=List.getElem?_eq_getElem (show k<D.length by omega)
      generalize hdk:D[k]=d at hd
      obtain⟨s,t,a,b,f1,f2,g1,g2,hst,la,lb⟩:=aEA hv (hD▸List.mem_of_getElem? hd)
      refine aA (aO hd) (aA (x:=a) (by rw [f1];exact aO g1) (aA (x:=b) (by rw [f2];exact aO g2) ?_))
      have hbad:wO p (i:Int) d=(decide (a.part=(i:Int))&&(decide (b.part=(i:Int)+1)&&pH b.point a.point)):=by
       unfold wO;rw [f1,f2,Int.toNat_natCast,Int.toNat_natCast,g1,g2]
      refine Ev.jn (fun z=>z=wO p (i:Int) d) (fun j hj=> ?_) (fun z hz=> ?_)
      ·rw [hbad] at hj
       refine aG (fun h1=>aG (fun h2=>aA (aGe (by omega) (by omega) (by omega)) (hj _ ?_)) (fun h2=>hj _ ?_)) (fun h1=>hj _ ?_)
       ·rw [decide_eq_true h1,decide_eq_true h2];rfl
       ·rw [decide_eq_true h1,decide_eq_false h2];rfl
       ·rw [decide_eq_false h1];rfl
      ·subst hz
       refine Ev.cond (fun h=>Ev.some ?_) (fun h=> ?_)
       ·rw [if_neg]; · rfl
        have:D.any (wO p (i:Int))=true:=List.any_eq_true.2 ⟨d,List.mem_of_getElem? hd,h⟩
        rw [this];simp
       ·rw [aM (by omega)]
        exact hr _ ⟨k+1,by omega,by omega,by rw [jQ hd,List.any_append,hs];simp [h]⟩ (by omega)
     ·rw [List.take_of_length_le (by omega)] at hs
      rw [hs,if_pos (by rfl)]
      obtain⟨_,_,h3⟩:=X7 hv
      have b1:=(h3 P1 m1).2.1
      have b2:=(h3 P2 m2).2.1
      refine aA rfl (aA (x:=P1.body) (bU (by simp;omega)) (aA rfl (aA (x:=P1.body++P2.body) (bU (by omega)) ?_)))
      have hw:=aFK (n:=n) (by omega) ((X7 hv).mono (show 4≤900 by omega)) (i:=i) (many:=2) (by omega) (ys:=[oE P1 P2]) (by simp) (fun y hy=>by rw [List.mem_singleton] at hy;subst hy;exact M3 hv m1 m2)
      rw [Int.toNat_natCast]
      exact aA hw (Ev.some rfl)
  ·have e2:ix p.parts ((i:Int)+1)=none:=aI9 (by omega)
   rw [e2]
   refine Ev.jn (fun z=>z=true) (fun j hj=>aA (eY (by omega) hp.sm) ?_) (fun z hz=> ?_)
   ·rw [hv]
    exact bZ (aG (fun h=>absurd h (by omega)) (fun _=>aG (fun _=>hj _ rfl) (fun h=>absurd (show(p.parts.length:Int)-1≤(i:Int) by omega) h)))
   ·rw [hz]
    exact bW (Ev.some rfl)
 ·rw [if_neg hc]
  refine Ev.jn (fun z=>z=true) (fun j hj=>aA (eY (by omega) hp.sm) ?_) (fun z hz=>by rw [hz];exact bW (Ev.some rfl))
  by_cases hv:bJ p=true
  ·have hi: ¬(0≤part∧part<(p.parts.length:Int)):=fun h=>hc ⟨hv,decide_eq_true h⟩
   rw [hv]
   have hpl:=hp.2.1
   rw [aM (n:=(p.parts.length:Int)-1) (by omega)]
   exact bZ (aG (fun _=>hj _ rfl) (fun h=>aG (fun _=>hj _ rfl) (fun h2=>absurd (show(p.parts.length:Int)-1≤part by omega) h2)))
  ·rw [show bJ p=false by simpa using hv]
   exact bW (hj _ rfl)
end Go.Lift
