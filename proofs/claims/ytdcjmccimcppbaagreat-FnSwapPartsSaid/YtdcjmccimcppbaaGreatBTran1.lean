/- Two programs that do the same. -/
import Derived.Test.YtdcjmccimcppbaaGreatBRun1
import Derived.Test.YtdcjmccimcppbaaGreatBDraw1
import Derived.Test.YtdcjmccimcppbaaGreatBDrawD
set_option maxRecDepth 100000
set_option linter.unusedVariables false
namespace Go.Lift
open Go
theorem aHT{n:Nat}(hn:7100≤n){p:Prog}(hp:SmP p)(hv:bI p=true):kK n p=some (eQ p.arrays):=by
 refine Ev.eq ?_
 obtain⟨hl,hd,_⟩:=gS hv
 unfold kK
 refine aA (oL (by omega) hp) ?_
 rw [hv]
 exact bW (aA (qX (by omega) hl hd) (Ev.some rfl))
theorem X5{α:Type}{n:Int}(h:0≤n∧n≤1000000000)(x:α):mk n x=some (List.replicate n.toNat x):=by unfold mk;rw [if_pos h]
theorem aFZ{R:Type}{Q:R→Prop}{n:Nat}(hn:5000≤n){T:Nat}(hT:T≤1000){e:Int→Int}(he: ∀i,0≤i→i<(T:Int)→0≤e i∧e i≤999){K:List Int→Option R}(hK: ∀m,m.length=T→(∀x∈m,0≤x∧x≤999)→Ev (K m) Q):
  Ev (aL (fun again (z:(List Int)×Int)=>bif decide (z.2<(z.1.length:Int)) then(Option.bind (ix z.1 z.2) fun _=>Option.bind (f0 z.1 z.2 (e z.2)) fun y=>again (y,wr (z.2+1))) else(K z.1)) n (List.replicate T 0,0)) Q:=by
 refine Ev.loop (fun z:List Int×Int=>0≤z.2∧z.2≤T∧z.1.length=T∧ ∀x∈z.1,0≤x∧x≤999) (fun z=>T-z.2.toNat) ?_ n _ ⟨Int.le_refl _,by dsimp only;omega,List.length_replicate,fun x hx=>by rw [(List.mem_replicate.1 hx).2];omega⟩ (by dsimp only;omega)
 rintro again ⟨x,i⟩ ⟨h0,h1,h2,h3⟩ hr
 dsimp only at h0 h1 h2 h3⊢
 refine aG (fun hlt=> ?_) (fun hge=>hK _ h2 h3)
 refine aA (aFL h0 (by omega)) (aA (sE h0 (by omega) _) ?_)
 rw [aM (by omega)]
 exact hr _ ⟨by dsimp only;omega,by dsimp only;omega,by dsimp only;rw [List.length_set,h2],fun y hy=>by
  rcases List.mem_or_eq_of_mem_set hy with hy|rfl
  ·exact h3 y hy
  ·exact he i h0 (by omega)⟩ (by dsimp only;omega)
theorem aJF{x:Int}(h:0≤x):0≤Int.tmod x 1000∧Int.tmod x 1000≤999:=by
 have h1:=Int.tmod_nonneg 1000 h
 have h2:=Int.tmod_lt_of_pos x (show(0:Int)<1000 by omega)
 omega
theorem aAH{p:Prog}(hv:bI p=true):0≤eQ p.arrays∧eQ p.arrays≤144:=by
 obtain⟨hl,hd,_⟩:=gS hv
 have:=aDn hd
 omega
theorem aH7{p:Prog}{m:List Int}(hv:bI p=true)(hm:iB p.arrays m):aHo p m=(cH p m (insts p.parts),true):=by
 unfold aHo;rw [aHD hv hm];rfl
theorem aGF{p q:Prog}(hp:SmP p)(hq:SmP q)(hv:bI p=true)(hw:bI q=true)(ha:q.arrays=p.arrays)(h: ∀m,iB p.arrays m→cH q m (insts q.parts)=cH p m (insts p.parts)){s:Int}(hs:0≤s∧s≤1048576):pB N p q s=some true:=by
 have hN:N=100000:=rfl
 have ht:=aAH hv
 refine Ev.eq ?_
 unfold pB
 refine aA (aHT (by omega) hp hv) (aA (X5 ⟨by omega,by omega⟩ 0) (aFZ (n:=N) (T:=(eQ p.arrays).toNat) (e:=fun i=>Int.tmod (wr ((wr ((wr (i*41))+(wr (s*17))))+3)) 1000) (K:=fun x3=>Option.bind (eZ N p x3) fun x9=>Option.bind (eZ N q x3) fun x10=>jn (fun(x13:Bool)=>some x13) (fun j11=>bif x9.2 then(bif x10.2 then(Option.bind (pA N x9.1 x10.1) fun x12=>j11 x12) else(j11 false)) else(j11 false))) (by omega) (by omega) (fun i h0 h1=> ?_) (fun m h1 h2=> ?_)))
 ·rw [aM (n:=i*41) (by omega),aM (n:=s*17) (by omega),aM (n:=i*41+s*17) (by omega),aM (by omega)]
  exact aJF (by omega)
 ·have hmo:iB p.arrays m:=⟨by omega,h2⟩
  have hmq:iB q.arrays m:=by rw [ha];exact hmo
  have hml:=aDB hv hmo
  refine aA (rN (by omega) hp hml) (aA (rN (by omega) hq hml) ?_)
  rw [aH7 hv hmo,aH7 hw hmq,h m hmo]
  have hok: ∀x∈insts p.parts,dW p x:=fun x hx=>insts_mem hx
  refine Ev.jn (fun z=>z=true) (fun j hj=>bQ (bQ (aA (aAY (by omega) (aDB hv (tV hv hok hmo))) (hj _ rfl)))) (fun z hz=>Ev.some hz)
theorem H5{α β R:Type}{l:List α}{F:α→(β→Option R)→Option R}{g:α→β}{K:List β→Option R}{Q:R→Prop}{n:Nat}(hF: ∀x∈l,∀k:β→Option R,Ev (k (g x)) Q→Ev (F x k) Q)
  {s:Nat} (hs:s≤l.length) {pre:List β} (hp:pre.length≤1000) (hl:l.length≤1000) (hn:5000≤n) (hK:Ev (K (pre++(l.drop s).map g)) Q):
  Ev (aL (fun again ((x,i):List β×Int)=>bif decide (i<(l.length:Int)) then(Option.bind (ix l i) fun y=>F y (fun z=>Option.bind (app x [z]) fun w=>again (w,wr (i+1)))) else K x) n (pre,(s:Int))) Q:=by
 refine Ev.loop (fun z:List β×Int=> ∃i:Nat,z.2=i∧s≤i∧i≤l.length∧z.1=pre++((l.drop s).take (i-s)).map g) (fun z=>l.length-z.2.toNat) ?_ n _ ⟨s,rfl,by omega,by omega,by simp⟩ (by dsimp only;omega)
 rintro again ⟨x,z⟩ ⟨i,hz,hsi,hi,hx⟩ hr
 dsimp only at hz hx⊢
 subst hz
 refine aG (fun hlt=> ?_) (fun hge=> ?_)
 ·have hg:=List.getElem?_eq_getElem (show i<l.length by omega)
  have hxl:x.length≤2000:=by rw [hx,List.length_append,List.length_map,List.length_take,List.length_drop];omega
  refine aA (aO hg) (hF _ (List.mem_of_getElem? hg) _ (aA (bX (by simp;omega)) ?_))
  rw [aM (by omega)]
  refine hr _ ⟨i+1,by dsimp only;omega,by omega,by omega,?_⟩ (by dsimp only;omega)
  dsimp only
  rw [show i+1-s=(i-s)+1 by omega,List.take_add_one,List.getElem?_drop,show s+(i-s)=i by omega,hg,hx,List.map_append,List.append_assoc];rfl
 ·have:i=l.length:=by omega
  subst this
  rw [hx,List.take_of_length_le (by rw [List.length_drop];omega)];exact hK
theorem wU{α β R:Type}{l:List α}{f:α→Option β}{g:α→β}{K:List β→Option R}{Q:R→Prop}{n:Nat}(hf: ∀x∈l,f x=some (g x))(hl:l.length≤1000)(hn:5000≤n)(hK:Ev (K (l.map g)) Q):
  Ev (aL (fun again ((x,i):List β×Int)=>bif decide (i<(l.length:Int)) then(Option.bind (ix l i) fun y=>Option.bind (f y) fun z=>Option.bind (app x [z]) fun w=>again (w,wr (i+1))) else K x) n ([],0)) Q:=
 H5 (F:=fun y k=>Option.bind (f y) k) (g:=g) (s:=0) (pre:=[]) (fun x hx k hk=>aA (hf x hx) hk) (by omega) (by simp) hl hn (by simpa using hK)
def yN(f:Affine→Affine)(a:Access):Access:=⟨a.array,a.subs.map f⟩
def aFG(f:Affine→Affine):Nat→Expr→Expr
 |0,e=>e
 |L+1,e=>⟨e.kind,e.num,if e.kind=2 then f e.index else⟨[],0⟩,if e.kind=3 then yN f e.read else⟨[],[]⟩,e.kids.map (aFG f L)⟩
def aIR(f:Affine→Affine)(s:Stmt):Stmt:=⟨yN f s.write,aFG f 5 s.value⟩
theorem W6{e:Expr}{d:Int}(h:fR e d=true)(hk:e.kind=2):dB e.index=true∧mJ e.read=true:=by
 unfold fR bU at h
 rw [if_pos hk] at h
 simp only [Bool.and_eq_true] at h
 exact⟨h.2.2.1,h.2.1⟩
theorem W5{e:Expr}{d:Int}(h:fR e d=true)(hk:e.kind=3):iA e.read d=true∧iU e.index=true:=by
 unfold fR at h
 rw [if_neg (by omega),if_pos hk] at h
 simp only [Bool.and_eq_true] at h
 exact⟨h.2.2,h.2.1⟩
theorem aCe{e:Expr}{d:Int}(h:fR e d=true)(h2: ¬e.kind=2)(h3: ¬e.kind=3):iU e.index=true∧mJ e.read=true:=by
 unfold fR at h
 rw [if_neg h2,if_neg h3] at h
 split at h<;>simp only [Bool.and_eq_true] at h<;>exact⟨h.2.1,h.2.2⟩
theorem wQ{a:Affine}(h:iU a=true):a=⟨[],0⟩:=by
 obtain⟨c,k⟩:=a
 simp only [iU,Bool.and_eq_true,decide_eq_true_eq] at h
 obtain⟨h1,rfl⟩:=h
 rw [List.eq_nil_of_length_eq_zero h1]
theorem wR{a:Access}(h:mJ a=true):a=⟨[],[]⟩:=by
 obtain⟨c,k⟩:=a
 simp only [mJ,Bool.and_eq_true,decide_eq_true_eq] at h
 obtain⟨rfl,h1⟩:=h
 rw [List.eq_nil_of_length_eq_zero h1]
theorem tB{n:Nat}(hn:5000≤n){a:Access}{d:Int}(ha:iA a d=true){F:Affine→Option Affine}{f:Affine→Affine}(hF: ∀x,dB x=true→F x=some (f x)):jO n a F=some (yN f a):=by
 obtain⟨h1,h2,h3⟩:=N6 ha
 refine Ev.eq ?_
 unfold jO
 exact wU (K:=fun x1=>some (⟨a.array,x1⟩:Access)) (fun x hx=>hF x (h3 x hx)) (by omega) hn (Ev.some rfl)
theorem w6{d:Int}{F:Affine→Option Affine}{f:Affine→Affine}(hF: ∀x,dB x=true→F x=some (f x)): ∀(L n:Nat) (e:Expr),5000+L≤n→dH L e d=true→i_exprMap (n+1) e F=some (aFG f L e)
 |0,_,_,_,h=>by cases h
 |L+1,n,e,hn,h=>by
  obtain⟨hk,ho,hs⟩:=iY h
  obtain⟨n,rfl⟩: ∃j,n=j+1:=⟨n-1,by omega⟩
  have hkl:e.kids.length≤2:=by have:=pP e.kind;omega
  unfold i_exprMap
  refine Ev.eq (Ev.jn (fun z=>(⟨z.1,z.2.1⟩:Affine)=(if e.kind=2 then f e.index else⟨[],0⟩)∧(⟨z.2.2.1,z.2.2.2⟩:Access)=(if e.kind=3 then yN f e.read else⟨[],[]⟩)) (fun j hj=> ?_) (fun z hz=> ?_))
  ·refine aG (fun h2=> ?_) (fun h2=>aG (fun h3=> ?_) (fun h3=> ?_))
   ·exact aA (hF _ (W6 ho h2).1) (hj _ ⟨by rw [if_pos h2],by rw [if_neg (by omega)]⟩)
   ·exact aA (tB (by omega) (W5 ho h3).1 hF) (hj _ ⟨by rw [if_neg h2],by rw [if_pos h3]⟩)
   ·exact hj _ ⟨by rw [if_neg h2],by rw [if_neg h3]⟩
  ·obtain⟨x4,x5,x6,x7⟩:=z
   obtain⟨z1,z2⟩:=hz
   dsimp only at z1 z2⊢
   refine wU (K:=fun x8=>some (⟨e.kind,e.num,(⟨x4,x5⟩:Affine),(⟨x6,x7⟩:Access),x8⟩:Expr)) (fun x hx=>w6 hF L n x (by omega) (hs x hx)) (by omega) (by omega) (Ev.some ?_)
   rw [z1,z2];rfl
theorem Y2{n:Nat}(hn:6000≤n){s:Stmt}{d:Int}(hs:gN s d=true){F:Affine→Option Affine}{f:Affine→Affine}(hF: ∀x,dB x=true→F x=some (f x)):pT n s F=some (aIR f s):=by
 obtain⟨h1,h2,_⟩:=o0 hs
 obtain⟨n,rfl⟩: ∃j,n=j+1:=⟨n-1,by omega⟩
 unfold pT
 rw [tB (by omega) h1 hF,w6 hF 5 n s.value (by omega) h2];rfl
theorem H4{α:Type}{f:α→α}: ∀{l:List α},(∀x∈l,f x=x)→l.map f=l
 | [],_=>rfl
 |x::l,h=>by rw [List.map_cons,h x List.mem_cons_self,H4 (fun y hy=>h y (List.mem_cons_of_mem _ hy))]
theorem S0{f:Affine→Affine}{a:Access}{d:Int}(ha:iA a d=true)(hf: ∀x,dB x=true→f x=x):yN f a=a:=by
 obtain⟨h1,h2,h3⟩:=N6 ha
 unfold yN
 rw [H4 (fun x hx=>hf x (h3 x hx))]
theorem aDC{d:Int}{f:Affine→Affine}(hf: ∀x,dB x=true→f x=x): ∀{L:Nat} {e:Expr},dH L e d=true→aFG f L e=e
 |0,_,_=>rfl
 |L+1,e,h=>by
  obtain⟨hk,ho,hs⟩:=iY h
  obtain⟨kind,num,index,read,kids⟩:=e
  unfold aFG
  dsimp only at hk ho hs⊢
  rw [H4 (fun x hx=>aDC hf (hs x hx))]
  by_cases h2:kind=2
  ·have e1:=W6 ho h2
   dsimp only at e1
   rw [if_pos h2,if_neg (by omega),hf _ e1.1,wR e1.2]
  ·by_cases h3:kind=3
   ·have e1:=W5 ho h3
    dsimp only at e1
    rw [if_neg h2,if_pos h3,S0 e1.1 hf,wQ e1.2]
   ·have e1:=aCe ho h2 h3
    dsimp only at e1
    rw [if_neg h2,if_neg h3,wQ e1.1,wR e1.2]
theorem aHE{f:Affine→Affine}(hf: ∀x,dB x=true→f x=x){s:Stmt}{d:Int}(hs:gN s d=true):aIR f s=s:=by
 obtain⟨h1,h2,_⟩:=o0 hs
 unfold aIR
 rw [S0 h1 hf,aDC hf h2]
def aIS(l:Loop):Prop:=(l.lo.length≤2∧ ∀x∈l.lo,dB x=true)∧l.hi.length≤2∧ ∀x∈l.hi,dB x=true
theorem aI4{nest:List Loop}(h:Fit nest): ∀l∈nest,aIS l:=fun l hl=>by
 obtain⟨i,hi⟩:=List.mem_iff_getElem?.1 hl
 have:=h.2 i l hi
 exact⟨(sD this.1).2,(sD this.2).2⟩
theorem aDv{list:List Arr}{x:Part}(h:cW list x=true):x.nest.length≤4∧ ∀l∈x.nest,aIS l:=by
 have:=(aEG (pO h).1).1
 exact⟨this.1,aI4 this⟩
theorem aIi{a:Affine}(h:dB a=true):BA 4 a:=by have:=(rK h).1;unfold BA;omega
theorem aAi{l:List Affine}(h1:l.length≤2)(h2: ∀x∈l,dB x=true):BAs 4 l:=⟨by omega,fun a ha=>aIi (h2 a ha)⟩
theorem aIh{d:Int}: ∀{L:Nat} {e:Expr},dH L e d=true→BE 4 L e
 |0,_,h=>by cases h
 |L+1,e,h=>by
  obtain⟨hk,ho,hs⟩:=iY h
  have:=pP e.kind
  refine⟨by omega,?_,?_,fun k hk=>aIh (hs k hk)⟩
  ·by_cases h2:e.kind=2
   ·exact aIi (W6 ho h2).1
   ·by_cases h3:e.kind=3
    ·rw [wQ (W5 ho h3).2];unfold BA;simp
    ·rw [wQ (aCe ho h2 h3).1];unfold BA;simp
  ·by_cases h3:e.kind=3
   ·have:=N6 (W5 ho h3).1
    exact aAi this.2.1 this.2.2
   ·by_cases h2:e.kind=2
    ·rw [wR (W6 ho h2).2];exact⟨by simp,fun x hx=>by cases hx⟩
    ·rw [wR (aCe ho h2 h3).2];exact⟨by simp,fun x hx=>by cases hx⟩
theorem aJ0{s:Stmt}{d:Int}(hs:gN s d=true):BS 4 s:=by
 obtain⟨h1,h2,_⟩:=o0 hs
 have:=N6 h1
 exact⟨aAi this.2.1 this.2.2,aIh h2⟩
theorem aJc{list:List Arr}{x:Part}(h:cW list x=true):BPt 4 x:=by
 obtain⟨h1,h2⟩:=aDv h
 obtain⟨_,h4,h5,_⟩:=pO h
 exact⟨⟨h1,fun l hl=>⟨aAi (h2 l hl).1.1 (h2 l hl).1.2,aAi (h2 l hl).2.1 (h2 l hl).2.2⟩⟩,h4.2,fun s hs=>aJ0 (h5 s hs)⟩
theorem aIg{l:List Arr}(h1:l.length≤4)(h2:fA l):BR 4 l:=⟨h1,fun x hx=>by
 have:=h2 x hx
 simp only [iQ,Bool.and_eq_true,decide_eq_true_eq] at this
 omega⟩
theorem aJ1{p:Prog}(h:bI p=true):BG 4 p:=by
 obtain⟨h1,h2,h3,h4,_⟩:=gS h
 exact⟨aIg h1 h2,h3,fun x hx=>aJc (h4 x hx)⟩
theorem aEb(n:Nat){a:Affine}(h:a.coefs.length≤1000):eY n a=some a:=by
 unfold eY m_ownClone
 rw [if_pos (by omega)];rfl
theorem R0(n:Nat): ∀x,dB x=true→eY n x=some x:=fun x hx=>aEb n (by have:=(rK hx).1;omega)
theorem G1{n:Nat}(hn:5000≤n){l:List Affine}(h1:l.length≤2)(h2: ∀x∈l,dB x=true):eX n l=some l:=by
 unfold eX
 refine Ev.eq (wU (g:=fun x=>x) (K:=fun x1=>some x1) (fun x hx=>R0 n x (h2 x hx)) (by omega) hn (Ev.some ?_))
 simp
theorem aCf{n:Nat}(hn:5000≤n){nest:List Loop}(h1:nest.length≤4)(h2: ∀l∈nest,aIS l):pV n nest=some nest:=by
 unfold pV
 refine Ev.eq ?_
 refine H5 (β:=Loop) (l:=nest) (n:=n) (F:=fun x5 k=>Option.bind (eX n x5.lo) fun x6=>Option.bind (eX n x5.hi) fun x7=>k (⟨x6,x7⟩:Loop)) (g:=fun x=>x) (s:=0) (pre:=[]) (K:=fun x1=>some x1) ?_ (by omega) (by simp) (by omega) hn (Ev.some (by simp))
 exact fun x hx k hk=>aA (G1 hn (h2 x hx).1.1 (h2 x hx).1.2) (aA (G1 hn (h2 x hx).2.1 (h2 x hx).2.2) hk)
theorem aCc{n:Nat}(hn:6000≤n){s:Stmt}{d:Int}(hs:gN s d=true):pU n s=some s:=by
 unfold pU
 rw [Y2 hn hs (F:=fun q0=>eY n q0) (f:=fun x=>x) (R0 n),aHE (fun _ _=>rfl) hs];rfl
theorem aCd{n:Nat}(hn:6000≤n){list:List Arr}{x:Part}(h:cW list x=true):m7 n x=some x:=by
 obtain⟨h1,h2⟩:=aDv h
 obtain⟨_,h4,h5,_⟩:=pO h
 unfold m7
 refine Ev.eq (aA (aCf (by omega) h1 h2) (wU (g:=fun x=>x) (K:=fun x2=>some (⟨x.nest,x2⟩:Part)) (fun s hs=>aCc hn (h5 s hs)) (by omega) (by omega) (Ev.some ?_)))
 simp
theorem aIO{n:Nat}(hn:6000≤n){p:Prog}(h:bI p=true):iW n p=some p:=by
 obtain⟨h1,h2,h3,h4,_⟩:=gS h
 unfold iW
 refine Ev.eq (H5 (F:=fun x5 k=>Option.bind (m_ownClone x5.dims) fun x6=>k (⟨x5.name,x6⟩:Arr)) (g:=fun x=>x) (s:=0) (pre:=[]) (K:=fun x1=>aL (fun again11 ((x8,x9):(List Part)×Int)=>
    bif decide (x9<(p.parts.length:Int)) then(
     Option.bind (ix p.parts x9) fun x12=>
     Option.bind (m7 n x12) fun x13=>
     Option.bind (app x8 [x13]) fun x14=>
     again11 (x14,wr (x9+1))
    ) else(
     some (⟨x1,x8⟩:Prog)
    )
   ) n ([],0)) (fun x hx k hk=>aA (x:=x.dims) ?_ hk) (by omega) (by simp) (by omega) (by omega) ?_)
 ·have:=(aIg h1 h2).2 x hx
  unfold m_ownClone
  rw [if_pos (by omega)]
 ·refine wU (g:=fun x=>x) (K:=fun x8=>some (⟨_,x8⟩:Prog)) (fun x hx=>aCd hn (h4 x hx)) (by omega) (by omega) (Ev.some ?_)
  simp
theorem R6(n:Nat){a:Affine}(h:BA 1000 a):fP n a=some a:=by
 unfold fP
 rw [d5 _ h];rfl
theorem u4{n:Nat}(hn:5000≤n){l:List Affine}(h:BAs 1000 l):cL n l=some l:=by
 unfold cL
 exact Ev.eq (mB (K:=fun x1=>some x1) (fun x hx=>R6 n (h.2 x hx)) h.1 hn (Ev.some rfl))
theorem R7{n:Nat}(hn:5000≤n){a:Access}(h:BAs 1000 a.subs):fQ n a=some a:=by
 unfold fQ
 rw [u4 hn h];rfl
theorem G5: ∀(L n:Nat) (e:Expr),5000+L≤n→BE 1000 L e→s_l16OwnExpr (n+1) e=some e
 |0,_,_,_,h=>h.elim
 |L+1,n,e,hn,h=>by
  obtain⟨h1,h2,h3,h4⟩:=h
  obtain⟨n,rfl⟩: ∃j,n=j+1:=⟨n-1,by omega⟩
  unfold s_l16OwnExpr iC
  rw [R6 _ h2,R7 (by omega) h3]
  refine Ev.eq (aA rfl (aA rfl (aA (x:=e.kids) ?_ (Ev.some (by cases e;rfl)))))
  exact Ev.eq (mB (f:=s_l16OwnExpr (n+1)) (K:=fun x1=>some x1) (fun x hx=>G5 L n x (by omega) (h4 x hx)) h1 (by omega) (Ev.some rfl))
theorem aCj{n:Nat}(hn:6000≤n){s:Stmt}(h:BS 1000 s):jX n s=some s:=by
 obtain⟨n,rfl⟩: ∃j,n=j+1:=⟨n-1,by omega⟩
 unfold jX
 rw [R7 (by omega) h.1,G5 5 n s.value (by omega) h.2];rfl
theorem aCl{n:Nat}(hn:6000≤n){x:Part}(h:BPt 1000 x):jY n x=some x:=by
 obtain⟨⟨h1,h2⟩,h3,h4⟩:=h
 have e1:fO n x.nest=some x.nest:=by
  unfold fO
  refine Ev.eq (mB (K:=fun x1=>some x1) (fun l hl=> ?_) h1 (by omega) (Ev.some rfl))
  unfold mN
  rw [u4 (by omega) (h2 l hl).1,u4 (by omega) (h2 l hl).2];rfl
 have e2:fM n x.body=some x.body:=by
  unfold fM
  exact Ev.eq (mB (K:=fun x1=>some x1) (fun l hl=>aCj hn (h4 l hl)) h3 (by omega) (Ev.some rfl))
 unfold jY
 rw [e1,e2];rfl
theorem aCk{n:Nat}(hn:6000≤n){p:Prog}(h:BG 1000 p):f9 n p=some p:=by
 obtain⟨⟨h1,h2⟩,h3,h4⟩:=h
 have e1:eS n p.arrays=some p.arrays:=by
  unfold eS
  refine Ev.eq (mB (K:=fun x1=>some x1) (fun l hl=> ?_) h1 (by omega) (Ev.some rfl))
  unfold lP
  rw [d5 _ (h2 l hl)];rfl
 have e2:fN n p.parts=some p.parts:=by
  unfold fN
  exact Ev.eq (mB (K:=fun x1=>some x1) (fun l hl=>aCl hn (h4 l hl)) h3 (by omega) (Ev.some rfl))
 unfold f9
 rw [e1,e2];rfl
theorem pD{α:Type}{f:α→α→Option Bool}{l:List α}(hf: ∀x∈l,f x x=some true){n:Nat}(hn:l.length<n)(hl:l.length≤1000000):
  (bif !decide ((l.length:Int)=(l.length:Int)) then(some false) else(aL (fun again2 (x1:Int)=>bif decide (x1<(l.length:Int)) then(Option.bind (ix l x1) fun x3=>Option.bind (ix l x1) fun x4=>Option.bind (f x3 x4) fun x5=>bif !x5 then(some false) else(again2 (wr (x1+1)))) else(some true)) n 0))=some true:=by
 refine Ev.eq (gL (fun h=>(h rfl).elim) (fun _=> ?_))
 refine Ev.loop (fun x:Int=> ∃i:Nat,x=i∧i≤l.length) (fun x=>l.length-x.toNat) ?_ n 0 ⟨0,rfl,by omega⟩ (by omega)
 rintro again x ⟨i,rfl,hi⟩ hr
 refine aG (fun hlt=> ?_) (fun _=>Ev.some rfl)
 obtain⟨e,hg⟩: ∃e,l[i]? =some e:=⟨_,List.getElem?_eq_getElem (show i<l.length by omega)⟩
 refine aA (aO hg) (aA (aO hg) (aA (hf e (List.mem_of_getElem? hg)) (bW ?_)))
 rw [aM (by omega)]
 exact hr _ ⟨i+1,by omega,by omega⟩ (by omega)
theorem Q5{a:List Int}{n:Nat}(hn:a.length<n)(hl:a.length≤1000000):jM n a a=some true:=by
 unfold jM
 refine Ev.eq (gL (fun h=>(h rfl).elim) (fun _=> ?_))
 refine Ev.loop (fun x:Int=> ∃i:Nat,x=i∧i≤a.length) (fun x=>a.length-x.toNat) ?_ n 0 ⟨0,rfl,by omega⟩ (by omega)
 rintro again x ⟨i,rfl,hi⟩ hr
 refine aG (fun hlt=> ?_) (fun _=>Ev.some rfl)
 obtain⟨e,hg⟩: ∃e,a[i]? =some e:=⟨_,List.getElem?_eq_getElem (show i<a.length by omega)⟩
 refine aA (aO hg) (aA (aO hg) (gL (fun h=>(h rfl).elim) (fun _=> ?_)))
 rw [aM (by omega)]
 exact hr _ ⟨i+1,by omega,by omega⟩ (by omega)
theorem aDU{n:Nat}(hn:5000≤n){a:Affine}(h:BA 1000 a):cA n a a=some true:=by
 unfold BA at h
 unfold cA
 refine Ev.eq (Ev.jn (fun z=>z=true) (fun j hj=>aA (Q5 (by omega) (by omega)) (bQ (hj _ (decide_eq_true rfl)))) (fun z hz=>Ev.some hz))
theorem N5{n:Nat}(hn:5000≤n){l:List Affine}(h:BAs 1000 l):cM n l l (fun q0 q1=>cA n q0 q1)=some true:=by
 have:=h.1
 unfold cM
 exact pD (fun x hx=>aDU hn (h.2 x hx)) (by omega) (by omega)
theorem aDV{n:Nat}(hn:5000≤n){a:Access}(h:BAs 1000 a.subs):iK n a a=some true:=by
 unfold iK
 refine Ev.eq (Ev.jn (fun z=>z=true) (fun j hj=> ?_) (fun z hz=>Ev.some hz))
 exact aG (fun _=>aA (N5 hn h) (hj _ rfl)) (fun h=>(h rfl).elim)
theorem aBd: ∀(L n:Nat) (e:Expr),5000+L≤n→BE 1000 L e→i_exprSame (n+1) e e=some true
 |0,_,_,_,h=>h.elim
 |L+1,n,e,hn,h=>by
  obtain⟨h1,h2,h3,h4⟩:=h
  obtain⟨n,rfl⟩: ∃j,n=j+1:=⟨n-1,by omega⟩
  unfold i_exprSame
  refine Ev.eq (Ev.jn (fun z=>z=true) (fun j hj=> ?_) (fun z hz=>Ev.some hz))
  refine aG (fun _=>aG (fun _=>aA (aDU (by omega) h2) (bQ (aA (aDV (by omega) h3) (bQ (aA (x:=true) ?_ (hj _ rfl)))))) (fun h=>(h rfl).elim)) (fun h=>(h rfl).elim)
  unfold iI
  exact pD (fun x hx=>aBd L n x (by omega) (h4 x hx)) (by omega) (by omega)
theorem aFg{n:Nat}(hn:6000≤n){s:Stmt}(h:BS 1000 s):lJ n s s=some true:=by
 obtain⟨n,rfl⟩: ∃j,n=j+1:=⟨n-1,by omega⟩
 unfold lJ
 refine Ev.eq (Ev.jn (fun z=>z=true) (fun j hj=> ?_) (fun z hz=>Ev.some hz))
 exact aA (aDV (by omega) h.1) (bQ (aA (aBd 5 n s.value (by omega) h.2) (hj _ rfl)))
theorem aFC{n:Nat}(hn:5000≤n){nest:List Loop}(h:BN 1000 nest):nU n nest nest=some true:=by
 have:=h.1
 unfold nU iH
 rw [pD (fun l hl=> ?_) (by omega) (by omega)]
 ·rfl
 ·unfold kI
  refine Ev.eq (Ev.jn (fun z=>z=true) (fun j hj=> ?_) (fun z hz=>Ev.some hz))
  exact aA (N5 hn (h.2 l hl).1) (bQ (aA (N5 hn (h.2 l hl).2) (hj _ rfl)))
theorem aFy{n:Nat}(hn:6000≤n){x:Part}(h:BPt 1000 x):eK n x x=some true:=by
 have:=h.2.1
 unfold eK
 refine Ev.eq (Ev.jn (fun z=>z=true) (fun j hj=> ?_) (fun z hz=>Ev.some hz))
 refine aA (aFC (by omega) h.1) (bQ (aA (x:=true) ?_ (hj _ rfl)))
 unfold iF
 exact pD (fun s hs=>aFg hn (h.2.2 s hs)) (by omega) (by omega)
theorem aAT{n:Nat}(hn:6000≤n){p:Prog}(h:BG 1000 p):dJ n p p=some true:=by
 obtain⟨⟨h1,h2⟩,h3,h4⟩:=h
 unfold dJ
 refine Ev.eq (Ev.jn (fun z=>z=true) (fun j hj=> ?_) (fun z hz=>Ev.some hz))
 refine aA (x:=true) ?_ (bQ (aA (x:=true) ?_ (hj _ rfl)))
 ·unfold gJ
  refine pD (fun x hx=> ?_) (by omega) (by omega)
  unfold eM
  refine Ev.eq (Ev.jn (fun z=>z=true) (fun j hj=> ?_) (fun z hz=>Ev.some hz))
  have:=h2 x hx
  exact aG (fun _=>aA (Q5 (by omega) (by omega)) (hj _ rfl)) (fun h=>(h rfl).elim)
 ·unfold iG
  exact pD (fun x hx=>aFy hn (h4 x hx)) (by omega) (by omega)
theorem S3(n:Nat){p:Prog}(h:p.parts.length≤1000)(part:Int):cO n p part=some (decide (0≤part∧part<(p.parts.length:Int))):=by
 unfold cO
 rw [eI,aM (by omega)]
 exact congrArg some (decide_eq_decide.2 (by omega))
def bB(m:Int)(a:Affine):Prop:=a.coefs.length=4∧B4 m a.const∧ ∀c∈a.coefs,B4 m c
theorem bB.mono{m m':Int}{a:Affine}(h:bB m a)(hm:m≤m'):bB m' a:=⟨h.1,⟨by have:=h.2.1.1;omega,by have:=h.2.1.2;omega⟩,fun c hc=>⟨by have:=(h.2.2 c hc).1;omega,by have:=(h.2.2 c hc).2;omega⟩⟩
def noP:Prog×Bool:=(⟨[],[]⟩,false)
theorem aIQ:BG 1000 noP.1:=⟨⟨by simp [noP],fun x hx=>by cases hx⟩,by simp [noP],fun x hx=>by cases hx⟩
theorem aI3{B:Option Bool}{a b:Int}(h:b≤1048576→Ev B (fun r=>r=true)):Ev (jn (fun(x2:Bool)=>bif x2 then(some true) else B) (fun j1=>bif decide ((1048576:Int)<a) then(j1 true) else(j1 (decide ((1048576:Int)<b))))) (fun r=>r=true):=by
 exact Ev.jn (fun z=>z=false→b≤1048576) (fun j hj=>aG (fun _=>hj _ (fun h=>by cases h)) (fun _=>hj _ (fun h=>by have:=of_decide_eq_false h;omega))) (fun z hz=>Ev.cond (fun _=>Ev.some rfl) (fun h0=>h (hz h0)))
theorem aI2{I S:Option (Prog×Bool)}{REST:Prog×Bool→Prog×Bool→Option Bool}{R:Prog×Bool}(hR:BG 1000 R.1)(h1:I=some R)(h2:S=some R)(hb:R.2=true→Ev (REST R R) (fun r=>r=true)):
  Ev (Option.bind I fun x4=>Option.bind S fun x5=>jn (fun(x8:Bool)=>
    bif x8 then(
     jn (fun(x11:Bool)=>
      some x11
     ) (fun j9=>
      bif(x4.2==x5.2) then(
       Option.bind (dJ N x4.1 x5.1) fun x10=>
       j9 x10
      ) else(
       j9 false
      )
     )
    ) else(
     REST x4 x5
    )
   ) (fun j6=>
    bif !(x4.2==x5.2) then(
     j6 true
    ) else(
     Option.bind (dJ N x4.1 x5.1) fun x7=>
     bif !x7 then(
      j6 true
     ) else(
      j6 (!x4.2)
     )
    )
   )) (fun r=>r=true):=by
 have hN:N=100000:=rfl
 have hs:=aAT (n:=N) (by omega) hR
 have he:(R.2==R.2)=true:=by cases R.2<;>rfl
 refine aA h1 (aA h2 (Ev.jn (fun z=>z= !R.2) (fun j hj=> ?_) (fun z hz=> ?_)))
 ·rw [he]
  exact bW (aA hs (bW (hj _ rfl)))
 ·subst hz
  cases hr:R.2 with
  |false=>exact bQ (Ev.jn (fun z=>z=true) (fun j hj=>bQ (aA hs (hj _ rfl))) (fun z hz=>Ev.some hz))
  |true=>exact bW (hb hr)
def inW(l:List Inst)(p:Prog)(a:Int)(c:Nat):Prop:= ∃x∈l,x.part=a∧wc p x=c
def inR(l:List Inst)(p:Prog)(a:Int)(c:Nat):Prop:= ∃x∈l,x.part=a∧(c:Int)∈rc p x
theorem s9{l:List Inst}{p:Prog}{a:Int}{c:Nat}{x:Inst}:inW (l++[x]) p a c↔inW l p a c∨(x.part=a∧wc p x=c):=by
 unfold inW
 constructor
 ·rintro⟨y,hy,h⟩
  rcases List.mem_append.1 hy with hy|hy
  ·exact .inl ⟨y,hy,h⟩
  ·rw [List.mem_singleton] at hy;subst hy;exact .inr h
 ·rintro(⟨y,hy,h⟩|h)
  ·exact⟨y,List.mem_append_left _ hy,h⟩
  ·exact⟨x,by simp,h⟩
theorem tA{l:List Inst}{p:Prog}{a:Int}{c:Nat}{x:Inst}:inR (l++[x]) p a c↔inR l p a c∨(x.part=a∧(c:Int)∈rc p x):=by
 unfold inR
 constructor
 ·rintro⟨y,hy,h⟩
  rcases List.mem_append.1 hy with hy|hy
  ·exact .inl ⟨y,hy,h⟩
  ·rw [List.mem_singleton] at hy;subst hy;exact .inr h
 ·rintro(⟨y,hy,h⟩|h)
  ·exact⟨y,List.mem_append_left _ hy,h⟩
  ·exact⟨x,by simp,h⟩
def P7(T:Nat)(f:List Bool)(S:Nat→Prop):Prop:=f.length=T∧ ∀c,c<T→(f.getD c false=true↔S c)
theorem J3(T:Nat):P7 T (List.replicate T false) (fun _=>False):=⟨List.length_replicate,fun c hc=>by
 rw [List.getD_eq_getElem?_getD,List.getElem?_replicate]
 split<;>simp⟩
theorem Y6{T:Nat}{f:List Bool}{S:Nat→Prop}(h:P7 T f S){d:Nat}(hd:d<T):P7 T (f.set d true) (fun c=>S c∨c=d):=⟨by rw [List.length_set];exact h.1,fun c hc=>by
 by_cases e:d=c
 ·subst e
  rw [List.getD_eq_getElem?_getD,List.getElem?_set_self (by rw [h.1];exact hd)]
  simp
 ·rw [List.getD_eq_getElem?_getD,List.getElem?_set_ne e,←List.getD_eq_getElem?_getD,h.2 c hc]
  constructor
  ·exact .inl
  ·rintro(h|h)
   ·exact h
   ·exact absurd h.symm e⟩
theorem iM{T:Nat}{f:List Bool}{S S':Nat→Prop}(h:P7 T f S)(hs: ∀c,c<T→(S c↔S' c)):P7 T f S':=⟨h.1,fun c hc=>(h.2 c hc).trans (hs c hc)⟩
theorem vC{T:Nat}{f:List Bool}{S:Nat→Prop}(h:P7 T f S){c:Nat}(hc:c<T):ix f (c:Int)=some (f.getD c false):=by
 have hl:c<f.length:=by rw [h.1];exact hc
 rw [aO (List.getElem?_eq_getElem hl),List.getD_eq_getElem?_getD,List.getElem?_eq_getElem hl];rfl
theorem T4{R:Type}{Q:R→Prop}{n:Nat}(hn:5000≤n){T:Nat}{cs:List Int}(hl:cs.length≤1000)(hc: ∀c∈cs,0≤c∧c<(T:Int)){K:List Bool→Option R}{f:List Bool}{S:Nat→Prop}(hf:P7 T f S)(hK: ∀g,P7 T g (fun c=>S c∨(c:Int)∈cs)→Ev (K g) Q):
  Ev (aL (fun again (z:(List Bool)×Int)=>bif decide (z.2<(cs.length:Int)) then(Option.bind (ix cs z.2) fun x=>Option.bind (ix z.1 x) fun _=>Option.bind (f0 z.1 x true) fun y=>again (y,wr (z.2+1))) else(K z.1)) n (f,0)) Q:=by
 refine Ev.loop (fun z:List Bool×Int=> ∃i:Nat,z.2=i∧i≤cs.length∧P7 T z.1 (fun c=>S c∨(c:Int)∈cs.take i)) (fun z=>cs.length-z.2.toNat) ?_ n _ ⟨0,rfl,by omega,iM hf (fun c _=>by simp)⟩ (by dsimp only;omega)
 rintro again ⟨x,z⟩ ⟨i,hz,hi,hx⟩ hr
 dsimp only at hz hx⊢
 subst hz
 refine aG (fun hlt=> ?_) (fun hge=> ?_)
 ·obtain⟨c,hg⟩: ∃c,cs[i]? =some c:=⟨_,List.getElem?_eq_getElem (show i<cs.length by omega)⟩
  have hb:=hc c (List.mem_of_getElem? hg)
  have hxl:=hx.1
  refine aA (aO hg) (aA (aFL hb.1 (by omega)) (aA (sE hb.1 (by omega) true) ?_))
  rw [aM (by omega)]
  refine hr _ ⟨i+1,by dsimp only;omega,by omega,iM (Y6 hx (d:=c.toNat) (by omega)) (fun e he=> ?_)⟩ (by dsimp only;omega)
  rw [eJ hg,List.mem_append,List.mem_singleton]
  constructor
  ·rintro((h|h)|h)
   ·exact .inl h
   ·exact .inr (.inl h)
   ·exact .inr (.inr (by omega))
  ·rintro(h|h|h)
   ·exact .inl (.inl h)
   ·exact .inl (.inr h)
   ·exact .inr (by omega)
 ·have e:i=cs.length:=by omega
  refine hK x (iM hx (fun c _=> ?_))
  rw [e,List.take_length]
theorem D1{p:Prog}(hv:bI p=true):((Q0 p:Nat):Int)=eQ p.arrays∧Q0 p≤144:=by
 have:=aAH hv
 show(((eQ p.arrays).toNat:Nat):Int)=_∧(eQ p.arrays).toNat≤144
 omega
theorem K9{n:Nat}(hn:7100≤n){p:Prog}(hv:bI p=true)(a:Int):Ev (d8 n (trc p) a) (fun r=>P7 (Q0 p) r.1 (inR (insts p.parts) p a)∧P7 (Q0 p) r.2 (inW (insts p.parts) p a)):=by
 obtain⟨hl,hd,_,_,hil⟩:=gS hv
 have ht:=D1 hv
 unfold d8
 refine aA (qX (p:=p) (by omega) hl hd) (aA (X5 ⟨by omega,by omega⟩ false) (aA (qX (p:=p) (by omega) hl hd) (aA (X5 ⟨by omega,by omega⟩ false) ?_)))
 show Ev (aL _ n (List.replicate (Q0 p) false,List.replicate (Q0 p) false,0)) _
 refine Ev.loop (fun z:List Bool×List Bool×Int=> ∃i:Nat,z.2.2=i∧i≤(insts p.parts).length∧P7 (Q0 p) z.1 (inR ((insts p.parts).take i) p a)∧P7 (Q0 p) z.2.1 (inW ((insts p.parts).take i) p a)) (fun z=>(insts p.parts).length-z.2.2.toNat) ?_ n _ ⟨0,rfl,by omega,iM (J3 _) (fun c _=>by simp [inR]),iM (J3 _) (fun c _=>by simp [inW])⟩ (by dsimp only;omega)
 rintro again ⟨x,y,z⟩ ⟨i,hz,hi,hx,hy⟩ hr
 dsimp only at hz hx hy⊢
 subst hz
 have hlist:(trc p).list=insts p.parts:=rfl
 rw [hlist]
 refine aG (fun hlt=> ?_) (fun hge=>Ev.some ?_)
 ·obtain⟨u,hg⟩: ∃u,(insts p.parts)[i]? =some u:=⟨_,List.getElem?_eq_getElem (show i<(insts p.parts).length by omega)⟩
  have hu:=insts_mem (List.mem_of_getElem? hg)
  obtain⟨w1,w2,w3,_⟩:=inst_c hv hu
  have hgr:(trc p).reads[i]? =some (rc p u):=X8 hg
  have hgw:(trc p).writes[i]? =some (wc p u:Int):=X8 (f:=fun x=>(wc p x:Int)) hg
  refine Ev.jn (fun z:List Bool×List Bool×Int×Int×List Int=>P7 (Q0 p) z.1 (inR ((insts p.parts).take (i+1)) p a)∧P7 (Q0 p) z.2.1 (inW ((insts p.parts).take (i+1)) p a)) (fun j hj=> ?_) (fun z hz=> ?_)
  ·refine aA (aO hg) (gL (fun hne=>hj _ ⟨iM hx (fun c _=> ?_),iM hy (fun c _=> ?_)⟩) (fun he=>aA (aO hgr) ?_))
   ·rw [eJ hg,tA];exact⟨.inl,fun h=>h.elim id (fun h=>absurd h.1 hne)⟩
   ·rw [eJ hg,s9];exact⟨.inl,fun h=>h.elim id (fun h=>absurd h.1 hne)⟩
   ·refine T4 (T:=Q0 p) (by omega) (cs:=rc p u) (by omega) (fun c hc=>by have:=w2 c hc;omega) (K:=fun x14=>Option.bind (ix (trc p).writes (i:Int)) fun x21=>Option.bind (ix y x21) fun x22=>Option.bind (f0 y x21 true) fun x23=>j (x14,x23,u.part,u.stmt,u.point)) hx (fun g hgf=> ?_)
    refine aA (aO hgw) (aA (vC hy (by omega)) (aA (sE (by omega) (by rw [hy.1];omega) true) (hj _ ⟨iM hgf (fun c _=> ?_),?_⟩)))
    ·rw [eJ hg,tA]
     exact or_congr Iff.rfl ⟨fun h=>⟨he,h⟩,fun h=>h.2⟩
    ·refine iM (Y6 hy (d:=wc p u) (by omega)) (fun c _=> ?_)
     rw [eJ hg,s9]
     exact or_congr Iff.rfl ⟨fun h=>⟨he,h.symm⟩,fun h=>h.2.symm⟩
  ·obtain⟨x24,x25,x26,x27,x28⟩:=z
   dsimp only at hz⊢
   rw [aM (by omega)]
   exact hr _ ⟨i+1,by dsimp only;omega,by omega,hz.1,hz.2⟩ (by dsimp only;omega)
 ·have e:i=(insts p.parts).length:=by omega
  rw [e,List.take_length] at hx hy
  exact⟨hx,hy⟩
theorem qM{n:Nat}(hn:7100≤n){p:Prog}(hv:bI p=true)(a:Int)(w:Bool):Ev (gQ n p a w) (fun r=>r.length≤144∧ ∀c:Int,c∈r↔0≤c∧c.toNat<Q0 p∧(if w=true then inW (insts p.parts) p a c.toNat else inR (insts p.parts) p a c.toNat)):=by
 obtain⟨hl,hd,_,_,hil⟩:=gS hv
 have ht:=D1 hv
 unfold gQ
 refine aA (D9 (by omega) hl hd) (aA (X5 ⟨by omega,by omega⟩ false) (aA (sW (by omega) hv) (aA (aD5 hn hv) ?_)))
 show Ev (aL _ n (List.replicate (Q0 p) false,0)) _
 refine Ev.loop (fun z:List Bool×Int=> ∃i:Nat,z.2=i∧i≤(insts p.parts).length∧P7 (Q0 p) z.1 (fun c=>if w=true then inW ((insts p.parts).take i) p a c else inR ((insts p.parts).take i) p a c)) (fun z=>(insts p.parts).length-z.2.toNat) ?_ n _ ⟨0,rfl,by omega,iM (J3 _) (fun c _=>by simp [inR,inW])⟩ (by dsimp only;omega)
 rintro again ⟨x,z⟩ ⟨i,hz,hi,hx⟩ hr
 dsimp only at hz hx⊢
 subst hz
 refine aG (fun hlt=> ?_) (fun hge=> ?_)
 ·obtain⟨u,hg⟩: ∃u,(insts p.parts)[i]? =some u:=⟨_,List.getElem?_eq_getElem (show i<(insts p.parts).length by omega)⟩
  have hu:=insts_mem (List.mem_of_getElem? hg)
  obtain⟨w1,w2,w3,_⟩:=inst_c hv hu
  have hgu:(aEZ p)[i]? =some (⟨rc p u,(wc p u:Int)⟩:L6Use):=X8 (f:=fun x=>(⟨rc p x,(wc p x:Int)⟩:L6Use)) hg
  refine Ev.jn (fun z:List Bool=>P7 (Q0 p) z (fun c=>if w=true then inW ((insts p.parts).take (i+1)) p a c else inR ((insts p.parts).take (i+1)) p a c)) (fun j hj=> ?_) (fun z hz=> ?_)
  ·refine aA (aO hg) (gL (fun hne=>hj _ (iM hx (fun c _=> ?_))) (fun he=> ?_))
   ·rw [eJ hg,s9,tA]
    split<;>exact⟨.inl,fun h=>h.elim id (fun h=>absurd h.1 hne)⟩
   ·cases w with
    |true=>
     refine bQ (aA (aO hgu) (aA (vC hx (by omega)) (aA (sE (by(try dsimp only);omega) (by rw [hx.1];(try dsimp only);omega) true) (hj _ ?_))))
     refine iM (Y6 hx (d:=wc p u) (by omega)) (fun c _=> ?_)
     rw [eJ hg,s9,tA]
     exact or_congr Iff.rfl ⟨fun h=>⟨he,h.symm⟩,fun h=>h.2.symm⟩
    |false=>
     refine bW ?_
     simp only [aO hgu,Option.bind_some]
     refine T4 (T:=Q0 p) (by omega) (cs:=rc p u) (by omega) (fun c hc=>by have:=w2 c hc;omega) (K:=fun x14=>j x14) hx (fun g hgf=>hj _ (iM hgf (fun c _=> ?_)))
     rw [eJ hg,s9,tA]
     exact or_congr Iff.rfl ⟨fun h=>⟨he,h⟩,fun h=>h.2⟩
  ·rw [aM (by omega)]
   exact hr _ ⟨i+1,by dsimp only;omega,by omega,hz⟩ (by dsimp only;omega)
 ·have e:i=(insts p.parts).length:=by omega
  rw [e,List.take_length] at hx
  have hxl:=hx.1
  refine aA (W3 (by omega) (by omega)) (Ev.some ⟨by have:=aBb x;omega,fun c=> ?_⟩)
  rw [aBa]
  constructor
  ·rintro⟨h0,h1⟩
   have hlt:c.toNat<Q0 p:=by
    rw [←hxl]
    by_cases h:c.toNat<x.length
    ·exact h
    ·rw [List.getD_eq_getElem?_getD,List.getElem?_eq_none (by omega)] at h1;cases h1
   exact⟨h0,hlt,(hx.2 _ hlt).1 h1⟩
  ·rintro⟨h0,hlt,h1⟩
   exact⟨h0,(hx.2 _ hlt).2 h1⟩
theorem X7{n:Nat}(hn:5000≤n){a b:List Int}(ha:a.length≤1000)(hb:b.length≤1000):kZ n a b=some (a.any (fun c=>decide (c∈b))):=by
 refine Ev.eq ?_
 unfold kZ
 refine Ev.loop (fun z:Int=> ∃i:Nat,z=i∧i≤a.length∧(a.take i).any (fun c=>decide (c∈b))=false) (fun z=>a.length-z.toNat) ?_ n 0 ⟨0,rfl,by omega,by simp⟩ (by omega)
 rintro again z ⟨i,rfl,hi,hno⟩ hr
 refine aG (fun hlt=> ?_) (fun hge=>Ev.some ?_)
 ·obtain⟨c,hg⟩: ∃c,a[i]? =some c:=⟨_,List.getElem?_eq_getElem (show i<a.length by omega)⟩
  refine aA (aO hg) (aA (aFn (by omega) hb c) (Ev.cond (fun h=>Ev.some ?_) (fun h=> ?_)))
  ·exact(List.any_eq_true.2 ⟨c,List.mem_of_getElem? hg,h⟩).symm
  ·rw [aM (by omega)]
   refine hr _ ⟨i+1,by omega,by omega,?_⟩ (by omega)
   rw [eJ hg,List.any_append,hno]
   simpa using h
 ·have e:i=a.length:=by omega
  rw [e,List.take_length] at hno
  exact hno.symm
def aEj(p:Prog)(a b:Int):Prop:= ∀x∈insts p.parts,∀y∈insts p.parts,x.part=a→y.part=b→ ¬aHS p x y
noncomputable def aCw(p:Prog)(a b:Int):Bool:= @decide (aEj p a b) (Classical.propDecidable _)
theorem indB_iff{p:Prog}{a b:Int}:aCw p a b=true↔aEj p a b:=by unfold aCw;exact @decide_eq_true_iff _ (Classical.propDecidable _)
theorem I3{p:Prog}(hv:bI p=true){a b:Int}:aEj p a b↔ ∀c,c<Q0 p→ ¬(inW (insts p.parts) p a c∧(inR (insts p.parts) p b c∨inW (insts p.parts) p b c))∧ ¬(inW (insts p.parts) p b c∧inR (insts p.parts) p a c):=by
 have ht:=D1 hv
 constructor
 ·intro h c _
  refine⟨?_,?_⟩
  ·rintro⟨⟨x,hx,hxa,hxc⟩,⟨y,hy,hyb,hyc⟩|⟨y,hy,hyb,hyc⟩⟩
   ·exact h x hx y hy hxa hyb (.inl (by rw [hxc];exact hyc))
   ·exact h x hx y hy hxa hyb (.inr (.inr (by rw [hxc,hyc])))
  ·rintro⟨⟨y,hy,hyb,hyc⟩,⟨x,hx,hxa,hxc⟩⟩
   exact h x hx y hy hxa hyb (.inr (.inl (by rw [hyc];exact hxc)))
 ·intro h x hx y hy hxa hyb hc
  have wx:=(inst_c hv (insts_mem hx)).1
  have wy:=(inst_c hv (insts_mem hy)).1
  rcases hc with hc|hc|hc
  ·exact(h (wc p x) (by omega)).1 ⟨⟨x,hx,hxa,rfl⟩,.inl ⟨y,hy,hyb,hc⟩⟩
  ·exact(h (wc p y) (by omega)).2 ⟨⟨y,hy,hyb,rfl⟩,⟨x,hx,hxa,hc⟩⟩
  ·exact(h (wc p x) (by omega)).1 ⟨⟨x,hx,hxa,rfl⟩,.inr ⟨y,hy,hyb,hc.symm⟩⟩
def I0(p:Prog)(a:Int):Bool:=decide (0≤a∧a<(p.parts.length:Int))
noncomputable def pS(p:Prog)(a b:Int):Bool:=bI p&&(I0 p a&&(I0 p b&&(!decide (a=b)&&aCw p a b)))
theorem aFB{b:Bool}(h:(!b)=true):b=false:=by cases b with
 |false=>rfl
 |true=>cases h
theorem aCn{b:Bool}(h:(!b)=false):b=true:=by cases b with
 |false=>cases h
 |true=>rfl
theorem aCz{n:Nat}(hn:5000≤n){T:Nat}(hT:T≤1000){ra wa rb wb:List Bool}{RA WA RB WB:Nat→Prop}(h1:P7 T ra RA)(h2:P7 T wa WA)(h3:P7 T rb RB)(h4:P7 T wb WB){v:Bool}(hv:v=true↔ ∀c,c<T→ ¬(WA c∧(RB c∨WB c))∧ ¬(WB c∧RA c)):
  Ev (aL (fun again13 (x12:Int)=>
     bif decide (x12<(ra.length:Int)) then(
      jn (fun(x20:Bool)=>
       bif x20 then(
        some false
       ) else(
        again13 (wr (x12+1))
       )
      ) (fun j14=>
       Option.bind (ix wa x12) fun x15=>
       bif x15 then(
        Option.bind (ix rb x12) fun x18=>
        bif x18 then(
         j14 true
        ) else(
         Option.bind (ix wb x12) fun x19=>
         bif x19 then(
          j14 true
         ) else(
          j14 false
         )
        )
       ) else(
        Option.bind (ix wb x12) fun x16=>
        bif x16 then(
         Option.bind (ix ra x12) fun x17=>
         j14 x17
        ) else(
         j14 false
        )
       )
      )
     ) else(
      some true
     )
    ) n 0) (fun r=>r=v):=by
 have hbad: ∀c,c<T→((WA c∧(RB c∨WB c))∨(WB c∧RA c))→v=false:=fun c hc h=>by
  cases hvv:v with
  |false=>rfl
  |true=>
   have:=hv.1 hvv c hc
   rcases h with h|h
   ·exact absurd h this.1
   ·exact absurd h this.2
 have hra:=h1.1
 refine Ev.loop (fun z:Int=> ∃i:Nat,z=i∧i≤T∧ ∀c,c<i→ ¬(WA c∧(RB c∨WB c))∧ ¬(WB c∧RA c)) (fun z=>T-z.toNat) ?_ n 0 ⟨0,rfl,by omega,fun c h=>by omega⟩ (by omega)
 rintro again z ⟨i,rfl,hi,hno⟩ hr
 rw [hra]
 refine aG (fun hlt=> ?_) (fun hge=>Ev.some ?_)
 ·have hiT:i<T:=by omega
  refine Ev.jn (fun z=>(z=true→(WA i∧(RB i∨WB i))∨(WB i∧RA i))∧(z=false→ ¬(WA i∧(RB i∨WB i))∧ ¬(WB i∧RA i))) (fun j hj=> ?_) (fun z hz=>Ev.cond (fun h=>Ev.some (hbad i hiT (hz.1 h)).symm) (fun h=> ?_))
  ·refine aA (vC h2 hiT) (Ev.cond (fun hw=> ?_) (fun hw=> ?_))
   ·have w:=(h2.2 i hiT).1 hw
    refine aA (vC h3 hiT) (Ev.cond (fun hb=>hj _ ⟨fun _=> .inl ⟨w,.inl ((h3.2 i hiT).1 hb)⟩,fun h=>(by cases h)⟩) (fun hb=>aA (vC h4 hiT) (Ev.cond (fun hb2=>hj _ ⟨fun _=> .inl ⟨w,.inr ((h4.2 i hiT).1 hb2)⟩,fun h=>(by cases h)⟩) (fun hb2=>hj _ ⟨fun h=>(by cases h),fun _=> ?_⟩))))
    have nb: ¬RB i:=fun h=>by rw [(h3.2 i hiT).2 h] at hb;cases hb
    have nb2: ¬WB i:=fun h=>by rw [(h4.2 i hiT).2 h] at hb2;cases hb2
    exact⟨fun h=>h.2.elim nb nb2,fun h=>nb2 h.1⟩
   ·have nw: ¬WA i:=fun h=>by rw [(h2.2 i hiT).2 h] at hw;cases hw
    refine aA (vC h4 hiT) (Ev.cond (fun hb2=>aA (vC h1 hiT) (hj _ ⟨fun h=> .inr ⟨(h4.2 i hiT).1 hb2,(h1.2 i hiT).1 h⟩,fun h=>⟨fun hh=>nw hh.1,fun hh=>by rw [(h1.2 i hiT).2 hh.2] at h;cases h⟩⟩)) (fun hb2=>hj _ ⟨fun h=>(by cases h),fun _=>⟨fun hh=>nw hh.1,fun hh=>by rw [(h4.2 i hiT).2 hh.1] at hb2;cases hb2⟩⟩))
  ·rw [aM (by omega)]
   refine hr _ ⟨i+1,by omega,by omega,fun c hc=> ?_⟩ (by omega)
   by_cases e:c=i
   ·subst e;exact hz.2 h
   ·exact hno c (by omega)
 ·exact(hv.2 (fun c hc=>hno c (by omega))).symm
theorem aFQ{n:Nat}(hn:7100≤n){p:Prog}(hp:SmP p)(a b:Int):eE n p a b=some (pS p a b):=by
 unfold eE
 refine Ev.eq (aA (aCy hn hp) ?_)
 by_cases hv:bI p=true
 ·rw [if_pos hv]
  have ht:=D1 hv
  have hpl:=hp.2.1
  refine bQ (Ev.jn (fun z=>z= !(I0 p a&&(I0 p b&& !decide (a=b)))) (fun j hj=>bW (aA (S3 n hpl a) (Ev.cond (fun h=>hj _ ?_) (fun h=>aA (S3 n hpl b) (Ev.cond (fun h2=>hj _ ?_) (fun h2=>hj _ ?_)))))) (fun z hz=> ?_))
  ·have:I0 p a=false:=aFB h
   rw [this];rfl
  ·have h1:I0 p a=true:=aCn h
   have h3:I0 p b=false:=aFB h2
   rw [h1,h3];rfl
  ·have h1:I0 p a=true:=aCn h
   have h3:I0 p b=true:=aCn h2
   rw [h1,h3];simp
  ·subst hz
   unfold pS
   rw [hv]
   cases h1:I0 p a with
   |false=>exact bQ (Ev.some rfl)
   |true=>
    cases h3:I0 p b with
    |false=>exact bQ (Ev.some rfl)
    |true=>
     cases h5:decide (a=b) with
     |true=>exact bQ (Ev.some rfl)
     |false=>
      refine bW (aH (K9 hn hv a) (fun r ⟨r1,r2⟩=>aH (K9 hn hv b) (fun s ⟨s1,s2⟩=> ?_)))
      exact(aCz (by omega) (T:=Q0 p) (by omega) r1 r2 s1 s2 (v:=aCw p a b) (by rw [indB_iff,I3 hv])).mono (fun r hr=>hr)
 ·rw [if_neg hv]
  refine bW (Ev.jn (fun z=>z=true) (fun j hj=>bQ (hj _ rfl)) (fun z hz=> ?_))
  rw [hz]
  refine bQ (Ev.some ?_)
  unfold pS
  rw [show bI p=false by simpa using hv];rfl
theorem aFl{n:Nat}(hn:7100≤n){p:Prog}(hp:SmP p)(a b:Int):eA n p a b=some (pS p a b):=by
 unfold eA
 refine Ev.eq (Ev.jn (fun z=>z= !(bI p&&(I0 p a&&(I0 p b&& !decide (a=b))))) (fun j hj=> ?_) (fun z hz=> ?_))
 ·refine aA (jZ (by omega) hp) (Ev.cond (fun h=>hj _ ?_) (fun h=> ?_))
  ·rw [show bI p=false by simpa using h];rfl
  ·have hv:bI p=true:=by simpa using h
   rw [hv] at hj
   refine aG (fun h1=>hj _ ?_) (fun h1=>aG (fun h2=>hj _ ?_) (fun h2=>aG (fun h3=>hj _ ?_) (fun h3=>aG (fun h4=>hj _ ?_) (fun h4=>hj _ ?_))))
   ·rw [show I0 p a=false from decide_eq_false (by omega)];rfl
   ·rw [show I0 p b=false from decide_eq_false (by omega)];simp
   ·rw [show I0 p a=false from decide_eq_false (by omega)];rfl
   ·rw [show I0 p b=false from decide_eq_false (by omega)];simp
   ·rw [show I0 p a=true from decide_eq_true (by omega),show I0 p b=true from decide_eq_true (by omega)];simp
 ·subst hz
  unfold pS
  by_cases hv:bI p=true
  ·rw [hv]
   have ht:=D1 hv
   cases h1:I0 p a with
   |false=>exact bQ (Ev.some rfl)
   |true=>
    cases h3:I0 p b with
    |false=>exact bQ (Ev.some rfl)
    |true=>
     cases h5:decide (a=b) with
     |true=>exact bQ (Ev.some rfl)
     |false=>
      have hiff:=indB_iff.trans (I3 hv (a:=a) (b:=b))
      have hbad: ∀c,c<Q0 p→((inW (insts p.parts) p a c∧(inR (insts p.parts) p b c∨inW (insts p.parts) p b c))∨(inW (insts p.parts) p b c∧inR (insts p.parts) p a c))→aCw p a b=false:=fun c hc h=>by
       cases hvv:aCw p a b with
       |false=>rfl
       |true=>
        have:=hiff.1 hvv c hc
        rcases h with h|h
        ·exact absurd h this.1
        ·exact absurd h this.2
      refine bW (aH (qM hn hv a true) (fun x4 ⟨l4,m4⟩=>aH (qM hn hv b true) (fun x5 ⟨l5,m5⟩=>Ev.jn (fun z=>z=aCw p a b) (fun j hj=> ?_) (fun z hz=>Ev.some hz))))
      refine aA (X7 (by omega) (by omega) (by omega)) (Ev.cond (fun h=> ?_) (fun h=>hj _ ?_))
      ·have n1: ∀c,c∈x4→c∈x5→False:=fun c c1 c2=>by
        have:x4.any (fun c=>decide (c∈x5))=true:=List.any_eq_true.2 ⟨c,c1,decide_eq_true c2⟩
        rw [this] at h;cases h
       refine aH (qM hn hv b false) (fun x8 ⟨l8,m8⟩=>aA (X7 (by omega) (by omega) (by omega)) (Ev.cond (fun h=> ?_) (fun h=>hj _ ?_)))
       ·have n2: ∀c,c∈x4→c∈x8→False:=fun c c1 c2=>by
         have:x4.any (fun c=>decide (c∈x8))=true:=List.any_eq_true.2 ⟨c,c1,decide_eq_true c2⟩
         rw [this] at h;cases h
        refine aH (qM hn hv a false) (fun x10 ⟨l10,m10⟩=>aA (X7 (by omega) (by omega) (by omega)) (hj _ ?_))
        cases hm:x5.any (fun c=>decide (c∈x10)) with
        |true=>
         obtain⟨c,c1,c2⟩:=List.any_eq_true.1 hm
         obtain⟨q0,q1,q2⟩:=(m5 c).1 c1
         obtain⟨_,_,q3⟩:=(m10 c).1 (of_decide_eq_true c2)
         exact(hbad c.toNat q1 (.inr ⟨q2,q3⟩)).symm
        |false=>
         refine(hiff.2 (fun c hc=>⟨?_,?_⟩)).symm
         ·rintro⟨c1,c2|c2⟩
          ·exact n2 (c:Int) ((m4 _).2 ⟨by omega,hc,c1⟩) ((m8 _).2 ⟨by omega,hc,c2⟩)
          ·exact n1 (c:Int) ((m4 _).2 ⟨by omega,hc,c1⟩) ((m5 _).2 ⟨by omega,hc,c2⟩)
         ·rintro⟨c1,c2⟩
          have:x5.any (fun c=>decide (c∈x10))=true:=List.any_eq_true.2 ⟨(c:Int),(m5 _).2 ⟨by omega,hc,c1⟩,decide_eq_true ((m10 _).2 ⟨by omega,hc,c2⟩)⟩
          rw [this] at hm;cases hm
       ·have h':x4.any (fun c=>decide (c∈x8))=true:=by simpa using h
        obtain⟨c,c1,c2⟩:=List.any_eq_true.1 h'
        obtain⟨q0,q1,q2⟩:=(m4 c).1 c1
        obtain⟨_,_,q3⟩:=(m8 c).1 (of_decide_eq_true c2)
        exact(hbad c.toNat q1 (.inl ⟨q2,.inl q3⟩)).symm
      ·have h':x4.any (fun c=>decide (c∈x5))=true:=by simpa using h
       obtain⟨c,c1,c2⟩:=List.any_eq_true.1 h'
       obtain⟨q0,q1,q2⟩:=(m4 c).1 c1
       obtain⟨_,_,q3⟩:=(m5 c).1 (of_decide_eq_true c2)
       exact(hbad c.toNat q1 (.inl ⟨q2,.inr q3⟩)).symm
  ·rw [show bI p=false by simpa using hv]
   exact bQ (Ev.some rfl)
def dG{α:Type}(l:List α)(i:Nat)(a b:α):List α:=l.take i++b::a::l.drop (i+2)
theorem C9{α:Type}{l:List α}{i:Nat}{a b:α}(ha:l[i]? =some a)(hb:l[i+1]? =some b):l=l.take i++a::b::l.drop (i+2):=by
 have h1:l.drop i=a::l.drop (i+1):=mA ha
 have h2:l.drop (i+1)=b::l.drop (i+2):=mA hb
 rw [←h2,←h1,List.take_append_drop]
noncomputable def wE(p:Prog)(part:Int):Prog×Bool:=
 if pS p part (part+1)=true then
  (match ix p.parts part,ix p.parts (part+1) with
  |some P1,some P2=>(⟨p.arrays,dG p.parts part.toNat P1 P2⟩,true)
  |_,_=>noP)
 else noP
theorem u7{p:Prog}{a b:Int}(h:pS p a b=true):bI p=true∧(0≤a∧a<(p.parts.length:Int))∧(0≤b∧b<(p.parts.length:Int))∧aEj p a b:=by
 unfold pS at h
 simp only [Bool.and_eq_true] at h
 exact⟨h.1,of_decide_eq_true h.2.1,of_decide_eq_true h.2.2.1,indB_iff.1 h.2.2.2.2⟩
theorem B3{p:Prog}{part:Int}(h:pS p part (part+1)=true): ∃(i:Nat) (P1 P2:Part),part=i∧p.parts[i]? =some P1∧p.parts[i+1]? =some P2∧i+1<p.parts.length:=by
 obtain⟨hv,h1,h2,_⟩:=u7 h
 obtain⟨i,rfl⟩: ∃i:Nat,part=i:=⟨part.toNat,by omega⟩
 exact⟨i,_,_,rfl,List.getElem?_eq_getElem (by omega),List.getElem?_eq_getElem (by omega),by omega⟩
theorem sA{p:Prog}{i:Nat}{P1 P2:Part}(h:pS p (i:Int) ((i:Int)+1)=true)(h1:p.parts[i]? =some P1)(h2:p.parts[i+1]? =some P2):wE p (i:Int)=(⟨p.arrays,dG p.parts i P1 P2⟩,true):=by
 unfold wE
 rw [if_pos h,aO h1,show((i:Int)+1)=((i+1:Nat):Int) by omega,aO h2];rfl
theorem aD4{α:Type}{l:List α}{i:Nat}{a b:α}(ha:l[i]? =some a)(hb:l[i+1]? =some b){x:α}:x∈dG l i a b↔x∈l:=by
 conv=>rhs;rw [C9 ha hb]
 unfold dG
 simp only [List.mem_append,List.mem_cons]
 constructor
 ·rintro(h|h|h|h)
  ·exact .inl h
  ·exact .inr (.inr (.inl h))
  ·exact .inr (.inl h)
  ·exact .inr (.inr (.inr h))
 ·rintro(h|h|h|h)
  ·exact .inl h
  ·exact .inr (.inr (.inl h))
  ·exact .inr (.inl h)
  ·exact .inr (.inr (.inr h))
theorem yA{α:Type}{l:List α}{i:Nat}{a b:α}(h:i+1<l.length):(dG l i a b).length=l.length:=by
 unfold dG
 simp only [List.length_append,List.length_cons,List.length_take,List.length_drop];omega
theorem Q3{α:Type}{l:List α}{i:Nat}{a b:α}(ha:l[i]? =some a)(hb:l[i+1]? =some b):(l.set i b).set (i+1) a=dG l i a b:=by
 have hi:=(List.getElem?_eq_some_iff.1 hb).1
 have ht:(l.take i).length=i:=by rw [List.length_take];omega
 conv=>lhs;rw [C9 ha hb]
 rw [List.set_append_right _ _ (by omega),ht,Nat.sub_self,List.set_cons_zero,List.set_append_right _ _ (by omega),ht,show i+1-i=1 by omega]
 rfl
theorem aAI{α:Type}{l:List α}{i:Nat}{a b:α}(h:i+1<l.length):(dG l i a b)[i]? =some b∧(dG l i a b)[i+1]? =some a:=by
 have ht:(l.take i).length=i:=by rw [List.length_take];omega
 unfold dG
 refine⟨?_,?_⟩
 ·rw [List.getElem?_append_right (by omega),ht,Nat.sub_self];rfl
 ·rw [List.getElem?_append_right (by omega),ht,show i+1-i=1 by omega];rfl
theorem aD3{α:Type}{l:List α}{i:Nat}{a b:α}(ha:l[i]? =some a)(hb:l[i+1]? =some b):dG (dG l i a b) i b a=l:=by
 have hi:=(List.getElem?_eq_some_iff.1 hb).1
 have ht:(l.take i).length=i:=by rw [List.length_take];omega
 conv=>rhs;rw [C9 ha hb]
 have e1:(dG l i a b).take i=l.take i:=by
  unfold dG
  rw [List.take_append_of_le_length (by omega),List.take_of_length_le (by omega)]
 have e2:(dG l i a b).drop (i+2)=l.drop (i+2):=by
  unfold dG
  rw [List.drop_append,ht,List.drop_of_length_le (by omega),show i+2-i=2 by omega];rfl
 show(dG l i a b).take i++a::b::(dG l i a b).drop (i+2)=_
 rw [e1,e2]
theorem V7{p:Prog}(hv:bI p=true){i:Nat}{P1 P2:Part}(h1:p.parts[i]? =some P1)(h2:p.parts[i+1]? =some P2):bI ⟨p.arrays,dG p.parts i P1 P2⟩=true:=by
 have hi:=(List.getElem?_eq_some_iff.1 h2).1
 unfold bI n7 at hv⊢
 simp only [Bool.and_eq_true,decide_eq_true_eq,List.all_eq_true] at hv⊢
 obtain⟨⟨a1,a2,a3⟩,a4⟩:=hv
 refine⟨⟨a1,by rw [yA hi];exact a2,fun x hx=>a3 x ((aD4 h1 h2).1 hx)⟩,?_⟩
 have e:=C9 h1 h2
 have:(p.parts.map fB).sum=((dG p.parts i P1 P2).map fB).sum:=by
  conv=>lhs;rw [e]
  unfold dG
  simp only [List.map_append,List.map_cons,List.sum_append,List.sum_cons]
  omega
 rw [←this];exact a4
theorem V8{p:Prog}(hv:bI p=true){i:Nat}{P1 P2:Part}(h1:p.parts[i]? =some P1)(h2:p.parts[i+1]? =some P2):BG 1000 ⟨p.arrays,dG p.parts i P1 P2⟩:=(aJ1 (V7 hv h1 h2)).mono (by omega)
theorem aFe(p:Prog)(part:Int):BG 1000 (wE p part).1:=by
 by_cases h:pS p part (part+1)=true
 ·obtain⟨i,P1,P2,rfl,h1,h2,_⟩:=B3 h
  rw [sA h h1 h2]
  exact V8 (u7 h).1 h1 h2
 ·unfold wE
  rw [if_neg h]
  exact aIQ
theorem S8{n:Nat}(hn:7100≤n){p:Prog}(hp:BG 1000 p){part:Int}(hb: -1≤part∧part≤9):jP n p part=some (wE p part):=by
 unfold jP
 rw [aM (n:=part+1) (by omega)]
 refine Ev.eq (Ev.jn (fun z=>z= !pS p part (part+1)) (fun j hj=> ?_) (fun z hz=> ?_))
 ·refine aG (fun h=>hj _ ?_) (fun h=>aG (fun h2=>hj _ ?_) (fun h2=>aA (aFQ hn hp.sm part (part+1)) (hj _ rfl)))
  ·cases hc:pS p part (part+1) with
   |false=>rfl
   |true=>have:=u7 hc;omega
  ·cases hc:pS p part (part+1) with
   |false=>rfl
   |true=>have:=u7 hc;omega
 ·subst hz
  cases hc:pS p part (part+1) with
  |false=>
   refine bQ (Ev.some ?_)
   unfold wE
   rw [if_neg (by rw [hc];simp)];rfl
  |true=>
   refine bW ?_
   obtain⟨i,P1,P2,rfl,h1,h2,hi⟩:=B3 hc
   rw [sA hc h1 h2,show((i:Int)+1)=((i+1:Nat):Int) by omega]
   refine aA (aIO (by omega) (u7 hc).1) (aA (aO h2) (aA (aO h1) (aA (jV (by omega) _) ?_)))
   rw [Int.toNat_natCast]
   have h3:(p.parts.set i P2)[i+1]? =some P2:=by rw [List.getElem?_set_ne (by omega)];exact h2
   refine aA (aO h3) (aA (jV (by rw [List.length_set];omega) _) (Ev.some ?_))
   rw [Int.toNat_natCast,Q3 h1 h2]
theorem aD8{n:Nat}(hn:7100≤n){p:Prog}(hp:BG 1000 p){part:Int}(hb: -1≤part∧part≤9):lX n p part=some (wE p part):=by
 unfold lX
 rw [aM (n:=part+1) (by omega)]
 refine Ev.eq (aA (aCk (by omega) hp) (aA (aFl hn hp.sm part (part+1)) ?_))
 cases hc:pS p part (part+1) with
 |false=>
  refine bQ (Ev.some ?_)
  unfold wE
  rw [if_neg (by rw [hc];simp)];rfl
 |true=>
  refine bW ?_
  obtain⟨i,P1,P2,rfl,h1,h2,hi⟩:=B3 hc
  have hv:=(u7 hc).1
  have hpl:=hp.2.1
  rw [sA hc h1 h2,show((i:Int)+1)=((i+1:Nat):Int) by omega]
  refine aA (aO h2) (aA (aO h1) (aA (x:=(⟨p.arrays,dG p.parts i P1 P2⟩,true)) (Ev.eq ?_) (Ev.some rfl)))
  unfold wG
  refine aA (tC (by omega) hp) (aA (W0 (by omega) (by omega) (by omega)) ?_)
  rw [Int.toNat_natCast,show(0:Int).toNat=0 from rfl,List.drop_zero]
  refine aA (x:=p.parts.take i) (bX (by simp;omega)) (aA (x:=p.parts.take i++[P2,P1]) (bX (by simp;omega)) ?_)
  rw [aM (by omega)]
  refine aA (W0 (by omega) (by omega) (by omega)) ?_
  rw [Int.toNat_natCast,List.take_length,show((i:Int)+2).toNat=i+2 by omega]
  refine aA (x:=dG p.parts i P1 P2) ?_ (aA (jZ (by omega) (V8 hv h1 h2).sm) ?_)
  ·rw [bX (by simp;omega),List.append_assoc];rfl
  ·rw [V7 hv h1 h2]
   exact bW (aA (tC (by omega) (V8 hv h1 h2)) (Ev.some rfl))
def rho(i:Nat)(x:Inst):Inst:=if x.part=(i:Int) then⟨(i:Int)+1,x.stmt,x.point⟩ else if x.part=(i:Int)+1 then⟨(i:Int),x.stmt,x.point⟩ else x
theorem instP_part{i:Nat}{P:Part}{x:Inst}(h:x∈instP i P):x.part=(i:Int):=by
 unfold instP at h
 obtain⟨q,_,h⟩:=List.mem_flatMap.1 h
 obtain⟨t,_,rfl⟩:=List.mem_map.1 h
 rfl
theorem instP_rho{i j:Nat}{P:Part}{σ:Inst→Inst}(h: ∀s q,σ ⟨(i:Int),s,q⟩=⟨(j:Int),s,q⟩):(instP i P).map σ=instP j P:=by
 unfold instP
 rw [List.map_flatMap,List.flatMap_def,List.flatMap_def]
 congr 1
 refine List.map_congr_left (fun q _=> ?_)
 rw [List.map_map]
 exact List.map_congr_left (fun t _=>h _ _)
theorem insts_cons(P:Part)(ps:List Part):insts (P::ps)=instP 0 P++(insts ps).map (kU 1):=by
 have h1:=insts_app [P] ps
 have h2:insts [P]=instP 0 P:=by unfold insts;simp
 rw [h2] at h1
 exact h1
theorem insts_two(A C:List Part)(P1 P2:Part):insts (A++P1::P2::C)=insts A++(instP A.length P1++(instP (A.length+1) P2++((insts C).map (kU 1)).map (fun x=>kU A.length (kU 1 x)))):=by
 rw [insts_app,insts_cons,insts_cons,List.map_append,List.map_append,List.map_append]
 congr 2
 ·exact instP_rho (fun s q=>by unfold kU;simp)
 ·rw [List.map_map,List.map_map]
  congr 1
  exact instP_rho (fun s q=>by unfold kU;simp<;>omega)
theorem aHs{i:Nat}{x:Inst}(h:x.part<(i:Int)):rho i x=x:=by
 unfold rho
 rw [if_neg (by omega),if_neg (by omega)]
theorem aFs{i:Nat}{x:Inst}(h:(i:Int)+1<x.part):rho i x=x:=by
 unfold rho
 rw [if_neg (by omega),if_neg (by omega)]
theorem insts_lt{ps:List Part}{x:Inst}(h:x∈insts ps):0≤x.part∧x.part<(ps.length:Int):=by
 obtain⟨i,k,P,s,e1,_,e3,_⟩:=insts_mem h
 have:=(List.getElem?_eq_some_iff.1 e3).1
 omega
theorem aGC{p:Prog}(hv:bI p=true){x:Inst}(hx:dW p x): ∀{Y:List Inst} {m:List Int},(∀y∈Y,dW p y)→(∀y∈Y,com p x y)→iB p.arrays m→cH p (nO p m x) Y=nO p (cH p m Y) x
 | [],m,_,_,_=>rfl
 |y::Y,m,h1,h2,hm=>by
  show cH p (nO p (nO p m x) y) Y=nO p (cH p (nO p m y) Y) x
  rw [h2 y List.mem_cons_self m hm]
  exact aGC hv hx (fun z hz=>h1 z (List.mem_cons_of_mem _ hz)) (fun z hz=>h2 z (List.mem_cons_of_mem _ hz)) (A8 hv hm (h1 y List.mem_cons_self))
theorem block{p:Prog}(hv:bI p=true): ∀{X Y:List Inst} {m:List Int},(∀x∈X,dW p x)→(∀y∈Y,dW p y)→(∀x∈X,∀y∈Y,com p x y)→iB p.arrays m→cH p (cH p m X) Y=cH p (cH p m Y) X
 | [],Y,m,_,_,_,_=>rfl
 |x::X,Y,m,h1,h2,h3,hm=>by
  show cH p (cH p (nO p m x) X) Y=cH p (nO p (cH p m Y) x) X
  rw [block hv (fun z hz=>h1 z (List.mem_cons_of_mem _ hz)) h2 (fun z hz=>h3 z (List.mem_cons_of_mem _ hz)) (A8 hv hm (h1 x List.mem_cons_self)),aGC hv (h1 x List.mem_cons_self) h2 (h3 x List.mem_cons_self) hm]
theorem D6{p:Prog}{i:Nat}{P1 P2:Part}(h1:p.parts[i]? =some P1)(h2:p.parts[i+1]? =some P2):
  ∃A X1 X2 Z,insts p.parts=A++(X1++(X2++Z))∧insts (dG p.parts i P1 P2)=(A++(X2++(X1++Z))).map (rho i)∧(∀x∈X1,x.part=(i:Int))∧(∀x∈X2,x.part=(i:Int)+1):=by
 have hi:=(List.getElem?_eq_some_iff.1 h2).1
 have ht:(p.parts.take i).length=i:=by rw [List.length_take];omega
 refine⟨insts (p.parts.take i),instP i P1,instP (i+1) P2,((insts (p.parts.drop (i+2))).map (kU 1)).map (fun x=>kU i (kU 1 x)),?_,?_,fun x hx=>instP_part hx,fun x hx=>by have:=instP_part hx;omega⟩
 ·conv=>lhs;rw [C9 h1 h2]
  rw [insts_two,ht]
 ·unfold dG
  rw [insts_two,ht,List.map_append,List.map_append,List.map_append]
  congr 1
  ·exact(H4 (fun x hx=>aHs (by have:=insts_lt hx;omega))).symm
  ·congr 1
   ·exact(instP_rho (fun s q=>by unfold rho;simp)).symm
   ·congr 1
    ·exact(instP_rho (fun s q=>by unfold rho;simp)).symm
    ·refine(H4 (fun x hx=>aFs ?_)).symm
     obtain⟨y,hy,rfl⟩:=List.mem_map.1 hx
     obtain⟨z,hz,rfl⟩:=List.mem_map.1 hy
     have:=insts_lt hz
     unfold kU
     dsimp only
     omega
theorem Q1{p:Prog}{i:Nat}{P1 P2:Part}(h1:p.parts[i]? =some P1)(h2:p.parts[i+1]? =some P2){x:Inst}(hx:dW p x):nE ⟨p.arrays,dG p.parts i P1 P2⟩ (rho i x)=nE p x∧(rho i x).point=x.point:=by
 have hi:=(List.getElem?_eq_some_iff.1 h2).1
 have ht:(p.parts.take i).length=i:=by rw [List.length_take];omega
 obtain⟨s1,s2⟩:=aAI (a:=P1) (b:=P2) hi
 unfold rho
 split
 ·rename_i h
  refine⟨?_,rfl⟩
  unfold nE
  dsimp only
  rw [show((i:Int)+1).toNat=i+1 by omega,s2,h,Int.toNat_natCast,h1]
 ·split
  ·rename_i h
   refine⟨?_,rfl⟩
   unfold nE
   dsimp only
   rw [Int.toNat_natCast,s1,h,show((i:Int)+1).toNat=i+1 by omega,h2]
  ·rename_i n1 n2
   refine⟨?_,rfl⟩
   obtain⟨i',k,P,s,e1,e2,e3,e4,e5⟩:=hx
   unfold nE
   dsimp only
   rw [e1,Int.toNat_natCast]
   have:(dG p.parts i P1 P2)[i']? =p.parts[i']? :=by
    rw [←Q3 h1 h2,List.getElem?_set_ne (by omega),List.getElem?_set_ne (by omega)]
   rw [this]
theorem aFc{p:Prog}(hv:bI p=true){i:Nat}{P1 P2:Part}(h1:p.parts[i]? =some P1)(h2:p.parts[i+1]? =some P2)(hind:aEj p (i:Int) ((i:Int)+1)){m:List Int}(hm:iB p.arrays m):
  cH ⟨p.arrays,dG p.parts i P1 P2⟩ m (insts (dG p.parts i P1 P2))=cH p m (insts p.parts):=by
 obtain⟨A,X1,X2,Z,e1,e2,m1,m2⟩:=D6 h1 h2
 have hok: ∀x∈A++(X1++(X2++Z)),dW p x:=fun x hx=>insts_mem (by rw [e1];exact hx)
 have hA: ∀x∈A,dW p x:=fun x hx=>hok x (by simp [hx])
 have hX1: ∀x∈X1,dW p x:=fun x hx=>hok x (by simp [hx])
 have hX2: ∀x∈X2,dW p x:=fun x hx=>hok x (by simp [hx])
 have hZ: ∀x∈Z,dW p x:=fun x hx=>hok x (by simp [hx])
 rw [e2]
 have e3:cH ⟨p.arrays,dG p.parts i P1 P2⟩ m ((A++(X2++(X1++Z))).map (rho i))=cH p m (A++(X2++(X1++Z))):=by
  unfold cH
  rw [List.foldl_map]
  refine J2 (fun x hx m=> ?_)
  have hx':dW p x:=by
   simp only [List.mem_append] at hx
   rcases hx with h|h|h|h
   ·exact hA x h
   ·exact hX2 x h
   ·exact hX1 x h
   ·exact hZ x h
  obtain⟨q1,q2⟩:=Q1 h1 h2 hx'
  unfold nO
  rw [q1,q2]
 rw [e3,e1,lB,lB,lB,lB,lB,lB]
 have hmA:=tV hv hA hm
 rw [block hv hX2 hX1 (fun x hx y hy=> ?_) hmA]
 have hc: ¬aHS p y x:=hind y (by rw [e1];simp [hy]) x (by rw [e1];simp [hx]) (m1 y hy) (m2 x hx)
 have:=aKd hv (hX1 y hy) (hX2 x hx) hc
 intro m hm
 exact(this m hm).symm
theorem aFd{p:Prog}(hv:bI p=true){i:Nat}{P1 P2:Part}(h1:p.parts[i]? =some P1)(h2:p.parts[i+1]? =some P2)(hind:aEj p (i:Int) ((i:Int)+1)):pS ⟨p.arrays,dG p.parts i P1 P2⟩ (i:Int) ((i:Int)+1)=true:=by
 have hi:=(List.getElem?_eq_some_iff.1 h2).1
 obtain⟨A,X1,X2,Z,e1,e2,m1,m2⟩:=D6 h1 h2
 unfold pS
 rw [V7 hv h1 h2,show I0 ⟨p.arrays,dG p.parts i P1 P2⟩ (i:Int)=true from decide_eq_true (by dsimp only;rw [yA hi];omega),
  show I0 ⟨p.arrays,dG p.parts i P1 P2⟩ ((i:Int)+1)=true from decide_eq_true (by dsimp only;rw [yA hi];omega),decide_eq_false (show¬(i:Int)=(i:Int)+1 by omega)]
 simp only [Bool.true_and,Bool.not_false]
 rw [indB_iff]
 intro x hx y hy hxa hyb hc
 dsimp only at hx hy
 rw [e2] at hx hy
 obtain⟨x',hx',rfl⟩:=List.mem_map.1 hx
 obtain⟨y',hy',rfl⟩:=List.mem_map.1 hy
 have mem: ∀z,z∈A++(X2++(X1++Z))→z∈insts p.parts:=fun z hz=>by
  rw [e1]
  simp only [List.mem_append] at hz⊢
  rcases hz with h|h|h|h
  ·exact .inl h
  ·exact .inr (.inr (.inl h))
  ·exact .inr (.inl h)
  ·exact .inr (.inr (.inr h))
 have px:x'.part=(i:Int)+1:=by
  unfold rho at hxa
  split at hxa
  ·dsimp only at hxa;omega
  ·split at hxa
   ·assumption
   ·omega
 have py:y'.part=(i:Int):=by
  unfold rho at hyb
  split at hyb
  ·assumption
  ·split at hyb
   ·dsimp only at hyb;omega
   ·omega
 have cell: ∀z∈insts p.parts,wc ⟨p.arrays,dG p.parts i P1 P2⟩ (rho i z)=wc p z∧rc ⟨p.arrays,dG p.parts i P1 P2⟩ (rho i z)=rc p z:=fun z hz=>by
  obtain⟨q1,q2⟩:=Q1 h1 h2 (insts_mem hz)
  unfold wc rc
  rw [q1,q2]
  exact⟨rfl,rfl⟩
 have cx:=cell x' (mem x' hx')
 have cy:=cell y' (mem y' hy')
 refine hind y' (mem y' hy') x' (mem x' hx') py px ?_
 unfold aHS at hc⊢
 rw [cx.1,cx.2,cy.1,cy.2] at hc
 rcases hc with h|h|h
 ·exact .inr (.inl h)
 ·exact .inl h
 ·exact .inr (.inr h.symm)
end Go.Lift
