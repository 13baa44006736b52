/- Two programs that do the same. -/
import Derived.Test.YtcnponfkbblhpaaGreatCRun1
import Derived.Test.YtcnponfkbblhpaaGreatCDraw1
import Derived.Test.YtcnponfkbblhpaaGreatCDrawD
set_option maxRecDepth 100000
set_option linter.unusedVariables false
namespace Go.Lift
open Go
theorem aIB{n:Nat}(hn:7100≤n){p:Prog}(hp:SmP p)(hv:cF p=true):kZ n p=some (gN p.arrays):=by
 refine Ev.eq ?_
 obtain⟨hl,hd,_⟩:=jU hv
 unfold kZ
 refine aB (dZ (by omega) hp) ?_
 rw [hv]
 exact bV (aB (L5 (by omega) hl hd) (Ev.some rfl))
theorem aJI{α:Type}{n:Int}(h:0≤n∧n≤1000000000)(x:α):mk n x=some (List.replicate n.toNat x):=by unfold mk;rw [if_pos h]
theorem aGA{R:Type}{Q:R→Prop}{n:Nat}(hn:5000≤n){T:Nat}(hT:T≤1000){e:Int→Int}(he: ∀i,0≤i→i<(T:Int)→0≤e i∧e i≤999){K:List Int→Option R}(hK: ∀m,m.length=T→(∀x∈m,0≤x∧x≤999)→Ev (K m) Q):
  Ev (aM (fun again (z:(List Int)×Int)=>bif decide (z.2<(z.1.length:Int)) then(Option.bind (ix z.1 z.2) fun _=>Option.bind (dE z.1 z.2 (e z.2)) fun y=>again (y,wr (z.2+1))) else(K z.1)) n (List.replicate T 0,0)) Q:=by
 refine Ev.loop (fun z:List Int×Int=>0≤z.2∧z.2≤T∧z.1.length=T∧ ∀x∈z.1,0≤x∧x≤999) (fun z=>T-z.2.toNat) ?_ n _ ⟨Int.le_refl _,by dsimp only;omega,List.length_replicate,fun x hx=>by rw [(List.mem_replicate.1 hx).2];omega⟩ (by dsimp only;omega)
 rintro again ⟨x,i⟩ ⟨h0,h1,h2,h3⟩ hr
 dsimp only at h0 h1 h2 h3⊢
 refine aH (fun hlt=> ?_) (fun hge=>hK _ h2 h3)
 refine aB (aIV h0 (by omega)) (aB (aBf h0 (by omega) _) ?_)
 rw [aN (by omega)]
 exact hr _ ⟨by dsimp only;omega,by dsimp only;omega,by dsimp only;rw [List.length_set,h2],fun y hy=>by
  rcases List.mem_or_eq_of_mem_set hy with hy|rfl
  ·exact h3 y hy
  ·exact he i h0 (by omega)⟩ (by dsimp only;omega)
theorem aKE{x:Int}(h:0≤x):0≤Int.tmod x 1000∧Int.tmod x 1000≤999:=by
 have h1:=Int.tmod_nonneg 1000 h
 have h2:=Int.tmod_lt_of_pos x (show(0:Int)<1000 by omega)
 omega
theorem aFM{p:Prog}(hv:cF p=true):0≤gN p.arrays∧gN p.arrays≤144:=by
 obtain⟨hl,hd,_⟩:=jU hv
 have:=aDT hd
 omega
theorem aIP{p:Prog}{m:List Int}(hv:cF p=true)(hm:lI p.arrays m):aH6 p m=(kR p m (insts p.parts),true):=by
 unfold aH6;rw [aIj hv hm];rfl
theorem aHh{p q:Prog}(hp:SmP p)(hq:SmP q)(hv:cF p=true)(hw:cF q=true)(ha:q.arrays=p.arrays)(h: ∀m,lI p.arrays m→kR q m (insts q.parts)=kR p m (insts p.parts)){s:Int}(hs:0≤s∧s≤1048576):nO N p q s=some true:=by
 have hN:N=100000:=rfl
 have ht:=aFM hv
 refine Ev.eq ?_
 unfold nO
 refine aB (aIB (by omega) hp hv) (aB (aJI ⟨by omega,by omega⟩ 0) (aGA (n:=N) (T:=(gN p.arrays).toNat) (e:=fun i=>Int.tmod (wr ((wr ((wr (i*41))+(wr (s*17))))+3)) 1000) (K:=fun x3=>Option.bind (fI N p x3) fun x9=>Option.bind (fI N q x3) fun x10=>jn (fun(x13:Bool)=>some x13) (fun j11=>bif x9.2 then(bif x10.2 then(Option.bind (nZ N x9.1 x10.1) fun x12=>j11 x12) else(j11 false)) else(j11 false))) (by omega) (by omega) (fun i h0 h1=> ?_) (fun m h1 h2=> ?_)))
 ·rw [aN (n:=i*41) (by omega),aN (n:=s*17) (by omega),aN (n:=i*41+s*17) (by omega),aN (by omega)]
  exact aKE (by omega)
 ·have hmo:lI p.arrays m:=⟨by omega,h2⟩
  have hmq:lI q.arrays m:=by rw [ha];exact hmo
  have hml:=aEa hv hmo
  refine aB (sK (by omega) hp hml) (aB (sK (by omega) hq hml) ?_)
  rw [aIP hv hmo,aIP hw hmq,h m hmo]
  have hok: ∀x∈insts p.parts,lJ p x:=fun x hx=>insts_mem hx
  refine Ev.jn (fun z=>z=true) (fun j hj=>b7 (b7 (aB (A8 (by omega) (aEa hv (y8 hv hok hmo))) (hj _ rfl)))) (fun z hz=>Ev.some hz)
theorem o0{n:Nat}(hn:7100≤n){p:Prog}(hp:SmP p)(hv:cF p=true){x:Inst}(hx:lJ p x)(hl:x.point.length≤1000):eY n p x=some (rc p x,(wc p x:Int),true):=by
 refine Ev.eq ?_
 unfold eY
 refine Ev.jn (fun z=>z=false) (fun j hj=> ?_) (fun z hz=> ?_)
 ·refine aB (dZ (by omega) hp) ?_
  rw [hv]
  refine bV (aB (D0 (by omega) hp hl) (hj _ ?_))
  rw [(instB_iff hv).2 hx];rfl
 ·rw [hz]
  exact bV (aB (aAj hn hv hx) (Ev.some rfl))
theorem inst_pl{p:Prog}(hv:cF p=true){x:Inst}(hx:lJ p x):x.point.length≤4:=by
 obtain⟨i,k,P,s,d,e1,e2,e3,e4,e5,e6,e7,e8⟩:=inst_d hv hx
 have:=e7.1;have:=e7.2.1;omega
theorem aEG{p q:Prog}(hp:SmP p)(hq:SmP q)(hv:cF p=true)(hw:cF q=true){σ:Inst→Inst}(hi:insts q.parts=(insts p.parts).map σ)(hc: ∀x∈insts p.parts,rc q (σ x)=rc p x∧wc q (σ x)=wc p x):lP N p q=some true:=by
 have hN:N=100000:=rfl
 have hil:=(jU hv).2.2.2.2
 refine Ev.eq ?_
 unfold lP
 refine aB (gZ (by omega) hp) (aB (gZ (by omega) hq) ?_)
 rw [if_pos hv,if_pos hw,hi]
 refine fU (fun h=>absurd (by rw [List.length_map]) h) (fun _=> ?_)
 refine Ev.loop (fun z:Int=> ∃i:Nat,z=i∧i≤(insts p.parts).length) (fun z=>(insts p.parts).length-z.toNat) ?_ N _ ⟨0,rfl,by omega⟩ (by omega)
 rintro again z ⟨i,rfl,hle⟩ hr
 refine aH (fun hlt=> ?_) (fun _=>Ev.some rfl)
 obtain⟨x,hg⟩: ∃x,(insts p.parts)[i]? =some x:=⟨_,List.getElem?_eq_getElem (show i<(insts p.parts).length by omega)⟩
 have hg2:((insts p.parts).map σ)[i]? =some (σ x):=by rw [List.getElem?_map,hg];rfl
 have hx:=List.mem_of_getElem? hg
 have hxp:=insts_mem hx
 have hxq:lJ q (σ x):=insts_mem (by rw [hi];exact List.mem_of_getElem? hg2)
 have l1:=inst_pl hv hxp
 have l2:=inst_pl hw hxq
 refine aB (aS hg) (aB (o0 (by omega) hp hv hxp (by omega)) (aB (aS hg2) (aB (o0 (by omega) hq hw hxq (by omega)) ?_)))
 rw [(hc x hx).1,(hc x hx).2]
 have h12:=(inst_c hv hxp).2.2.1
 refine Ev.jn (fun z=>z=false) (fun j hj=>fU (fun h=>(h rfl).elim) (fun _=>aB (A8 (by omega) (by dsimp only;omega)) (hj _ rfl))) (fun z hz=> ?_)
 rw [hz,aN (by omega)]
 exact bV (hr _ ⟨i+1,by omega,by omega⟩ (by omega))
theorem tT{α β R:Type}{l:List α}{F:α→(β→Option R)→Option R}{g:α→β}{K:List β→Option R}{Q:R→Prop}{n:Nat}(hF: ∀x∈l,∀k:β→Option R,Ev (k (g x)) Q→Ev (F x k) Q)
  {s:Nat} (hs:s≤l.length) {pre:List β} (hp:pre.length≤1000) (hl:l.length≤1000) (hn:5000≤n) (hK:Ev (K (pre++(l.drop s).map g)) Q):
  Ev (aM (fun again ((x,i):List β×Int)=>bif decide (i<(l.length:Int)) then(Option.bind (ix l i) fun y=>F y (fun z=>Option.bind (app x [z]) fun w=>again (w,wr (i+1)))) else K x) n (pre,(s:Int))) Q:=by
 refine Ev.loop (fun z:List β×Int=> ∃i:Nat,z.2=i∧s≤i∧i≤l.length∧z.1=pre++((l.drop s).take (i-s)).map g) (fun z=>l.length-z.2.toNat) ?_ n _ ⟨s,rfl,by omega,by omega,by simp⟩ (by dsimp only;omega)
 rintro again ⟨x,z⟩ ⟨i,hz,hsi,hi,hx⟩ hr
 dsimp only at hz hx⊢
 subst hz
 refine aH (fun hlt=> ?_) (fun hge=> ?_)
 ·have hg:=List.getElem?_eq_getElem (show i<l.length by omega)
  have hxl:x.length≤2000:=by rw [hx,List.length_append,List.length_map,List.length_take,List.length_drop];omega
  refine aB (aS hg) (hF _ (List.mem_of_getElem? hg) _ (aB (cD (by simp;omega)) ?_))
  rw [aN (by omega)]
  refine hr _ ⟨i+1,by dsimp only;omega,by omega,by omega,?_⟩ (by dsimp only;omega)
  dsimp only
  rw [show i+1-s=(i-s)+1 by omega,List.take_add_one,List.getElem?_drop,show s+(i-s)=i by omega,hg,hx,List.map_append,List.append_assoc];rfl
 ·have:i=l.length:=by omega
  subst this
  rw [hx,List.take_of_length_le (by rw [List.length_drop];omega)];exact hK
theorem nA{α β R:Type}{l:List α}{f:α→Option β}{g:α→β}{K:List β→Option R}{Q:R→Prop}{n:Nat}(hf: ∀x∈l,f x=some (g x))(hl:l.length≤1000)(hn:5000≤n)(hK:Ev (K (l.map g)) Q):
  Ev (aM (fun again ((x,i):List β×Int)=>bif decide (i<(l.length:Int)) then(Option.bind (ix l i) fun y=>Option.bind (f y) fun z=>Option.bind (app x [z]) fun w=>again (w,wr (i+1))) else K x) n ([],0)) Q:=
 tT (F:=fun y k=>Option.bind (f y) k) (g:=g) (s:=0) (pre:=[]) (fun x hx k hk=>aB (hf x hx) hk) (by omega) (by simp) hl hn (by simpa using hK)
theorem Y7{α R:Type}{l:List α}{F:α→(α→Option R)→Option R}{W:List α→Option R→Option R}{m:List α→Int}{g:α→α}{K:List α→Option R}{Q:R→Prop}{n:Nat}
  (hW: ∀y o,y.length=l.length→Ev o Q→Ev (W y o) Q) (hm: ∀y:List α,y.length=l.length→m y=(l.length:Int))
  {s:Nat} (hs:s≤l.length) (hF: ∀x∈l,∀k:α→Option R,Ev (k (g x)) Q→Ev (F x k) Q) (hl:l.length≤1000) (hn:5000≤n) (hK:Ev (K (l.take s++(l.drop s).map g)) Q):
  Ev (aM (fun again ((y,i):List α×Int)=>W y (bif decide (i<m y) then(Option.bind (ix y i) fun x=>F x (fun z=>Option.bind (dE y i z) fun w=>again (w,wr (i+1)))) else K y)) n (l,(s:Int))) Q:=by
 refine Ev.loop (fun z:List α×Int=> ∃i:Nat,z.2=i∧s≤i∧i≤l.length∧z.1=l.take s++((l.drop s).take (i-s)).map g++l.drop i) (fun z=>l.length-z.2.toNat) ?_ n _ ⟨s,rfl,by omega,by omega,by simp⟩ (by dsimp only;omega)
 rintro again ⟨x,z⟩ ⟨i,hz,hsi,hi,hx⟩ hr
 dsimp only at hz hx⊢
 subst hz
 have hpl:(l.take s++((l.drop s).take (i-s)).map g).length=i:=by rw [List.length_append,List.length_map,List.length_take,List.length_take,List.length_drop];omega
 have hxl:x.length=l.length:=by rw [hx,List.length_append,hpl,List.length_drop];omega
 refine hW _ _ hxl ?_
 rw [hm _ hxl]
 refine aH (fun hlt=> ?_) (fun hge=> ?_)
 ·obtain⟨e,hg⟩: ∃e,l[i]? =some e:=⟨_,List.getElem?_eq_getElem (show i<l.length by omega)⟩
  have hgx:x[i]? =some e:=by
   rw [hx,List.getElem?_append_right (by omega),hpl,Nat.sub_self,List.getElem?_drop];exact hg
  refine aB (aS hgx) (hF _ (List.mem_of_getElem? hg) _ (aB (fC (by omega) _) ?_))
  rw [aN (by omega)]
  refine hr _ ⟨i+1,by dsimp only;omega,by omega,by omega,?_⟩ (by dsimp only;omega)
  dsimp only
  rw [hx,Int.toNat_natCast,List.set_append_right _ _ (by omega),hpl,Nat.sub_self,iH hg,List.set_cons_zero,show i+1-s=(i-s)+1 by omega,List.take_add_one,List.getElem?_drop,show s+(i-s)=i by omega,hg]
  simp
 ·have:i=l.length:=by omega
  subst this
  rw [hx,List.take_of_length_le (l:=l.drop s) (by rw [List.length_drop];omega),List.drop_length,List.append_nil];exact hK
def fN(f:Affine→Affine)(a:Access):Access:=⟨a.array,a.subs.map f⟩
def tU(f:Affine→Affine):Nat→Expr→Expr
 |0,e=>e
 |L+1,e=>⟨e.kind,e.num,if e.kind=2 then f e.index else⟨[],0⟩,if e.kind=3 then fN f e.read else⟨[],[]⟩,e.kids.map (tU f L)⟩
def tS(f:Affine→Affine)(s:Stmt):Stmt:=⟨fN f s.write,tU f 5 s.value⟩
def dI(f:Affine→Affine)(l:Loop):Loop:=⟨l.lo.map f,l.hi.map f⟩
theorem v7{e:Expr}{d:Int}(h:f0 e d=true)(hk:e.kind=2):bM e.index=true∧mZ e.read=true:=by
 unfold f0 bU at h
 rw [if_pos hk] at h
 simp only [Bool.and_eq_true] at h
 exact⟨h.2.2.1,h.2.1⟩
theorem v6{e:Expr}{d:Int}(h:f0 e d=true)(hk:e.kind=3):gT e.read d=true∧jH e.index=true:=by
 unfold f0 at h
 rw [if_neg (by omega),if_pos hk] at h
 simp only [Bool.and_eq_true] at h
 exact⟨h.2.2,h.2.1⟩
theorem aCJ{e:Expr}{d:Int}(h:f0 e d=true)(h2: ¬e.kind=2)(h3: ¬e.kind=3):jH e.index=true∧mZ e.read=true:=by
 unfold f0 at h
 rw [if_neg h2,if_neg h3] at h
 split at h<;>simp only [Bool.and_eq_true] at h<;>exact⟨h.2.1,h.2.2⟩
theorem xJ{a:Affine}(h:jH a=true):a=⟨[],0⟩:=by
 obtain⟨c,k⟩:=a
 simp only [jH,Bool.and_eq_true,decide_eq_true_eq] at h
 obtain⟨h1,rfl⟩:=h
 rw [List.eq_nil_of_length_eq_zero h1]
theorem xK{a:Access}(h:mZ a=true):a=⟨[],[]⟩:=by
 obtain⟨c,k⟩:=a
 simp only [mZ,Bool.and_eq_true,decide_eq_true_eq] at h
 obtain⟨rfl,h1⟩:=h
 rw [List.eq_nil_of_length_eq_zero h1]
theorem tY{n:Nat}(hn:5000≤n){a:Access}{d:Int}(ha:gT a d=true){F:Affine→Option Affine}{f:Affine→Affine}(hF: ∀x,bM x=true→F x=some (f x)):gA n a F=some (fN f a):=by
 obtain⟨h1,h2,h3⟩:=sO ha
 refine Ev.eq ?_
 unfold gA
 exact nA (K:=fun x1=>some (⟨a.array,x1⟩:Access)) (fun x hx=>hF x (h3 x hx)) (by omega) hn (Ev.some rfl)
theorem xT{d:Int}{F:Affine→Option Affine}{f:Affine→Affine}(hF: ∀x,bM x=true→F x=some (f x)): ∀(L n:Nat) (e:Expr),5000+L≤n→dA L e d=true→i_exprMap (n+1) e F=some (tU f L e)
 |0,_,_,_,h=>by cases h
 |L+1,n,e,hn,h=>by
  obtain⟨hk,ho,hs⟩:=gB h
  obtain⟨n,rfl⟩: ∃j,n=j+1:=⟨n-1,by omega⟩
  have hkl:e.kids.length≤2:=by have:=mN e.kind;omega
  unfold i_exprMap
  refine Ev.eq (Ev.jn (fun z=>(⟨z.1,z.2.1⟩:Affine)=(if e.kind=2 then f e.index else⟨[],0⟩)∧(⟨z.2.2.1,z.2.2.2⟩:Access)=(if e.kind=3 then fN f e.read else⟨[],[]⟩)) (fun j hj=> ?_) (fun z hz=> ?_))
  ·refine aH (fun h2=> ?_) (fun h2=>aH (fun h3=> ?_) (fun h3=> ?_))
   ·exact aB (hF _ (v7 ho h2).1) (hj _ ⟨by rw [if_pos h2],by rw [if_neg (by omega)]⟩)
   ·exact aB (tY (by omega) (v6 ho h3).1 hF) (hj _ ⟨by rw [if_neg h2],by rw [if_pos h3]⟩)
   ·exact hj _ ⟨by rw [if_neg h2],by rw [if_neg h3]⟩
  ·obtain⟨x4,x5,x6,x7⟩:=z
   obtain⟨z1,z2⟩:=hz
   dsimp only at z1 z2⊢
   refine nA (K:=fun x8=>some (⟨e.kind,e.num,(⟨x4,x5⟩:Affine),(⟨x6,x7⟩:Access),x8⟩:Expr)) (fun x hx=>xT hF L n x (by omega) (hs x hx)) (by omega) (by omega) (Ev.some ?_)
   rw [z1,z2];rfl
theorem xQ{n:Nat}(hn:6000≤n){s:Stmt}{d:Int}(hs:fQ s d=true){F:Affine→Option Affine}{f:Affine→Affine}(hF: ∀x,bM x=true→F x=some (f x)):gX n s F=some (tS f s):=by
 obtain⟨h1,h2,_⟩:=jQ hs
 obtain⟨n,rfl⟩: ∃j,n=j+1:=⟨n-1,by omega⟩
 unfold gX
 rw [tY (by omega) h1 hF,xT hF 5 n s.value (by omega) h2];rfl
theorem aAg{α:Type}{f:α→α}: ∀{l:List α},(∀x∈l,f x=x)→l.map f=l
 | [],_=>rfl
 |x::l,h=>by rw [List.map_cons,h x List.mem_cons_self,aAg (fun y hy=>h y (List.mem_cons_of_mem _ hy))]
theorem V0{f:Affine→Affine}{a:Access}{d:Int}(ha:gT a d=true)(hf: ∀x,bM x=true→f x=x):fN f a=a:=by
 obtain⟨h1,h2,h3⟩:=sO ha
 unfold fN
 rw [aAg (fun x hx=>hf x (h3 x hx))]
theorem aEb{d:Int}{f:Affine→Affine}(hf: ∀x,bM x=true→f x=x): ∀{L:Nat} {e:Expr},dA L e d=true→tU f L e=e
 |0,_,_=>rfl
 |L+1,e,h=>by
  obtain⟨hk,ho,hs⟩:=gB h
  obtain⟨kind,num,index,read,kids⟩:=e
  unfold tU
  dsimp only at hk ho hs⊢
  rw [aAg (fun x hx=>aEb hf (hs x hx))]
  by_cases h2:kind=2
  ·have e1:=v7 ho h2
   dsimp only at e1
   rw [if_pos h2,if_neg (by omega),hf _ e1.1,xK e1.2]
  ·by_cases h3:kind=3
   ·have e1:=v6 ho h3
    dsimp only at e1
    rw [if_neg h2,if_pos h3,V0 e1.1 hf,xJ e1.2]
   ·have e1:=aCJ ho h2 h3
    dsimp only at e1
    rw [if_neg h2,if_neg h3,xJ e1.1,xK e1.2]
theorem aIk{f:Affine→Affine}(hf: ∀x,bM x=true→f x=x){s:Stmt}{d:Int}(hs:fQ s d=true):tS f s=s:=by
 obtain⟨h1,h2,_⟩:=jQ hs
 unfold tS
 rw [V0 h1 hf,aEb hf h2]
def zH(l:Loop):Prop:=(l.lo.length≤2∧ ∀x∈l.lo,bM x=true)∧l.hi.length≤2∧ ∀x∈l.hi,bM x=true
theorem aJX{nest:List Loop}(h:Fit nest): ∀l∈nest,zH l:=fun l hl=>by
 obtain⟨i,hi⟩:=List.mem_iff_getElem?.1 hl
 have:=h.2 i l hi
 exact⟨(pQ this.1).2,(pQ this.2).2⟩
theorem rG{list:List Arr}{x:Part}(h:cA list x=true):x.nest.length≤4∧ ∀l∈x.nest,zH l:=by
 have:=(T0 (gR h).1).1
 exact⟨this.1,aJX this⟩
theorem aI5{a:Affine}(h:bM a=true):BA 4 a:=by have:=(jA h).1;unfold BA;omega
theorem aAQ{l:List Affine}(h1:l.length≤2)(h2: ∀x∈l,bM x=true):BAs 4 l:=⟨by omega,fun a ha=>aI5 (h2 a ha)⟩
theorem aI4{d:Int}: ∀{L:Nat} {e:Expr},dA L e d=true→BE 4 L e
 |0,_,h=>by cases h
 |L+1,e,h=>by
  obtain⟨hk,ho,hs⟩:=gB h
  have:=mN e.kind
  refine⟨by omega,?_,?_,fun k hk=>aI4 (hs k hk)⟩
  ·by_cases h2:e.kind=2
   ·exact aI5 (v7 ho h2).1
   ·by_cases h3:e.kind=3
    ·rw [xJ (v6 ho h3).2];unfold BA;simp
    ·rw [xJ (aCJ ho h2 h3).1];unfold BA;simp
  ·by_cases h3:e.kind=3
   ·have:=sO (v6 ho h3).1
    exact aAQ this.2.1 this.2.2
   ·by_cases h2:e.kind=2
    ·rw [xK (v7 ho h2).2];exact⟨by simp,fun x hx=>by cases hx⟩
    ·rw [xK (aCJ ho h2 h3).2];exact⟨by simp,fun x hx=>by cases hx⟩
theorem aK2{s:Stmt}{d:Int}(hs:fQ s d=true):BS 4 s:=by
 obtain⟨h1,h2,_⟩:=jQ hs
 have:=sO h1
 exact⟨aAQ this.2.1 this.2.2,aI4 h2⟩
theorem aJ8{list:List Arr}{x:Part}(h:cA list x=true):BPt 4 x:=by
 obtain⟨h1,h2⟩:=rG h
 obtain⟨_,h4,h5,_⟩:=gR h
 exact⟨⟨h1,fun l hl=>⟨aAQ (h2 l hl).1.1 (h2 l hl).1.2,aAQ (h2 l hl).2.1 (h2 l hl).2.2⟩⟩,h4.2,fun s hs=>aK2 (h5 s hs)⟩
theorem aK3{l:List Arr}(h1:l.length≤4)(h2:fK l):BR 4 l:=⟨h1,fun x hx=>by
 have:=h2 x hx
 simp only [jE,Bool.and_eq_true,decide_eq_true_eq] at this
 omega⟩
theorem E7{B:Nat}{l:List Affine}{f:Affine→Affine}(h:l.length≤B)(hf: ∀x∈l,BA B (f x)):BAs B (l.map f):=⟨by rw [List.length_map];exact h,fun a ha=>by
 obtain⟨x,hx,rfl⟩:=List.mem_map.1 ha
 exact hf x hx⟩
theorem aHe{d:Int}{f:Affine→Affine}(hf: ∀x,bM x=true→BA 4 (f x)): ∀{L:Nat} {e:Expr},dA L e d=true→BE 4 L (tU f L e)
 |0,_,h=>by cases h
 |L+1,e,h=>by
  obtain⟨hk,ho,hs⟩:=gB h
  have:=mN e.kind
  unfold tU BE
  refine⟨by dsimp only;rw [List.length_map];omega,?_,?_,fun k hk=> ?_⟩
  ·dsimp only
   by_cases h2:e.kind=2
   ·rw [if_pos h2];exact hf _ (v7 ho h2).1
   ·rw [if_neg h2];unfold BA;simp
  ·dsimp only
   by_cases h3:e.kind=3
   ·rw [if_pos h3]
    have:=sO (v6 ho h3).1
    exact E7 (by omega) (fun x hx=>hf x (this.2.2 x hx))
   ·rw [if_neg h3];exact⟨by simp,fun x hx=>by cases hx⟩
  ·obtain⟨x,hx,rfl⟩:=List.mem_map.1 hk
   exact aHe hf (hs x hx)
theorem aJ7{f:Affine→Affine}(hf: ∀x,bM x=true→BA 4 (f x)){s:Stmt}{d:Int}(hs:fQ s d=true):BS 4 (tS f s):=by
 obtain⟨h1,h2,_⟩:=jQ hs
 have:=sO h1
 exact⟨E7 (by omega) (fun x hx=>hf x (this.2.2 x hx)),aHe hf h2⟩
theorem aEv{f:Affine→Affine}(hf: ∀x,bM x=true→BA 4 (f x)){l:Loop}(h:zH l):BAs 4 (dI f l).lo∧BAs 4 (dI f l).hi:=
 ⟨E7 (by have:=h.1.1;omega) (fun x hx=>hf x (h.1.2 x hx)),E7 (by have:=h.2.1;omega) (fun x hx=>hf x (h.2.2 x hx))⟩
theorem U0(n:Nat){a:Affine}(h:a.coefs.length≤1000):cX n a=some a:=by
 unfold cX m_ownClone
 rw [if_pos (by omega)];rfl
theorem T9(n:Nat): ∀x,bM x=true→cX n x=some x:=fun x hx=>U0 n (by have:=(jA hx).1;omega)
theorem I8{n:Nat}(hn:5000≤n){l:List Affine}(h1:l.length≤2)(h2: ∀x∈l,bM x=true):fH n l=some l:=by
 unfold fH
 refine Ev.eq (nA (g:=fun x=>x) (K:=fun x1=>some x1) (fun x hx=>T9 n x (h2 x hx)) (by omega) hn (Ev.some ?_))
 simp
theorem aCK{n:Nat}(hn:5000≤n){nest:List Loop}(h1:nest.length≤4)(h2: ∀l∈nest,zH l):lY n nest=some nest:=by
 unfold lY
 refine Ev.eq ?_
 refine tT (β:=Loop) (l:=nest) (n:=n) (F:=fun x5 k=>Option.bind (fH n x5.lo) fun x6=>Option.bind (fH n x5.hi) fun x7=>k (⟨x6,x7⟩:Loop)) (g:=fun x=>x) (s:=0) (pre:=[]) (K:=fun x1=>some x1) ?_ (by omega) (by simp) (by omega) hn (Ev.some (by simp))
 exact fun x hx k hk=>aB (I8 hn (h2 x hx).1.1 (h2 x hx).1.2) (aB (I8 hn (h2 x hx).2.1 (h2 x hx).2.2) hk)
theorem aCH{n:Nat}(hn:6000≤n){s:Stmt}{d:Int}(hs:fQ s d=true):qO n s=some s:=by
 unfold qO
 rw [xQ hn hs (F:=fun q0=>cX n q0) (f:=fun x=>x) (T9 n),aIk (fun _ _=>rfl) hs];rfl
theorem aCI{n:Nat}(hn:6000≤n){list:List Arr}{x:Part}(h:cA list x=true):kB n x=some x:=by
 obtain⟨h1,h2⟩:=rG h
 obtain⟨_,h4,h5,_⟩:=gR h
 unfold kB
 refine Ev.eq (aB (aCK (by omega) h1 h2) (nA (g:=fun x=>x) (K:=fun x2=>some (⟨x.nest,x2⟩:Part)) (fun s hs=>aCH hn (h5 s hs)) (by omega) (by omega) (Ev.some ?_)))
 simp
theorem aCG{n:Nat}(hn:6000≤n){p:Prog}(h:cF p=true):eC n p=some p:=by
 obtain⟨h1,h2,h3,h4,_⟩:=jU h
 unfold eC
 refine Ev.eq (tT (F:=fun x5 k=>Option.bind (m_ownClone x5.dims) fun x6=>k (⟨x5.name,x6⟩:Arr)) (g:=fun x=>x) (s:=0) (pre:=[]) (K:=fun x1=>aM (fun again11 ((x8,x9):(List Part)×Int)=>
    bif decide (x9<(p.parts.length:Int)) then(
     Option.bind (ix p.parts x9) fun x12=>
     Option.bind (kB n x12) fun x13=>
     Option.bind (app x8 [x13]) fun x14=>
     again11 (x14,wr (x9+1))
    ) else(
     some (⟨x1,x8⟩:Prog)
    )
   ) n ([],0)) (fun x hx k hk=>aB (x:=x.dims) ?_ hk) (by omega) (by simp) (by omega) (by omega) ?_)
 ·have:=(aK3 h1 h2).2 x hx
  unfold m_ownClone
  rw [if_pos (by omega)]
 ·refine nA (g:=fun x=>x) (K:=fun x8=>some (⟨_,x8⟩:Prog)) (fun x hx=>aCI hn (h4 x hx)) (by omega) (by omega) (Ev.some ?_)
  simp
theorem hS{α:Type}{a b:List α}(h:b.length=a.length):fT a b=some ():=by unfold fT;rw [if_pos h]
theorem vC{n:Nat}(hn:5000≤n){l:Loop}(hl:zH l){F:Affine→Option Affine}{f:Affine→Affine}(hF: ∀x,bM x=true→F x=some (f x)):gY n l F=some (dI f l):=by
 obtain⟨⟨a1,a2⟩,b1,b2⟩:=hl
 unfold gY
 refine Ev.eq (Ev.loop (fun z:Loop×Int=>(z.2=0∧z.1=l)∨(z.2=1∧z.1=⟨l.lo.map f,l.hi⟩)∨(z.2=2∧z.1=dI f l)) (fun z=>3-z.2.toNat) ?_ n _ (.inl ⟨rfl,rfl⟩) (by dsimp only;omega))
 rintro again ⟨x,i⟩ hz hr
 dsimp only at hz hr⊢
 rcases hz with ⟨rfl,rfl⟩|⟨rfl,rfl⟩|⟨rfl,rfl⟩
 ·refine aB (hS rfl) (aB (hS rfl) (aH (fun _=>aH (fun _=> ?_) (fun h=>(h rfl).elim)) (fun h=>absurd h (by omega))))
  refine Y7 (F:=fun x k=>Option.bind (F x) k) (W:=fun _ o=>o) (m:=fun _=>(x.lo.length:Int)) (g:=f) (s:=0) (K:=fun y=>again ((⟨y,x.hi⟩:Loop),wr (0+1))) (fun _ _ _ h=>h) (fun _ _=>rfl) (by omega) (fun x hx k hk=>aB (hF x (a2 x hx)) hk) (by omega) hn ?_
  rw [aN (by omega)]
  exact hr _ (.inr (.inl ⟨by dsimp only;omega,by simp⟩)) (by dsimp only;omega)
 ·refine aB (hS (by simp)) (aB (hS rfl) (aH (fun _=>aH (fun h=>absurd h (by omega)) (fun _=>aH (fun _=> ?_) (fun h=>(h rfl).elim))) (fun h=>absurd h (by omega))))
  refine Y7 (F:=fun x k=>Option.bind (F x) k) (W:=fun _ o=>o) (m:=fun _=>(l.hi.length:Int)) (g:=f) (s:=0) (K:=fun y=>again ((⟨l.lo.map f,y⟩:Loop),wr (1+1))) (fun _ _ _ h=>h) (fun _ _=>rfl) (by omega) (fun x hx k hk=>aB (hF x (b2 x hx)) hk) (by omega) hn ?_
  rw [aN (by omega)]
  exact hr _ (.inr (.inr ⟨by dsimp only;omega,by simp [dI]⟩)) (by dsimp only;omega)
 ·refine aB (hS (by simp [dI])) (aB (hS (by simp [dI])) (aH (fun h=>absurd h (by omega)) (fun _=>Ev.some rfl)))
def qK(k:Nat)(g f:Affine→Affine)(x:Part)(l:Loop):Part:=⟨x.nest.take k++dI g l::(x.nest.drop (k+1)).map (dI f),x.body.map (tS f)⟩
theorem R6{n:Nat}(hn:6000≤n){nest:List Loop}{body:List Stmt}{s:Nat}(hs:s≤nest.length)(h1:nest.length≤4)(h2: ∀l∈nest.drop s,zH l){d:Int}(h3:body.length≤4)(h4: ∀s∈body,fQ s d=true){F:Affine→Option Affine}{f:Affine→Affine}(hF: ∀x,bM x=true→F x=some (f x)):
  jK n ⟨nest,body⟩ (s:Int) F=some ⟨nest.take s++(nest.drop s).map (dI f),body.map (tS f)⟩:=by
 have key: ∀(nest2:List Loop),Ev (aM (fun again2 ((y,j):(List Stmt)×Int)=>
    Option.bind (fT body y) fun x5=>
    bif decide (j<(body.length:Int)) then(
     Option.bind (ix y j) fun x6=>
     Option.bind (gX n x6 F) fun x7=>
     Option.bind (dE y j x7) fun x8=>
     again2 (x8,wr (j+1))
    ) else(
     some (⟨nest2,y⟩:Part)
    )
   ) n (body,0)) (fun r=>r=⟨nest2,body.map (tS f)⟩):=fun nest2=>
  Y7 (F:=fun x k=>Option.bind (gX n x F) k) (W:=fun y o=>Option.bind (fT body y) fun _=>o) (m:=fun _=>(body.length:Int)) (g:=tS f) (s:=0) (K:=fun y=>some (⟨nest2,y⟩:Part)) (fun y o h ho=>aB (hS h) ho) (fun _ _=>rfl) (by omega) (fun x hx k hk=>aB (xQ hn (h4 x hx) hF) hk) (by omega) (by omega) (Ev.some (by simp))
 unfold jK
 refine Ev.eq ?_
 -- the loops ahead stay: only those behind are changed
 refine Ev.loop (fun z:List Loop×Int=> ∃i:Nat,z.2=i∧s≤i∧i≤nest.length∧z.1=nest.take s++((nest.drop s).take (i-s)).map (dI f)++nest.drop i) (fun z=>nest.length-z.2.toNat) ?_ n _ ⟨s,rfl,by omega,by omega,by simp⟩ (by dsimp only;omega)
 rintro again ⟨x,z⟩ ⟨i,hz,hsi,hi,hx⟩ hr
 dsimp only at hz hx⊢
 subst hz
 have hpl:(nest.take s++((nest.drop s).take (i-s)).map (dI f)).length=i:=by rw [List.length_append,List.length_map,List.length_take,List.length_take,List.length_drop];omega
 have hxl:x.length=nest.length:=by rw [hx,List.length_append,hpl,List.length_drop];omega
 refine aB (hS hxl) (aH (fun hlt=> ?_) (fun hge=> ?_))
 ·obtain⟨e,hg⟩: ∃e,nest[i]? =some e:=⟨_,List.getElem?_eq_getElem (show i<nest.length by omega)⟩
  have hgx:x[i]? =some e:=by
   rw [hx,List.getElem?_append_right (by omega),hpl,Nat.sub_self,List.getElem?_drop];exact hg
  have he:e∈nest.drop s:=List.mem_iff_getElem?.2 ⟨i-s,by rw [List.getElem?_drop,show s+(i-s)=i by omega];exact hg⟩
  refine aB (aS hgx) (aB (vC (by omega) (h2 _ he) hF) (aB (fC (by omega) _) ?_))
  rw [aN (by omega)]
  refine hr _ ⟨i+1,by dsimp only;omega,by omega,by omega,?_⟩ (by dsimp only;omega)
  dsimp only
  rw [hx,Int.toNat_natCast,List.set_append_right _ _ (by omega),hpl,Nat.sub_self,iH hg,List.set_cons_zero,show i+1-s=(i-s)+1 by omega,List.take_add_one,List.getElem?_drop,show s+(i-s)=i by omega,hg]
  simp
 ·have:i=nest.length:=by omega
  subst this
  rw [hx,List.take_of_length_le (l:=nest.drop s) (by rw [List.length_drop];omega),List.drop_length,List.append_nil]
  exact key _
theorem Z2{n:Nat}(hn:5000≤n){l:List Affine}(h1:l.length≤2)(h2: ∀x∈l,bM x=true){way v:Int}{b:Affine}{f:Affine→Affine}(hF: ∀x,bM x=true→gO n x way v b=some (f x)):n8 n l way v b=some (l.map f):=by
 unfold n8
 exact Ev.eq (nA (K:=fun x1=>some x1) (fun x hx=>hF x (h2 x hx)) (by omega) hn (Ev.some rfl))
theorem aER{n:Nat}(hn:5000≤n){l:Loop}(hl:zH l){way v:Int}{b:Affine}{f:Affine→Affine}(hF: ∀x,bM x=true→gO n x way v b=some (f x)):qA n l way v b=some (dI f l):=by
 unfold qA
 rw [Z2 hn hl.1.1 hl.1.2 hF,Z2 hn hl.2.1 hl.2.2 hF];rfl
theorem A9{n:Nat}(hn:5000≤n){a:Access}{d:Int}(ha:gT a d=true){way v:Int}{b:Affine}{f:Affine→Affine}(hF: ∀x,bM x=true→gO n x way v b=some (f x)):jR n a way v b=some (fN f a):=by
 have:=sO ha
 unfold jR
 rw [Z2 hn this.2.1 this.2.2 hF];rfl
theorem V3{d way v:Int}{b:Affine}{f:Affine→Affine}(hF: ∀n,5000≤n→ ∀x,bM x=true→gO n x way v b=some (f x)): ∀(L n:Nat) (e:Expr),5000+L≤n→dA L e d=true→s_l8Expr (n+1) e way v b=some (tU f L e)
 |0,_,_,_,h=>by cases h
 |L+1,n,e,hn,h=>by
  obtain⟨hk,ho,hs⟩:=gB h
  obtain⟨n,rfl⟩: ∃j,n=j+1:=⟨n-1,by omega⟩
  have hkl:e.kids.length≤2:=by have:=mN e.kind;omega
  unfold s_l8Expr
  refine Ev.eq (Ev.jn (fun z=>(⟨z.1,z.2⟩:Affine)=(if e.kind=2 then f e.index else⟨[],0⟩)) (fun j hj=> ?_) (fun z hz=>Ev.jn (fun y=>(⟨y.1,y.2⟩:Access)=(if e.kind=3 then fN f e.read else⟨[],[]⟩)) (fun j hj=> ?_) (fun y hy=> ?_)))
  ·exact aH (fun h2=>aB (hF _ (by omega) _ (v7 ho h2).1) (hj _ (by rw [if_pos h2]))) (fun h2=>hj _ (by rw [if_neg h2]))
  ·exact aH (fun h3=>aB (A9 (by omega) (v6 ho h3).1 (hF _ (by omega))) (hj _ (by rw [if_pos h3]))) (fun h3=>hj _ (by rw [if_neg h3]))
  ·obtain⟨x3,x4⟩:=z
   obtain⟨x7,x8⟩:=y
   dsimp only at hz hy⊢
   refine nA (K:=fun x9=>some (⟨e.kind,e.num,(⟨x3,x4⟩:Affine),(⟨x7,x8⟩:Access),x9⟩:Expr)) (fun x hx=>V3 hF L n x (by omega) (hs x hx)) (by omega) (by omega) (Ev.some ?_)
   rw [hz,hy];rfl
theorem aET{n:Nat}(hn:6000≤n){l:List Stmt}{d:Int}(h1:l.length≤4)(h2: ∀s∈l,fQ s d=true){way v:Int}{b:Affine}{f:Affine→Affine}(hF: ∀n,5000≤n→ ∀x,bM x=true→gO n x way v b=some (f x)):tA n l way v b=some (l.map (tS f)):=by
 obtain⟨n,rfl⟩: ∃j,n=j+1:=⟨n-1,by omega⟩
 unfold tA
 refine Ev.eq ?_
 refine tT (β:=Stmt) (l:=l) (n:=n+1) (F:=fun x5 k=>Option.bind (jR (n+1) x5.write way v b) fun x6=>Option.bind (s_l8Expr (n+1) x5.value way v b) fun x7=>k (⟨x6,x7⟩:Stmt)) (g:=tS f) (s:=0) (pre:=[]) (K:=fun x1=>some x1) (fun x hx k hk=> ?_) (by omega) (by simp) (by omega) (by omega) (Ev.some (by simp))
 obtain⟨h1,h2,_⟩:=jQ (h2 x hx)
 exact aB (A9 (by omega) h1 (hF _ (by omega))) (aB (V3 hF 5 n x.value (by omega) h2) hk)
theorem aCU{n:Nat}(hn:6000≤n){x:Part}{s:Nat}(hs:s+1≤x.nest.length)(h1:x.nest.length≤4)(h2: ∀l∈x.nest,zH l){d:Int}(h3:x.body.length≤4)(h4: ∀s∈x.body,fQ s d=true){way v:Int}{b:Affine}{f:Affine→Affine}(hF: ∀n,5000≤n→ ∀x,bM x=true→gO n x way v b=some (f x)):
  qB n x (s:Int) way v b=some ⟨x.nest.take (s+1)++(x.nest.drop (s+1)).map (dI f),x.body.map (tS f)⟩:=by
 unfold qB
 rw [aN (by omega)]
 refine Ev.eq (aB (yX (by omega) (by omega) (by omega)) ?_)
 rw [show((s:Int)+1).toNat=s+1 by omega,show(0:Int).toNat=0 from rfl,List.drop_zero]
 refine aB (x:=x.nest.take (s+1)) (cD (by simp;omega)) (aB (aET hn h3 h4 hF) ?_)
 exact tT (F:=fun x8 k=>Option.bind (qA n x8 way v b) k) (g:=dI f) (s:=s+1) (pre:=x.nest.take (s+1)) (K:=fun x4=>some (⟨x4,x.body.map (tS f)⟩:Part)) (fun l hl k hk=>aB (aER (by omega) (h2 l hl) (hF _ (by omega))) hk) (by omega) (by simp;omega) (by omega) (by omega) (Ev.some rfl)
theorem U6(n:Nat){a:Affine}(h:BA 1000 a):fY n a=some a:=by
 unfold fY
 rw [eE _ h];rfl
theorem wA{n:Nat}(hn:5000≤n){l:List Affine}(h:BAs 1000 l):cS n l=some l:=by
 unfold cS
 exact Ev.eq (mQ (K:=fun x1=>some x1) (fun x hx=>U6 n (h.2 x hx)) h.1 hn (Ev.some rfl))
theorem U7{n:Nat}(hn:5000≤n){a:Access}(h:BAs 1000 a.subs):fZ n a=some a:=by
 unfold fZ
 rw [wA hn h];rfl
theorem J2: ∀(L n:Nat) (e:Expr),5000+L≤n→BE 1000 L e→s_l16OwnExpr (n+1) e=some e
 |0,_,_,_,h=>h.elim
 |L+1,n,e,hn,h=>by
  obtain⟨h1,h2,h3,h4⟩:=h
  obtain⟨n,rfl⟩: ∃j,n=j+1:=⟨n-1,by omega⟩
  unfold s_l16OwnExpr iO
  rw [U6 _ h2,U7 (by omega) h3]
  refine Ev.eq (aB rfl (aB rfl (aB (x:=e.kids) ?_ (Ev.some (by cases e;rfl)))))
  exact Ev.eq (mQ (f:=s_l16OwnExpr (n+1)) (K:=fun x1=>some x1) (fun x hx=>J2 L n x (by omega) (h4 x hx)) h1 (by omega) (Ev.some rfl))
theorem aCO{n:Nat}(hn:6000≤n){s:Stmt}(h:BS 1000 s):kL n s=some s:=by
 obtain⟨n,rfl⟩: ∃j,n=j+1:=⟨n-1,by omega⟩
 unfold kL
 rw [U7 (by omega) h.1,J2 5 n s.value (by omega) h.2];rfl
theorem aCQ{n:Nat}(hn:6000≤n){x:Part}(h:BPt 1000 x):kM n x=some x:=by
 obtain⟨⟨h1,h2⟩,h3,h4⟩:=h
 have e1:fX n x.nest=some x.nest:=by
  unfold fX
  refine Ev.eq (mQ (K:=fun x1=>some x1) (fun l hl=> ?_) h1 (by omega) (Ev.some rfl))
  unfold m8
  rw [wA (by omega) (h2 l hl).1,wA (by omega) (h2 l hl).2];rfl
 have e2:fV n x.body=some x.body:=by
  unfold fV
  exact Ev.eq (mQ (K:=fun x1=>some x1) (fun l hl=>aCO hn (h4 l hl)) h3 (by omega) (Ev.some rfl))
 unfold kM
 rw [e1,e2];rfl
theorem aCP{n:Nat}(hn:6000≤n){p:Prog}(h:BG 1000 p):gP n p=some p:=by
 obtain⟨⟨h1,h2⟩,h3,h4⟩:=h
 have e1:fD n p.arrays=some p.arrays:=by
  unfold fD
  refine Ev.eq (mQ (K:=fun x1=>some x1) (fun l hl=> ?_) h1 (by omega) (Ev.some rfl))
  unfold mC
  rw [eE _ (h2 l hl)];rfl
 have e2:fW n p.parts=some p.parts:=by
  unfold fW
  exact Ev.eq (mQ (K:=fun x1=>some x1) (fun l hl=>aCQ hn (h4 l hl)) h3 (by omega) (Ev.some rfl))
 unfold gP
 rw [e1,e2];rfl
theorem pZ{α:Type}{f:α→α→Option Bool}{l:List α}(hf: ∀x∈l,f x x=some true){n:Nat}(hn:l.length<n)(hl:l.length≤1000000):
  (bif !decide ((l.length:Int)=(l.length:Int)) then(some false) else(aM (fun again2 (x1:Int)=>bif decide (x1<(l.length:Int)) then(Option.bind (ix l x1) fun x3=>Option.bind (ix l x1) fun x4=>Option.bind (f x3 x4) fun x5=>bif !x5 then(some false) else(again2 (wr (x1+1)))) else(some true)) n 0))=some true:=by
 refine Ev.eq (fU (fun h=>(h rfl).elim) (fun _=> ?_))
 refine Ev.loop (fun x:Int=> ∃i:Nat,x=i∧i≤l.length) (fun x=>l.length-x.toNat) ?_ n 0 ⟨0,rfl,by omega⟩ (by omega)
 rintro again x ⟨i,rfl,hi⟩ hr
 refine aH (fun hlt=> ?_) (fun _=>Ev.some rfl)
 obtain⟨e,hg⟩: ∃e,l[i]? =some e:=⟨_,List.getElem?_eq_getElem (show i<l.length by omega)⟩
 refine aB (aS hg) (aB (aS hg) (aB (hf e (List.mem_of_getElem? hg)) (bV ?_)))
 rw [aN (by omega)]
 exact hr _ ⟨i+1,by omega,by omega⟩ (by omega)
theorem T3{a:List Int}{n:Nat}(hn:a.length<n)(hl:a.length≤1000000):jZ n a a=some true:=by
 unfold jZ
 refine Ev.eq (fU (fun h=>(h rfl).elim) (fun _=> ?_))
 refine Ev.loop (fun x:Int=> ∃i:Nat,x=i∧i≤a.length) (fun x=>a.length-x.toNat) ?_ n 0 ⟨0,rfl,by omega⟩ (by omega)
 rintro again x ⟨i,rfl,hi⟩ hr
 refine aH (fun hlt=> ?_) (fun _=>Ev.some rfl)
 obtain⟨e,hg⟩: ∃e,a[i]? =some e:=⟨_,List.getElem?_eq_getElem (show i<a.length by omega)⟩
 refine aB (aS hg) (aB (aS hg) (fU (fun h=>(h rfl).elim) (fun _=> ?_)))
 rw [aN (by omega)]
 exact hr _ ⟨i+1,by omega,by omega⟩ (by omega)
theorem aEx{n:Nat}(hn:5000≤n){a:Affine}(h:BA 1000 a):cG n a a=some true:=by
 unfold BA at h
 unfold cG
 refine Ev.eq (Ev.jn (fun z=>z=true) (fun j hj=>aB (T3 (by omega) (by omega)) (b7 (hj _ (decide_eq_true rfl)))) (fun z hz=>Ev.some hz))
theorem R0{n:Nat}(hn:5000≤n){l:List Affine}(h:BAs 1000 l):cU n l l (fun q0 q1=>cG n q0 q1)=some true:=by
 have:=h.1
 unfold cU
 exact pZ (fun x hx=>aEx hn (h.2 x hx)) (by omega) (by omega)
theorem aEy{n:Nat}(hn:5000≤n){a:Access}(h:BAs 1000 a.subs):iV n a a=some true:=by
 unfold iV
 refine Ev.eq (Ev.jn (fun z=>z=true) (fun j hj=> ?_) (fun z hz=>Ev.some hz))
 exact aH (fun _=>aB (R0 hn h) (hj _ rfl)) (fun h=>(h rfl).elim)
theorem aBG: ∀(L n:Nat) (e:Expr),5000+L≤n→BE 1000 L e→i_exprSame (n+1) e e=some true
 |0,_,_,_,h=>h.elim
 |L+1,n,e,hn,h=>by
  obtain⟨h1,h2,h3,h4⟩:=h
  obtain⟨n,rfl⟩: ∃j,n=j+1:=⟨n-1,by omega⟩
  unfold i_exprSame
  refine Ev.eq (Ev.jn (fun z=>z=true) (fun j hj=> ?_) (fun z hz=>Ev.some hz))
  refine aH (fun _=>aH (fun _=>aB (aEx (by omega) h2) (b7 (aB (aEy (by omega) h3) (b7 (aB (x:=true) ?_ (hj _ rfl)))))) (fun h=>(h rfl).elim)) (fun h=>(h rfl).elim)
  unfold iU
  exact pZ (fun x hx=>aBG L n x (by omega) (h4 x hx)) (by omega) (by omega)
theorem aFR{n:Nat}(hn:6000≤n){s:Stmt}(h:BS 1000 s):l5 n s s=some true:=by
 obtain⟨n,rfl⟩: ∃j,n=j+1:=⟨n-1,by omega⟩
 unfold l5
 refine Ev.eq (Ev.jn (fun z=>z=true) (fun j hj=> ?_) (fun z hz=>Ev.some hz))
 exact aB (aEy (by omega) h.1) (b7 (aB (aBG 5 n s.value (by omega) h.2) (hj _ rfl)))
theorem aGb{n:Nat}(hn:5000≤n){nest:List Loop}(h:BN 1000 nest):oZ n nest nest=some true:=by
 have:=h.1
 unfold oZ iT
 rw [pZ (fun l hl=> ?_) (by omega) (by omega)]
 ·rfl
 ·unfold kX
  refine Ev.eq (Ev.jn (fun z=>z=true) (fun j hj=> ?_) (fun z hz=>Ev.some hz))
  exact aB (R0 hn (h.2 l hl).1) (b7 (aB (R0 hn (h.2 l hl).2) (hj _ rfl)))
theorem aF8{n:Nat}(hn:6000≤n){x:Part}(h:BPt 1000 x):eU n x x=some true:=by
 have:=h.2.1
 unfold eU
 refine Ev.eq (Ev.jn (fun z=>z=true) (fun j hj=> ?_) (fun z hz=>Ev.some hz))
 refine aB (aGb (by omega) h.1) (b7 (aB (x:=true) ?_ (hj _ rfl)))
 unfold iR
 exact pZ (fun s hs=>aFR hn (h.2.2 s hs)) (by omega) (by omega)
theorem aF6{n:Nat}(hn:6000≤n){p:Prog}(h:BG 1000 p):eD n p p=some true:=by
 obtain⟨⟨h1,h2⟩,h3,h4⟩:=h
 unfold eD
 refine Ev.eq (Ev.jn (fun z=>z=true) (fun j hj=> ?_) (fun z hz=>Ev.some hz))
 refine aB (x:=true) ?_ (b7 (aB (x:=true) ?_ (hj _ rfl)))
 ·unfold hD
  refine pZ (fun x hx=> ?_) (by omega) (by omega)
  unfold eV
  refine Ev.eq (Ev.jn (fun z=>z=true) (fun j hj=> ?_) (fun z hz=>Ev.some hz))
  have:=h2 x hx
  exact aH (fun _=>aB (T3 (by omega) (by omega)) (hj _ rfl)) (fun h=>(h rfl).elim)
 ·unfold iS
  exact pZ (fun x hx=>aF8 hn (h4 x hx)) (by omega) (by omega)
def fR(p:Prog)(part loop:Int):Bool:=cF p&&match ix p.parts part with
 |some x=>decide (0≤loop∧loop<(x.nest.length:Int))
 |none=>false
theorem aGj{α:Type}{l:List α}{i:Int}(h: ¬(0≤i∧i<(l.length:Int))):ix l i=none:=by
 cases hx:ix l i with
 |none=>rfl
 |some x=>
  obtain⟨h1,h2⟩:=rM hx
  have:=(List.getElem?_eq_some_iff.1 h2).1
  exact absurd ⟨h1,by omega⟩ h
theorem aJO{α:Type}{l:List α}{i:Int}{x:α}(h:ix l i=some x): ∃k:Nat,i=k∧k<l.length∧l[k]? =some x:=by
 obtain⟨h1,h2⟩:=rM h
 exact⟨i.toNat,by omega,(List.getElem?_eq_some_iff.1 h2).1,h2⟩
theorem zL(n:Nat){p:Prog}(h:p.parts.length≤1000)(part:Int):eI n p part=some (decide (0≤part∧part<(p.parts.length:Int))):=by
 unfold eI
 rw [dC,aN (by omega)]
 exact congrArg some (decide_eq_decide.2 (by omega))
theorem aHd{n:Nat}(hn:7000≤n){p:Prog}(hp:BG 1000 p)(part loop:Int)(hl:loop≠ -1):nC n p part loop=some (if fR p part loop=true then(p,true) else(⟨[],[]⟩,false)):=by
 unfold nC
 refine Ev.eq (Ev.jn (fun z=>z= !fR p part loop) (fun j hj=> ?_) (fun z hz=> ?_))
 ·refine aB (dZ hn hp.sm) (Ev.cond (fun h=> ?_) (fun h=> ?_))
  ·refine hj _ ?_
   unfold fR
   rw [show cF p=false by simpa using h];rfl
  ·have hv:cF p=true:=by simpa using h
   refine aB (zL n hp.2.1 part) ?_
   by_cases hi:0≤part∧part<(p.parts.length:Int)
   ·obtain⟨x,hx,hx2⟩:=jC hi.1 hi.2
    rw [decide_eq_true hi]
    refine bV (fU (fun _=>aB (x:=fR p part loop) ?_ (hj _ rfl)) (fun h=>absurd h hl))
    unfold iY
    refine Ev.eq (Ev.jn (fun z=>z=fR p part loop) (fun j hj=> ?_) (fun z hz=>Ev.some hz))
    rw [zL n hp.2.1 part,decide_eq_true hi]
    refine aB rfl (b7 (aB hx ?_))
    have:=(hp.2.2 x (List.mem_of_getElem? hx2)).1.1
    rw [aN (by omega),dC]
    refine aB rfl (hj _ ?_)
    unfold fR
    rw [hv,hx]
    exact decide_eq_decide.2 (by omega)
   ·rw [decide_eq_false hi]
    refine b7 (hj _ ?_)
    unfold fR
    rw [aGj hi,Bool.and_false];rfl
 ·subst hz
  by_cases hc:fR p part loop=true
  ·rw [hc]
   have hv:cF p=true:=by unfold fR at hc;rw [Bool.and_eq_true] at hc;exact hc.1
   obtain⟨x,hx⟩: ∃x,ix p.parts part=some x:=by
    cases hx:ix p.parts part with
    |some x=>exact⟨x,rfl⟩
    |none=>unfold fR at hc;rw [hx,Bool.and_false] at hc;cases hc
   exact bV (aB (aCG (by omega) hv) (aB hx (Ev.some rfl)))
  ·rw [show fR p part loop=false by simpa using hc]
   exact b7 (Ev.some rfl)
def M6(q:Prog):Prog×Bool:=if cF q=true then(q,true) else(⟨[],[]⟩,false)
theorem aBF{n:Nat}(hn:7000≤n){p:Prog}(hp:BG 1000 p):oP n p=some (M6 p):=by
 unfold oP M6
 refine Ev.eq (aB (dZ hn hp.sm) (Ev.cond (fun h=>Ev.some ?_) (fun h=> ?_)))
 ·rw [if_neg (by simpa using h)]
 ·have hv:cF p=true:=by simpa using h
  rw [if_pos hv]
  exact aB (aCG (by omega) hv) (Ev.some rfl)
theorem aGs{n:Nat}(hn:7000≤n){p:Prog}(hp:BG 1000 p)(part loop:Int):uI n p part loop=some (fR p part loop):=by
 unfold uI
 refine Ev.eq (Ev.jn (fun z=>z=fR p part loop) (fun j hj=> ?_) (fun z hz=>Ev.some hz))
 refine aB (kN hn hp.sm) (Ev.cond (fun hv=> ?_) (fun hv=>hj _ (by unfold fR;rw [hv];rfl)))
 refine aH (fun h1=>aH (fun h2=> ?_) (fun h2=> ?_)) (fun h1=> ?_)
 ·obtain⟨x,hx,hx2⟩:=jC h1 h2
  refine aH (fun h3=>aB hx (hj _ ?_)) (fun h3=>hj _ ?_)
  ·unfold fR
   rw [hv,hx]
   exact decide_eq_decide.2 (by omega)
  ·unfold fR
   rw [hv,hx]
   exact(decide_eq_false (by omega)).symm
 ·exact hj _ (by unfold fR;rw [aGj (by omega),Bool.and_false])
 ·exact hj _ (by unfold fR;rw [aGj (by omega),Bool.and_false])
theorem aHB{n:Nat}(hn:7000≤n){p:Prog}(hp:BG 1000 p){i:Nat}(hi:i<p.parts.length){y:Part}(hy:BPt 1000 y):sZ n p (i:Int) 1 [y]=some (M6 ⟨p.arrays,p.parts.set i y⟩):=by
 have hpl:=hp.2.1
 have hq:BG 1000 ⟨p.arrays,p.parts.set i y⟩:=⟨hp.1,by dsimp only;rw [List.length_set];exact hpl,pD hp.2.2 hy⟩
 unfold sZ M6
 refine Ev.eq (aB (t1 (by omega) hp) (aB (yX (by omega) (by omega) (by omega)) ?_))
 rw [Int.toNat_natCast,show(0:Int).toNat=0 from rfl,List.drop_zero]
 refine aB (x:=p.parts.take i) (cD (by simp;omega)) (aB (x:=p.parts.take i++[y]) (cD (by simp;omega)) ?_)
 rw [aN (by omega)]
 refine aB (yX (by omega) (by omega) (by omega)) ?_
 rw [Int.toNat_natCast,List.take_length,show((i:Int)+1).toNat=i+1 by omega]
 refine aB (x:=p.parts.set i y) ?_ (aB (kN hn hq.sm) (Ev.cond (fun h=>Ev.some ?_) (fun h=> ?_)))
 ·rw [cD (by simp;omega),List.set_eq_take_append_cons_drop,if_pos hi,List.append_assoc];rfl
 ·rw [if_neg (by simpa using h)]
 ·rw [if_pos (by simpa using h)]
  exact aB (t1 (by omega) hq) (Ev.some rfl)
def fS(a:Affine)(k:Int)(b:Affine):Affine:=⟨List.zipWith (fun x y=>x+k*y) a.coefs b.coefs,a.const+k*b.const⟩
def pC(k:Nat):Affine:=⟨[0,0,0,0].set k 1,0⟩
def fB(k:Nat)(b x:Affine):Affine:=fS x (-(x.coefs.getD k 0)) b
def bB(m:Int)(a:Affine):Prop:=a.coefs.length=4∧qN m a.const∧ ∀c∈a.coefs,qN m c
theorem bB.mono{m m':Int}{a:Affine}(h:bB m a)(hm:m≤m'):bB m' a:=⟨h.1,⟨by have:=h.2.1.1;omega,by have:=h.2.1.2;omega⟩,fun c hc=>⟨by have:=(h.2.2 c hc).1;omega,by have:=(h.2.2 c hc).2;omega⟩⟩
theorem aBw{l:List Int}(h:l.length=4): ∃a b c d,l=[a,b,c,d]:=by
 match l,h with
 | [a,b,c,d],_=>exact⟨a,b,c,d,rfl⟩
theorem z7{a:Affine}(h:bM a=true):bB 99 a:=by
 obtain⟨h1,h2,h3⟩:=jA h
 exact⟨h1,h2,fun c hc=>⟨by have:=(h3 c hc).1;omega,by have:=(h3 c hc).2;omega⟩⟩
theorem w6{k:Nat}(hk:k<4):bB 6 (pC k):=by
 rcases(show k=0∨k=1∨k=2∨k=3 by omega) with rfl|rfl|rfl|rfl<;>(unfold bB qN pC;simp)
theorem wC{k b:Int}(hk:qN 1000 k)(hb:qN 1000 b):qN 1000000 (k*b):=aD6 (by omega) (by omega) hk hb
theorem wrB{a x:Int}(ha:qN 1000 a)(hx:qN 1000000 x):wr (a+wr x)=a+x:=by
 unfold qN at ha hx
 rw [aN (n:=x) (by omega),aN (by omega)]
theorem aJT(m:Nat)(a0 a1 a2 a3 ac k b0 b1 b2 b3 bc:Int):L2 (m+6) ⟨[a0,a1,a2,a3],ac⟩ k ⟨[b0,b1,b2,b3],bc⟩=
  some ⟨[wr (a0+wr (k*b0)),wr (a1+wr (k*b1)),wr (a2+wr (k*b2)),wr (a3+wr (k*b3))],wr (ac+wr (k*bc))⟩:=by kernel_rfl
theorem L1{n:Nat}(hn:5000≤n){a b:Affine}(ha:bB 1000 a)(hb:bB 1000 b){k:Int}(hk:qN 1000 k):L2 n a k b=some (fS a k b):=by
 obtain⟨m,rfl⟩: ∃m,n=m+6:=⟨n-6,by omega⟩
 obtain⟨ac,a⟩:=a
 obtain⟨bc,b⟩:=b
 obtain⟨h1,h2,h3⟩:=ha
 obtain⟨g1,g2,g3⟩:=hb
 dsimp only at h1 h2 h3 g1 g2 g3
 obtain⟨a0,a1,a2,a3,rfl⟩:=aBw h1
 obtain⟨b0,b1,b2,b3,rfl⟩:=aBw g1
 rw [aJT,wrB (h3 a0 (by simp)) (wC hk (g3 b0 (by simp))),wrB (h3 a1 (by simp)) (wC hk (g3 b1 (by simp))),wrB (h3 a2 (by simp)) (wC hk (g3 b2 (by simp))),wrB (h3 a3 (by simp)) (wC hk (g3 b3 (by simp))),wrB h2 (wC hk g2)]
 rfl
def aG8(a:Affine)(x:Int)(b:Affine)(y:Int):Affine:=⟨List.zipWith (fun p q=>x*p+y*q) a.coefs b.coefs,x*a.const+y*b.const⟩
theorem aJB(m:Nat)(a0 a1 a2 a3 ac x b0 b1 b2 b3 bc y:Int):bY (m+6) ⟨[a0,a1,a2,a3],ac⟩ x ⟨[b0,b1,b2,b3],bc⟩ y=
  some ⟨[wr (wr (x*a0)+wr (y*b0)),wr (wr (x*a1)+wr (y*b1)),wr (wr (x*a2)+wr (y*b2)),wr (wr (x*a3)+wr (y*b3))],wr (wr (x*ac)+wr (y*bc))⟩:=by kernel_rfl
theorem wrC{a x:Int}(ha:qN 1000000 a)(hx:qN 1000000 x):wr (wr a+wr x)=a+x:=by
 unfold qN at ha hx
 rw [aN (n:=x) (by omega),aN (n:=a) (by omega),aN (by omega)]
theorem xF{n:Nat}(hn:5000≤n){a b:Affine}(ha:bB 1000 a)(hb:bB 1000 b){x y:Int}(hx:qN 1000 x)(hy:qN 1000 y):bY n a x b y=some (aG8 a x b y):=by
 obtain⟨m,rfl⟩: ∃m,n=m+6:=⟨n-6,by omega⟩
 obtain⟨ac,a⟩:=a
 obtain⟨bc,b⟩:=b
 obtain⟨h1,h2,h3⟩:=ha
 obtain⟨g1,g2,g3⟩:=hb
 dsimp only at h1 h2 h3 g1 g2 g3
 obtain⟨a0,a1,a2,a3,rfl⟩:=aBw h1
 obtain⟨b0,b1,b2,b3,rfl⟩:=aBw g1
 rw [aJB,wrC (wC hx (h3 a0 (by simp))) (wC hy (g3 b0 (by simp))),wrC (wC hx (h3 a1 (by simp))) (wC hy (g3 b1 (by simp))),wrC (wC hx (h3 a2 (by simp))) (wC hy (g3 b2 (by simp))),wrC (wC hx (h3 a3 (by simp))) (wC hy (g3 b3 (by simp))),wrC (wC hx h2) (wC hy g2)]
 rfl
theorem aAB(a b:Affine)(k:Int):aG8 a 1 b k=fS a k b:=by
 unfold aG8 fS
 simp only [Int.one_mul]
theorem aKb(a b:Affine)(k:Int)(ha:a.coefs.length=4)(hb:b.coefs.length=4):(fS a k b).coefs.length=4:=by
 unfold fS
 rw [List.length_zipWith];omega
def aH1(a:Affine)(k:Nat)(b:Affine):Affine:=fS ⟨a.coefs.set k 0,a.const⟩ (a.coefs.getD k 0) b
theorem aDW{a:Affine}(h:bB 1000 a)(k:Nat):bB 1000 ⟨a.coefs.set k 0,a.const⟩:=⟨by dsimp only;rw [List.length_set];exact h.1,h.2.1,pD h.2.2 ⟨by omega,by omega⟩⟩
theorem aEq{a:Affine}(h:bB 1000 a){k:Nat}(hk:k<4):a.coefs[k]? =some (a.coefs.getD k 0)∧qN 1000 (a.coefs.getD k 0):=by
 have hl:k<a.coefs.length:=by rw [h.1];exact hk
 have e:=List.getElem?_eq_getElem hl
 have e2:a.coefs.getD k 0=a.coefs[k]:=by rw [List.getD_eq_getElem?_getD,e];rfl
 rw [e2]
 exact⟨e,h.2.2 _ (List.getElem_mem hl)⟩
theorem aCY{n:Nat}(hn:5000≤n){a b:Affine}(ha:bB 1000 a)(hb:bB 1000 b){k:Nat}(hk:k<4):xP n a (k:Int) b=some (aH1 a k b):=by
 obtain⟨h1,h2⟩:=aEq ha hk
 have hl:k<a.coefs.length:=by rw [ha.1];exact hk
 unfold xP
 rw [U0 n (by have:=ha.1;omega)]
 refine Ev.eq (aB rfl (aB (aS h1) (aB (fC (by omega) _) (aB (L1 hn (aDW ha k) hb h2) (Ev.some rfl)))))
theorem aCy{n:Nat}(hn:5000≤n){a b:Affine}(ha:bB 1000 a)(hb:bB 1000 b){k:Nat}(hk:k<4):qG n a (k:Int) b=some (aH1 a k b):=by
 obtain⟨h1,h2⟩:=aEq ha hk
 have hl:k<a.coefs.length:=by rw [ha.1];exact hk
 unfold qG
 rw [eE _ (by have:=ha.1;omega)]
 refine Ev.eq (aB rfl (aB (aS h1) (aB (fC (by omega) _) (aB (aS h1) (aB (xF hn (aDW ha k) hb ⟨by omega,by omega⟩ h2) (Ev.some ?_))))))
 rw [aAB];rfl
theorem L0(n:Nat){k:Nat}(hk:k<4):lX n (k:Int) 1=some (pC k):=by
 rcases(show k=0∨k=1∨k=2∨k=3 by omega) with rfl|rfl|rfl|rfl<;>rfl
theorem aBj(n:Nat){k:Nat}(hk:k<4):jN n (k:Int)=some (pC k):=by
 rcases(show k=0∨k=1∨k=2∨k=3 by omega) with rfl|rfl|rfl|rfl<;>rfl
def toB(k:Nat)(b:Affine):Affine:=fS (pC k) (-1) b
theorem aFQ{a b:Affine}(ha:a.coefs.length=4)(hb:b.coefs.length=4){k:Nat}(hk:k<4)(h0:b.coefs.getD k 0=0):aH1 a k (toB k b)=fB k b a:=by
 obtain⟨a,ac⟩:=a
 obtain⟨b,bc⟩:=b
 dsimp only at ha hb h0
 obtain⟨a0,a1,a2,a3,rfl⟩:=aBw ha
 obtain⟨b0,b1,b2,b3,rfl⟩:=aBw hb
 rcases(show k=0∨k=1∨k=2∨k=3 by omega) with rfl|rfl|rfl|rfl<;>
  (simp only [List.getD_cons_zero,List.getD_cons_succ] at h0;subst h0;simp [aH1,toB,fB,fS,pC,Int.mul_neg,Int.neg_mul])
def noP:Prog×Bool:=(⟨[],[]⟩,false)
def zF(p:Prog)(part loop:Int)(g f:Affine→Affine):Prog×Bool:=
 match ix p.parts part with
 |some P=>match ix P.nest loop with
  |some l=>M6 ⟨p.arrays,p.parts.set part.toNat (qK loop.toNat g f P l)⟩
  |none=>noP
 |none=>noP
theorem t0{p:Prog}{part loop:Int}(h:fR p part loop=true):cF p=true∧ ∃(i k:Nat) (P:Part) (l:Loop),part=i∧loop=k∧p.parts[i]? =some P∧P.nest[k]? =some l∧i<p.parts.length∧k<P.nest.length∧cA p.arrays P=true∧k<4:=by
 unfold fR at h
 rw [Bool.and_eq_true] at h
 obtain⟨hv,h⟩:=h
 refine⟨hv,?_⟩
 cases hx:ix p.parts part with
 |none=>rw [hx] at h;cases h
 |some P=>
  rw [hx] at h
  obtain⟨i,rfl,hi,hP⟩:=aJO hx
  obtain⟨h1,h2⟩:=of_decide_eq_true h
  obtain⟨l,hl,hl2⟩:=jC h1 h2
  have hok:=(jU hv).2.2.2.1 P (List.mem_of_getElem? hP)
  have:=(rG hok).1
  exact⟨i,loop.toNat,P,l,rfl,by omega,hP,hl2,hi,by omega,hok,by omega⟩
theorem aAe{list:List Arr}{P:Part}(hP:cA list P=true){k:Nat}{l:Loop}(hl:P.nest[k]? =some l){g f:Affine→Affine}(hg: ∀x,bM x=true→BA 4 (g x))(hf: ∀x,bM x=true→BA 4 (f x)):BPt 4 (qK k g f P l):=by
 obtain⟨h1,h2⟩:=rG hP
 obtain⟨_,h4,h5,_⟩:=gR hP
 have hk:=(List.getElem?_eq_some_iff.1 hl).1
 refine⟨⟨by simp only [qK,List.length_append,List.length_cons,List.length_map,List.length_take,List.length_drop];omega,fun y hy=> ?_⟩,by simp only [qK,List.length_map];exact h4.2,fun s hs=> ?_⟩
 ·rcases List.mem_append.1 hy with hy|hy
  ·exact((aJ8 hP).1.2 y (List.mem_of_mem_take hy))
  ·rcases List.mem_cons.1 hy with rfl|hy
   ·exact aEv hg (h2 l (List.mem_of_getElem? hl))
   ·obtain⟨z,hz,rfl⟩:=List.mem_map.1 hy
    exact aEv hf (h2 z (List.mem_of_mem_drop hz))
 ·obtain⟨z,hz,rfl⟩:=List.mem_map.1 hs
  exact aJ7 hf (h5 z hz)
theorem aHc{p:Prog}(hp:BG 1000 p)(i:Nat){y:Part}(hy:BPt 4 y):BG 1000 ⟨p.arrays,p.parts.set i y⟩:=⟨hp.1,by dsimp only;rw [List.length_set];exact hp.2.1,pD hp.2.2 (hy.mono (by omega))⟩
theorem F0{k:Int}{b:Affine}(hb:b.coefs.length=4): ∀x,bM x=true→BA 4 (fS x k b):=fun x hx=>by
 have:=aKb x b k (jA hx).1 hb
 unfold BA;omega
theorem aGB{k:Nat}{b:Affine}(hb:b.coefs.length=4): ∀x,bM x=true→BA 4 (fB k b x):=fun x hx=>F0 hb x hx
theorem aFN{k:Nat}(hk:k<4){b:Affine}(hb:bB 6 b):bB 1000 (toB k b):=by
 obtain⟨b,bc⟩:=b
 obtain⟨h1,h2,h3⟩:=hb
 dsimp only at h1 h2 h3
 obtain⟨b0,b1,b2,b3,rfl⟩:=aBw h1
 have c0:=h3 b0 (by simp)
 have c1:=h3 b1 (by simp)
 have c2:=h3 b2 (by simp)
 have c3:=h3 b3 (by simp)
 unfold qN at h2 c0 c1 c2 c3
 rcases(show k=0∨k=1∨k=2∨k=3 by omega) with rfl|rfl|rfl|rfl<;>
  (refine⟨rfl,?_,fun c hc=> ?_⟩<;>unfold qN<;>simp [toB,pC,fS] at* <;>omega)
theorem aIl{k:Nat}(hk:k<4){b:Affine}(hb:bB 6 b)(h0:b.coefs.getD k 0=0): ∀n,5000≤n→ ∀x,bM x=true→gO n x 1 (k:Int) (toB k b)=some (fB k b x):=fun n hn x hx=>by
 unfold gO
 rw [aCy hn ((z7 hx).mono (by omega)) (aFN hk hb) hk,aFQ (z7 hx).1 hb.1 hk h0];rfl
theorem aFO{α:Type}{l r:List α}{k:Nat}{x y:α}(h:l[k]? =some x):(l.take (k+1)++r).set k y=l.take k++y::r:=by
 have hk:=(List.getElem?_eq_some_iff.1 h).1
 rw [List.take_add_one,h,List.append_assoc,List.set_append_right _ _ (by simp;omega),List.length_take,Nat.min_eq_left (by omega),Nat.sub_self];rfl
theorem aIh{n:Nat}(hn:6000≤n){list:List Arr}{P:Part}(hP:cA list P=true){k:Nat}{l:Loop}(hl:P.nest[k]? =some l)(hk:k<4){b:Affine}(hb:bB 6 b)(h0:b.coefs.getD k 0=0):
  s8 n P (k:Int) b=some (qK k (fun x=>fS x 1 b) (fB k b) P l):=by
 obtain⟨h1,h2⟩:=rG hP
 obtain⟨_,h4,h5,_⟩:=gR hP
 have hkl:=(List.getElem?_eq_some_iff.1 hl).1
 have hlp:=h2 l (List.mem_of_getElem? hl)
 have hc: ∀x,bM x=true→bY n x 1 b 1=some (fS x 1 b):=fun x hx=>by
  rw [xF (by omega) ((z7 hx).mono (by omega)) (hb.mono (by omega)) ⟨by omega,by omega⟩ ⟨by omega,by omega⟩,aAB]
 unfold s8
 simp only [aS hl,Option.bind_some]
 refine Ev.eq (aB (aBj n hk) (aB (xF (by omega) ((w6 hk).mono (by omega)) (hb.mono (by omega)) ⟨by omega,by omega⟩ ⟨by omega,by omega⟩) ?_))
 rw [aAB]
 refine aB (aCU hn (by omega) h1 h2 h4.2 h5 (aIl hk hb h0)) ?_
 refine nA (n:=n) (l:=l.lo) (f:=fun x=>bY n x 1 b 1) (K:=fun x4=>aM (fun again15 ((x12,x13):(List Affine)×Int)=>
    bif decide (x13<(l.hi.length:Int)) then(
     Option.bind (ix l.hi x13) fun x16=>
     Option.bind (bY n x16 1 b 1) fun x17=>
     Option.bind (app x12 [x17]) fun x18=>
     again15 (x18,wr (x13+1))
    ) else(
     Option.bind (ix (P.nest.take (k+1)++(P.nest.drop (k+1)).map (dI (fB k b))) (k:Int)) fun x19=>
     Option.bind (dE (P.nest.take (k+1)++(P.nest.drop (k+1)).map (dI (fB k b))) (k:Int) (⟨x4,x12⟩:Loop)) fun x20=>
     some (⟨x20,P.body.map (tS (fB k b))⟩:Part)
    )
   ) n ([],0)) (fun x hx=>hc x (hlp.1.2 x hx)) (by have:=hlp.1.1;omega) (by omega) ?_
 refine nA (n:=n) (l:=l.hi) (f:=fun x=>bY n x 1 b 1) (g:=fun x=>fS x 1 b) (K:=fun x12=>Option.bind (ix (P.nest.take (k+1)++(P.nest.drop (k+1)).map (dI (fB k b))) (k:Int)) fun x19=>Option.bind (dE (P.nest.take (k+1)++(P.nest.drop (k+1)).map (dI (fB k b))) (k:Int) (⟨l.lo.map (fun x=>fS x 1 b),x12⟩:Loop)) fun x20=>some (⟨x20,P.body.map (tS (fB k b))⟩:Part)) (fun x hx=>hc x (hlp.2.2 x hx)) (by have:=hlp.2.1;omega) (by omega) ?_
 have hx:(P.nest.take (k+1)++(P.nest.drop (k+1)).map (dI (fB k b)))[k]? =some l:=by
  rw [List.getElem?_append_left (by simp;omega),List.getElem?_take,if_pos (by omega)];exact hl
 refine aB (aS hx) (aB (fC (by simp;omega) _) (Ev.some ?_))
 rw [Int.toNat_natCast,aFO hl];rfl
theorem aEX(n:Nat)(s:Int):tW n s=some (decide (-6≤s∧s≤6)):=by
 unfold tW;rw [dC];rfl
theorem aGt{p:Prog}{part loop:Int}(h:loop<0):fR p part loop=false:=by
 cases hc:fR p part loop with
 |false=>rfl
 |true=>obtain⟨_,i,k,P,l,_,hk,_⟩:=t0 hc;omega
theorem uR{p:Prog}{i k:Nat}{P:Part}{l:Loop}(hP:p.parts[i]? =some P)(hl:P.nest[k]? =some l)(g f:Affine→Affine):zF p (i:Int) (k:Int) g f=M6 ⟨p.arrays,p.parts.set i (qK k g f P l)⟩:=by
 unfold zF
 rw [aS hP]
 dsimp only
 rw [aS hl];rfl
theorem aFd{n:Nat}(hn:7000≤n){p:Prog}(hp:BG 1000 p)(part:Int):Ev (nC n p part (-1)) (fun r=>r.2=false→r=noP):=by
 unfold nC
 refine Ev.jn (fun z=>z=false→cF p=true∧(0≤part∧part<(p.parts.length:Int))) (fun j hj=> ?_) (fun z hz=> ?_)
 ·refine aB (dZ hn hp.sm) (Ev.cond (fun h=>hj _ (fun h=>by cases h)) (fun h=> ?_))
  refine aB (zL n hp.2.1 part) (Ev.cond (fun h=>hj _ (fun h=>by cases h)) (fun h2=>fU (fun h=>(h rfl).elim) (fun _=>hj _ (fun _=>⟨by simpa using h,by simpa using h2⟩))))
 ·refine Ev.cond (fun _=>Ev.some (fun _=>rfl)) (fun h=> ?_)
  obtain⟨hv,h1,h2⟩:=hz h
  obtain⟨x,hx,hx2⟩:=jC h1 h2
  exact aB (aCG (by omega) hv) (aB hx (Ev.some (fun h=>by cases h)))
theorem aIw{q:Prog}(h:BG 1000 q):BG 1000 (M6 q).1:=by
 unfold M6
 split
 ·exact h
 ·exact⟨⟨by simp,fun x hx=>by cases hx⟩,by simp,fun x hx=>by cases hx⟩
theorem aJD:BG 1000 noP.1:=⟨⟨by simp [noP],fun x hx=>by cases hx⟩,by simp [noP],fun x hx=>by cases hx⟩
theorem aEQ{p:Prog}(hp:BG 1000 p){part loop:Int}(hc:fR p part loop=true){g f:Affine→Affine}(hg: ∀x,bM x=true→BA 4 (g x))(hf: ∀x,bM x=true→BA 4 (f x)):BG 1000 (zF p part loop g f).1:=by
 obtain⟨hv,i,k,P,l,rfl,rfl,hP,hl,hi,hkl,hok,hk⟩:=t0 hc
 rw [uR hP hl]
 exact aIw (aHc hp i (aAe hok hl hg hf))
theorem aIK(code:List UInt8):Ev (Option.bind (nR N code) fun x1=>Option.bind (tB N x1) fun x2=>some (x2.1,x2.2.1,x2.2.2.1,x2.2.2.2.1)) (fun x=>BG 1000 x.1):=by
 have hN:N=100000:=rfl
 refine aL (aIc code) (fun x1 r1=>aL (P:=fun x=>BG 1000 x.1) ?_ (fun x2 h2=>Ev.some h2))
 unfold tB
 refine aL (aES r1 (by omega)) (fun x1 ⟨h1,r1⟩=>aL (aIg (by omega) r1 (by omega) h1) (fun x2 ⟨h2,r2⟩=>aL (jB N r2 (by omega) (by simp)) (fun x3 ⟨_,r3⟩=>aL (jB N r3 (by omega) (by simp)) (fun x4 ⟨_,r4⟩=>aL (jB N r4 (by omega) (by simp)) (fun x5 ⟨_,r5⟩=>Ev.some (h2.mono (show 30≤1000 by omega)))))))
def kA(k:Nat)(s:Int):Affine:=⟨[0,0,0,0].set k s,0⟩
theorem vD(k:Nat){s:Int}(h: -6≤s∧s≤6):bB 6 (kA k s):=by
 refine⟨by simp [kA],⟨by simp [kA],by simp [kA]⟩,pD (fun c hc=> ?_) ⟨h.1,h.2⟩⟩
 simp at hc
 subst hc
 exact⟨by omega,by omega⟩
theorem aKO(s:Int){k:Nat}(hk:k+1<4):(kA k s).coefs.getD (k+1) 0=0:=by
 rcases(show k=0∨k=1∨k=2 by omega) with rfl|rfl|rfl<;>rfl
def u7(p:Prog)(part loop s:Int):Prog×Bool:=
 if fR p part loop=true∧fR p part (loop+1)=true∧(-6≤s∧s≤6) then zF p part (loop+1) (fun x=>fS x 1 (kA loop.toNat s)) (fB (loop.toNat+1) (kA loop.toNat s)) else noP
theorem aJ5{k:Nat}(hk:k<4)(s:Int):aG8 (pC k) s ⟨[0,0,0,0],0⟩ 0=kA k s:=by
 rcases(show k=0∨k=1∨k=2∨k=3 by omega) with rfl|rfl|rfl|rfl<;>simp [aG8,pC,kA]
theorem aKa{k:Nat}(hk:k<4)(s:Int){a:Affine}(ha:a.coefs.length=4):fS a s (pC k)=fS a 1 (kA k s):=by
 obtain⟨a0,a1,a2,a3,e⟩:=aBw ha
 rcases(show k=0∨k=1∨k=2∨k=3 by omega) with rfl|rfl|rfl|rfl<;>simp [fS,pC,kA,e]
theorem aKC{k:Nat}(hk:k+1<4)(s:Int):fS (pC (k+1)) (-s) (pC k)=toB (k+1) (kA k s):=by
 rcases(show k=0∨k=1∨k=2 by omega) with rfl|rfl|rfl<;>simp [toB,fS,pC,kA]
theorem aEI{n:Nat}(hn:7000≤n){p:Prog}(hp:BG 1000 p)(part loop s:Int):oJ n p part loop s=some (u7 p part loop s):=by
 unfold oJ u7
 refine Ev.eq (aB (aCP (by omega) hp) (Ev.jn (fun z=>z= !(fR p part loop&&(fR p part (loop+1)&&decide (-6≤s∧s≤6)))) (fun j hj=> ?_) (fun z hz=> ?_)))
 ·refine aB (aGs hn hp part loop) (Ev.cond (fun h=>hj _ ?_) (fun h=> ?_))
  ·rw [show fR p part loop=false by simpa using h];rfl
  ·have h1:fR p part loop=true:=by simpa using h
   obtain⟨hv,i,k,P,l,rfl,rfl,hP,hl,hi,hkl,hok,hk⟩:=t0 h1
   rw [aN (by omega)]
   refine aB (aGs hn hp _ _) (Ev.cond (fun h=>hj _ ?_) (fun h=>aB (pE n s 6 (by omega)) (hj _ ?_)))
   ·rw [h1,show fR p (i:Int) ((k:Int)+1)=false by simpa using h];rfl
   ·rw [h1,show fR p (i:Int) ((k:Int)+1)=true by simpa using h];rfl
 ·subst hz
  by_cases hc:fR p part loop=true∧fR p part (loop+1)=true∧(-6≤s∧s≤6)
  ·rw [if_pos hc,hc.1,hc.2.1,decide_eq_true hc.2.2]
   refine bV ?_
   obtain⟨hv,i,k1,P,l,rfl,hk1,hP,hl,hi,hkl,hok,hk⟩:=t0 hc.2.1
   obtain⟨_,i0,k,P0,l0,hi0,rfl,_⟩:=t0 hc.1
   obtain rfl:k1=k+1:=by omega
   refine aB (aBj n (by omega)) (aB (x:=⟨[0,0,0,0],0⟩) rfl (aB (xF (by omega) ((w6 (by omega)).mono (by omega)) (by unfold bB qN;simp) ⟨by omega,by omega⟩ ⟨by omega,by omega⟩) ?_))
   rw [aJ5 (by omega),aN (by omega)]
   refine aB (aS hP) (aB (aIh (by omega) hok hl hk (vD k hc.2.2) (aKO s hk)) (aB (aHB hn hp hi ((aAe hok hl (F0 (vD k hc.2.2).1) (aGB (vD k hc.2.2).1)).mono (by omega))) (Ev.some ?_)))
   show M6 _=_
   rw [show((k:Int)+1)=((k+1:Nat):Int) by omega,uR hP hl];rfl
  ·rw [if_neg hc,show(fR p part loop&&(fR p part (loop+1)&&decide (-6≤s∧s≤6)))=false by
    cases h1:fR p part loop with
    |false=>rfl
    |true=>cases h2:fR p part (loop+1) with
     |false=>rfl
     |true=>exact decide_eq_false (fun h3=>hc ⟨h1,h2,h3⟩)]
   exact b7 (Ev.some rfl)
theorem aFV{n:Nat}(hn:5000≤n){k:Nat}(hk:k<4){s:Int}(hs: -6≤s∧s≤6): ∀x,bM x=true→iX n x s (k:Int)=some (fS x 1 (kA k s)):=fun x hx=>by
 unfold iX
 rw [L0 n hk]
 refine Ev.eq (aB rfl (aB (L1 hn ((z7 hx).mono (by omega)) ((w6 hk).mono (by omega)) ⟨by omega,by omega⟩) (Ev.some (aKa hk s (jA hx).1))))
theorem aFU{n:Nat}(hn:5000≤n){k:Nat}(hk:k+1<4){s:Int}(hs: -6≤s∧s≤6): ∀x,bM x=true→gI n x (k:Int) (toB (k+1) (kA k s))=some (fB (k+1) (kA k s) x):=fun x hx=>by
 unfold gI
 rw [aN (by omega),show((k:Int)+1)=((k+1:Nat):Int) by omega,aCY hn ((z7 hx).mono (by omega)) (aFN hk (vD k hs)) hk,aFQ (z7 hx).1 (vD k hs).1 hk (aKO s hk)];rfl
theorem aE2{n:Nat}(hn:7000≤n){p:Prog}(hp:BG 1000 p)(part loop s:Int):oW n p part loop s=some (u7 p part loop s):=by
 unfold oW u7
 by_cases hneg:loop= -1
 ·subst hneg
  rw [if_neg (fun h=>by rw [aGt (by omega)] at h;cases h.1)]
  refine Ev.eq (aL (aFd hn hp part) (fun x1 h1=>Ev.cond (fun _=>Ev.jn (fun z=>z=true) (fun j hj=>aH (fun _=>hj _ rfl) (fun h=>absurd (show(-1:Int)<0 by omega) h)) (fun z hz=>by rw [hz];exact b7 (Ev.some rfl))) (fun _=>Ev.some rfl)))
 refine Ev.eq (aB (aHd hn hp part loop hneg) ?_)
 by_cases hb:fR p part loop=true
 ·rw [if_pos hb]
  obtain⟨hv,i,k,P,l0,rfl,rfl,hP,hl0,hi,hkl,hok,hk⟩:=t0 hb
  obtain⟨h1,h2⟩:=rG hok
  obtain⟨_,h4,h5,_⟩:=gR hok
  have hb2:fR p (i:Int) ((k:Int)+1)=decide (k+1<P.nest.length):=by
   unfold fR
   rw [hv,aS hP]
   exact decide_eq_decide.2 (by omega)
  refine b7 (Ev.jn (fun z=>z= !(decide (k+1<P.nest.length)&&decide (-6≤s∧s≤6))) (fun j hj=> ?_) (fun z hz=> ?_))
  ·refine aH (fun h=>absurd h (by omega)) (fun _=>aB (aS hP) ?_)
   rw [aN (by omega)]
   refine aH (fun h=>hj _ ?_) (fun h=>aB (aEX n s) (hj _ ?_))
   ·rw [decide_eq_false (show¬k+1<P.nest.length by omega)];rfl
   ·rw [decide_eq_true (show k+1<P.nest.length by omega)];rfl
  ·subst hz
   by_cases hk1:k+1<P.nest.length
   ·by_cases hs: -6≤s∧s≤6
    ·rw [if_pos ⟨hb,by rw [hb2,decide_eq_true hk1],hs⟩,decide_eq_true hs,decide_eq_true hk1]
     refine bV ?_
     obtain⟨l,hl⟩: ∃l,P.nest[k+1]? =some l:=⟨_,List.getElem?_eq_getElem hk1⟩
     rw [aN (n:=(k:Int)+1) (by omega),aN (n:=(k:Int)+2) (by omega),aN (n:=0-s) (by omega),show((k:Int)+1)=((k+1:Nat):Int) by omega,show((k:Int)+2)=((k+1+1:Nat):Int) by omega,show 0-s= -s by omega]
     refine aB (aS hP) (aB (aS hl) (aB (vC (by omega) (h2 l (List.mem_of_getElem? hl)) (aFV (by omega) hk hs)) (aB (fC (by omega) _) (aB (fC (by dsimp only;omega) _) (aB (L0 n (by omega)) (aB (L0 n hk) (aB (L1 (by omega) ((w6 (by omega)).mono (by omega)) ((w6 hk).mono (by omega)) ⟨by omega,by omega⟩) ?_)))))))
     rw [aKC (by omega)]
     have hch:=R6 (n:=n) (by omega) (nest:=P.nest.set (k+1) (dI (fun x=>fS x 1 (kA k s)) l)) (body:=P.body) (s:=k+1+1) (by simp;omega) (by simp;omega) (fun y hy=>by
      rw [List.drop_set_of_lt (by omega)] at hy
      exact h2 y (List.mem_of_mem_drop hy)) h4.2 h5 (F:=fun q0=>gI n q0 (k:Int) (toB (k+1) (kA k s))) (aFU (by omega) (by omega) hs)
     rw [Int.toNat_natCast,Int.toNat_natCast]
     refine aB hch (aB (fC (by simp;omega) _) ?_)
     rw [Int.toNat_natCast,List.set_set]
     have hm:(⟨(P.nest.set (k+1) (dI (fun x=>fS x 1 (kA k s)) l)).take (k+1+1)++((P.nest.set (k+1) (dI (fun x=>fS x 1 (kA k s)) l)).drop (k+1+1)).map (dI (fB (k+1) (kA k s))),P.body.map (tS (fB (k+1) (kA k s)))⟩:Part)=qK (k+1) (fun x=>fS x 1 (kA k s)) (fB (k+1) (kA k s)) P l:=by
      rw [List.drop_set_of_lt (by omega),List.take_add_one,List.getElem?_set_self (by omega),List.take_set_of_le (Nat.le_refl _),List.append_assoc];rfl
     rw [hm]
     refine aB (aBF hn (aHc hp i (aAe hok hl (F0 (vD k hs).1) (aGB (vD k hs).1)))) (Ev.some ?_)
     rw [uR hP hl];rfl
    ·rw [if_neg (fun h=>hs h.2.2),decide_eq_false hs,Bool.and_false]
     exact b7 (Ev.some rfl)
   ·rw [if_neg (fun h=>by rw [hb2,decide_eq_false hk1] at h;cases h.2.1),decide_eq_false hk1]
    exact b7 (Ev.some rfl)
 ·rw [if_neg hb,if_neg (fun h=>hb h.1)]
  exact bV (Ev.some rfl)
theorem aFT{p:Prog}(hp:BG 1000 p)(part loop s:Int):BG 1000 (u7 p part loop s).1:=by
 unfold u7
 split
 ·rename_i hc
  exact aEQ hp hc.2.1 (F0 (vD _ hc.2.2).1) (aGB (vD _ hc.2.2).1)
 ·exact aJD
theorem aJW{B:Option Bool}{a b:Int}(h:b≤1048576→Ev B (fun r=>r=true)):Ev (jn (fun(x2:Bool)=>bif x2 then(some true) else B) (fun j1=>bif decide ((1048576:Int)<a) then(j1 true) else(j1 (decide ((1048576:Int)<b))))) (fun r=>r=true):=by
 exact Ev.jn (fun z=>z=false→b≤1048576) (fun j hj=>aH (fun _=>hj _ (fun h=>by cases h)) (fun _=>hj _ (fun h=>by have:=of_decide_eq_false h;omega))) (fun z hz=>Ev.cond (fun _=>Ev.some rfl) (fun h0=>h (hz h0)))
theorem aJV{I S:Option (Prog×Bool)}{REST:Prog×Bool→Prog×Bool→Option Bool}{R:Prog×Bool}(hR:BG 1000 R.1)(h1:I=some R)(h2:S=some R)(hb:R.2=true→Ev (REST R R) (fun r=>r=true)):
  Ev (Option.bind I fun x4=>Option.bind S fun x5=>jn (fun(x8:Bool)=>
    bif x8 then(
     jn (fun(x11:Bool)=>
      some x11
     ) (fun j9=>
      bif(x4.2==x5.2) then(
       Option.bind (eD N x4.1 x5.1) fun x10=>
       j9 x10
      ) else(
       j9 false
      )
     )
    ) else(
     REST x4 x5
    )
   ) (fun j6=>
    bif !(x4.2==x5.2) then(
     j6 true
    ) else(
     Option.bind (eD N x4.1 x5.1) fun x7=>
     bif !x7 then(
      j6 true
     ) else(
      j6 (!x4.2)
     )
    )
   )) (fun r=>r=true):=by
 have hN:N=100000:=rfl
 have hs:=aF6 (n:=N) (by omega) hR
 have he:(R.2==R.2)=true:=by cases R.2<;>rfl
 refine aB h1 (aB h2 (Ev.jn (fun z=>z= !R.2) (fun j hj=> ?_) (fun z hz=> ?_)))
 ·rw [he]
  exact bV (aB hs (bV (hj _ rfl)))
 ·subst hz
  cases hr:R.2 with
  |false=>exact b7 (Ev.jn (fun z=>z=true) (fun j hj=>b7 (aB hs (hj _ rfl))) (fun z hz=>Ev.some hz))
  |true=>exact bV (hb hr)
theorem nS{α β:Type}{f g:α→β}: ∀{l:List α},(∀x∈l,f x=g x)→l.map f=l.map g
 | [],_=>rfl
 |x::l,h=>by rw [List.map_cons,List.map_cons,h x List.mem_cons_self,nS (fun y hy=>h y (List.mem_cons_of_mem _ hy))]
theorem aJY{p q:Prog}(h:M6 p=(q,true)):q=p∧cF p=true:=by
 unfold M6 at h
 split at h
 ·rename_i hv;cases h;exact⟨rfl,hv⟩
 ·cases h
theorem aAw(m:Int): ∀(a b p:List Int),a.length=b.length→vJ (List.zipWith (fun x y=>x+m*y) a b) p=vJ a p+m*vJ b p
 | [],[],p,_=>by simp [vJ]
 |x::a,y::b,[],_=>by simp [vJ]
 |x::a,y::b,z::p,h=>by
  simp only [List.zipWith_cons_cons,vJ]
  rw [aAw m a b p (by simpa using h),Int.add_mul,Int.mul_add,Int.mul_assoc]
  omega
theorem aAx: ∀(cs p:List Int) (k:Nat) (v:Int),k<p.length→vJ cs (p.set k v)=vJ cs p+cs.getD k 0*(v-p.getD k 0)
 | [],p,k,v,_=>by simp [vJ]
 |c::cs,x::p,0,v,_=>by
  simp only [List.set_cons_zero,vJ,List.getD_cons_zero]
  rw [Int.mul_sub];omega
 |c::cs,x::p,k+1,v,h=>by
  simp only [List.set_cons_succ,vJ,List.getD_cons_succ]
  rw [aAx cs p k v (by simpa using h)];omega
theorem aBN: ∀(cs p:List Int) (v:Int),cs.getD p.length 0=0→vJ cs (p++[v])=vJ cs p
 | [],p,v,_=>by simp [vJ]
 |c::cs,[],v,h=>by
  simp only [List.length_nil,List.getD_cons_zero] at h
  subst h
  cases cs<;>simp [vJ]
 |c::cs,x::p,v,h=>by
  simp only [List.cons_append,vJ]
  rw [aBN cs p v (by simpa using h)]
def Y9(k:Nat)(b:Affine)(p:List Int):List Int:=p.set k (p.getD k 0+b6 b p)
theorem aIx{x b:Affine}(h:x.coefs.length=b.coefs.length)(p:List Int):b6 (fS x 1 b) p=b6 x p+b6 b p:=by
 unfold b6 fS
 rw [aAw 1 _ _ _ h]
 dsimp only
 omega
theorem aEm{x b:Affine}(h:x.coefs.length=b.coefs.length){k:Nat}(h0:b.coefs.getD k 0=0){p:List Int}(hk:k<p.length):b6 (fB k b x) (Y9 k b p)=b6 x p:=by
 unfold fB b6 fS Y9
 rw [aAw _ _ _ _ h]
 dsimp only
 rw [aAx _ _ _ _ hk,aAx _ _ _ _ hk,h0,show p.getD k 0+b6 b p-p.getD k 0=b6 b p by omega]
 unfold b6
 rw [Int.zero_mul,Int.mul_add,Int.add_zero,Int.neg_mul,Int.neg_mul]
 omega
def low(k:Nat)(b:Affine):Prop:= ∀j,k≤j→b.coefs.getD j 0=0
theorem W5{b:Affine}{k:Nat}(hz:low k b){p:List Int}(hk:k≤p.length)(v:Int):b6 b (p++[v])=b6 b p:=by
 unfold b6
 rw [aBN _ _ _ (hz _ hk)]
theorem aE5{α:Type}{l:List α}{v d:α}:(l++[v]).getD l.length d=v:=by
 rw [List.getD_eq_getElem?_getD,List.getElem?_append_right (Nat.le_refl _),Nat.sub_self];rfl
theorem aE4{α:Type}{l:List α}{k:Nat}{v d:α}(h:k<l.length):(l++[v]).getD k d=l.getD k d:=by
 rw [List.getD_eq_getElem?_getD,List.getElem?_append_left h,List.getD_eq_getElem?_getD]
theorem aH0{b:Affine}{k:Nat}(hz:low k b){p:List Int}(hk:k<p.length)(v:Int):Y9 k b (p++[v])=Y9 k b p++[v]:=by
 unfold Y9
 rw [W5 hz (by omega),aE4 hk,List.set_append_left _ _ hk]
theorem aJz{b:Affine}{k:Nat}(hz:low k b){p:List Int}(hk:p.length=k)(v:Int):Y9 k b (p++[v])=p++[v+b6 b p]:=by
 unfold Y9
 rw [W5 hz (by omega),←hk,aE5,List.set_append_right _ _ (Nat.le_refl _),Nat.sub_self];rfl
theorem vH(e:Int): ∀(l:List Int) (a:Int),(l.map (fun x=>x+e)).foldl max (a+e)=l.foldl max a+e
 | [],a=>rfl
 |x::l,a=>by
  simp only [List.map_cons,List.foldl_cons]
  rw [show max (a+e) (x+e)=max a x+e by omega,vH e l]
theorem vG(e:Int): ∀(l:List Int) (a:Int),(l.map (fun x=>x+e)).foldl min (a+e)=l.foldl min a+e
 | [],a=>rfl
 |x::l,a=>by
  simp only [List.map_cons,List.foldl_cons]
  rw [show min (a+e) (x+e)=min a x+e by omega,vG e l]
theorem aJG(e:Int){l:List Int}(h:l≠[]):mx (l.map (fun x=>x+e))=mx l+e:=by
 cases l with
 |nil=>exact absurd rfl h
 |cons a l=>exact vH e l a
theorem aJH(e:Int){l:List Int}(h:l≠[]):mn (l.map (fun x=>x+e))=mn l+e:=by
 cases l with
 |nil=>exact absurd rfl h
 |cons a l=>exact vG e l a
theorem aH9(a b e:Int):lL (a+e) (b+e)=(lL a b).map (fun v=>v+e):=by
 unfold lL
 rw [show b+e-(a+e)=b-a by omega,List.map_map]
 refine List.map_congr_left (fun i _=> ?_)
 show a+e+(i:Int)=a+(i:Int)+e
 omega
def lpN(l:Loop):Prop:=l.lo≠[]∧l.hi≠[]
theorem aIZ{b:Affine}(hb:b.coefs.length=4){k:Nat}(h0:b.coefs.getD k 0=0){p:List Int}(hk:k<p.length){l:List Affine}(hl: ∀x∈l,bM x=true):S1 (l.map (fB k b)) (Y9 k b p)=S1 l p:=by
 unfold S1
 rw [List.map_map]
 exact nS (fun x hx=>aEm (by rw [(jA (hl x hx)).1,hb]) h0 hk)
theorem aIY{b:Affine}(hb:b.coefs.length=4)(p:List Int){l:List Affine}(hl: ∀x∈l,bM x=true):S1 (l.map (fun x=>fS x 1 b)) p=(S1 l p).map (fun y=>y+b6 b p):=by
 unfold S1
 rw [List.map_map,List.map_map]
 exact nS (fun x hx=>aIx (by rw [(jA (hl x hx)).1,hb]) p)
theorem uT{α β:Type}{f g:α→List β}{l:List α}(h: ∀x∈l,f x=g x):l.flatMap f=l.flatMap g:=by
 rw [List.flatMap_def,List.flatMap_def,nS h]
theorem aIS{b:Affine}(hb:b.coefs.length=4){k:Nat}(hz:low k b): ∀(ls:List Loop) (p:List Int),(∀l∈ls,zH l)→k<p.length→pts (ls.map (dI (fB k b))) (Y9 k b p)=(pts ls p).map (Y9 k b)
 | [],p,_,_=>rfl
 |l::ls,p,h,hk=>by
  have hl:=h l List.mem_cons_self
  have e1:jI (dI (fB k b) l) (Y9 k b p)=jI l p:=by unfold jI dI;rw [aIZ hb (hz k (Nat.le_refl _)) hk hl.1.2]
  have e2:mW (dI (fB k b) l) (Y9 k b p)=mW l p:=by unfold mW dI;rw [aIZ hb (hz k (Nat.le_refl _)) hk hl.2.2]
  simp only [List.map_cons,pts]
  rw [e1,e2,List.map_flatMap]
  refine uT (fun v _=> ?_)
  rw [←aH0 hz hk]
  exact aIS hb hz ls (p++[v]) (fun x hx=>h x (List.mem_cons_of_mem _ hx)) (by simp;omega)
theorem aKG{b:Affine}(hb:b.coefs.length=4){k:Nat}(hz:low k b){l:Loop}(hl:zH l)(hn:lpN l){ls:List Loop}(h: ∀l∈ls,zH l){p:List Int}(hk:p.length=k):
  pts (dI (fun x=>fS x 1 b) l::ls.map (dI (fB k b))) p=(pts (l::ls) p).map (Y9 k b):=by
 have e1:jI (dI (fun x=>fS x 1 b) l) p=jI l p+b6 b p:=by
  unfold jI dI
  rw [aIY hb p hl.1.2,aJG _ (by unfold S1;simpa using hn.1)]
 have e2:mW (dI (fun x=>fS x 1 b) l) p=mW l p+b6 b p:=by
  unfold mW dI
  rw [aIY hb p hl.2.2,aJH _ (by unfold S1;simpa using hn.2)]
 simp only [pts]
 rw [e1,e2,aH9,List.flatMap_map,List.map_flatMap]
 refine uT (fun v _=> ?_)
 rw [←aJz hz hk]
 exact aIS hb hz ls (p++[v]) h (by simp;omega)
theorem aIR{b:Affine}(hb:b.coefs.length=4){k:Nat}(hz:low k b){l:Loop}(hl:zH l)(hn:lpN l){ls:List Loop}(h: ∀l∈ls,zH l): ∀(os:List Loop) (p:List Int),p.length+os.length=k→
  pts (os++dI (fun x=>fS x 1 b) l::ls.map (dI (fB k b))) p=(pts (os++l::ls) p).map (Y9 k b)
 | [],p,hk=>aKG hb hz hl hn h (by simpa using hk)
 |o::os,p,hk=>by
  simp only [List.cons_append,pts]
  rw [List.map_flatMap]
  refine uT (fun v _=> ?_)
  exact aIR hb hz hl hn h os (p++[v]) (by simp at hk ⊢; omega)
theorem aF7{list:List Arr}{x:Part}(h:cA list x=true): ∀l∈x.nest,lpN l:=fun l hl=>by
 obtain⟨i,hi⟩:=List.mem_iff_getElem?.1 hl
 have:=(T0 (gR h).1).1.2 i l hi
 have h1:=(pQ this.1).1
 have h2:=(pQ this.2).1
 exact⟨fun e=>by rw [e] at h1;simp at h1,fun e=>by rw [e] at h2;simp at h2⟩
theorem A7{list:List Arr}{x:Part}(h:cA list x=true):dY x=pts x.nest []:=(T0 (gR h).1).2.2.2.1
theorem aEO{list:List Arr}{P:Part}(hP:cA list P=true){k:Nat}{l:Loop}(hl:P.nest[k]? =some l){b:Affine}(hb:b.coefs.length=4)(hz:low k b)(hq:cA list (qK k (fun x=>fS x 1 b) (fB k b) P l)=true):
  dY (qK k (fun x=>fS x 1 b) (fB k b) P l)=(dY P).map (Y9 k b):=by
 obtain⟨h1,h2⟩:=rG hP
 have hk:=(List.getElem?_eq_some_iff.1 hl).1
 rw [A7 hq,A7 hP]
 have e:P.nest=P.nest.take k++l::P.nest.drop (k+1):=by rw [←iH hl,List.take_append_drop]
 have:=aIR hb hz (h2 l (List.mem_of_getElem? hl)) (aF7 hP l (List.mem_of_getElem? hl)) (ls:=P.nest.drop (k+1)) (fun y hy=>h2 y (List.mem_of_mem_drop hy)) (P.nest.take k) [] (by simp;omega)
 rw [←e] at this
 exact this
def sig(i k:Nat)(b:Affine)(x:Inst):Inst:=if x.part=(i:Int) then⟨x.part,x.stmt,Y9 k b x.point⟩ else x
theorem insts_set{ps:List Part}{i:Nat}{P P':Part}(hP:ps[i]? =some P){σ:Inst→Inst}(h1:instP i P'=(instP i P).map σ)(h2: ∀x,x.part≠(i:Int)→σ x=x):insts (ps.set i P')=(insts ps).map σ:=by
 unfold insts
 rw [List.map_flatMap]
 have e:(ps.set i P').zipIdx=ps.zipIdx.map (fun y=>if y.2=i then(P',i) else y):=by
  refine List.ext_getElem? (fun j=> ?_)
  rw [List.getElem?_zipIdx,List.getElem?_map,List.getElem?_zipIdx]
  by_cases hj:i=j
  ·subst hj
   rw [List.getElem?_set_self (List.getElem?_eq_some_iff.1 hP).1,hP]
   simp
  ·rw [List.getElem?_set_ne hj]
   cases ps[j]? with
   |none=>rfl
   |some y=>
    have: ¬j=i:=fun h=>hj h.symm
    simp [this]
 rw [e,List.flatMap_map]
 refine uT (fun y hy=> ?_)
 obtain⟨j,hj⟩:=List.mem_iff_getElem?.1 hy
 rw [List.getElem?_zipIdx] at hj
 cases hx:ps[j]? with
 |none=>rw [hx] at hj;cases hj
 |some x=>
  rw [hx] at hj
  simp at hj
  subst hj
  by_cases hji:j=i
  ·subst hji
   rw [hP] at hx
   cases hx
   simp [h1]
  ·simp only [if_neg hji]
   refine(aAg (fun z hz=>h2 z ?_)).symm
   unfold instP at hz
   obtain⟨q,_,hz⟩:=List.mem_flatMap.1 hz
   obtain⟨t,_,rfl⟩:=List.mem_map.1 hz
   dsimp only
   omega
theorem instP_move{i k:Nat}{b:Affine}{P P':Part}(h1:dY P'=(dY P).map (Y9 k b))(h2:P'.body.length=P.body.length):instP i P'=(instP i P).map (sig i k b):=by
 unfold instP
 rw [h1,h2,List.flatMap_map,List.map_flatMap]
 refine uT (fun q _=> ?_)
 rw [List.map_map]
 refine nS (fun t _=> ?_)
 show _=sig i k b _
 unfold sig
 rw [if_pos rfl]
theorem T2{i k:Nat}{b:Affine}: ∀x:Inst,x.part≠(i:Int)→sig i k b x=x:=fun x hx=>by unfold sig;rw [if_neg hx]
theorem aIW{f:Affine→Affine}{t q:List Int}: ∀{ss:List Affine} (ds:List Int) (acc:Int),(∀x∈ss,b6 (f x) t=b6 x q)→lW (ss.map f) ds t acc=lW ss ds q acc
 | [],ds,acc,_=>by cases ds<;>rfl
 |s::ss,[],acc,_=>rfl
 |s::ss,d::ds,acc,h=>by
  simp only [List.map_cons,lW]
  rw [h s List.mem_cons_self]
  split
  ·exact aIW ds _ (fun x hx=>h x (List.mem_cons_of_mem _ hx))
  ·rfl
theorem aDi{f:Affine→Affine}{t q:List Int}{a:Access}(h: ∀x∈a.subs,b6 (f x) t=b6 x q): ∀(xs:List Arr) (base:Int),cH xs (fN f a) t base=cH xs a q base
 | [],_=>rfl
 |x::xs,base=>by
  have e1:lW (fN f a).subs x.dims t 0=lW a.subs x.dims q 0:=aIW _ _ h
  have e2:(fN f a).subs.length=a.subs.length:=by simp [fN]
  have e3:(fN f a).array=a.array:=rfl
  simp only [cH,e1,e2,e3,aDi h xs]
theorem aD0{d:Int}{f:Affine→Affine}: ∀{L:Nat} {e:Expr},dA L e d=true→bW L (tU f L e)=(bW L e).map (fN f)
 |0,_,h=>by cases h
 |L+1,e,h=>by
  obtain⟨hk,ho,hs⟩:=gB h
  show(if e.kind=3 then [if e.kind=3 then fN f e.read else⟨[],[]⟩] else [])++(e.kids.map (tU f L)).flatMap (bW L)=((if e.kind=3 then [e.read] else [])++e.kids.flatMap (bW L)).map (fN f)
  rw [List.map_append,List.flatMap_map,List.map_flatMap]
  congr 1
  ·by_cases h3:e.kind=3
   ·simp only [if_pos h3];rfl
   ·simp only [if_neg h3];rfl
  ·exact uT (fun x hx=>aD0 (hs x hx))
theorem aFE{d:Int}{f:Affine→Affine}{t q:List Int}(h: ∀x,bM x=true→b6 (f x) t=b6 x q)(list:List Arr)(m:List Int): ∀{L:Nat} {e:Expr},dA L e d=true→sP L list m (tU f L e) t=sP L list m e q
 |0,_,_=>rfl
 |L+1,e,he=>by
  obtain⟨hk,ho,hs⟩:=gB he
  have e1:(tU f (L+1) e).kind=e.kind:=rfl
  have e2:(tU f (L+1) e).num=e.num:=rfl
  have e5:(tU f (L+1) e).kids=e.kids.map (tU f L):=rfl
  unfold sP
  rw [e1,e2,e5]
  by_cases h1:e.kind=1
  ·rw [if_pos h1,if_pos h1]
  ·rw [if_neg h1,if_neg h1]
   by_cases h2:e.kind=2
   ·have e3:(tU f (L+1) e).index=f e.index:=by show(if e.kind=2 then f e.index else _)=_;rw [if_pos h2]
    rw [if_pos h2,if_pos h2,e3,h _ (v7 ho h2).1]
   ·rw [if_neg h2,if_neg h2]
    by_cases h3:e.kind=3
    ·have e4:(tU f (L+1) e).read=fN f e.read:=by show(if e.kind=3 then fN f e.read else _)=_;rw [if_pos h3]
     rw [if_pos h3,if_pos h3,e4,aDi (fun x hx=>h x ((sO (v6 ho h3).1).2.2 x hx))]
    ·rw [if_neg h3,if_neg h3]
     obtain⟨kind,num,index,read,kids⟩:=e
     dsimp only at hs⊢
     match kids,hs with
     | [],_=>rfl
     | [a],_=>rfl
     | [a,c],hs=>
      simp only [List.map_cons,List.map_nil]
      rw [aFE h list m (hs a (by simp)),aFE h list m (hs c (by simp))]
     |a::c::e::r,_=>rfl
end Go.Lift
