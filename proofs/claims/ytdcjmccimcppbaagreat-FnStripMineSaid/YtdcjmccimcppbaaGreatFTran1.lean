/- Two programs that do the same. -/
import Derived.Test.YtdcjmccimcppbaaGreatFRun1
import Derived.Test.YtdcjmccimcppbaaGreatFDraw1
import Derived.Test.YtdcjmccimcppbaaGreatFDrawD
set_option maxRecDepth 100000
set_option linter.unusedVariables false
namespace Go.Lift
open Go
theorem aJr{n:Nat}(hn:7100≤n){p:Prog}(hp:SmP p)(hv:cD p=true):lQ n p=some (gR p.arrays):=by
 refine Ev.eq ?_
 obtain⟨hl,hd,_⟩:=kN hv
 unfold lQ
 refine aB (d9 (by omega) hp) ?_
 rw [hv]
 exact bV (aB (P4 (by omega) hl hd) (Ev.some rfl))
theorem aKs{α:Type}{n:Int}(h:0≤n∧n≤1000000000)(x:α):mk n x=some (List.replicate n.toNat x):=by unfold mk;rw [if_pos h]
theorem aHm{R:Type}{Q:R→Prop}{n:Nat}(hn:5000≤n){T:Nat}(hT:T≤1000){e:Int→Int}(he: ∀i,0≤i→i<(T:Int)→0≤e i∧e i≤999){K:List Int→Option R}(hK: ∀m,m.length=T→(∀x∈m,0≤x∧x≤999)→Ev (K m) Q):
  Ev (aN (fun again (z:(List Int)×Int)=>bif decide (z.2<(z.1.length:Int)) then(Option.bind (ix z.1 z.2) fun _=>Option.bind (dR z.1 z.2 (e z.2)) fun y=>again (y,wr (z.2+1))) else(K z.1)) n (List.replicate T 0,0)) Q:=by
 refine Ev.loop (fun z:List Int×Int=>0≤z.2∧z.2≤T∧z.1.length=T∧ ∀x∈z.1,0≤x∧x≤999) (fun z=>T-z.2.toNat) ?_ n _ ⟨Int.le_refl _,by dsimp only;omega,List.length_replicate,fun x hx=>by rw [(List.mem_replicate.1 hx).2];omega⟩ (by dsimp only;omega)
 rintro again ⟨x,i⟩ ⟨h0,h1,h2,h3⟩ hr
 dsimp only at h0 h1 h2 h3⊢
 refine aH (fun hlt=> ?_) (fun hge=>hK _ h2 h3)
 refine aB (aJL h0 (by omega)) (aB (aBU h0 (by omega) _) ?_)
 rw [aM (by omega)]
 exact hr _ ⟨by dsimp only;omega,by dsimp only;omega,by dsimp only;rw [List.length_set,h2],fun y hy=>by
  rcases List.mem_or_eq_of_mem_set hy with hy|rfl
  ·exact h3 y hy
  ·exact he i h0 (by omega)⟩ (by dsimp only;omega)
theorem aLm{x:Int}(h:0≤x):0≤Int.tmod x 1000∧Int.tmod x 1000≤999:=by
 have h1:=Int.tmod_nonneg 1000 h
 have h2:=Int.tmod_lt_of_pos x (show(0:Int)<1000 by omega)
 omega
theorem aGA{p:Prog}(hv:cD p=true):0≤gR p.arrays∧gR p.arrays≤144:=by
 obtain⟨hl,hd,_⟩:=kN hv
 have:=aEG hd
 omega
theorem aJG{p:Prog}{m:List Int}(hv:cD p=true)(hm:jK p.arrays m):aIU p m=(dW p m (insts p.parts),true):=by
 unfold aIU;rw [aI8 hv hm];rfl
theorem aH9{p q:Prog}(hp:SmP p)(hq:SmP q)(hv:cD p=true)(hw:cD q=true)(ha:q.arrays=p.arrays)(h: ∀m,jK p.arrays m→dW q m (insts q.parts)=dW p m (insts p.parts)){s:Int}(hs:0≤s∧s≤1048576):qL N p q s=some true:=by
 have hN:N=100000:=rfl
 have ht:=aGA hv
 refine Ev.eq ?_
 unfold qL
 refine aB (aJr (by omega) hp hv) (aB (aKs ⟨by omega,by omega⟩ 0) (aHm (n:=N) (T:=(gR p.arrays).toNat) (e:=fun i=>Int.tmod (wr ((wr ((wr (i*41))+(wr (s*17))))+3)) 1000) (K:=fun x3=>Option.bind (fN N p x3) fun x9=>Option.bind (fN N q x3) fun x10=>jn (fun(x13:Bool)=>some x13) (fun j11=>bif x9.2 then(bif x10.2 then(Option.bind (oP N x9.1 x10.1) fun x12=>j11 x12) else(j11 false)) else(j11 false))) (by omega) (by omega) (fun i h0 h1=> ?_) (fun m h1 h2=> ?_)))
 ·rw [aM (n:=i*41) (by omega),aM (n:=s*17) (by omega),aM (n:=i*41+s*17) (by omega),aM (by omega)]
  exact aLm (by omega)
 ·have hmo:jK p.arrays m:=⟨by omega,h2⟩
  have hmq:jK q.arrays m:=by rw [ha];exact hmo
  have hml:=aEV hv hmo
  refine aB (tJ (by omega) hp hml) (aB (tJ (by omega) hq hml) ?_)
  rw [aJG hv hmo,aJG hw hmq,h m hmo]
  have hok: ∀x∈insts p.parts,iE p x:=fun x hx=>insts_mem hx
  refine Ev.jn (fun z=>z=true) (fun j hj=>bU (bU (aB (E2 (by omega) (aEV hv (A2 hv hok hmo))) (hj _ rfl)))) (fun z hz=>Ev.some hz)
theorem pI{n:Nat}(hn:7100≤n){p:Prog}(hp:SmP p)(hv:cD p=true){x:Inst}(hx:iE p x)(hl:x.point.length≤1000):fE n p x=some (rc p x,(wc p x:Int),true):=by
 refine Ev.eq ?_
 unfold fE
 refine Ev.jn (fun z=>z=false) (fun j hj=> ?_) (fun z hz=> ?_)
 ·refine aB (d9 (by omega) hp) ?_
  rw [hv]
  refine bV (aB (G7 (by omega) hp hl) (hj _ ?_))
  rw [(instB_iff hv).2 hx];rfl
 ·rw [hz]
  exact bV (aB (aA2 hn hv hx) (Ev.some rfl))
theorem inst_pl{p:Prog}(hv:cD p=true){x:Inst}(hx:iE p x):x.point.length≤4:=by
 obtain⟨i,k,P,s,d,e1,e2,e3,e4,e5,e6,e7,e8⟩:=inst_d hv hx
 have:=e7.1;have:=e7.2.1;omega
theorem aFq{p q:Prog}(hp:SmP p)(hq:SmP q)(hv:cD p=true)(hw:cD q=true){σ:Inst→Inst}(hi:insts q.parts=(insts p.parts).map σ)(hc: ∀x∈insts p.parts,rc q (σ x)=rc p x∧wc q (σ x)=wc p x):oO N p q=some true:=by
 have hN:N=100000:=rfl
 have hil:=(kN hv).2.2.2.2
 refine Ev.eq ?_
 unfold oO
 refine aB (iC (by omega) hp) (aB (iC (by omega) hq) ?_)
 rw [if_pos hv,if_pos hw,hi]
 refine eA (fun h=>absurd (by rw [List.length_map]) h) (fun _=> ?_)
 refine Ev.loop (fun z:Int=> ∃i:Nat,z=i∧i≤(insts p.parts).length) (fun z=>(insts p.parts).length-z.toNat) ?_ N _ ⟨0,rfl,by omega⟩ (by omega)
 rintro again z ⟨i,rfl,hle⟩ hr
 refine aH (fun hlt=> ?_) (fun _=>Ev.some rfl)
 obtain⟨x,hg⟩: ∃x,(insts p.parts)[i]? =some x:=⟨_,List.getElem?_eq_getElem (show i<(insts p.parts).length by omega)⟩
 have hg2:((insts p.parts).map σ)[i]? =some (σ x):=by rw [List.getElem?_map,hg];rfl
 have hx:=List.mem_of_getElem? hg
 have hxp:=insts_mem hx
 have hxq:iE q (σ x):=insts_mem (by rw [hi];exact List.mem_of_getElem? hg2)
 have l1:=inst_pl hv hxp
 have l2:=inst_pl hw hxq
 refine aB (aR hg) (aB (pI (by omega) hp hv hxp (by omega)) (aB (aR hg2) (aB (pI (by omega) hq hw hxq (by omega)) ?_)))
 rw [(hc x hx).1,(hc x hx).2]
 have h12:=(inst_c hv hxp).2.2.1
 refine Ev.jn (fun z=>z=false) (fun j hj=>eA (fun h=>(h rfl).elim) (fun _=>aB (E2 (by omega) (by dsimp only;omega)) (hj _ rfl))) (fun z hz=> ?_)
 rw [hz,aM (by omega)]
 exact bV (hr _ ⟨i+1,by omega,by omega⟩ (by omega))
theorem uM{α β R:Type}{l:List α}{F:α→(β→Option R)→Option R}{g:α→β}{K:List β→Option R}{Q:R→Prop}{n:Nat}(hF: ∀x∈l,∀k:β→Option R,Ev (k (g x)) Q→Ev (F x k) Q)
  {s:Nat} (hs:s≤l.length) {pre:List β} (hp:pre.length≤1000) (hl:l.length≤1000) (hn:5000≤n) (hK:Ev (K (pre++(l.drop s).map g)) Q):
  Ev (aN (fun again ((x,i):List β×Int)=>bif decide (i<(l.length:Int)) then(Option.bind (ix l i) fun y=>F y (fun z=>Option.bind (app x [z]) fun w=>again (w,wr (i+1)))) else K x) n (pre,(s:Int))) Q:=by
 refine Ev.loop (fun z:List β×Int=> ∃i:Nat,z.2=i∧s≤i∧i≤l.length∧z.1=pre++((l.drop s).take (i-s)).map g) (fun z=>l.length-z.2.toNat) ?_ n _ ⟨s,rfl,by omega,by omega,by simp⟩ (by dsimp only;omega)
 rintro again ⟨x,z⟩ ⟨i,hz,hsi,hi,hx⟩ hr
 dsimp only at hz hx⊢
 subst hz
 refine aH (fun hlt=> ?_) (fun hge=> ?_)
 ·have hg:=List.getElem?_eq_getElem (show i<l.length by omega)
  have hxl:x.length≤2000:=by rw [hx,List.length_append,List.length_map,List.length_take,List.length_drop];omega
  refine aB (aR hg) (hF _ (List.mem_of_getElem? hg) _ (aB (cA (by simp;omega)) ?_))
  rw [aM (by omega)]
  refine hr _ ⟨i+1,by dsimp only;omega,by omega,by omega,?_⟩ (by dsimp only;omega)
  dsimp only
  rw [show i+1-s=(i-s)+1 by omega,List.take_add_one,List.getElem?_drop,show s+(i-s)=i by omega,hg,hx,List.map_append,List.append_assoc];rfl
 ·have:i=l.length:=by omega
  subst this
  rw [hx,List.take_of_length_le (by rw [List.length_drop];omega)];exact hK
theorem sJ{α β R:Type}{l:List α}{f:α→Option β}{g:α→β}{K:List β→Option R}{Q:R→Prop}{n:Nat}(hf: ∀x∈l,f x=some (g x))(hl:l.length≤1000)(hn:5000≤n)(hK:Ev (K (l.map g)) Q):
  Ev (aN (fun again ((x,i):List β×Int)=>bif decide (i<(l.length:Int)) then(Option.bind (ix l i) fun y=>Option.bind (f y) fun z=>Option.bind (app x [z]) fun w=>again (w,wr (i+1))) else K x) n ([],0)) Q:=
 uM (F:=fun y k=>Option.bind (f y) k) (g:=g) (s:=0) (pre:=[]) (fun x hx k hk=>aB (hf x hx) hk) (by omega) (by simp) hl hn (by simpa using hK)
theorem aAJ{α R:Type}{l:List α}{F:α→(α→Option R)→Option R}{W:List α→Option R→Option R}{m:List α→Int}{g:α→α}{K:List α→Option R}{Q:R→Prop}{n:Nat}
  (hW: ∀y o,y.length=l.length→Ev o Q→Ev (W y o) Q) (hm: ∀y:List α,y.length=l.length→m y=(l.length:Int))
  {s:Nat} (hs:s≤l.length) (hF: ∀x∈l,∀k:α→Option R,Ev (k (g x)) Q→Ev (F x k) Q) (hl:l.length≤1000) (hn:5000≤n) (hK:Ev (K (l.take s++(l.drop s).map g)) Q):
  Ev (aN (fun again ((y,i):List α×Int)=>W y (bif decide (i<m y) then(Option.bind (ix y i) fun x=>F x (fun z=>Option.bind (dR y i z) fun w=>again (w,wr (i+1)))) else K y)) n (l,(s:Int))) Q:=by
 refine Ev.loop (fun z:List α×Int=> ∃i:Nat,z.2=i∧s≤i∧i≤l.length∧z.1=l.take s++((l.drop s).take (i-s)).map g++l.drop i) (fun z=>l.length-z.2.toNat) ?_ n _ ⟨s,rfl,by omega,by omega,by simp⟩ (by dsimp only;omega)
 rintro again ⟨x,z⟩ ⟨i,hz,hsi,hi,hx⟩ hr
 dsimp only at hz hx⊢
 subst hz
 have hpl:(l.take s++((l.drop s).take (i-s)).map g).length=i:=by rw [List.length_append,List.length_map,List.length_take,List.length_take,List.length_drop];omega
 have hxl:x.length=l.length:=by rw [hx,List.length_append,hpl,List.length_drop];omega
 refine hW _ _ hxl ?_
 rw [hm _ hxl]
 refine aH (fun hlt=> ?_) (fun hge=> ?_)
 ·obtain⟨e,hg⟩: ∃e,l[i]? =some e:=⟨_,List.getElem?_eq_getElem (show i<l.length by omega)⟩
  have hgx:x[i]? =some e:=by
   rw [hx,List.getElem?_append_right (by omega),hpl,Nat.sub_self,List.getElem?_drop];exact hg
  refine aB (aR hgx) (hF _ (List.mem_of_getElem? hg) _ (aB (iF (by omega) _) ?_))
  rw [aM (by omega)]
  refine hr _ ⟨i+1,by dsimp only;omega,by omega,by omega,?_⟩ (by dsimp only;omega)
  dsimp only
  rw [hx,Int.toNat_natCast,List.set_append_right _ _ (by omega),hpl,Nat.sub_self,gF hg,List.set_cons_zero,show i+1-s=(i-s)+1 by omega,List.take_add_one,List.getElem?_drop,show s+(i-s)=i by omega,hg]
  simp
 ·have:i=l.length:=by omega
  subst this
  rw [hx,List.take_of_length_le (l:=l.drop s) (by rw [List.length_drop];omega),List.drop_length,List.append_nil];exact hK
def fT(f:Affine→Affine)(a:Access):Access:=⟨a.array,a.subs.map f⟩
def uN(f:Affine→Affine):Nat→Expr→Expr
 |0,e=>e
 |L+1,e=>⟨e.kind,e.num,if e.kind=2 then f e.index else⟨[],0⟩,if e.kind=3 then fT f e.read else⟨[],[]⟩,e.kids.map (uN f L)⟩
def yK(f:Affine→Affine)(s:Stmt):Stmt:=⟨fT f s.write,uN f 5 s.value⟩
def e9(f:Affine→Affine)(l:Loop):Loop:=⟨l.lo.map f,l.hi.map f⟩
theorem wV{e:Expr}{d:Int}(h:gC e d=true)(hk:e.kind=2):bX e.index=true∧nL e.read=true:=by
 unfold gC bZ at h
 rw [if_pos hk] at h
 simp only [Bool.and_eq_true] at h
 exact⟨h.2.2.1,h.2.1⟩
theorem wU{e:Expr}{d:Int}(h:gC e d=true)(hk:e.kind=3):gY e.read d=true∧jT e.index=true:=by
 unfold gC at h
 rw [if_neg (by omega),if_pos hk] at h
 simp only [Bool.and_eq_true] at h
 exact⟨h.2.2,h.2.1⟩
theorem aDt{e:Expr}{d:Int}(h:gC e d=true)(h2: ¬e.kind=2)(h3: ¬e.kind=3):jT e.index=true∧nL e.read=true:=by
 unfold gC at h
 rw [if_neg h2,if_neg h3] at h
 split at h<;>simp only [Bool.and_eq_true] at h<;>exact⟨h.2.1,h.2.2⟩
theorem yG{a:Affine}(h:jT a=true):a=⟨[],0⟩:=by
 obtain⟨c,k⟩:=a
 simp only [jT,Bool.and_eq_true,decide_eq_true_eq] at h
 obtain⟨h1,rfl⟩:=h
 rw [List.eq_nil_of_length_eq_zero h1]
theorem yH{a:Access}(h:nL a=true):a=⟨[],[]⟩:=by
 obtain⟨c,k⟩:=a
 simp only [nL,Bool.and_eq_true,decide_eq_true_eq] at h
 obtain⟨rfl,h1⟩:=h
 rw [List.eq_nil_of_length_eq_zero h1]
theorem uQ{n:Nat}(hn:5000≤n){a:Access}{d:Int}(ha:gY a d=true){F:Affine→Option Affine}{f:Affine→Affine}(hF: ∀x,bX x=true→F x=some (f x)):gH n a F=some (fT f a):=by
 obtain⟨h1,h2,h3⟩:=tL ha
 refine Ev.eq ?_
 unfold gH
 exact sJ (K:=fun x1=>some (⟨a.array,x1⟩:Access)) (fun x hx=>hF x (h3 x hx)) (by omega) hn (Ev.some rfl)
theorem yT{d:Int}{F:Affine→Option Affine}{f:Affine→Affine}(hF: ∀x,bX x=true→F x=some (f x)): ∀(L n:Nat) (e:Expr),5000+L≤n→dB L e d=true→i_exprMap (n+1) e F=some (uN f L e)
 |0,_,_,_,h=>by cases h
 |L+1,n,e,hn,h=>by
  obtain⟨hk,ho,hs⟩:=gI h
  obtain⟨n,rfl⟩: ∃j,n=j+1:=⟨n-1,by omega⟩
  have hkl:e.kids.length≤2:=by have:=mZ e.kind;omega
  unfold i_exprMap
  refine Ev.eq (Ev.jn (fun z=>(⟨z.1,z.2.1⟩:Affine)=(if e.kind=2 then f e.index else⟨[],0⟩)∧(⟨z.2.2.1,z.2.2.2⟩:Access)=(if e.kind=3 then fT f e.read else⟨[],[]⟩)) (fun j hj=> ?_) (fun z hz=> ?_))
  ·refine aH (fun h2=> ?_) (fun h2=>aH (fun h3=> ?_) (fun h3=> ?_))
   ·exact aB (hF _ (wV ho h2).1) (hj _ ⟨by rw [if_pos h2],by rw [if_neg (by omega)]⟩)
   ·exact aB (uQ (by omega) (wU ho h3).1 hF) (hj _ ⟨by rw [if_neg h2],by rw [if_pos h3]⟩)
   ·exact hj _ ⟨by rw [if_neg h2],by rw [if_neg h3]⟩
  ·obtain⟨x4,x5,x6,x7⟩:=z
   obtain⟨z1,z2⟩:=hz
   dsimp only at z1 z2⊢
   refine sJ (K:=fun x8=>some (⟨e.kind,e.num,(⟨x4,x5⟩:Affine),(⟨x6,x7⟩:Access),x8⟩:Expr)) (fun x hx=>yT hF L n x (by omega) (hs x hx)) (by omega) (by omega) (Ev.some ?_)
   rw [z1,z2];rfl
theorem yQ{n:Nat}(hn:6000≤n){s:Stmt}{d:Int}(hs:fW s d=true){F:Affine→Option Affine}{f:Affine→Affine}(hF: ∀x,bX x=true→F x=some (f x)):iB n s F=some (yK f s):=by
 obtain⟨h1,h2,_⟩:=kH hs
 obtain⟨n,rfl⟩: ∃j,n=j+1:=⟨n-1,by omega⟩
 unfold iB
 rw [uQ (by omega) h1 hF,yT hF 5 n s.value (by omega) h2];rfl
theorem aAZ{α:Type}{f:α→α}: ∀{l:List α},(∀x∈l,f x=x)→l.map f=l
 | [],_=>rfl
 |x::l,h=>by rw [List.map_cons,h x List.mem_cons_self,aAZ (fun y hy=>h y (List.mem_cons_of_mem _ hy))]
theorem Z7{f:Affine→Affine}{a:Access}{d:Int}(ha:gY a d=true)(hf: ∀x,bX x=true→f x=x):fT f a=a:=by
 obtain⟨h1,h2,h3⟩:=tL ha
 unfold fT
 rw [aAZ (fun x hx=>hf x (h3 x hx))]
theorem aEW{d:Int}{f:Affine→Affine}(hf: ∀x,bX x=true→f x=x): ∀{L:Nat} {e:Expr},dB L e d=true→uN f L e=e
 |0,_,_=>rfl
 |L+1,e,h=>by
  obtain⟨hk,ho,hs⟩:=gI h
  obtain⟨kind,num,index,read,kids⟩:=e
  unfold uN
  dsimp only at hk ho hs⊢
  rw [aAZ (fun x hx=>aEW hf (hs x hx))]
  by_cases h2:kind=2
  ·have e1:=wV ho h2
   dsimp only at e1
   rw [if_pos h2,if_neg (by omega),hf _ e1.1,yH e1.2]
  ·by_cases h3:kind=3
   ·have e1:=wU ho h3
    dsimp only at e1
    rw [if_neg h2,if_pos h3,Z7 e1.1 hf,yG e1.2]
   ·have e1:=aDt ho h2 h3
    dsimp only at e1
    rw [if_neg h2,if_neg h3,yG e1.1,yH e1.2]
theorem aI9{f:Affine→Affine}(hf: ∀x,bX x=true→f x=x){s:Stmt}{d:Int}(hs:fW s d=true):yK f s=s:=by
 obtain⟨h1,h2,_⟩:=kH hs
 unfold yK
 rw [Z7 h1 hf,aEW hf h2]
def w4(l:Loop):Prop:=(l.lo.length≤2∧ ∀x∈l.lo,bX x=true)∧l.hi.length≤2∧ ∀x∈l.hi,bX x=true
theorem aKI{nest:List Loop}(h:Fit nest): ∀l∈nest,w4 l:=fun l hl=>by
 obtain⟨i,hi⟩:=List.mem_iff_getElem?.1 hl
 have:=h.2 i l hi
 exact⟨(tV this.1).2,(tV this.2).2⟩
theorem sH{list:List Arr}{x:Part}(h:cI list x=true):x.nest.length≤4∧ ∀l∈x.nest,w4 l:=by
 have:=(aBD (iP h).1).1
 exact⟨this.1,aKI this⟩
theorem aJU{a:Affine}(h:bX a=true):BA 4 a:=by have:=(gO h).1;unfold BA;omega
theorem aBs{l:List Affine}(h1:l.length≤2)(h2: ∀x∈l,bX x=true):BAs 4 l:=⟨by omega,fun a ha=>aJU (h2 a ha)⟩
theorem aJT{d:Int}: ∀{L:Nat} {e:Expr},dB L e d=true→BE 4 L e
 |0,_,h=>by cases h
 |L+1,e,h=>by
  obtain⟨hk,ho,hs⟩:=gI h
  have:=mZ e.kind
  refine⟨by omega,?_,?_,fun k hk=>aJT (hs k hk)⟩
  ·by_cases h2:e.kind=2
   ·exact aJU (wV ho h2).1
   ·by_cases h3:e.kind=3
    ·rw [yG (wU ho h3).2];unfold BA;simp
    ·rw [yG (aDt ho h2 h3).1];unfold BA;simp
  ·by_cases h3:e.kind=3
   ·have:=tL (wU ho h3).1
    exact aBs this.2.1 this.2.2
   ·by_cases h2:e.kind=2
    ·rw [yH (wV ho h2).2];exact⟨by simp,fun x hx=>by cases hx⟩
    ·rw [yH (aDt ho h2 h3).2];exact⟨by simp,fun x hx=>by cases hx⟩
theorem aLM{s:Stmt}{d:Int}(hs:fW s d=true):BS 4 s:=by
 obtain⟨h1,h2,_⟩:=kH hs
 have:=tL h1
 exact⟨aBs this.2.1 this.2.2,aJT h2⟩
theorem aKS{list:List Arr}{x:Part}(h:cI list x=true):BPt 4 x:=by
 obtain⟨h1,h2⟩:=sH h
 obtain⟨_,h4,h5,_⟩:=iP h
 exact⟨⟨h1,fun l hl=>⟨aBs (h2 l hl).1.1 (h2 l hl).1.2,aBs (h2 l hl).2.1 (h2 l hl).2.2⟩⟩,h4.2,fun s hs=>aLM (h5 s hs)⟩
theorem aLN{l:List Arr}(h1:l.length≤4)(h2:fP l):BR 4 l:=⟨h1,fun x hx=>by
 have:=h2 x hx
 simp only [jM,Bool.and_eq_true,decide_eq_true_eq] at this
 omega⟩
theorem J1{B:Nat}{l:List Affine}{f:Affine→Affine}(h:l.length≤B)(hf: ∀x∈l,BA B (f x)):BAs B (l.map f):=⟨by rw [List.length_map];exact h,fun a ha=>by
 obtain⟨x,hx,rfl⟩:=List.mem_map.1 ha
 exact hf x hx⟩
theorem aH6{d:Int}{f:Affine→Affine}(hf: ∀x,bX x=true→BA 4 (f x)): ∀{L:Nat} {e:Expr},dB L e d=true→BE 4 L (uN f L e)
 |0,_,h=>by cases h
 |L+1,e,h=>by
  obtain⟨hk,ho,hs⟩:=gI h
  have:=mZ e.kind
  unfold uN BE
  refine⟨by dsimp only;rw [List.length_map];omega,?_,?_,fun k hk=> ?_⟩
  ·dsimp only
   by_cases h2:e.kind=2
   ·rw [if_pos h2];exact hf _ (wV ho h2).1
   ·rw [if_neg h2];unfold BA;simp
  ·dsimp only
   by_cases h3:e.kind=3
   ·rw [if_pos h3]
    have:=tL (wU ho h3).1
    exact J1 (by omega) (fun x hx=>hf x (this.2.2 x hx))
   ·rw [if_neg h3];exact⟨by simp,fun x hx=>by cases hx⟩
  ·obtain⟨x,hx,rfl⟩:=List.mem_map.1 hk
   exact aH6 hf (hs x hx)
theorem aKR{f:Affine→Affine}(hf: ∀x,bX x=true→BA 4 (f x)){s:Stmt}{d:Int}(hs:fW s d=true):BS 4 (yK f s):=by
 obtain⟨h1,h2,_⟩:=kH hs
 have:=tL h1
 exact⟨J1 (by omega) (fun x hx=>hf x (this.2.2 x hx)),aH6 hf h2⟩
theorem aJz{f:Affine→Affine}(hf: ∀x,bX x=true→BA 4 (f x)){l:Loop}(h:w4 l):BAs 4 (e9 f l).lo∧BAs 4 (e9 f l).hi:=
 ⟨J1 (by have:=h.1.1;omega) (fun x hx=>hf x (h.1.2 x hx)),J1 (by have:=h.2.1;omega) (fun x hx=>hf x (h.2.2 x hx))⟩
theorem aFz(n:Nat){a:Affine}(h:a.coefs.length≤1000):dG n a=some a:=by
 unfold dG m_ownClone
 rw [if_pos (by omega)];rfl
theorem A5(n:Nat): ∀x,bX x=true→dG n x=some x:=fun x hx=>aFz n (by have:=(gO hx).1;omega)
theorem N4{n:Nat}(hn:5000≤n){l:List Affine}(h1:l.length≤2)(h2: ∀x∈l,bX x=true):fM n l=some l:=by
 unfold fM
 refine Ev.eq (sJ (g:=fun x=>x) (K:=fun x1=>some x1) (fun x hx=>A5 n x (h2 x hx)) (by omega) hn (Ev.some ?_))
 simp
theorem aDu{n:Nat}(hn:5000≤n){nest:List Loop}(h1:nest.length≤4)(h2: ∀l∈nest,w4 l):mB n nest=some nest:=by
 unfold mB
 refine Ev.eq ?_
 refine uM (β:=Loop) (l:=nest) (n:=n) (F:=fun x5 k=>Option.bind (fM n x5.lo) fun x6=>Option.bind (fM n x5.hi) fun x7=>k (⟨x6,x7⟩:Loop)) (g:=fun x=>x) (s:=0) (pre:=[]) (K:=fun x1=>some x1) ?_ (by omega) (by simp) (by omega) hn (Ev.some (by simp))
 exact fun x hx k hk=>aB (N4 hn (h2 x hx).1.1 (h2 x hx).1.2) (aB (N4 hn (h2 x hx).2.1 (h2 x hx).2.2) hk)
theorem aDr{n:Nat}(hn:6000≤n){s:Stmt}{d:Int}(hs:fW s d=true):q9 n s=some s:=by
 unfold q9
 rw [yQ hn hs (F:=fun q0=>dG n q0) (f:=fun x=>x) (A5 n),aI9 (fun _ _=>rfl) hs];rfl
theorem aDs{n:Nat}(hn:6000≤n){list:List Arr}{x:Part}(h:cI list x=true):kS n x=some x:=by
 obtain⟨h1,h2⟩:=sH h
 obtain⟨_,h4,h5,_⟩:=iP h
 unfold kS
 refine Ev.eq (aB (aDu (by omega) h1 h2) (sJ (g:=fun x=>x) (K:=fun x2=>some (⟨x.nest,x2⟩:Part)) (fun s hs=>aDr hn (h5 s hs)) (by omega) (by omega) (Ev.some ?_)))
 simp
theorem aDq{n:Nat}(hn:6000≤n){p:Prog}(h:cD p=true):eM n p=some p:=by
 obtain⟨h1,h2,h3,h4,_⟩:=kN h
 unfold eM
 refine Ev.eq (uM (F:=fun x5 k=>Option.bind (m_ownClone x5.dims) fun x6=>k (⟨x5.name,x6⟩:Arr)) (g:=fun x=>x) (s:=0) (pre:=[]) (K:=fun x1=>aN (fun again11 ((x8,x9):(List Part)×Int)=>
    bif decide (x9<(p.parts.length:Int)) then(
     Option.bind (ix p.parts x9) fun x12=>
     Option.bind (kS n x12) fun x13=>
     Option.bind (app x8 [x13]) fun x14=>
     again11 (x14,wr (x9+1))
    ) else(
     some (⟨x1,x8⟩:Prog)
    )
   ) n ([],0)) (fun x hx k hk=>aB (x:=x.dims) ?_ hk) (by omega) (by simp) (by omega) (by omega) ?_)
 ·have:=(aLN h1 h2).2 x hx
  unfold m_ownClone
  rw [if_pos (by omega)]
 ·refine sJ (g:=fun x=>x) (K:=fun x8=>some (⟨_,x8⟩:Prog)) (fun x hx=>aDs hn (h4 x hx)) (by omega) (by omega) (Ev.some ?_)
  simp
theorem iL{α:Type}{a b:List α}(h:b.length=a.length):fX a b=some ():=by unfold fX;rw [if_pos h]
theorem V9{n:Nat}(hn:5000≤n){l:Loop}(hl:w4 l){F:Affine→Option Affine}{f:Affine→Affine}(hF: ∀x,bX x=true→F x=some (f x)):jX n l F=some (e9 f l):=by
 obtain⟨⟨a1,a2⟩,b1,b2⟩:=hl
 unfold jX
 refine Ev.eq (Ev.loop (fun z:Loop×Int=>(z.2=0∧z.1=l)∨(z.2=1∧z.1=⟨l.lo.map f,l.hi⟩)∨(z.2=2∧z.1=e9 f l)) (fun z=>3-z.2.toNat) ?_ n _ (.inl ⟨rfl,rfl⟩) (by dsimp only;omega))
 rintro again ⟨x,i⟩ hz hr
 dsimp only at hz hr⊢
 rcases hz with ⟨rfl,rfl⟩|⟨rfl,rfl⟩|⟨rfl,rfl⟩
 ·refine aB (iL rfl) (aB (iL rfl) (aH (fun _=>aH (fun _=> ?_) (fun h=>(h rfl).elim)) (fun h=>absurd h (by omega))))
  refine aAJ (F:=fun x k=>Option.bind (F x) k) (W:=fun _ o=>o) (m:=fun _=>(x.lo.length:Int)) (g:=f) (s:=0) (K:=fun y=>again ((⟨y,x.hi⟩:Loop),wr (0+1))) (fun _ _ _ h=>h) (fun _ _=>rfl) (by omega) (fun x hx k hk=>aB (hF x (a2 x hx)) hk) (by omega) hn ?_
  rw [aM (by omega)]
  exact hr _ (.inr (.inl ⟨by dsimp only;omega,by simp⟩)) (by dsimp only;omega)
 ·refine aB (iL (by simp)) (aB (iL rfl) (aH (fun _=>aH (fun h=>absurd h (by omega)) (fun _=>aH (fun _=> ?_) (fun h=>(h rfl).elim))) (fun h=>absurd h (by omega))))
  refine aAJ (F:=fun x k=>Option.bind (F x) k) (W:=fun _ o=>o) (m:=fun _=>(l.hi.length:Int)) (g:=f) (s:=0) (K:=fun y=>again ((⟨l.lo.map f,y⟩:Loop),wr (1+1))) (fun _ _ _ h=>h) (fun _ _=>rfl) (by omega) (fun x hx k hk=>aB (hF x (b2 x hx)) hk) (by omega) hn ?_
  rw [aM (by omega)]
  exact hr _ (.inr (.inr ⟨by dsimp only;omega,by simp [e9]⟩)) (by dsimp only;omega)
 ·refine aB (iL (by simp [e9])) (aB (iL (by simp [e9])) (aH (fun h=>absurd h (by omega)) (fun _=>Ev.some rfl)))
theorem V7{n:Nat}(hn:6000≤n){nest:List Loop}{body:List Stmt}{s:Nat}(hs:s≤nest.length)(h1:nest.length≤4)(h2: ∀l∈nest.drop s,w4 l){d:Int}(h3:body.length≤4)(h4: ∀s∈body,fW s d=true){F:Affine→Option Affine}{f:Affine→Affine}(hF: ∀x,bX x=true→F x=some (f x)):
  jV n ⟨nest,body⟩ (s:Int) F=some ⟨nest.take s++(nest.drop s).map (e9 f),body.map (yK f)⟩:=by
 have key: ∀(nest2:List Loop),Ev (aN (fun again2 ((y,j):(List Stmt)×Int)=>
    Option.bind (fX body y) fun x5=>
    bif decide (j<(body.length:Int)) then(
     Option.bind (ix y j) fun x6=>
     Option.bind (iB n x6 F) fun x7=>
     Option.bind (dR y j x7) fun x8=>
     again2 (x8,wr (j+1))
    ) else(
     some (⟨nest2,y⟩:Part)
    )
   ) n (body,0)) (fun r=>r=⟨nest2,body.map (yK f)⟩):=fun nest2=>
  aAJ (F:=fun x k=>Option.bind (iB n x F) k) (W:=fun y o=>Option.bind (fX body y) fun _=>o) (m:=fun _=>(body.length:Int)) (g:=yK f) (s:=0) (K:=fun y=>some (⟨nest2,y⟩:Part)) (fun y o h ho=>aB (iL h) ho) (fun _ _=>rfl) (by omega) (fun x hx k hk=>aB (yQ hn (h4 x hx) hF) hk) (by omega) (by omega) (Ev.some (by simp))
 unfold jV
 refine Ev.eq ?_
 -- the loops ahead stay: only those behind are changed
 refine Ev.loop (fun z:List Loop×Int=> ∃i:Nat,z.2=i∧s≤i∧i≤nest.length∧z.1=nest.take s++((nest.drop s).take (i-s)).map (e9 f)++nest.drop i) (fun z=>nest.length-z.2.toNat) ?_ n _ ⟨s,rfl,by omega,by omega,by simp⟩ (by dsimp only;omega)
 rintro again ⟨x,z⟩ ⟨i,hz,hsi,hi,hx⟩ hr
 dsimp only at hz hx⊢
 subst hz
 have hpl:(nest.take s++((nest.drop s).take (i-s)).map (e9 f)).length=i:=by rw [List.length_append,List.length_map,List.length_take,List.length_take,List.length_drop];omega
 have hxl:x.length=nest.length:=by rw [hx,List.length_append,hpl,List.length_drop];omega
 refine aB (iL hxl) (aH (fun hlt=> ?_) (fun hge=> ?_))
 ·obtain⟨e,hg⟩: ∃e,nest[i]? =some e:=⟨_,List.getElem?_eq_getElem (show i<nest.length by omega)⟩
  have hgx:x[i]? =some e:=by
   rw [hx,List.getElem?_append_right (by omega),hpl,Nat.sub_self,List.getElem?_drop];exact hg
  have he:e∈nest.drop s:=List.mem_iff_getElem?.2 ⟨i-s,by rw [List.getElem?_drop,show s+(i-s)=i by omega];exact hg⟩
  refine aB (aR hgx) (aB (V9 (by omega) (h2 _ he) hF) (aB (iF (by omega) _) ?_))
  rw [aM (by omega)]
  refine hr _ ⟨i+1,by dsimp only;omega,by omega,by omega,?_⟩ (by dsimp only;omega)
  dsimp only
  rw [hx,Int.toNat_natCast,List.set_append_right _ _ (by omega),hpl,Nat.sub_self,gF hg,List.set_cons_zero,show i+1-s=(i-s)+1 by omega,List.take_add_one,List.getElem?_drop,show s+(i-s)=i by omega,hg]
  simp
 ·have:i=nest.length:=by omega
  subst this
  rw [hx,List.take_of_length_le (l:=nest.drop s) (by rw [List.length_drop];omega),List.drop_length,List.append_nil]
  exact key _
theorem aAM{n:Nat}(hn:5000≤n){l:List Affine}(h1:l.length≤2)(h2: ∀x∈l,bX x=true){way v:Int}{b:Affine}{f:Affine→Affine}(hF: ∀x,bX x=true→gS n x way v b=some (f x)):o0 n l way v b=some (l.map f):=by
 unfold o0
 exact Ev.eq (sJ (K:=fun x1=>some x1) (fun x hx=>hF x (h2 x hx)) (by omega) hn (Ev.some rfl))
theorem aFE{n:Nat}(hn:5000≤n){l:Loop}(hl:w4 l){way v:Int}{b:Affine}{f:Affine→Affine}(hF: ∀x,bX x=true→gS n x way v b=some (f x)):qP n l way v b=some (e9 f l):=by
 unfold qP
 rw [aAM hn hl.1.1 hl.1.2 hF,aAM hn hl.2.1 hl.2.2 hF];rfl
theorem E3{n:Nat}(hn:5000≤n){a:Access}{d:Int}(ha:gY a d=true){way v:Int}{b:Affine}{f:Affine→Affine}(hF: ∀x,bX x=true→gS n x way v b=some (f x)):kI n a way v b=some (fT f a):=by
 have:=tL ha
 unfold kI
 rw [aAM hn this.2.1 this.2.2 hF];rfl
theorem aAa{d way v:Int}{b:Affine}{f:Affine→Affine}(hF: ∀n,5000≤n→ ∀x,bX x=true→gS n x way v b=some (f x)): ∀(L n:Nat) (e:Expr),5000+L≤n→dB L e d=true→s_l8Expr (n+1) e way v b=some (uN f L e)
 |0,_,_,_,h=>by cases h
 |L+1,n,e,hn,h=>by
  obtain⟨hk,ho,hs⟩:=gI h
  obtain⟨n,rfl⟩: ∃j,n=j+1:=⟨n-1,by omega⟩
  have hkl:e.kids.length≤2:=by have:=mZ e.kind;omega
  unfold s_l8Expr
  refine Ev.eq (Ev.jn (fun z=>(⟨z.1,z.2⟩:Affine)=(if e.kind=2 then f e.index else⟨[],0⟩)) (fun j hj=> ?_) (fun z hz=>Ev.jn (fun y=>(⟨y.1,y.2⟩:Access)=(if e.kind=3 then fT f e.read else⟨[],[]⟩)) (fun j hj=> ?_) (fun y hy=> ?_)))
  ·exact aH (fun h2=>aB (hF _ (by omega) _ (wV ho h2).1) (hj _ (by rw [if_pos h2]))) (fun h2=>hj _ (by rw [if_neg h2]))
  ·exact aH (fun h3=>aB (E3 (by omega) (wU ho h3).1 (hF _ (by omega))) (hj _ (by rw [if_pos h3]))) (fun h3=>hj _ (by rw [if_neg h3]))
  ·obtain⟨x3,x4⟩:=z
   obtain⟨x7,x8⟩:=y
   dsimp only at hz hy⊢
   refine sJ (K:=fun x9=>some (⟨e.kind,e.num,(⟨x3,x4⟩:Affine),(⟨x7,x8⟩:Access),x9⟩:Expr)) (fun x hx=>aAa hF L n x (by omega) (hs x hx)) (by omega) (by omega) (Ev.some ?_)
   rw [hz,hy];rfl
theorem aFG{n:Nat}(hn:6000≤n){l:List Stmt}{d:Int}(h1:l.length≤4)(h2: ∀s∈l,fW s d=true){way v:Int}{b:Affine}{f:Affine→Affine}(hF: ∀n,5000≤n→ ∀x,bX x=true→gS n x way v b=some (f x)):tZ n l way v b=some (l.map (yK f)):=by
 obtain⟨n,rfl⟩: ∃j,n=j+1:=⟨n-1,by omega⟩
 unfold tZ
 refine Ev.eq ?_
 refine uM (β:=Stmt) (l:=l) (n:=n+1) (F:=fun x5 k=>Option.bind (kI (n+1) x5.write way v b) fun x6=>Option.bind (s_l8Expr (n+1) x5.value way v b) fun x7=>k (⟨x6,x7⟩:Stmt)) (g:=yK f) (s:=0) (pre:=[]) (K:=fun x1=>some x1) (fun x hx k hk=> ?_) (by omega) (by simp) (by omega) (by omega) (Ev.some (by simp))
 obtain⟨h1,h2,_⟩:=kH (h2 x hx)
 exact aB (E3 (by omega) h1 (hF _ (by omega))) (aB (aAa hF 5 n x.value (by omega) h2) hk)
theorem aDH{n:Nat}(hn:6000≤n){x:Part}{s:Nat}(hs:s+1≤x.nest.length)(h1:x.nest.length≤4)(h2: ∀l∈x.nest,w4 l){d:Int}(h3:x.body.length≤4)(h4: ∀s∈x.body,fW s d=true){way v:Int}{b:Affine}{f:Affine→Affine}(hF: ∀n,5000≤n→ ∀x,bX x=true→gS n x way v b=some (f x)):
  qQ n x (s:Int) way v b=some ⟨x.nest.take (s+1)++(x.nest.drop (s+1)).map (e9 f),x.body.map (yK f)⟩:=by
 unfold qQ
 rw [aM (by omega)]
 refine Ev.eq (aB (tR (by omega) (by omega) (by omega)) ?_)
 rw [show((s:Int)+1).toNat=s+1 by omega,show(0:Int).toNat=0 from rfl,List.drop_zero]
 refine aB (x:=x.nest.take (s+1)) (cA (by simp;omega)) (aB (aFG hn h3 h4 hF) ?_)
 exact uM (F:=fun x8 k=>Option.bind (qP n x8 way v b) k) (g:=e9 f) (s:=s+1) (pre:=x.nest.take (s+1)) (K:=fun x4=>some (⟨x4,x.body.map (yK f)⟩:Part)) (fun l hl k hk=>aB (aFE (by omega) (h2 l hl) (hF _ (by omega))) hk) (by omega) (by simp;omega) (by omega) (by omega) (Ev.some rfl)
theorem Z3(n:Nat){a:Affine}(h:BA 1000 a):gA n a=some a:=by
 unfold gA
 rw [fS _ h];rfl
theorem wX{n:Nat}(hn:5000≤n){l:List Affine}(h:BAs 1000 l):cV n l=some l:=by
 unfold cV
 exact Ev.eq (nB (K:=fun x1=>some x1) (fun x hx=>Z3 n (h.2 x hx)) h.1 hn (Ev.some rfl))
theorem Z4{n:Nat}(hn:5000≤n){a:Access}(h:BAs 1000 a.subs):gB n a=some a:=by
 unfold gB
 rw [wX hn h];rfl
theorem N8: ∀(L n:Nat) (e:Expr),5000+L≤n→BE 1000 L e→s_l16OwnExpr (n+1) e=some e
 |0,_,_,_,h=>h.elim
 |L+1,n,e,hn,h=>by
  obtain⟨h1,h2,h3,h4⟩:=h
  obtain⟨n,rfl⟩: ∃j,n=j+1:=⟨n-1,by omega⟩
  unfold s_l16OwnExpr i8
  rw [Z3 _ h2,Z4 (by omega) h3]
  refine Ev.eq (aB rfl (aB rfl (aB (x:=e.kids) ?_ (Ev.some (by cases e;rfl)))))
  exact Ev.eq (nB (f:=s_l16OwnExpr (n+1)) (K:=fun x1=>some x1) (fun x hx=>N8 L n x (by omega) (h4 x hx)) h1 (by omega) (Ev.some rfl))
theorem aDy{n:Nat}(hn:6000≤n){s:Stmt}(h:BS 1000 s):lC n s=some s:=by
 obtain⟨n,rfl⟩: ∃j,n=j+1:=⟨n-1,by omega⟩
 unfold lC
 rw [Z4 (by omega) h.1,N8 5 n s.value (by omega) h.2];rfl
theorem aDA{n:Nat}(hn:6000≤n){x:Part}(h:BPt 1000 x):lD n x=some x:=by
 obtain⟨⟨h1,h2⟩,h3,h4⟩:=h
 have e1:f0 n x.nest=some x.nest:=by
  unfold f0
  refine Ev.eq (nB (K:=fun x1=>some x1) (fun l hl=> ?_) h1 (by omega) (Ev.some rfl))
  unfold nP
  rw [wX (by omega) (h2 l hl).1,wX (by omega) (h2 l hl).2];rfl
 have e2:fY n x.body=some x.body:=by
  unfold fY
  exact Ev.eq (nB (K:=fun x1=>some x1) (fun l hl=>aDy hn (h4 l hl)) h3 (by omega) (Ev.some rfl))
 unfold lD
 rw [e1,e2];rfl
theorem aDz{n:Nat}(hn:6000≤n){p:Prog}(h:BG 1000 p):gT n p=some p:=by
 obtain⟨⟨h1,h2⟩,h3,h4⟩:=h
 have e1:fJ n p.arrays=some p.arrays:=by
  unfold fJ
  refine Ev.eq (nB (K:=fun x1=>some x1) (fun l hl=> ?_) h1 (by omega) (Ev.some rfl))
  unfold mM
  rw [fS _ (h2 l hl)];rfl
 have e2:fZ n p.parts=some p.parts:=by
  unfold fZ
  exact Ev.eq (nB (K:=fun x1=>some x1) (fun l hl=>aDA hn (h4 l hl)) h3 (by omega) (Ev.some rfl))
 unfold gT
 rw [e1,e2];rfl
theorem qO{α:Type}{f:α→α→Option Bool}{l:List α}(hf: ∀x∈l,f x x=some true){n:Nat}(hn:l.length<n)(hl:l.length≤1000000):
  (bif !decide ((l.length:Int)=(l.length:Int)) then(some false) else(aN (fun again2 (x1:Int)=>bif decide (x1<(l.length:Int)) then(Option.bind (ix l x1) fun x3=>Option.bind (ix l x1) fun x4=>Option.bind (f x3 x4) fun x5=>bif !x5 then(some false) else(again2 (wr (x1+1)))) else(some true)) n 0))=some true:=by
 refine Ev.eq (eA (fun h=>(h rfl).elim) (fun _=> ?_))
 refine Ev.loop (fun x:Int=> ∃i:Nat,x=i∧i≤l.length) (fun x=>l.length-x.toNat) ?_ n 0 ⟨0,rfl,by omega⟩ (by omega)
 rintro again x ⟨i,rfl,hi⟩ hr
 refine aH (fun hlt=> ?_) (fun _=>Ev.some rfl)
 obtain⟨e,hg⟩: ∃e,l[i]? =some e:=⟨_,List.getElem?_eq_getElem (show i<l.length by omega)⟩
 refine aB (aR hg) (aB (aR hg) (aB (hf e (List.mem_of_getElem? hg)) (bV ?_)))
 rw [aM (by omega)]
 exact hr _ ⟨i+1,by omega,by omega⟩ (by omega)
theorem Y2{a:List Int}{n:Nat}(hn:a.length<n)(hl:a.length≤1000000):kR n a a=some true:=by
 unfold kR
 refine Ev.eq (eA (fun h=>(h rfl).elim) (fun _=> ?_))
 refine Ev.loop (fun x:Int=> ∃i:Nat,x=i∧i≤a.length) (fun x=>a.length-x.toNat) ?_ n 0 ⟨0,rfl,by omega⟩ (by omega)
 rintro again x ⟨i,rfl,hi⟩ hr
 refine aH (fun hlt=> ?_) (fun _=>Ev.some rfl)
 obtain⟨e,hg⟩: ∃e,a[i]? =some e:=⟨_,List.getElem?_eq_getElem (show i<a.length by omega)⟩
 refine aB (aR hg) (aB (aR hg) (eA (fun h=>(h rfl).elim) (fun _=> ?_)))
 rw [aM (by omega)]
 exact hr _ ⟨i+1,by omega,by omega⟩ (by omega)
theorem aFh{n:Nat}(hn:5000≤n){a:Affine}(h:BA 1000 a):cJ n a a=some true:=by
 unfold BA at h
 unfold cJ
 refine Ev.eq (Ev.jn (fun z=>z=true) (fun j hj=>aB (Y2 (by omega) (by omega)) (bU (hj _ (decide_eq_true rfl)))) (fun z hz=>Ev.some hz))
theorem U8{n:Nat}(hn:5000≤n){l:List Affine}(h:BAs 1000 l):cX n l l (fun q0 q1=>cJ n q0 q1)=some true:=by
 have:=h.1
 unfold cX
 exact qO (fun x hx=>aFh hn (h.2 x hx)) (by omega) (by omega)
theorem aFi{n:Nat}(hn:5000≤n){a:Access}(h:BAs 1000 a.subs):jF n a a=some true:=by
 unfold jF
 refine Ev.eq (Ev.jn (fun z=>z=true) (fun j hj=> ?_) (fun z hz=>Ev.some hz))
 exact aH (fun _=>aB (U8 hn h) (hj _ rfl)) (fun h=>(h rfl).elim)
theorem aCn: ∀(L n:Nat) (e:Expr),5000+L≤n→BE 1000 L e→i_exprSame (n+1) e e=some true
 |0,_,_,_,h=>h.elim
 |L+1,n,e,hn,h=>by
  obtain⟨h1,h2,h3,h4⟩:=h
  obtain⟨n,rfl⟩: ∃j,n=j+1:=⟨n-1,by omega⟩
  unfold i_exprSame
  refine Ev.eq (Ev.jn (fun z=>z=true) (fun j hj=> ?_) (fun z hz=>Ev.some hz))
  refine aH (fun _=>aH (fun _=>aB (aFh (by omega) h2) (bU (aB (aFi (by omega) h3) (bU (aB (x:=true) ?_ (hj _ rfl)))))) (fun h=>(h rfl).elim)) (fun h=>(h rfl).elim)
  unfold jE
  exact qO (fun x hx=>aCn L n x (by omega) (h4 x hx)) (by omega) (by omega)
theorem aGB{n:Nat}(hn:6000≤n){s:Stmt}(h:BS 1000 s):mF n s s=some true:=by
 obtain⟨n,rfl⟩: ∃j,n=j+1:=⟨n-1,by omega⟩
 unfold mF
 refine Ev.eq (Ev.jn (fun z=>z=true) (fun j hj=> ?_) (fun z hz=>Ev.some hz))
 exact aB (aFi (by omega) h.1) (bU (aB (aCn 5 n s.value (by omega) h.2) (hj _ rfl)))
theorem aGV{n:Nat}(hn:5000≤n){nest:List Loop}(h:BN 1000 nest):pH n nest nest=some true:=by
 have:=h.1
 unfold pH jD
 rw [qO (fun l hl=> ?_) (by omega) (by omega)]
 ·rfl
 ·unfold lN
  refine Ev.eq (Ev.jn (fun z=>z=true) (fun j hj=> ?_) (fun z hz=>Ev.some hz))
  exact aB (U8 hn (h.2 l hl).1) (bU (aB (U8 hn (h.2 l hl).2) (hj _ rfl)))
theorem aGQ{n:Nat}(hn:6000≤n){x:Part}(h:BPt 1000 x):fB n x x=some true:=by
 have:=h.2.1
 unfold fB
 refine Ev.eq (Ev.jn (fun z=>z=true) (fun j hj=> ?_) (fun z hz=>Ev.some hz))
 refine aB (aGV (by omega) h.1) (bU (aB (x:=true) ?_ (hj _ rfl)))
 unfold jB
 exact qO (fun s hs=>aGB hn (h.2.2 s hs)) (by omega) (by omega)
theorem aGP{n:Nat}(hn:6000≤n){p:Prog}(h:BG 1000 p):eN n p p=some true:=by
 obtain⟨⟨h1,h2⟩,h3,h4⟩:=h
 unfold eN
 refine Ev.eq (Ev.jn (fun z=>z=true) (fun j hj=> ?_) (fun z hz=>Ev.some hz))
 refine aB (x:=true) ?_ (bU (aB (x:=true) ?_ (hj _ rfl)))
 ·unfold iH
  refine qO (fun x hx=> ?_) (by omega) (by omega)
  unfold fC
  refine Ev.eq (Ev.jn (fun z=>z=true) (fun j hj=> ?_) (fun z hz=>Ev.some hz))
  have:=h2 x hx
  exact aH (fun _=>aB (Y2 (by omega) (by omega)) (hj _ rfl)) (fun h=>(h rfl).elim)
 ·unfold jC
  exact qO (fun x hx=>aGQ hn (h4 x hx)) (by omega) (by omega)
def jY(p:Prog)(part loop:Int):Bool:=cD p&&match ix p.parts part with
 |some x=>decide (0≤loop∧loop<(x.nest.length:Int))
 |none=>false
theorem aG4{α:Type}{l:List α}{i:Int}(h: ¬(0≤i∧i<(l.length:Int))):ix l i=none:=by
 cases hx:ix l i with
 |none=>rfl
 |some x=>
  obtain⟨h1,h2⟩:=sL hx
  have:=(List.getElem?_eq_some_iff.1 h2).1
  exact absurd ⟨h1,by omega⟩ h
theorem aKy{α:Type}{l:List α}{i:Int}{x:α}(h:ix l i=some x): ∃k:Nat,i=k∧k<l.length∧l[k]? =some x:=by
 obtain⟨h1,h2⟩:=sL h
 exact⟨i.toNat,by omega,(List.getElem?_eq_some_iff.1 h2).1,h2⟩
theorem B6(n:Nat){p:Prog}(h:p.parts.length≤1000)(part:Int):eQ n p part=some (decide (0≤part∧part<(p.parts.length:Int))):=by
 unfold eQ
 rw [dE,aM (by omega)]
 exact congrArg some (decide_eq_decide.2 (by omega))
theorem aH5{n:Nat}(hn:7000≤n){p:Prog}(hp:BG 1000 p)(part loop:Int)(hl:loop≠ -1):nT n p part loop=some (if jY p part loop=true then(p,true) else(⟨[],[]⟩,false)):=by
 unfold nT
 refine Ev.eq (Ev.jn (fun z=>z= !jY p part loop) (fun j hj=> ?_) (fun z hz=> ?_))
 ·refine aB (d9 hn hp.sm) (Ev.cond (fun h=> ?_) (fun h=> ?_))
  ·refine hj _ ?_
   unfold jY
   rw [show cD p=false by simpa using h];rfl
  ·have hv:cD p=true:=by simpa using h
   refine aB (B6 n hp.2.1 part) ?_
   by_cases hi:0≤part∧part<(p.parts.length:Int)
   ·obtain⟨x,hx,hx2⟩:=iR hi.1 hi.2
    rw [decide_eq_true hi]
    refine bV (eA (fun _=>aB (x:=jY p part loop) ?_ (hj _ rfl)) (fun h=>absurd h hl))
    unfold jH
    refine Ev.eq (Ev.jn (fun z=>z=jY p part loop) (fun j hj=> ?_) (fun z hz=>Ev.some hz))
    rw [B6 n hp.2.1 part,decide_eq_true hi]
    refine aB rfl (bU (aB hx ?_))
    have:=(hp.2.2 x (List.mem_of_getElem? hx2)).1.1
    rw [aM (by omega),dE]
    refine aB rfl (hj _ ?_)
    unfold jY
    rw [hv,hx]
    exact decide_eq_decide.2 (by omega)
   ·rw [decide_eq_false hi]
    refine bU (hj _ ?_)
    unfold jY
    rw [aG4 hi,Bool.and_false];rfl
 ·subst hz
  by_cases hc:jY p part loop=true
  ·rw [hc]
   have hv:cD p=true:=by unfold jY at hc;rw [Bool.and_eq_true] at hc;exact hc.1
   obtain⟨x,hx⟩: ∃x,ix p.parts part=some x:=by
    cases hx:ix p.parts part with
    |some x=>exact⟨x,rfl⟩
    |none=>unfold jY at hc;rw [hx,Bool.and_false] at hc;cases hc
   exact bV (aB (aDq (by omega) hv) (aB hx (Ev.some rfl)))
  ·rw [show jY p part loop=false by simpa using hc]
   exact bU (Ev.some rfl)
def C2(q:Prog):Prog×Bool:=if cD q=true then(q,true) else(⟨[],[]⟩,false)
theorem aCm{n:Nat}(hn:7000≤n){p:Prog}(hp:BG 1000 p):pF n p=some (C2 p):=by
 unfold pF C2
 refine Ev.eq (aB (d9 hn hp.sm) (Ev.cond (fun h=>Ev.some ?_) (fun h=> ?_)))
 ·rw [if_neg (by simpa using h)]
 ·have hv:cD p=true:=by simpa using h
  rw [if_pos hv]
  exact aB (aDq (by omega) hv) (Ev.some rfl)
theorem aHd{n:Nat}(hn:7000≤n){p:Prog}(hp:BG 1000 p)(part loop:Int):xX n p part loop=some (jY p part loop):=by
 unfold xX
 refine Ev.eq (Ev.jn (fun z=>z=jY p part loop) (fun j hj=> ?_) (fun z hz=>Ev.some hz))
 refine aB (lF hn hp.sm) (Ev.cond (fun hv=> ?_) (fun hv=>hj _ (by unfold jY;rw [hv];rfl)))
 refine aH (fun h1=>aH (fun h2=> ?_) (fun h2=> ?_)) (fun h1=> ?_)
 ·obtain⟨x,hx,hx2⟩:=iR h1 h2
  refine aH (fun h3=>aB hx (hj _ ?_)) (fun h3=>hj _ ?_)
  ·unfold jY
   rw [hv,hx]
   exact decide_eq_decide.2 (by omega)
  ·unfold jY
   rw [hv,hx]
   exact(decide_eq_false (by omega)).symm
 ·exact hj _ (by unfold jY;rw [aG4 (by omega),Bool.and_false])
 ·exact hj _ (by unfold jY;rw [aG4 (by omega),Bool.and_false])
theorem aIt{n:Nat}(hn:7000≤n){p:Prog}(hp:BG 1000 p){i:Nat}(hi:i<p.parts.length){y:Part}(hy:BPt 1000 y):tX n p (i:Int) 1 [y]=some (C2 ⟨p.arrays,p.parts.set i y⟩):=by
 have hpl:=hp.2.1
 have hq:BG 1000 ⟨p.arrays,p.parts.set i y⟩:=⟨hp.1,by dsimp only;rw [List.length_set];exact hpl,rW hp.2.2 hy⟩
 unfold tX C2
 refine Ev.eq (aB (uS (by omega) hp) (aB (tR (by omega) (by omega) (by omega)) ?_))
 rw [Int.toNat_natCast,show(0:Int).toNat=0 from rfl,List.drop_zero]
 refine aB (x:=p.parts.take i) (cA (by simp;omega)) (aB (x:=p.parts.take i++[y]) (cA (by simp;omega)) ?_)
 rw [aM (by omega)]
 refine aB (tR (by omega) (by omega) (by omega)) ?_
 rw [Int.toNat_natCast,List.take_length,show((i:Int)+1).toNat=i+1 by omega]
 refine aB (x:=p.parts.set i y) ?_ (aB (lF hn hq.sm) (Ev.cond (fun h=>Ev.some ?_) (fun h=> ?_)))
 ·rw [cA (by simp;omega),List.set_eq_take_append_cons_drop,if_pos hi,List.append_assoc];rfl
 ·rw [if_neg (by simpa using h)]
 ·rw [if_pos (by simpa using h)]
  exact aB (uS (by omega) hq) (Ev.some rfl)
def aBQ(k:Nat):Affine:=⟨[0,0,0,0].set k 1,0⟩
def bB(m:Int)(a:Affine):Prop:=a.coefs.length=4∧pR m a.const∧ ∀c∈a.coefs,pR m c
theorem bB.mono{m m':Int}{a:Affine}(h:bB m a)(hm:m≤m'):bB m' a:=⟨h.1,⟨by have:=h.2.1.1;omega,by have:=h.2.1.2;omega⟩,fun c hc=>⟨by have:=(h.2.2 c hc).1;omega,by have:=(h.2.2 c hc).2;omega⟩⟩
theorem aFD{l:List Int}(h:l.length=4): ∃a b c d,l=[a,b,c,d]:=by
 match l,h with
 | [a,b,c,d],_=>exact⟨a,b,c,d,rfl⟩
theorem aIx{k:Nat}(hk:k<4):bB 6 (aBQ k):=by
 rcases(show k=0∨k=1∨k=2∨k=3 by omega) with rfl|rfl|rfl|rfl<;>(unfold bB pR aBQ;simp)
theorem V8{k b:Int}(hk:pR 1000 k)(hb:pR 1000 b):pR 1000000 (k*b):=aER (by omega) (by omega) hk hb
def aHX(a:Affine)(x:Int)(b:Affine)(y:Int):Affine:=⟨List.zipWith (fun p q=>x*p+y*q) a.coefs b.coefs,x*a.const+y*b.const⟩
theorem aKq(m:Nat)(a0 a1 a2 a3 ac x b0 b1 b2 b3 bc y:Int):dU (m+6) ⟨[a0,a1,a2,a3],ac⟩ x ⟨[b0,b1,b2,b3],bc⟩ y=
  some ⟨[wr (wr (x*a0)+wr (y*b0)),wr (wr (x*a1)+wr (y*b1)),wr (wr (x*a2)+wr (y*b2)),wr (wr (x*a3)+wr (y*b3))],wr (wr (x*ac)+wr (y*bc))⟩:=by kernel_rfl
theorem wrC{a x:Int}(ha:pR 1000000 a)(hx:pR 1000000 x):wr (wr a+wr x)=a+x:=by
 unfold pR at ha hx
 rw [aM (n:=x) (by omega),aM (n:=a) (by omega),aM (by omega)]
theorem aBZ{n:Nat}(hn:5000≤n){a b:Affine}(ha:bB 1000 a)(hb:bB 1000 b){x y:Int}(hx:pR 1000 x)(hy:pR 1000 y):dU n a x b y=some (aHX a x b y):=by
 obtain⟨m,rfl⟩: ∃m,n=m+6:=⟨n-6,by omega⟩
 obtain⟨ac,a⟩:=a
 obtain⟨bc,b⟩:=b
 obtain⟨h1,h2,h3⟩:=ha
 obtain⟨g1,g2,g3⟩:=hb
 dsimp only at h1 h2 h3 g1 g2 g3
 obtain⟨a0,a1,a2,a3,rfl⟩:=aFD h1
 obtain⟨b0,b1,b2,b3,rfl⟩:=aFD g1
 rw [aKq,wrC (V8 hx (h3 a0 (by simp))) (V8 hy (g3 b0 (by simp))),wrC (V8 hx (h3 a1 (by simp))) (V8 hy (g3 b1 (by simp))),wrC (V8 hx (h3 a2 (by simp))) (V8 hy (g3 b2 (by simp))),wrC (V8 hx (h3 a3 (by simp))) (V8 hy (g3 b3 (by simp))),wrC (V8 hx h2) (V8 hy g2)]
 rfl
theorem aGE(n:Nat){k:Nat}(hk:k<4):lB n (k:Int)=some (aBQ k):=by
 rcases(show k=0∨k=1∨k=2∨k=3 by omega) with rfl|rfl|rfl|rfl<;>rfl
def noP:Prog×Bool:=(⟨[],[]⟩,false)
theorem P8{p:Prog}{part loop:Int}(h:jY p part loop=true):cD p=true∧ ∃(i k:Nat) (P:Part) (l:Loop),part=i∧loop=k∧p.parts[i]? =some P∧P.nest[k]? =some l∧i<p.parts.length∧k<P.nest.length∧cI p.arrays P=true∧k<4:=by
 unfold jY at h
 rw [Bool.and_eq_true] at h
 obtain⟨hv,h⟩:=h
 refine⟨hv,?_⟩
 cases hx:ix p.parts part with
 |none=>rw [hx] at h;cases h
 |some P=>
  rw [hx] at h
  obtain⟨i,rfl,hi,hP⟩:=aKy hx
  obtain⟨h1,h2⟩:=of_decide_eq_true h
  obtain⟨l,hl,hl2⟩:=iR h1 h2
  have hok:=(kN hv).2.2.2.1 P (List.mem_of_getElem? hP)
  have:=(sH hok).1
  exact⟨i,loop.toNat,P,l,rfl,by omega,hP,hl2,hi,by omega,hok,by omega⟩
theorem aH4{p:Prog}(hp:BG 1000 p)(i:Nat){y:Part}(hy:BPt 4 y):BG 1000 ⟨p.arrays,p.parts.set i y⟩:=⟨hp.1,by dsimp only;rw [List.length_set];exact hp.2.1,rW hp.2.2 (hy.mono (by omega))⟩
theorem aHe{p:Prog}{part loop:Int}(h:loop<0):jY p part loop=false:=by
 cases hc:jY p part loop with
 |false=>rfl
 |true=>obtain⟨_,i,k,P,l,_,hk,_⟩:=P8 hc;omega
theorem aJm{q:Prog}(h:BG 1000 q):BG 1000 (C2 q).1:=by
 unfold C2
 split
 ·exact h
 ·exact⟨⟨by simp,fun x hx=>by cases hx⟩,by simp,fun x hx=>by cases hx⟩
theorem aGU:BG 1000 noP.1:=⟨⟨by simp [noP],fun x hx=>by cases hx⟩,by simp [noP],fun x hx=>by cases hx⟩
theorem aJB(code:List UInt8):Ev (Option.bind (oD N code) fun x1=>Option.bind (t0 N x1) fun x2=>some (x2.1,x2.2.1,x2.2.2.1,x2.2.2.2.1)) (fun x=>BG 1000 x.1):=by
 have hN:N=100000:=rfl
 refine aL (aI0 code) (fun x1 r1=>aL (P:=fun x=>BG 1000 x.1) ?_ (fun x2 h2=>Ev.some h2))
 unfold t0
 refine aL (aFF r1 (by omega)) (fun x1 ⟨h1,r1⟩=>aL (aI6 (by omega) r1 (by omega) h1) (fun x2 ⟨h2,r2⟩=>aL (jJ N r2 (by omega) (by simp)) (fun x3 ⟨_,r3⟩=>aL (jJ N r3 (by omega) (by simp)) (fun x4 ⟨_,r4⟩=>aL (jJ N r4 (by omega) (by simp)) (fun x5 ⟨_,r5⟩=>Ev.some (h2.mono (show 30≤1000 by omega)))))))
def kA(k:Nat)(s:Int):Affine:=⟨[0,0,0,0].set k s,0⟩
theorem aKH{B:Option Bool}{a b:Int}(h:b≤1048576→Ev B (fun r=>r=true)):Ev (jn (fun(x2:Bool)=>bif x2 then(some true) else B) (fun j1=>bif decide ((1048576:Int)<a) then(j1 true) else(j1 (decide ((1048576:Int)<b))))) (fun r=>r=true):=by
 exact Ev.jn (fun z=>z=false→b≤1048576) (fun j hj=>aH (fun _=>hj _ (fun h=>by cases h)) (fun _=>hj _ (fun h=>by have:=of_decide_eq_false h;omega))) (fun z hz=>Ev.cond (fun _=>Ev.some rfl) (fun h0=>h (hz h0)))
theorem aKG{I S:Option (Prog×Bool)}{REST:Prog×Bool→Prog×Bool→Option Bool}{R:Prog×Bool}(hR:BG 1000 R.1)(h1:I=some R)(h2:S=some R)(hb:R.2=true→Ev (REST R R) (fun r=>r=true)):
  Ev (Option.bind I fun x4=>Option.bind S fun x5=>jn (fun(x8:Bool)=>
    bif x8 then(
     jn (fun(x11:Bool)=>
      some x11
     ) (fun j9=>
      bif(x4.2==x5.2) then(
       Option.bind (eN N x4.1 x5.1) fun x10=>
       j9 x10
      ) else(
       j9 false
      )
     )
    ) else(
     REST x4 x5
    )
   ) (fun j6=>
    bif !(x4.2==x5.2) then(
     j6 true
    ) else(
     Option.bind (eN N x4.1 x5.1) fun x7=>
     bif !x7 then(
      j6 true
     ) else(
      j6 (!x4.2)
     )
    )
   )) (fun r=>r=true):=by
 have hN:N=100000:=rfl
 have hs:=aGP (n:=N) (by omega) hR
 have he:(R.2==R.2)=true:=by cases R.2<;>rfl
 refine aB h1 (aB h2 (Ev.jn (fun z=>z= !R.2) (fun j hj=> ?_) (fun z hz=> ?_)))
 ·rw [he]
  exact bV (aB hs (bV (hj _ rfl)))
 ·subst hz
  cases hr:R.2 with
  |false=>exact bU (Ev.jn (fun z=>z=true) (fun j hj=>bU (aB hs (hj _ rfl))) (fun z hz=>Ev.some hz))
  |true=>exact bV (hb hr)
theorem q5{α β:Type}{f g:α→β}: ∀{l:List α},(∀x∈l,f x=g x)→l.map f=l.map g
 | [],_=>rfl
 |x::l,h=>by rw [List.map_cons,List.map_cons,h x List.mem_cons_self,q5 (fun y hy=>h y (List.mem_cons_of_mem _ hy))]
theorem aKJ{p q:Prog}(h:C2 p=(q,true)):q=p∧cD p=true:=by
 unfold C2 at h
 split at h
 ·rename_i hv;cases h;exact⟨rfl,hv⟩
 ·cases h
def low(k:Nat)(b:Affine):Prop:= ∀j,k≤j→b.coefs.getD j 0=0
theorem aFQ{α:Type}{l:List α}{v d:α}:(l++[v]).getD l.length d=v:=by
 rw [List.getD_eq_getElem?_getD,List.getElem?_append_right (Nat.le_refl _),Nat.sub_self];rfl
theorem aFP{α:Type}{l:List α}{k:Nat}{v d:α}(h:k<l.length):(l++[v]).getD k d=l.getD k d:=by
 rw [List.getD_eq_getElem?_getD,List.getElem?_append_left h,List.getD_eq_getElem?_getD]
theorem sP{α β:Type}{f g:α→List β}{l:List α}(h: ∀x∈l,f x=g x):l.flatMap f=l.flatMap g:=by
 rw [List.flatMap_def,List.flatMap_def,q5 h]
theorem E1{list:List Arr}{x:Part}(h:cI list x=true):d8 x=pts x.nest []:=(aBD (iP h).1).2.2.2.1
theorem insts_set{ps:List Part}{i:Nat}{P P':Part}(hP:ps[i]? =some P){σ:Inst→Inst}(h1:instP i P'=(instP i P).map σ)(h2: ∀x,x.part≠(i:Int)→σ x=x):insts (ps.set i P')=(insts ps).map σ:=by
 unfold insts
 rw [List.map_flatMap]
 have e:(ps.set i P').zipIdx=ps.zipIdx.map (fun y=>if y.2=i then(P',i) else y):=by
  refine List.ext_getElem? (fun j=> ?_)
  rw [List.getElem?_zipIdx,List.getElem?_map,List.getElem?_zipIdx]
  by_cases hj:i=j
  ·subst hj
   rw [List.getElem?_set_self (List.getElem?_eq_some_iff.1 hP).1,hP]
   simp
  ·rw [List.getElem?_set_ne hj]
   cases ps[j]? with
   |none=>rfl
   |some y=>
    have: ¬j=i:=fun h=>hj h.symm
    simp [this]
 rw [e,List.flatMap_map]
 refine sP (fun y hy=> ?_)
 obtain⟨j,hj⟩:=List.mem_iff_getElem?.1 hy
 rw [List.getElem?_zipIdx] at hj
 cases hx:ps[j]? with
 |none=>rw [hx] at hj;cases hj
 |some x=>
  rw [hx] at hj
  simp at hj
  subst hj
  by_cases hji:j=i
  ·subst hji
   rw [hP] at hx
   cases hx
   simp [h1]
  ·simp only [if_neg hji]
   refine(aAZ (fun z hz=>h2 z ?_)).symm
   unfold instP at hz
   obtain⟨q,_,hz⟩:=List.mem_flatMap.1 hz
   obtain⟨t,_,rfl⟩:=List.mem_map.1 hz
   dsimp only
   omega
theorem aJM{f:Affine→Affine}{t q:List Int}: ∀{ss:List Affine} (ds:List Int) (acc:Int),(∀x∈ss,cT (f x) t=cT x q)→mA (ss.map f) ds t acc=mA ss ds q acc
 | [],ds,acc,_=>by cases ds<;>rfl
 |s::ss,[],acc,_=>rfl
 |s::ss,d::ds,acc,h=>by
  simp only [List.map_cons,mA]
  rw [h s List.mem_cons_self]
  split
  ·exact aJM ds _ (fun x hx=>h x (List.mem_cons_of_mem _ hx))
  ·rfl
theorem aD6{f:Affine→Affine}{t q:List Int}{a:Access}(h: ∀x∈a.subs,cT (f x) t=cT x q): ∀(xs:List Arr) (base:Int),cK xs (fT f a) t base=cK xs a q base
 | [],_=>rfl
 |x::xs,base=>by
  have e1:mA (fT f a).subs x.dims t 0=mA a.subs x.dims q 0:=aJM _ _ h
  have e2:(fT f a).subs.length=a.subs.length:=by simp [fT]
  have e3:(fT f a).array=a.array:=rfl
  simp only [cK,e1,e2,e3,aD6 h xs]
theorem aEL{d:Int}{f:Affine→Affine}: ∀{L:Nat} {e:Expr},dB L e d=true→b6 L (uN f L e)=(b6 L e).map (fT f)
 |0,_,h=>by cases h
 |L+1,e,h=>by
  obtain⟨hk,ho,hs⟩:=gI h
  show(if e.kind=3 then [if e.kind=3 then fT f e.read else⟨[],[]⟩] else [])++(e.kids.map (uN f L)).flatMap (b6 L)=((if e.kind=3 then [e.read] else [])++e.kids.flatMap (b6 L)).map (fT f)
  rw [List.map_append,List.flatMap_map,List.map_flatMap]
  congr 1
  ·by_cases h3:e.kind=3
   ·simp only [if_pos h3];rfl
   ·simp only [if_neg h3];rfl
  ·exact sP (fun x hx=>aEL (hs x hx))
theorem aGq{d:Int}{f:Affine→Affine}{t q:List Int}(h: ∀x,bX x=true→cT (f x) t=cT x q)(list:List Arr)(m:List Int): ∀{L:Nat} {e:Expr},dB L e d=true→tM L list m (uN f L e) t=tM L list m e q
 |0,_,_=>rfl
 |L+1,e,he=>by
  obtain⟨hk,ho,hs⟩:=gI he
  have e1:(uN f (L+1) e).kind=e.kind:=rfl
  have e2:(uN f (L+1) e).num=e.num:=rfl
  have e5:(uN f (L+1) e).kids=e.kids.map (uN f L):=rfl
  unfold tM
  rw [e1,e2,e5]
  by_cases h1:e.kind=1
  ·rw [if_pos h1,if_pos h1]
  ·rw [if_neg h1,if_neg h1]
   by_cases h2:e.kind=2
   ·have e3:(uN f (L+1) e).index=f e.index:=by show(if e.kind=2 then f e.index else _)=_;rw [if_pos h2]
    rw [if_pos h2,if_pos h2,e3,h _ (wV ho h2).1]
   ·rw [if_neg h2,if_neg h2]
    by_cases h3:e.kind=3
    ·have e4:(uN f (L+1) e).read=fT f e.read:=by show(if e.kind=3 then fT f e.read else _)=_;rw [if_pos h3]
     rw [if_pos h3,if_pos h3,e4,aD6 (fun x hx=>h x ((tL (wU ho h3).1).2.2 x hx))]
    ·rw [if_neg h3,if_neg h3]
     obtain⟨kind,num,index,read,kids⟩:=e
     dsimp only at hs⊢
     match kids,hs with
     | [],_=>rfl
     | [a],_=>rfl
     | [a,c],hs=>
      simp only [List.map_cons,List.map_nil]
      rw [aGq h list m (hs a (by simp)),aGq h list m (hs c (by simp))]
     |a::c::e::r,_=>rfl
def isP(p:Prog)(a:Int):Bool:=decide (0≤a∧a<(p.parts.length:Int))
theorem aDC{b:Bool}(h:(!b)=true):b=false:=by cases b with
 |false=>rfl
 |true=>cases h
theorem aDD{b:Bool}(h:(!b)=false):b=true:=by cases b with
 |false=>cases h
 |true=>rfl
theorem aH2{p:Prog}(hv:cD p=true){x:Inst}(hx:iE p x): ∀{Y:List Inst} {m:List Int},(∀y∈Y,iE p y)→(∀y∈Y,com p x y)→jK p.arrays m→dW p (pB p m x) Y=pB p (dW p m Y) x
 | [],m,_,_,_=>rfl
 |y::Y,m,h1,h2,hm=>by
  show dW p (pB p (pB p m x) y) Y=pB p (dW p (pB p m y) Y) x
  rw [h2 y List.mem_cons_self m hm]
  exact aH2 hv hx (fun z hz=>h1 z (List.mem_cons_of_mem _ hz)) (fun z hz=>h2 z (List.mem_cons_of_mem _ hz)) (I0 hv hm (h1 y List.mem_cons_self))
theorem block{p:Prog}(hv:cD p=true): ∀{X Y:List Inst} {m:List Int},(∀x∈X,iE p x)→(∀y∈Y,iE p y)→(∀x∈X,∀y∈Y,com p x y)→jK p.arrays m→dW p (dW p m X) Y=dW p (dW p m Y) X
 | [],Y,m,_,_,_,_=>rfl
 |x::X,Y,m,h1,h2,h3,hm=>by
  show dW p (dW p (pB p m x) X) Y=dW p (pB p (dW p m Y) x) X
  rw [block hv (fun z hz=>h1 z (List.mem_cons_of_mem _ hz)) h2 (fun z hz=>h3 z (List.mem_cons_of_mem _ hz)) (I0 hv hm (h1 x List.mem_cons_self)),aH2 hv (h1 x List.mem_cons_self) h2 (h3 x List.mem_cons_self) hm]
theorem aFZ{n:Nat}(hn:7000≤n){p:Prog}(hp:BG 1000 p)(part:Int):nT n p part (-1)=some (if cD p=true∧isP p part=true then(p,true) else noP):=by
 unfold nT
 refine Ev.eq (Ev.jn (fun z=>z= !(cD p&&isP p part)) (fun j hj=> ?_) (fun z hz=> ?_))
 ·refine aB (d9 hn hp.sm) (Ev.cond (fun h=>hj _ (by rw [aDC h];rfl)) (fun h=> ?_))
  have hv:=aDD h
  refine aB (B6 n hp.2.1 part) (Ev.cond (fun h2=>hj _ ?_) (fun h2=>eA (fun h=>(h rfl).elim) (fun _=>hj _ ?_)))
  ·rw [hv,show isP p part=false from aDC h2];rfl
  ·rw [hv,show isP p part=true from aDD h2];rfl
 ·subst hz
  refine Ev.cond (fun h=>Ev.some ?_) (fun h=> ?_)
  ·have:=aDC h
   rw [if_neg (fun hc=>by rw [hc.1,hc.2] at this;cases this)];rfl
  ·have:=aDD h
   simp only [Bool.and_eq_true] at this
   obtain⟨hv,hi⟩:=this
   rw [if_pos ⟨hv,hi⟩]
   have hi':0≤part∧part<(p.parts.length:Int):=of_decide_eq_true hi
   obtain⟨x,hx,_⟩:=iR hi'.1 hi'.2
   exact aB (aDq (by omega) hv) (aB hx (Ev.some rfl))
def kY(k:Nat)(x:Affine):Affine:=⟨(x.coefs.take k++0::x.coefs.drop k).take 4,x.const⟩
def zA(c:Int):Affine:=⟨[0,0,0,0],c⟩
def vA(k:Nat)(s c:Int):Affine:=⟨[0,0,0,0].set k s,c⟩
theorem aE1(k:Nat): ∀x,bX x=true→BA 4 (kY k x):=fun x hx=>by
 unfold BA kY
 rw [List.length_take];omega
theorem aFu{n:Nat}(hn:5000≤n){k:Nat}(hk:k<3): ∀x,bX x=true→fU n x (k:Int)=some (kY k x):=fun x hx=>by
 obtain⟨h1,_,_⟩:=gO hx
 obtain⟨a,b,c,d,e⟩:=aFD h1
 unfold fU
 rw [A5 n x hx]
 obtain⟨cs,k0⟩:=x
 dsimp only at e
 subst e
 rcases(show k=0∨k=1∨k=2 by omega) with rfl|rfl|rfl<;>rfl
theorem aLv(m:Nat)(a b c d k0:Int)(B:Affine){k:Nat}(hk:k<3):gS (m+6) ⟨[a,b,c,d],k0⟩ 2 (k:Int) B=some (kY k ⟨[a,b,c,d],k0⟩):=by
 rcases(show k=0∨k=1∨k=2 by omega) with rfl|rfl|rfl<;>rfl
theorem aGZ{k:Nat}(hk:k<3)(B:Affine): ∀n,5000≤n→ ∀x,bX x=true→gS n x 2 (k:Int) B=some (kY k x):=fun n hn x hx=>by
 obtain⟨m,rfl⟩: ∃m,n=m+6:=⟨n-6,by omega⟩
 obtain⟨h1,_,_⟩:=gO hx
 obtain⟨a,b,c,d,e⟩:=aFD h1
 obtain⟨cs,k0⟩:=x
 dsimp only at e
 subst e
 exact aLv m a b c d k0 B hk
def m9(l:List Affine):Bool:=l.all (fun a=>decide (dD a.coefs=0))
def nU(l:Loop):Bool:=decide (l.lo.length=1)&&(decide (l.hi.length=1)&&(m9 l.lo&&m9 l.hi))
def iJ(l:List Affine):Int:=(l.headD ⟨[],0⟩).const
theorem O8{n:Nat}(hn:5000≤n){l:List Affine}(h1:l.length≤2)(h2: ∀x∈l,bX x=true):oH n l=some (m9 l):=by
 unfold oH
 rw [nI (p:=fun a=>decide (0<(dD a.coefs:Int))) (fun x hx=>by
  unfold m5
  rw [w7 hn (show x.coefs.length≤1000 by have:=(gO (h2 x hx)).1;omega)];rfl) (by omega) (by omega)]
 show some (!l.any _)=_
 congr 1
 unfold m9
 rw [List.not_any_eq_all_not]
 congr 1
 funext a
 by_cases h:dD a.coefs=0
 ·simp [h]
 ·have:0<(dD a.coefs:Int):=by omega
  simp [h];omega
theorem aHk{n:Nat}(hn:5000≤n){l:Loop}(h:w4 l):lP n l=some (if nU l=true then(iJ l.lo,iJ l.hi,true) else(0,0,false)):=by
 obtain⟨⟨h1,h2⟩,h3,h4⟩:=h
 unfold lP
 refine Ev.eq (Ev.jn (fun z=>z= !nU l) (fun j hj=> ?_) (fun z hz=> ?_))
 ·refine eA (fun h=>hj _ ?_) (fun h=>eA (fun h'=>hj _ ?_) (fun h'=>aB (O8 hn h1 h2) (Ev.cond (fun h5=>hj _ ?_) (fun h5=>aB (O8 hn h3 h4) (hj _ ?_)))))
  ·unfold nU;rw [decide_eq_false (show¬l.lo.length=1 by omega)];rfl
  ·unfold nU;rw [decide_eq_false (show¬l.hi.length=1 by omega),Bool.false_and,Bool.and_false];rfl
  ·unfold nU;rw [show m9 l.lo=false by simpa using h5];simp
  ·unfold nU;rw [show m9 l.lo=true by simpa using h5,decide_eq_true (show l.lo.length=1 by omega),decide_eq_true (show l.hi.length=1 by omega)];rfl
 ·subst hz
  cases hf:nU l with
  |false=>exact bU (Ev.some rfl)
  |true=>
   refine bV ?_
   unfold nU at hf
   simp only [Bool.and_eq_true,decide_eq_true_eq] at hf
   obtain⟨e1,e2,_⟩:=hf
   obtain⟨x,hx⟩:=List.length_eq_one_iff.1 e1
   obtain⟨y,hy⟩:=List.length_eq_one_iff.1 e2
   rw [hx,hy]
   exact aB (x:=x) rfl (aB (x:=y) rfl (Ev.some rfl))
theorem aJk{n:Nat}(hn:5000≤n){l:Loop}(h:w4 l):uE n l=some (m9 l.lo&&m9 l.hi):=by
 obtain⟨⟨h1,h2⟩,h3,h4⟩:=h
 have hd: ∀x,bX x=true→hD n x=some (dD x.coefs:Int):=fun x hx=>sA hn (show x.coefs.length≤1000 by have:=(gO hx).1;omega)
 have hall: ∀(l:List Affine) (i:Nat) (x:Affine),l[i]? =some x→dD x.coefs=0→m9 (l.take i)=true→m9 (l.take (i+1))=true:=fun l i x hx h0 hf=>by
  unfold m9 at hf⊢
  rw [List.take_add_one,hx,List.all_append,hf];simp [h0]
 have hno: ∀(l:List Affine) (i:Nat) (x:Affine),l[i]? =some x→ ¬dD x.coefs=0→m9 l=false:=fun l i x hx h0=>by
  unfold m9
  rw [List.all_eq_false]
  exact⟨x,List.mem_of_getElem? hx,by simp [h0]⟩
 unfold uE
 refine Ev.eq (Ev.loop (fun z:Int=> ∃i:Nat,z=i∧i≤l.lo.length∧m9 (l.lo.take i)=true) (fun z=>l.lo.length-z.toNat) ?_ n _ ⟨0,rfl,by omega,rfl⟩ (by omega))
 rintro again z ⟨i,rfl,hi,hf⟩ hr
 refine aH (fun hlt=> ?_) (fun hge=> ?_)
 ·have hlt:i<l.lo.length:=by omega
  have hx:=List.getElem?_eq_getElem hlt
  refine aB (aR hx) (aB (hd _ (h2 _ (List.getElem_mem hlt))) (aH (fun h0=>Ev.some ?_) (fun h0=> ?_)))
  ·rw [hno l.lo i _ hx (by omega)];rfl
  ·rw [aM (by omega)]
   exact hr _ ⟨i+1,by omega,by omega,hall _ _ _ hx (by omega) hf⟩ (by omega)
 ·have e:i=l.lo.length:=by omega
  subst e
  rw [List.take_length] at hf
  rw [hf,Bool.true_and]
  refine Ev.loop (fun z:Int=> ∃i:Nat,z=i∧i≤l.hi.length∧m9 (l.hi.take i)=true) (fun z=>l.hi.length-z.toNat) ?_ n _ ⟨0,rfl,by omega,rfl⟩ (by omega)
  rintro again z ⟨i,rfl,hi,hf⟩ hr
  refine aH (fun hlt=> ?_) (fun hge=>Ev.some ?_)
  ·have hlt:i<l.hi.length:=by omega
   have hx:=List.getElem?_eq_getElem hlt
   refine aB (aR hx) (aB (hd _ (h4 _ (List.getElem_mem hlt))) (aH (fun h0=>Ev.some ?_) (fun h0=> ?_)))
   ·exact(hno l.hi i _ hx (by omega)).symm
   ·rw [aM (by omega)]
    exact hr _ ⟨i+1,by omega,by omega,hall _ _ _ hx (by omega) hf⟩ (by omega)
  ·have e:i=l.hi.length:=by omega
   subst e
   rw [List.take_length] at hf
   exact hf.symm
theorem aFX{n:Nat}(hn:5000≤n){l:Loop}(h:w4 l):qR n l=some (if nU l=true then(iJ l.lo,iJ l.hi,true) else(0,0,false)):=by
 unfold qR
 refine Ev.eq (Ev.jn (fun z=>z= !nU l) (fun j hj=> ?_) (fun z hz=> ?_))
 ·refine eA (fun h5=>hj _ ?_) (fun h5=>eA (fun h6=>hj _ ?_) (fun h6=>aB (aJk hn h) (hj _ ?_)))
  ·unfold nU;rw [decide_eq_false (show¬l.lo.length=1 by omega)];rfl
  ·unfold nU;rw [decide_eq_false (show¬l.hi.length=1 by omega),Bool.false_and,Bool.and_false];rfl
  ·unfold nU;rw [decide_eq_true (show l.lo.length=1 by omega),decide_eq_true (show l.hi.length=1 by omega)];rfl
 ·subst hz
  cases hf:nU l with
  |false=>exact bU (Ev.some rfl)
  |true=>
   refine bV ?_
   unfold nU at hf
   simp only [Bool.and_eq_true,decide_eq_true_eq] at hf
   obtain⟨e1,e2,_⟩:=hf
   obtain⟨x,hx⟩:=List.length_eq_one_iff.1 e1
   obtain⟨y,hy⟩:=List.length_eq_one_iff.1 e2
   rw [hx,hy]
   exact aB (x:=x) rfl (aB (x:=y) rfl (Ev.some rfl))
def uT(lo hi s:Int):Int:=Int.tdiv (max 0 (hi-lo)+s-1) s
def iK(k:Nat)(s:Int)(P:Part)(l:Loop):Part:=
 ⟨P.nest.take k++(⟨[zA 0],[zA (uT (iJ l.lo) (iJ l.hi) s)]⟩:Loop)::(⟨[zA (iJ l.lo),vA k s (iJ l.lo)],[zA (iJ l.hi),vA k s (iJ l.lo+s)]⟩:Loop)::(P.nest.drop (k+1)).map (e9 (kY k)),P.body.map (yK (kY k))⟩
def wO(p:Prog)(part loop s:Int):Prog×Bool:=
 match ix p.parts part with
 |some P=>match ix P.nest loop with
  |some l=>if jY p part loop=true∧P.nest.length<4∧(1≤s∧s≤6)∧nU l=true then C2 ⟨p.arrays,p.parts.set part.toNat (iK loop.toNat s P l)⟩ else noP
  |none=>noP
 |none=>noP
theorem qM{p:Prog}{part loop s:Int}(h:jY p part loop≠true):wO p part loop s=noP:=by
 unfold wO
 split
 ·split
  ·rw [if_neg (fun hc=>h hc.1)]
  ·rfl
 ·rfl
theorem vE{p:Prog}{i k:Nat}{P:Part}{l:Loop}(hP:p.parts[i]? =some P)(hl:P.nest[k]? =some l)(s:Int):
  wO p (i:Int) (k:Int) s=if jY p (i:Int) (k:Int)=true∧P.nest.length<4∧(1≤s∧s≤6)∧nU l=true then C2 ⟨p.arrays,p.parts.set i (iK k s P l)⟩ else noP:=by
 unfold wO
 rw [aR hP]
 dsimp only
 rw [aR hl]
 rfl
theorem Q3{l:Loop}(h:w4 l)(hf:nU l=true): ∃a b,l=⟨[a],[b]⟩∧a=zA (iJ l.lo)∧b=zA (iJ l.hi)∧pR 99 (iJ l.lo)∧pR 99 (iJ l.hi):=by
 obtain⟨⟨h1,h2⟩,h3,h4⟩:=h
 unfold nU at hf
 simp only [Bool.and_eq_true,decide_eq_true_eq] at hf
 obtain⟨e1,e2,f1,f2⟩:=hf
 obtain⟨lo,hi⟩:=l
 dsimp only at*
 obtain⟨x,hx⟩:=List.length_eq_one_iff.1 e1
 obtain⟨y,hy⟩:=List.length_eq_one_iff.1 e2
 subst hx;subst hy
 have key: ∀z:Affine,bX z=true→m9 [z]=true→z=zA z.const:=fun z hz hf=>by
  obtain⟨g1,_,_⟩:=gO hz
  obtain⟨a,b,c,d,e⟩:=aFD g1
  obtain⟨cs,k0⟩:=z
  dsimp only at e
  subst e
  unfold m9 at hf
  simp only [List.all_cons,List.all_nil,Bool.and_true,decide_eq_true_eq] at hf
  have h0:=nA (l:=[a,b,c,d]) (i:=0) rfl (by omega)
  have h1:=nA (l:=[a,b,c,d]) (i:=1) rfl (by omega)
  have h2:=nA (l:=[a,b,c,d]) (i:=2) rfl (by omega)
  have h3:=nA (l:=[a,b,c,d]) (i:=3) rfl (by omega)
  rw [h0,h1,h2,h3];rfl
 exact⟨x,y,rfl,key x (h2 x (by simp)) f1,key y (h4 y (by simp)) f2,(gO (h2 x (by simp))).2.1,(gO (h4 y (by simp))).2.1⟩
theorem aJS{lo hi s:Int}(h1:pR 99 lo)(h2:pR 99 hi)(hs:1≤s∧s≤6):0≤uT lo hi s∧uT lo hi s≤198:=by
 unfold pR at h1 h2
 unfold uT
 rw [Int.tdiv_eq_ediv_of_nonneg (by omega)]
 refine⟨Int.ediv_nonneg (by omega) (by omega),?_⟩
 refine Int.le_trans (Int.ediv_le_ediv (a:=max 0 (hi-lo)+s-1) (b:=198*s) (by omega) ?_) (by rw [Int.mul_ediv_cancel _ (by omega)];omega)
 have:0≤(198-max 0 (hi-lo))*(s-1):=Int.mul_nonneg (by omega) (by omega)
 have e:(198-max 0 (hi-lo))*(s-1)=198*s-198-max 0 (hi-lo)*(s-1):=by
  rw [Int.sub_mul,Int.mul_sub];omega
 have e2:max 0 (hi-lo)*(s-1)≥0:=Int.mul_nonneg (by omega) (by omega)
 rcases(show s=1∨s=2∨s=3∨s=4∨s=5∨s=6 by omega) with rfl|rfl|rfl|rfl|rfl|rfl<;>omega
theorem L1{list:List Arr}{P:Part}(hP:cI list P=true){k:Nat}{l:Loop}(h4:P.nest.length<4)(hk:k<P.nest.length)(s:Int):BPt 4 (iK k s P l):=by
 obtain⟨h1,h2⟩:=sH hP
 obtain⟨_,h5,h6,_⟩:=iP hP
 refine⟨⟨by simp only [iK,List.length_append,List.length_cons,List.length_map,List.length_take,List.length_drop];omega,fun y hy=> ?_⟩,by simp only [iK,List.length_map];exact h5.2,fun s hs=> ?_⟩
 ·have hz: ∀c,BA 4 (zA c):=fun c=>by unfold BA zA;simp
  have hv: ∀s c,BA 4 (vA k s c):=fun s c=>by unfold BA vA;simp
  rcases List.mem_append.1 hy with hy|hy
  ·exact((aKS hP).1.2 y (List.mem_of_mem_take hy))
  ·rcases List.mem_cons.1 hy with rfl|hy
   ·exact⟨⟨by simp,fun a ha=>by simp at ha;subst ha;exact hz _⟩,by simp,fun a ha=>by simp at ha;subst ha;exact hz _⟩
   ·rcases List.mem_cons.1 hy with rfl|hy
    ·exact⟨⟨by simp,fun a ha=>by simp at ha;rcases ha with rfl|rfl;exact hz _;exact hv _ _⟩,by simp,fun a ha=>by simp at ha;rcases ha with rfl|rfl;exact hz _;exact hv _ _⟩
    ·obtain⟨z,hz,rfl⟩:=List.mem_map.1 hy
     exact aJz (aE1 k) (h2 z (List.mem_of_mem_drop hz))
 ·obtain⟨z,hz,rfl⟩:=List.mem_map.1 hs
  exact aKR (aE1 k) (h6 z hz)
theorem aFt{p:Prog}(hp:BG 1000 p)(part loop s:Int):BG 1000 (wO p part loop s).1:=by
 by_cases hc:jY p part loop=true
 ·obtain⟨hv,i,k,P,l,rfl,rfl,hP,hl,hi,hkl,hok,hk⟩:=P8 hc
  rw [vE hP hl]
  split
  ·rename_i h
   exact aJm (aH4 hp i (L1 hok h.2.1 hkl s))
  ·exact aGU
 ·rw [qM hc];exact aGU
theorem aAf(n:Nat){k:Nat}(hk:k<4)(s:Int):pE n (k:Int) s=some (vA k s 0):=by
 rcases(show k=0∨k=1∨k=2∨k=3 by omega) with rfl|rfl|rfl|rfl<;>rfl
theorem vX(n:Nat)(c:Int):iU n c=some (zA c):=rfl
theorem aHY{lo hi s:Int}(h1:pR 99 lo)(h2:pR 99 hi)(hs:1≤s∧s≤6):wr (Int.tdiv (wr ((wr ((max 0 (wr (hi-lo)))+s))-1)) s)=uT lo hi s:=by
 obtain⟨c1,c2⟩:=aJS h1 h2 hs
 unfold pR at h1 h2
 rw [aM (n:=hi-lo) (by omega),aM (n:=max 0 (hi-lo)+s) (by omega),aM (n:=max 0 (hi-lo)+s-1) (by omega)]
 exact aM (by unfold uT at c1 c2;omega)
theorem aKD{n:Nat}{l:List Loop}{k:Nat}(hk:k≤l.length)(hl:l.length≤1000)(v:Loop):iA n l (k:Int) [v]=some (l.take k++[v]++l.drop k):=by
 unfold iA
 rw [decide_eq_true (show(0:Int)≤(k:Int) by omega),decide_eq_true (show(k:Int)≤(l.length:Int) by omega)]
 rw [Int.toNat_natCast]
 exact cA (by simp;omega)
theorem aDM{n:Nat}(hn:7000≤n){p:Prog}(hp:BG 1000 p)(part loop s:Int):m7 n p part loop s=some (wO p part loop s):=by
 unfold m7
 by_cases hneg:loop= -1
 ·subst hneg
  rw [qM (by rw [aHe (by omega)];simp)]
  refine Ev.eq (aB (aFZ hn hp part) ?_)
  by_cases hc:cD p=true∧isP p part=true
  ·rw [if_pos hc]
   have hi:=hc.2
   unfold isP at hi
   simp only [decide_eq_true_eq] at hi
   obtain⟨x,hx,_⟩:=iR hi.1 hi.2
   exact bU (aB hx (Ev.jn (fun z=>z=true) (fun j hj=>aH (fun _=>hj _ rfl) (fun h=>absurd (show(-1:Int)<0 by omega) h)) (fun z hz=>by rw [hz];exact bU (Ev.some rfl))))
  ·rw [if_neg hc]
   exact bV (Ev.some rfl)
 refine Ev.eq (aB (aH5 hn hp part loop hneg) ?_)
 by_cases hb:jY p part loop=true
 ·rw [if_pos hb]
  obtain⟨hv,i,k,P,l,rfl,rfl,hP,hl,hi,hkl,hok,hk⟩:=P8 hb
  obtain⟨h1,h2⟩:=sH hok
  obtain⟨_,h4,h5,_⟩:=iP hok
  have hlp:=h2 l (List.mem_of_getElem? hl)
  rw [vE hP hl]
  refine bU (aB (aR hP) (Ev.jn (fun z=>z= !(decide (P.nest.length<4)&&decide (1≤s∧s≤6))) (fun j hj=> ?_) (fun z hz=> ?_)))
  ·refine aH (fun h=>absurd h (by omega)) (fun _=>aH (fun h=>hj _ ?_) (fun h=>aB (dE n s 1 6) (hj _ ?_)))
   ·rw [decide_eq_false (show¬P.nest.length<4 by omega)];rfl
   ·rw [decide_eq_true (show P.nest.length<4 by omega)];rfl
  ·subst hz
   by_cases h4n:P.nest.length<4
   ·by_cases hs:1≤s∧s≤6
    ·rw [decide_eq_true h4n,decide_eq_true hs]
     refine bV (aB (aR hl) (aB (aHk (by omega) hlp) ?_))
     by_cases hf:nU l=true
     ·rw [if_pos hf,if_pos ⟨hb,h4n,hs,hf⟩]
      obtain⟨a,b,_,_,_,b1,b2⟩:=Q3 hlp hf
      have hch:=V7 (n:=n) (by omega) (nest:=P.nest) (body:=P.body) (s:=k) (by omega) h1 (fun y hy=>h2 y (List.mem_of_mem_drop hy)) h4.2 h5 (F:=fun q0=>fU n q0 (k:Int)) (aFu (by omega) (by omega))
      have hx8:(P.nest.take k++(P.nest.drop k).map (e9 (kY k)))[k]? =some (e9 (kY k) l):=by
       rw [gF hl,List.getElem?_append_right (by rw [List.length_take];omega),List.length_take,Nat.min_eq_left (by omega),Nat.sub_self];rfl
      refine bU (aB hch (aB (iF (by dsimp only;omega) _) (aB (x:=()) (by unfold nzc;rw [if_neg (by omega)]) (aB (aAf n hk s) (aB (aAf n hk s) (aB (vX n _) (aB (vX n _) (aB (aR hx8) (aB (iF (by simp;omega) _) (aB (vX n 0) (aB (vX n _) (aB (aKD (by simp;omega) (by simp;omega) _) (aB (iF (by simp;omega) _) ?_)))))))))))))
      dsimp only
      unfold pR at b1 b2
      rw [Int.toNat_natCast,Int.toNat_natCast,List.set_set,aM (n:=iJ l.lo+s) (by omega),aHY ⟨by omega,by omega⟩ ⟨by omega,by omega⟩ hs]
      have hd:P.nest.drop k=l::P.nest.drop (k+1):=gF hl
      have hlen:(P.nest.take k).length=k:=by rw [List.length_take];omega
      have hm: ∀R S:Loop,(((P.nest.take k++(P.nest.drop k).map (e9 (kY k))).set k R).take k++[S]++((P.nest.take k++(P.nest.drop k).map (e9 (kY k))).set k R).drop k)=P.nest.take k++S::R::(P.nest.drop (k+1)).map (e9 (kY k)):=fun R S=>by
       rw [hd,List.map_cons,List.set_append_right _ _ (by omega),hlen,Nat.sub_self,List.set_cons_zero,List.take_append_of_le_length (by omega),List.take_of_length_le (by omega),List.drop_append_of_le_length (by omega),List.drop_of_length_le (by omega)]
       simp
      rw [hm]
      exact aB (aCm hn (aH4 hp i (L1 hok h4n hkl s))) (Ev.some rfl)
     ·rw [if_neg hf,if_neg (fun h=>hf h.2.2.2)]
      exact bV (Ev.some rfl)
    ·rw [if_neg (fun h=>hs h.2.2.1),decide_eq_false hs,Bool.and_false]
     exact bU (Ev.some rfl)
   ·rw [if_neg (fun h=>h4n h.2.1),decide_eq_false h4n]
    exact bU (Ev.some rfl)
 ·rw [if_neg hb,qM hb]
  exact bV (Ev.some rfl)
theorem aL9{k:Nat}(hk:k<4)(s c:Int):aHX (aBQ k) s (zA c) 1=vA k s c:=by
 rcases(show k=0∨k=1∨k=2∨k=3 by omega) with rfl|rfl|rfl|rfl<;>simp [aHX,aBQ,zA,vA]
theorem aLJ{k:Nat}(hk:k<4)(s c e:Int):aHX (vA k s c) 1 (zA e) 1=vA k s (c+e):=by
 rcases(show k=0∨k=1∨k=2∨k=3 by omega) with rfl|rfl|rfl|rfl<;>simp [aHX,zA,vA]
theorem aK2{c:Int}(h:pR 1000 c):bB 1000 (zA c):=⟨rfl,h,fun x hx=>by simp [zA] at hx;subst hx;exact⟨by omega,by omega⟩⟩
theorem aLZ{k:Nat}{s c:Int}(hs:pR 1000 s)(h:pR 1000 c):bB 1000 (vA k s c):=by
 refine⟨by simp [vA],h,rW (fun c hc=> ?_) hs⟩
 simp at hc
 subst hc
 exact⟨by omega,by omega⟩
theorem aDj{n:Nat}(hn:7000≤n){p:Prog}(hp:BG 1000 p)(part loop s:Int):mW n p part loop s=some (wO p part loop s):=by
 unfold mW
 refine Ev.eq (aB (aDz (by omega) hp) ?_)
 by_cases hb:jY p part loop=true
 ·obtain⟨hv,i,k,P,l,rfl,rfl,hP,hl,hi,hkl,hok,hk⟩:=P8 hb
  obtain⟨h1,h2⟩:=sH hok
  obtain⟨_,h4,h5,_⟩:=iP hok
  have hlp:=h2 l (List.mem_of_getElem? hl)
  rw [vE hP hl]
  refine Ev.jn (fun z=>z= !(decide (P.nest.length<4)&&decide (1≤s∧s≤6))) (fun j hj=> ?_) (fun z hz=> ?_)
  ·refine aB (x:=true) (by rw [aHd hn hp _ _,hb]) ?_
   refine bV (aB (aR hP) (aH (fun h=>hj _ ?_) (fun h=>aH (fun h'=>hj _ ?_) (fun h'=>hj _ ?_))))
   ·rw [decide_eq_false (show¬P.nest.length<4 by omega)];rfl
   ·rw [decide_eq_false (show¬(1≤s∧s≤6) by omega),Bool.and_false];rfl
   ·rw [decide_eq_true (show P.nest.length<4 by omega),Bool.true_and]
    by_cases h6:(6:Int)<s
    ·rw [decide_eq_true h6,decide_eq_false (show¬(1≤s∧s≤6) by omega)];rfl
    ·rw [decide_eq_false h6,decide_eq_true (show(1≤s∧s≤6) by omega)];rfl
  ·subst hz
   by_cases h4n:P.nest.length<4
   ·by_cases hs:1≤s∧s≤6
    ·rw [decide_eq_true h4n,decide_eq_true hs]
     refine bV (aB (aR hP) (aB (aR hl) (aB (aFX (by omega) hlp) ?_)))
     by_cases hf:nU l=true
     ·rw [if_pos hf,if_pos ⟨hb,h4n,hs,hf⟩]
      obtain⟨a,b,_,_,_,b1,b2⟩:=Q3 hlp hf
      obtain⟨c1,c2⟩:=aJS b1 b2 hs
      unfold pR at b1 b2
      refine bV (Ev.jn (fun z=>z=uT (iJ l.lo) (iJ l.hi) s) (fun j hj=>aH (fun h=>aB (x:=()) (by unfold nzc;rw [if_neg (by omega)]) (hj _ ?_)) (fun h=>hj _ ?_)) (fun z hz=> ?_))
      ·dsimp only at h⊢
       rw [←aHY ⟨by omega,by omega⟩ ⟨by omega,by omega⟩ hs,aM (n:=iJ l.hi-iJ l.lo) (by omega),show max 0 (iJ l.hi-iJ l.lo)=iJ l.hi-iJ l.lo by omega]
      ·dsimp only at h⊢
       unfold uT
       rw [show max 0 (iJ l.hi-iJ l.lo)=0 by omega,Int.tdiv_eq_ediv_of_nonneg (by omega)]
       exact(Int.ediv_eq_zero_of_lt (by omega) (by omega)).symm
      ·subst hz
       have hlen:(P.nest.take k).length=k:=by rw [List.length_take];omega
       refine aB (aDH (by omega) (by omega) h1 h2 h4.2 h5 (aGZ (by omega) _)) (aB (aGE n hk) (aB (eI n _) (aB (aBZ (by omega) ((aIx hk).mono (by omega)) (aK2 ⟨by dsimp only;omega,by dsimp only;omega⟩) ⟨by omega,by omega⟩ ⟨by omega,by omega⟩) ?_)))
       dsimp only
       rw [aL9 hk]
       refine aB (eI n _) (aB (eI n _) (aB (eI n _) (aB (aBZ (by omega) (aLZ ⟨by omega,by omega⟩ ⟨by omega,by omega⟩) (aK2 ⟨by omega,by omega⟩) ⟨by omega,by omega⟩ ⟨by omega,by omega⟩) ?_)))
       rw [aLJ hk]
       refine aB (tR (by omega) (by omega) (by simp;omega)) (aB (cA (by simp;omega)) (aB (show jR n=some (zA 0) from rfl) (aB (eI n _) (aB (cA (by simp;omega)) ?_))))
       rw [aM (by omega)]
       refine aB (tR (by omega) (by simp;omega) (by simp)) (aB (cA (by simp;omega)) ?_)
       have hm: ∀R S:Loop,([]++((P.nest.take (k+1)++(P.nest.drop (k+1)).map (e9 (kY k))).take (k:Int).toNat).drop (0:Int).toNat++[S,R]++((P.nest.take (k+1)++(P.nest.drop (k+1)).map (e9 (kY k))).take ((P.nest.take (k+1)++(P.nest.drop (k+1)).map (e9 (kY k))).length:Int).toNat).drop ((k:Int)+1).toNat)=P.nest.take k++S::R::(P.nest.drop (k+1)).map (e9 (kY k)):=fun R S=>by
        have e1:(P.nest.take (k+1)).length=k+1:=by rw [List.length_take];omega
        rw [Int.toNat_natCast,Int.toNat_natCast,show((k:Int)+1).toNat=k+1 by omega,show(0:Int).toNat=0 from rfl,List.drop_zero,List.take_length,List.take_append_of_le_length (by omega),List.take_take,Nat.min_eq_left (by omega),List.drop_append_of_le_length (by omega),List.drop_of_length_le (by omega)]
        simp
       rw [hm]
       exact aB (aIt hn hp hi ((L1 hok h4n hkl s).mono (by omega))) (Ev.some rfl)
     ·rw [if_neg hf,if_neg (fun h=>hf h.2.2.2)]
      exact bU (Ev.some rfl)
    ·rw [if_neg (fun h=>hs h.2.2.1),decide_eq_false hs,Bool.and_false]
     exact bU (Ev.some rfl)
   ·rw [if_neg (fun h=>h4n h.2.1),decide_eq_false h4n]
    exact bU (Ev.some rfl)
 ·rw [qM hb]
  refine Ev.jn (fun z=>z=true) (fun j hj=>aB (aHd hn hp _ _) ?_) (fun z hz=>by rw [hz];exact bU (Ev.some rfl))
  rw [show jY p part loop=false by simpa using hb]
  exact bU (hj _ rfl)
end Go.Lift
