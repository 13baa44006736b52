/- Two programs that do the same. -/
import Derived.Test.YtcnponfkbblhpaaGreatBRun1
import Derived.Test.YtcnponfkbblhpaaGreatBDraw1
import Derived.Test.YtcnponfkbblhpaaGreatBDrawD
set_option maxRecDepth 100000
set_option linter.unusedVariables false
namespace Go.Lift
open Go
theorem aIy{n:Nat}(hn:7100≤n){p:Prog}(hp:SmP p)(hv:cF p=true):kX n p=some (gM p.arrays):=by
 refine Ev.eq ?_
 obtain⟨hl,hd,_⟩:=jV hv
 unfold kX
 refine aB (dZ (by omega) hp) ?_
 rw [hv]
 exact bV (aB (L5 (by omega) hl hd) (Ev.some rfl))
theorem aJG{α:Type}{n:Int}(h:0≤n∧n≤1000000000)(x:α):mk n x=some (List.replicate n.toNat x):=by unfold mk;rw [if_pos h]
theorem aGz{R:Type}{Q:R→Prop}{n:Nat}(hn:5000≤n){T:Nat}(hT:T≤1000){e:Int→Int}(he: ∀i,0≤i→i<(T:Int)→0≤e i∧e i≤999){K:List Int→Option R}(hK: ∀m,m.length=T→(∀x∈m,0≤x∧x≤999)→Ev (K m) Q):
  Ev (aM (fun again (z:(List Int)×Int)=>bif decide (z.2<(z.1.length:Int)) then(Option.bind (ix z.1 z.2) fun _=>Option.bind (dC z.1 z.2 (e z.2)) fun y=>again (y,wr (z.2+1))) else(K z.1)) n (List.replicate T 0,0)) Q:=by
 refine Ev.loop (fun z:List Int×Int=>0≤z.2∧z.2≤T∧z.1.length=T∧ ∀x∈z.1,0≤x∧x≤999) (fun z=>T-z.2.toNat) ?_ n _ ⟨Int.le_refl _,by dsimp only;omega,List.length_replicate,fun x hx=>by rw [(List.mem_replicate.1 hx).2];omega⟩ (by dsimp only;omega)
 rintro again ⟨x,i⟩ ⟨h0,h1,h2,h3⟩ hr
 dsimp only at h0 h1 h2 h3⊢
 refine aH (fun hlt=> ?_) (fun hge=>hK _ h2 h3)
 refine aB (aIS h0 (by omega)) (aB (aBb h0 (by omega) _) ?_)
 rw [aO (by omega)]
 exact hr _ ⟨by dsimp only;omega,by dsimp only;omega,by dsimp only;rw [List.length_set,h2],fun y hy=>by
  rcases List.mem_or_eq_of_mem_set hy with hy|rfl
  ·exact h3 y hy
  ·exact he i h0 (by omega)⟩ (by dsimp only;omega)
theorem aKB{x:Int}(h:0≤x):0≤Int.tmod x 1000∧Int.tmod x 1000≤999:=by
 have h1:=Int.tmod_nonneg 1000 h
 have h2:=Int.tmod_lt_of_pos x (show(0:Int)<1000 by omega)
 omega
theorem aFN{p:Prog}(hv:cF p=true):0≤gM p.arrays∧gM p.arrays≤144:=by
 obtain⟨hl,hd,_⟩:=jV hv
 have:=aDR hd
 omega
theorem aIM{p:Prog}{m:List Int}(hv:cF p=true)(hm:lG p.arrays m):aH3 p m=(kP p m (insts p.parts),true):=by
 unfold aH3;rw [aIg hv hm];rfl
theorem aHf{p q:Prog}(hp:SmP p)(hq:SmP q)(hv:cF p=true)(hw:cF q=true)(ha:q.arrays=p.arrays)(h: ∀m,lG p.arrays m→kP q m (insts q.parts)=kP p m (insts p.parts)){s:Int}(hs:0≤s∧s≤1048576):nN N p q s=some true:=by
 have hN:N=100000:=rfl
 have ht:=aFN hv
 refine Ev.eq ?_
 unfold nN
 refine aB (aIy (by omega) hp hv) (aB (aJG ⟨by omega,by omega⟩ 0) (aGz (n:=N) (T:=(gM p.arrays).toNat) (e:=fun i=>Int.tmod (wr ((wr ((wr (i*41))+(wr (s*17))))+3)) 1000) (K:=fun x3=>Option.bind (fK N p x3) fun x9=>Option.bind (fK N q x3) fun x10=>jn (fun(x13:Bool)=>some x13) (fun j11=>bif x9.2 then(bif x10.2 then(Option.bind (nZ N x9.1 x10.1) fun x12=>j11 x12) else(j11 false)) else(j11 false))) (by omega) (by omega) (fun i h0 h1=> ?_) (fun m h1 h2=> ?_)))
 ·rw [aO (n:=i*41) (by omega),aO (n:=s*17) (by omega),aO (n:=i*41+s*17) (by omega),aO (by omega)]
  exact aKB (by omega)
 ·have hmo:lG p.arrays m:=⟨by omega,h2⟩
  have hmq:lG q.arrays m:=by rw [ha];exact hmo
  have hml:=aD9 hv hmo
  refine aB (sJ (by omega) hp hml) (aB (sJ (by omega) hq hml) ?_)
  rw [aIM hv hmo,aIM hw hmq,h m hmo]
  have hok: ∀x∈insts p.parts,lH p x:=fun x hx=>insts_mem hx
  refine Ev.jn (fun z=>z=true) (fun j hj=>b6 (b6 (aB (A3 (by omega) (aD9 hv (y5 hv hok hmo))) (hj _ rfl)))) (fun z hz=>Ev.some hz)
theorem oZ{n:Nat}(hn:7100≤n){p:Prog}(hp:SmP p)(hv:cF p=true){x:Inst}(hx:lH p x)(hl:x.point.length≤1000):e9 n p x=some (rc p x,(wc p x:Int),true):=by
 refine Ev.eq ?_
 unfold e9
 refine Ev.jn (fun z=>z=false) (fun j hj=> ?_) (fun z hz=> ?_)
 ·refine aB (dZ (by omega) hp) ?_
  rw [hv]
  refine bV (aB (C7 (by omega) hp hl) (hj _ ?_))
  rw [(instB_iff hv).2 hx];rfl
 ·rw [hz]
  exact bV (aB (aAj hn hv hx) (Ev.some rfl))
theorem inst_pl{p:Prog}(hv:cF p=true){x:Inst}(hx:lH p x):x.point.length≤4:=by
 obtain⟨i,k,P,s,d,e1,e2,e3,e4,e5,e6,e7,e8⟩:=inst_d hv hx
 have:=e7.1;have:=e7.2.1;omega
theorem aEG{p q:Prog}(hp:SmP p)(hq:SmP q)(hv:cF p=true)(hw:cF q=true){σ:Inst→Inst}(hi:insts q.parts=(insts p.parts).map σ)(hc: ∀x∈insts p.parts,rc q (σ x)=rc p x∧wc q (σ x)=wc p x):lM N p q=some true:=by
 have hN:N=100000:=rfl
 have hil:=(jV hv).2.2.2.2
 refine Ev.eq ?_
 unfold lM
 refine aB (hA (by omega) hp) (aB (hA (by omega) hq) ?_)
 rw [if_pos hv,if_pos hw,hi]
 refine fU (fun h=>absurd (by rw [List.length_map]) h) (fun _=> ?_)
 refine Ev.loop (fun z:Int=> ∃i:Nat,z=i∧i≤(insts p.parts).length) (fun z=>(insts p.parts).length-z.toNat) ?_ N _ ⟨0,rfl,by omega⟩ (by omega)
 rintro again z ⟨i,rfl,hle⟩ hr
 refine aH (fun hlt=> ?_) (fun _=>Ev.some rfl)
 obtain⟨x,hg⟩: ∃x,(insts p.parts)[i]? =some x:=⟨_,List.getElem?_eq_getElem (show i<(insts p.parts).length by omega)⟩
 have hg2:((insts p.parts).map σ)[i]? =some (σ x):=by rw [List.getElem?_map,hg];rfl
 have hx:=List.mem_of_getElem? hg
 have hxp:=insts_mem hx
 have hxq:lH q (σ x):=insts_mem (by rw [hi];exact List.mem_of_getElem? hg2)
 have l1:=inst_pl hv hxp
 have l2:=inst_pl hw hxq
 refine aB (aT hg) (aB (oZ (by omega) hp hv hxp (by omega)) (aB (aT hg2) (aB (oZ (by omega) hq hw hxq (by omega)) ?_)))
 rw [(hc x hx).1,(hc x hx).2]
 have h12:=(inst_c hv hxp).2.2.1
 refine Ev.jn (fun z=>z=false) (fun j hj=>fU (fun h=>(h rfl).elim) (fun _=>aB (A3 (by omega) (by dsimp only;omega)) (hj _ rfl))) (fun z hz=> ?_)
 rw [hz,aO (by omega)]
 exact bV (hr _ ⟨i+1,by omega,by omega⟩ (by omega))
theorem tS{α β R:Type}{l:List α}{F:α→(β→Option R)→Option R}{g:α→β}{K:List β→Option R}{Q:R→Prop}{n:Nat}(hF: ∀x∈l,∀k:β→Option R,Ev (k (g x)) Q→Ev (F x k) Q)
  {s:Nat} (hs:s≤l.length) {pre:List β} (hp:pre.length≤1000) (hl:l.length≤1000) (hn:5000≤n) (hK:Ev (K (pre++(l.drop s).map g)) Q):
  Ev (aM (fun again ((x,i):List β×Int)=>bif decide (i<(l.length:Int)) then(Option.bind (ix l i) fun y=>F y (fun z=>Option.bind (app x [z]) fun w=>again (w,wr (i+1)))) else K x) n (pre,(s:Int))) Q:=by
 refine Ev.loop (fun z:List β×Int=> ∃i:Nat,z.2=i∧s≤i∧i≤l.length∧z.1=pre++((l.drop s).take (i-s)).map g) (fun z=>l.length-z.2.toNat) ?_ n _ ⟨s,rfl,by omega,by omega,by simp⟩ (by dsimp only;omega)
 rintro again ⟨x,z⟩ ⟨i,hz,hsi,hi,hx⟩ hr
 dsimp only at hz hx⊢
 subst hz
 refine aH (fun hlt=> ?_) (fun hge=> ?_)
 ·have hg:=List.getElem?_eq_getElem (show i<l.length by omega)
  have hxl:x.length≤2000:=by rw [hx,List.length_append,List.length_map,List.length_take,List.length_drop];omega
  refine aB (aT hg) (hF _ (List.mem_of_getElem? hg) _ (aB (cD (by simp;omega)) ?_))
  rw [aO (by omega)]
  refine hr _ ⟨i+1,by dsimp only;omega,by omega,by omega,?_⟩ (by dsimp only;omega)
  dsimp only
  rw [show i+1-s=(i-s)+1 by omega,List.take_add_one,List.getElem?_drop,show s+(i-s)=i by omega,hg,hx,List.map_append,List.append_assoc];rfl
 ·have:i=l.length:=by omega
  subst this
  rw [hx,List.take_of_length_le (by rw [List.length_drop];omega)];exact hK
theorem m9{α β R:Type}{l:List α}{f:α→Option β}{g:α→β}{K:List β→Option R}{Q:R→Prop}{n:Nat}(hf: ∀x∈l,f x=some (g x))(hl:l.length≤1000)(hn:5000≤n)(hK:Ev (K (l.map g)) Q):
  Ev (aM (fun again ((x,i):List β×Int)=>bif decide (i<(l.length:Int)) then(Option.bind (ix l i) fun y=>Option.bind (f y) fun z=>Option.bind (app x [z]) fun w=>again (w,wr (i+1))) else K x) n ([],0)) Q:=
 tS (F:=fun y k=>Option.bind (f y) k) (g:=g) (s:=0) (pre:=[]) (fun x hx k hk=>aB (hf x hx) hk) (by omega) (by simp) hl hn (by simpa using hK)
theorem Y8{α R:Type}{l:List α}{F:α→(α→Option R)→Option R}{W:List α→Option R→Option R}{m:List α→Int}{g:α→α}{K:List α→Option R}{Q:R→Prop}{n:Nat}
  (hW: ∀y o,y.length=l.length→Ev o Q→Ev (W y o) Q) (hm: ∀y:List α,y.length=l.length→m y=(l.length:Int))
  {s:Nat} (hs:s≤l.length) (hF: ∀x∈l,∀k:α→Option R,Ev (k (g x)) Q→Ev (F x k) Q) (hl:l.length≤1000) (hn:5000≤n) (hK:Ev (K (l.take s++(l.drop s).map g)) Q):
  Ev (aM (fun again ((y,i):List α×Int)=>W y (bif decide (i<m y) then(Option.bind (ix y i) fun x=>F x (fun z=>Option.bind (dC y i z) fun w=>again (w,wr (i+1)))) else K y)) n (l,(s:Int))) Q:=by
 refine Ev.loop (fun z:List α×Int=> ∃i:Nat,z.2=i∧s≤i∧i≤l.length∧z.1=l.take s++((l.drop s).take (i-s)).map g++l.drop i) (fun z=>l.length-z.2.toNat) ?_ n _ ⟨s,rfl,by omega,by omega,by simp⟩ (by dsimp only;omega)
 rintro again ⟨x,z⟩ ⟨i,hz,hsi,hi,hx⟩ hr
 dsimp only at hz hx⊢
 subst hz
 have hpl:(l.take s++((l.drop s).take (i-s)).map g).length=i:=by rw [List.length_append,List.length_map,List.length_take,List.length_take,List.length_drop];omega
 have hxl:x.length=l.length:=by rw [hx,List.length_append,hpl,List.length_drop];omega
 refine hW _ _ hxl ?_
 rw [hm _ hxl]
 refine aH (fun hlt=> ?_) (fun hge=> ?_)
 ·obtain⟨e,hg⟩: ∃e,l[i]? =some e:=⟨_,List.getElem?_eq_getElem (show i<l.length by omega)⟩
  have hgx:x[i]? =some e:=by
   rw [hx,List.getElem?_append_right (by omega),hpl,Nat.sub_self,List.getElem?_drop];exact hg
  refine aB (aT hgx) (hF _ (List.mem_of_getElem? hg) _ (aB (fE (by omega) _) ?_))
  rw [aO (by omega)]
  refine hr _ ⟨i+1,by dsimp only;omega,by omega,by omega,?_⟩ (by dsimp only;omega)
  dsimp only
  rw [hx,Int.toNat_natCast,List.set_append_right _ _ (by omega),hpl,Nat.sub_self,iI hg,List.set_cons_zero,show i+1-s=(i-s)+1 by omega,List.take_add_one,List.getElem?_drop,show s+(i-s)=i by omega,hg]
  simp
 ·have:i=l.length:=by omega
  subst this
  rw [hx,List.take_of_length_le (l:=l.drop s) (by rw [List.length_drop];omega),List.drop_length,List.append_nil];exact hK
def fP(f:Affine→Affine)(a:Access):Access:=⟨a.array,a.subs.map f⟩
def tT(f:Affine→Affine):Nat→Expr→Expr
 |0,e=>e
 |L+1,e=>⟨e.kind,e.num,if e.kind=2 then f e.index else⟨[],0⟩,if e.kind=3 then fP f e.read else⟨[],[]⟩,e.kids.map (tT f L)⟩
def tR(f:Affine→Affine)(s:Stmt):Stmt:=⟨fP f s.write,tT f 5 s.value⟩
def dJ(f:Affine→Affine)(l:Loop):Loop:=⟨l.lo.map f,l.hi.map f⟩
theorem vZ{e:Expr}{d:Int}(h:f0 e d=true)(hk:e.kind=2):bM e.index=true∧mZ e.read=true:=by
 unfold f0 bU at h
 rw [if_pos hk] at h
 simp only [Bool.and_eq_true] at h
 exact⟨h.2.2.1,h.2.1⟩
theorem vX{e:Expr}{d:Int}(h:f0 e d=true)(hk:e.kind=3):gT e.read d=true∧jI e.index=true:=by
 unfold f0 at h
 rw [if_neg (by omega),if_pos hk] at h
 simp only [Bool.and_eq_true] at h
 exact⟨h.2.2,h.2.1⟩
theorem aCF{e:Expr}{d:Int}(h:f0 e d=true)(h2: ¬e.kind=2)(h3: ¬e.kind=3):jI e.index=true∧mZ e.read=true:=by
 unfold f0 at h
 rw [if_neg h2,if_neg h3] at h
 split at h<;>simp only [Bool.and_eq_true] at h<;>exact⟨h.2.1,h.2.2⟩
theorem xE{a:Affine}(h:jI a=true):a=⟨[],0⟩:=by
 obtain⟨c,k⟩:=a
 simp only [jI,Bool.and_eq_true,decide_eq_true_eq] at h
 obtain⟨h1,rfl⟩:=h
 rw [List.eq_nil_of_length_eq_zero h1]
theorem xF{a:Access}(h:mZ a=true):a=⟨[],[]⟩:=by
 obtain⟨c,k⟩:=a
 simp only [mZ,Bool.and_eq_true,decide_eq_true_eq] at h
 obtain⟨rfl,h1⟩:=h
 rw [List.eq_nil_of_length_eq_zero h1]
theorem tX{n:Nat}(hn:5000≤n){a:Access}{d:Int}(ha:gT a d=true){F:Affine→Option Affine}{f:Affine→Affine}(hF: ∀x,bM x=true→F x=some (f x)):gA n a F=some (fP f a):=by
 obtain⟨h1,h2,h3⟩:=sN ha
 refine Ev.eq ?_
 unfold gA
 exact m9 (K:=fun x1=>some (⟨a.array,x1⟩:Access)) (fun x hx=>hF x (h3 x hx)) (by omega) hn (Ev.some rfl)
theorem xO{d:Int}{F:Affine→Option Affine}{f:Affine→Affine}(hF: ∀x,bM x=true→F x=some (f x)): ∀(L n:Nat) (e:Expr),5000+L≤n→dB L e d=true→i_exprMap (n+1) e F=some (tT f L e)
 |0,_,_,_,h=>by cases h
 |L+1,n,e,hn,h=>by
  obtain⟨hk,ho,hs⟩:=gB h
  obtain⟨n,rfl⟩: ∃j,n=j+1:=⟨n-1,by omega⟩
  have hkl:e.kids.length≤2:=by have:=mN e.kind;omega
  unfold i_exprMap
  refine Ev.eq (Ev.jn (fun z=>(⟨z.1,z.2.1⟩:Affine)=(if e.kind=2 then f e.index else⟨[],0⟩)∧(⟨z.2.2.1,z.2.2.2⟩:Access)=(if e.kind=3 then fP f e.read else⟨[],[]⟩)) (fun j hj=> ?_) (fun z hz=> ?_))
  ·refine aH (fun h2=> ?_) (fun h2=>aH (fun h3=> ?_) (fun h3=> ?_))
   ·exact aB (hF _ (vZ ho h2).1) (hj _ ⟨by rw [if_pos h2],by rw [if_neg (by omega)]⟩)
   ·exact aB (tX (by omega) (vX ho h3).1 hF) (hj _ ⟨by rw [if_neg h2],by rw [if_pos h3]⟩)
   ·exact hj _ ⟨by rw [if_neg h2],by rw [if_neg h3]⟩
  ·obtain⟨x4,x5,x6,x7⟩:=z
   obtain⟨z1,z2⟩:=hz
   dsimp only at z1 z2⊢
   refine m9 (K:=fun x8=>some (⟨e.kind,e.num,(⟨x4,x5⟩:Affine),(⟨x6,x7⟩:Access),x8⟩:Expr)) (fun x hx=>xO hF L n x (by omega) (hs x hx)) (by omega) (by omega) (Ev.some ?_)
   rw [z1,z2];rfl
theorem xL{n:Nat}(hn:6000≤n){s:Stmt}{d:Int}(hs:fS s d=true){F:Affine→Option Affine}{f:Affine→Affine}(hF: ∀x,bM x=true→F x=some (f x)):gX n s F=some (tR f s):=by
 obtain⟨h1,h2,_⟩:=jR hs
 obtain⟨n,rfl⟩: ∃j,n=j+1:=⟨n-1,by omega⟩
 unfold gX
 rw [tX (by omega) h1 hF,xO hF 5 n s.value (by omega) h2];rfl
theorem aAg{α:Type}{f:α→α}: ∀{l:List α},(∀x∈l,f x=x)→l.map f=l
 | [],_=>rfl
 |x::l,h=>by rw [List.map_cons,h x List.mem_cons_self,aAg (fun y hy=>h y (List.mem_cons_of_mem _ hy))]
theorem U9{f:Affine→Affine}{a:Access}{d:Int}(ha:gT a d=true)(hf: ∀x,bM x=true→f x=x):fP f a=a:=by
 obtain⟨h1,h2,h3⟩:=sN ha
 unfold fP
 rw [aAg (fun x hx=>hf x (h3 x hx))]
theorem aEa{d:Int}{f:Affine→Affine}(hf: ∀x,bM x=true→f x=x): ∀{L:Nat} {e:Expr},dB L e d=true→tT f L e=e
 |0,_,_=>rfl
 |L+1,e,h=>by
  obtain⟨hk,ho,hs⟩:=gB h
  obtain⟨kind,num,index,read,kids⟩:=e
  unfold tT
  dsimp only at hk ho hs⊢
  rw [aAg (fun x hx=>aEa hf (hs x hx))]
  by_cases h2:kind=2
  ·have e1:=vZ ho h2
   dsimp only at e1
   rw [if_pos h2,if_neg (by omega),hf _ e1.1,xF e1.2]
  ·by_cases h3:kind=3
   ·have e1:=vX ho h3
    dsimp only at e1
    rw [if_neg h2,if_pos h3,U9 e1.1 hf,xE e1.2]
   ·have e1:=aCF ho h2 h3
    dsimp only at e1
    rw [if_neg h2,if_neg h3,xE e1.1,xF e1.2]
theorem aIh{f:Affine→Affine}(hf: ∀x,bM x=true→f x=x){s:Stmt}{d:Int}(hs:fS s d=true):tR f s=s:=by
 obtain⟨h1,h2,_⟩:=jR hs
 unfold tR
 rw [U9 h1 hf,aEa hf h2]
def zE(l:Loop):Prop:=(l.lo.length≤2∧ ∀x∈l.lo,bM x=true)∧l.hi.length≤2∧ ∀x∈l.hi,bM x=true
theorem aJW{nest:List Loop}(h:Fit nest): ∀l∈nest,zE l:=fun l hl=>by
 obtain⟨i,hi⟩:=List.mem_iff_getElem?.1 hl
 have:=h.2 i l hi
 exact⟨(pN this.1).2,(pN this.2).2⟩
theorem rC{list:List Arr}{x:Part}(h:cA list x=true):x.nest.length≤4∧ ∀l∈x.nest,zE l:=by
 have:=(S9 (gQ h).1).1
 exact⟨this.1,aJW this⟩
theorem aI2{a:Affine}(h:bM a=true):BA 4 a:=by have:=(jA h).1;unfold BA;omega
theorem aAN{l:List Affine}(h1:l.length≤2)(h2: ∀x∈l,bM x=true):BAs 4 l:=⟨by omega,fun a ha=>aI2 (h2 a ha)⟩
theorem aI1{d:Int}: ∀{L:Nat} {e:Expr},dB L e d=true→BE 4 L e
 |0,_,h=>by cases h
 |L+1,e,h=>by
  obtain⟨hk,ho,hs⟩:=gB h
  have:=mN e.kind
  refine⟨by omega,?_,?_,fun k hk=>aI1 (hs k hk)⟩
  ·by_cases h2:e.kind=2
   ·exact aI2 (vZ ho h2).1
   ·by_cases h3:e.kind=3
    ·rw [xE (vX ho h3).2];unfold BA;simp
    ·rw [xE (aCF ho h2 h3).1];unfold BA;simp
  ·by_cases h3:e.kind=3
   ·have:=sN (vX ho h3).1
    exact aAN this.2.1 this.2.2
   ·by_cases h2:e.kind=2
    ·rw [xF (vZ ho h2).2];exact⟨by simp,fun x hx=>by cases hx⟩
    ·rw [xF (aCF ho h2 h3).2];exact⟨by simp,fun x hx=>by cases hx⟩
theorem aKZ{s:Stmt}{d:Int}(hs:fS s d=true):BS 4 s:=by
 obtain⟨h1,h2,_⟩:=jR hs
 have:=sN h1
 exact⟨aAN this.2.1 this.2.2,aI1 h2⟩
theorem aJ7{list:List Arr}{x:Part}(h:cA list x=true):BPt 4 x:=by
 obtain⟨h1,h2⟩:=rC h
 obtain⟨_,h4,h5,_⟩:=gQ h
 exact⟨⟨h1,fun l hl=>⟨aAN (h2 l hl).1.1 (h2 l hl).1.2,aAN (h2 l hl).2.1 (h2 l hl).2.2⟩⟩,h4.2,fun s hs=>aKZ (h5 s hs)⟩
theorem aK0{l:List Arr}(h1:l.length≤4)(h2:fM l):BR 4 l:=⟨h1,fun x hx=>by
 have:=h2 x hx
 simp only [jE,Bool.and_eq_true,decide_eq_true_eq] at this
 omega⟩
theorem E7{B:Nat}{l:List Affine}{f:Affine→Affine}(h:l.length≤B)(hf: ∀x∈l,BA B (f x)):BAs B (l.map f):=⟨by rw [List.length_map];exact h,fun a ha=>by
 obtain⟨x,hx,rfl⟩:=List.mem_map.1 ha
 exact hf x hx⟩
theorem aHc{d:Int}{f:Affine→Affine}(hf: ∀x,bM x=true→BA 4 (f x)): ∀{L:Nat} {e:Expr},dB L e d=true→BE 4 L (tT f L e)
 |0,_,h=>by cases h
 |L+1,e,h=>by
  obtain⟨hk,ho,hs⟩:=gB h
  have:=mN e.kind
  unfold tT BE
  refine⟨by dsimp only;rw [List.length_map];omega,?_,?_,fun k hk=> ?_⟩
  ·dsimp only
   by_cases h2:e.kind=2
   ·rw [if_pos h2];exact hf _ (vZ ho h2).1
   ·rw [if_neg h2];unfold BA;simp
  ·dsimp only
   by_cases h3:e.kind=3
   ·rw [if_pos h3]
    have:=sN (vX ho h3).1
    exact E7 (by omega) (fun x hx=>hf x (this.2.2 x hx))
   ·rw [if_neg h3];exact⟨by simp,fun x hx=>by cases hx⟩
  ·obtain⟨x,hx,rfl⟩:=List.mem_map.1 hk
   exact aHc hf (hs x hx)
theorem aJ6{f:Affine→Affine}(hf: ∀x,bM x=true→BA 4 (f x)){s:Stmt}{d:Int}(hs:fS s d=true):BS 4 (tR f s):=by
 obtain⟨h1,h2,_⟩:=jR hs
 have:=sN h1
 exact⟨E7 (by omega) (fun x hx=>hf x (this.2.2 x hx)),aHc hf h2⟩
theorem aEv{f:Affine→Affine}(hf: ∀x,bM x=true→BA 4 (f x)){l:Loop}(h:zE l):BAs 4 (dJ f l).lo∧BAs 4 (dJ f l).hi:=
 ⟨E7 (by have:=h.1.1;omega) (fun x hx=>hf x (h.1.2 x hx)),E7 (by have:=h.2.1;omega) (fun x hx=>hf x (h.2.2 x hx))⟩
theorem T9(n:Nat){a:Affine}(h:a.coefs.length≤1000):cX n a=some a:=by
 unfold cX m_ownClone
 rw [if_pos (by omega)];rfl
theorem T8(n:Nat): ∀x,bM x=true→cX n x=some x:=fun x hx=>T9 n (by have:=(jA hx).1;omega)
theorem J1{n:Nat}(hn:5000≤n){l:List Affine}(h1:l.length≤2)(h2: ∀x∈l,bM x=true):fJ n l=some l:=by
 unfold fJ
 refine Ev.eq (m9 (g:=fun x=>x) (K:=fun x1=>some x1) (fun x hx=>T8 n x (h2 x hx)) (by omega) hn (Ev.some ?_))
 simp
theorem aCG{n:Nat}(hn:5000≤n){nest:List Loop}(h1:nest.length≤4)(h2: ∀l∈nest,zE l):lV n nest=some nest:=by
 unfold lV
 refine Ev.eq ?_
 refine tS (β:=Loop) (l:=nest) (n:=n) (F:=fun x5 k=>Option.bind (fJ n x5.lo) fun x6=>Option.bind (fJ n x5.hi) fun x7=>k (⟨x6,x7⟩:Loop)) (g:=fun x=>x) (s:=0) (pre:=[]) (K:=fun x1=>some x1) ?_ (by omega) (by simp) (by omega) hn (Ev.some (by simp))
 exact fun x hx k hk=>aB (J1 hn (h2 x hx).1.1 (h2 x hx).1.2) (aB (J1 hn (h2 x hx).2.1 (h2 x hx).2.2) hk)
theorem aCD{n:Nat}(hn:6000≤n){s:Stmt}{d:Int}(hs:fS s d=true):qM n s=some s:=by
 unfold qM
 rw [xL hn hs (F:=fun q0=>cX n q0) (f:=fun x=>x) (T8 n),aIh (fun _ _=>rfl) hs];rfl
theorem aCE{n:Nat}(hn:6000≤n){list:List Arr}{x:Part}(h:cA list x=true):kA n x=some x:=by
 obtain⟨h1,h2⟩:=rC h
 obtain⟨_,h4,h5,_⟩:=gQ h
 unfold kA
 refine Ev.eq (aB (aCG (by omega) h1 h2) (m9 (g:=fun x=>x) (K:=fun x2=>some (⟨x.nest,x2⟩:Part)) (fun s hs=>aCD hn (h5 s hs)) (by omega) (by omega) (Ev.some ?_)))
 simp
theorem aCC{n:Nat}(hn:6000≤n){p:Prog}(h:cF p=true):eC n p=some p:=by
 obtain⟨h1,h2,h3,h4,_⟩:=jV h
 unfold eC
 refine Ev.eq (tS (F:=fun x5 k=>Option.bind (m_ownClone x5.dims) fun x6=>k (⟨x5.name,x6⟩:Arr)) (g:=fun x=>x) (s:=0) (pre:=[]) (K:=fun x1=>aM (fun again11 ((x8,x9):(List Part)×Int)=>
    bif decide (x9<(p.parts.length:Int)) then(
     Option.bind (ix p.parts x9) fun x12=>
     Option.bind (kA n x12) fun x13=>
     Option.bind (app x8 [x13]) fun x14=>
     again11 (x14,wr (x9+1))
    ) else(
     some (⟨x1,x8⟩:Prog)
    )
   ) n ([],0)) (fun x hx k hk=>aB (x:=x.dims) ?_ hk) (by omega) (by simp) (by omega) (by omega) ?_)
 ·have:=(aK0 h1 h2).2 x hx
  unfold m_ownClone
  rw [if_pos (by omega)]
 ·refine m9 (g:=fun x=>x) (K:=fun x8=>some (⟨_,x8⟩:Prog)) (fun x hx=>aCE hn (h4 x hx)) (by omega) (by omega) (Ev.some ?_)
  simp
theorem iA{α:Type}{a b:List α}(h:b.length=a.length):fT a b=some ():=by unfold fT;rw [if_pos h]
theorem u9{n:Nat}(hn:5000≤n){l:Loop}(hl:zE l){F:Affine→Option Affine}{f:Affine→Affine}(hF: ∀x,bM x=true→F x=some (f x)):eE n l F=some (dJ f l):=by
 obtain⟨⟨a1,a2⟩,b1,b2⟩:=hl
 unfold eE
 refine Ev.eq (Ev.loop (fun z:Loop×Int=>(z.2=0∧z.1=l)∨(z.2=1∧z.1=⟨l.lo.map f,l.hi⟩)∨(z.2=2∧z.1=dJ f l)) (fun z=>3-z.2.toNat) ?_ n _ (.inl ⟨rfl,rfl⟩) (by dsimp only;omega))
 rintro again ⟨x,i⟩ hz hr
 dsimp only at hz hr⊢
 rcases hz with ⟨rfl,rfl⟩|⟨rfl,rfl⟩|⟨rfl,rfl⟩
 ·refine aB (iA rfl) (aB (iA rfl) (aH (fun _=>aH (fun _=> ?_) (fun h=>(h rfl).elim)) (fun h=>absurd h (by omega))))
  refine Y8 (F:=fun x k=>Option.bind (F x) k) (W:=fun _ o=>o) (m:=fun _=>(x.lo.length:Int)) (g:=f) (s:=0) (K:=fun y=>again ((⟨y,x.hi⟩:Loop),wr (0+1))) (fun _ _ _ h=>h) (fun _ _=>rfl) (by omega) (fun x hx k hk=>aB (hF x (a2 x hx)) hk) (by omega) hn ?_
  rw [aO (by omega)]
  exact hr _ (.inr (.inl ⟨by dsimp only;omega,by simp⟩)) (by dsimp only;omega)
 ·refine aB (iA (by simp)) (aB (iA rfl) (aH (fun _=>aH (fun h=>absurd h (by omega)) (fun _=>aH (fun _=> ?_) (fun h=>(h rfl).elim))) (fun h=>absurd h (by omega))))
  refine Y8 (F:=fun x k=>Option.bind (F x) k) (W:=fun _ o=>o) (m:=fun _=>(l.hi.length:Int)) (g:=f) (s:=0) (K:=fun y=>again ((⟨l.lo.map f,y⟩:Loop),wr (1+1))) (fun _ _ _ h=>h) (fun _ _=>rfl) (by omega) (fun x hx k hk=>aB (hF x (b2 x hx)) hk) (by omega) hn ?_
  rw [aO (by omega)]
  exact hr _ (.inr (.inr ⟨by dsimp only;omega,by simp [dJ]⟩)) (by dsimp only;omega)
 ·refine aB (iA (by simp [dJ])) (aB (iA (by simp [dJ])) (aH (fun h=>absurd h (by omega)) (fun _=>Ev.some rfl)))
def qJ(k:Nat)(g f:Affine→Affine)(x:Part)(l:Loop):Part:=⟨x.nest.take k++dJ g l::(x.nest.drop (k+1)).map (dJ f),x.body.map (tR f)⟩
theorem R2{n:Nat}(hn:6000≤n){nest:List Loop}{body:List Stmt}{s:Nat}(hs:s≤nest.length)(h1:nest.length≤4)(h2: ∀l∈nest.drop s,zE l){d:Int}(h3:body.length≤4)(h4: ∀s∈body,fS s d=true){F:Affine→Option Affine}{f:Affine→Affine}(hF: ∀x,bM x=true→F x=some (f x)):
  jL n ⟨nest,body⟩ (s:Int) F=some ⟨nest.take s++(nest.drop s).map (dJ f),body.map (tR f)⟩:=by
 have key: ∀(nest2:List Loop),Ev (aM (fun again2 ((y,j):(List Stmt)×Int)=>
    Option.bind (fT body y) fun x5=>
    bif decide (j<(body.length:Int)) then(
     Option.bind (ix y j) fun x6=>
     Option.bind (gX n x6 F) fun x7=>
     Option.bind (dC y j x7) fun x8=>
     again2 (x8,wr (j+1))
    ) else(
     some (⟨nest2,y⟩:Part)
    )
   ) n (body,0)) (fun r=>r=⟨nest2,body.map (tR f)⟩):=fun nest2=>
  Y8 (F:=fun x k=>Option.bind (gX n x F) k) (W:=fun y o=>Option.bind (fT body y) fun _=>o) (m:=fun _=>(body.length:Int)) (g:=tR f) (s:=0) (K:=fun y=>some (⟨nest2,y⟩:Part)) (fun y o h ho=>aB (iA h) ho) (fun _ _=>rfl) (by omega) (fun x hx k hk=>aB (xL hn (h4 x hx) hF) hk) (by omega) (by omega) (Ev.some (by simp))
 unfold jL
 refine Ev.eq ?_
 -- the loops ahead stay: only those behind are changed
 refine Ev.loop (fun z:List Loop×Int=> ∃i:Nat,z.2=i∧s≤i∧i≤nest.length∧z.1=nest.take s++((nest.drop s).take (i-s)).map (dJ f)++nest.drop i) (fun z=>nest.length-z.2.toNat) ?_ n _ ⟨s,rfl,by omega,by omega,by simp⟩ (by dsimp only;omega)
 rintro again ⟨x,z⟩ ⟨i,hz,hsi,hi,hx⟩ hr
 dsimp only at hz hx⊢
 subst hz
 have hpl:(nest.take s++((nest.drop s).take (i-s)).map (dJ f)).length=i:=by rw [List.length_append,List.length_map,List.length_take,List.length_take,List.length_drop];omega
 have hxl:x.length=nest.length:=by rw [hx,List.length_append,hpl,List.length_drop];omega
 refine aB (iA hxl) (aH (fun hlt=> ?_) (fun hge=> ?_))
 ·obtain⟨e,hg⟩: ∃e,nest[i]? =some e:=⟨_,List.getElem?_eq_getElem (show i<nest.length by omega)⟩
  have hgx:x[i]? =some e:=by
   rw [hx,List.getElem?_append_right (by omega),hpl,Nat.sub_self,List.getElem?_drop];exact hg
  have he:e∈nest.drop s:=List.mem_iff_getElem?.2 ⟨i-s,by rw [List.getElem?_drop,show s+(i-s)=i by omega];exact hg⟩
  refine aB (aT hgx) (aB (u9 (by omega) (h2 _ he) hF) (aB (fE (by omega) _) ?_))
  rw [aO (by omega)]
  refine hr _ ⟨i+1,by dsimp only;omega,by omega,by omega,?_⟩ (by dsimp only;omega)
  dsimp only
  rw [hx,Int.toNat_natCast,List.set_append_right _ _ (by omega),hpl,Nat.sub_self,iI hg,List.set_cons_zero,show i+1-s=(i-s)+1 by omega,List.take_add_one,List.getElem?_drop,show s+(i-s)=i by omega,hg]
  simp
 ·have:i=nest.length:=by omega
  subst this
  rw [hx,List.take_of_length_le (l:=nest.drop s) (by rw [List.length_drop];omega),List.drop_length,List.append_nil]
  exact key _
theorem Z2{n:Nat}(hn:5000≤n){l:List Affine}(h1:l.length≤2)(h2: ∀x∈l,bM x=true){way v:Int}{b:Affine}{f:Affine→Affine}(hF: ∀x,bM x=true→gN n x way v b=some (f x)):n8 n l way v b=some (l.map f):=by
 unfold n8
 exact Ev.eq (m9 (K:=fun x1=>some x1) (fun x hx=>hF x (h2 x hx)) (by omega) hn (Ev.some rfl))
theorem aET{n:Nat}(hn:5000≤n){l:Loop}(hl:zE l){way v:Int}{b:Affine}{f:Affine→Affine}(hF: ∀x,bM x=true→gN n x way v b=some (f x)):pZ n l way v b=some (dJ f l):=by
 unfold pZ
 rw [Z2 hn hl.1.1 hl.1.2 hF,Z2 hn hl.2.1 hl.2.2 hF];rfl
theorem A5{n:Nat}(hn:5000≤n){a:Access}{d:Int}(ha:gT a d=true){way v:Int}{b:Affine}{f:Affine→Affine}(hF: ∀x,bM x=true→gN n x way v b=some (f x)):jS n a way v b=some (fP f a):=by
 have:=sN ha
 unfold jS
 rw [Z2 hn this.2.1 this.2.2 hF];rfl
theorem V2{d way v:Int}{b:Affine}{f:Affine→Affine}(hF: ∀n,5000≤n→ ∀x,bM x=true→gN n x way v b=some (f x)): ∀(L n:Nat) (e:Expr),5000+L≤n→dB L e d=true→s_l8Expr (n+1) e way v b=some (tT f L e)
 |0,_,_,_,h=>by cases h
 |L+1,n,e,hn,h=>by
  obtain⟨hk,ho,hs⟩:=gB h
  obtain⟨n,rfl⟩: ∃j,n=j+1:=⟨n-1,by omega⟩
  have hkl:e.kids.length≤2:=by have:=mN e.kind;omega
  unfold s_l8Expr
  refine Ev.eq (Ev.jn (fun z=>(⟨z.1,z.2⟩:Affine)=(if e.kind=2 then f e.index else⟨[],0⟩)) (fun j hj=> ?_) (fun z hz=>Ev.jn (fun y=>(⟨y.1,y.2⟩:Access)=(if e.kind=3 then fP f e.read else⟨[],[]⟩)) (fun j hj=> ?_) (fun y hy=> ?_)))
  ·exact aH (fun h2=>aB (hF _ (by omega) _ (vZ ho h2).1) (hj _ (by rw [if_pos h2]))) (fun h2=>hj _ (by rw [if_neg h2]))
  ·exact aH (fun h3=>aB (A5 (by omega) (vX ho h3).1 (hF _ (by omega))) (hj _ (by rw [if_pos h3]))) (fun h3=>hj _ (by rw [if_neg h3]))
  ·obtain⟨x3,x4⟩:=z
   obtain⟨x7,x8⟩:=y
   dsimp only at hz hy⊢
   refine m9 (K:=fun x9=>some (⟨e.kind,e.num,(⟨x3,x4⟩:Affine),(⟨x7,x8⟩:Access),x9⟩:Expr)) (fun x hx=>V2 hF L n x (by omega) (hs x hx)) (by omega) (by omega) (Ev.some ?_)
   rw [hz,hy];rfl
theorem aEV{n:Nat}(hn:6000≤n){l:List Stmt}{d:Int}(h1:l.length≤4)(h2: ∀s∈l,fS s d=true){way v:Int}{b:Affine}{f:Affine→Affine}(hF: ∀n,5000≤n→ ∀x,bM x=true→gN n x way v b=some (f x)):s9 n l way v b=some (l.map (tR f)):=by
 obtain⟨n,rfl⟩: ∃j,n=j+1:=⟨n-1,by omega⟩
 unfold s9
 refine Ev.eq ?_
 refine tS (β:=Stmt) (l:=l) (n:=n+1) (F:=fun x5 k=>Option.bind (jS (n+1) x5.write way v b) fun x6=>Option.bind (s_l8Expr (n+1) x5.value way v b) fun x7=>k (⟨x6,x7⟩:Stmt)) (g:=tR f) (s:=0) (pre:=[]) (K:=fun x1=>some x1) (fun x hx k hk=> ?_) (by omega) (by simp) (by omega) (by omega) (Ev.some (by simp))
 obtain⟨h1,h2,_⟩:=jR (h2 x hx)
 exact aB (A5 (by omega) h1 (hF _ (by omega))) (aB (V2 hF 5 n x.value (by omega) h2) hk)
theorem aCQ{n:Nat}(hn:6000≤n){x:Part}{s:Nat}(hs:s+1≤x.nest.length)(h1:x.nest.length≤4)(h2: ∀l∈x.nest,zE l){d:Int}(h3:x.body.length≤4)(h4: ∀s∈x.body,fS s d=true){way v:Int}{b:Affine}{f:Affine→Affine}(hF: ∀n,5000≤n→ ∀x,bM x=true→gN n x way v b=some (f x)):
  qA n x (s:Int) way v b=some ⟨x.nest.take (s+1)++(x.nest.drop (s+1)).map (dJ f),x.body.map (tR f)⟩:=by
 unfold qA
 rw [aO (by omega)]
 refine Ev.eq (aB (yU (by omega) (by omega) (by omega)) ?_)
 rw [show((s:Int)+1).toNat=s+1 by omega,show(0:Int).toNat=0 from rfl,List.drop_zero]
 refine aB (x:=x.nest.take (s+1)) (cD (by simp;omega)) (aB (aEV hn h3 h4 hF) ?_)
 exact tS (F:=fun x8 k=>Option.bind (pZ n x8 way v b) k) (g:=dJ f) (s:=s+1) (pre:=x.nest.take (s+1)) (K:=fun x4=>some (⟨x4,x.body.map (tR f)⟩:Part)) (fun l hl k hk=>aB (aET (by omega) (h2 l hl) (hF _ (by omega))) hk) (by omega) (by simp;omega) (by omega) (by omega) (Ev.some rfl)
theorem U5(n:Nat){a:Affine}(h:BA 1000 a):fY n a=some a:=by
 unfold fY
 rw [eG _ h];rfl
theorem v7{n:Nat}(hn:5000≤n){l:List Affine}(h:BAs 1000 l):cT n l=some l:=by
 unfold cT
 exact Ev.eq (mR (K:=fun x1=>some x1) (fun x hx=>U5 n (h.2 x hx)) h.1 hn (Ev.some rfl))
theorem U6{n:Nat}(hn:5000≤n){a:Access}(h:BAs 1000 a.subs):fZ n a=some a:=by
 unfold fZ
 rw [v7 hn h];rfl
theorem J5: ∀(L n:Nat) (e:Expr),5000+L≤n→BE 1000 L e→s_l16OwnExpr (n+1) e=some e
 |0,_,_,_,h=>h.elim
 |L+1,n,e,hn,h=>by
  obtain⟨h1,h2,h3,h4⟩:=h
  obtain⟨n,rfl⟩: ∃j,n=j+1:=⟨n-1,by omega⟩
  unfold s_l16OwnExpr iO
  rw [U5 _ h2,U6 (by omega) h3]
  refine Ev.eq (aB rfl (aB rfl (aB (x:=e.kids) ?_ (Ev.some (by cases e;rfl)))))
  exact Ev.eq (mR (f:=s_l16OwnExpr (n+1)) (K:=fun x1=>some x1) (fun x hx=>J5 L n x (by omega) (h4 x hx)) h1 (by omega) (Ev.some rfl))
theorem aCK{n:Nat}(hn:6000≤n){s:Stmt}(h:BS 1000 s):kK n s=some s:=by
 obtain⟨n,rfl⟩: ∃j,n=j+1:=⟨n-1,by omega⟩
 unfold kK
 rw [U6 (by omega) h.1,J5 5 n s.value (by omega) h.2];rfl
theorem aCM{n:Nat}(hn:6000≤n){x:Part}(h:BPt 1000 x):kL n x=some x:=by
 obtain⟨⟨h1,h2⟩,h3,h4⟩:=h
 have e1:fX n x.nest=some x.nest:=by
  unfold fX
  refine Ev.eq (mR (K:=fun x1=>some x1) (fun l hl=> ?_) h1 (by omega) (Ev.some rfl))
  unfold m7
  rw [v7 (by omega) (h2 l hl).1,v7 (by omega) (h2 l hl).2];rfl
 have e2:fV n x.body=some x.body:=by
  unfold fV
  exact Ev.eq (mR (K:=fun x1=>some x1) (fun l hl=>aCK hn (h4 l hl)) h3 (by omega) (Ev.some rfl))
 unfold kL
 rw [e1,e2];rfl
theorem aCL{n:Nat}(hn:6000≤n){p:Prog}(h:BG 1000 p):gO n p=some p:=by
 obtain⟨⟨h1,h2⟩,h3,h4⟩:=h
 have e1:fG n p.arrays=some p.arrays:=by
  unfold fG
  refine Ev.eq (mR (K:=fun x1=>some x1) (fun l hl=> ?_) h1 (by omega) (Ev.some rfl))
  unfold mA
  rw [eG _ (h2 l hl)];rfl
 have e2:fW n p.parts=some p.parts:=by
  unfold fW
  exact Ev.eq (mR (K:=fun x1=>some x1) (fun l hl=>aCM hn (h4 l hl)) h3 (by omega) (Ev.some rfl))
 unfold gO
 rw [e1,e2];rfl
theorem pY{α:Type}{f:α→α→Option Bool}{l:List α}(hf: ∀x∈l,f x x=some true){n:Nat}(hn:l.length<n)(hl:l.length≤1000000):
  (bif !decide ((l.length:Int)=(l.length:Int)) then(some false) else(aM (fun again2 (x1:Int)=>bif decide (x1<(l.length:Int)) then(Option.bind (ix l x1) fun x3=>Option.bind (ix l x1) fun x4=>Option.bind (f x3 x4) fun x5=>bif !x5 then(some false) else(again2 (wr (x1+1)))) else(some true)) n 0))=some true:=by
 refine Ev.eq (fU (fun h=>(h rfl).elim) (fun _=> ?_))
 refine Ev.loop (fun x:Int=> ∃i:Nat,x=i∧i≤l.length) (fun x=>l.length-x.toNat) ?_ n 0 ⟨0,rfl,by omega⟩ (by omega)
 rintro again x ⟨i,rfl,hi⟩ hr
 refine aH (fun hlt=> ?_) (fun _=>Ev.some rfl)
 obtain⟨e,hg⟩: ∃e,l[i]? =some e:=⟨_,List.getElem?_eq_getElem (show i<l.length by omega)⟩
 refine aB (aT hg) (aB (aT hg) (aB (hf e (List.mem_of_getElem? hg)) (bV ?_)))
 rw [aO (by omega)]
 exact hr _ ⟨i+1,by omega,by omega⟩ (by omega)
theorem T2{a:List Int}{n:Nat}(hn:a.length<n)(hl:a.length≤1000000):jZ n a a=some true:=by
 unfold jZ
 refine Ev.eq (fU (fun h=>(h rfl).elim) (fun _=> ?_))
 refine Ev.loop (fun x:Int=> ∃i:Nat,x=i∧i≤a.length) (fun x=>a.length-x.toNat) ?_ n 0 ⟨0,rfl,by omega⟩ (by omega)
 rintro again x ⟨i,rfl,hi⟩ hr
 refine aH (fun hlt=> ?_) (fun _=>Ev.some rfl)
 obtain⟨e,hg⟩: ∃e,a[i]? =some e:=⟨_,List.getElem?_eq_getElem (show i<a.length by omega)⟩
 refine aB (aT hg) (aB (aT hg) (fU (fun h=>(h rfl).elim) (fun _=> ?_)))
 rw [aO (by omega)]
 exact hr _ ⟨i+1,by omega,by omega⟩ (by omega)
theorem aEx{n:Nat}(hn:5000≤n){a:Affine}(h:BA 1000 a):cG n a a=some true:=by
 unfold BA at h
 unfold cG
 refine Ev.eq (Ev.jn (fun z=>z=true) (fun j hj=>aB (T2 (by omega) (by omega)) (b6 (hj _ (decide_eq_true rfl)))) (fun z hz=>Ev.some hz))
theorem Q6{n:Nat}(hn:5000≤n){l:List Affine}(h:BAs 1000 l):cU n l l (fun q0 q1=>cG n q0 q1)=some true:=by
 have:=h.1
 unfold cU
 exact pY (fun x hx=>aEx hn (h.2 x hx)) (by omega) (by omega)
theorem aEy{n:Nat}(hn:5000≤n){a:Access}(h:BAs 1000 a.subs):iW n a a=some true:=by
 unfold iW
 refine Ev.eq (Ev.jn (fun z=>z=true) (fun j hj=> ?_) (fun z hz=>Ev.some hz))
 exact aH (fun _=>aB (Q6 hn h) (hj _ rfl)) (fun h=>(h rfl).elim)
theorem aBB: ∀(L n:Nat) (e:Expr),5000+L≤n→BE 1000 L e→i_exprSame (n+1) e e=some true
 |0,_,_,_,h=>h.elim
 |L+1,n,e,hn,h=>by
  obtain⟨h1,h2,h3,h4⟩:=h
  obtain⟨n,rfl⟩: ∃j,n=j+1:=⟨n-1,by omega⟩
  unfold i_exprSame
  refine Ev.eq (Ev.jn (fun z=>z=true) (fun j hj=> ?_) (fun z hz=>Ev.some hz))
  refine aH (fun _=>aH (fun _=>aB (aEx (by omega) h2) (b6 (aB (aEy (by omega) h3) (b6 (aB (x:=true) ?_ (hj _ rfl)))))) (fun h=>(h rfl).elim)) (fun h=>(h rfl).elim)
  unfold iV
  exact pY (fun x hx=>aBB L n x (by omega) (h4 x hx)) (by omega) (by omega)
theorem aFS{n:Nat}(hn:6000≤n){s:Stmt}(h:BS 1000 s):lZ n s s=some true:=by
 obtain⟨n,rfl⟩: ∃j,n=j+1:=⟨n-1,by omega⟩
 unfold lZ
 refine Ev.eq (Ev.jn (fun z=>z=true) (fun j hj=> ?_) (fun z hz=>Ev.some hz))
 exact aB (aEy (by omega) h.1) (b6 (aB (aBB 5 n s.value (by omega) h.2) (hj _ rfl)))
theorem aGc{n:Nat}(hn:5000≤n){nest:List Loop}(h:BN 1000 nest):oW n nest nest=some true:=by
 have:=h.1
 unfold oW iU
 rw [pY (fun l hl=> ?_) (by omega) (by omega)]
 ·rfl
 ·unfold kV
  refine Ev.eq (Ev.jn (fun z=>z=true) (fun j hj=> ?_) (fun z hz=>Ev.some hz))
  exact aB (Q6 hn (h.2 l hl).1) (b6 (aB (Q6 hn (h.2 l hl).2) (hj _ rfl)))
theorem aF9{n:Nat}(hn:6000≤n){x:Part}(h:BPt 1000 x):eX n x x=some true:=by
 have:=h.2.1
 unfold eX
 refine Ev.eq (Ev.jn (fun z=>z=true) (fun j hj=> ?_) (fun z hz=>Ev.some hz))
 refine aB (aGc (by omega) h.1) (b6 (aB (x:=true) ?_ (hj _ rfl)))
 unfold iS
 exact pY (fun s hs=>aFS hn (h.2.2 s hs)) (by omega) (by omega)
theorem aF7{n:Nat}(hn:6000≤n){p:Prog}(h:BG 1000 p):eD n p p=some true:=by
 obtain⟨⟨h1,h2⟩,h3,h4⟩:=h
 unfold eD
 refine Ev.eq (Ev.jn (fun z=>z=true) (fun j hj=> ?_) (fun z hz=>Ev.some hz))
 refine aB (x:=true) ?_ (b6 (aB (x:=true) ?_ (hj _ rfl)))
 ·unfold hJ
  refine pY (fun x hx=> ?_) (by omega) (by omega)
  unfold eY
  refine Ev.eq (Ev.jn (fun z=>z=true) (fun j hj=> ?_) (fun z hz=>Ev.some hz))
  have:=h2 x hx
  exact aH (fun _=>aB (T2 (by omega) (by omega)) (hj _ rfl)) (fun h=>(h rfl).elim)
 ·unfold iT
  exact pY (fun x hx=>aF9 hn (h4 x hx)) (by omega) (by omega)
def jN(p:Prog)(part loop:Int):Bool:=cF p&&match ix p.parts part with
 |some x=>decide (0≤loop∧loop<(x.nest.length:Int))
 |none=>false
theorem aGk{α:Type}{l:List α}{i:Int}(h: ¬(0≤i∧i<(l.length:Int))):ix l i=none:=by
 cases hx:ix l i with
 |none=>rfl
 |some x=>
  obtain⟨h1,h2⟩:=rH hx
  have:=(List.getElem?_eq_some_iff.1 h2).1
  exact absurd ⟨h1,by omega⟩ h
theorem aJM{α:Type}{l:List α}{i:Int}{x:α}(h:ix l i=some x): ∃k:Nat,i=k∧k<l.length∧l[k]? =some x:=by
 obtain⟨h1,h2⟩:=rH h
 exact⟨i.toNat,by omega,(List.getElem?_eq_some_iff.1 h2).1,h2⟩
theorem zI(n:Nat){p:Prog}(h:p.parts.length≤1000)(part:Int):eJ n p part=some (decide (0≤part∧part<(p.parts.length:Int))):=by
 unfold eJ
 rw [dE,aO (by omega)]
 exact congrArg some (decide_eq_decide.2 (by omega))
theorem aHb{n:Nat}(hn:7000≤n){p:Prog}(hp:BG 1000 p)(part loop:Int)(hl:loop≠ -1):nB n p part loop=some (if jN p part loop=true then(p,true) else(⟨[],[]⟩,false)):=by
 unfold nB
 refine Ev.eq (Ev.jn (fun z=>z= !jN p part loop) (fun j hj=> ?_) (fun z hz=> ?_))
 ·refine aB (dZ hn hp.sm) (Ev.cond (fun h=> ?_) (fun h=> ?_))
  ·refine hj _ ?_
   unfold jN
   rw [show cF p=false by simpa using h];rfl
  ·have hv:cF p=true:=by simpa using h
   refine aB (zI n hp.2.1 part) ?_
   by_cases hi:0≤part∧part<(p.parts.length:Int)
   ·obtain⟨x,hx,hx2⟩:=jC hi.1 hi.2
    rw [decide_eq_true hi]
    refine bV (fU (fun _=>aB (x:=jN p part loop) ?_ (hj _ rfl)) (fun h=>absurd h hl))
    unfold iY
    refine Ev.eq (Ev.jn (fun z=>z=jN p part loop) (fun j hj=> ?_) (fun z hz=>Ev.some hz))
    rw [zI n hp.2.1 part,decide_eq_true hi]
    refine aB rfl (b6 (aB hx ?_))
    have:=(hp.2.2 x (List.mem_of_getElem? hx2)).1.1
    rw [aO (by omega),dE]
    refine aB rfl (hj _ ?_)
    unfold jN
    rw [hv,hx]
    exact decide_eq_decide.2 (by omega)
   ·rw [decide_eq_false hi]
    refine b6 (hj _ ?_)
    unfold jN
    rw [aGk hi,Bool.and_false];rfl
 ·subst hz
  by_cases hc:jN p part loop=true
  ·rw [hc]
   have hv:cF p=true:=by unfold jN at hc;rw [Bool.and_eq_true] at hc;exact hc.1
   obtain⟨x,hx⟩: ∃x,ix p.parts part=some x:=by
    cases hx:ix p.parts part with
    |some x=>exact⟨x,rfl⟩
    |none=>unfold jN at hc;rw [hx,Bool.and_false] at hc;cases hc
   exact bV (aB (aCC (by omega) hv) (aB hx (Ev.some rfl)))
  ·rw [show jN p part loop=false by simpa using hc]
   exact b6 (Ev.some rfl)
def R7(q:Prog):Prog×Bool:=if cF q=true then(q,true) else(⟨[],[]⟩,false)
theorem aBA{n:Nat}(hn:7000≤n){p:Prog}(hp:BG 1000 p):oO n p=some (R7 p):=by
 unfold oO R7
 refine Ev.eq (aB (dZ hn hp.sm) (Ev.cond (fun h=>Ev.some ?_) (fun h=> ?_)))
 ·rw [if_neg (by simpa using h)]
 ·have hv:cF p=true:=by simpa using h
  rw [if_pos hv]
  exact aB (aCC (by omega) hv) (Ev.some rfl)
theorem aJS{n:Nat}(hn:7000≤n){p:Prog}(hp:BG 1000 p)(part loop:Int):w5 n p part loop=some (jN p part loop):=by
 unfold w5
 refine Ev.eq (Ev.jn (fun z=>z=jN p part loop) (fun j hj=> ?_) (fun z hz=>Ev.some hz))
 refine aB (kM hn hp.sm) (Ev.cond (fun hv=> ?_) (fun hv=>hj _ (by unfold jN;rw [hv];rfl)))
 refine aH (fun h1=>aH (fun h2=> ?_) (fun h2=> ?_)) (fun h1=> ?_)
 ·obtain⟨x,hx,hx2⟩:=jC h1 h2
  refine aH (fun h3=>aB hx (hj _ ?_)) (fun h3=>hj _ ?_)
  ·unfold jN
   rw [hv,hx]
   exact decide_eq_decide.2 (by omega)
  ·unfold jN
   rw [hv,hx]
   exact(decide_eq_false (by omega)).symm
 ·exact hj _ (by unfold jN;rw [aGk (by omega),Bool.and_false])
 ·exact hj _ (by unfold jN;rw [aGk (by omega),Bool.and_false])
theorem aHz{n:Nat}(hn:7000≤n){p:Prog}(hp:BG 1000 p){i:Nat}(hi:i<p.parts.length){y:Part}(hy:BPt 1000 y):sY n p (i:Int) 1 [y]=some (R7 ⟨p.arrays,p.parts.set i y⟩):=by
 have hpl:=hp.2.1
 have hq:BG 1000 ⟨p.arrays,p.parts.set i y⟩:=⟨hp.1,by dsimp only;rw [List.length_set];exact hpl,qZ hp.2.2 hy⟩
 unfold sY R7
 refine Ev.eq (aB (tZ (by omega) hp) (aB (yU (by omega) (by omega) (by omega)) ?_))
 rw [Int.toNat_natCast,show(0:Int).toNat=0 from rfl,List.drop_zero]
 refine aB (x:=p.parts.take i) (cD (by simp;omega)) (aB (x:=p.parts.take i++[y]) (cD (by simp;omega)) ?_)
 rw [aO (by omega)]
 refine aB (yU (by omega) (by omega) (by omega)) ?_
 rw [Int.toNat_natCast,List.take_length,show((i:Int)+1).toNat=i+1 by omega]
 refine aB (x:=p.parts.set i y) ?_ (aB (kM hn hq.sm) (Ev.cond (fun h=>Ev.some ?_) (fun h=> ?_)))
 ·rw [cD (by simp;omega),List.set_eq_take_append_cons_drop,if_pos hi,List.append_assoc];rfl
 ·rw [if_neg (by simpa using h)]
 ·rw [if_pos (by simpa using h)]
  exact aB (tZ (by omega) hq) (Ev.some rfl)
def gJ(a:Affine)(k:Int)(b:Affine):Affine:=⟨List.zipWith (fun x y=>x+k*y) a.coefs b.coefs,a.const+k*b.const⟩
def sI(k:Nat):Affine:=⟨[0,0,0,0].set k 1,0⟩
def fB(k:Nat)(b x:Affine):Affine:=gJ x (-(x.coefs.getD k 0)) b
def bB(m:Int)(a:Affine):Prop:=a.coefs.length=4∧pW m a.const∧ ∀c∈a.coefs,pW m c
theorem bB.mono{m m':Int}{a:Affine}(h:bB m a)(hm:m≤m'):bB m' a:=⟨h.1,⟨by have:=h.2.1.1;omega,by have:=h.2.1.2;omega⟩,fun c hc=>⟨by have:=(h.2.2 c hc).1;omega,by have:=(h.2.2 c hc).2;omega⟩⟩
theorem aBp{l:List Int}(h:l.length=4): ∃a b c d,l=[a,b,c,d]:=by
 match l,h with
 | [a,b,c,d],_=>exact⟨a,b,c,d,rfl⟩
theorem zW{a:Affine}(h:bM a=true):bB 99 a:=by
 obtain⟨h1,h2,h3⟩:=jA h
 exact⟨h1,h2,fun c hc=>⟨by have:=(h3 c hc).1;omega,by have:=(h3 c hc).2;omega⟩⟩
theorem aHD{k:Nat}(hk:k<4):bB 6 (sI k):=by
 rcases(show k=0∨k=1∨k=2∨k=3 by omega) with rfl|rfl|rfl|rfl<;>(unfold bB pW sI;simp)
theorem wA{k b:Int}(hk:pW 1000 k)(hb:pW 1000 b):pW 1000000 (k*b):=aD5 (by omega) (by omega) hk hb
theorem wrB{a x:Int}(ha:pW 1000 a)(hx:pW 1000000 x):wr (a+wr x)=a+x:=by
 unfold pW at ha hx
 rw [aO (n:=x) (by omega),aO (by omega)]
theorem aJR(m:Nat)(a0 a1 a2 a3 ac k b0 b1 b2 b3 bc:Int):V7 (m+6) ⟨[a0,a1,a2,a3],ac⟩ k ⟨[b0,b1,b2,b3],bc⟩=
  some ⟨[wr (a0+wr (k*b0)),wr (a1+wr (k*b1)),wr (a2+wr (k*b2)),wr (a3+wr (k*b3))],wr (ac+wr (k*bc))⟩:=by kernel_rfl
theorem aBs{n:Nat}(hn:5000≤n){a b:Affine}(ha:bB 1000 a)(hb:bB 1000 b){k:Int}(hk:pW 1000 k):V7 n a k b=some (gJ a k b):=by
 obtain⟨m,rfl⟩: ∃m,n=m+6:=⟨n-6,by omega⟩
 obtain⟨ac,a⟩:=a
 obtain⟨bc,b⟩:=b
 obtain⟨h1,h2,h3⟩:=ha
 obtain⟨g1,g2,g3⟩:=hb
 dsimp only at h1 h2 h3 g1 g2 g3
 obtain⟨a0,a1,a2,a3,rfl⟩:=aBp h1
 obtain⟨b0,b1,b2,b3,rfl⟩:=aBp g1
 rw [aJR,wrB (h3 a0 (by simp)) (wA hk (g3 b0 (by simp))),wrB (h3 a1 (by simp)) (wA hk (g3 b1 (by simp))),wrB (h3 a2 (by simp)) (wA hk (g3 b2 (by simp))),wrB (h3 a3 (by simp)) (wA hk (g3 b3 (by simp))),wrB h2 (wA hk g2)]
 rfl
def aJ4(a:Affine)(x:Int)(b:Affine)(y:Int):Affine:=⟨List.zipWith (fun p q=>x*p+y*q) a.coefs b.coefs,x*a.const+y*b.const⟩
theorem aJz(m:Nat)(a0 a1 a2 a3 ac x b0 b1 b2 b3 bc y:Int):b9 (m+6) ⟨[a0,a1,a2,a3],ac⟩ x ⟨[b0,b1,b2,b3],bc⟩ y=
  some ⟨[wr (wr (x*a0)+wr (y*b0)),wr (wr (x*a1)+wr (y*b1)),wr (wr (x*a2)+wr (y*b2)),wr (wr (x*a3)+wr (y*b3))],wr (wr (x*ac)+wr (y*bc))⟩:=by kernel_rfl
theorem wrC{a x:Int}(ha:pW 1000000 a)(hx:pW 1000000 x):wr (wr a+wr x)=a+x:=by
 unfold pW at ha hx
 rw [aO (n:=x) (by omega),aO (n:=a) (by omega),aO (by omega)]
theorem H9{n:Nat}(hn:5000≤n){a b:Affine}(ha:bB 1000 a)(hb:bB 1000 b){x y:Int}(hx:pW 1000 x)(hy:pW 1000 y):b9 n a x b y=some (aJ4 a x b y):=by
 obtain⟨m,rfl⟩: ∃m,n=m+6:=⟨n-6,by omega⟩
 obtain⟨ac,a⟩:=a
 obtain⟨bc,b⟩:=b
 obtain⟨h1,h2,h3⟩:=ha
 obtain⟨g1,g2,g3⟩:=hb
 dsimp only at h1 h2 h3 g1 g2 g3
 obtain⟨a0,a1,a2,a3,rfl⟩:=aBp h1
 obtain⟨b0,b1,b2,b3,rfl⟩:=aBp g1
 rw [aJz,wrC (wA hx (h3 a0 (by simp))) (wA hy (g3 b0 (by simp))),wrC (wA hx (h3 a1 (by simp))) (wA hy (g3 b1 (by simp))),wrC (wA hx (h3 a2 (by simp))) (wA hy (g3 b2 (by simp))),wrC (wA hx (h3 a3 (by simp))) (wA hy (g3 b3 (by simp))),wrC (wA hx h2) (wA hy g2)]
 rfl
theorem aAB(a b:Affine)(k:Int):aJ4 a 1 b k=gJ a k b:=by
 unfold aJ4 gJ
 simp only [Int.one_mul]
theorem aJ9(a b:Affine)(k:Int)(ha:a.coefs.length=4)(hb:b.coefs.length=4):(gJ a k b).coefs.length=4:=by
 unfold gJ
 rw [List.length_zipWith];omega
def aHZ(a:Affine)(k:Nat)(b:Affine):Affine:=gJ ⟨a.coefs.set k 0,a.const⟩ (a.coefs.getD k 0) b
theorem aDU{a:Affine}(h:bB 1000 a)(k:Nat):bB 1000 ⟨a.coefs.set k 0,a.const⟩:=⟨by dsimp only;rw [List.length_set];exact h.1,h.2.1,qZ h.2.2 ⟨by omega,by omega⟩⟩
theorem aEp{a:Affine}(h:bB 1000 a){k:Nat}(hk:k<4):a.coefs[k]? =some (a.coefs.getD k 0)∧pW 1000 (a.coefs.getD k 0):=by
 have hl:k<a.coefs.length:=by rw [h.1];exact hk
 have e:=List.getElem?_eq_getElem hl
 have e2:a.coefs.getD k 0=a.coefs[k]:=by rw [List.getD_eq_getElem?_getD,e];rfl
 rw [e2]
 exact⟨e,h.2.2 _ (List.getElem_mem hl)⟩
theorem aCV{n:Nat}(hn:5000≤n){a b:Affine}(ha:bB 1000 a)(hb:bB 1000 b){k:Nat}(hk:k<4):xK n a (k:Int) b=some (aHZ a k b):=by
 obtain⟨h1,h2⟩:=aEp ha hk
 have hl:k<a.coefs.length:=by rw [ha.1];exact hk
 unfold xK
 rw [T9 n (by have:=ha.1;omega)]
 refine Ev.eq (aB rfl (aB (aT h1) (aB (fE (by omega) _) (aB (aBs hn (aDU ha k) hb h2) (Ev.some rfl)))))
theorem aCt{n:Nat}(hn:5000≤n){a b:Affine}(ha:bB 1000 a)(hb:bB 1000 b){k:Nat}(hk:k<4):qF n a (k:Int) b=some (aHZ a k b):=by
 obtain⟨h1,h2⟩:=aEp ha hk
 have hl:k<a.coefs.length:=by rw [ha.1];exact hk
 unfold qF
 rw [eG _ (by have:=ha.1;omega)]
 refine Ev.eq (aB rfl (aB (aT h1) (aB (fE (by omega) _) (aB (aT h1) (aB (H9 hn (aDU ha k) hb ⟨by omega,by omega⟩ h2) (Ev.some ?_))))))
 rw [aAB];rfl
theorem aGr(n:Nat){k:Nat}(hk:k<4):rM n (k:Int) 1=some (sI k):=by
 rcases(show k=0∨k=1∨k=2∨k=3 by omega) with rfl|rfl|rfl|rfl<;>rfl
theorem aFX(n:Nat){k:Nat}(hk:k<4):kJ n (k:Int)=some (sI k):=by
 rcases(show k=0∨k=1∨k=2∨k=3 by omega) with rfl|rfl|rfl|rfl<;>rfl
def toB(k:Nat)(b:Affine):Affine:=gJ (sI k) (-1) b
theorem aFR{a b:Affine}(ha:a.coefs.length=4)(hb:b.coefs.length=4){k:Nat}(hk:k<4)(h0:b.coefs.getD k 0=0):aHZ a k (toB k b)=fB k b a:=by
 obtain⟨a,ac⟩:=a
 obtain⟨b,bc⟩:=b
 dsimp only at ha hb h0
 obtain⟨a0,a1,a2,a3,rfl⟩:=aBp ha
 obtain⟨b0,b1,b2,b3,rfl⟩:=aBp hb
 rcases(show k=0∨k=1∨k=2∨k=3 by omega) with rfl|rfl|rfl|rfl<;>
  (simp only [List.getD_cons_zero,List.getD_cons_succ] at h0;subst h0;simp [aHZ,toB,fB,gJ,sI,Int.mul_neg,Int.neg_mul])
def noP:Prog×Bool:=(⟨[],[]⟩,false)
def zC(p:Prog)(part loop:Int)(g f:Affine→Affine):Prog×Bool:=
 match ix p.parts part with
 |some P=>match ix P.nest loop with
  |some l=>R7 ⟨p.arrays,p.parts.set part.toNat (qJ loop.toNat g f P l)⟩
  |none=>noP
 |none=>noP
theorem L9{p:Prog}{part loop:Int}(h:jN p part loop=true):cF p=true∧ ∃(i k:Nat) (P:Part) (l:Loop),part=i∧loop=k∧p.parts[i]? =some P∧P.nest[k]? =some l∧i<p.parts.length∧k<P.nest.length∧cA p.arrays P=true∧k<4:=by
 unfold jN at h
 rw [Bool.and_eq_true] at h
 obtain⟨hv,h⟩:=h
 refine⟨hv,?_⟩
 cases hx:ix p.parts part with
 |none=>rw [hx] at h;cases h
 |some P=>
  rw [hx] at h
  obtain⟨i,rfl,hi,hP⟩:=aJM hx
  obtain⟨h1,h2⟩:=of_decide_eq_true h
  obtain⟨l,hl,hl2⟩:=jC h1 h2
  have hok:=(jV hv).2.2.2.1 P (List.mem_of_getElem? hP)
  have:=(rC hok).1
  exact⟨i,loop.toNat,P,l,rfl,by omega,hP,hl2,hi,by omega,hok,by omega⟩
theorem aAe{list:List Arr}{P:Part}(hP:cA list P=true){k:Nat}{l:Loop}(hl:P.nest[k]? =some l){g f:Affine→Affine}(hg: ∀x,bM x=true→BA 4 (g x))(hf: ∀x,bM x=true→BA 4 (f x)):BPt 4 (qJ k g f P l):=by
 obtain⟨h1,h2⟩:=rC hP
 obtain⟨_,h4,h5,_⟩:=gQ hP
 have hk:=(List.getElem?_eq_some_iff.1 hl).1
 refine⟨⟨by simp only [qJ,List.length_append,List.length_cons,List.length_map,List.length_take,List.length_drop];omega,fun y hy=> ?_⟩,by simp only [qJ,List.length_map];exact h4.2,fun s hs=> ?_⟩
 ·rcases List.mem_append.1 hy with hy|hy
  ·exact((aJ7 hP).1.2 y (List.mem_of_mem_take hy))
  ·rcases List.mem_cons.1 hy with rfl|hy
   ·exact aEv hg (h2 l (List.mem_of_getElem? hl))
   ·obtain⟨z,hz,rfl⟩:=List.mem_map.1 hy
    exact aEv hf (h2 z (List.mem_of_mem_drop hz))
 ·obtain⟨z,hz,rfl⟩:=List.mem_map.1 hs
  exact aJ6 hf (h5 z hz)
theorem aHa{p:Prog}(hp:BG 1000 p)(i:Nat){y:Part}(hy:BPt 4 y):BG 1000 ⟨p.arrays,p.parts.set i y⟩:=⟨hp.1,by dsimp only;rw [List.length_set];exact hp.2.1,qZ hp.2.2 (hy.mono (by omega))⟩
theorem F0{k:Int}{b:Affine}(hb:b.coefs.length=4): ∀x,bM x=true→BA 4 (gJ x k b):=fun x hx=>by
 have:=aJ9 x b k (jA hx).1 hb
 unfold BA;omega
theorem aGA{k:Nat}{b:Affine}(hb:b.coefs.length=4): ∀x,bM x=true→BA 4 (fB k b x):=fun x hx=>F0 hb x hx
theorem aFO{k:Nat}(hk:k<4){b:Affine}(hb:bB 6 b):bB 1000 (toB k b):=by
 obtain⟨b,bc⟩:=b
 obtain⟨h1,h2,h3⟩:=hb
 dsimp only at h1 h2 h3
 obtain⟨b0,b1,b2,b3,rfl⟩:=aBp h1
 have c0:=h3 b0 (by simp)
 have c1:=h3 b1 (by simp)
 have c2:=h3 b2 (by simp)
 have c3:=h3 b3 (by simp)
 unfold pW at h2 c0 c1 c2 c3
 rcases(show k=0∨k=1∨k=2∨k=3 by omega) with rfl|rfl|rfl|rfl<;>
  (refine⟨rfl,?_,fun c hc=> ?_⟩<;>unfold pW<;>simp [toB,sI,gJ] at* <;>omega)
theorem aIi{k:Nat}(hk:k<4){b:Affine}(hb:bB 6 b)(h0:b.coefs.getD k 0=0): ∀n,5000≤n→ ∀x,bM x=true→gN n x 1 (k:Int) (toB k b)=some (fB k b x):=fun n hn x hx=>by
 unfold gN
 rw [aCt hn ((zW hx).mono (by omega)) (aFO hk hb) hk,aFR (zW hx).1 hb.1 hk h0];rfl
theorem aFP{α:Type}{l r:List α}{k:Nat}{x y:α}(h:l[k]? =some x):(l.take (k+1)++r).set k y=l.take k++y::r:=by
 have hk:=(List.getElem?_eq_some_iff.1 h).1
 rw [List.take_add_one,h,List.append_assoc,List.set_append_right _ _ (by simp;omega),List.length_take,Nat.min_eq_left (by omega),Nat.sub_self];rfl
theorem aIe{n:Nat}(hn:6000≤n){list:List Arr}{P:Part}(hP:cA list P=true){k:Nat}{l:Loop}(hl:P.nest[k]? =some l)(hk:k<4){b:Affine}(hb:bB 6 b)(h0:b.coefs.getD k 0=0):
  sZ n P (k:Int) b=some (qJ k (fun x=>gJ x 1 b) (fB k b) P l):=by
 obtain⟨h1,h2⟩:=rC hP
 obtain⟨_,h4,h5,_⟩:=gQ hP
 have hkl:=(List.getElem?_eq_some_iff.1 hl).1
 have hlp:=h2 l (List.mem_of_getElem? hl)
 have hc: ∀x,bM x=true→b9 n x 1 b 1=some (gJ x 1 b):=fun x hx=>by
  rw [H9 (by omega) ((zW hx).mono (by omega)) (hb.mono (by omega)) ⟨by omega,by omega⟩ ⟨by omega,by omega⟩,aAB]
 unfold sZ
 simp only [aT hl,Option.bind_some]
 refine Ev.eq (aB (aFX n hk) (aB (H9 (by omega) ((aHD hk).mono (by omega)) (hb.mono (by omega)) ⟨by omega,by omega⟩ ⟨by omega,by omega⟩) ?_))
 rw [aAB]
 refine aB (aCQ hn (by omega) h1 h2 h4.2 h5 (aIi hk hb h0)) ?_
 refine m9 (n:=n) (l:=l.lo) (f:=fun x=>b9 n x 1 b 1) (K:=fun x4=>aM (fun again15 ((x12,x13):(List Affine)×Int)=>
    bif decide (x13<(l.hi.length:Int)) then(
     Option.bind (ix l.hi x13) fun x16=>
     Option.bind (b9 n x16 1 b 1) fun x17=>
     Option.bind (app x12 [x17]) fun x18=>
     again15 (x18,wr (x13+1))
    ) else(
     Option.bind (ix (P.nest.take (k+1)++(P.nest.drop (k+1)).map (dJ (fB k b))) (k:Int)) fun x19=>
     Option.bind (dC (P.nest.take (k+1)++(P.nest.drop (k+1)).map (dJ (fB k b))) (k:Int) (⟨x4,x12⟩:Loop)) fun x20=>
     some (⟨x20,P.body.map (tR (fB k b))⟩:Part)
    )
   ) n ([],0)) (fun x hx=>hc x (hlp.1.2 x hx)) (by have:=hlp.1.1;omega) (by omega) ?_
 refine m9 (n:=n) (l:=l.hi) (f:=fun x=>b9 n x 1 b 1) (g:=fun x=>gJ x 1 b) (K:=fun x12=>Option.bind (ix (P.nest.take (k+1)++(P.nest.drop (k+1)).map (dJ (fB k b))) (k:Int)) fun x19=>Option.bind (dC (P.nest.take (k+1)++(P.nest.drop (k+1)).map (dJ (fB k b))) (k:Int) (⟨l.lo.map (fun x=>gJ x 1 b),x12⟩:Loop)) fun x20=>some (⟨x20,P.body.map (tR (fB k b))⟩:Part)) (fun x hx=>hc x (hlp.2.2 x hx)) (by have:=hlp.2.1;omega) (by omega) ?_
 have hx:(P.nest.take (k+1)++(P.nest.drop (k+1)).map (dJ (fB k b)))[k]? =some l:=by
  rw [List.getElem?_append_left (by simp;omega),List.getElem?_take,if_pos (by omega)];exact hl
 refine aB (aT hx) (aB (fE (by simp;omega) _) (Ev.some ?_))
 rw [Int.toNat_natCast,aFP hl];rfl
def sA(s:Int):Affine:=⟨[0,0,0,0],s⟩
theorem aDV{s:Int}(h: -6≤s∧s≤6):bB 6 (sA s):=by unfold sA bB pW;simp;omega
theorem aKC(s:Int){k:Nat}(hk:k<4):(sA s).coefs.getD k 0=0:=by
 rcases(show k=0∨k=1∨k=2∨k=3 by omega) with rfl|rfl|rfl|rfl<;>rfl
def pO(p:Prog)(part loop by_:Int):Prog×Bool:=
 if jN p part loop=true∧(-6≤by_∧by_≤6) then zC p part loop (fun x=>gJ x 1 (sA by_)) (fB loop.toNat (sA by_)) else noP
theorem aEZ(n:Nat)(s:Int):tV n s=some (decide (-6≤s∧s≤6)):=by
 unfold tV;rw [dE];rfl
theorem aBu{p:Prog}{part loop:Int}(h:loop<0):jN p part loop=false:=by
 cases hc:jN p part loop with
 |false=>rfl
 |true=>obtain⟨_,i,k,P,l,_,hk,_⟩:=L9 hc;omega
theorem uQ{p:Prog}{i k:Nat}{P:Part}{l:Loop}(hP:p.parts[i]? =some P)(hl:P.nest[k]? =some l)(g f:Affine→Affine):zC p (i:Int) (k:Int) g f=R7 ⟨p.arrays,p.parts.set i (qJ k g f P l)⟩:=by
 unfold zC
 rw [aT hP]
 dsimp only
 rw [aT hl];rfl
theorem aCv{n:Nat}(hn:7000≤n){p:Prog}(hp:BG 1000 p)(part loop by_:Int):mJ n p part loop by_=some (pO p part loop by_):=by
 unfold mJ pO
 refine Ev.eq (aB (aCL (by omega) hp) (Ev.jn (fun z=>z= !(jN p part loop&&decide (-6≤by_∧by_≤6))) (fun j hj=> ?_) (fun z hz=> ?_)))
 ·refine aB (aJS hn hp part loop) (Ev.cond (fun h=>hj _ ?_) (fun h=>aB (pB n by_ 6 (by omega)) (hj _ ?_)))
  ·rw [show jN p part loop=false by simpa using h];rfl
  ·rw [show jN p part loop=true by simpa using h];rfl
 ·subst hz
  by_cases hc:jN p part loop=true∧(-6≤by_∧by_≤6)
  ·rw [if_pos hc,hc.1,decide_eq_true hc.2]
   refine bV ?_
   obtain⟨hv,i,k,P,l,rfl,rfl,hP,hl,hi,hkl,hok,hk⟩:=L9 hc.1
   refine aB (aT hP) (aB (gS n by_) (aB (aIe (by omega) hok hl hk (aDV hc.2) (aKC _ hk)) (aB (aHz hn hp hi ((aAe hok hl (F0 (aDV hc.2).1) (aGA (aDV hc.2).1)).mono (by omega))) (Ev.some ?_))))
   rw [uQ hP hl];rfl
  ·rw [if_neg hc,show(jN p part loop&&decide (-6≤by_∧by_≤6))=false by
    cases h1:jN p part loop with
    |false=>rfl
    |true=>exact decide_eq_false (fun h2=>hc ⟨h1,h2⟩)]
   exact b6 (Ev.some rfl)
theorem aEJ{n:Nat}(hn:5000≤n){s:Int}(hs: -6≤s∧s≤6): ∀x,bM x=true→gY n x s=some (gJ x 1 (sA s)):=fun x hx=>by
 unfold gY
 have hc:oP n 1=some ⟨[0,0,0,0],1⟩:=rfl
 rw [hc]
 refine Ev.eq (aB rfl (aB (aBs hn ((zW hx).mono (by omega)) (b:=⟨[0,0,0,0],1⟩) (by unfold bB pW;simp) ⟨by omega,by omega⟩) (Ev.some ?_)))
 unfold gJ sA
 obtain⟨a0,a1,a2,a3,e⟩:=aBp (jA hx).1
 rw [e]
 simp
theorem aEI{n:Nat}(hn:5000≤n){k:Nat}(hk:k<4){s:Int}(hs: -6≤s∧s≤6): ∀x,bM x=true→fQ n x (k:Int) (⟨(sI k).coefs,wr (0-s)⟩:Affine)=some (fB k (sA s) x):=fun x hx=>by
 have e:(⟨(sI k).coefs,wr (0-s)⟩:Affine)=toB k (sA s):=by
  rw [aO (by omega)]
  rcases(show k=0∨k=1∨k=2∨k=3 by omega) with rfl|rfl|rfl|rfl<;>(unfold sI toB sA gJ sI;simp)
 unfold fQ
 rw [e,aCV hn ((zW hx).mono (by omega)) (aFO hk (aDV hs)) hk,aFR (zW hx).1 rfl hk (aKC _ hk)];rfl
theorem aFe{n:Nat}(hn:7000≤n){p:Prog}(hp:BG 1000 p)(part:Int):Ev (nB n p part (-1)) (fun r=>r.2=false→r=noP):=by
 unfold nB
 refine Ev.jn (fun z=>z=false→cF p=true∧(0≤part∧part<(p.parts.length:Int))) (fun j hj=> ?_) (fun z hz=> ?_)
 ·refine aB (dZ hn hp.sm) (Ev.cond (fun h=>hj _ (fun h=>by cases h)) (fun h=> ?_))
  refine aB (zI n hp.2.1 part) (Ev.cond (fun h=>hj _ (fun h=>by cases h)) (fun h2=>fU (fun h=>(h rfl).elim) (fun _=>hj _ (fun _=>⟨by simpa using h,by simpa using h2⟩))))
 ·refine Ev.cond (fun _=>Ev.some (fun _=>rfl)) (fun h=> ?_)
  obtain⟨hv,h1,h2⟩:=hz h
  obtain⟨x,hx,hx2⟩:=jC h1 h2
  exact aB (aCC (by omega) hv) (aB hx (Ev.some (fun h=>by cases h)))
theorem aCW{n:Nat}(hn:7000≤n){p:Prog}(hp:BG 1000 p)(part loop by_:Int):mQ n p part loop by_=some (pO p part loop by_):=by
 unfold mQ pO
 by_cases hneg:loop= -1
 ·subst hneg
  rw [if_neg (fun h=>by rw [aBu (by omega)] at h;cases h.1)]
  refine Ev.eq (aL (aFe hn hp part) (fun x1 h1=>Ev.cond (fun _=>Ev.jn (fun z=>z=true) (fun j hj=>aH (fun _=>hj _ rfl) (fun h=>absurd (show(-1:Int)<0 by omega) h)) (fun z hz=>by rw [hz];exact b6 (Ev.some rfl))) (fun _=>Ev.some rfl)))
 refine Ev.eq (aB (aHb hn hp part loop hneg) ?_)
 by_cases hb:jN p part loop=true
 ·rw [if_pos hb]
  refine b6 (Ev.jn (fun z=>z= !decide (-6≤by_∧by_≤6)) (fun j hj=> ?_) (fun z hz=> ?_))
  ·refine aH (fun h=> ?_) (fun _=>aB (aEZ n by_) (hj _ rfl))
   rw [aBu h] at hb;cases hb
  ·subst hz
   by_cases hs: -6≤by_∧by_≤6
   ·rw [if_pos ⟨hb,hs⟩,decide_eq_true hs]
    refine bV ?_
    obtain⟨hv,i,k,P,l,rfl,rfl,hP,hl,hi,hkl,hok,hk⟩:=L9 hb
    obtain⟨h1,h2⟩:=rC hok
    obtain⟨_,h4,h5,_⟩:=gQ hok
    refine aB (aT hP) (aB (aT hl) (aB (u9 (by omega) (h2 l (List.mem_of_getElem? hl)) (aEJ (by omega) hs)) (aB (fE (by omega) _) (aB (fE (by dsimp only;omega) _) (aB (aGr n hk) ?_)))))
    rw [aO (n:=(k:Int)+1) (by omega)]
    have hch:=R2 (n:=n) (by omega) (nest:=P.nest.set k (dJ (fun x=>gJ x 1 (sA by_)) l)) (body:=P.body) (s:=k+1) (by simp;omega) (by simp;omega) (fun y hy=>by
     rw [List.drop_set_of_lt (by omega)] at hy
     exact h2 y (List.mem_of_mem_drop hy)) h4.2 h5 (F:=fun q0=>fQ n q0 (k:Int) (⟨(sI k).coefs,wr (0-by_)⟩:Affine)) (aEI (by omega) hk hs)
    rw [Int.toNat_natCast,Int.toNat_natCast]
    refine aB hch (aB (fE (by simp;omega) _) ?_)
    rw [Int.toNat_natCast,List.set_set]
    have hm:(⟨(P.nest.set k (dJ (fun x=>gJ x 1 (sA by_)) l)).take (k+1)++((P.nest.set k (dJ (fun x=>gJ x 1 (sA by_)) l)).drop (k+1)).map (dJ (fB k (sA by_))),P.body.map (tR (fB k (sA by_)))⟩:Part)=qJ k (fun x=>gJ x 1 (sA by_)) (fB k (sA by_)) P l:=by
     rw [List.drop_set_of_lt (by omega),List.take_add_one,List.getElem?_set_self (by omega),List.take_set_of_le (Nat.le_refl k),List.append_assoc];rfl
    rw [hm]
    refine aB (aBA hn (aHa hp i (aAe hok hl (F0 rfl) (aGA rfl)))) (Ev.some ?_)
    rw [uQ hP hl]
   ·rw [if_neg (fun h=>hs h.2),decide_eq_false hs]
    exact b6 (Ev.some rfl)
 ·rw [if_neg hb,if_neg (fun h=>hb h.1)]
  exact bV (Ev.some rfl)
theorem aIt{q:Prog}(h:BG 1000 q):BG 1000 (R7 q).1:=by
 unfold R7
 split
 ·exact h
 ·exact⟨⟨by simp,fun x hx=>by cases hx⟩,by simp,fun x hx=>by cases hx⟩
theorem aJB:BG 1000 noP.1:=⟨⟨by simp [noP],fun x hx=>by cases hx⟩,by simp [noP],fun x hx=>by cases hx⟩
theorem aES{p:Prog}(hp:BG 1000 p){part loop:Int}(hc:jN p part loop=true){g f:Affine→Affine}(hg: ∀x,bM x=true→BA 4 (g x))(hf: ∀x,bM x=true→BA 4 (f x)):BG 1000 (zC p part loop g f).1:=by
 obtain⟨hv,i,k,P,l,rfl,rfl,hP,hl,hi,hkl,hok,hk⟩:=L9 hc
 rw [uQ hP hl]
 exact aIt (aHa hp i (aAe hok hl hg hf))
theorem aIH(code:List UInt8):Ev (Option.bind (nQ N code) fun x1=>Option.bind (tA N x1) fun x2=>some (x2.1,x2.2.1,x2.2.2.1,x2.2.2.2.1)) (fun x=>BG 1000 x.1):=by
 have hN:N=100000:=rfl
 refine aL (aH9 code) (fun x1 r1=>aL (P:=fun x=>BG 1000 x.1) ?_ (fun x2 h2=>Ev.some h2))
 unfold tA
 refine aL (aEU r1 (by omega)) (fun x1 ⟨h1,r1⟩=>aL (aId (by omega) r1 (by omega) h1) (fun x2 ⟨h2,r2⟩=>aL (jB N r2 (by omega) (by simp)) (fun x3 ⟨_,r3⟩=>aL (jB N r3 (by omega) (by simp)) (fun x4 ⟨_,r4⟩=>aL (jB N r4 (by omega) (by simp)) (fun x5 ⟨_,r5⟩=>Ev.some (h2.mono (show 30≤1000 by omega)))))))
theorem aEH{p:Prog}(hp:BG 1000 p)(part loop by_:Int):BG 1000 (pO p part loop by_).1:=by
 unfold pO
 split
 ·rename_i hc
  exact aES hp hc.1 (F0 rfl) (aGA rfl)
 ·exact aJB
theorem aJV{B:Option Bool}{a b:Int}(h:b≤1048576→Ev B (fun r=>r=true)):Ev (jn (fun(x2:Bool)=>bif x2 then(some true) else B) (fun j1=>bif decide ((1048576:Int)<a) then(j1 true) else(j1 (decide ((1048576:Int)<b))))) (fun r=>r=true):=by
 exact Ev.jn (fun z=>z=false→b≤1048576) (fun j hj=>aH (fun _=>hj _ (fun h=>by cases h)) (fun _=>hj _ (fun h=>by have:=of_decide_eq_false h;omega))) (fun z hz=>Ev.cond (fun _=>Ev.some rfl) (fun h0=>h (hz h0)))
theorem aJU{I S:Option (Prog×Bool)}{REST:Prog×Bool→Prog×Bool→Option Bool}{R:Prog×Bool}(hR:BG 1000 R.1)(h1:I=some R)(h2:S=some R)(hb:R.2=true→Ev (REST R R) (fun r=>r=true)):
  Ev (Option.bind I fun x4=>Option.bind S fun x5=>jn (fun(x8:Bool)=>
    bif x8 then(
     jn (fun(x11:Bool)=>
      some x11
     ) (fun j9=>
      bif(x4.2==x5.2) then(
       Option.bind (eD N x4.1 x5.1) fun x10=>
       j9 x10
      ) else(
       j9 false
      )
     )
    ) else(
     REST x4 x5
    )
   ) (fun j6=>
    bif !(x4.2==x5.2) then(
     j6 true
    ) else(
     Option.bind (eD N x4.1 x5.1) fun x7=>
     bif !x7 then(
      j6 true
     ) else(
      j6 (!x4.2)
     )
    )
   )) (fun r=>r=true):=by
 have hN:N=100000:=rfl
 have hs:=aF7 (n:=N) (by omega) hR
 have he:(R.2==R.2)=true:=by cases R.2<;>rfl
 refine aB h1 (aB h2 (Ev.jn (fun z=>z= !R.2) (fun j hj=> ?_) (fun z hz=> ?_)))
 ·rw [he]
  exact bV (aB hs (bV (hj _ rfl)))
 ·subst hz
  cases hr:R.2 with
  |false=>exact b6 (Ev.jn (fun z=>z=true) (fun j hj=>b6 (aB hs (hj _ rfl))) (fun z hz=>Ev.some hz))
  |true=>exact bV (hb hr)
theorem nR{α β:Type}{f g:α→β}: ∀{l:List α},(∀x∈l,f x=g x)→l.map f=l.map g
 | [],_=>rfl
 |x::l,h=>by rw [List.map_cons,List.map_cons,h x List.mem_cons_self,nR (fun y hy=>h y (List.mem_cons_of_mem _ hy))]
theorem aJX{p q:Prog}(h:R7 p=(q,true)):q=p∧cF p=true:=by
 unfold R7 at h
 split at h
 ·rename_i hv;cases h;exact⟨rfl,hv⟩
 ·cases h
theorem aFU{p q:Prog}{part loop b:Int}(h:pO p part loop b=(q,true)):jN p part loop=true∧(-6≤b∧b≤6)∧zC p part loop (fun x=>gJ x 1 (sA b)) (fB loop.toNat (sA b))=(q,true):=by
 unfold pO at h
 split at h
 ·rename_i hc;exact⟨hc.1,hc.2,h⟩
 ·cases h
theorem aAw(m:Int): ∀(a b p:List Int),a.length=b.length→vG (List.zipWith (fun x y=>x+m*y) a b) p=vG a p+m*vG b p
 | [],[],p,_=>by simp [vG]
 |x::a,y::b,[],_=>by simp [vG]
 |x::a,y::b,z::p,h=>by
  simp only [List.zipWith_cons_cons,vG]
  rw [aAw m a b p (by simpa using h),Int.add_mul,Int.mul_add,Int.mul_assoc]
  omega
theorem aAx: ∀(cs p:List Int) (k:Nat) (v:Int),k<p.length→vG cs (p.set k v)=vG cs p+cs.getD k 0*(v-p.getD k 0)
 | [],p,k,v,_=>by simp [vG]
 |c::cs,x::p,0,v,_=>by
  simp only [List.set_cons_zero,vG,List.getD_cons_zero]
  rw [Int.mul_sub];omega
 |c::cs,x::p,k+1,v,h=>by
  simp only [List.set_cons_succ,vG,List.getD_cons_succ]
  rw [aAx cs p k v (by simpa using h)];omega
theorem aBI: ∀(cs p:List Int) (v:Int),cs.getD p.length 0=0→vG cs (p++[v])=vG cs p
 | [],p,v,_=>by simp [vG]
 |c::cs,[],v,h=>by
  simp only [List.length_nil,List.getD_cons_zero] at h
  subst h
  cases cs<;>simp [vG]
 |c::cs,x::p,v,h=>by
  simp only [List.cons_append,vG]
  rw [aBI cs p v (by simpa using h)]
def Z0(k:Nat)(b:Affine)(p:List Int):List Int:=p.set k (p.getD k 0+bZ b p)
theorem aIu{x b:Affine}(h:x.coefs.length=b.coefs.length)(p:List Int):bZ (gJ x 1 b) p=bZ x p+bZ b p:=by
 unfold bZ gJ
 rw [aAw 1 _ _ _ h]
 dsimp only
 omega
theorem aEl{x b:Affine}(h:x.coefs.length=b.coefs.length){k:Nat}(h0:b.coefs.getD k 0=0){p:List Int}(hk:k<p.length):bZ (fB k b x) (Z0 k b p)=bZ x p:=by
 unfold fB bZ gJ Z0
 rw [aAw _ _ _ _ h]
 dsimp only
 rw [aAx _ _ _ _ hk,aAx _ _ _ _ hk,h0,show p.getD k 0+bZ b p-p.getD k 0=bZ b p by omega]
 unfold bZ
 rw [Int.zero_mul,Int.mul_add,Int.add_zero,Int.neg_mul,Int.neg_mul]
 omega
def low(k:Nat)(b:Affine):Prop:= ∀j,k≤j→b.coefs.getD j 0=0
theorem W5{b:Affine}{k:Nat}(hz:low k b){p:List Int}(hk:k≤p.length)(v:Int):bZ b (p++[v])=bZ b p:=by
 unfold bZ
 rw [aBI _ _ _ (hz _ hk)]
theorem aE6{α:Type}{l:List α}{v d:α}:(l++[v]).getD l.length d=v:=by
 rw [List.getD_eq_getElem?_getD,List.getElem?_append_right (Nat.le_refl _),Nat.sub_self];rfl
theorem aE5{α:Type}{l:List α}{k:Nat}{v d:α}(h:k<l.length):(l++[v]).getD k d=l.getD k d:=by
 rw [List.getD_eq_getElem?_getD,List.getElem?_append_left h,List.getD_eq_getElem?_getD]
theorem aHY{b:Affine}{k:Nat}(hz:low k b){p:List Int}(hk:k<p.length)(v:Int):Z0 k b (p++[v])=Z0 k b p++[v]:=by
 unfold Z0
 rw [W5 hz (by omega),aE5 hk,List.set_append_left _ _ hk]
theorem aJx{b:Affine}{k:Nat}(hz:low k b){p:List Int}(hk:p.length=k)(v:Int):Z0 k b (p++[v])=p++[v+bZ b p]:=by
 unfold Z0
 rw [W5 hz (by omega),←hk,aE6,List.set_append_right _ _ (Nat.le_refl _),Nat.sub_self];rfl
theorem vF(e:Int): ∀(l:List Int) (a:Int),(l.map (fun x=>x+e)).foldl max (a+e)=l.foldl max a+e
 | [],a=>rfl
 |x::l,a=>by
  simp only [List.map_cons,List.foldl_cons]
  rw [show max (a+e) (x+e)=max a x+e by omega,vF e l]
theorem vE(e:Int): ∀(l:List Int) (a:Int),(l.map (fun x=>x+e)).foldl min (a+e)=l.foldl min a+e
 | [],a=>rfl
 |x::l,a=>by
  simp only [List.map_cons,List.foldl_cons]
  rw [show min (a+e) (x+e)=min a x+e by omega,vE e l]
theorem aJE(e:Int){l:List Int}(h:l≠[]):mx (l.map (fun x=>x+e))=mx l+e:=by
 cases l with
 |nil=>exact absurd rfl h
 |cons a l=>exact vF e l a
theorem aJF(e:Int){l:List Int}(h:l≠[]):mn (l.map (fun x=>x+e))=mn l+e:=by
 cases l with
 |nil=>exact absurd rfl h
 |cons a l=>exact vE e l a
theorem aH6(a b e:Int):lJ (a+e) (b+e)=(lJ a b).map (fun v=>v+e):=by
 unfold lJ
 rw [show b+e-(a+e)=b-a by omega,List.map_map]
 refine List.map_congr_left (fun i _=> ?_)
 show a+e+(i:Int)=a+(i:Int)+e
 omega
def lpN(l:Loop):Prop:=l.lo≠[]∧l.hi≠[]
theorem aIW{b:Affine}(hb:b.coefs.length=4){k:Nat}(h0:b.coefs.getD k 0=0){p:List Int}(hk:k<p.length){l:List Affine}(hl: ∀x∈l,bM x=true):R8 (l.map (fB k b)) (Z0 k b p)=R8 l p:=by
 unfold R8
 rw [List.map_map]
 exact nR (fun x hx=>aEl (by rw [(jA (hl x hx)).1,hb]) h0 hk)
theorem aIV{b:Affine}(hb:b.coefs.length=4)(p:List Int){l:List Affine}(hl: ∀x∈l,bM x=true):R8 (l.map (fun x=>gJ x 1 b)) p=(R8 l p).map (fun y=>y+bZ b p):=by
 unfold R8
 rw [List.map_map,List.map_map]
 exact nR (fun x hx=>aIu (by rw [(jA (hl x hx)).1,hb]) p)
theorem uS{α β:Type}{f g:α→List β}{l:List α}(h: ∀x∈l,f x=g x):l.flatMap f=l.flatMap g:=by
 rw [List.flatMap_def,List.flatMap_def,nR h]
theorem aIP{b:Affine}(hb:b.coefs.length=4){k:Nat}(hz:low k b): ∀(ls:List Loop) (p:List Int),(∀l∈ls,zE l)→k<p.length→pts (ls.map (dJ (fB k b))) (Z0 k b p)=(pts ls p).map (Z0 k b)
 | [],p,_,_=>rfl
 |l::ls,p,h,hk=>by
  have hl:=h l List.mem_cons_self
  have e1:jJ (dJ (fB k b) l) (Z0 k b p)=jJ l p:=by unfold jJ dJ;rw [aIW hb (hz k (Nat.le_refl _)) hk hl.1.2]
  have e2:mW (dJ (fB k b) l) (Z0 k b p)=mW l p:=by unfold mW dJ;rw [aIW hb (hz k (Nat.le_refl _)) hk hl.2.2]
  simp only [List.map_cons,pts]
  rw [e1,e2,List.map_flatMap]
  refine uS (fun v _=> ?_)
  rw [←aHY hz hk]
  exact aIP hb hz ls (p++[v]) (fun x hx=>h x (List.mem_cons_of_mem _ hx)) (by simp;omega)
theorem aKE{b:Affine}(hb:b.coefs.length=4){k:Nat}(hz:low k b){l:Loop}(hl:zE l)(hn:lpN l){ls:List Loop}(h: ∀l∈ls,zE l){p:List Int}(hk:p.length=k):
  pts (dJ (fun x=>gJ x 1 b) l::ls.map (dJ (fB k b))) p=(pts (l::ls) p).map (Z0 k b):=by
 have e1:jJ (dJ (fun x=>gJ x 1 b) l) p=jJ l p+bZ b p:=by
  unfold jJ dJ
  rw [aIV hb p hl.1.2,aJE _ (by unfold R8;simpa using hn.1)]
 have e2:mW (dJ (fun x=>gJ x 1 b) l) p=mW l p+bZ b p:=by
  unfold mW dJ
  rw [aIV hb p hl.2.2,aJF _ (by unfold R8;simpa using hn.2)]
 simp only [pts]
 rw [e1,e2,aH6,List.flatMap_map,List.map_flatMap]
 refine uS (fun v _=> ?_)
 rw [←aJx hz hk]
 exact aIP hb hz ls (p++[v]) h (by simp;omega)
theorem aIO{b:Affine}(hb:b.coefs.length=4){k:Nat}(hz:low k b){l:Loop}(hl:zE l)(hn:lpN l){ls:List Loop}(h: ∀l∈ls,zE l): ∀(os:List Loop) (p:List Int),p.length+os.length=k→
  pts (os++dJ (fun x=>gJ x 1 b) l::ls.map (dJ (fB k b))) p=(pts (os++l::ls) p).map (Z0 k b)
 | [],p,hk=>aKE hb hz hl hn h (by simpa using hk)
 |o::os,p,hk=>by
  simp only [List.cons_append,pts]
  rw [List.map_flatMap]
  refine uS (fun v _=> ?_)
  exact aIO hb hz hl hn h os (p++[v]) (by simp at hk ⊢; omega)
theorem aF8{list:List Arr}{x:Part}(h:cA list x=true): ∀l∈x.nest,lpN l:=fun l hl=>by
 obtain⟨i,hi⟩:=List.mem_iff_getElem?.1 hl
 have:=(S9 (gQ h).1).1.2 i l hi
 have h1:=(pN this.1).1
 have h2:=(pN this.2).1
 exact⟨fun e=>by rw [e] at h1;simp at h1,fun e=>by rw [e] at h2;simp at h2⟩
theorem A2{list:List Arr}{x:Part}(h:cA list x=true):dY x=pts x.nest []:=(S9 (gQ h).1).2.2.2.1
theorem aEQ{list:List Arr}{P:Part}(hP:cA list P=true){k:Nat}{l:Loop}(hl:P.nest[k]? =some l){b:Affine}(hb:b.coefs.length=4)(hz:low k b)(hq:cA list (qJ k (fun x=>gJ x 1 b) (fB k b) P l)=true):
  dY (qJ k (fun x=>gJ x 1 b) (fB k b) P l)=(dY P).map (Z0 k b):=by
 obtain⟨h1,h2⟩:=rC hP
 have hk:=(List.getElem?_eq_some_iff.1 hl).1
 rw [A2 hq,A2 hP]
 have e:P.nest=P.nest.take k++l::P.nest.drop (k+1):=by rw [←iI hl,List.take_append_drop]
 have:=aIO hb hz (h2 l (List.mem_of_getElem? hl)) (aF8 hP l (List.mem_of_getElem? hl)) (ls:=P.nest.drop (k+1)) (fun y hy=>h2 y (List.mem_of_mem_drop hy)) (P.nest.take k) [] (by simp;omega)
 rw [←e] at this
 exact this
def sig(i k:Nat)(b:Affine)(x:Inst):Inst:=if x.part=(i:Int) then⟨x.part,x.stmt,Z0 k b x.point⟩ else x
theorem insts_set{ps:List Part}{i:Nat}{P P':Part}(hP:ps[i]? =some P){σ:Inst→Inst}(h1:instP i P'=(instP i P).map σ)(h2: ∀x,x.part≠(i:Int)→σ x=x):insts (ps.set i P')=(insts ps).map σ:=by
 unfold insts
 rw [List.map_flatMap]
 have e:(ps.set i P').zipIdx=ps.zipIdx.map (fun y=>if y.2=i then(P',i) else y):=by
  refine List.ext_getElem? (fun j=> ?_)
  rw [List.getElem?_zipIdx,List.getElem?_map,List.getElem?_zipIdx]
  by_cases hj:i=j
  ·subst hj
   rw [List.getElem?_set_self (List.getElem?_eq_some_iff.1 hP).1,hP]
   simp
  ·rw [List.getElem?_set_ne hj]
   cases ps[j]? with
   |none=>rfl
   |some y=>
    have: ¬j=i:=fun h=>hj h.symm
    simp [this]
 rw [e,List.flatMap_map]
 refine uS (fun y hy=> ?_)
 obtain⟨j,hj⟩:=List.mem_iff_getElem?.1 hy
 rw [List.getElem?_zipIdx] at hj
 cases hx:ps[j]? with
 |none=>rw [hx] at hj;cases hj
 |some x=>
  rw [hx] at hj
  simp at hj
  subst hj
  by_cases hji:j=i
  ·subst hji
   rw [hP] at hx
   cases hx
   simp [h1]
  ·simp only [if_neg hji]
   refine(aAg (fun z hz=>h2 z ?_)).symm
   unfold instP at hz
   obtain⟨q,_,hz⟩:=List.mem_flatMap.1 hz
   obtain⟨t,_,rfl⟩:=List.mem_map.1 hz
   dsimp only
   omega
theorem instP_move{i k:Nat}{b:Affine}{P P':Part}(h1:dY P'=(dY P).map (Z0 k b))(h2:P'.body.length=P.body.length):instP i P'=(instP i P).map (sig i k b):=by
 unfold instP
 rw [h1,h2,List.flatMap_map,List.map_flatMap]
 refine uS (fun q _=> ?_)
 rw [List.map_map]
 refine nR (fun t _=> ?_)
 show _=sig i k b _
 unfold sig
 rw [if_pos rfl]
theorem T1{i k:Nat}{b:Affine}: ∀x:Inst,x.part≠(i:Int)→sig i k b x=x:=fun x hx=>by unfold sig;rw [if_neg hx]
theorem aIT{f:Affine→Affine}{t q:List Int}: ∀{ss:List Affine} (ds:List Int) (acc:Int),(∀x∈ss,bZ (f x) t=bZ x q)→lU (ss.map f) ds t acc=lU ss ds q acc
 | [],ds,acc,_=>by cases ds<;>rfl
 |s::ss,[],acc,_=>rfl
 |s::ss,d::ds,acc,h=>by
  simp only [List.map_cons,lU]
  rw [h s List.mem_cons_self]
  split
  ·exact aIT ds _ (fun x hx=>h x (List.mem_cons_of_mem _ hx))
  ·rfl
theorem aDg{f:Affine→Affine}{t q:List Int}{a:Access}(h: ∀x∈a.subs,bZ (f x) t=bZ x q): ∀(xs:List Arr) (base:Int),cH xs (fP f a) t base=cH xs a q base
 | [],_=>rfl
 |x::xs,base=>by
  have e1:lU (fP f a).subs x.dims t 0=lU a.subs x.dims q 0:=aIT _ _ h
  have e2:(fP f a).subs.length=a.subs.length:=by simp [fP]
  have e3:(fP f a).array=a.array:=rfl
  simp only [cH,e1,e2,e3,aDg h xs]
theorem aDZ{d:Int}{f:Affine→Affine}: ∀{L:Nat} {e:Expr},dB L e d=true→bW L (tT f L e)=(bW L e).map (fP f)
 |0,_,h=>by cases h
 |L+1,e,h=>by
  obtain⟨hk,ho,hs⟩:=gB h
  show(if e.kind=3 then [if e.kind=3 then fP f e.read else⟨[],[]⟩] else [])++(e.kids.map (tT f L)).flatMap (bW L)=((if e.kind=3 then [e.read] else [])++e.kids.flatMap (bW L)).map (fP f)
  rw [List.map_append,List.flatMap_map,List.map_flatMap]
  congr 1
  ·by_cases h3:e.kind=3
   ·simp only [if_pos h3];rfl
   ·simp only [if_neg h3];rfl
  ·exact uS (fun x hx=>aDZ (hs x hx))
theorem aFF{d:Int}{f:Affine→Affine}{t q:List Int}(h: ∀x,bM x=true→bZ (f x) t=bZ x q)(list:List Arr)(m:List Int): ∀{L:Nat} {e:Expr},dB L e d=true→sO L list m (tT f L e) t=sO L list m e q
 |0,_,_=>rfl
 |L+1,e,he=>by
  obtain⟨hk,ho,hs⟩:=gB he
  have e1:(tT f (L+1) e).kind=e.kind:=rfl
  have e2:(tT f (L+1) e).num=e.num:=rfl
  have e5:(tT f (L+1) e).kids=e.kids.map (tT f L):=rfl
  unfold sO
  rw [e1,e2,e5]
  by_cases h1:e.kind=1
  ·rw [if_pos h1,if_pos h1]
  ·rw [if_neg h1,if_neg h1]
   by_cases h2:e.kind=2
   ·have e3:(tT f (L+1) e).index=f e.index:=by show(if e.kind=2 then f e.index else _)=_;rw [if_pos h2]
    rw [if_pos h2,if_pos h2,e3,h _ (vZ ho h2).1]
   ·rw [if_neg h2,if_neg h2]
    by_cases h3:e.kind=3
    ·have e4:(tT f (L+1) e).read=fP f e.read:=by show(if e.kind=3 then fP f e.read else _)=_;rw [if_pos h3]
     rw [if_pos h3,if_pos h3,e4,aDg (fun x hx=>h x ((sN (vX ho h3).1).2.2 x hx))]
    ·rw [if_neg h3,if_neg h3]
     obtain⟨kind,num,index,read,kids⟩:=e
     dsimp only at hs⊢
     match kids,hs with
     | [],_=>rfl
     | [a],_=>rfl
     | [a,c],hs=>
      simp only [List.map_cons,List.map_nil]
      rw [aFF h list m (hs a (by simp)),aFF h list m (hs c (by simp))]
     |a::c::e::r,_=>rfl
end Go.Lift
