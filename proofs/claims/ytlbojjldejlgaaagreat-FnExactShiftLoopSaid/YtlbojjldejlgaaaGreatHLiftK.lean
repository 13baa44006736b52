/- A region that draws its order: one walk in the text's order serves all orders, where what stands in the way of each other is ordered. -/
import Derived.Test.YtlbojjldejlgaaaGreatHLiftTV
namespace Go.Lift
open Go
def cD{α:Type}(f:Nat→α):List (Nat×α)→Nat→α
 | []=>f
 |(d,v)::r=>cD (upd f d v) r
theorem fQ{α:Type}: ∀(l:List (Nat×α)) (f:Nat→α) (r:Nat),(∀v,(r,v)∉l)→cD f l r=f r
 | [],_,_,_=>rfl
 |(d,v)::l,f,r,h=>by rw [cD,fQ l _ r fun v' hv=>h v' (uF _ hv),aH _ _ _ _ (by intro e;subst e;exact h v (yF ..))]
theorem B9{α:Type}: ∀(l:List (Nat×α)) (f g:Nat→α) (r:Nat),(∃v,(r,v)∈l)→cD f l r=cD g l r
 | [],_,_,_,⟨v,h⟩=>by simp at h
 |(d,v)::l,f,g,r,h=>by
  simp only [cD];by_cases h2: ∃v',(r,v')∈l
  ·exact B9 l _ _ r h2
  have hd:r=d:=by
   obtain⟨v',hv⟩:=h;rcases pP.1 hv with e|hv
   ·cases e;rfl
   exact absurd ⟨v',hv⟩ h2
  subst hd;rw [fQ l _ r fun v' hv=>h2 ⟨v',hv⟩,fQ l _ r fun v' hv=>h2 ⟨v',hv⟩,aI,aI]
structure Eff where
 ts:List (Nat×V)
 hs:List (Nat×Option E):=[]
 us:List (Nat×Bool):=[]
def Eff.app(e:Eff)(s:S):S:={t:=cD s.t e.ts,H:=cD s.H e.hs,u:=cD s.u e.us}
structure Look where
 ts:List Nat
 ks:List Nat:=[]
def Look.same(r:Look)(s s':S):Prop:=(∀i,i∈r.ts→s.t i=s'.t i)∧ ∀k,k∈r.ks→s.H k=s'.H k∧s.u k=s'.u k
def OpG(K:Ctx)(ops:Array Oper)(o:Oper)(s s':S):Prop:=
 ∀β a w next Q,Rel K β s a w→(∀β' a' w',Rel K β' s' a' w'→next a' w')→
  if Region.wanted o (yielded ops a.tmps) then o.wp K.P a w next Q∨(o.asks K.P a w∧LetsOut Q) else next (a.put o.dst undef) w
theorem OpG.of{K:Ctx}{ops:Array Oper}{o:Oper}{s s':S}(hg:o.guard=none)(h:OpJ K o s s'):OpG K ops o s s':=by
 intro β a w next Q hr hk
 rw [if_pos (by simp [Region.wanted,hg])];exact .inl (h β a w next Q hr hk)
theorem OpG.inn{K:Ctx}{ops:Array Oper}{o:Oper}{s s':S}{j t:Nat}{want:Bool}(hg:o.guard=some (j,want))(hj:(ops[j]?).bind (·.dst)=some t)(ht:s.t t= .t (.bool want))(h:OpJ K o s s'):OpG K ops o s s':=by
 intro β a w next Q hr hk
 have hy:yielded ops a.tmps j=some want:=by unfold yielded;rw [hj];simp [hr.bool ht]
 rw [if_pos (by simp [Region.wanted,hg,hy])];exact .inl (h β a w next Q hr hk)
theorem OpG.out{K:Ctx}{ops:Array Oper}{o:Oper}{s:S}{j t:Nat}{want:Bool}(hg:o.guard=some (j,want))(hj:(ops[j]?).bind (·.dst)=some t)(ht:s.t t= .t (.bool (!want)))(hd: ∀i,o.dst=some i→Nat.blt i K.nt=true):OpG K ops o s (s.put o.dst (.tup [])):=by
 intro β a w next Q hr hk
 have hy:yielded ops a.tmps j=some (!want):=by unfold yielded;rw [hj];simp [hr.bool ht]
 rw [if_neg (by simp [Region.wanted,hg,hy])];exact hk β _ w (hr.put o.dst hd aBh)
theorem OpG.skip{K:Ctx}{ops:Array Oper}{o:Oper}{s:S}{j t:Nat}{want:Bool}(hg:o.guard=some (j,want))(hj:(ops[j]?).bind (·.dst)=some t)(ht:s.t t= .tup [])(hd: ∀i,o.dst=some i→Nat.blt i K.nt=true):OpG K ops o s (s.put o.dst (.tup [])):=by
 intro β a w next Q hr hk
 have hw:=hr.unwanted (ops:=ops) (want:=want) hj ht;rw [if_neg (by simp [Region.wanted,hg,hw])];exact hk β _ w (hr.put o.dst hd aBh)
def l6{α:Type}:List (List (Nat×α))→Nat→(Nat→Bool)→(Nat→α)→Nat→α
 | [],_,_,f=>f
 |l::ls,i,L,f=>l6 ls (i+1) L (bif L i then cD f l else f)
theorem pT{α:Type}: ∀(ls:List (List (Nat×α))) (i:Nat) (L L':Nat→Bool) (f f':Nat→α) (r:Nat),f r=f' r→(∀j l,ls[j]? =some l→(∃v,(r,v)∈l)→L (i+j)=L' (i+j))→l6 ls i L f r=l6 ls i L' f' r
 | [],_,_,_,_,_,_,h,_=>h
 |l::ls,i,L,L',f,f',r,h,hc=>by
  simp only [l6];refine pT ls (i+1) L L' _ _ r ?_ fun j l' hl hv=>by have:=hc (j+1) l' hl hv;rwa [show i+(j+1)=i+1+j by omega] at this
  by_cases hw: ∃v,(r,v)∈l
  ·have:=hc 0 l rfl hw;rw [vBk] at this;rw [←this];cases L i with
   |true=>exact B9 l _ _ r hw
   |false=>exact h
  have ho: ∀g:Nat→α,cD g l r=g r:=fun g=>fQ l g r fun v hv=>hw ⟨v,hv⟩;cases L i<;>cases L' i<;>simp only [cond_true,cond_false,ho]<;>exact h
theorem T1{α:Type}: ∀(ls:List (List (Nat×α))) (i:Nat) (L:Nat→Bool) (f:Nat→α) (r k:Nat) (l:List (Nat×α)),ls[k]? =some l→(∃v,(r,v)∈l)→L (i+k)=true→
  (∀j l',k<j→ls[j]? =some l'→(∃v,(r,v)∈l')→L (i+j)=false)→ ∀g:Nat→α,l6 ls i L f r=cD g l r
 |l0::ls,i,L,f,r,0,l,hk,hv,hL,hlast,g=>by
  simp at hk;subst hk;simp only [l6];rw [vBk] at hL;rw [hL,cond_true,pT ls (i+1) L (fun _=>false) (cD f l0) (cD g l0) r (B9 l0 _ _ r hv) (fun j l' hl hv'=>by
   have:=hlast (j+1) l' (by omega) hl hv'
   rwa [show i+(j+1)=i+1+j by omega] at this)]
  have hno: ∀(ls:List (List (Nat×α))) (i:Nat) (f:Nat→α),l6 ls i (fun _=>false) f=f:=by
   intro ls;induction ls with
   |nil=>intro _ _;rfl
   |cons l ls ih=>intro i f;simp only [l6,cond_false];exact ih _ _
  rw [hno]
 |l0::ls,i,L,f,r,k+1,l,hk,hv,hL,hlast,g=>by
  simp at hk;simp only [l6];exact T1 ls (i+1) L _ r k l hk hv (by rwa [show i+1+k=i+(k+1) by omega]) (fun j l' hj hl hv'=>by
   have:=hlast (j+1) l' (by omega) hl hv'
   rwa [show i+(j+1)=i+1+j by omega] at this) g
 | [],_,_,_,_,_,_,hk,_,_,_,_=>by simp at hk
def oZ(es:List Eff)(i:Nat)(L:Nat→Bool)(s:S):S:={t:=l6 (es.map (·.ts)) i L s.t,H:=l6 (es.map (·.hs)) i L s.H,u:=l6 (es.map (·.us)) i L s.u}
def fT(ops:Array Oper):Nat→Nat→Nat→Bool
 |0,_,_=>false
 |f+1,i,j=>match ops[j]? with
  |none=>false
  |some o=>o.after.toList.any fun e=>Region.binds .any e&&(Nat.beq e.on i||fT ops f i e.on)
def jQ{α:Type}(l:List (Nat×α))(r:List Nat):Bool:=l.any fun p=>r.any fun x=>Nat.beq p.1 x
def iN{α β:Type}(l:List (Nat×α))(m:List (Nat×β)):Bool:=l.any fun p=>m.any fun q=>Nat.beq p.1 q.1
def n5(e:Eff)(r:Look)(e':Eff)(r':Look):Bool:=
 jQ e.ts r'.ts||jQ e'.ts r.ts||iN e.ts e'.ts||jQ e.hs r'.ks||jQ e'.hs r.ks||iN e.hs e'.hs||jQ e.us r'.ks||jQ e'.us r.ks||iN e.us e'.us
def pairsOk(ops:Array Oper)(n:Nat):Nat→List (Eff×Look)→Bool
 |_,[]=>true
 |i,(e,r)::rest=>go i e r (i+1) rest&&pairsOk ops n (i+1) rest
where
 go (i:Nat) (e:Eff) (r:Look):Nat→List (Eff×Look)→Bool
  |_,[]=>true
  |j,(e',r')::rest=>(!n5 e r e' r'||fT ops n i j)&&go i e r (j+1) rest
def qK:Nat→List Oper→Bool
 |_,[]=>true
 |i,o::rest=>o.after.toList.all (fun e=> !Region.binds .any e||Nat.blt e.on i)&&qK (i+1) rest
theorem aBl{ops:Array Oper}{n i:Nat}{e:Eff}{r:Look}: ∀(l:List (Eff×Look)) (j:Nat),pairsOk.go ops n i e r j l=true→ ∀(k:Nat) e' r',l[k]? =some (e',r')→n5 e r e' r'=true→fT ops n i (j+k)=true
 | [],_,_,_,_,_,h,_=>by simp at h
 |(e1,r1)::l,j,h,0,e',r',hk,hc=>by
  simp at hk;obtain⟨rfl,rfl⟩:=hk;simp only [pairsOk.go,Bool.and_eq_true,hc,Bool.not_true,Bool.false_or] at h;exact h.1
 |(e1,r1)::l,j,h,k+1,e',r',hk,hc=>by
  simp at hk;simp only [pairsOk.go,Bool.and_eq_true] at h
  have:=aBl l (j+1) h.2 k e' r' hk hc
  rwa [show j+1+k=j+(k+1) by omega] at this
theorem pX{ops:Array Oper}{n:Nat}: ∀(l:List (Eff×Look)) (i0:Nat),pairsOk ops n i0 l=true→ ∀(i j:Nat) e r e' r',l[i]? =some (e,r)→l[j]? =some (e',r')→i<j→n5 e r e' r'=true→fT ops n (i0+i) (i0+j)=true
 | [],_,_,_,_,_,_,_,_,h,_,_,_=>by simp at h
 |(e1,r1)::l,i0,h,0,j,e,r,e',r',hi,hj,hlt,hc=>by
  simp at hi;obtain⟨rfl,rfl⟩:=hi;simp only [pairsOk,Bool.and_eq_true] at h;cases j with
  |zero=>omega
  |succ j=>
   simp at hj
   have:=aBl l (i0+1) h.1 j e' r' hj hc
   rwa [show i0+1+j=i0+(j+1) by omega] at this
 |(e1,r1)::l,i0,h,i+1,j,e,r,e',r',hi,hj,hlt,hc=>by
  simp only [pairsOk,Bool.and_eq_true] at h;cases j with
  |zero=>omega
  |succ j=>
   simp at hi hj
   have:=pX l (i0+1) h.2 i j e r e' r' hi hj (by omega) hc
   rwa [show i0+1+i=i0+(i+1) by omega,show i0+1+j=i0+(j+1) by omega] at this
theorem aDE(e:Eff)(r:Look)(e':Eff)(r':Look):n5 e r e' r'=n5 e' r' e r:=by
 have hm: ∀{α β:Type} (l:List (Nat×α)) (m:List (Nat×β)),iN l m=iN m l:=by
  intro α β l m;rw [Bool.eq_iff_iff];simp only [iN,List.any_eq_true];constructor
  ·rintro⟨p,hp,q,hq,h⟩;exact⟨q,hq,p,hp,by have:=fP h;simp [this]⟩
  rintro⟨p,hp,q,hq,h⟩;exact⟨q,hq,p,hp,by have:=fP h;simp [this]⟩
 unfold n5;rw [hm e.ts,hm e.hs,hm e.us];cases jQ e.ts r'.ts<;>cases jQ e'.ts r.ts<;>cases iN e'.ts e.ts<;>cases jQ e.hs r'.ks<;>cases jQ e'.hs r.ks<;>cases iN e'.hs e.hs<;>cases jQ e.us r'.ks<;>cases jQ e'.us r.ks<;>rfl
def aId(ops:Array Oper)(listed:Array Bool):Prop:= ∀j o,ops[j]? =some o→listed.getD j true=true→ ∀e∈o.after,Region.binds .any e=true→listed.getD e.on false=true
theorem oE{ops:Array Oper}{listed:Array Bool}(hc:aId ops listed): ∀(f i j:Nat),fT ops f i j=true→(∀o,ops[j]? =some o→ ∀e∈o.after,Region.binds .any e=true→listed.getD e.on false=true)→listed.getD i false=true
 |0,_,_,h,_=>by simp [fT] at h
 |f+1,i,j,h,hj=>by
  unfold fT at h;cases ho:ops[j]? with
  |none=>rw [ho] at h;simp at h
  |some o=>
   rw [ho] at h;simp only [List.any_eq_true,Bool.and_eq_true,Bool.or_eq_true] at h;obtain⟨e,he,hb,h2⟩:=h;have hl:=hj o ho e (by simpa using he) hb;rcases h2 with h2|h2
   ·have:=fP h2;rw [←this];exact hl
   refine oE hc f i e.on h2 fun o' ho'=>hc e.on o' ho' ?_;rw [vAJ] at hl⊢;cases hle:listed[e.on]? with
   |none=>rw [hle] at hl;simp at hl
   |some b=>rw [hle] at hl;simpa using hl
def Draws(K:Ctx)(ops:Array Oper):List Oper→List (Eff×Look)→S→(S→Prop)→Prop
 | [],[],s,Q=>Q s
 |o::os,(e,r)::es,s,Q=>(∀s',r.same s' s→OpG K ops o s' (e.app s'))∧Draws K ops os es (e.app s) Q
 |_,_,_,_=>False
end Go.Lift
