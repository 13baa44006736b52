/- A region that draws its order: one walk in the text's order serves all orders, where what stands in the way of each other is ordered. -/
import Derived.Test.YtlbojjldejlgaaaGreatTLiftTV
namespace Go.Lift
open Go
def cF{α:Type}(f:Nat→α):List (Nat×α)→Nat→α
 | []=>f
 |(d,v)::r=>cF (upd f d v) r
theorem fW{α:Type}: ∀(l:List (Nat×α)) (f:Nat→α) (r:Nat),(∀v,(r,v)∉l)→cF f l r=f r
 | [],_,_,_=>rfl
 |(d,v)::l,f,r,h=>by rw [cF,fW l _ r fun v' hv=>h v' (r9 _ hv),aH _ _ _ _ (by intro e;subst e;exact h v (uX ..))]
theorem F8{α:Type}: ∀(l:List (Nat×α)) (f g:Nat→α) (r:Nat),(∃v,(r,v)∈l)→cF f l r=cF g l r
 | [],_,_,_,⟨v,h⟩=>by simp at h
 |(d,v)::l,f,g,r,h=>by
  simp only [cF];by_cases h2: ∃v',(r,v')∈l
  ·exact F8 l _ _ r h2
  have hd:r=d:=by
   obtain⟨v',hv⟩:=h;rcases qE.1 hv with e|hv
   ·cases e;rfl
   exact absurd ⟨v',hv⟩ h2
  subst hd;rw [fW l _ r fun v' hv=>h2 ⟨v',hv⟩,fW l _ r fun v' hv=>h2 ⟨v',hv⟩,aI,aI]
structure Eff where
 ts:List (Nat×V)
 hs:List (Nat×Option E):=[]
 us:List (Nat×Bool):=[]
def Eff.app(e:Eff)(s:S):S:={t:=cF s.t e.ts,H:=cF s.H e.hs,u:=cF s.u e.us}
structure Look where
 ts:List Nat
 ks:List Nat:=[]
def Look.same(r:Look)(s s':S):Prop:=(∀i,i∈r.ts→s.t i=s'.t i)∧ ∀k,k∈r.ks→s.H k=s'.H k∧s.u k=s'.u k
def OpG(K:Ctx)(ops:Array Oper)(o:Oper)(s s':S):Prop:=
 ∀β a w next Q,Rel K β s a w→(∀β' a' w',Rel K β' s' a' w'→next a' w')→
  if Region.wanted o (yielded ops a.tmps) then o.wp K.P a w next Q∨(o.asks K.P a w∧LetsOut Q) else next (a.put o.dst undef) w
theorem OpG.of{K:Ctx}{ops:Array Oper}{o:Oper}{s s':S}(hg:o.guard=none)(h:OpJ K o s s'):OpG K ops o s s':=by
 intro β a w next Q hr hk
 rw [if_pos (by simp [Region.wanted,hg])];exact .inl (h β a w next Q hr hk)
theorem OpG.inn{K:Ctx}{ops:Array Oper}{o:Oper}{s s':S}{j t:Nat}{want:Bool}(hg:o.guard=some (j,want))(hj:(ops[j]?).bind (·.dst)=some t)(ht:s.t t= .t (.bool want))(h:OpJ K o s s'):OpG K ops o s s':=by
 intro β a w next Q hr hk
 have hy:yielded ops a.tmps j=some want:=by unfold yielded;rw [hj];simp [hr.bool ht]
 rw [if_pos (by simp [Region.wanted,hg,hy])];exact .inl (h β a w next Q hr hk)
theorem OpG.out{K:Ctx}{ops:Array Oper}{o:Oper}{s:S}{j t:Nat}{want:Bool}(hg:o.guard=some (j,want))(hj:(ops[j]?).bind (·.dst)=some t)(ht:s.t t= .t (.bool (!want)))(hd: ∀i,o.dst=some i→Nat.blt i K.nt=true):OpG K ops o s (s.put o.dst (.tup [])):=by
 intro β a w next Q hr hk
 have hy:yielded ops a.tmps j=some (!want):=by unfold yielded;rw [hj];simp [hr.bool ht]
 rw [if_neg (by simp [Region.wanted,hg,hy])];exact hk β _ w (hr.put o.dst hd aB6)
theorem OpG.skip{K:Ctx}{ops:Array Oper}{o:Oper}{s:S}{j t:Nat}{want:Bool}(hg:o.guard=some (j,want))(hj:(ops[j]?).bind (·.dst)=some t)(ht:s.t t= .tup [])(hd: ∀i,o.dst=some i→Nat.blt i K.nt=true):OpG K ops o s (s.put o.dst (.tup [])):=by
 intro β a w next Q hr hk
 have hw:=hr.unwanted (ops:=ops) (want:=want) hj ht;rw [if_neg (by simp [Region.wanted,hg,hw])];exact hk β _ w (hr.put o.dst hd aB6)
def mN{α:Type}:List (List (Nat×α))→Nat→(Nat→Bool)→(Nat→α)→Nat→α
 | [],_,_,f=>f
 |l::ls,i,L,f=>mN ls (i+1) L (bif L i then cF f l else f)
theorem qN{α:Type}: ∀(ls:List (List (Nat×α))) (i:Nat) (L L':Nat→Bool) (f f':Nat→α) (r:Nat),f r=f' r→(∀j l,ls[j]? =some l→(∃v,(r,v)∈l)→L (i+j)=L' (i+j))→mN ls i L f r=mN ls i L' f' r
 | [],_,_,_,_,_,_,h,_=>h
 |l::ls,i,L,L',f,f',r,h,hc=>by
  simp only [mN];refine qN ls (i+1) L L' _ _ r ?_ fun j l' hl hv=>by have:=hc (j+1) l' hl hv;rwa [show i+(j+1)=i+1+j by omega] at this
  by_cases hw: ∃v,(r,v)∈l
  ·have:=hc 0 l rfl hw;rw [vBp] at this;rw [←this];cases L i with
   |true=>exact F8 l _ _ r hw
   |false=>exact h
  have ho: ∀g:Nat→α,cF g l r=g r:=fun g=>fW l g r fun v hv=>hw ⟨v,hv⟩;cases L i<;>cases L' i<;>simp only [cond_true,cond_false,ho]<;>exact h
theorem Y0{α:Type}: ∀(ls:List (List (Nat×α))) (i:Nat) (L:Nat→Bool) (f:Nat→α) (r k:Nat) (l:List (Nat×α)),ls[k]? =some l→(∃v,(r,v)∈l)→L (i+k)=true→
  (∀j l',k<j→ls[j]? =some l'→(∃v,(r,v)∈l')→L (i+j)=false)→ ∀g:Nat→α,mN ls i L f r=cF g l r
 |l0::ls,i,L,f,r,0,l,hk,hv,hL,hlast,g=>by
  simp at hk;subst hk;simp only [mN];rw [vBp] at hL;rw [hL,cond_true,qN ls (i+1) L (fun _=>false) (cF f l0) (cF g l0) r (F8 l0 _ _ r hv) (fun j l' hl hv'=>by
   have:=hlast (j+1) l' (by omega) hl hv'
   rwa [show i+(j+1)=i+1+j by omega] at this)]
  have hno: ∀(ls:List (List (Nat×α))) (i:Nat) (f:Nat→α),mN ls i (fun _=>false) f=f:=by
   intro ls;induction ls with
   |nil=>intro _ _;rfl
   |cons l ls ih=>intro i f;simp only [mN,cond_false];exact ih _ _
  rw [hno]
 |l0::ls,i,L,f,r,k+1,l,hk,hv,hL,hlast,g=>by
  simp at hk;simp only [mN];exact Y0 ls (i+1) L _ r k l hk hv (by rwa [show i+1+k=i+(k+1) by omega]) (fun j l' hj hl hv'=>by
   have:=hlast (j+1) l' (by omega) hl hv'
   rwa [show i+(j+1)=i+1+j by omega] at this) g
 | [],_,_,_,_,_,_,hk,_,_,_,_=>by simp at hk
def pC(es:List Eff)(i:Nat)(L:Nat→Bool)(s:S):S:={t:=mN (es.map (·.ts)) i L s.t,H:=mN (es.map (·.hs)) i L s.H,u:=mN (es.map (·.us)) i L s.u}
def fX(ops:Array Oper):Nat→Nat→Nat→Bool
 |0,_,_=>false
 |f+1,i,j=>match ops[j]? with
  |none=>false
  |some o=>o.after.toList.any fun e=>Region.binds .any e&&(Nat.beq e.on i||fX ops f i e.on)
def jW{α:Type}(l:List (Nat×α))(r:List Nat):Bool:=l.any fun p=>r.any fun x=>Nat.beq p.1 x
def iP{α β:Type}(l:List (Nat×α))(m:List (Nat×β)):Bool:=l.any fun p=>m.any fun q=>Nat.beq p.1 q.1
def oL(e:Eff)(r:Look)(e':Eff)(r':Look):Bool:=
 jW e.ts r'.ts||jW e'.ts r.ts||iP e.ts e'.ts||jW e.hs r'.ks||jW e'.hs r.ks||iP e.hs e'.hs||jW e.us r'.ks||jW e'.us r.ks||iP e.us e'.us
def pairsOk(ops:Array Oper)(n:Nat):Nat→List (Eff×Look)→Bool
 |_,[]=>true
 |i,(e,r)::rest=>go i e r (i+1) rest&&pairsOk ops n (i+1) rest
where
 go (i:Nat) (e:Eff) (r:Look):Nat→List (Eff×Look)→Bool
  |_,[]=>true
  |j,(e',r')::rest=>(!oL e r e' r'||fX ops n i j)&&go i e r (j+1) rest
def rA:Nat→List Oper→Bool
 |_,[]=>true
 |i,o::rest=>o.after.toList.all (fun e=> !Region.binds .any e||Nat.blt e.on i)&&rA (i+1) rest
theorem aCa{ops:Array Oper}{n i:Nat}{e:Eff}{r:Look}: ∀(l:List (Eff×Look)) (j:Nat),pairsOk.go ops n i e r j l=true→ ∀(k:Nat) e' r',l[k]? =some (e',r')→oL e r e' r'=true→fX ops n i (j+k)=true
 | [],_,_,_,_,_,h,_=>by simp at h
 |(e1,r1)::l,j,h,0,e',r',hk,hc=>by
  simp at hk;obtain⟨rfl,rfl⟩:=hk;simp only [pairsOk.go,Bool.and_eq_true,hc,Bool.not_true,Bool.false_or] at h;exact h.1
 |(e1,r1)::l,j,h,k+1,e',r',hk,hc=>by
  simp at hk;simp only [pairsOk.go,Bool.and_eq_true] at h
  have:=aCa l (j+1) h.2 k e' r' hk hc
  rwa [show j+1+k=j+(k+1) by omega] at this
theorem qR{ops:Array Oper}{n:Nat}: ∀(l:List (Eff×Look)) (i0:Nat),pairsOk ops n i0 l=true→ ∀(i j:Nat) e r e' r',l[i]? =some (e,r)→l[j]? =some (e',r')→i<j→oL e r e' r'=true→fX ops n (i0+i) (i0+j)=true
 | [],_,_,_,_,_,_,_,_,h,_,_,_=>by simp at h
 |(e1,r1)::l,i0,h,0,j,e,r,e',r',hi,hj,hlt,hc=>by
  simp at hi;obtain⟨rfl,rfl⟩:=hi;simp only [pairsOk,Bool.and_eq_true] at h;cases j with
  |zero=>omega
  |succ j=>
   simp at hj
   have:=aCa l (i0+1) h.1 j e' r' hj hc
   rwa [show i0+1+j=i0+(j+1) by omega] at this
 |(e1,r1)::l,i0,h,i+1,j,e,r,e',r',hi,hj,hlt,hc=>by
  simp only [pairsOk,Bool.and_eq_true] at h;cases j with
  |zero=>omega
  |succ j=>
   simp at hi hj
   have:=qR l (i0+1) h.2 i j e r e' r' hi hj (by omega) hc
   rwa [show i0+1+i=i0+(i+1) by omega,show i0+1+j=i0+(j+1) by omega] at this
theorem aEp(e:Eff)(r:Look)(e':Eff)(r':Look):oL e r e' r'=oL e' r' e r:=by
 have hm: ∀{α β:Type} (l:List (Nat×α)) (m:List (Nat×β)),iP l m=iP m l:=by
  intro α β l m;rw [Bool.eq_iff_iff];simp only [iP,List.any_eq_true];constructor
  ·rintro⟨p,hp,q,hq,h⟩;exact⟨q,hq,p,hp,by have:=fV h;simp [this]⟩
  rintro⟨p,hp,q,hq,h⟩;exact⟨q,hq,p,hp,by have:=fV h;simp [this]⟩
 unfold oL;rw [hm e.ts,hm e.hs,hm e.us];cases jW e.ts r'.ts<;>cases jW e'.ts r.ts<;>cases iP e'.ts e.ts<;>cases jW e.hs r'.ks<;>cases jW e'.hs r.ks<;>cases iP e'.hs e.hs<;>cases jW e.us r'.ks<;>cases jW e'.us r.ks<;>rfl
def aIZ(ops:Array Oper)(listed:Array Bool):Prop:= ∀j o,ops[j]? =some o→listed.getD j true=true→ ∀e∈o.after,Region.binds .any e=true→listed.getD e.on false=true
theorem o4{ops:Array Oper}{listed:Array Bool}(hc:aIZ ops listed): ∀(f i j:Nat),fX ops f i j=true→(∀o,ops[j]? =some o→ ∀e∈o.after,Region.binds .any e=true→listed.getD e.on false=true)→listed.getD i false=true
 |0,_,_,h,_=>by simp [fX] at h
 |f+1,i,j,h,hj=>by
  unfold fX at h;cases ho:ops[j]? with
  |none=>rw [ho] at h;simp at h
  |some o=>
   rw [ho] at h;simp only [List.any_eq_true,Bool.and_eq_true,Bool.or_eq_true] at h;obtain⟨e,he,hb,h2⟩:=h;have hl:=hj o ho e (by simpa using he) hb;rcases h2 with h2|h2
   ·have:=fV h2;rw [←this];exact hl
   refine o4 hc f i e.on h2 fun o' ho'=>hc e.on o' ho' ?_;rw [vAL] at hl⊢;cases hle:listed[e.on]? with
   |none=>rw [hle] at hl;simp at hl
   |some b=>rw [hle] at hl;simpa using hl
def Draws(K:Ctx)(ops:Array Oper):List Oper→List (Eff×Look)→S→(S→Prop)→Prop
 | [],[],s,Q=>Q s
 |o::os,(e,r)::es,s,Q=>(∀s',r.same s' s→OpG K ops o s' (e.app s'))∧Draws K ops os es (e.app s) Q
 |_,_,_,_=>False
end Go.Lift
