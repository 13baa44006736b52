/- Changes of parts: the program's own copies and changes, and the reference's. -/
import Derived.Test.YtcnponfkbblhpaaGreatATransA
set_option maxRecDepth 100000
set_option linter.unusedVariables false
namespace Go.Lift
open Go
theorem aHd{a:Affine}(h:bH a=true):BA 4 a:=by have:=(iV h).1;unfold BA;omega
theorem V7{l:List Affine}(h1:l.length≤2)(h2: ∀x∈l,bH x=true):BAs 4 l:=⟨by omega,fun a ha=>aHd (h2 a ha)⟩
theorem aHc{d:Int}: ∀{L:Nat} {e:Expr},dF L e d=true→BE 4 L e
 |0,_,h=>by cases h
 |L+1,e,h=>by
  obtain⟨hk,ho,hs⟩:=jK h
  have:=lU e.kind
  refine⟨by omega,?_,?_,fun k hk=>aHc (hs k hk)⟩
  ·by_cases h2:e.kind=2
   ·exact aHd (t2 ho h2).1
   ·by_cases h3:e.kind=3
    ·rw [vH (t1 ho h3).2];unfold BA;simp
    ·rw [vH (aBi ho h2 h3).1];unfold BA;simp
  ·by_cases h3:e.kind=3
   ·have:=sX (t1 ho h3).1
    exact V7 this.2.1 this.2.2
   ·by_cases h2:e.kind=2
    ·rw [vJ (t2 ho h2).2];exact⟨by simp,fun x hx=>by cases hx⟩
    ·rw [vJ (aBi ho h2 h3).2];exact⟨by simp,fun x hx=>by cases hx⟩
theorem aIY{s:Stmt}{d:Int}(hs:eZ s d=true):BS 4 s:=by
 obtain⟨h1,h2,_⟩:=rB hs
 have:=sX h1
 exact⟨V7 this.2.1 this.2.2,aHc h2⟩
theorem aIb{list:List Arr}{x:Part}(h:cD list x=true):BPt 4 x:=by
 obtain⟨h1,h2⟩:=pZ h
 obtain⟨_,h4,h5,_⟩:=lT h
 exact⟨⟨h1,fun l hl=>⟨V7 (h2 l hl).1.1 (h2 l hl).1.2,V7 (h2 l hl).2.1 (h2 l hl).2.2⟩⟩,h4.2,fun s hs=>aIY (h5 s hs)⟩
theorem aIZ{l:List Arr}(h1:l.length≤4)(h2:mJ l):BR 4 l:=⟨h1,fun x hx=>by
 have:=h2 x hx
 simp only [i8,Bool.and_eq_true,decide_eq_true_eq] at this
 omega⟩
theorem zE{B:Nat}{l:List Affine}{f:Affine→Affine}(h:l.length≤B)(hf: ∀x∈l,BA B (f x)):BAs B (l.map f):=⟨by rw [List.length_map];exact h,fun a ha=>by
 obtain⟨x,hx,rfl⟩:=List.mem_map.1 ha
 exact hf x hx⟩
theorem aFy{d:Int}{f:Affine→Affine}(hf: ∀x,bH x=true→BA 4 (f x)): ∀{L:Nat} {e:Expr},dF L e d=true→BE 4 L (pA f L e)
 |0,_,h=>by cases h
 |L+1,e,h=>by
  obtain⟨hk,ho,hs⟩:=jK h
  have:=lU e.kind
  unfold pA BE
  refine⟨by dsimp only;rw [List.length_map];omega,?_,?_,fun k hk=> ?_⟩
  ·dsimp only
   by_cases h2:e.kind=2
   ·rw [if_pos h2];exact hf _ (t2 ho h2).1
   ·rw [if_neg h2];unfold BA;simp
  ·dsimp only
   by_cases h3:e.kind=3
   ·rw [if_pos h3]
    have:=sX (t1 ho h3).1
    exact zE (by omega) (fun x hx=>hf x (this.2.2 x hx))
   ·rw [if_neg h3];exact⟨by simp,fun x hx=>by cases hx⟩
  ·obtain⟨x,hx,rfl⟩:=List.mem_map.1 hk
   exact aFy hf (hs x hx)
theorem aIa{f:Affine→Affine}(hf: ∀x,bH x=true→BA 4 (f x)){s:Stmt}{d:Int}(hs:eZ s d=true):BS 4 (jV f s):=by
 obtain⟨h1,h2,_⟩:=rB hs
 have:=sX h1
 exact⟨zE (by omega) (fun x hx=>hf x (this.2.2 x hx)),aFy hf h2⟩
theorem aC1{f:Affine→Affine}(hf: ∀x,bH x=true→BA 4 (f x)){l:Loop}(h:S7 l):BAs 4 (cE f l).lo∧BAs 4 (cE f l).hi:=
 ⟨zE (by have:=h.1.1;omega) (fun x hx=>hf x (h.1.2 x hx)),zE (by have:=h.2.1;omega) (fun x hx=>hf x (h.2.2 x hx))⟩
theorem M2(n:Nat){a:Affine}(h:a.coefs.length≤1000):cL n a=some a:=by
 unfold cL m_ownClone
 rw [if_pos (by omega)];rfl
theorem M1(n:Nat): ∀x,bH x=true→cL n x=some x:=fun x hx=>M2 n (by have:=(iV hx).1;omega)
theorem B4{n:Nat}(hn:5000≤n){l:List Affine}(h1:l.length≤2)(h2: ∀x∈l,bH x=true):eO n l=some l:=by
 unfold eO
 refine Ev.eq (mF (g:=fun x=>x) (K:=fun x1=>some x1) (fun x hx=>M1 n x (h2 x hx)) (by omega) hn (Ev.some ?_))
 simp
theorem aBj{n:Nat}(hn:5000≤n){nest:List Loop}(h1:nest.length≤4)(h2: ∀l∈nest,S7 l):kT n nest=some nest:=by
 unfold kT
 refine Ev.eq ?_
 refine sH (β:=Loop) (l:=nest) (n:=n) (F:=fun x5 k=>Option.bind (eO n x5.lo) fun x6=>Option.bind (eO n x5.hi) fun x7=>k (⟨x6,x7⟩:Loop)) (g:=fun x=>x) (s:=0) (pre:=[]) (K:=fun x1=>some x1) ?_ (by omega) (by simp) (by omega) hn (Ev.some (by simp))
 exact fun x hx k hk=>aB (B4 hn (h2 x hx).1.1 (h2 x hx).1.2) (aB (B4 hn (h2 x hx).2.1 (h2 x hx).2.2) hk)
theorem aBg{n:Nat}(hn:6000≤n){s:Stmt}{d:Int}(hs:eZ s d=true):pD n s=some s:=by
 unfold pD
 rw [vR hn hs (F:=fun q0=>cL n q0) (f:=fun x=>x) (M1 n),aGA (fun _ _=>rfl) hs];rfl
theorem aBh{n:Nat}(hn:6000≤n){list:List Arr}{x:Part}(h:cD list x=true):jF n x=some x:=by
 obtain⟨h1,h2⟩:=pZ h
 obtain⟨_,h4,h5,_⟩:=lT h
 unfold jF
 refine Ev.eq (aB (aBj (by omega) h1 h2) (mF (g:=fun x=>x) (K:=fun x2=>some (⟨x.nest,x2⟩:Part)) (fun s hs=>aBg hn (h5 s hs)) (by omega) (by omega) (Ev.some ?_)))
 simp
theorem aBf{n:Nat}(hn:6000≤n){p:Prog}(h:lR p=true):dS n p=some p:=by
 obtain⟨h1,h2,h3,h4,_⟩:=aEv h
 unfold dS
 refine Ev.eq (sH (F:=fun x5 k=>Option.bind (m_ownClone x5.dims) fun x6=>k (⟨x5.name,x6⟩:Arr)) (g:=fun x=>x) (s:=0) (pre:=[]) (K:=fun x1=>aM (fun again11 ((x8,x9):(List Part)×Int)=>
    bif decide (x9<(p.parts.length:Int)) then(
     Option.bind (ix p.parts x9) fun x12=>
     Option.bind (jF n x12) fun x13=>
     Option.bind (app x8 [x13]) fun x14=>
     again11 (x14,wr (x9+1))
    ) else(
     some (⟨x1,x8⟩:Prog)
    )
   ) n ([],0)) (fun x hx k hk=>aB (x:=x.dims) ?_ hk) (by omega) (by simp) (by omega) (by omega) ?_)
 ·have:=(aIZ h1 h2).2 x hx
  unfold m_ownClone
  rw [if_pos (by omega)]
 ·refine mF (g:=fun x=>x) (K:=fun x8=>some (⟨_,x8⟩:Prog)) (fun x hx=>aBh hn (h4 x hx)) (by omega) (by omega) (Ev.some ?_)
  simp
theorem gG{α:Type}{a b:List α}(h:b.length=a.length):iQ a b=some ():=by unfold iQ;rw [if_pos h]
theorem tM{n:Nat}(hn:5000≤n){l:Loop}(hl:S7 l){F:Affine→Option Affine}{f:Affine→Affine}(hF: ∀x,bH x=true→F x=some (f x)):dT n l F=some (cE f l):=by
 obtain⟨⟨a1,a2⟩,b1,b2⟩:=hl
 unfold dT
 refine Ev.eq (Ev.loop (fun z:Loop×Int=>(z.2=0∧z.1=l)∨(z.2=1∧z.1=⟨l.lo.map f,l.hi⟩)∨(z.2=2∧z.1=cE f l)) (fun z=>3-z.2.toNat) ?_ n _ (.inl ⟨rfl,rfl⟩) (by dsimp only;omega))
 rintro again ⟨x,i⟩ hz hr
 dsimp only at hz hr⊢
 rcases hz with ⟨rfl,rfl⟩|⟨rfl,rfl⟩|⟨rfl,rfl⟩
 ·refine aB (gG rfl) (aB (gG rfl) (aI (fun _=>aI (fun _=> ?_) (fun h=>(h rfl).elim)) (fun h=>absurd h (by omega))))
  refine R1 (F:=fun x k=>Option.bind (F x) k) (W:=fun _ o=>o) (m:=fun _=>(x.lo.length:Int)) (g:=f) (s:=0) (K:=fun y=>again ((⟨y,x.hi⟩:Loop),wr (0+1))) (fun _ _ _ h=>h) (fun _ _=>rfl) (by omega) (fun x hx k hk=>aB (hF x (a2 x hx)) hk) (by omega) hn ?_
  rw [aP (by omega)]
  exact hr _ (.inr (.inl ⟨by dsimp only;omega,by simp⟩)) (by dsimp only;omega)
 ·refine aB (gG (by simp)) (aB (gG rfl) (aI (fun _=>aI (fun h=>absurd h (by omega)) (fun _=>aI (fun _=> ?_) (fun h=>(h rfl).elim))) (fun h=>absurd h (by omega))))
  refine R1 (F:=fun x k=>Option.bind (F x) k) (W:=fun _ o=>o) (m:=fun _=>(l.hi.length:Int)) (g:=f) (s:=0) (K:=fun y=>again ((⟨l.lo.map f,y⟩:Loop),wr (1+1))) (fun _ _ _ h=>h) (fun _ _=>rfl) (by omega) (fun x hx k hk=>aB (hF x (b2 x hx)) hk) (by omega) hn ?_
  rw [aP (by omega)]
  exact hr _ (.inr (.inr ⟨by dsimp only;omega,by simp [cE]⟩)) (by dsimp only;omega)
 ·refine aB (gG (by simp [cE])) (aB (gG (by simp [cE])) (aI (fun h=>absurd h (by omega)) (fun _=>Ev.some rfl)))
def gM(k:Nat)(g f:Affine→Affine)(x:Part)(l:Loop):Part:=⟨x.nest.take k++cE g l::(x.nest.drop (k+1)).map (cE f),x.body.map (jV f)⟩
theorem J5{n:Nat}(hn:6000≤n){nest:List Loop}{body:List Stmt}{s:Nat}(hs:s≤nest.length)(h1:nest.length≤4)(h2: ∀l∈nest.drop s,S7 l){d:Int}(h3:body.length≤4)(h4: ∀s∈body,eZ s d=true){F:Affine→Option Affine}{f:Affine→Affine}(hF: ∀x,bH x=true→F x=some (f x)):
  iN n ⟨nest,body⟩ (s:Int) F=some ⟨nest.take s++(nest.drop s).map (cE f),body.map (jV f)⟩:=by
 have key: ∀(nest2:List Loop),Ev (aM (fun again2 ((y,j):(List Stmt)×Int)=>
    Option.bind (iQ body y) fun x5=>
    bif decide (j<(body.length:Int)) then(
     Option.bind (ix y j) fun x6=>
     Option.bind (gB n x6 F) fun x7=>
     Option.bind (dC y j x7) fun x8=>
     again2 (x8,wr (j+1))
    ) else(
     some (⟨nest2,y⟩:Part)
    )
   ) n (body,0)) (fun r=>r=⟨nest2,body.map (jV f)⟩):=fun nest2=>
  R1 (F:=fun x k=>Option.bind (gB n x F) k) (W:=fun y o=>Option.bind (iQ body y) fun _=>o) (m:=fun _=>(body.length:Int)) (g:=jV f) (s:=0) (K:=fun y=>some (⟨nest2,y⟩:Part)) (fun y o h ho=>aB (gG h) ho) (fun _ _=>rfl) (by omega) (fun x hx k hk=>aB (vR hn (h4 x hx) hF) hk) (by omega) (by omega) (Ev.some (by simp))
 unfold iN
 refine Ev.eq ?_
 -- the loops ahead stay: only those behind are changed
 refine Ev.loop (fun z:List Loop×Int=> ∃i:Nat,z.2=i∧s≤i∧i≤nest.length∧z.1=nest.take s++((nest.drop s).take (i-s)).map (cE f)++nest.drop i) (fun z=>nest.length-z.2.toNat) ?_ n _ ⟨s,rfl,by omega,by omega,by simp⟩ (by dsimp only;omega)
 rintro again ⟨x,z⟩ ⟨i,hz,hsi,hi,hx⟩ hr
 dsimp only at hz hx⊢
 subst hz
 have hpl:(nest.take s++((nest.drop s).take (i-s)).map (cE f)).length=i:=by rw [List.length_append,List.length_map,List.length_take,List.length_take,List.length_drop];omega
 have hxl:x.length=nest.length:=by rw [hx,List.length_append,hpl,List.length_drop];omega
 refine aB (gG hxl) (aI (fun hlt=> ?_) (fun hge=> ?_))
 ·obtain⟨e,hg⟩: ∃e,nest[i]? =some e:=⟨_,List.getElem?_eq_getElem (show i<nest.length by omega)⟩
  have hgx:x[i]? =some e:=by
   rw [hx,List.getElem?_append_right (by omega),hpl,Nat.sub_self,List.getElem?_drop];exact hg
  have he:e∈nest.drop s:=List.mem_iff_getElem?.2 ⟨i-s,by rw [List.getElem?_drop,show s+(i-s)=i by omega];exact hg⟩
  refine aB (aU hgx) (aB (tM (by omega) (h2 _ he) hF) (aB (eJ (by omega) _) ?_))
  rw [aP (by omega)]
  refine hr _ ⟨i+1,by dsimp only;omega,by omega,by omega,?_⟩ (by dsimp only;omega)
  dsimp only
  rw [hx,Int.toNat_natCast,List.set_append_right _ _ (by omega),hpl,Nat.sub_self,lY hg,List.set_cons_zero,show i+1-s=(i-s)+1 by omega,List.take_add_one,List.getElem?_drop,show s+(i-s)=i by omega,hg]
  simp
 ·have:i=nest.length:=by omega
  subst this
  rw [hx,List.take_of_length_le (l:=nest.drop s) (by rw [List.length_drop];omega),List.drop_length,List.append_nil]
  exact key _
theorem R3{n:Nat}(hn:5000≤n){l:List Affine}(h1:l.length≤2)(h2: ∀x∈l,bH x=true){way v:Int}{b:Affine}{f:Affine→Affine}(hF: ∀x,bH x=true→fS n x way v b=some (f x)):m8 n l way v b=some (l.map f):=by
 unfold m8
 exact Ev.eq (mF (K:=fun x1=>some x1) (fun x hx=>hF x (h2 x hx)) (by omega) hn (Ev.some rfl))
theorem aDm{n:Nat}(hn:5000≤n){l:Loop}(hl:S7 l){way v:Int}{b:Affine}{f:Affine→Affine}(hF: ∀x,bH x=true→fS n x way v b=some (f x)):oW n l way v b=some (cE f l):=by
 unfold oW
 rw [R3 hn hl.1.1 hl.1.2 hF,R3 hn hl.2.1 hl.2.2 hF];rfl
theorem yA{n:Nat}(hn:5000≤n){a:Access}{d:Int}(ha:f0 a d=true){way v:Int}{b:Affine}{f:Affine→Affine}(hF: ∀x,bH x=true→fS n x way v b=some (f x)):iX n a way v b=some (iG f a):=by
 have:=sX ha
 unfold iX
 rw [R3 hn this.2.1 this.2.2 hF];rfl
theorem N8{d way v:Int}{b:Affine}{f:Affine→Affine}(hF: ∀n,5000≤n→ ∀x,bH x=true→fS n x way v b=some (f x)): ∀(L n:Nat) (e:Expr),5000+L≤n→dF L e d=true→s_l8Expr (n+1) e way v b=some (pA f L e)
 |0,_,_,_,h=>by cases h
 |L+1,n,e,hn,h=>by
  obtain⟨hk,ho,hs⟩:=jK h
  obtain⟨n,rfl⟩: ∃j,n=j+1:=⟨n-1,by omega⟩
  have hkl:e.kids.length≤2:=by have:=lU e.kind;omega
  unfold s_l8Expr
  refine Ev.eq (Ev.jn (fun z=>(⟨z.1,z.2⟩:Affine)=(if e.kind=2 then f e.index else⟨[],0⟩)) (fun j hj=> ?_) (fun z hz=>Ev.jn (fun y=>(⟨y.1,y.2⟩:Access)=(if e.kind=3 then iG f e.read else⟨[],[]⟩)) (fun j hj=> ?_) (fun y hy=> ?_)))
  ·exact aI (fun h2=>aB (hF _ (by omega) _ (t2 ho h2).1) (hj _ (by rw [if_pos h2]))) (fun h2=>hj _ (by rw [if_neg h2]))
  ·exact aI (fun h3=>aB (yA (by omega) (t1 ho h3).1 (hF _ (by omega))) (hj _ (by rw [if_pos h3]))) (fun h3=>hj _ (by rw [if_neg h3]))
  ·obtain⟨x3,x4⟩:=z
   obtain⟨x7,x8⟩:=y
   dsimp only at hz hy⊢
   refine mF (K:=fun x9=>some (⟨e.kind,e.num,(⟨x3,x4⟩:Affine),(⟨x7,x8⟩:Access),x9⟩:Expr)) (fun x hx=>N8 hF L n x (by omega) (hs x hx)) (by omega) (by omega) (Ev.some ?_)
   rw [hz,hy];rfl
theorem aDo{n:Nat}(hn:6000≤n){l:List Stmt}{d:Int}(h1:l.length≤4)(h2: ∀s∈l,eZ s d=true){way v:Int}{b:Affine}{f:Affine→Affine}(hF: ∀n,5000≤n→ ∀x,bH x=true→fS n x way v b=some (f x)):rK n l way v b=some (l.map (jV f)):=by
 obtain⟨n,rfl⟩: ∃j,n=j+1:=⟨n-1,by omega⟩
 unfold rK
 refine Ev.eq ?_
 refine sH (β:=Stmt) (l:=l) (n:=n+1) (F:=fun x5 k=>Option.bind (iX (n+1) x5.write way v b) fun x6=>Option.bind (s_l8Expr (n+1) x5.value way v b) fun x7=>k (⟨x6,x7⟩:Stmt)) (g:=jV f) (s:=0) (pre:=[]) (K:=fun x1=>some x1) (fun x hx k hk=> ?_) (by omega) (by simp) (by omega) (by omega) (Ev.some (by simp))
 obtain⟨h1,h2,_⟩:=rB (h2 x hx)
 exact aB (yA (by omega) h1 (hF _ (by omega))) (aB (N8 hF 5 n x.value (by omega) h2) hk)
theorem aBu{n:Nat}(hn:6000≤n){x:Part}{s:Nat}(hs:s+1≤x.nest.length)(h1:x.nest.length≤4)(h2: ∀l∈x.nest,S7 l){d:Int}(h3:x.body.length≤4)(h4: ∀s∈x.body,eZ s d=true){way v:Int}{b:Affine}{f:Affine→Affine}(hF: ∀n,5000≤n→ ∀x,bH x=true→fS n x way v b=some (f x)):
  oZ n x (s:Int) way v b=some ⟨x.nest.take (s+1)++(x.nest.drop (s+1)).map (cE f),x.body.map (jV f)⟩:=by
 unfold oZ
 rw [aP (by omega)]
 refine Ev.eq (aB (zS (by omega) (by omega) (by omega)) ?_)
 rw [show((s:Int)+1).toNat=s+1 by omega,show(0:Int).toNat=0 from rfl,List.drop_zero]
 refine aB (x:=x.nest.take (s+1)) (b9 (by simp;omega)) (aB (aDo hn h3 h4 hF) ?_)
 exact sH (F:=fun x8 k=>Option.bind (oW n x8 way v b) k) (g:=cE f) (s:=s+1) (pre:=x.nest.take (s+1)) (K:=fun x4=>some (⟨x4,x.body.map (jV f)⟩:Part)) (fun l hl k hk=>aB (aDm (by omega) (h2 l hl) (hF _ (by omega))) hk) (by omega) (by simp;omega) (by omega) (by omega) (Ev.some rfl)
end Go.Lift
