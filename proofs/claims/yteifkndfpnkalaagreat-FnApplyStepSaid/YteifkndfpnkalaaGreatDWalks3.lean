/- Tools. -/
import Derived.Test.YteifkndfpnkalaaGreatDWalks1
set_option maxRecDepth 10000
set_option linter.unusedVariables false
namespace Go.Lift
open Go Go.Proofs Go.Proofs.Tryz
open Option renaming some -> aa, none -> aj, map_some -> ht
open Bool renaming true -> ab, false -> ak
open Decidable renaming decide -> ag
open Go.Builtin renaming zeroCells -> eR
open Int renaming toNat -> cE
open List renaming map -> bV
open Eq renaming refl -> b3
variable (G:cA){n:Nat}
theorem Li(G:cA)(n:Nat)(a:b0)(d:FuncId)(c:List T)(change:az->Option az)(e: ∀(q:az) r,change q=aa r->ba G d [V.agg (cw q),V.aS c] (V.agg (cw r))){r:b0}(h:tY n a change=aa r):ba G 229 [V.agg (gR a),V.fn d [V.aS c]] (V.agg (gR r)):=by refine bh aV func229 rfl λw X i=>D i [.z (.b (ab)),.z (.nat 20)] (D i [.z (.nat 21)] (aq (D i [aN aE a.bz] (be (bS i [.fa 21 1 22 68] (cH h (λl s=>a6 [(1,V.fn d [V.aS c]),(4,V.ref 20 0),(5,V.ref 21 0),(12,aF aE a.bz),(13,U (a.bz.length:Int)),(14,U l.2)] [(20,E.cells [bA [],a1]),(21,E.cells [bA a.array,ms 22 s 2 aE l.1]),(22,aH 68 s 2 aE l.1)] [20,21,22]) 1 (aO) ?_))))));rintro k ⟨x,y⟩ A h;refine ai i (c7 h (λB h=>ay (bH (al h λC m h=>D i [a' aE m,.z (.nat 23)] (bG h λF o H p h=>bu i bt [ao (e C _ o),.z (.int 0),bY (b' aE p),bF 2 fe x,bF 2 fe [F]] (bg i ⟨(H,wr (y+1)),(A+1),h,aO⟩))))) λB h=>?_);cases h;exact br (D i [.z (.at 2),.z (.bk 22 [] [21])] aC)
theorem We(G:cA): ∀(n:Nat) (e:Expr) (c:FuncId) (a:List T) (change:az->Option az) (d: ∀(C:az) r,change C=aa r->ba G c [V.agg (cw C),V.aS a] (V.agg (cw r))) {r:Expr} (h:mL n e change=aa r),ba G 230 [V.agg (di e),V.fn c [V.aS a]] (V.agg (di r)):=by
 intro n;induction n with
 |zero=>intro e c a change d r h;rw[mL.eq_def] at h;cases h
 |succ n H=>
  intro e c a change d r h;rw[mL.eq_def] at h;dsimp only at h;refine bh aV func230 rfl λw X i=>D i [.z (.b (ab)),.z (.nat 20)] (D i [.z (.nat 21)] (bo h (λk=>a6 [(1,V.fn c [V.aS a]),(2,V.aS (dF e)),(4,V.ref 20 0),(5,V.ref 21 0)] [(20,E.cells [U 0,U 0,a1,U 0,bA [],a1,a1]),(21,E.cells [U e.kind,U e.num,aF ah k.1,U k.2.1,bA k.2.2.1,aF aE k.2.2.2,a1])] [20,21]) (λt h=>?_) ?_))
  ·refine ai i (be (ai i (aA h (λK h=>?_) λK h=>?_)))
   ·obtain⟨u,x,h⟩:=c5 h;exact au i [ao (d e.index _ x)] (an h)
   refine ai i (aA h (λL h=>?_) λL h=>ay (an h));obtain⟨v,y,h⟩:=c5 h;exact au i [ao (Li G n e.read c a change d y)] (an h)
  rintro⟨Q,R,W,Z⟩ h;refine aq (D i [aN b6 e.bj] (be (bS i [.fa 21 6 22 71] (cH h (λk F=>a6 [(1,V.fn c [V.aS a]),(4,V.ref 20 0),(5,V.ref 21 0),(30,aF b6 e.bj),(31,U (e.bj.length:Int)),(32,U k.2)] [(20,E.cells [U 0,U 0,a1,U 0,bA [],a1,a1]),(21,E.cells [U e.kind,U e.num,aF ah Q,U R,bA W,aF aE Z,ms 22 F 7 b6 k.1]),(22,aH 71 F 7 b6 k.1)] [20,21,22]) 1 (aO) ?_))));rintro o ⟨f,g⟩ A h;refine ai i (c7 h (λj h=>?_) λj h=>?_)
  ·refine ay (bH ?_);obtain⟨l,p,h⟩:=c5 h;refine D i [.z (.row (dF l)),.z (.nat 23),aB (hJ b6 p (gF l))] ?_;obtain⟨m,q,B,s,h⟩:=gD h;exact bu i bt [ao (H l c a change d q),.z (.int 2),.z (.rows (bV b6 [m])),aB (q1 m),bY (b' b6 s),bF 7 jX f,bF 7 jX [m]] (bg i ⟨(B,wr (g+1)),(A+1),h,aO⟩)
  cases h;exact br (D i [.z (.at 2),.z (.bk 22 [] [21])] aC)
theorem Wc(G:cA)(n:Nat)(s:Stmt)(c:FuncId)(a:List T)(change:az->Option az)(d: ∀(k:az) r,change k=aa r->ba G c [V.agg (cw k),V.aS a] (V.agg (cw r))){r:Stmt}(h:qG n s change=aa r):ba G 161 [V.agg (fC s),V.fn c [V.aS a]] (V.agg (fC r)):=by refine bh aV func161 rfl λw X l=>D l [.z (.b (ab)),.z (.nat 20)] (aq (bG h λm e o i h=>?_));cases h;exact bu l bt [ao (Li G n s.write c a change d e),ao (We G n s.value c a change d i)] aC
theorem Lh(G:cA)(n:Nat)(a:b0)(e:FuncId)(c:List T)(d:List T)(change:az->Option az)(i: ∀(s:az) r,change s=aa r->ba G e [V.agg (cw s),V.aS c,V.aS d] (V.agg (cw r))){r:b0}(h:tY n a change=aa r):ba G 229 [V.agg (gR a),V.fn e [V.aS c,V.aS d]] (V.agg (gR r)):=by refine bh aV func229 rfl λw X k=>D k [.z (.b (ab)),.z (.nat 20)] (D k [.z (.nat 21)] (aq (D k [aN aE a.bz] (be (bS k [.fa 21 1 22 68] (cH h (λm x=>a6 [(1,V.fn e [V.aS c,V.aS d]),(4,V.ref 20 0),(5,V.ref 21 0),(12,aF aE a.bz),(13,U (a.bz.length:Int)),(14,U m.2)] [(20,E.cells [bA [],a1]),(21,E.cells [bA a.array,ms 22 x 2 aE m.1]),(22,aH 68 x 2 aE m.1)] [20,21,22]) 1 (aO) ?_))))));rintro l ⟨y,A⟩ B h;refine ai k (c7 h (λC h=>ay (bH (al h λF o h=>D k [a' aE o,.z (.nat 23)] (bG h λH p K q h=>bu k bt [ao (i F _ p),.z (.int 0),bY (b' aE q),bF 2 fe y,bF 2 fe [H]] (bg k ⟨(K,wr (A+1)),(B+1),h,aO⟩))))) λC h=>?_);cases h;exact br (D k [.z (.at 2),.z (.bk 22 [] [21])] aC)
theorem Wd(G:cA): ∀(n:Nat) (e:Expr) (d:FuncId) (a:List T) (c:List T) (change:az->Option az) (i: ∀(F:az) r,change F=aa r->ba G d [V.agg (cw F),V.aS a,V.aS c] (V.agg (cw r))) {r:Expr} (h:mL n e change=aa r),ba G 230 [V.agg (di e),V.fn d [V.aS a,V.aS c]] (V.agg (di r)):=by
 intro n;induction n with
 |zero=>intro e d a c change i r h;rw[mL.eq_def] at h;cases h
 |succ n K=>
  intro e d a c change i r h;rw[mL.eq_def] at h;dsimp only at h;refine bh aV func230 rfl λw X k=>D k [.z (.b (ab)),.z (.nat 20)] (D k [.z (.nat 21)] (bo h (λl=>a6 [(1,V.fn d [V.aS a,V.aS c]),(2,V.aS (dF e)),(4,V.ref 20 0),(5,V.ref 21 0)] [(20,E.cells [U 0,U 0,a1,U 0,bA [],a1,a1]),(21,E.cells [U e.kind,U e.num,aF ah l.1,U l.2.1,bA l.2.2.1,aF aE l.2.2.2,a1])] [20,21]) (λu h=>?_) ?_))
  ·refine ai k (be (ai k (aA h (λL h=>?_) λL h=>?_)))
   ·obtain⟨v,y,h⟩:=c5 h;exact au k [ao (i e.index _ y)] (an h)
   refine ai k (aA h (λQ h=>?_) λQ h=>ay (an h));obtain⟨I,A,h⟩:=c5 h;exact au k [ao (Lh G n e.read d a c change i A)] (an h)
  rintro⟨R,W,Z,f⟩ h;refine aq (D k [aN b6 e.bj] (be (bS k [.fa 21 6 22 71] (cH h (λl H=>a6 [(1,V.fn d [V.aS a,V.aS c]),(4,V.ref 20 0),(5,V.ref 21 0),(30,aF b6 e.bj),(31,U (e.bj.length:Int)),(32,U l.2)] [(20,E.cells [U 0,U 0,a1,U 0,bA [],a1,a1]),(21,E.cells [U e.kind,U e.num,aF ah R,U W,bA Z,aF aE f,ms 22 H 7 b6 l.1]),(22,aH 71 H 7 b6 l.1)] [20,21,22]) 1 (aO) ?_))));rintro p ⟨g,j⟩ B h;refine ai k (c7 h (λt h=>?_) λt h=>?_)
  ·refine ay (bH ?_);obtain⟨m,q,h⟩:=c5 h;refine D k [.z (.row (dF m)),.z (.nat 23),aB (hJ b6 q (gF m))] ?_;obtain⟨o,s,C,x,h⟩:=gD h;exact bu k bt [ao (K m d a c change i s),.z (.int 2),.z (.rows (bV b6 [o])),aB (q1 o),bY (b' b6 x),bF 7 jX g,bF 7 jX [o]] (bg k ⟨(C,wr (j+1)),(B+1),h,aO⟩)
  cases h;exact br (D k [.z (.at 2),.z (.bk 22 [] [21])] aC)
theorem Wb(G:cA)(n:Nat)(s:Stmt)(d:FuncId)(a:List T)(c:List T)(change:az->Option az)(e: ∀(l:az) r,change l=aa r->ba G d [V.agg (cw l),V.aS a,V.aS c] (V.agg (cw r))){r:Stmt}(h:qG n s change=aa r):ba G 161 [V.agg (fC s),V.fn d [V.aS a,V.aS c]] (V.agg (fC r)):=by refine bh aV func161 rfl λw X m=>D m [.z (.b (ab)),.z (.nat 20)] (aq (bG h λo i p k h=>?_));cases h;exact bu m bt [ao (Lh G n s.write d a c change e i),ao (Wd G n s.value d a c change e k)] aC
variable {r:Bool}{c:List Part}{k:Type}{l:List k}{i:Int}{x y:k}{o:Nat}{a:TypeInfo}{z:Value}
theorem To(G:cA)(n:Nat)(a:List Part)(i:Int)(p:Part)(o:ax a i=aa p)(g:Nat)(l:Int)(s:FuncId)(d:List T)(f:az->Option az)(Z: ∀(b:az) r,f b=aa r->ba G s [V.agg (cw b),V.aS d] (V.agg (cw r))){t:Part}(h:qg n p l f=aa t)(L:ca a i t=aa c):
  cv G 75 [E.a7 b4 0 g (a.map ar) []] [V.cK 0 g 2 (0+cE i) 0,U l,V.fn s [V.aS d]] (V.bL []) [E.a7 b4 0 g (bV ar c) []]:=by refine cD aV func75 rfl λw X v e S=>aq (ai e (dm e [.en 0 21 (0+cE i) 0 (ar p),.en 0 22 (0+cE i) 1 (ar p),.dr 22] (a2 (cg ar o) (cg ar o)) (be (ct h (λA=>a6 [(0,V.cK 0 g 2 (0+cE i) 0),(2,V.fn s [V.aS d]),(6,U A.2)] [(0,E.a7 b4 0 g (a.map ar) [((0+cE i),1,ms 22 1 9 bs p.body),((0+cE i),0,ms 21 1 2 av p.nest)]),(21,E.a7 b4 1 1 (A.1.map av) []),(22,aH 73 1 9 bs p.body)] [0,21,22]) aO ?_))));rintro H ⟨x,k⟩ h;refine al h λs1 q h=>aq (D e [bm ar o,.z (.nat x.length),aB (RJ av q)] (aA h (λI h=>ay (bH (cx h λM B ij Q kD R h=>au e [bm ar o,aB (Dj av q B),aY [21] [] (Tq G n x k M B 1 s d f Z Q R)] (bg e (an h))))) λI h=>br (D e [bm ar o,aN bs p.body] (be (ct h (λA=>a6 [(0,V.cK 0 g 2 (0+cE i) 0),(2,V.fn s [V.aS d]),(30,ms 22 1 9 bs A.1),(31,U (p.body.length:Int)),(32,U A.2)] [(0,E.a7 b4 0 g (a.map ar) [((0+cE i),1,ms 22 1 9 bs p.body),((0+cE i),0,ms 21 1 2 av p.nest)]),(21,E.a7 b4 1 1 (x.map av) []),(22,aH 73 1 9 bs A.1)] [0,21,22]) aO ?_)))));rintro K ⟨y,j⟩ h;refine al h λs2 C h=>ai e (c7 h (λN h=>ay (bH (al h λP m h=>D e [aB (bE bs m),bm bs m,.z (.nat 24)] (bG h λg' W u F h=>bu e bt [bm ar o,ao (Wc G n P s d f Z W),aB (Dj bs C m),bm bs m,.z (.rows (u.map bs)),aB (str bs F)] (dm e [.len 30 (u.map bs).length] (aL (cQ bs F)) (bg e (an h))))))) λN h=>?_);cases h;exact dm e [.ei 22 b4 2,.dz 0 22 (ar p) (bV ar (a.set i.toNat (⟨p.nest,y⟩:Part))),.dz 0 21 (ar (⟨p.nest,y⟩:Part)) (bV ar c)] (fV (jI bs C) (b3 b4) (cg ar o) (gn ar (xe L (⟨p.nest,y⟩:Part)) rfl) (jI av q) (b3 b4) (cg ar (va L (⟨p.nest,y⟩:Part))) (gn ar (xd L (⟨p.nest,y⟩:Part)) rfl)) (br p')
theorem Kj(G:cA)(n:Nat)(a:List Part)(i:Int)(p:Part)(q:ax a i=aa p)(g:Nat)(m:Int)(A:FuncId)(d:List T)(e:List T)(f:az->Option az)(b: ∀(t:az) r,f t=aa r->ba G A [V.agg (cw t),V.aS d,V.aS e] (V.agg (cw r))){u:Part}(h:qg n p m f=aa u)(Q:ca a i u=aa c):
  cv G 75 [E.a7 b4 0 g (a.map ar) []] [V.cK 0 g 2 (0+cE i) 0,U m,V.fn A [V.aS d,V.aS e]] (V.bL []) [E.a7 b4 0 g (bV ar c) []]:=by refine cD aV func75 rfl λw X I l bK=>aq (ai l (dm l [.en 0 21 (0+cE i) 0 (ar p),.en 0 22 (0+cE i) 1 (ar p),.dr 22] (a2 (cg ar q) (cg ar q)) (be (ct h (λB=>a6 [(0,V.cK 0 g 2 (0+cE i) 0),(2,V.fn A [V.aS d,V.aS e]),(6,U B.2)] [(0,E.a7 b4 0 g (a.map ar) [((0+cE i),1,ms 22 1 9 bs p.body),((0+cE i),0,ms 21 1 2 av p.nest)]),(21,E.a7 b4 1 1 (B.1.map av) []),(22,aH 73 1 9 bs p.body)] [0,21,22]) aO ?_))));rintro K ⟨x,k⟩ h;refine al h λs1 s h=>aq (D l [bm ar q,.z (.nat x.length),aB (RJ av s)] (aA h (λM h=>ay (bH (cx h λN C ij R kD W h=>au l [bm ar q,aB (Dj av s C),aY [21] [] (Tp G n x k N C 1 A d e f b R W)] (bg l (an h))))) λM h=>br (D l [bm ar q,aN bs p.body] (be (ct h (λB=>a6 [(0,V.cK 0 g 2 (0+cE i) 0),(2,V.fn A [V.aS d,V.aS e]),(30,ms 22 1 9 bs B.1),(31,U (p.body.length:Int)),(32,U B.2)] [(0,E.a7 b4 0 g (a.map ar) [((0+cE i),1,ms 22 1 9 bs p.body),((0+cE i),0,ms 21 1 2 av p.nest)]),(21,E.a7 b4 1 1 (x.map av) []),(22,aH 73 1 9 bs B.1)] [0,21,22]) aO ?_)))));rintro L ⟨y,j⟩ h;refine al h λs2 F h=>ai l (c7 h (λP h=>ay (bH (al h λS o h=>D l [aB (bE bs o),bm bs o,.z (.nat 24)] (bG h λg' Z v H h=>bu l bt [bm ar q,ao (Wb G n S A d e f b Z),aB (Dj bs F o),bm bs o,.z (.rows (v.map bs)),aB (str bs H)] (dm l [.len 30 (v.map bs).length] (aL (cQ bs H)) (bg l (an h))))))) λP h=>?_);cases h;exact dm l [.ei 22 b4 2,.dz 0 22 (ar p) (bV ar (a.set i.toNat (⟨p.nest,y⟩:Part))),.dz 0 21 (ar (⟨p.nest,y⟩:Part)) (bV ar c)] (fV (jI bs F) (b3 b4) (cg ar q) (gn ar (xe Q (⟨p.nest,y⟩:Part)) rfl) (jI av s) (b3 b4) (cg ar (va Q (⟨p.nest,y⟩:Part))) (gn ar (xd Q (⟨p.nest,y⟩:Part)) rfl)) (br p')
theorem U'(G:cA)(n:Nat)(a:az)(c:Int){r:az}(h:vY n a c=aa r):ba G 76 [V.agg (cw a),V.aS [T.int .i64 c]] (V.agg (cw r)):=bh aV func76 rfl λw X i=>D i [.z (.b (ab)),.z (.nat 20)] (al h λs o h=>D i [aY [] [21] (Ea G o),.z (.nat 22)] (aq (cx h λx k y d p e h=>bG h λA l q m h=>aw h▸bu i bt [aB (bE ah k),bm ah k,aB (bE ah d),bm ah d,aB (bE ah d),bm ah d,.z (.rows (p.map ah)),aB (str ah e),aB (Dk ah l (cQ ah e)),bm ah l,.z (.rows (q.map ah)),aB (str ah m)] (dm i [.len 11 (p.map ah).length,.fg 22 0 (p.map ah).length,.fg 22 0 (q.map ah).length] (a3 (cQ ah e) (cQ ah e) (cQ ah m)) (D i [.z (.at 2),.z (.bk 21 [] [22])] aC)))))
theorem rZ{p}{r}(h:mD n p=aa r):ba G 78 [V.agg (bZ p)] (V.bL [V.agg (bZ r.1),aM r.2]):=bh aV func78 rfl λw X a=>D a [.z (.b (ab)),.z (.nat 20)] (aq (al h λi c h=>D a [ao (kh G c)] (aA h (λe h=>aw h▸ai a aC) λe h=>ay (al h λk d h=>aw h▸D a [aY [] [21,22] (KK G d)] (bS a [.bk 21 [] [20]] (bS a [.bk 22 [] [20]] aC))))))
theorem acr{r:List k}{j:Int}(h:ca l i x=aa r)(a:ax l j=aa y)(c:0+i.toNat≠0+j.toNat):ax r j=aa y:=by obtain⟨_,_,rfl⟩:=uk h;obtain⟨d,e⟩:=nE a;unfold ax;rw[aR d,jr O];exact e
theorem afl(h:ax l i=aa x)(c:ax l (wr (i+1))=aa y)(d: ¬(i<0)):0+cE i≠0+cE (wr (i+1)):=by
 intro e;have m:=nE c;have o:=(nE h).1;have a:wr (i+1)=i:=O
 unfold wr at a;rw[IntKind.wrap_i64] at a;omega
theorem VL{p}{part}{loop}{r}(h:Em n p part loop=aa r):ba G 20 [V.agg (bZ p),U part,U loop] (V.bL [V.agg (bZ r.1),aM r.2]):=by
 refine bh aV func20 rfl λw X d=>D d [.z (.b (ab)),.z (.b (ab)),.z (.nat 20)] (aq (al h λM H h=>aZ h (λf h=>au d [ao (r4 G n p part loop H f),.z (.nat 21)] (aq (aq (bu d bt (dX 29) (kQ (b:=ab) Y (λe=>aw h▸ai d aC) λe=>by cases e))))) λf h=>au d [aY [] [21,22] (r3 G n p part loop H f),.z (.nat 23)] (aq (aq (kT (ag (loop<0)) (λe=>?_) λe=>?_)))));rotate_left
 ·have h:=iN e h;exact bu d bt ([b2,b2,b2]++aK 9 e++dX 17) (kQ (b:=ab) Y (λm=>aw h▸ai d aC) λm=>by cases m)
 have h:=iM e h;refine al h λA c h=>dm d [.en 22 24 (0+cE part) 0 (ar A)] (aL (cg ar c)) (kT (ag ((A.nest.length:Int)<=wr (loop+1))) (λo=>?_) λo=>?_);rotate_left
 ·have h:=iN o h;exact bu d bt ([b2,b2,b2]++aJ 6 e++[bm ar c,aG e,aN av A.nest,aG e,aG e]++aK 11 o++dX 6) (kQ (b:=ab) Y (λm=>aw h▸ai d aC) λm=>by cases m)
 have h:=iM o h;refine bG h λq a v K h=>dm d [.en 24 25 (0+cE (wr (loop+1))) 0 (av q),.en 24 26 (0+cE (wr (loop+1))) 1 (av q)] (a2 (cg av a) (cg av a)) (kT v (λC=>?_) λC=>?_);rotate_left
 ·have h:=iN C h;exact bu d bt ([b2,b2,b2]++aJ 6 e++[bm ar c,aG e,aN av A.nest,aG e,aG e]++aJ 4 o++[bm ar c]++aJ 3 o++[aB (bE av a),aG o,bm av a,aG o,aG o,.z (.b ab),.z (.nat 25),.z (.nat 26),ao (LW G K),aG o]++aK 6 C) (kQ (b:=ab) Y (λm=>aw h▸ai d aC) λm=>by cases m)
 have h:=iM C h;refine al h λg j h=>bu d bt ([b2,b2,b2]++aJ 6 e++[bm ar c,aG e,aN av A.nest,aG e,aG e]++aJ 4 o++[bm ar c]++aJ 3 o++[aB (bE av a),aG o,bm av a,aG o,aG o,.z (.b ab),.z (.nat 25),.z (.nat 26),ao (LW G K),aG o]++aJ 4 C++[ao (L4 G n p part 74 [T.int .i64 loop] (λF=>vZ n F loop) (λF t r h=>Va G n F t loop h) j),aG C,aG C]) (dR (b:= !g) (λm=>?_) λm=>?_)
 ·have m:g=ak:=by simpa using m
  have h:=iM m h;exact aw h▸ai d aC
 have m:g=ab:=by simpa using m
 have h:=iN m h;refine ay (aq (cx h λs k L l Q x h=>al h λR y h=>?_));have i:=afl k a (of_decide_eq_false e);exact dm d [.en 24 27 (0+cE loop) 0 (av s),.en 24 28 (0+cE loop) 1 (av s)] (a4 (cg av k) i (cg av k) i) (bu d bt [bm ar c,bm ar c,bm ar c,.z (.int 2),aB (bE av a),bm av a,bm ar c,aB (bE av k),bm av k,.z (.int 0),.z (.nat 2),aB (bE av k),bm av k,.z (.int 2),.z (.nat 2),aB (Ne.symm i),aB (Ne.symm i),aB (bE av a),bm av a,aB i,aB i] (dm d [.dz 24 26 (av s) (bV av (A.nest.set loop.toNat (⟨s.lo,q.hi⟩:Loop))),.dz 24 25 (av (⟨s.lo,q.hi⟩:Loop)) (L.map av),.dz 24 28 (av q) (bV av (L.set (wr (loop+1)).toNat (⟨q.lo,s.hi⟩:Loop))),.dz 24 27 (av (⟨q.lo,s.hi⟩:Loop)) (Q.map av),.dz 22 24 (ar A) (R.map ar)] (o4 (b3 (q.hi.map aE).length) (o4 (b3 b4) (o4 (cg av k) (o4 (gn av (xe l (⟨s.lo,q.hi⟩:Loop)) rfl) (o4 i (o4 (b3 (q.lo.map aE).length) (o4 (b3 b4) (o4 (cg av (va l (⟨s.lo,q.hi⟩:Loop))) (o4 (gn av (xd l (⟨s.lo,q.hi⟩:Loop)) rfl) (o4 i (a12 (b3 (s.hi.map aE).length) (b3 b4) (cg av (acr l a i)) (gn av (xe x (⟨q.lo,s.hi⟩:Loop)) rfl) (b3 (s.lo.map aE).length) (b3 b4) (cg av (va x (⟨q.lo,s.hi⟩:Loop))) (gn av (xd x (⟨q.lo,s.hi⟩:Loop)) rfl) ((cQ av l).trans (cQ av x)) (b3 b4) (cg ar c) (gn ar y rfl)))))))))))) (bG h λE W u B h=>D d [aY [22] [] (To G n R part (⟨Q,A.body⟩:Part) (CH y) 1 (wr (loop+2)) 76 [T.int .i64 loop] (λF=>vY n F loop) (λF r h=>U' G n F loop h) W B)] (dm d [.dr 22,.fg 23 1 (u.map ar).length,.bk 21 [] [23],.bk 22 [] [23]] (aL ((cQ ar y).trans (cQ ar B))) (al h λI Z h=>aw h▸D d [ao (rZ G Z)] aC)))))
theorem Wx(G:cA)(n:Nat)(a:az)(h:E4 n a=aa r):ba G 231 [V.agg (cw a)] (aM r):=bh aV func231 rfl λw X d=>D d [.z (.b (ab))] (al h λe c h=>aw h▸D d [ao (tr G c)] aC)
theorem FU{a}{r}(h:An n a=aa r):ba G 162 [aF aE a] (aM r):=bh aV func162 rfl λw X e=>ai e (al h λi c h=>aw h▸D e [ao (Uk G n a 231 (λd=>E4 n d) (λd r h=>Wx G n d h) c)] aC)
theorem KT{l}{r}(h:wx n l=aa r):ba G 79 [V.agg (j9 l)] (V.bL [U r.1,U r.2.1,aM r.2.2]):=bh aV func79 rfl λw X d=>D d [.z (.b (ab))] (aq (bo h (λp=>bQ [(1,V.aS (av l)),(26,aM p)]) (λs h=>aZ h (λa h=>aZ h (λc h=>al h λx e h=>aZ h (λi h=>al h λy k h=>au d ([aN aE l.lo]++aJ 3 a++[aN aE l.hi,aG a,aG a]++aJ 3 c++[ao (FU G e),aG c,aG c]++aJ 3 i++[ao (FU G k),aG i,aG i]) (an h)) λi h=>au d ([aN aE l.lo]++aJ 3 a++[aN aE l.hi,aG a,aG a]++aJ 3 c++[ao (FU G e),aG c,aG c]++aK 5 i) (an h)) λc h=>au d ([aN aE l.lo]++aJ 3 a++[aN aE l.hi,aG a,aG a]++aK 5 c++dX 5) (an h)) λa h=>au d ([aN aE l.lo]++aK 5 a++dX 10) (an h)) λA h=>aA h (λq h=>aw h▸ai d aC) λq h=>ay (aq (bG h λB m C o h=>aw h▸bu d bt [a' aE m,a' aE o] aC))))
theorem U6(G:cA)(n:Nat)(d:List Int)(e:Nat)(a:Int){r:(List Int)}(h:vW n d a=aa r):cv G 80 [aH 3 e 1 ah d] [ms 0 e 1 ah d,V.aS [T.int .i64 a]] (V.bL []) [aH 3 e 1 ah r]:=cD aV func80 rfl λw X k l o=>bG h λp c m i h=>aw h▸bu l bt [aB (bE ah c),bm ah c,aB (bE ah c),bm ah c,.z (.rows (m.map ah)),aB (str ah i)] p'
theorem wz{a}{r}(h:qC n a=aa r):cv G 90 [] [U a] (V.agg [ms 0 1 1 ah r.aT,U r.const]) [aH 3 1 1 ah r.aT]:=cD aV func90 rfl λw X e d i=>D d [.z (.nat 20)] (al h λk c h=>aw h▸D d [.z (.nat 21),bY (sT ah c),aB (pr c).1] (bS d [.dT 21 0 [] [20]] cG))
theorem tV{v}{k}{r}(h:oq n v k=aa r):cv G 81 [] [U v,U k] (V.agg [ms 0 1 1 ah r.aT,U r.const]) [aH 3 1 1 ah r.aT]:=cD aV func81 rfl λw X l a m=>D a [.z (.nat 20)] (al h λo e h=>D a [aY [] [21] (wz G e),.z (.nat 22)] (bG h λp c i d h=>aw h▸D a [aB (bE ah c),bm ah c,.z (.rows (i.map ah)),.z (.fg 22 0 (i.map ah).length),aB (str ah d),aB (cQ ah d)] (ai a (bS a [.dT 21 0 [] [20,22]] cG))))
theorem Ck{a}{k}{b}{r}(h:s3 n a k b=aa r):cv G 87 [] [V.agg (cw a),U k,V.agg (cw b)] (V.agg [ms 0 1 1 ah r.aT,U r.const]) [aH 3 1 1 ah r.aT]:=by refine cD aV func87 rfl λw X s c C=>D c [.z (.b (ab)),.z (.b (ab)),.z (.nat 20)] (al h λx l h=>D c [aY [] [21] (Ea G l),.z (.nat 22)] (aq (D c [aN ah b.aT] (be (cH h (λm q=>a6 [(1,U k),(5,V.aS (aE b)),(6,V.ref 20 0),(7,V.ref 22 0),(13,aF ah b.aT),(14,U (b.aT.length:Int)),(15,U m.2)] [(20,E.cells [a1,U 0]),(21,aH 3 q 1 ah m.1),(22,E.cells [ms 21 q 1 ah m.1,U x.const])] [20,21,22]) 1 (aO) ?_)))));rintro i ⟨F,y⟩ A h;exact ai c (c7 h (λB h=>ay (bH (al h λH o h=>D c [a' ah o] (bG h λK d p e h=>au c [aB (bE ah d),bm ah d,aB (bE ah d),bm ah d,.z (.rows (p.map ah)),.z (.fg 22 0 (p.map ah).length),aB (str ah e),aB (cQ ah e)] (bg c ⟨(p,wr (y+1)),A,h,aO⟩))))) λB h=>aw h▸br (ai c (ai c (bS c [.dT 21 0 [] [20,22]] cG))))
theorem G0{a}{v}{b}{r}(h:u2 n a v b=aa r):cv G 83 [] [V.agg (cw a),U v,V.agg (cw b)] (V.agg [ms 0 1 1 ah r.aT,U r.const]) [aH 3 1 1 ah r.aT]:=cD aV func83 rfl λw X m d o=>D d [.z (.b (ab)),.z (.b (ab)),.z (.nat 20)] (al h λp i h=>D d [aY [] [21] (Ea G i),.z (.nat 22)] (al h λq c h=>D d [aB (bE ah c),bm ah c] (al h λl e h=>D d [aB (bE ah c),bm ah c,.z (.rows (l.map ah)),.z (.fg 22 0 (l.map ah).length),aB (str ah e),aB (cQ ah e)] (al h λs k h=>aw h▸D d [.z (.at 5),.z (.bk 21 [] [22]),aY [] [23] (Ck G k)] (bS d [.dT 23 0 [] [20]] cG)))))
theorem U5(G:cA)(n:Nat)(a:az)(c:Int)(d:az){r:az}(h:vV n a c d=aa r):ba G 82 [V.agg (cw a),V.aS [T.int .i64 c],V.aS (aE d)] (V.agg (cw r)):=bh aV func82 rfl λw X e=>D e [.z (.b (ab)),.z (.nat 20)] (al h λk i h=>aw h▸D e [aY [] [21] (G0 G i)] (bS e [.bk 21 [] [20]] aC))
theorem VJ{p}{part}{loop}{r}(h:Ek n p part loop=aa r):ba G 21 [V.agg (bZ p),U part,U loop] (V.bL [V.agg (bZ r.1),aM r.2]):=by
 refine bh aV func21 rfl λw X a=>D a [.z (.b (ab)),.z (.b (ab)),.z (.nat 20)] (aq (al h λW q h=>aZ h (λA h=>au a [ao (r4 G n p part loop q A),.z (.nat 21)] (aq (D a [ev,ev,ev] (kQ (b:=ab) Y (λZ=>aw h▸ai a aC) λZ=>by cases Z)))) λA h=>au a [aY [] [21,22] (r3 G n p part loop q A),.z (.nat 23)] (aq (D a [b2,b2,b2] (aA h (λf h=>aw h▸ai a aC) λf h=>ay (aq (cx h λm d o c i B h=>dm a [.en 22 24 (0+cE part) 0 (ar m),.en 24 25 (0+cE loop) 0 (av o),.en 24 26 (0+cE loop) 1 (av o)] (a3 (cg ar d) (cg av c) (cg av c)) (bu a bt [bm ar d,aB (bE av c),bm av c,.z (.b ab),.z (.nat 25),.z (.nat 26),ao (KT G B)] (dm a [.dz 24 26 (av o) (m.nest.map av),.dz 24 25 (av o) (m.nest.map av),.dz 22 24 (ar m) (W.1.parts.map ar)] (a12 (b3 (o.hi.map aE).length) (b3 b4) (cg av c) (iU av c rfl) (b3 (o.lo.map aE).length) (b3 b4) (cg av c) (iU av c rfl) (b3 (m.nest.map av).length) (b3 b4) (cg ar d) (iU ar d rfl)) (aq (aq (aZ h (λC h=>?_) λC h=>?_))))))))))))
 ·have s:(!i.2.2)=ab:=by rw[C];rfl
  exact au a (aK 6 s) (kQ (b:=ab) Y (λe=>aw h▸ai a aC) λe=>by cases e)
 have s:(!i.2.2)=ak:=by rw[C];rfl
 refine al h λF H h=>au a (aJ 4 s++[ao (L4 G n p part 80 [T.int .i64 loop] (λl=>vW n l loop) (λl K r h=>U6 G n l K loop h) H),aG s,aG s]) (dR (b:= !F) (λe=>?_) λe=>?_)
 ·have e:F=ak:=by simpa using e
  have h:=iM e h;exact aw h▸ai a aC
 have e:F=ab:=by simpa using e
 have h:=iN e h;exact ay (al h λL Q h=>D a [aY [] [28] (tV G Q),.z (.nat 29)] (ai a (bS a [.bk 28 [] [29],.tt 29 [13]] (bG h λg x R k h=>D a [aY [22] [] (Kj G n W.1.parts part m d 1 (wr (loop+1)) 82 [T.int .i64 loop] [T.bD (L.aT.map ah),T.int .i64 (wr ((wr (i.1+i.2.1))-1))] (λl=>vV n l loop (⟨L.aT,wr ((wr (i.1+i.2.1))-1)⟩:az)) (λl r h=>U5 G n l loop (⟨L.aT,wr ((wr (i.1+i.2.1))-1)⟩:az) h) x k)] (dm a [.dr 22,.fg 23 1 (R.map ar).length,.bk 21 [] [23],.bk 22 [] [23]] (aL (cQ ar k)) (al h λj y h=>aw h▸D a [ao (rZ G y)] aC))))))
theorem Nn{a}{r}(h:xR n a=aa r):ba G 84 [U a] (aM r):=bh aV func84 rfl λw X d=>ai d (al h λe c h=>aw h▸D d [ao (gh G c)] aC)
theorem VW(G:cA)(n:Nat)(a:az)(c:Int)(d:Int){r:az}(h:zz n a c d=aa r):ba G 86 [V.agg (cw a),V.aS [T.int .i64 c],V.aS [T.int .i64 d]] (V.agg (cw r)):=bh aV func86 rfl λw X e=>D e [.z (.b (ab)),.z (.nat 20)] (aq (bG h λl i m k h=>aw h▸bu e bt [aY [] [21] (tV G i),.z (.at 2),.z (.bk 21 [8] []),aY [] [22] (Ck G k)] (bS e [.bk 22 [] [20]] aC)))
theorem VV(G:cA)(n:Nat)(a:az)(c:Int)(d:az){r:az}(h:m7 n a c d=aa r):ba G 88 [V.agg (cw a),V.aS [T.int .i64 c],V.aS (aE d)] (V.agg (cw r)):=bh aV func88 rfl λw X e=>D e [.z (.b (ab)),.z (.nat 20)] (al h λk i h=>aw h▸D e [aY [] [21] (G0 G i)] (bS e [.bk 21 [] [20]] aC))
theorem Xw{p}{part}{loop}{d}{r}(h:AK n p part loop d=aa r):ba G 22 [V.agg (bZ p),U part,U loop,U d] (V.bL [V.agg (bZ r.1),aM r.2]):=bh aV func22 rfl λw X c=>D c [.z (.b (ab)),.z (.b (ab)),.z (.b (ab)),.z (.nat 20)] (aq (al h λo s h=>aZ h (λF h=>au c [ao (r4 G n p part loop s F),.z (.nat 21)] (aq (aq (bu c bt (dX 16) (kQ (b:=ab) Y (λe=>aw h▸ai c aC) λe=>by cases e))))) λF h=>au c [aY [] [21,22] (r3 G n p part loop s F),.z (.nat 23)] (aq (bo h (λf=>a6 [(6,V.aS [T.int .i64 loop]),(7,V.aS [T.int .i64 d]),(8,V.ref 20 0),(10,V.ref 23 0),(11,V.cK 22 1 2 (0+cE part) 0),(42,aM f)] [(20,E.cells [a1,a1]),(21,aH 55 1 2 bw o.1.aP),(22,E.a7 b4 0 1 (o.1.parts.map ar) []),(23,E.cells [ms 21 1 2 bw o.1.aP,ms 22 1 2 ar o.1.parts])] [20,21,22,23]) (λM h=>aZ h (λe h=>al h λi a h=>dm c [.en 22 24 (0+cE part) 0 (ar i)] (aL (cg ar a)) (aZ h (λq h=>al h λg H h=>bu c bt ([b2,b2,b2]++aJ 6 e++[bm ar a,aG e,aN av i.nest,aG e,aG e,aG q,aG q,ao (Nn G H),aG q,aG q]) ⟨!g,h,S.le.trans (od c [.dz 22 24 (ar i) (o.1.parts.map ar)] (a4 (b3 (i.nest.map av).length) (b3 b4) (cg ar a) (iU ar a rfl))) (aO)⟩) λq h=>bu c bt ([b2,b2,b2]++aJ 6 e++[bm ar a,aG e,aN av i.nest,aG e,aG e]++aK 4 q) ⟨ab,h,S.le.trans (od c [.dz 22 24 (ar i) (o.1.parts.map ar)] (a4 (b3 (i.nest.map av).length) (b3 b4) (cg ar a) (iU ar a rfl))) (aO)⟩)) λe h=>bu c bt ([b2,b2,b2]++aK 9 e++dX 4) (an h)) λN h=>aA h (λj h=>aw h▸ai c aC) λj h=>ay (aq (cx h λi a t x P K h=>bG h λu y A k h=>bu c bt [.z (.en 22 25 (0+cE part) 0 (ar i)),bm ar a,aB (cg ar a),aB (bE av x),aY [25] [] (Tp G n i.nest (wr (loop+1)) t x 1 86 [T.int .i64 d] [T.int .i64 loop] (λm=>zz n m d loop) (λm r h=>VW G n m d loop h) K y)] (dm c [.dz 22 25 (ar i) (A.map ar)] (a4 (cQ av y) (b3 b4) (cg ar a) (gn ar k rfl)) (aq (al h λUe L h=>al h λKZ Q h=>al h λR W h=>bu c bt [aY [] [26] (tV G L),aY [] [27] (tV G Q),.z (.at 3),.z (.bk 26 [55] []),.z (.at 3),.z (.bk 27 [59] []),aY [] [28] (Ck G W),.z (.nat 29)] (bS c [.bk 28 [] [29],.tt 29 [13]] (bG h λv B Z l h=>D c [aY [22] [] (Kj G n A part (⟨u,i.body⟩:Part) (CH k) 1 (wr (loop+2)) 88 [T.int .i64 loop] (aE R) (λm=>m7 n m loop R) (λm r h=>VV G n m loop R h) B l)] (dm c [.dr 22,.fg 23 1 (Z.map ar).length,.bk 21 [] [23],.bk 22 [] [23]] (aL ((cQ ar k).trans (cQ ar l))) (al h λI C h=>aw h▸D c [ao (rZ G C)] aC)))))))))))))
theorem VI(G:cA)(n:Nat)(a:az)(c:Int){r:az}(h:zp n a c=aa r):ba G 89 [V.agg (cw a),V.aS [T.int .i64 c]] (V.agg (cw r)):=bh aV func89 rfl λw X d=>D d [.z (.b (ab)),.z (.nat 20)] (aq (bG h λk e l i h=>aw h▸bu d bt [aY [] [21] (wz G e),.z (.at 2),.z (.bk 21 [6] []),aY [] [22] (Ck G i)] (bS d [.bk 22 [] [20]] aC)))
theorem VH(G:cA)(n:Nat)(a:az)(c:Int)(d:az){r:az}(h:wo n a c d=aa r):ba G 91 [V.agg (cw a),V.aS [T.int .i64 c],V.aS (aE d)] (V.agg (cw r)):=bh aV func91 rfl λw X e=>D e [.z (.b (ab)),.z (.nat 20)] (al h λk i h=>aw h▸D e [aY [] [21] (G0 G i)] (bS e [.bk 21 [] [20]] aC))
theorem WD{p}{part}{loop}{a}{r}(h:Fk n p part loop a=aa r):ba G 23 [V.agg (bZ p),U part,U loop,U a] (V.bL [V.agg (bZ r.1),aM r.2]):=bh aV func23 rfl λw X c=>D c [.z (.b (ab)),.z (.b (ab)),.z (.b (ab)),.z (.nat 20)] (aq (al h λA m h=>aZ h (λC h=>au c [ao (r4 G n p part loop m C),.z (.nat 21)] (aq (D c (dX 7) (kQ (b:=ab) Y (λe=>aw h▸ai c aC) λe=>by cases e)))) λC h=>au c [aY [] [21,22] (r3 G n p part loop m C),.z (.nat 23)] (aq (bo h (λR=>a6 [(6,V.aS [T.int .i64 loop]),(7,V.aS [T.int .i64 a]),(8,V.ref 20 0),(10,V.ref 23 0),(11,V.cK 22 1 2 (0+cE part) 0),(32,aM R)] [(20,E.cells [a1,a1]),(21,aH 55 1 2 bw A.1.aP),(22,E.a7 b4 0 1 (A.1.parts.map ar) []),(23,E.cells [ms 21 1 2 bw A.1.aP,ms 22 1 2 ar A.1.parts])] [20,21,22,23]) (λt h=>aZ h (λe h=>al h λu F h=>au c [b2,b2,b2,aG e,aG e,ao (Nn G F),aG e,aG e] (an h)) λe h=>au c ([b2,b2,b2]++aK 4 e) (an h)) λv h=>aA h (λW h=>aw h▸ai c aC) λW h=>ay (aq (cx h λB k Z o I H h=>bG h λf q s d h=>bu c bt [.z (.en 22 25 (0+cE part) 0 (ar B)),bm ar k,aB (cg ar k),aB (bE av o),aY [25] [] (Tq G n B.nest loop Z o 1 89 [T.int .i64 a] (λl=>zp n l a) (λl r h=>VI G n l a h) H q)] (dm c [.dz 22 25 (ar B) (s.map ar)] (a4 (cQ av q) (b3 b4) (cg ar k) (gn ar d rfl)) (al h λK L h=>D c [aY [] [26] (tV G L),.z (.nat 27)] (ai c (bS c [.bk 26 [] [27],.tt 27 [13]] (bG h λg x Q i h=>D c [aY [22] [] (Kj G n s part (⟨f,B.body⟩:Part) (CH d) 1 (wr (loop+1)) 91 [T.int .i64 loop] [T.bD (K.aT.map ah),T.int .i64 (wr (0-a))] (λl=>wo n l loop (⟨K.aT,wr (0-a)⟩:az)) (λl r h=>VH G n l loop (⟨K.aT,wr (0-a)⟩:az) h) x i)] (dm c [.dr 22,.fg 23 1 (Q.map ar).length,.bk 21 [] [23],.bk 22 [] [23]] (aL ((cQ ar d).trans (cQ ar i))) (al h λj y h=>aw h▸D c [ao (rZ G y)] aC)))))))))))))
theorem ad4(f:k->List T){x:List k}{m:Nat}(c:o<l.length)(a:m=l.length-o):o+m<=(l.map f).length/\(tf l o x).map f=(l.map f).take o++(x.map f).take (Nat.min (x.map f).length m)++(l.map f).drop (o+Nat.min (x.map f).length m):=by subst a;refine⟨by rw[dJ];omega,?_⟩;unfold tf;rw[eM,eM,uK,uK,List.map_drop,dJ]
theorem Pl(f:k->List T){x:List k}(a:o<l.length):(l.map f).length=((tf l o x).map f).length:=by
 unfold tf;simp only[List.length_map,List.length_append,List.length_take,List.length_drop]
 have:Nat.min x.length (l.length-o)=min x.length (l.length-o):=rfl;omega
theorem VG(G:cA)(n:Nat)(a:az)(c:Int){r:az}(h:wm n a c=aa r):ba G 93 [V.agg (cw a),V.aS [T.int .i64 c]] (V.agg (cw r)):=by
 refine bh aV func93 rfl λw X e=>D e [.z (.b (ab)),.z (.nat 20)] (al h λd y h=>D e [aY [] [21] (Ea G y),.z (.nat 22)] (kT (ag ((0:Int)<=wr (c+1))) (λq=>?_) λq=>?_))
 ·have h:=iM q h;exact kv h
 have h:=iN q h;refine kT (ag (wr (c+1)<(d.aT.length:Int))) (λs=>?_) λs=>?_
 ·have h:=iM s h;exact kv h
 have h:=iN s h;have C:=fF q;have F:=fF s;exact cx h λi A H k B p h=>aw h▸aq (bu e bt [.z (.nat (wr (c+1)).toNat),.z (.nat (d.aT.length-(wr (c+1)).toNat)),aB (OY ah d.aT C F),bY (qL ah A),.z (.rows (bV ah (tf d.aT (wr (c+1)).toNat i))),.z (.nat (Nat.min (i.map ah).length (d.aT.length-(wr (c+1)).toNat))),dy a.aT,dy i,aB (ad4 ah (l:=d.aT) (x:=i) (o:=(wr (c+1)).toNat) (m:=d.aT.length-(wr (c+1)).toNat) O rfl)] (D e [aB (Dk ah k (Pl ah (l:=d.aT) (x:=i) (o:=(wr (c+1)).toNat) O)),bm ah k,.z (.rows (B.map ah)),.z (.fg 22 0 (B.map ah).length),aB (str ah p),aB ((Pl ah (l:=d.aT) (x:=i) (o:=(wr (c+1)).toNat) O).trans (cQ ah p))] (bS e [.bk 21 [] [22]] (ai e aC))))
open Go.RowKit Go.Lib in
set_option maxHeartbeats 4000000 in
set_option maxRecDepth 100000 in
theorem WR(b n c i d m s:Nat)(l vs:List Value)(w:World)(hi:i<n)(hm:0<m)(Q:n+m<=c)(U:c<=9223372036854775807)(y:d≠b)
  (R:l.length=n*2) (X:vs.length=m*2)
  (Z: ∀j v,l[j]? =aa v->w.cell? ⟨b,j,aj⟩=aa v) (q: ∀j,j<(n+m)*2->(w.cell? ⟨b,j,aj⟩).isSome=ab) (z: ∀j,w.frozen? ⟨b,j,aj⟩=ak)
  (f: ∀j v,vs[j]? =aa v->w.cell? ⟨d,j,aj⟩=aa v) (g: ∀v∈l,v.oneCell'=ab) (t: ∀v∈vs,v.oneCell'=ab)
  (V ux:TypeId) (u D:Nat) (E:w.shape? d=aa (V,u)) (I:w.shape? b=aa (ux,D)) (M:D≠0) (A: ∀j,w.frozen? ⟨d,j,aj⟩=ak):
  Calls prog 94 #[.slice (aa ⟨b,0,aj⟩) n c,.int .i64 i,.slice (aa ⟨d,0,aj⟩) m s] w λe w'=>
   e= .returned (.slice (aa ⟨b,0,aj⟩) (n+m) c)/\w'=(w.drew.setCells b ((i+m)*2) (l.drop (i*2))).setCells b (i*2) vs:=by
 have y0: ¬((m:Int)=0):=O
 have qv: ¬((i:Int)=(n:Int)):=O
 have nw:IntKind.i64.wrap ((i:Int)+(m:Int))=(i:Int)+(m:Int):=by rw[IntKind.wrap_i64];omega
 have nv:(0:Int)<=(i:Int)+(m:Int):=O
 have lA:i<=n:=O
 have JT:((i:Int)+(m:Int)).toNat=i+m:=O
 have vN: ¬(c=i+m):=O
 have yN:(i:Int)<=(n:Int)+(m:Int):=O
 have agY: ¬(c=i):=O
 have N: ∀P S,(callFunc 163 #[.slice (aa ⟨d,0,aj⟩) m s,.slice (aa ⟨b,(i+m)*2,aj⟩) P S]).run prog w= .ok (.value (.bool ak)) w:=λP S=>by
  rw[run_callFunc_extern func163 Y Y Y (e:=Extern.SlicesOverlaps.overlaps #[58,58] #[4]) Y,
   Lib.run_overlaps_apart w 58 4 101 underlying58 2 sizeOf101 ⟨d,0,aj⟩ ⟨b,(i+m)*2,aj⟩ m s P S y V ux u D E I M (A 0) (A u)]
  rfl
 have B:(l.drop (i*2)).length=(n-i)*2:=by rw[fM,R];omega
 have C:(prog.info? 101).map (·.size)=aa 2:=Y
 have p: ∀ty r k0,(Builtin.copy_ #[58,58] ty #[.slice (aa ⟨b,(i+m)*2,aj⟩) (n+m-(i+m)) r,.slice (aa ⟨b,i*2,aj⟩) (n+m-i) k0]).run prog w.drew= .ok (goInt ((n-i:Nat):Int)) (w.drew.setCells b ((i+m)*2) (l.drop (i*2))):=λty r k0=>
  r' w.drew 58 58 ty 101 2 b ((i+m)*2) (n+m-(i+m)) r ⟨b,i*2,aj⟩ (n+m-i) k0 (n-i) (l.drop (i*2)) underlying58 C (by simp only[Nat.min_def];split<;>omega) B
   (λj v o=>by rw[Addr.add_lit];exact Z (i*2+j) v (by rwa [gY] at o))
   (λj o=>q _ O) (λj o=>z _) λv bW=>g v (fq bW)
 obtain⟨F,a⟩: ∃F,F=w.drew.setCells b ((i+m)*2) (l.drop (i*2)):=⟨_,rfl⟩
 have H: ∀k,k<(n+m)*2->(F.cell? ⟨b,k,aj⟩).isSome=ab:=λk hk=>by
  rw[a];exact DY b (l.drop (i*2)) ((i+m)*2) w.drew (λj o=>q _ (by rw[B] at o;omega)) k (q k hk)
 have K: ∀(W:World),(∀x,W.cell? x=F.cell? x)->(∀x,W.frozen? x=F.frozen? x)-> ∀ty r,(Builtin.copy_ #[58,58] ty #[.slice (aa ⟨b,i*2,aj⟩) (n+m-i) r,.slice (aa ⟨d,0,aj⟩) m s]).run prog W= .ok (goInt m) (W.setCells b (i*2) vs):=λW L T ty r=>
  r' W 58 58 ty 101 2 b (i*2) (n+m-i) r ⟨d,0,aj⟩ m s m vs underlying58 C (by simp only[Nat.min_def];split<;>omega) X
   (λj v o=>by
    rw[Addr.add_lit,dQ,L,a,World.cell?_setCells_out b _ _ _ _ λh _=>bB h y];exact f j v o)
   (λj o=>by rw[L];exact H _ O) (λj o=>by rw[T,a,World.frozen?_setCells];exact z _) t
 rw[<-a] at p
 go_enter func94,Tryz.ntmps94
 go_wp2_with (simp only[N])
 go_region_law (refine D' rfl _ _ 58 58 rfl _ _ (by simp[Act.eval,Act.put]) (by simp[Act.eval,Act.put]) (p _ _ _) ?_)
 go_wp2_with (at_builtin;refine vH _ rfl _ _ 58 58 rfl _ _ rfl rfl (K _ (λ_=>rfl) (λ_=>rfl) _ _) ?_)
 go_ret
 first|exact⟨rfl,rfl⟩|exact⟨rfl,by rw[a]⟩
open Go.RowKit Go.Lib in
set_option maxHeartbeats 4000000 in
set_option maxRecDepth 100000 in
theorem WV(b n c i y m P:Nat)(k l:List Value)(w:World)(hi:i<n)(hm:0<m)(ahC:n<=c)(C:c<n+m)(F:TypeInfo)(z:Value)(R:prog.info? 101=aa F)(S:F.zero=aa z)(X:F.size=2)(T:z.cells.size=2)(hle:n+m<=1000000000)(Z:(n+m)*F.bytes<=140737488355328)
  (U:k.length=n*2) (f:l.length=m*2)
  (H: ∀j v,k[j]? =aa v->w.cell? ⟨b,j,aj⟩=aa v)
  (g: ∀j v,l[j]? =aa v->w.cell? ⟨y,j,aj⟩=aa v) (V: ∀v∈k,v.oneCell'=ab) (qh: ∀v∈l,v.oneCell'=ab):
  Calls prog 94 #[.slice (aa ⟨b,0,aj⟩) n c,.int .i64 i,.slice (aa ⟨y,0,aj⟩) m P] w λe w'=>
   e= .returned (.slice (aa ⟨w.heap.size,0,aj⟩) (n+m) (grownCap w (n+m) c 101))/\
   w'=(((w.alloc (.cells ((k.take (i*2)).toArray++eR z.cells (n+m-i)++eR z.cells (grownCap w (n+m) c 101-(n+m))) 101)).drew.setCells w.heap.size (i*2) l).drew).setCells w.heap.size ((i+m)*2) (k.drop (i*2)):=by
 have y0: ¬((m:Int)=0):=O
 have qv: ¬((i:Int)=(n:Int)):=O
 have aij:(c:Int)<(n:Int)+(m:Int):=O
 have u:(prog.info? 101).map (·.size)=aa 2:=by rw[R];simp[X]
 have Jy:b<w.heap.size:=block_lt_of_cell (H 0 _ (bp O));have JW:y<w.heap.size:=block_lt_of_cell (g 0 _ (bp O));have D:(n:Int)+(m:Int)-(i:Int)=((n+m-i:Nat):Int):=O
 have K:i+(n+m-i)=n+m:=O
 have A:(Builtin.firstCells F.size i (.slice (aa ⟨b,0,aj⟩) i c)).run prog w.drew= .ok (k.take (i*2)).toArray w.drew:=by
  rw[X];exact run_firstCells_some w.drew 2 i ⟨b,0,aj⟩ i c (k.take (i*2)) (by rw[cZ];omega) (λj v d=>by
   rw[Addr.add_lit,dQ];rw[gZ] at d;split at d
   ·exact H j v d
   cases d)
 have s: ∀ty,(Builtin.append_ #[58,3] ty #[.slice (aa ⟨b,0,aj⟩) i c,.int .i64 ((n:Int)+(m:Int)-(i:Int))]).run prog w=
   .ok (.slice (aa ⟨w.heap.size,0,aj⟩) (n+m) (grownCap w (n+m) c 101)) (w.drew.alloc (.cells ((k.take (i*2)).toArray++eR z.cells (n+m-i)++eR z.cells (grownCap w (n+m) c 101-(n+m))) 101)):=λty=>by
  have h:=Lib.run_append_grow_zeros w 58 3 ty 101 F z .i64 .i64 underlying58 underlying3 R S (aa ⟨b,0,aj⟩) i c (k.take (i*2)) A (n+m-i) O O O O (by
   have:=eh F.bytes (O:n+m-i<=n+m);omega) (by rw[K];exact growslice_fits C Z)
  rw[K] at h;rw[D];exact h
 obtain⟨G,N⟩: ∃G,G=grownCap w (n+m) c 101:=⟨_,rfl⟩
 obtain⟨a,p⟩: ∃a:Array Value,a=(k.take (i*2)).toArray++eR z.cells (n+m-i)++eR z.cells (G-(n+m)):=⟨_,rfl⟩
 rw[<-N] at s⊢;rw[<-p] at s⊢;have o':(n+m)*2<=a.size:=by
  rw[p];simp[eR,T];omega
 obtain⟨q,o⟩: ∃q,q=w.drew.alloc (.cells a 101):=⟨_,rfl⟩
 rw[<-o] at s;have gy: ∀j,j<(n+m)*2->(q.cell? ⟨w.heap.size,j,aj⟩).isSome=ab:=λj d=>by
  rw[o,World.cell?_alloc_at (w:=w.drew) a _ w.heap.size j rfl,iX O];rfl
 have E: ∀j,q.frozen? ⟨w.heap.size,j,aj⟩=ak:=λj=>by rw[o];exact World.frozen?_alloc_at (w:=w.drew) a _ w.heap.size j rfl
 have Jt: ∀j v,w.cell? ⟨b,j,aj⟩=aa v->q.cell? ⟨b,j,aj⟩=aa v:=λj v h=>by rw[o,World.cell?_alloc_past (w:=w.drew) _ b j Jy];exact h
 have Ju: ∀j v,w.cell? ⟨y,j,aj⟩=aa v->q.cell? ⟨y,j,aj⟩=aa v:=λj v h=>by rw[o,World.cell?_alloc_past (w:=w.drew) _ y j JW];exact h
 have I: ∀(W:World),(∀x,W.cell? x=q.cell? x)->(∀x,W.frozen? x=q.frozen? x)-> ∀ty L,(Builtin.copy_ #[58,58] ty #[.slice (aa ⟨w.heap.size,i*2,aj⟩) (n+m-i) L,.slice (aa ⟨y,0,aj⟩) m P]).run prog W= .ok (goInt m) (W.setCells w.heap.size (i*2) l):=λW r Q ty L=>
  r' W 58 58 ty 101 2 w.heap.size (i*2) (n+m-i) L ⟨y,0,aj⟩ m P m l underlying58 u (by simp only[Nat.min_def];split<;>omega) f
   (λj v d=>by rw[Addr.add_lit,dQ,r];exact Ju _ v (g j v d))
   (λj d=>by rw[r];exact gy _ O) (λj d=>by rw[Q];exact E _) qh
 have Jp:n+m<=G:=by rw[N];exact grownCap_ge w _ _ _
 have agL:G<=9223372036854775807:=by
  have:=grownCap_le_maxLen w (n+m) c 101 (by unfold maxLen;omega);rw[<-N] at this;unfold maxLen at this;omega
 have agM: ¬(G=i):=O
 have agN: ¬(G=i+m):=O
 have ag1: ¬(c=i):=O
 have Jx:b≠w.heap.size:=O
 have M:(k.drop (i*2)).length=(n-i)*2:=by rw[fM,U];omega
 have B: ∀(W:World),(∀x,W.cell? x=(q.setCells w.heap.size (i*2) l).cell? x)->(∀x,W.frozen? x=(q.setCells w.heap.size (i*2) l).frozen? x)-> ∀ty L k0,(Builtin.copy_ #[58,58] ty #[.slice (aa ⟨w.heap.size,(i+m)*2,aj⟩) (n+m-(i+m)) L,.slice (aa ⟨b,i*2,aj⟩) (n-i) k0]).run prog W= .ok (goInt ((n-i:Nat):Int)) (W.setCells w.heap.size ((i+m)*2) (k.drop (i*2))):=λW r Q ty L k0=>
  r' W 58 58 ty 101 2 w.heap.size ((i+m)*2) (n+m-(i+m)) L ⟨b,i*2,aj⟩ (n-i) k0 (n-i) (k.drop (i*2)) underlying58 u (by simp only[Nat.min_def];split<;>omega) M
   (λj v d=>by
    rw[Addr.add_lit,r,World.cell?_setCells_out _ _ _ _ _ λh _=>bB h Jx];exact Jt _ v (H (i*2+j) v (by rwa [gY] at d)))
   (λj d=>by rw[r];exact DY w.heap.size l (i*2) q (λt gJ=>gy _ (by rw[f] at gJ;omega)) _ (gy _ (by rw[M] at d;omega)))
   (λj d=>by rw[Q,World.frozen?_setCells];exact E _) λv bW=>V v (fq bW)
 subst o;have Jn: ∀x,((w.alloc (.cells a 101)).drew).cell? x=(w.drew.alloc (.cells a 101)).cell? x:=λx=>rfl;have Jo: ∀x,((w.alloc (.cells a 101)).drew).frozen? x=(w.drew.alloc (.cells a 101)).frozen? x:=λx=>rfl;have tw: ∀x,(((w.alloc (.cells a 101)).drew.setCells w.heap.size (i*2) l).drew).cell? x=((w.drew.alloc (.cells a 101)).setCells w.heap.size (i*2) l).cell? x:=λx=>rfl;have tx: ∀x,(((w.alloc (.cells a 101)).drew.setCells w.heap.size (i*2) l).drew).frozen? x=((w.drew.alloc (.cells a 101)).setCells w.heap.size (i*2) l).frozen? x:=λx=>rfl;have nw:IntKind.i64.wrap ((i:Int)+(m:Int))=(i:Int)+(m:Int):=by rw[IntKind.wrap_i64];omega
 have nv:(0:Int)<=(i:Int)+(m:Int):=O
 have lA:i<=n:=O
 have JT:((i:Int)+(m:Int)).toNat=i+m:=O
 have yN:(i:Int)<=(n:Int):=O
 clear D K A p N o'
 go_enter func94,Tryz.ntmps94
 go_wp2_with (first
  |(at_builtin;refine Lib.wpList_append_run _ rfl _ _ _ _ rfl _ _ rfl rfl _ _ (s _) ?_)
  |(at_builtin;refine vH _ rfl _ _ 58 58 rfl _ _ rfl rfl (I _ Jn Jo _ _) ?_)
  |(at_builtin;refine vH _ rfl _ _ 58 58 rfl _ _ rfl rfl (B _ (λ_=>rfl) (λ_=>rfl) _ _ _) ?_))
 go_region_law (refine D' rfl _ _ 58 58 rfl (.slice (aa ⟨w.heap.size,(i+m)*2,aj⟩) (n+m-(i+m)) (G-(i+m))) (.slice (aa ⟨b,i*2,aj⟩) (n-i) (c-i)) (by simp[Act.eval,Act.put]) (by simp[Act.eval,Act.put]) (B _ tw tx 3 (G-(i+m)) (c-i)) ?_)
 go_wp2
 go_ret
 exact⟨rfl,rfl⟩
open Go.RowKit Go.Lib in
set_option maxHeartbeats 4000000 in
set_option maxRecDepth 100000 in
theorem WT(d h:Option Addr)(n c i k:Nat)(w:World)(q:i<=n)(r:n<=c)(s:c<=9223372036854775807):Calls prog 94 #[.slice d n c,.int .i64 i,.slice h 0 k] w λe l=>e= .returned (.slice d n c)/\l=w:=by
 have m:(i:Int)<=(n:Int):=O
 go_enter func94,Tryz.ntmps94
 cases d with
 |none=>
  go_wp2
  go_ret
  exact⟨rfl,rfl⟩
 |some a=>
  obtain⟨x,y,o⟩:=a;by_cases p:c=i
  ·go_wp2
   go_ret
   exact⟨rfl,rfl⟩
  go_wp2
  go_ret
  exact⟨rfl,rfl⟩
open Go.RowKit Go.Lib in
set_option maxHeartbeats 4000000 in
set_option maxRecDepth 100000 in
theorem WO(d h:Option Addr)(n c m k:Nat)(w:World)(l:Value)(w':World)(s:0<m)(x:n<=c)(y:c<=9223372036854775807)(i:(Builtin.append_ #[58,58] 58 #[.slice d n c,.slice h m k]).run prog w= .ok l w'):
  Calls prog 94 #[.slice d n c,.int .i64 n,.slice h m k] w λe o=>e= .returned l/\o=w':=by
 have p: ¬((m:Int)=0):=O
 go_enter func94,Tryz.ntmps94
 cases d with
 |none=>
  go_wp2_with (at_builtin;refine Lib.wpList_append_run _ rfl _ _ _ _ rfl _ _ rfl rfl _ _ i ?_)
  go_ret
  exact⟨rfl,rfl⟩
 |some a=>
  obtain⟨z,A,q⟩:=a;by_cases r:c=n
  ·go_wp2_with (at_builtin;refine Lib.wpList_append_run _ rfl _ _ _ _ rfl _ _ rfl rfl _ _ i ?_)
   go_ret
   exact⟨rfl,rfl⟩
  go_wp2_with (at_builtin;refine Lib.wpList_append_run _ rfl _ _ _ _ rfl _ _ rfl rfl _ _ i ?_)
  go_ret
  exact⟨rfl,rfl⟩
theorem Yq(s:prog.info? 101=aa a)(x:a.zero=aa z)(y:a.size=2)(A:z.cells.size=2):AW prog 94 58 101 2 a z where
 nothing:=WT
 tail:=WO
 room:=λb n c i B m dR cs C w F H d q K e h k L Q l o p j t fs u R W X Z=>WR b n c i B m dR cs C w F H d q K e h k L Q l o p j t fs u R W X Z
 grow:=λb n c i B m dR cs C w F H f d g r e h k l o p=>WV b n c i B m dR cs C w F H f d a z s x y A g r e h k l o p
theorem Vs(G:cA)(n:Nat)(s:List Loop)(i:Int)(v:List Loop)(d e:Nat){r:List Loop}(h:wi n s i v=aa r):
  cv G 94 [aH 101 d 2 av s,aH 101 e 2 av v] [ms 0 d 2 av s,U i,ms 1 e 2 av v] (ms 0 (d+1) 2 av r) [aH 101 (d+1) 2 av r,aH 101 e 2 av v]:=by
 unfold wi at h;refine kT (ag ((0:Int)<=i)) (λl=>?_) λl=>?_
 ·have h:=iM l h;exact kv h
 have h:=iN l h;refine kT (ag (i<=(s.length:Int))) (λm=>?_) λm=>?_
 ·have h:=iM m h;exact kv h
 have h:=iN m h;have y:=fF l;have A:=fF m;obtain⟨k,rfl⟩: ∃k:Nat,i=(k:Int):=⟨i.toNat,O⟩
 simp only[Int.toNat_natCast] at h;have a:(prog.info? 101).map (λi=>(i.zero.map λz=>z.cells.size,i.size,Nat.ble i.bytes 140000))=aa (aa 2,2,ab):=Y
 cases o:prog.info? 101 with
 |none=>rw[o] at a;cases a
 |some w=>
  rw[o] at a;simp only[ht,Option.some.injEq,Prod.mk.injEq] at a;obtain⟨c,q,x⟩:=a;cases p:w.zero with
  |none=>rw[p] at c;cases c
  |some z=>
   rw[p] at c;simp only[ht,Option.some.injEq] at c;refine Qi ⟨_,func94,Y,Y⟩ (Yq o p q c) underlying58 o p c q underlying101 (by decide) (eO x) av (λ_=>rfl) s v r k d e O h
abbrev ajo:List dB:=[⟨61,2,[]⟩]
theorem VA(G:cA)(n:Nat)(d s:List Loop)(i:Int)(v:List Loop)(a c:Nat){r:List Loop}(e:(d.map av).length=(s.map av).length)(h:wi n s i v=aa r):
  cv G 94 [aH 101 a 2 av s,aH 101 c 2 av v] [ms 0 a 2 av d,U i,ms 1 c 2 av v] (ms 0 (a+1) 2 av r) [aH 101 (a+1) 2 av r,aH 101 c 2 av v]:=by have:=Vs G n s i v a c h;show jU _ _ _ _ [V.bf 0 a 2 0 (d.map av).length,U i,ms 1 c 2 av v] _ _;rw[e];exact this
theorem Wz{p}{part}{loop}{k}{r}(h:E6 n p part loop k=aa r):ba G 24 [V.agg (bZ p),U part,U loop,U k] (V.bL [V.agg (bZ r.1),aM r.2]):=by
 refine bh aV func24 rfl λw X a=>D a [.z (.b (ab)),.z (.b (ab)),.z (.nat 20)] (aq (al h λm C h=>kT m.2 (λF=>?_) λF=>?_))
 ·have h:=iM F h;exact au a [ao (r4 G n p part loop C F),.z (.nat 21)] (aq (D a (dX 14) (kQ (b:=ab) Y (λe=>aw h▸ai a aC) λe=>by cases e)))
 have h:=iN F h;refine al h λi c h=>au a [aY [] [21,22] (r3 G n p part loop C F),.z (.nat 23)] (aq (bo h (λx_=>a6 [(3,U k),(6,V.aS [T.int .i64 loop]),(8,V.ref 20 0),(10,V.ref 23 0),(11,V.cK 22 1 2 (0+cE part) 0),(44,aM x_)] [(20,E.cells [a1,a1]),(21,aH 55 1 2 bw m.1.aP),(22,E.a7 b4 0 1 (m.1.parts.map ar) []),(23,E.cells [ms 21 1 2 bw m.1.aP,ms 22 1 2 ar m.1.parts])] [20,21,22,23]) (λjH h=>aZ h (λe h=>dm a [.en 22 24 (0+cE part) 0 (ar i)] (aL (cg ar c)) (aZ h (λy h=>al h λij W h=>au a ([b2,b2,b2]++aJ 4 e++[bm ar c,aG e,aN av i.nest,aG e,aG e,aG y,aG y,ao (gh G W),aG y,aG y]) ⟨!ij,h,S.le.trans (od a [.dz 22 24 (ar i) (m.1.parts.map ar)] (a4 (b3 (i.nest.map av).length) (b3 b4) (cg ar c) (iU ar c rfl))) (aO)⟩) λy h=>au a ([b2,b2,b2]++aJ 4 e++[bm ar c,aG e,aN av i.nest,aG e,aG e]++aK 4 y) ⟨ab,h,S.le.trans (od a [.dz 22 24 (ar i) (m.1.parts.map ar)] (a4 (b3 (i.nest.map av).length) (b3 b4) (cg ar c) (iU ar c rfl))) (aO)⟩)) λe h=>au a ([b2,b2,b2]++aK 7 e++dX 4) (an h)) λkD h=>aA h (λeE h=>aw h▸ai a aC) λeE h=>ay (aq (bG h λA d Z f h=>dm a [.en 22 24 (0+cE part) 0 (ar i),.en 24 25 (0+cE loop) 0 (av A),.en 24 26 (0+cE loop) 1 (av A)] (a3 (cg ar c) (cg av d) (cg av d)) (bu a bt [bm ar c,aB (bE av d),bm av d,.z (.b ab),.z (.nat 25),.z (.nat 26),ao (KT G f)] (dm a [.dz 24 26 (av A) (i.nest.map av),.dz 24 25 (av A) (i.nest.map av),.dz 22 24 (ar i) (m.1.parts.map ar)] (a12 (b3 (A.hi.map aE).length) (b3 b4) (cg av d) (iU av d rfl) (b3 (A.lo.map aE).length) (b3 b4) (cg av d) (iU av d rfl) (b3 (i.nest.map av).length) (b3 b4) (cg ar c) (iU ar c rfl)) (aq (ai a (dR (b:= !Z.2.2) (λs=>?_) λs=>?_)))))))))
 ·have s:Z.2.2=ak:=by simpa using s
  have h:=iM s h;exact aw h▸ai a aC
 have s:Z.2.2=ab:=by simpa using s
 have h:=iN s h;refine ay (bG h λB g jR x h=>D a [aY [22] [] (To G n m.1.parts part i c 1 loop 93 [T.int .i64 loop] (λj=>wm n j loop) (λj r h=>VG G n j loop h) g x)] ?_);have l:=CH x;exact dm a [.en 22 36 (0+cE part) 0 (ar B),.dr 36,.ei 22 ajo 0] (aL (cg ar l)) (aq (al h λalX t h=>au a [aB (sS t)] (aq (al h λUe u h=>al h λKZ v h=>bu a bt [aY [] [27] (tV G u),aY [] [28] (tV G v),.z (.nat 29),.z (.nat 30)] (ai a (bS a [.bk 27 [] [29],.bk 28 [] [30]] (aq (al h λAg I h=>al h λz2 M h=>al h λUf H h=>al h λK o h=>bu a bt [.z (.row (ar B)),aB (cg ar l),aY [] [31] (wz G I),.z (.at 8),.z (.bk 31 [92] []),.z (.int 0),aY [] [32] (wz G M),.z (.at 4),.z (.bk 32 [96] []),.z (.int 0),aB (bE av H),bm av H,.z (.rows (K.map av)),aB (str av o)] (aq (al h λz3 N h=>al h λz4 P h=>bG h λuR L Q q h=>bu a bt [.z (.row (ar B)),aB (cg ar l),aY [] [33] (wz G N),.z (.at 10),.z (.bk 33 [107] []),.z (.int 0),aY [] [34] (wz G P),.z (.at 7),.z (.bk 34 [110] []),.z (.int 0),.z (.int 1),.z (.nat 35),aY [36,35] [] (VA G n B.nest K loop [(⟨[z3],[z4]⟩:Loop)] 1 1 (cQ av o) L),.z (.row (ar B)),aB (cg ar l)] (dm a [.Dp 22 0 36,.EP 22 (ar B) (Q.map ar),.dr 22,.fg 23 1 (Q.map ar).length,.bk 21 [] [23],.bk 22 [] [23]] (a3 (cg ar l) (gn ar q rfl) ((cQ ar x).trans (cQ ar q))) (al h λoO R h=>aw h▸D a [ao (rZ G R)] aC))))))))))))
theorem Y0{p}{q}{r}(h:Bl n p q=aa r):ba G 97 [aF ah p,aF ah q] (aM r):=bh aV func97 rfl λw X c=>ai c (al h λd a h=>aw h▸D c [ao (VE G a)] aC)
theorem Ls{s}{i}{j}(o:Nat){r}(h:wj n s i j=aa r):
  cv G 98 [aH 61 o 2 ar s] [ms 0 o 2 ar s,U i,U j] (ms 0 o 2 ar (r.2.take r.1)) [aH 61 o 2 ar r.2]:=by
 refine cD aV func98 rfl λw X A d B=>ai d (kT (ag ((0:Int)<=i)) (λp=>?_) λp=>?_)
 ·have h:=iM p h;exact kv h
 have h:=iN p h;refine kT (ag (i<=j)) (λq=>?_) λq=>?_
 ·have h:=iM q h;exact kv h
 have h:=iN q h;refine kT (ag (j<=(s.length:Int))) (λx=>?_) λx=>?_
 ·have h:=iM x h;exact kv h
 have h:=iN x h;have c:=fF p;have e:=fF q;have a:=fF x;refine D d [aN ar s,aB (ags ar s c e a)] (aq (ai d (aA h (λy h=>aw h▸D d [.z (.at 0),.z (.len 6 (bV ar (s.take s.length)).length),aB (afJ ar s)] cG) λy h=>?_)));have l:i<j:=by have:=of_decide_eq_false y;omega
 refine ay (D d [aN ar s] ?_);by_cases m:j<(s.length:Int)
 ·exact aw h▸aq (bu d bt [.z (.nat 0),.z (.nat i.toNat),.z (.nat j.toNat),.z (.nat (s.length-j.toNat)),.z (.rows (bV ar (n' s i j))),aB (RZ ar s c e a),aB (OY ar s (O:0<=j) m),aB (UI ar s c e a),aB (UH ar s c e a),aB (UG ar s i j)] (D d [.z (.nat (fm s i j)),.z (.int 1),.z (.nat (fm s i j)),.z (.nat (s.length-(fm s i j))),.z (.rows (bV ar (kL s i j (⟨[],[]⟩:Part)))),aB (b3 (fm s i j)),aB (R0 ar s (n' s i j) (k:=2) (by decide) c l a (Pk s c e a) rfl),aB (agq ar s (⟨[],[]⟩:Part) c l a)] (D d [.z (.at 0),.z (.len 6 (bV ar ((kL s i j (⟨[],[]⟩:Part)).take (fm s i j))).length),aB (R1 ar s (⟨[],[]⟩:Part) c l a)] cG)))
 exact aw h▸aq (bu d bt [.z (.nat 0),.z (.nat i.toNat),.z (.int 0),.z (.int 0),aB (RZ ar s c e a),aB (agr ar s c e a m)] (D d [.z (.nat (i.toNat)),.z (.int 1),.z (.nat (i.toNat)),.z (.nat (s.length-(i.toNat))),.z (.rows (bV ar (kL s i j (⟨[],[]⟩:Part)))),aB (b3 (i.toNat)),aB (R0 ar s s (k:=2) (by decide) c l a rfl (R2 s a m)),aB (UF ar s (⟨[],[]⟩:Part) c l a m)] (D d [.z (.at 0),.z (.len 6 (bV ar ((kL s i j (⟨[],[]⟩:Part)).take (fm s i j))).length),aB ((R2 s a m).trans (R1 ar s (⟨[],[]⟩:Part) c l a))] cG)))
theorem UR(G:cA)(n:Nat)(d:List Loop)(e:List Loop)(c:FuncId)(p:Loop->Loop->Option Bool)(k: ∀(q:Loop) (s:Loop) r,p q s=aa r->ba G c [V.agg (j9 q),V.agg (j9 s)] (aM r))(h:DX n d e p=aa r):ba G 129 [aF av d,aF av e,V.fn c []] (aM r):=by
 refine bh aV func129 rfl λw X a=>ai a (aq (D a [aN av d,aN av e] (aA h (λx h=>?_) λx h=>?_)))
 ·cases h;exact ai a aC
 refine ay (aq (D a [aN av d] (be (ct h (λy=>bQ [(1,aF av e),(2,V.fn c []),(15,aF av d),(16,U (d.length:Int)),(17,U y)]) aO λi H h=>ai a (c7 h (λA h=>?_) λA h=>?_)))))
 ·refine ay (bH (al h λB l h=>D a [a' av l,.z (.nat 20)] (al h λC m h=>D a [a' av m,.z (.nat 21)] (al h λK o h=>D a [ao (k B C _ o)] (aA h (λF h=>?_) λF h=>ay (bg a (an h)))))));cases h;exact ai a aC
 cases h;exact br (ai a aC)
theorem DJ(G:cA)(n:Nat)(d:List az)(e:List az)(c:FuncId)(p:az->az->Option Bool)(k: ∀(q:az) (s:az) r,p q s=aa r->ba G c [V.agg (cw q),V.agg (cw s)] (aM r))(h:d8 n d e p=aa r):ba G 131 [aF aE d,aF aE e,V.fn c []] (aM r):=by
 refine bh aV func131 rfl λw X a=>ai a (aq (D a [aN aE d,aN aE e] (aA h (λx h=>?_) λx h=>?_)))
 ·cases h;exact ai a aC
 refine ay (aq (D a [aN aE d] (be (ct h (λy=>bQ [(1,aF aE e),(2,V.fn c []),(15,aF aE d),(16,U (d.length:Int)),(17,U y)]) aO λi H h=>ai a (c7 h (λA h=>?_) λA h=>?_)))))
 ·refine ay (bH (al h λB l h=>D a [a' aE l,.z (.nat 20)] (al h λC m h=>D a [a' aE m,.z (.nat 21)] (al h λK o h=>D a [ao (k B C _ o)] (aA h (λF h=>?_) λF h=>ay (bg a (an h)))))));cases h;exact ai a aC
 cases h;exact br (ai a aC)
theorem tO(G:cA)(n:Nat)(a:az)(b:az)(h:kN n a b=aa r):ba G 132 [V.agg (cw a),V.agg (cw b)] (aM r):=bh aV func132 rfl λw X d=>D d [.z (.b (ab)),.z (.b (ab))] (bo h (λi=>bQ [(4,aM i)]) (λk h=>al h λl c h=>aZ h (λe h=>au d ([ao (K7 G n a.aT b.aT c)]++aJ 6 e) (an h)) λe h=>au d ([ao (K7 G n a.aT b.aT c)]++aK 6 e) (an h)) λm h=>aw h▸aC)
theorem VY(G:cA)(n:Nat)(x:Loop)(y:Loop)(h:wv n x y=aa r):ba G 130 [V.agg (j9 x),V.agg (j9 y)] (aM r):=bh aV func130 rfl λw X i=>D i [.z (.b (ab)),.z (.b (ab))] (bo h (λl=>bQ [(4,aM l)]) (λm h=>al h λo d h=>aZ h (λe h=>au i ([ao (DJ G n x.lo y.lo 132 (λa c=>kN n a c) (λa c r h=>tO G n a c h) d)]++aJ 6 e) (an h)) λe h=>al h λp k h=>au i ([ao (DJ G n x.lo y.lo 132 (λa c=>kN n a c) (λa c r h=>tO G n a c h) d)]++aK 5 e++[ao (DJ G n x.hi y.hi 132 (λa c=>kN n a c) (λa c r h=>tO G n a c h) k),aI e]) (an h)) λq h=>aw h▸aC)
theorem FG{a}{b}{r}(h:ue n a b=aa r):ba G 47 [aF av a,aF av b] (aM r):=bh aV func47 rfl λw X i=>ai i (al h λk c h=>aw h▸D i [ao (UR G n a b 130 (λd e=>wv n d e) (λd e r h=>VY G n d e h) c)] aC)
theorem aeu{R:Type}{l:List R}{x y:R}(h:ax l i=aa x)(k:ax l (wr (i+1))=aa y):0+cE (wr (i+1))≠0+cE i:=by have c:=(nE h).1;have a:=(nE k).1;have e:wr (i+1)=_:=IntKind.wrap_i64 (i+1);rw[e] at a⊢;omega
def D7:List dB:=[⟨61,2,[]⟩]
theorem Wf{p}{part}{r}(h:Fp n p part=aa r):ba G 25 [V.agg (bZ p),U part] (V.bL [V.agg (bZ r.1),aM r.2]):=by
 refine bh aV func25 rfl λw X a=>D a [.z (.b (ab)),.z (.nat 20)] (aq (al h λe x h=>kT e.2 (λy=>?_) λy=>?_))
 ·have h:=iM y h;exact au a [ao (r4 G n p part (-1) x y),.z (.nat 21)] (aq (aq (bu a bt (dX 21) (kQ (b:=ab) Y (λl=>aw h▸ai a aC) λl=>by cases l))))
 have h:=iN y h;refine al h λd c h=>au a [aY [] [21,22] (r3 G n p part (-1) x y),.z (.nat 23)] (dm a [.en 22 24 (0+cE part) 1 (ar d),.dr 24,.ei 22 D7 0] (aL (cg ar c)) (aq (bo h (λA=>a6 [(1,U part),(2,V.aS (ff p)),(4,V.ref 20 0),(6,V.ref 23 0),(7,V.cK 22 1 2 (0+cE part) 0),(46,aM A)] [(20,E.cells [a1,a1]),(21,aH 55 1 2 bw e.1.aP),(22,E.a7 D7 0 1 (e.1.parts.map ar) [((0+cE part),1,ms 24 1 9 bs d.body)]),(23,E.cells [ms 21 1 2 bw e.1.aP,ms 22 1 2 ar e.1.parts]),(24,aH 73 1 9 bs d.body)] [20,21,22,23,24]) (λjH h=>aZ h (λl h=>bG h λij j kD u h=>bu a bt (ef 5++[aN ar p.parts,b2,b2]++aJ 4 l++[bm ar c]++aJ 5 l++[a' ar j]++aJ 3 l++[ao (FG G u),aG l,aG l]) (an h)) λl h=>bu a bt (ef 5++[aN ar p.parts,b2,b2]++aK 14 l) (an h)) λk6 h=>aA h (λeE h=>aw h▸ai a aC) λeE h=>ay (aq (al h λB C h=>aZ h (λI h=>au a [.z (.v (V.bL [V.t T.iz,aM B.2])),aB (Ab I (pg G C))] (aq (aq (kv h)))) λI h=>au a [.z (.v (V.bL [V.aS (eW (B.1.getD default)),aM B.2])),aB (Ac I (pg G C))] (aq (al h λq M h=>D a [aY [] [25] (KJ G M),aN d6 q] (be (ct h (λA=>a6 [(1,U part),(4,V.ref 20 0),(6,V.ref 23 0),(7,V.cK 22 1 2 (0+cE part) 0),(9,V.aS (eW (B.1.getD default))),(54,ms 25 1 3 d6 q),(55,U (q.length:Int)),(56,U A)] [(20,E.cells [a1,a1]),(21,aH 55 1 2 bw e.1.aP),(22,E.a7 D7 0 1 (e.1.parts.map ar) [((0+cE part),1,ms 24 1 9 bs d.body)]),(23,E.cells [ms 21 1 2 bw e.1.aP,ms 22 1 2 ar e.1.parts]),(24,aH 73 1 9 bs d.body),(25,aH 120 1 3 d6 q)] [20,21,22,23,24,25]) aO λZ iH h=>ai a (c7 h (λhT h=>ay (bH (al h λs m h=>D a [aB (bE d6 m),bm d6 m,.z (.nat 26)] (aq (bG h λN F P H h=>bu a bt [a' cj F,a' cj H,.z (.nat 27),.z (.nat 28)] (bo h (λA=>a6 [(1,U part),(4,V.ref 20 0),(6,V.ref 23 0),(7,V.cK 22 1 2 (0+cE part) 0),(9,V.aS (eW (B.1.getD default))),(54,ms 25 1 3 d6 q),(55,U (q.length:Int)),(56,U iH),(93,aM A)] [(20,E.cells [a1,a1]),(21,aH 55 1 2 bw e.1.aP),(22,E.a7 D7 0 1 (e.1.parts.map ar) [((0+cE part),1,ms 24 1 9 bs d.body)]),(23,E.cells [ms 21 1 2 bw e.1.aP,ms 22 1 2 ar e.1.parts]),(24,aH 73 1 9 bs d.body),(25,aH 120 1 3 d6 q),(26,E.cells [U s.e3,U s.e5,U s.kinds]),(27,E.cells (j' N)),(28,E.cells (j' P))] [20,21,22,23,24,25,26,27,28]) (λaiG h=>aZ h (λf h=>au a (aJ 6 f++ef 6) (an h)) λf h=>aZ h (λg h=>au a (aK 6 f++aJ 6 g) (an h)) λg h=>al h λnT K h=>au a (aK 6 f++aK 5 g++[ao (Y0 G K),aI g]) (an h)) λpH h=>aA h (λjV h=>aw h▸ai a aC) λjV h=>ay (bg a (an h)))))))) λhT h=>br (aq (cx h λS i nU L Q o h=>bG h λk R oP W h=>?_))))))))))));have hne:0+cE (wr (part+1))≠0+cE part:=aeu c i;exact aw h▸bu a bt [bm ar c,.z (.nat 0),aB (bE ar i),bm ar i,aB hne,bY (b' bs L),bF 9 gw d.body,bF 9 gw S.body,bm ar c] (dm a [.Dp 22 0 24,.EP 22 (ar d) (Q.map ar),.dr 22,.fg 23 1 (Q.map ar).length] (a3 (cg ar c) (gn ar o rfl) (cQ ar o)) (D a [aY [22] [] (Ls G 1 R),.z (.cut 22 k.1 (bV ar (k.2.take k.1))),aB (RF ar k.2 k.1)] (bS a [.bk 21 [] [23],.bk 22 [] [23]] (D a [ao (rZ G W)] aC))))
theorem Wa{s}{r}(h:Fx n s=aa r):cv G 100 [] [aF bs s] (ms 0 1 9 bs r) [aH 73 1 9 bs r]:=cD aV func100 rfl λw X e a k=>ai a (aq (aq (aZ h (λd h=>au a [.z (.b ak),aB (ajp bs d)] (kQ (b:=ak) Y (λi=>bB (i.symm.trans (b3 ak)) (by decide)) λ_=>(ay (al h λl c h=>aw h▸D a [.z (.nat 20),bY (b' bs c),bF 9 gw [],bF 9 gw s] (eZ a 2 20))))) λd h=>kv h)))
open Go.RowKit Go.Lib in
set_option maxHeartbeats 4000000 in
set_option maxRecDepth 100000 in
theorem WQ(b n c i d m s:Nat)(l vs:List Value)(w:World)(hi:i<n)(hm:0<m)(Q:n+m<=c)(U:c<=9223372036854775807)(y:d≠b)
  (R:l.length=n*2) (X:vs.length=m*2)
  (Z: ∀j v,l[j]? =aa v->w.cell? ⟨b,j,aj⟩=aa v) (q: ∀j,j<(n+m)*2->(w.cell? ⟨b,j,aj⟩).isSome=ab) (z: ∀j,w.frozen? ⟨b,j,aj⟩=ak)
  (f: ∀j v,vs[j]? =aa v->w.cell? ⟨d,j,aj⟩=aa v) (g: ∀v∈l,v.oneCell'=ab) (t: ∀v∈vs,v.oneCell'=ab)
  (V ux:TypeId) (u D:Nat) (E:w.shape? d=aa (V,u)) (I:w.shape? b=aa (ux,D)) (M:D≠0) (A: ∀j,w.frozen? ⟨d,j,aj⟩=ak):
  Calls prog 101 #[.slice (aa ⟨b,0,aj⟩) n c,.int .i64 i,.slice (aa ⟨d,0,aj⟩) m s] w λe w'=>
   e= .returned (.slice (aa ⟨b,0,aj⟩) (n+m) c)/\w'=(w.drew.setCells b ((i+m)*2) (l.drop (i*2))).setCells b (i*2) vs:=by
 have y0: ¬((m:Int)=0):=O
 have qv: ¬((i:Int)=(n:Int)):=O
 have nw:IntKind.i64.wrap ((i:Int)+(m:Int))=(i:Int)+(m:Int):=by rw[IntKind.wrap_i64];omega
 have nv:(0:Int)<=(i:Int)+(m:Int):=O
 have lA:i<=n:=O
 have JT:((i:Int)+(m:Int)).toNat=i+m:=O
 have vN: ¬(c=i+m):=O
 have yN:(i:Int)<=(n:Int)+(m:Int):=O
 have agY: ¬(c=i):=O
 have N: ∀P S,(callFunc 169 #[.slice (aa ⟨d,0,aj⟩) m s,.slice (aa ⟨b,(i+m)*2,aj⟩) P S]).run prog w= .ok (.value (.bool ak)) w:=λP S=>by
  rw[run_callFunc_extern func169 Y Y Y (e:=Extern.SlicesOverlaps.overlaps #[24,24] #[4]) Y,
   Lib.run_overlaps_apart w 24 4 61 underlying24 2 sizeOf61 ⟨d,0,aj⟩ ⟨b,(i+m)*2,aj⟩ m s P S y V ux u D E I M (A 0) (A u)]
  rfl
 have B:(l.drop (i*2)).length=(n-i)*2:=by rw[fM,R];omega
 have C:(prog.info? 61).map (·.size)=aa 2:=Y
 have p: ∀ty r k0,(Builtin.copy_ #[24,24] ty #[.slice (aa ⟨b,(i+m)*2,aj⟩) (n+m-(i+m)) r,.slice (aa ⟨b,i*2,aj⟩) (n+m-i) k0]).run prog w.drew= .ok (goInt ((n-i:Nat):Int)) (w.drew.setCells b ((i+m)*2) (l.drop (i*2))):=λty r k0=>
  r' w.drew 24 24 ty 61 2 b ((i+m)*2) (n+m-(i+m)) r ⟨b,i*2,aj⟩ (n+m-i) k0 (n-i) (l.drop (i*2)) underlying24 C (by simp only[Nat.min_def];split<;>omega) B
   (λj v o=>by rw[Addr.add_lit];exact Z (i*2+j) v (by rwa [gY] at o))
   (λj o=>q _ O) (λj o=>z _) λv bW=>g v (fq bW)
 obtain⟨F,a⟩: ∃F,F=w.drew.setCells b ((i+m)*2) (l.drop (i*2)):=⟨_,rfl⟩
 have H: ∀k,k<(n+m)*2->(F.cell? ⟨b,k,aj⟩).isSome=ab:=λk hk=>by
  rw[a];exact DY b (l.drop (i*2)) ((i+m)*2) w.drew (λj o=>q _ (by rw[B] at o;omega)) k (q k hk)
 have K: ∀(W:World),(∀x,W.cell? x=F.cell? x)->(∀x,W.frozen? x=F.frozen? x)-> ∀ty r,(Builtin.copy_ #[24,24] ty #[.slice (aa ⟨b,i*2,aj⟩) (n+m-i) r,.slice (aa ⟨d,0,aj⟩) m s]).run prog W= .ok (goInt m) (W.setCells b (i*2) vs):=λW L T ty r=>
  r' W 24 24 ty 61 2 b (i*2) (n+m-i) r ⟨d,0,aj⟩ m s m vs underlying24 C (by simp only[Nat.min_def];split<;>omega) X
   (λj v o=>by
    rw[Addr.add_lit,dQ,L,a,World.cell?_setCells_out b _ _ _ _ λh _=>bB h y];exact f j v o)
   (λj o=>by rw[L];exact H _ O) (λj o=>by rw[T,a,World.frozen?_setCells];exact z _) t
 rw[<-a] at p
 go_enter func101,Tryz.ntmps101
 go_wp2_with (simp only[N])
 go_region_law (refine D' rfl _ _ 24 24 rfl _ _ (by simp[Act.eval,Act.put]) (by simp[Act.eval,Act.put]) (p _ _ _) ?_)
 go_wp2_with (at_builtin;refine vH _ rfl _ _ 24 24 rfl _ _ rfl rfl (K _ (λ_=>rfl) (λ_=>rfl) _ _) ?_)
 go_ret
 first|exact⟨rfl,rfl⟩|exact⟨rfl,by rw[a]⟩
open Go.RowKit Go.Lib in
set_option maxHeartbeats 4000000 in
set_option maxRecDepth 100000 in
theorem WU(b n c i y m P:Nat)(k l:List Value)(w:World)(hi:i<n)(hm:0<m)(ahC:n<=c)(C:c<n+m)(F:TypeInfo)(z:Value)(R:prog.info? 61=aa F)(S:F.zero=aa z)(X:F.size=2)(T:z.cells.size=2)(hle:n+m<=1000000000)(Z:(n+m)*F.bytes<=140737488355328)
  (U:k.length=n*2) (f:l.length=m*2)
  (H: ∀j v,k[j]? =aa v->w.cell? ⟨b,j,aj⟩=aa v)
  (g: ∀j v,l[j]? =aa v->w.cell? ⟨y,j,aj⟩=aa v) (V: ∀v∈k,v.oneCell'=ab) (qh: ∀v∈l,v.oneCell'=ab):
  Calls prog 101 #[.slice (aa ⟨b,0,aj⟩) n c,.int .i64 i,.slice (aa ⟨y,0,aj⟩) m P] w λe w'=>
   e= .returned (.slice (aa ⟨w.heap.size,0,aj⟩) (n+m) (grownCap w (n+m) c 61))/\
   w'=(((w.alloc (.cells ((k.take (i*2)).toArray++eR z.cells (n+m-i)++eR z.cells (grownCap w (n+m) c 61-(n+m))) 61)).drew.setCells w.heap.size (i*2) l).drew).setCells w.heap.size ((i+m)*2) (k.drop (i*2)):=by
 have y0: ¬((m:Int)=0):=O
 have qv: ¬((i:Int)=(n:Int)):=O
 have aij:(c:Int)<(n:Int)+(m:Int):=O
 have u:(prog.info? 61).map (·.size)=aa 2:=by rw[R];simp[X]
 have Jy:b<w.heap.size:=block_lt_of_cell (H 0 _ (bp O));have JW:y<w.heap.size:=block_lt_of_cell (g 0 _ (bp O));have D:(n:Int)+(m:Int)-(i:Int)=((n+m-i:Nat):Int):=O
 have K:i+(n+m-i)=n+m:=O
 have A:(Builtin.firstCells F.size i (.slice (aa ⟨b,0,aj⟩) i c)).run prog w.drew= .ok (k.take (i*2)).toArray w.drew:=by
  rw[X];exact run_firstCells_some w.drew 2 i ⟨b,0,aj⟩ i c (k.take (i*2)) (by rw[cZ];omega) (λj v d=>by
   rw[Addr.add_lit,dQ];rw[gZ] at d;split at d
   ·exact H j v d
   cases d)
 have s: ∀ty,(Builtin.append_ #[24,3] ty #[.slice (aa ⟨b,0,aj⟩) i c,.int .i64 ((n:Int)+(m:Int)-(i:Int))]).run prog w=
   .ok (.slice (aa ⟨w.heap.size,0,aj⟩) (n+m) (grownCap w (n+m) c 61)) (w.drew.alloc (.cells ((k.take (i*2)).toArray++eR z.cells (n+m-i)++eR z.cells (grownCap w (n+m) c 61-(n+m))) 61)):=λty=>by
  have h:=Lib.run_append_grow_zeros w 24 3 ty 61 F z .i64 .i64 underlying24 underlying3 R S (aa ⟨b,0,aj⟩) i c (k.take (i*2)) A (n+m-i) O O O O (by
   have:=eh F.bytes (O:n+m-i<=n+m);omega) (by rw[K];exact growslice_fits C Z)
  rw[K] at h;rw[D];exact h
 obtain⟨G,N⟩: ∃G,G=grownCap w (n+m) c 61:=⟨_,rfl⟩
 obtain⟨a,p⟩: ∃a:Array Value,a=(k.take (i*2)).toArray++eR z.cells (n+m-i)++eR z.cells (G-(n+m)):=⟨_,rfl⟩
 rw[<-N] at s⊢;rw[<-p] at s⊢;have o':(n+m)*2<=a.size:=by
  rw[p];simp[eR,T];omega
 obtain⟨q,o⟩: ∃q,q=w.drew.alloc (.cells a 61):=⟨_,rfl⟩
 rw[<-o] at s;have gy: ∀j,j<(n+m)*2->(q.cell? ⟨w.heap.size,j,aj⟩).isSome=ab:=λj d=>by
  rw[o,World.cell?_alloc_at (w:=w.drew) a _ w.heap.size j rfl,iX O];rfl
 have E: ∀j,q.frozen? ⟨w.heap.size,j,aj⟩=ak:=λj=>by rw[o];exact World.frozen?_alloc_at (w:=w.drew) a _ w.heap.size j rfl
 have Jt: ∀j v,w.cell? ⟨b,j,aj⟩=aa v->q.cell? ⟨b,j,aj⟩=aa v:=λj v h=>by rw[o,World.cell?_alloc_past (w:=w.drew) _ b j Jy];exact h
 have Ju: ∀j v,w.cell? ⟨y,j,aj⟩=aa v->q.cell? ⟨y,j,aj⟩=aa v:=λj v h=>by rw[o,World.cell?_alloc_past (w:=w.drew) _ y j JW];exact h
 have I: ∀(W:World),(∀x,W.cell? x=q.cell? x)->(∀x,W.frozen? x=q.frozen? x)-> ∀ty L,(Builtin.copy_ #[24,24] ty #[.slice (aa ⟨w.heap.size,i*2,aj⟩) (n+m-i) L,.slice (aa ⟨y,0,aj⟩) m P]).run prog W= .ok (goInt m) (W.setCells w.heap.size (i*2) l):=λW r Q ty L=>
  r' W 24 24 ty 61 2 w.heap.size (i*2) (n+m-i) L ⟨y,0,aj⟩ m P m l underlying24 u (by simp only[Nat.min_def];split<;>omega) f
   (λj v d=>by rw[Addr.add_lit,dQ,r];exact Ju _ v (g j v d))
   (λj d=>by rw[r];exact gy _ O) (λj d=>by rw[Q];exact E _) qh
 have Jp:n+m<=G:=by rw[N];exact grownCap_ge w _ _ _
 have agL:G<=9223372036854775807:=by
  have:=grownCap_le_maxLen w (n+m) c 61 (by unfold maxLen;omega);rw[<-N] at this;unfold maxLen at this;omega
 have agM: ¬(G=i):=O
 have agN: ¬(G=i+m):=O
 have ag1: ¬(c=i):=O
 have Jx:b≠w.heap.size:=O
 have M:(k.drop (i*2)).length=(n-i)*2:=by rw[fM,U];omega
 have B: ∀(W:World),(∀x,W.cell? x=(q.setCells w.heap.size (i*2) l).cell? x)->(∀x,W.frozen? x=(q.setCells w.heap.size (i*2) l).frozen? x)-> ∀ty L k0,(Builtin.copy_ #[24,24] ty #[.slice (aa ⟨w.heap.size,(i+m)*2,aj⟩) (n+m-(i+m)) L,.slice (aa ⟨b,i*2,aj⟩) (n-i) k0]).run prog W= .ok (goInt ((n-i:Nat):Int)) (W.setCells w.heap.size ((i+m)*2) (k.drop (i*2))):=λW r Q ty L k0=>
  r' W 24 24 ty 61 2 w.heap.size ((i+m)*2) (n+m-(i+m)) L ⟨b,i*2,aj⟩ (n-i) k0 (n-i) (k.drop (i*2)) underlying24 u (by simp only[Nat.min_def];split<;>omega) M
   (λj v d=>by
    rw[Addr.add_lit,r,World.cell?_setCells_out _ _ _ _ _ λh _=>bB h Jx];exact Jt _ v (H (i*2+j) v (by rwa [gY] at d)))
   (λj d=>by rw[r];exact DY w.heap.size l (i*2) q (λt gJ=>gy _ (by rw[f] at gJ;omega)) _ (gy _ (by rw[M] at d;omega)))
   (λj d=>by rw[Q,World.frozen?_setCells];exact E _) λv bW=>V v (fq bW)
 subst o;have Jn: ∀x,((w.alloc (.cells a 61)).drew).cell? x=(w.drew.alloc (.cells a 61)).cell? x:=λx=>rfl;have Jo: ∀x,((w.alloc (.cells a 61)).drew).frozen? x=(w.drew.alloc (.cells a 61)).frozen? x:=λx=>rfl;have tw: ∀x,(((w.alloc (.cells a 61)).drew.setCells w.heap.size (i*2) l).drew).cell? x=((w.drew.alloc (.cells a 61)).setCells w.heap.size (i*2) l).cell? x:=λx=>rfl;have tx: ∀x,(((w.alloc (.cells a 61)).drew.setCells w.heap.size (i*2) l).drew).frozen? x=((w.drew.alloc (.cells a 61)).setCells w.heap.size (i*2) l).frozen? x:=λx=>rfl;have nw:IntKind.i64.wrap ((i:Int)+(m:Int))=(i:Int)+(m:Int):=by rw[IntKind.wrap_i64];omega
 have nv:(0:Int)<=(i:Int)+(m:Int):=O
 have lA:i<=n:=O
 have JT:((i:Int)+(m:Int)).toNat=i+m:=O
 have yN:(i:Int)<=(n:Int):=O
 clear D K A p N o'
 go_enter func101,Tryz.ntmps101
 go_wp2_with (first
  |(at_builtin;refine Lib.wpList_append_run _ rfl _ _ _ _ rfl _ _ rfl rfl _ _ (s _) ?_)
  |(at_builtin;refine vH _ rfl _ _ 24 24 rfl _ _ rfl rfl (I _ Jn Jo _ _) ?_)
  |(at_builtin;refine vH _ rfl _ _ 24 24 rfl _ _ rfl rfl (B _ (λ_=>rfl) (λ_=>rfl) _ _ _) ?_))
 go_region_law (refine D' rfl _ _ 24 24 rfl (.slice (aa ⟨w.heap.size,(i+m)*2,aj⟩) (n+m-(i+m)) (G-(i+m))) (.slice (aa ⟨b,i*2,aj⟩) (n-i) (c-i)) (by simp[Act.eval,Act.put]) (by simp[Act.eval,Act.put]) (B _ tw tx 3 (G-(i+m)) (c-i)) ?_)
 go_wp2
 go_ret
 exact⟨rfl,rfl⟩
open Go.RowKit Go.Lib in
set_option maxHeartbeats 4000000 in
set_option maxRecDepth 100000 in
theorem WS(d h:Option Addr)(n c i k:Nat)(w:World)(q:i<=n)(r:n<=c)(s:c<=9223372036854775807):Calls prog 101 #[.slice d n c,.int .i64 i,.slice h 0 k] w λe l=>e= .returned (.slice d n c)/\l=w:=by
 have m:(i:Int)<=(n:Int):=O
 go_enter func101,Tryz.ntmps101
 cases d with
 |none=>
  go_wp2
  go_ret
  exact⟨rfl,rfl⟩
 |some a=>
  obtain⟨x,y,o⟩:=a;by_cases p:c=i
  ·go_wp2
   go_ret
   exact⟨rfl,rfl⟩
  go_wp2
  go_ret
  exact⟨rfl,rfl⟩
open Go.RowKit Go.Lib in
set_option maxHeartbeats 4000000 in
set_option maxRecDepth 100000 in
theorem WN(d h:Option Addr)(n c m k:Nat)(w:World)(l:Value)(w':World)(s:0<m)(x:n<=c)(y:c<=9223372036854775807)(i:(Builtin.append_ #[24,24] 24 #[.slice d n c,.slice h m k]).run prog w= .ok l w'):
  Calls prog 101 #[.slice d n c,.int .i64 n,.slice h m k] w λe o=>e= .returned l/\o=w':=by
 have p: ¬((m:Int)=0):=O
 go_enter func101,Tryz.ntmps101
 cases d with
 |none=>
  go_wp2_with (at_builtin;refine Lib.wpList_append_run _ rfl _ _ _ _ rfl _ _ rfl rfl _ _ i ?_)
  go_ret
  exact⟨rfl,rfl⟩
 |some a=>
  obtain⟨z,A,q⟩:=a;by_cases r:c=n
  ·go_wp2_with (at_builtin;refine Lib.wpList_append_run _ rfl _ _ _ _ rfl _ _ rfl rfl _ _ i ?_)
   go_ret
   exact⟨rfl,rfl⟩
  go_wp2_with (at_builtin;refine Lib.wpList_append_run _ rfl _ _ _ _ rfl _ _ rfl rfl _ _ i ?_)
  go_ret
  exact⟨rfl,rfl⟩
theorem Yp(s:prog.info? 61=aa a)(x:a.zero=aa z)(y:a.size=2)(A:z.cells.size=2):AW prog 101 24 61 2 a z where
 nothing:=WS
 tail:=WN
 room:=λb n c i B m dR cs C w F H d q K e h k L Q l o p j t fs u R W X Z=>WQ b n c i B m dR cs C w F H d q K e h k L Q l o p j t fs u R W X Z
 grow:=λb n c i B m dR cs C w F H f d g r e h k l o p=>WU b n c i B m dR cs C w F H f d a z s x y A g r e h k l o p
theorem Lr(G:cA)(n:Nat)(s:List Part)(i:Int)(v:List Part)(d e:Nat){r:List Part}(h:wh n s i v=aa r):
  cv G 101 [aH 61 d 2 ar s,aH 61 e 2 ar v] [ms 0 d 2 ar s,U i,ms 1 e 2 ar v] (ms 0 (d+1) 2 ar r) [aH 61 (d+1) 2 ar r,aH 61 e 2 ar v]:=by
 unfold wh at h;refine kT (ag ((0:Int)<=i)) (λl=>?_) λl=>?_
 ·have h:=iM l h;exact kv h
 have h:=iN l h;refine kT (ag (i<=(s.length:Int))) (λm=>?_) λm=>?_
 ·have h:=iM m h;exact kv h
 have h:=iN m h;have y:=fF l;have A:=fF m;obtain⟨k,rfl⟩: ∃k:Nat,i=(k:Int):=⟨i.toNat,O⟩
 simp only[Int.toNat_natCast] at h;have a:(prog.info? 61).map (λi=>(i.zero.map λz=>z.cells.size,i.size,Nat.ble i.bytes 140000))=aa (aa 2,2,ab):=Y
 cases o:prog.info? 61 with
 |none=>rw[o] at a;cases a
 |some w=>
  rw[o] at a;simp only[ht,Option.some.injEq,Prod.mk.injEq] at a;obtain⟨c,q,x⟩:=a;cases p:w.zero with
  |none=>rw[p] at c;cases c
  |some z=>
   rw[p] at c;simp only[ht,Option.some.injEq] at c;refine Qi ⟨_,func101,Y,Y⟩ (Yp o p q c) underlying24 o p c q underlying61 (by decide) (eO x) ar (λ_=>rfl) s v r k d e O h
theorem UX{p}{part}{c}{r}(h:D2 n p part c=aa r):ba G 26 [V.agg (bZ p),U part,U c] (V.bL [V.agg (bZ r.1),aM r.2]):=by
 refine bh aV func26 rfl λw X a=>D a [.z (.b (ab)),.z (.nat 20)] (aq (al h λe o h=>kT e.2 (λq=>?_) λq=>?_))
 ·have h:=iM q h;exact au a [ao (r4 G n p part (-1) o q),.z (.nat 21)] (aq (D a (dX 10) (kQ (b:=ab) Y (λZ=>aw h▸ai a aC) λZ=>by cases Z)))
 have h:=iN q h;exact al h λk d h=>au a [aY [] [21,22] (r3 G n p part (-1) o q),.z (.nat 23)] (bS a [.dr 22] (aq (bo h (λs=>a6 [(1,U part),(2,U c),(3,V.aS (ff p)),(6,V.ref 20 0),(8,V.ref 23 0),(9,V.cK 22 1 2 (0+cE part) 0),(37,aM s)] [(20,E.cells [a1,a1]),(21,aH 55 1 2 bw e.1.aP),(22,aH 61 1 2 ar e.1.parts),(23,E.cells [ms 21 1 2 bw e.1.aP,ms 22 1 2 ar e.1.parts])] [20,21,22,23]) (λjH h=>al h λij j h=>au a (ef 5++[bm ar d,b2,aN bs k.body,b2,b2,ao (gh G j),b2,b2]) (an h)) λkD h=>aA h (λZ h=>aw h▸ai a aC) λZ h=>ay (aq (al h λx y h=>aZ h (λu h=>au a [.z (.v (V.bL [V.t T.iz,aM x.2])),aB (Ab u (pg G y))] (aq (aq (kv h)))) λu h=>au a [.z (.v (V.bL [V.aS (eW (x.1.getD default)),aM x.2])),aB (Ac u (pg G y))] (aq (al h λl I h=>D a [aY [] [24] (KJ G I),aN d6 l] (be (ct h (λs=>a6 [(1,U part),(2,U c),(6,V.ref 20 0),(8,V.ref 23 0),(9,V.cK 22 1 2 (0+cE part) 0),(11,V.aS (eW (x.1.getD default))),(45,ms 24 1 3 d6 l),(46,U (l.length:Int)),(47,U s)] [(20,E.cells [a1,a1]),(21,aH 55 1 2 bw e.1.aP),(22,aH 61 1 2 ar e.1.parts),(23,E.cells [ms 21 1 2 bw e.1.aP,ms 22 1 2 ar e.1.parts]),(24,aH 120 1 3 d6 l)] [20,21,22,23,24]) aO λf g' h=>ai a (c7 h (λfy h=>ay (bH (al h λM A h=>D a [aB (bE d6 A),bm d6 A,.z (.nat 25)] (aq (bG h λN B P C h=>bu a bt [a' cj B,a' cj C,.z (.nat 26),.z (.nat 27)] (bo h (λs=>a6 [(1,U part),(2,U c),(6,V.ref 20 0),(8,V.ref 23 0),(9,V.cK 22 1 2 (0+cE part) 0),(11,V.aS (eW (x.1.getD default))),(45,ms 24 1 3 d6 l),(46,U (l.length:Int)),(47,U g'),(88,aM s)] [(20,E.cells [a1,a1]),(21,aH 55 1 2 bw e.1.aP),(22,aH 61 1 2 ar e.1.parts),(23,E.cells [ms 21 1 2 bw e.1.aP,ms 22 1 2 ar e.1.parts]),(24,aH 120 1 3 d6 l),(25,E.cells [U M.e3,U M.e5,U M.kinds]),(26,E.cells (j' N)),(27,E.cells (j' P))] [20,21,22,23,24,25,26,27]) (λS7 h=>aZ h (λF h=>au a (aJ 5 F++ef 10) (an h)) λF h=>aZ h (λg h=>au a (aK 5 F++aJ 5 g++ef 5) (an h)) λg h=>aZ h (λS h=>au a (aK 5 F++aK 5 g++aJ 5 S) (an h)) λS h=>au a (aK 5 F++aK 5 g++aK 5 S) (an h)) λoO h=>aA h (λjV h=>aw h▸ai a aC) λjV h=>ay (bg a (an h)))))))) λfy h=>br (aq (cx h λnT H pH K re L h=>bu a bt [bm ar d,aY [] [25] (Mr G H),bm ar d,bY (qL bs K),bF 9 gw k.body,aY [] [26] (Wa G L),.z (.nat 27)] (bS a [.bk 25 [] [27],.bk 26 [] [27]] (bG h λna Q m i h=>D a [bm ar d,bY (sw bs Q),bF 9 gw k.body,bm ar d,.z (.rows (m.map ar)),.z (.fg 23 1 (m.map ar).length),aB (str ar i),aB (cQ ar i)] (bG h λpI R oP W h=>aw h▸D a [.z (.int 1),.z (.nat 28),aY [22,28] [] (Lr G n m (wr (part+1)) [(⟨nT,re⟩:Part)] 1 1 R)] (bS a [.bk 21 [] [23],.bk 22 [] [23]] (D a [ao (rZ G W)] aC)))))))))))))))))
theorem Lg{a}{r}(h:rQ n a=aa r):cv G 168 [aH 68 1 2 aE a] [ms 0 1 2 aE a] (ms 1 1 2 aE r) [aH 68 1 2 aE a,aH 68 1 2 aE r]:=by refine cD aV func168 rfl λw X o c C=>ai c (ai c (aq (D c [aN aE a] (be (bS c [.grow 3 20 68] (cH h (λi m=>a6 [(3,ms 20 m 2 aE i.1),(6,ms 0 1 2 aE a),(7,U (a.length:Int)),(8,U i.2)] [(0,aH 68 1 2 aE a),(20,aH 68 m 2 aE i.1)] [0,20]) 1 (aO) ?_))))));rintro e ⟨p,q⟩ s h;exact ai c (c7 h (λx h=>ay (bH (al h λy d h=>D c [aB (bE aE d),bm aE d,.z (.nat 21)] (bG h λA k B l h=>au c [ao (K8 G n y k),.z (.int 0),bY (b' aE l),bF 2 fe p,bF 2 fe [A]] (bg c ⟨(B,wr (q+1)),(s+1),h,aO⟩))))) λx h=>aw h▸br (ai c (bS c [.dT 20 1 [2] []] cG)))
theorem Wu{nest}{r}(h:ui n nest=aa r):cv G 99 [E.a7 b4 1 1 (nest.map av) []] [ms 0 1 2 av nest] (ms 1 1 2 av r) [E.a7 b4 1 1 (nest.map av) [],E.a7 b4 1 1 (r.map av) []]:=by refine cD aV func99 rfl λw X A c H=>ai c (ai c (aq (D c [aN av nest] (be (bS c [.grow 3 20 101,.ei 20 b4 1] (cH h (λm x=>a6 [(3,ms 20 x 2 av m.1),(6,ms 0 1 2 av nest),(7,U (nest.length:Int)),(8,U m.2)] [(0,E.a7 b4 1 1 (nest.map av) []),(20,E.a7 b4 1 x (m.1.map av) [])] [0,20]) 1 (aO) ?_))))));rintro l ⟨e,o⟩ B h;exact ai c (c7 h (λC h=>ay (bH (aq (al h λi a h=>dm c [.en 0 25 (0+cE o) 0 (av i),.en 0 26 (0+cE o) 1 (av i),.dr 25,.dr 26] (a2 (cg av a) (cg av a)) (au c [aB (bE av a),bm av a,.z (.nat 21)] (cx h λk p F q s d h=>bu c bt [aY [25] [22] (Lg G p),aY [26] [23] (Lg G q),.z (.lt 24 b4 1),.z (.rows (bV av (e++[(⟨[],[]⟩:Loop)]))),aB (b3 (aU b4 1)),aB (tk av (⟨[],[]⟩:Loop) d),bF 2 fj e,bF 2 fj [(⟨[],[]⟩:Loop)]] (dm c [.ei 22 b4 3,.dz 20 22 (av (⟨[],[]⟩:Loop)) (bV av (e++[(⟨k,[]⟩:Loop)])),.ei 23 b4 3,.dz 20 23 (av (⟨k,[]⟩:Loop)) (s.map av),.len 3 (s.map av).length] (a9 (b3 (k.map aE).length) (b3 b4) (nm av e (⟨[],[]⟩:Loop)) (yv av e (ph:=(⟨[],[]⟩:Loop)) (y:=(⟨k,[]⟩:Loop)) rfl) (b3 (F.map aE).length) (b3 b4) (nm av e (⟨k,[]⟩:Loop)) (sZ av (ph:=(⟨k,[]⟩:Loop)) d rfl) (th av (⟨[],[]⟩:Loop) d)) (dm c [.ei 25 b4 3,.ei 26 b4 3,.dz 0 26 (av i) (nest.map av),.dz 0 25 (av i) (nest.map av)] (fV (b3 (i.hi.map aE).length) (b3 b4) (cg av a) (iU av a rfl) (b3 (i.lo.map aE).length) (b3 b4) (cg av a) (iU av a rfl)) (bg c ⟨(s,wr (o+1)),(B+1),h,aO⟩))))))))) λC h=>aw h▸br (ai c (bS c [.dT 20 1 [2,3] []] cG)))
theorem Ws{p}{r}(h:r9 n p=aa r):cv G 102 [E.a7 b4 1 1 (p.nest.map av) [],aH 73 1 9 bs p.body] [V.agg [ms 0 1 2 av p.nest,ms 1 1 9 bs p.body]] (V.agg [ms 2 1 2 av r.nest,ms 3 1 9 bs r.body]) [E.a7 b4 1 1 (p.nest.map av) [],aH 73 1 9 bs p.body,E.a7 b4 1 1 (r.nest.map av) [],aH 73 1 9 bs r.body]:=by refine cD aV func102 rfl λw X q a F=>D a [.z (.nat 25),.z (.nat 20)] (al h λm e h=>D a [aY [0] [21] (Wu G e),.z (.nat 22)] (aq (D a [aN bs p.body] (be (bS a [.fa 22 1 23 73] (cH h (λi o=>a6 [(2,V.ref 20 0),(3,V.ref 22 0),(11,ms 1 1 9 bs p.body),(12,U (p.body.length:Int)),(13,U i.2)] [(0,E.a7 b4 1 1 (p.nest.map av) []),(1,aH 73 1 9 bs p.body),(20,E.cells [a1,a1]),(21,E.a7 b4 1 1 (m.map av) []),(22,E.cells [ms 21 1 2 av m,ms 23 o 9 bs i.1]),(23,aH 73 o 9 bs i.1)] [0,1,20,21,22,23,25]) 1 (aO) ?_))))));rintro d ⟨s,x⟩ y h;exact ai a (c7 h (λA h=>ay (bH (al h λH c h=>D a [aB (bE bs c),bm bs c,.z (.nat 24)] (bG h λB k C l h=>bu a bt [ao (Fu G k),.z (.int 0),bY (b' bs l),bF 9 gw s,bF 9 gw [B]] (bg a ⟨(C,wr (x+1)),(y+1),h,aO⟩))))) λA h=>aw h▸br (ai a (bS a [.dT 21 2 [] [20,22]] (bS a [.dT 23 3 [] [20,22]] cG))))
theorem WC{p}{part}{i}{r}(h:Fj n p part i=aa r):ba G 27 [V.agg (bZ p),U part,U i] (V.bL [V.agg (bZ r.1),aM r.2]):=by
 refine bh aV func27 rfl λw X a=>D a [.z (.b (ab)),.z (.nat 20)] (aq (al h λN H h=>aZ h (λW h=>au a [ao (r4 G n p part (-1) H W),.z (.nat 21)] (aq (D a (dX 7) (kQ (b:=ab) Y (λI=>aw h▸ai a aC) λI=>by cases I)))) λW h=>al h λl d h=>au a [aY [] [21,22] (r3 G n p part (-1) H W),.z (.nat 23)] (dm a [.en 22 24 (0+cE part) 0 (ar l)] (aL (cg ar d)) (aq (D a (ef 4++[bm ar d,b2,aN av l.nest,b2,b2]) (aA h (λP h=>aw h▸ai a aC) λP h=>ay (aq (bG h λm c M Z h=>dm a [.en 24 25 (0+cE 0) 0 (av m),.en 24 26 (0+cE 0) 1 (av m),.dr 25,.dr 26] (a2 (cg av c) (cg av c)) (au a [bm ar d,aB (bE av c),bm av c,.z (.b ab),.z (.nat 25),.z (.nat 26),ao (KT G Z)] (dm a [.ei 25 b4 3,.ei 26 b4 3,.dz 24 26 (av m) (l.nest.map av),.dz 24 25 (av m) (l.nest.map av)] (fV (b3 (m.hi.map aE).length) (b3 b4) (cg av c) (iU av c rfl) (b3 (m.lo.map aE).length) (b3 b4) (cg av c) (iU av c rfl)) (aq (aq (aZ h (λf h=>?_) λf h=>?_)))))))))))))
 ·have K:(!M.2.2)=ab:=by rw[f];rfl
  exact au a (aK 6 K) (kQ (b:=ab) Y (λk=>aw h▸ai a aC) λk=>by cases k)
 have K:(!M.2.2)=ak:=by rw[f];rfl
 refine al h λg j h=>au a (aJ 4 K++[ao (gh G j),aG K,aG K]) (dR (b:= !g) (λk=>?_) λk=>?_)
 ·have k:g=ak:=by simpa using k
  have h:=iM k h;exact aw h▸ai a aC
 have k:g=ab:=by simpa using k
 have h:=iN k h;exact ay (aq (al h λS t h=>dm a [.en 22 27 (0+cE part) 1 (ar l),.dr 27] (aL (cg ar d)) (au a [bm ar d,aY [24,27] [28,29] (Ws G t),.z (.nat 30)] (aq (cx h λT o u q v s h=>al h λC x h=>dm a [.en 24 31 (0+cE 0) 1 (av m),.dr 31] (aL (cg av c)) (au a [bm ar d,aB (bE av c),bm av c,aB (bE aE o),bm aE o,.z (.rows (u.map aE)),aB (str aE q)] (dm a [.ei 31 b4 3,.dz 24 31 (av m) (v.map av)] (a4 (cQ aE q) (b3 b4) (cg av c) (gn av s rfl)) (aq (cx h λL e pH y E A h=>al h λF B h=>dm a [.en 28 32 (0+cE 0) 0 (av L),.dr 32] (aL (cg av e)) (au a [aB (bE av e),bm av e,aB (bE aE y),bm aE y,.z (.rows (E.map aE)),aB (str aE A)] (dm a [.ei 32 b4 3,.dz 28 32 (av L) (F.map av),.ei 27 b4 2,.dz 22 27 (ar l) (N.1.parts.map ar),.dz 22 24 (ar l) (C.map ar)] (a12 (cQ aE A) (b3 b4) (cg av e) (gn av B rfl) (b3 (l.body.map bs).length) (b3 b4) (cg ar d) (iU ar d rfl) (cQ av s) (b3 b4) (cg ar d) (gn ar x rfl)) (dm a [.dr 22,.fg 23 1 (C.map ar).length,.dr 28,.fg 30 0 (F.map av).length,.bk 28 [] [30],.bk 29 [] [30]] (a2 (cQ ar x) (cQ av B)) (bG h λnU Q nV R h=>aw h▸D a [.z (.int 1),.z (.nat 33),aY [22,33] [] (Lr G n C (wr (part+1)) [(⟨F,S.body⟩:Part)] 1 1 Q)] (bS a [.bk 21 [] [23],.bk 22 [] [23]] (D a [ao (rZ G R)] aC)))))))))))))))
theorem y7{p}{r}(h:vX n p=aa r):ba G 143 [V.agg (bZ p)] (U r):=by refine bh aV func143 rfl λw X a=>D a [.z (.b (ab))] (ai a (aq (D a [aN bw p.aP] (be (ct h (λi=>bQ [(3,U i.1),(7,aF bw p.aP),(8,U (p.aP.length:Int)),(9,U i.2)]) aO ?_)))));rintro c ⟨l,m⟩ h;exact ai a (c7 h (λk h=>ay (bH (al h λo d h=>D a [a' bw d,.z (.nat 20)] (al h λq e h=>au a [ao (LB G e)] (bg a (an h)))))) λk h=>aw h▸br (ai a aC))
theorem T7{t}{part}{r}(h:y8 n t part=aa r):cv G 172 [] [V.aS (eW t),U part] (V.bL [ms 0 1 1 bC r.1,ms 1 1 1 bC r.2]) [aH 4 1 1 bC r.1,aH 4 1 1 bC r.2]:=by
 refine cD aV func172 rfl λw X P c bK=>ai c (aq (cx h λhr W jQ s ij Z h=>al h λkD x h=>bu c bt [ao (y7 G W),.z (.nat 20),bY (sT bC s),aB (pr s).1,ao (y7 G Z),.z (.nat 21),bY (sT bC x),aB (pr x).1] (aq (D c [aN cj t.list] (be (x8 (γ:=Nat×Nat) h (λa e=>a6 [(0,V.aS (eW t)),(1,U part),(6,ms 20 e.1 1 bC a.1),(7,ms 21 e.2 1 bC a.2.1),(27,aF cj t.list),(28,U (t.list.length:Int)),(29,U a.2.2)] [(20,aH 4 e.1 1 bC a.1),(21,aH 4 e.2 1 bC a.2.1)] [20,21]) (1,1) (aO) ?_))))));rintro y ⟨S,b,R⟩ ⟨N,A⟩ h;refine ai c (c7 h (λT h=>?_) λT h=>?_)
 ·refine ay ?_;obtain⟨f,B,h⟩:=i' h;refine iw (γ:=Nat) (j:=f) (r:=r) (λa e=>a6 [(0,V.aS (eW t)),(1,U part),(6,ms 20 e 1 bC a.1),(7,ms 21 A 1 bC a.2.1),(27,aF cj t.list),(28,U (t.list.length:Int)),(29,U R)] [(20,aH 4 e 1 bC a.1),(21,aH 4 A 1 bC a.2.1),(22,E.cells [U a.2.2.1,U a.2.2.2.1,aF ah a.2.2.2.2])] [20,21,22]) ?_ ?_
  ·refine be (al h λd C h=>D c [a' cj C,.z (.nat 22)] (aq (ai c (aA h (λc2 h=>br ⟨(S,b,d.part,d.stmt,d.bU),N,h,aO⟩) λc2 h=>ay (aq (al h λo F h=>D c [a' (bd ah) F,aN ah o] (be (cH h (λa e=>a6 [(0,V.aS (eW t)),(1,U part),(6,ms 20 e 1 bC a.1),(7,ms 21 A 1 bC b),(8,U R),(27,aF cj t.list),(28,U (t.list.length:Int)),(29,U R),(44,aF ah o),(45,U (o.length:Int)),(46,U a.2)] [(20,aH 4 e 1 bC a.1),(21,aH 4 A 1 bC b),(22,E.cells (j' d))] [20,21,22]) N (aO) ?_))))))));rintro H ⟨g,u⟩ K h;exact ai c (c7 h (λeE h=>ay (bH (al h λnU L h=>D c [a' ah L] (bG h λnV i p k h=>au c [aB (bE bC i),bm bC i,.z (.rows (p.map bC)),.z (.len 6 (p.map bC).length),aB (str bC k),aB (cQ bC k)] (bg c ⟨(p,wr (u+1)),K,h,aO⟩))))) λeE h=>br (cx h λoP Q nb l q m h=>au c [a' ah Q,aB (bE bC l),bm bC l,.z (.rows (q.map bC)),.z (.len 7 (q.map bC).length),aB (str bC m),aB (cQ bC m)] ⟨(g,q,d.part,d.stmt,d.bU),K,h,aO⟩))
  rintro⟨v,I,pJ,oQ,sx⟩ M h;subst B;exact bg c ⟨(v,I,wr (R+1)),(M,A),h,aO⟩
 exact aw h▸br (ai c (bS c [.dT 20 0 [4] []] (bS c [.dT 21 1 [5] []] cG)))
theorem Ut{p}{a}{b}{r}(h:DO n p a b=aa r):ba G 103 [V.agg (bZ p),U a,U b] (aM r):=bh aV func103 rfl λw X e=>D e [.z (.b (ab))] (aq (al h λj Q h=>aZ h (λu h=>au e [.z (.v (V.bL [V.t T.iz,aM j.2])),aB (Ab u (pg G Q))] (aq (bo h (λH=>bQ [(1,U a),(2,U b),(7,V.t T.iz),(37,aM H)]) (λjH h=>aZ h (λx h=>al h λij K h=>aZ h (λB h=>al h λkD R h=>aZ h (λE h=>au e (aJ 3 x++[ao (il G K),aG x,aG x]++aJ 3 B++[ao (il G R),aG B,aG B]++aJ 4 E) (an h)) λE h=>au e (aJ 3 x++[ao (il G K),aG x,aG x]++aJ 3 B++[ao (il G R),aG B,aG B]++aK 4 E) (an h)) λB h=>au e (aJ 3 x++[ao (il G K),aG x,aG x]++aK 5 B++dX 4) (an h)) λx h=>au e (aK 5 x++dX 9) (an h)) λk6 h=>aA h (λS h=>aw h▸ai e aC) λS h=>ay (aq (kv h))))) λu h=>au e [.z (.v (V.bL [V.aS (eW (j.1.getD default)),aM j.2])),aB (Ac u (pg G Q))] (aq (bo h (λH=>bQ [(1,U a),(2,U b),(7,V.aS (eW (j.1.getD default))),(37,aM H)]) (λrY h=>aZ h (λy h=>al h λg' L h=>aZ h (λC h=>al h λiH W h=>aZ h (λI h=>au e (aJ 3 y++[ao (il G L),aG y,aG y]++aJ 3 C++[ao (il G W),aG C,aG C]++aJ 4 I) (an h)) λI h=>au e (aJ 3 y++[ao (il G L),aG y,aG y]++aJ 3 C++[ao (il G W),aG C,aG C]++aK 4 I) (an h)) λC h=>au e (aJ 3 y++[ao (il G L),aG y,aG y]++aK 5 C++dX 4) (an h)) λy h=>au e (aK 5 y++dX 9) (an h)) λjR h=>aA h (λtl h=>aw h▸ai e aC) λtl h=>ay (al h λi Z h=>D e [aY [] [20,21] (T7 G Z)] (al h λo f h=>D e [aY [] [22,23] (T7 G f)] (aq (D e [aN bC i.1] (be (ct h (λH=>a6 [(9,ms 20 1 1 bC i.1),(10,ms 21 1 1 bC i.2),(11,ms 22 1 1 bC o.1),(12,ms 23 1 1 bC o.2),(51,U (i.1.length:Int)),(52,U H)] [(20,aH 4 1 1 bC i.1),(21,aH 4 1 1 bC i.2),(22,aH 4 1 1 bC o.1),(23,aH 4 1 1 bC o.2)] [20,21,22,23]) aO λg M h=>ai e (c7 h (λN h=>ay (bH (ai e (bo h (λH=>a6 [(9,ms 20 1 1 bC i.1),(10,ms 21 1 1 bC i.2),(11,ms 22 1 1 bC o.1),(12,ms 23 1 1 bC o.2),(51,U (i.1.length:Int)),(52,U M),(82,aM H)] [(20,aH 4 1 1 bC i.1),(21,aH 4 1 1 bC i.2),(22,aH 4 1 1 bC o.1),(23,aH 4 1 1 bC o.2)] [20,21,22,23]) (λS8 h=>al h λpH d h=>aZ h (λc h=>al h λre q h=>aZ h (λs h=>au e ([aB (bE bC d),bm bC d]++aJ 7 c++[b2,b2,b2,aB (bE bC q),b2,bm bC q,b2]++aJ 4 s++[b2,aG s,b2]) (an h)) λs h=>al h λna F h=>au e ([aB (bE bC d),bm bC d]++aJ 7 c++[b2,b2,b2,aB (bE bC q),b2,bm bC q,b2]++aK 3 s++[aB (bE bC F),aI s,bm bC F,b2,aI s,b2]) (an h)) λc h=>al h λnU k h=>aZ h (λm h=>al h λnV l h=>aZ h (λA h=>au e ([aB (bE bC d),bm bC d]++aK 3 c++[aB (bE bC k),aI c,bm bC k,aI c]++aJ 3 m++[aB (bE bC l),aG m,bm bC l,aI c,aG m,aI c]++aJ 3 A++[aB (bE bC l),aG A,bm bC l]++aJ 8 A) (an h)) λA h=>au e ([aB (bE bC d),bm bC d]++aK 3 c++[aB (bE bC k),aI c,bm bC k,aI c]++aJ 3 m++[aB (bE bC l),aG m,bm bC l,aI c,aG m,aI c]++aK 7 A) (an h)) λm h=>au e ([aB (bE bC d),bm bC d]++aK 3 c++[aB (bE bC k),aI c,bm bC k,aI c]++aK 4 m++[aI c,aI m,aI c]++dX 7) (an h)) λpI h=>aA h (λP h=>aw h▸ai e aC) λP h=>ay (bg e (an h)))))) λN h=>aw h▸br (ai e aC))))))))))))
theorem Wy{p}{part}{r}(h:E5 n p part=aa r):ba G 28 [V.agg (bZ p),U part] (V.bL [V.agg (bZ r.1),aM r.2]):=bh aV func28 rfl λw X a=>D a [.z (.b (ab)),.z (.nat 20)] (aq (bo h (λy=>a6 [(1,U part),(2,V.aS (ff p)),(4,V.ref 20 0),(23,aM y)] [(20,E.cells [a1,a1])] [20]) (λB h=>aZ h (λe h=>aZ h (λi h=>al h λC o h=>au a (aJ 4 e++[aN ar p.parts,aG e,aG e]++aJ 5 i++[ao (Ut G o),aG i,aG i]) (an h)) λi h=>au a (aJ 4 e++[aN ar p.parts,aG e,aG e]++aK 7 i) (an h)) λe h=>au a (aK 6 e++dX 7) (an h)) λF h=>aA h (λA h=>aw h▸ai a aC) λA h=>ay (al h λH q h=>D a [aY [] [21,22] (KK G q),.z (.nat 23)] (aq (cx h λK k L c s d h=>bG h λQ l x m h=>aw h▸bu a bt [aB (bE ar k),bm ar k,aB (bE ar c),bm ar c,aB (bE ar c),bm ar c,.z (.rows (s.map ar)),aB (str ar d),aB (Dk ar l (cQ ar d)),bm ar l,.z (.rows (x.map ar)),aB (str ar m)] (dm a [.len 31 (s.map ar).length,.fg 23 1 (s.map ar).length,.fg 23 1 (x.map ar).length] (a3 (cQ ar d) (cQ ar d) (cQ ar m)) (D a [.z (.at 3),.z (.bk 21 [] [23]),.z (.at 3),.z (.bk 22 [] [23])] aC)))))))
theorem UT{t}{a}{r}(h:DZ n t a=aa r):cv G 174 [] [V.aS (eW t),U a] (ms 0 1 1 ah r) [aH 3 1 1 ah r]:=by refine cD aV func174 rfl λw X H c W=>ai c (ai c (aq (al h λd s h=>D c [a' (bd ah) s,aN ah d] (be (bS c [.grow 5 20 3] (cH h (λe B=>a6 [(0,V.aS (eW t)),(1,U a),(5,ms 20 B 1 ah e.1),(15,aF ah d),(16,U (d.length:Int)),(17,U e.2)] [(20,aH 3 B 1 ah e.1)] [20]) 1 (aO) ?_))))));rintro o ⟨i,x⟩ k h;exact ai c (c7 h (λK h=>ay (bH (al h λC y h=>D c [a' ah y] (ai c (bH (ct h (λe=>a6 [(0,V.aS (eW t)),(1,U a),(5,ms 20 k 1 ah i),(7,U C),(8,U e),(15,aF ah d),(16,U (d.length:Int)),(17,U x)] [(20,aH 3 k 1 ah i)] [20]) aO λp F h=>aq (bo h (λe=>a6 [(0,V.aS (eW t)),(1,U a),(5,ms 20 k 1 ah i),(7,U C),(8,U F),(15,aF ah d),(16,U (d.length:Int)),(17,U x),(35,aM e)] [(20,aH 3 k 1 ah i)] [20]) (λZ h=>aZ h (λq h=>au c (aJ 10 q) (an h)) λq h=>al h λL l h=>au c (aK 6 q++[a' ah l]++aK 4 q) (an h)) λQ h=>aA h (λR h=>ay (be (bg c (an h)))) λR h=>br (al h λA m h=>au c [.z (.int 0),bY (b' ah m),dy i,dy [F]] (bg c ⟨(A,wr (x+1)),(k+1),h,aO⟩))))))))) λK h=>aw h▸br (ai c (eZ c 4 20)))
theorem VF{t}{r}(h:Ej n t=aa r):cv G 105 [] [V.aS (eW t)] (ms 0 1 1 bC r) [aH 4 1 1 bC r]:=by
 refine cD aV func105 rfl λw X E a bK=>ai a (al h λhr x h=>D a [aN cj t.list,.z (.nat 20),bY (sT bC x),aB (pr x).1] (aq (D a [aN cj t.list] (be (cH h (λc k=>a6 [(0,V.aS (eW t)),(3,ms 20 k 1 bC c.1),(4,U c.2)] [(20,aH 4 k 1 bC c.1)] [20]) 1 (aO) ?_)))));rintro Q ⟨W,y⟩ R h;refine aq (ai a (aA h (λI h=>?_) λI h=>?_))
 ·refine ay ?_;obtain⟨M,Z,h⟩:=i' h;refine iw (γ:=Nat) (j:=M) (r:=r) (λc k=>a6 [(0,V.aS (eW t)),(3,ms 20 k 1 bC c),(4,U y)] [(20,aH 4 k 1 bC c)] [20]) ?_ ?_
  ·refine be (aq (bo h (λc=>a6 [(0,V.aS (eW t)),(3,ms 20 R 1 bC W),(4,U y),(44,aM c)] [(20,aH 4 R 1 bC W)] [20]) (λS' h=>al h λiH e h=>aZ h (λs h=>bu a bt ([aB (bE bC e),bm bC e]++aJ 16 s) (an h)) λs h=>cx h λjR b N A P B h=>bu a bt ([aB (bE bC e),bm bC e]++aK 7 s++[bY (qL ah b),dy t.jP]++aK 6 s++[a' ah A,aI s,aI s,ao (KA G B),aI s]) (an h)) λS h=>aA h (λT h=>br ⟨W,R,h,aO⟩) λT h=>ay (bG h λoO l C m h=>D a [aB (bE bC l),bm bC l,.z (.rows (C.map bC)),.z (.len 3 (C.map bC).length),aB (str bC m),aB (cQ bC m)] (al h λd F h=>D a [aY [] [21] (UT G F),aN ah d] (be (cH h (λc k=>a6 [(0,V.aS (eW t)),(3,ms 20 k 1 bC c.1),(4,U y),(50,ms 21 1 1 ah d),(51,U (d.length:Int)),(52,U c.2)] [(20,aH 4 k 1 bC c.1),(21,aH 3 1 1 ah d)] [20,21]) R (aO) ?_))))));rintro H ⟨f,K⟩ i h;exact ai a (c7 h (λfy h=>ay (bo h (λc=>a6 [(0,V.aS (eW t)),(3,ms 20 i 1 bC c),(4,U y),(50,ms 21 1 1 ah d),(51,U (d.length:Int)),(52,U K)] [(20,aH 4 i 1 bC c),(21,aH 3 1 1 ah d)] [20,21]) (λakP h=>be (al h λoP o h=>D a [aB (bE ah o),bm ah o] (ai a (aA h (λhT h=>bG h λnb p L q h=>au a [aB (bE bC p),bm bC p,.z (.rows (L.map bC)),.z (.len 3 (L.map bC).length),aB (str bC q),aB (cQ bC q)] (an h)) λhT h=>ay (an h))))) λg h=>bg a ⟨(g,wr (K+1)),i,h,aO⟩)) λfy h=>br ⟨f,i,h,aO⟩)
  rintro u v h;subst Z;exact bg a ⟨(u,wr (y-1)),v,h,aO⟩
 exact aw h▸br (ai a (eZ a 2 20))
theorem Xx{p}{part}{r}(h:AM n p part=aa r):ba G 29 [V.agg (bZ p),U part] (V.bL [V.agg (bZ r.1),aM r.2]):=bh aV func29 rfl λw X a=>D a [.z (.b (ab)),.z (.nat 20)] (aq (al h λk l h=>aZ h (λB h=>au a [.z (.v (V.bL [V.t T.iz,aM k.2])),aB (Ab B (pg G l))] (aq (bo h (λe=>a6 [(1,U part),(2,V.aS (ff p)),(4,V.ref 20 0),(6,V.t T.iz),(23,aM e)] [(20,E.cells [a1,a1])] [20]) (λI h=>aZ h (λm h=>al h λM C h=>au a (aJ 3 m++[ao (il G C),aG m,aG m]) (an h)) λm h=>au a (aK 5 m) (an h)) λN h=>aA h (λK h=>aw h▸ai a aC) λK h=>ay (aq (aq (kv h)))))) λB h=>au a [.z (.v (V.bL [V.aS (eW (k.1.getD default)),aM k.2])),aB (Ac B (pg G l))] (aq (bo h (λe=>a6 [(1,U part),(2,V.aS (ff p)),(4,V.ref 20 0),(6,V.aS (eW (k.1.getD default))),(23,aM e)] [(20,E.cells [a1,a1])] [20]) (λP h=>aZ h (λo h=>al h λS F h=>au a (aJ 3 o++[ao (il G F),aG o,aG o]) (an h)) λo h=>au a (aK 5 o) (an h)) λg' h=>aA h (λL h=>aw h▸ai a aC) λL h=>ay (aq (al h λi H h=>D a [aY [] [21] (VF G H),aN bC i] (be (ct h (λe=>a6 [(1,U part),(2,V.aS (ff p)),(4,V.ref 20 0),(6,V.aS (eW (k.1.getD default))),(26,ms 21 1 1 bC i),(27,U (i.length:Int)),(28,U e)] [(20,E.cells [a1,a1]),(21,aH 4 1 1 bC i)] [20,21]) aO λq Q h=>ai a (c7 h (λR h=>ay (bH (al h λW d h=>D a [aB (bE bC d),bm bC d] (bo h (λe=>a6 [(1,U part),(2,V.aS (ff p)),(4,V.ref 20 0),(6,V.aS (eW (k.1.getD default))),(26,ms 21 1 1 bC i),(27,U (i.length:Int)),(28,U Q),(45,aM e)] [(20,E.cells [a1,a1]),(21,aH 4 1 1 bC i)] [20,21]) (λZ h=>aZ h (λA h=>au a (aJ 11 A) (an h)) λA h=>al h λf s h=>au a (aK 6 A++[a' cj s]++aK 5 A) (an h)) λg h=>aA h (λj h=>aw h▸ai a aC) λj h=>ay (bg a (an h)))))) λR h=>br (al h λu x h=>D a [aY [] [22,23] (KK G x),.z (.nat 24)] (al h λc y h=>aw h▸D a [aY [23] [] (Ls G 1 y),.z (.cut 23 c.1 (bV ar (c.2.take c.1))),aB (RF ar c.2 c.1)] (D a [.z (.at 3),.z (.bk 22 [] [24]),.z (.at 3),.z (.bk 23 [] [24])] aC))))))))))))
theorem HU{a}{r}(h:oV n a=aa r):ba G 237 [U a] (V.agg (di r)):=bh aV func237 rfl λw X c=>aw h▸D c [.z (.nat 20)] (ai c aC)
theorem mF{e}{a}{r}(h:jF n e a=aa r):ba G 239 [V.agg (di e),U a] (aM r):=bh aV func239 rfl λw X c=>D c [.z (.b (ab))] (bo h (λi=>bQ [(4,aM i)]) (λk h=>aZ h (λd h=>au c (aJ 5 d) (an h)) λd h=>au c (aK 5 d) (an h)) λl h=>aw h▸aC)
theorem acG(G:cA): ∀(n:Nat) (e:Expr) {r:Expr} (h:rT n e=aa r),ba G 175 [V.agg (di e)] (V.agg (di r)):=by
 intro n;induction n with
 |zero=>intro e r h;rw[rT.eq_def] at h;cases h
 |succ n ny=>
  intro e r h;rw[rT.eq_def] at h;dsimp only at h;refine bh aV func175 rfl λw X a=>D a [.z (.b (ab)),.z (.nat 20)] (aq (bo h (λA=>a6 [(1,V.aS (dF e)),(2,V.ref 20 0),(22,aM A)] [(20,E.cells [U 0,U 0,a1,U 0,bA [],a1,a1])] [20]) (λrX h=>?_) λij h=>?_))
  ·refine aZ h (λF h=>au a (aJ 5 F++ef 5) (an h)) λF h=>?_;obtain⟨jQ,K,h⟩:=c5 h;exact aZ h (λt h=>au a (aK 3 F++[ao (tr G K),aI F,aI F]++aJ 5 t) (an h)) λt h=>au a (aK 3 F++[ao (tr G K),aI F,aI F]++aK 5 t) (an h)
  refine aA h (λeE h=>?_) λeE h=>?_
  ·obtain⟨kD,u,h⟩:=c5 h;obtain rfl:=aw h;exact D a [ao (HU G u)] aC
  refine ay (aq ?_);obtain⟨k6,v,h⟩:=c5 h;refine D a [ao (Ho G v)] (aA h (λfy h=>?_) λfy h=>?_)
  ·obtain rfl:=aw h;exact ai a aC
  refine ay (aq ?_);obtain⟨I,M,x,N,P,S,h⟩:=lQ h;obtain⟨y,T,h⟩:=c5 h;refine bu a bt [.z (.row (dF I)),aB (hJ b6 M (gF I)),ao (ny I N),.z (.row (dF P)),aB (hJ b6 S (gF P)),ao (ny P T),.z (.nat 21),.z (.nat 22)] (D a [.z (.int 2),.z (.rows (bV b6 [x,y])),.z (.nat 23),aB (Qz x y)] (ai a (aq (bo h (λA=>a6 [(1,V.aS (dF e)),(2,V.ref 20 0),(3,V.ref 21 0),(4,V.ref 22 0),(5,V.ref 23 0),(6,KQ (e.kind=6)),(58,aM A)] [(20,E.cells [U 0,U 0,a1,U 0,bA [],a1,a1]),(21,E.cells (di x)),(22,E.cells (di y)),(23,E.cells [U e.kind,U 0,a1,U 0,bA [],a1,aF b6 [x,y]])] [20,21,22,23]) (λS5 h=>aZ h (λhT h=>au a (aJ 4 hT) (an h)) λhT h=>au a (aK 4 hT) (an h)) λuR h=>?_))));refine aA h (λlq h=>?_) λlq h=>?_
  ·refine ai a (bo h (λA=>a6 [(2,V.ref 20 0),(5,V.ref 23 0),(7,U A)] [(20,E.cells [U 0,U 0,a1,U 0,bA [],a1,a1]),(21,E.cells (di x)),(22,E.cells (di y)),(23,E.cells [U e.kind,U 0,a1,U 0,bA [],a1,aF b6 [x,y]])] [20,21,22,23]) (λS7 h=>ai a (be (ai a (aA h (λoa h=>bg a (an h)) λoa h=>ai a (aA h (λjV h=>bg a (an h)) λjV h=>ay (an h)))))) λoO h=>?_);refine aq ?_;obtain⟨nT,L,h⟩:=c5 h;refine D a [ao (gh G L)] (aA h (λtl h=>?_) λtl h=>?_)
   ·obtain⟨pH,Q,h⟩:=c5 h;obtain rfl:=aw h;exact D a [ao (HU G Q)] aC
   obtain rfl:=aw h;exact ay (ai a aC)
  refine ay (bH (bo h (λA=>a6 [(1,V.aS (dF e)),(2,V.ref 20 0),(3,V.ref 21 0),(4,V.ref 22 0),(5,V.ref 23 0),(6,KQ (e.kind=6)),(85,aM A)] [(20,E.cells [U 0,U 0,a1,U 0,bA [],a1,a1]),(21,E.cells (di x)),(22,E.cells (di y)),(23,E.cells [U e.kind,U 0,a1,U 0,bA [],a1,aF b6 [x,y]])] [20,21,22,23]) (λaiH h=>?_) λpI h=>?_))
  ·refine aZ h (λc h=>?_) λc h=>?_
   ·refine aZ h (λm h=>au a (aJ 3 c++[b2,b2,aG m,aG m,b2,aG m,b2]) (an h)) λm h=>?_;obtain⟨na,R,h⟩:=c5 h;exact au a (aJ 3 c++[b2,b2,aI m,aI m,ao (mF G R),b2,aI m,b2]) (an h)
   obtain⟨nU,B,h⟩:=c5 h;refine aZ h (λk h=>?_) λk h=>au a ([aI c,aI c,ao (mF G B),aI c]++aK 4 k) (an h);refine aZ h (λo h=>au a [aI c,aI c,ao (mF G B),aI c,aG k,aG k,aG o,aG o,aG k,aG o,aG k] (an h)) λo h=>?_;obtain⟨nV,W,h⟩:=c5 h;exact au a [aI c,aI c,ao (mF G B),aI c,aG k,aG k,aI o,aI o,ao (mF G W),aG k,aI o,aG k] (an h)
  refine aA h (λI' h=>?_) λI' h=>?_
  ·obtain rfl:=aw h;exact ai a aC
  refine bo h (λA=>a6 [(2,V.ref 20 0),(3,V.ref 21 0),(4,V.ref 22 0),(5,V.ref 23 0),(6,KQ (e.kind=6)),(100,aM A)] [(20,E.cells [U 0,U 0,a1,U 0,bA [],a1,a1]),(21,E.cells (di x)),(22,E.cells (di y)),(23,E.cells [U e.kind,U 0,a1,U 0,bA [],a1,aF b6 [x,y]])] [20,21,22,23]) (λaiI h=>?_) λuS h=>?_
  ·refine aZ h (λd h=>?_) λd h=>?_
   ·refine aZ h (λp h=>au a (aJ 3 d++[b2,b2,aG p,aG p,b2,aG p,b2]) (an h)) λp h=>?_;obtain⟨nb,Z,h⟩:=c5 h;exact au a (aJ 3 d++[b2,b2,aI p,aI p,ao (mF G Z),b2,aI p,b2]) (an h)
   obtain⟨nW,C,h⟩:=c5 h;refine aZ h (λl h=>?_) λl h=>au a ([aI d,aI d,ao (mF G C),aI d]++aK 4 l) (an h);refine aZ h (λq h=>au a [aI d,aI d,ao (mF G C),aI d,aG l,aG l,aG q,aG q,aG l,aG q,aG l] (an h)) λq h=>?_;obtain⟨rf,f,h⟩:=c5 h;exact au a [aI d,aI d,ao (mF G C),aI d,aG l,aG l,aI q,aI q,ao (mF G f),aG l,aI q,aG l] (an h)
  refine aA h (λJa h=>?_) λJa h=>?_
  ·obtain rfl:=aw h;exact ai a aC
  refine bo h (λA=>a6 [(2,V.ref 20 0),(5,V.ref 23 0),(116,aM A)] [(20,E.cells [U 0,U 0,a1,U 0,bA [],a1,a1]),(21,E.cells (di x)),(22,E.cells (di y)),(23,E.cells [U e.kind,U 0,a1,U 0,bA [],a1,aF b6 [x,y]])] [20,21,22,23]) (λakR h=>?_) λsy h=>?_
  ·refine aZ h (λi h=>au a (aJ 5 i) (an h)) λi h=>?_;obtain⟨oQ,H,h⟩:=c5 h;refine aZ h (λs h=>?_) λs h=>au a [aI i,aI i,ao (mF G H),aI i,aI s,aI s,aI i,aI s,aI i] (an h);obtain⟨sx,g,h⟩:=c5 h;exact au a [aI i,aI i,ao (mF G H),aI i,aG s,aG s,ao (mF G g),aI i,aG s,aI i] (an h)
  refine aA h (λJb h=>?_) λJb h=>?_
  ·obtain⟨sA,j,h⟩:=c5 h;obtain rfl:=aw h;exact D a [ao (HU G j)] aC
  obtain rfl:=aw h;exact ay (ai a aC)
theorem ZN{s}{r}(h:xc n s=aa r):ba G 106 [V.agg (fC s)] (V.agg (fC r)):=bh aV func106 rfl λw X a=>D a [.z (.b (ab)),.z (.nat 20)] (al h λe c h=>D a [ao (Fu G c),.z (.nat 21)] (al h λi d h=>aw h▸D a [ao (acG G n e.value d)] (ai a aC)))
theorem VM{p}{r}(h:En n p=aa r):ba G 30 [V.agg (bZ p)] (V.bL [V.agg (bZ r.1),aM r.2]):=by
 refine bh aV func30 rfl λw X a=>D a [.z (.b (ab)),.z (.nat 20)] (aq (al h λR y h=>D a [ao (kh G y)] (aA h (λK h=>aw h▸ai a aC) λK h=>ay (al h λk A h=>D a [aY [] [21,22] (Uc G A),.z (.nat 23)] (aq (D a [aN ar k.parts] (be (ct h (λe=>a6 [(2,V.ref 20 0),(4,V.ref 23 0),(16,ms 22 1 2 ar e.1),(17,U (k.parts.length:Int)),(18,U e.2)] [(20,E.cells [a1,a1]),(21,aH 55 1 2 bw k.aP),(22,E.a7 b4 0 1 (e.1.map ar) []),(23,E.cells [ms 21 1 2 bw k.aP,ms 22 1 2 ar e.1])] [20,21,22,23]) aO ?_))))))));rintro q ⟨s,o⟩ h;refine ai a (c7 h (λL h=>?_) λL h=>?_)
 ·refine ay (bH (al h λd c h=>D a [.z (.en 22 24 (0+cE o) 1 (ar d)),.z (.en 22 27 (0+cE o) 0 (ar d)),bm ar c,.z (.nat 25),aB (cg ar c),aB (bE ar c),aB (cg ar c)] (bS a [.dr 24] (D a [aN bs d.body] (be (ct h (λe=>a6 [(2,V.ref 20 0),(4,V.ref 23 0),(16,ms 22 1 2 ar s),(17,U (k.parts.length:Int)),(18,U o),(6,V.ref 25 0),(23,ms 24 1 9 bs e.1),(24,U (d.body.length:Int)),(25,U e.2)] [(20,E.cells [a1,a1]),(21,aH 55 1 2 bw k.aP),(22,E.a7 b4 0 1 (bV ar s) [((0+cE o),0,ms 27 1 2 av d.nest),((0+cE o),1,ms 24 1 9 bs d.body)]),(23,E.cells [ms 21 1 2 bw k.aP,ms 22 1 2 ar s]),(24,aH 73 1 9 bs e.1),(25,E.cells [ms 27 1 2 av d.nest,ms 24 1 9 bs e.1]),(27,E.a7 b4 1 1 (d.nest.map av) [])] [20,21,22,23,24,25,27]) aO ?_))))));rintro x ⟨W,Z⟩ h;exact ai a (c7 h (λQ h=>ay (bH (al h λf i h=>D a [aB (bE bs i),bm bs i,.z (.nat 26)] (bG h λg B C l h=>bu a bt [ao (ZN G B),aB (bE bs i),bm bs i,.z (.rows (C.map bs)),aB (str bs l)] (dm a [.len 23 (C.map bs).length,.fg 25 1 (C.map bs).length] (a2 (cQ bs l) (cQ bs l)) (bg a (an h))))))) λQ h=>br (bG h λj F H m h=>dm a [.dz 22 27 (ar d) (bV ar s),.ei 24 b4 2,.dz 22 24 (ar d) (H.map ar),.len 16 (H.map ar).length,.fg 23 1 (H.map ar).length] (UO (b3 (d.nest.map av).length) (b3 b4) (cg ar c) (iU ar c rfl) (jI bs F) (b3 b4) (cg ar c) (gn ar m rfl) (cQ ar m) (cQ ar m)) (bg a (an h))))
 exact aw h▸br (ai a (bS a [.dr 22,.bk 21 [] [20],.bk 22 [] [20]] aC))
theorem Wg{p}{s}{r}(h:Fq n p s=aa r):ba G 6 [V.agg (bZ p),V.agg [U s.kind,U s.part,U s.a,U s.b]] (V.bL [V.agg (bZ r.1),aM r.2]):=bh aV func6 rfl λw X c=>D c [.z (.b (ab)),.z (.b (ab)),.z (.nat 20)] (aq (al h λv k h=>D c [ao (X9 G k)] (aA h (λH h=>aw h▸ai c aC) λH h=>ay (aq (ai c (be (ai c (aA h (λK h=>al h λE l h=>aw h▸D c [ao (VL G l)] aC) λK h=>ai c (aA h (λL h=>al h λI m h=>aw h▸D c [ao (VJ G m)] aC) λL h=>ai c (aA h (λQ h=>al h λM o h=>aw h▸D c [ao (Xw G o)] aC) λQ h=>ai c (aA h (λR h=>al h λN q h=>aw h▸D c [ao (WD G q)] aC) λR h=>ai c (aA h (λW h=>al h λP x h=>aw h▸D c [ao (Wz G x)] aC) λW h=>ai c (aA h (λZ h=>al h λS y h=>aw h▸D c [ao (Wf G y)] aC) λZ h=>ai c (aA h (λf h=>al h λT A h=>aw h▸D c [ao (UX G A)] aC) λf h=>ai c (aA h (λg h=>al h λjR B h=>aw h▸D c [ao (WC G B)] aC) λg h=>ai c (aA h (λC h=>al h λj d h=>aw h▸D c [ao (Wy G d)] aC) λC h=>ai c (aA h (λF h=>al h λt e h=>aw h▸D c [ao (Xx G e)] aC) λF h=>ay (al h λu i h=>aw h▸D c [ao (VM G i)] aC))))))))))))))))))
theorem Tt(G:cA)(n:Nat)(d:List cn)(e:List cn)(c:FuncId)(s:cn->cn->Option Bool)(k: ∀(l:cn) (m:cn) r,s l m=aa r->ba G c [V.agg [bA l.name,aF ah l.b1],V.agg [bA m.name,aF ah m.b1]] (aM r))(h:Kq n d e s=aa r):ba G 50 [aF bw d,aF bw e,V.fn c []] (aM r):=by
 refine bh aV func50 rfl λw X a=>ai a (aq (D a [aN bw d,aN bw e] (aA h (λx h=>?_) λx h=>?_)))
 ·cases h;exact ai a aC
 refine ay (aq (D a [aN bw d] (be (ct h (λy=>bQ [(1,aF bw e),(2,V.fn c []),(15,aF bw d),(16,U (d.length:Int)),(17,U y)]) aO λi H h=>ai a (c7 h (λA h=>?_) λA h=>?_)))))
 ·refine ay (bH (al h λB o h=>D a [a' bw o,.z (.nat 20)] (al h λC p h=>D a [a' bw p,.z (.nat 21)] (al h λK q h=>D a [ao (k B C _ q)] (aA h (λF h=>?_) λF h=>ay (bg a (an h)))))));cases h;exact ai a aC
 cases h;exact br (ai a aC)
theorem UQ(G:cA)(n:Nat)(d:List Part)(e:List Part)(c:FuncId)(p:Part->Part->Option Bool)(k: ∀(q:Part) (s:Part) r,p q s=aa r->ba G c [V.agg (mj q),V.agg (mj s)] (aM r))(h:Kw n d e p=aa r):ba G 51 [aF ar d,aF ar e,V.fn c []] (aM r):=by
 refine bh aV func51 rfl λw X a=>ai a (aq (D a [aN ar d,aN ar e] (aA h (λx h=>?_) λx h=>?_)))
 ·cases h;exact ai a aC
 refine ay (aq (D a [aN ar d] (be (ct h (λy=>bQ [(1,aF ar e),(2,V.fn c []),(15,aF ar d),(16,U (d.length:Int)),(17,U y)]) aO λi H h=>ai a (c7 h (λA h=>?_) λA h=>?_)))))
 ·refine ay (bH (al h λB l h=>D a [a' ar l,.z (.nat 20)] (al h λC m h=>D a [a' ar m,.z (.nat 21)] (al h λK o h=>D a [ao (k B C _ o)] (aA h (λF h=>?_) λF h=>ay (bg a (an h)))))));cases h;exact ai a aC
 cases h;exact br (ai a aC)
theorem Ud(G:cA)(n:Nat)(x:cn)(y:cn)(h:zd n x y=aa r):ba G 44 [V.agg [bA x.name,aF ah x.b1],V.agg [bA y.name,aF ah y.b1]] (aM r):=bh aV func44 rfl λw X c=>D c [.z (.b (ab)),.z (.b (ab))] (bo h (λe=>bQ [(4,aM e)]) (λi h=>aZ h (λa h=>au c (aJ 6 a) (an h)) λa h=>al h λk d h=>au c (aK 5 a++[ao (K7 G n x.b1 y.b1 d),aI a]) (an h)) λl h=>aw h▸aC)
theorem UP(G:cA)(n:Nat)(d:List Stmt)(e:List Stmt)(c:FuncId)(p:Stmt->Stmt->Option Bool)(k: ∀(q:Stmt) (s:Stmt) r,p q s=aa r->ba G c [V.agg (fC q),V.agg (fC s)] (aM r))(h:Kv n d e p=aa r):ba G 48 [aF bs d,aF bs e,V.fn c []] (aM r):=by
 refine bh aV func48 rfl λw X a=>ai a (aq (D a [aN bs d,aN bs e] (aA h (λx h=>?_) λx h=>?_)))
 ·cases h;exact ai a aC
 refine ay (aq (D a [aN bs d] (be (ct h (λy=>bQ [(1,aF bs e),(2,V.fn c []),(15,aF bs d),(16,U (d.length:Int)),(17,U y)]) aO λi H h=>ai a (c7 h (λA h=>?_) λA h=>?_)))))
 ·refine ay (bH (al h λB l h=>D a [a' bs l,.z (.nat 20)] (al h λC m h=>D a [a' bs m,.z (.nat 21)] (al h λK o h=>D a [ao (k B C _ o)] (aA h (λF h=>?_) λF h=>ay (bg a (an h)))))));cases h;exact ai a aC
 cases h;exact br (ai a aC)
theorem Ed{a}{b}{r}(h:zx n a b=aa r):ba G 133 [V.agg (gR a),V.agg (gR b)] (aM r):=bh aV func133 rfl λw X d=>D d [.z (.b (ab)),.z (.b (ab))] (bo h (λl=>bQ [(4,aM l)]) (λm h=>aZ h (λc h=>au d (aJ 6 c) (an h)) λc h=>al h λo e h=>au d (aK 5 c++[ao (DJ G n a.bz b.bz 132 (λi k=>kN n i k) (λi k r h=>tO G n i k h) e),aI c]) (an h)) λp h=>aw h▸aC)
theorem US(G:cA)(n:Nat)(d:List Expr)(e:List Expr)(c:FuncId)(s:Expr->Expr->Option Bool)(k: ∀(x:Expr) (y:Expr) r,s x y=aa r->ba G c [V.agg (di x),V.agg (di y)] (aM r))(h:Kx n d e s=aa r):ba G 195 [aF b6 d,aF b6 e,V.fn c []] (aM r):=by
 refine bh aV func195 rfl λw X a=>ai a (aq (D a [aN b6 d,aN b6 e] (aA h (λA h=>?_) λA h=>?_)))
 ·cases h;exact ai a aC
 refine ay (aq (D a [aN b6 d] (be (ct h (λB=>bQ [(1,aF b6 e),(2,V.fn c []),(15,aF b6 d),(16,U (d.length:Int)),(17,U B)]) aO λi H h=>ai a (c7 h (λC h=>?_) λC h=>?_)))))
 ·refine ay (bH (al h λl m h=>D a [.z (.row (dF l)),.z (.nat 20),aB (hJ b6 m (gF l))] (al h λo p h=>D a [.z (.row (dF o)),.z (.nat 21),aB (hJ b6 p (gF o))] (al h λK q h=>D a [ao (k l o _ q)] (aA h (λF h=>?_) λF h=>ay (bg a (an h)))))));cases h;exact ai a aC
 cases h;exact br (ai a aC)
theorem Xu(G:cA): ∀(n:Nat) (a:Expr) (b:Expr) {r:Bool} (h:rS n a b=aa r),ba G 134 [V.agg (di a),V.agg (di b)] (aM r):=by
 intro n;induction n with
 |zero=>intro a b r h;rw[rS.eq_def] at h;cases h
 |succ n s=>
  intro a b r h;rw[rS.eq_def] at h;dsimp only at h;refine bh aV func134 rfl λw X e=>D e [.z (.b (ab)),.z (.b (ab))] (bo h (λx=>bQ [(4,aM x)]) (λy h=>?_) λA h=>?_)
  ·refine aZ h (λi h=>au e (aJ 6 i++ef 18) (an h)) λi h=>?_;refine aZ h (λc h=>au e (aK 6 i++aJ 6 c++ef 12) (an h)) λc h=>?_;obtain⟨B,d,h⟩:=c5 h;refine aZ h (λk h=>au e (aK 6 i++aK 5 c++[ao (tO G n a.index b.index d),aI c]++aJ 6 k++ef 6) (an h)) λk h=>?_;obtain⟨C,l,h⟩:=c5 h;refine aZ h (λm h=>au e (aK 6 i++aK 5 c++[ao (tO G n a.index b.index d),aI c]++aK 5 k++[ao (Ed G l),aI k]++aJ 6 m) (an h)) λm h=>?_;obtain⟨F,o,h⟩:=c5 h;exact au e (aK 6 i++aK 5 c++[ao (tO G n a.index b.index d),aI c]++aK 5 k++[ao (Ed G l),aI k]++aK 5 m++[ao (US G n a.bj b.bj 134 (λp q=>rS n p q) (λp q r h=>s p q h) o),aI m]) (an h)
  obtain rfl:=aw h;exact aC
theorem Xv(G:cA)(n:Nat)(a:Stmt)(b:Stmt)(h:Aa n a b=aa r):ba G 49 [V.agg (fC a),V.agg (fC b)] (aM r):=bh aV func49 rfl λw X e=>D e [.z (.b (ab)),.z (.b (ab))] (bo h (λk=>bQ [(4,aM k)]) (λl h=>al h λm c h=>aZ h (λd h=>au e ([ao (Ed G c)]++aJ 6 d) (an h)) λd h=>al h λo i h=>au e ([ao (Ed G c)]++aK 5 d++[ao (Xu G n a.value b.value i),aI d]) (an h)) λp h=>aw h▸aC)
theorem U8(G:cA)(n:Nat)(x:Part)(y:Part)(h:zc n x y=aa r):ba G 46 [V.agg (mj x),V.agg (mj y)] (aM r):=bh aV func46 rfl λw X d=>D d [.z (.b (ab)),.z (.b (ab))] (bo h (λl=>bQ [(4,aM l)]) (λm h=>al h λo a h=>aZ h (λc h=>au d ([ao (FG G a)]++aJ 6 c) (an h)) λc h=>al h λp e h=>au d ([ao (FG G a)]++aK 5 c++[ao (UP G n x.body y.body 49 (λi k=>Aa n i k) (λi k r h=>Xv G n i k h) e),aI c]) (an h)) λq h=>aw h▸aC)
theorem zj{a}{b}{r}(h:f9 n a b=aa r):ba G 8 [V.agg (bZ a),V.agg (bZ b)] (aM r):=bh aV func8 rfl λw X e=>D e [.z (.b (ab)),.z (.b (ab))] (ai e (ai e (bo h (λm=>bQ [(4,aM m)]) (λo h=>al h λp i h=>aZ h (λk h=>au e ([ao (Tt G n a.aP b.aP 44 (λc d=>zd n c d) (λc d r h=>Ud G n c d h) i)]++aJ 7 k) (an h)) λk h=>al h λq l h=>au e ([ao (Tt G n a.aP b.aP 44 (λc d=>zd n c d) (λc d r h=>Ud G n c d h) i)]++aK 6 k++[ao (UQ G n a.parts b.parts 46 (λc d=>zc n c d) (λc d r h=>U8 G n c d h) l),aI k]) (an h)) λs h=>aw h▸aC)))
theorem V0{p}{r}(h:t7 n p=aa r):ba G 53 [V.agg (bZ p)] (U r):=bh aV func53 rfl λw X a=>D a [.z (.b (ab))] (aq (al h λi c h=>D a [ao (kh G c)] (aA h (λe h=>aw h▸ai a aC) λe h=>ay (al h λk d h=>aw h▸D a [ao (y7 G d)] aC))))
theorem U9(G:cA)(n:Nat)(a:Int)(h:ze n a=aa r):ba G 209 [U a] (aM r):=bh aV func209 rfl λw X d=>ai d (al h λe c h=>aw h▸D d [ao (gh G c)] aC)
theorem VK{p}{m}{r}(h:El n p m=aa r):ba G 144 [V.agg (bZ p),aF ah m] (aM r):=bh aV func144 rfl λw X i=>D i [.z (.b (ab))] (bo h (λo=>bQ [(4,aM o)]) (λq h=>al h λs c h=>aZ h (λa h=>au i ([ao (kh G c)]++aJ 6 a++ef 4) (an h)) λa h=>al h λx e h=>aZ h (λd h=>au i ([ao (kh G c),aI a,aI a,aN ah m,aI a,aI a,ao (y7 G e),aI a,aI a]++aJ 4 d) (an h)) λd h=>al h λy k h=>au i [ao (kh G c),aI a,aI a,aN ah m,aI a,aI a,ao (y7 G e),aI a,aI a,aI d,aI d,ao (vE G n m 209 (λl=>ze n l) (λl r h=>U9 G n l h) k),aI d,aI d] (an h)) λA h=>aw h▸aC)
theorem Us{p}{r}(h:DN n p=aa r):cv G 145 [] [V.agg (bZ p)] (ms 0 1 3 cj r) [aH 122 1 3 cj r]:=cD aV func145 rfl λw X d a i=>D a [.z (.b (ab))] (al h λk c h=>D a [aY [] [20] (Kb G c)] (aq (ai a (aA h (λe h=>aw h▸ai a (bS a [.grow 2 0 122] cG)) λe h=>aw h▸ay (ai a (eZ a 2 20))))))
theorem H1{a}{r}(h:uM n a=aa r):ba G 265 [U a] (U r):=bh aV func265 rfl λw X c=>aw h▸ai c (D c [aB (show(1000:Int)≠0 by decide),aB (show(1000:Int)≠0 by decide)] aC)
theorem U7(G:cA): ∀(n:Nat) (p:Prog) (m:List Int) (e:Expr) (a:List Int) {r:Int} (h:rR n p m e a=aa r),ba G 211 [V.agg (bZ p),aF ah m,V.agg (di e),aF ah a] (U r):=by
 intro n;induction n with
 |zero=>intro p m e a r h;rw[rR.eq_def] at h;cases h
 |succ n H=>
  intro p m e a r h;rw[rR.eq_def] at h;dsimp only at h;refine bh aV func211 rfl λw X c=>D c [.z (.b (ab)),.z (.b (ab))] (aq (ai c (be (ai c (aA h (λK h=>?_) λK h=>?_)))))
  ·obtain rfl:=aw h;exact ai c aC
  refine ai c (aA h (λL h=>?_) λL h=>?_)
  ·obtain⟨g,k,j,l,h⟩:=gD h;obtain rfl:=aw h;exact D c [ao (v8 G k),ao (H1 G l)] aC
  refine ai c (aA h (λQ h=>?_) λQ h=>?_)
  ·obtain⟨t,o,u,q,h⟩:=gD h;obtain rfl:=aw h;exact D c [ao (tq G o),a' ah q] aC
  refine ay (aq ?_);obtain⟨s,x,v,y,A,B,h⟩:=lQ h;obtain⟨E,C,h⟩:=c5 h;refine bu c bt [.z (.row (dF s)),aB (hJ b6 x (gF s)),ao (H p m s a y),.z (.row (dF A)),aB (hJ b6 B (gF A)),ao (H p m A a C)] (aq (ai c (be (ai c (aA h (λR h=>?_) λR h=>?_)))))
  ·obtain⟨I,F,h⟩:=c5 h;obtain rfl:=aw h;exact D c [ao (H1 G F)] aC
  refine ai c (aA h (λW h=>?_) λW h=>?_)
  ·obtain⟨Z,d,h⟩:=c5 h;obtain rfl:=aw h;exact D c [ao (H1 G d)] aC
  refine ay ?_;obtain⟨f,i,h⟩:=c5 h;obtain rfl:=aw h;exact D c [ao (H1 G i)] aC
theorem VX{p}{m}(c:Nat){x}{r}(h:EK n p m x=aa r):cv G 146 [aH 3 c 1 ah m] [V.agg (bZ p),ms 0 c 1 ah m,V.agg (j' x)] (V.bL []) [aH 3 c 1 ah r]:=cD aV func146 rfl λw X o d y=>D d [.z (.b (ab)),.z (.b (ab))] (al h λq e h=>D d [ao (Lj G e),.z (.nat 20)] (cx h λA i B k C a h=>al h λs l h=>aw h▸bu d bt [ao (tq G i),.z (.b (ab)),ao (U7 G n p m q.value x.bU k),aB (bE ah a),bm ah a,.z (.rows (s.map ah)),aB (str ah l)] p'))
theorem LA{p}{m}{r}(h:tU n p m=aa r):cv G 54 [] [V.agg (bZ p),aF ah m] (V.bL [ms 0 1 1 ah r.1,aM r.2]) [aH 3 1 1 ah r.1]:=by refine cD aV func54 rfl λw X B a L=>D a [.z (.b (ab))] (aq (al h λQ k h=>D a [ao (VK G k)] (aA h (λC h=>aw h▸ai a (bS a [.grow 4 0 3] cG)) λC h=>ay (al h λR l h=>D a [aY [] [20] (G.clone m l)] (aq (al h λe o h=>D a [aY [] [21] (Us G o),aN cj e] (be (cH h (λq x=>a6 [(2,V.aS (ff p)),(6,ms 20 x 1 ah q.1),(16,ms 21 1 3 cj e),(17,U (e.length:Int)),(18,U q.2)] [(20,aH 3 x 1 ah q.1),(21,aH 122 1 3 cj e)] [20,21]) 1 (aO) ?_))))))));rintro i ⟨W,F⟩ y h;exact ai a (c7 h (λH h=>ay (bH (al h λZ c h=>D a [aB (bE cj c),bm cj c,.z (.nat 22)] (bG h λA s K d h=>au a [aY [20] [] (VX G y s),.z (.len 6 (A.map ah).length),aB (jI ah d)] (bg a ⟨(A,wr (F+1)),y,h,aO⟩))))) λH h=>aw h▸br (ai a (eZ a 4 20)))
theorem Zo{a}{b}{r}(h:xx n a b=aa r):ba G 55 [aF ah a,aF ah b] (aM r):=bh aV func55 rfl λw X c=>ai c (aq (D c [aN ah a,aN ah b] (aA h (λk h=>aw h▸ai c aC) λk h=>ay (aq (ai c (be (ct h (λl=>bQ [(0,aF ah a),(1,aF ah b),(5,U l)]) aO λd p h=>aq (D c [aN ah a] (aA h (λm h=>ay (bH (aq (bG h λq e s i h=>bu c bt [a' ah e,a' ah i] (aA h (λo h=>aw h▸ai c aC) λo h=>ay (bg c (an h))))))) λm h=>aw h▸br (ai c aC))))))))))
theorem Yb{p}{q}{a}{r}(h:AY n p q a=aa r):ba G 10 [V.agg (bZ p),V.agg (bZ q),U a] (aM r):=by refine bh aV func10 rfl λw X c=>D c [.z (.b (ab)),.z (.b (ab))] (bG h λg y j e h=>D c [ao (V0 G y),.z (.nat 20),bY (sT ah e),aB (pr e).1] (aq (ai c (be (cH h (λi F=>a6 [(2,U a),(3,V.aS (ff p)),(4,V.aS (ff q)),(7,ms 20 F 1 ah i.1),(8,U i.2)] [(20,aH 3 F 1 ah i.1)] [20]) 1 (aO) ?_)))));rintro s ⟨H,K⟩ L h;exact aq (D c [aN ah H] (aA h (λQ h=>ay (bH (bG h λt k A l h=>au c [aB (show(1000:Int)≠0 by decide),aB (bE ah k),bm ah k,.z (.rows (A.map ah)),.z (.len 7 (A.map ah).length),aB (str ah l),aB (cQ ah l)] (bg c ⟨(A,wr (K+1)),L,h,aO⟩)))) λQ h=>br (al h λR B h=>D c [.z (.at 6),.z (.bk 20 [7,34] []),aY [] [21] (LA G B)] (al h λC m h=>D c [aY [] [22] (LA G m)] (bo h (λi=>a6 [(6,aM i)] [(21,aH 3 1 1 ah R.1),(22,aH 3 1 1 ah C.1)] [20,21,22]) (λW h=>aZ h (λd h=>au c ([aG d,aG d]++ef 4) (an h)) λd h=>aZ h (λx h=>au c ([aI d,aI d]++aJ 4 x) (an h)) λx h=>al h λZ o h=>au c ([aI d,aI d]++aK 3 x++[.z (.b (ab)),ao (Zo G o),aI x]) (an h)) λf h=>aw h▸aC)))))
theorem Vn(G:cA)(n:Nat)(d:List UInt8)(c:List UInt8)(h:KY n d c=aa r):ba G 3 [aF dO d,aF dO c] (aM r):=bh aV func3 rfl λw X e=>ai e (aq (bo h (λo=>bQ [(0,aF dO d),(1,aF dO c),(20,aM o)]) (λI h=>aZ h (λp h=>au e [aN dO d,aG p,aG p,aN dO c,aG p,aG p] (an h)) λp h=>au e ([aN dO d]++aK 4 p) (an h)) λM h=>aA h (λR h=>aw h▸ai e aC) λR h=>ay (al h λi H h=>D e [ao (Ve G H),.z (.nat 20),.z (.nat 21)] (al h λs K h=>D e [ao (Wg G K),.z (.nat 22)] (al h λC L h=>D e [ao (LU G L),.z (.nat 23)] (aq (bo h (λo=>a6 [(1,aF dO c),(5,V.ref 20 0),(7,V.ref 22 0),(8,aM s.2),(9,V.ref 23 0),(10,aM C.2),(50,aM o)] [(20,E.cells (bZ i.1)),(21,E.cells [U i.2.kind,U i.2.part,U i.2.a,U i.2.b]),(22,E.cells (bZ s.1)),(23,E.cells (bZ C.1))] [20,21,22,23]) (λN h=>aZ h (λl h=>al h λP x h=>aZ h (λQ h=>au e (aJ 3 l++[ao (zj G x),aG l,aG l]++aJ 3 Q) (an h)) λQ h=>au e (aJ 3 l++[ao (zj G x),aG l,aG l]++aK 3 Q) (an h)) λl h=>au e (aK 5 l++[ev,ev,ev]) (an h)) λS h=>aA h (λW h=>bo h (λo=>a6 [(4,aM o)] [(20,E.cells (bZ i.1)),(21,E.cells [U i.2.kind,U i.2.part,U i.2.a,U i.2.b]),(22,E.cells (bZ s.1)),(23,E.cells (bZ C.1))] [20,21,22,23]) (λT h=>aZ h (λF h=>au e (aJ 4 F) (an h)) λF h=>al h λZ y h=>au e (aK 3 F++[ao (zj G y),aI F]) (an h)) λf h=>aw h▸aC) λW h=>ay (D e [.z (.nat 24)] (D e [.z (.nat 25)] (bo h (λo=>a6 [(4,aM o)] [(20,E.cells (bZ i.1)),(21,E.cells [U i.2.kind,U i.2.part,U i.2.a,U i.2.b]),(22,E.cells (bZ s.1)),(23,E.cells (bZ C.1)),(24,E.cells [aF bw i.1.aP,a1]),(25,E.cells [aF bw s.1.aP,a1])] [20,21,22,23,24,25]) (λg h=>al h λj k h=>aZ h (λq h=>au e ([ao (kh G k)]++aJ 4 q++ef 6) (an h)) λq h=>al h λt m h=>aZ h (λA h=>au e ([ao (kh G k)]++aK 3 q++[ao (zj G m),aI q]++aJ 6 A) (an h)) λA h=>al h λu B h=>au e ([ao (kh G k)]++aK 3 q++[ao (zj G m),aI q]++aK 4 A++[aN dO c,aI A,ao (Yb G B),aI A]) (an h)) λv h=>aw h▸aC))))))))))
end Go.Lift
