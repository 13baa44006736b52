/- Tools. -/
import Derived.Test.YteifkndfpnkalaaGreatEWalks1
set_option maxRecDepth 10000
set_option linter.unusedVariables false
namespace Go.Lift
open Go Go.Proofs Go.Proofs.Tryz
open Option renaming some -> aa, none -> aj, map_some -> hv
open Bool renaming true -> ab, false -> ak
open Decidable renaming decide -> ag
open Go.Builtin renaming zeroCells -> eS
open Int renaming toNat -> cE
open List renaming map -> bV
open Eq renaming refl -> b3
variable (G:cA){n:Nat}
theorem V8(G:cA): ∀(n:Nat) (e:Expr) (d:FuncId) (a:List T) (c:List T) (change:az->Option az) (i: ∀(F:az) r,change F=aa r->ba G d [V.agg (cw F),V.aS a,V.aS c] (V.agg (cw r))) {r:Expr} (h:mL n e change=aa r),ba G 230 [V.agg (dj e),V.fn d [V.aS a,V.aS c]] (V.agg (dj r)):=by
 intro n;induction n with
 |zero=>intro e d a c change i r h;rw[mL.eq_def] at h;cases h
 |succ n K=>
  intro e d a c change i r h;rw[mL.eq_def] at h;dsimp only at h;refine bj aV func230 rfl λw X k=>D k [.z (.b (ab)),.z (.nat 20)] (D k [.z (.nat 21)] (bo h (λl=>a6 [(1,V.fn d [V.aS a,V.aS c]),(2,V.aS (dF e)),(4,V.ref 20 0),(5,V.ref 21 0)] [(20,E.cells [U 0,U 0,aZ,U 0,bA [],aZ,aZ]),(21,E.cells [U e.kind,U e.num,aE ai l.1,U l.2.1,bA l.2.2.1,aE aG l.2.2.2,aZ])] [20,21]) (λu h=>?_) ?_))
  ·refine ah k (be (ah k (aA h (λL h=>?_) λL h=>?_)))
   ·obtain⟨v,y,h⟩:=c5 h;exact au k [ao (i e.index _ y)] (an h)
   refine ah k (aA h (λQ h=>?_) λQ h=>ay (an h));obtain⟨I,A,h⟩:=c5 h;exact au k [ao (Lk G n e.read d a c change i A)] (an h)
  rintro⟨R,W,Z,f⟩ h;refine aq (D k [aM b7 e.bk] (be (bP k [.fb 21 6 22 71] (cH h (λl H=>a6 [(1,V.fn d [V.aS a,V.aS c]),(4,V.ref 20 0),(5,V.ref 21 0),(30,aE b7 e.bk),(31,U (e.bk.length:Int)),(32,U l.2)] [(20,E.cells [U 0,U 0,aZ,U 0,bA [],aZ,aZ]),(21,E.cells [U e.kind,U e.num,aE ai R,U W,bA Z,aE aG f,ms 22 H 7 b7 l.1]),(22,aH 71 H 7 b7 l.1)] [20,21,22]) 1 (aO) ?_))));rintro p ⟨g,j⟩ B h;refine ah k (c6 h (λt h=>?_) λt h=>?_)
  ·refine ay (bC ?_);obtain⟨m,q,h⟩:=c5 h;refine D k [.z (.row (dF m)),.z (.nat 23),aB (hK b7 q (gG m))] ?_;obtain⟨o,s,C,x,h⟩:=gE h;exact bu k bt [ao (K m d a c change i s),.z (.int 2),.z (.rows (bV b7 [o])),aB (q1 o),bZ (b' b7 x),bF 7 j0 g,bF 7 j0 [o]] (bf k ⟨(C,wr (j+1)),(B+1),h,aO⟩)
  cases h;exact br (D k [.z (.at 2),.z (.bh 22 [] [21])] aC)
theorem Wp(G:cA)(n:Nat)(s:Stmt)(d:FuncId)(a:List T)(c:List T)(change:az->Option az)(e: ∀(l:az) r,change l=aa r->ba G d [V.agg (cw l),V.aS a,V.aS c] (V.agg (cw r))){r:Stmt}(h:qH n s change=aa r):ba G 161 [V.agg (fC s),V.fn d [V.aS a,V.aS c]] (V.agg (fC r)):=by refine bj aV func161 rfl λw X m=>D m [.z (.b (ab)),.z (.nat 20)] (aq (bH h λo i p k h=>?_));cases h;exact bu m bt [ao (Lk G n s.write d a c change e i),ao (V8 G n s.value d a c change e k)] aC
variable {r:Bool}{c:List Part}{k:Type}{l:List k}{i:Int}{x y:k}{o:Nat}{a:TypeInfo}{z:Value}
theorem Tu(G:cA)(n:Nat)(a:List Part)(i:Int)(p:Part)(o:ax a i=aa p)(g:Nat)(l:Int)(s:FuncId)(d:List T)(f:az->Option az)(Z: ∀(b:az) r,f b=aa r->ba G s [V.agg (cw b),V.aS d] (V.agg (cw r))){t:Part}(h:f9 n p l f=aa t)(L:ca a i t=aa c):
  cu G 75 [E.a7 b4 0 g (a.map ar) []] [V.cK 0 g 2 (0+cE i) 0,U l,V.fn s [V.aS d]] (V.bM []) [E.a7 b4 0 g (bV ar c) []]:=by refine cC aV func75 rfl λw X v e S=>aq (ah e (dn e [.en 0 21 (0+cE i) 0 (ar p),.en 0 22 (0+cE i) 1 (ar p),.dp 22] (a2 (ch ar o) (ch ar o)) (be (cr h (λA=>a6 [(0,V.cK 0 g 2 (0+cE i) 0),(2,V.fn s [V.aS d]),(6,U A.2)] [(0,E.a7 b4 0 g (a.map ar) [((0+cE i),1,ms 22 1 9 bs p.body),((0+cE i),0,ms 21 1 2 av p.nest)]),(21,E.a7 b4 1 1 (A.1.map av) []),(22,aH 73 1 9 bs p.body)] [0,21,22]) aO ?_))));rintro H ⟨x,k⟩ h;refine al h λs1 q h=>aq (D e [bn ar o,.z (.nat x.length),aB (RS av q)] (aA h (λI h=>ay (bC (cx h λM B il Q kE R h=>au e [bn ar o,aB (De av q B),aY [21] [] (Tw G n x k M B 1 s d f Z Q R)] (bf e (an h))))) λI h=>br (D e [bn ar o,aM bs p.body] (be (cr h (λA=>a6 [(0,V.cK 0 g 2 (0+cE i) 0),(2,V.fn s [V.aS d]),(30,ms 22 1 9 bs A.1),(31,U (p.body.length:Int)),(32,U A.2)] [(0,E.a7 b4 0 g (a.map ar) [((0+cE i),1,ms 22 1 9 bs p.body),((0+cE i),0,ms 21 1 2 av p.nest)]),(21,E.a7 b4 1 1 (x.map av) []),(22,aH 73 1 9 bs A.1)] [0,21,22]) aO ?_)))));rintro K ⟨y,j⟩ h;refine al h λs2 C h=>ah e (c6 h (λN h=>ay (bC (al h λP m h=>D e [aB (bI bs m),bn bs m,.z (.nat 24)] (bH h λha W u F h=>bu e bt [bn ar o,ao (V7 G n P s d f Z W),aB (De bs C m),bn bs m,.z (.rows (u.map bs)),aB (str bs F)] (dn e [.len 30 (u.map bs).length] (aN (cQ bs F)) (bf e (an h))))))) λN h=>?_);cases h;exact dn e [.ei 22 b4 2,.dz 0 22 (ar p) (bV ar (a.set i.toNat (⟨p.nest,y⟩:Part))),.dz 0 21 (ar (⟨p.nest,y⟩:Part)) (bV ar c)] (fV (jK bs C) (b3 b4) (ch ar o) (gq ar (xc L (⟨p.nest,y⟩:Part)) rfl) (jK av q) (b3 b4) (ch ar (vc L (⟨p.nest,y⟩:Part))) (gq ar (xb L (⟨p.nest,y⟩:Part)) rfl)) (br qd)
theorem Kl(G:cA)(n:Nat)(a:List Part)(i:Int)(p:Part)(q:ax a i=aa p)(g:Nat)(m:Int)(A:FuncId)(d:List T)(e:List T)(f:az->Option az)(b: ∀(t:az) r,f t=aa r->ba G A [V.agg (cw t),V.aS d,V.aS e] (V.agg (cw r))){u:Part}(h:f9 n p m f=aa u)(Q:ca a i u=aa c):
  cu G 75 [E.a7 b4 0 g (a.map ar) []] [V.cK 0 g 2 (0+cE i) 0,U m,V.fn A [V.aS d,V.aS e]] (V.bM []) [E.a7 b4 0 g (bV ar c) []]:=by refine cC aV func75 rfl λw X I l bL=>aq (ah l (dn l [.en 0 21 (0+cE i) 0 (ar p),.en 0 22 (0+cE i) 1 (ar p),.dp 22] (a2 (ch ar q) (ch ar q)) (be (cr h (λB=>a6 [(0,V.cK 0 g 2 (0+cE i) 0),(2,V.fn A [V.aS d,V.aS e]),(6,U B.2)] [(0,E.a7 b4 0 g (a.map ar) [((0+cE i),1,ms 22 1 9 bs p.body),((0+cE i),0,ms 21 1 2 av p.nest)]),(21,E.a7 b4 1 1 (B.1.map av) []),(22,aH 73 1 9 bs p.body)] [0,21,22]) aO ?_))));rintro K ⟨x,k⟩ h;refine al h λs1 s h=>aq (D l [bn ar q,.z (.nat x.length),aB (RS av s)] (aA h (λM h=>ay (bC (cx h λN C il R kE W h=>au l [bn ar q,aB (De av s C),aY [21] [] (Tv G n x k N C 1 A d e f b R W)] (bf l (an h))))) λM h=>br (D l [bn ar q,aM bs p.body] (be (cr h (λB=>a6 [(0,V.cK 0 g 2 (0+cE i) 0),(2,V.fn A [V.aS d,V.aS e]),(30,ms 22 1 9 bs B.1),(31,U (p.body.length:Int)),(32,U B.2)] [(0,E.a7 b4 0 g (a.map ar) [((0+cE i),1,ms 22 1 9 bs p.body),((0+cE i),0,ms 21 1 2 av p.nest)]),(21,E.a7 b4 1 1 (x.map av) []),(22,aH 73 1 9 bs B.1)] [0,21,22]) aO ?_)))));rintro L ⟨y,j⟩ h;refine al h λs2 F h=>ah l (c6 h (λP h=>ay (bC (al h λS o h=>D l [aB (bI bs o),bn bs o,.z (.nat 24)] (bH h λha Z v H h=>bu l bt [bn ar q,ao (Wp G n S A d e f b Z),aB (De bs F o),bn bs o,.z (.rows (v.map bs)),aB (str bs H)] (dn l [.len 30 (v.map bs).length] (aN (cQ bs H)) (bf l (an h))))))) λP h=>?_);cases h;exact dn l [.ei 22 b4 2,.dz 0 22 (ar p) (bV ar (a.set i.toNat (⟨p.nest,y⟩:Part))),.dz 0 21 (ar (⟨p.nest,y⟩:Part)) (bV ar c)] (fV (jK bs F) (b3 b4) (ch ar q) (gq ar (xc Q (⟨p.nest,y⟩:Part)) rfl) (jK av s) (b3 b4) (ch ar (vc Q (⟨p.nest,y⟩:Part))) (gq ar (xb Q (⟨p.nest,y⟩:Part)) rfl)) (br qd)
theorem Vv(G:cA)(n:Nat)(a:az)(c:Int){r:az}(h:vZ n a c=aa r):ba G 76 [V.agg (cw a),V.aS [T.int .i64 c]] (V.agg (cw r)):=bj aV func76 rfl λw X i=>D i [.z (.b (ab)),.z (.nat 20)] (al h λs o h=>D i [aY [] [21] (Eb G o),.z (.nat 22)] (aq (cx h λx k y d p e h=>bH h λA l q m h=>aw h▸bu i bt [aB (bI ai k),bn ai k,aB (bI ai d),bn ai d,aB (bI ai d),bn ai d,.z (.rows (p.map ai)),aB (str ai e),aB (Df ai l (cQ ai e)),bn ai l,.z (.rows (q.map ai)),aB (str ai m)] (dn i [.len 11 (p.map ai).length,.fg 22 0 (p.map ai).length,.fg 22 0 (q.map ai).length] (a3 (cQ ai e) (cQ ai e) (cQ ai m)) (D i [.z (.at 2),.z (.bh 21 [] [22])] aC)))))
theorem rY{p}{r}(h:mD n p=aa r):ba G 78 [V.agg (bX p)] (V.bM [V.agg (bX r.1),aL r.2]):=bj aV func78 rfl λw X a=>D a [.z (.b (ab)),.z (.nat 20)] (aq (al h λi c h=>D a [ao (jX G c)] (aA h (λe h=>aw h▸ah a aC) λe h=>ay (al h λk d h=>aw h▸D a [aY [] [21,22] (Ec G d)] (bP a [.bh 21 [] [20]] (bP a [.bh 22 [] [20]] aC))))))
theorem acf{r:List k}{j:Int}(h:ca l i x=aa r)(a:ax l j=aa y)(c:0+i.toNat≠0+j.toNat):ax r j=aa y:=by obtain⟨_,_,rfl⟩:=uk h;obtain⟨d,e⟩:=nF a;unfold ax;rw[aR d,js O];exact e
theorem afj(h:ax l i=aa x)(c:ax l (wr (i+1))=aa y)(d: ¬(i<0)):0+cE i≠0+cE (wr (i+1)):=by
 intro e;have m:=nF c;have o:=(nF h).1;have a:wr (i+1)=i:=O
 unfold wr at a;rw[IntKind.wrap_i64] at a;omega
theorem V1{p}{part}{loop}{r}(h:Ep n p part loop=aa r):ba G 20 [V.agg (bX p),U part,U loop] (V.bM [V.agg (bX r.1),aL r.2]):=by
 refine bj aV func20 rfl λw X d=>D d [.z (.b (ab)),.z (.b (ab)),.z (.nat 20)] (aq (al h λM H h=>a1 h (λf h=>au d [ao (r3 G n p part loop H f),.z (.nat 21)] (aq (aq (bu d bt (dX 29) (kT (b:=ab) Y (λe=>aw h▸ah d aC) λe=>by cases e))))) λf h=>au d [aY [] [21,22] (r2 G n p part loop H f),.z (.nat 23)] (aq (aq (kW (ag (loop<0)) (λe=>?_) λe=>?_)))));rotate_left
 ·have h:=iO e h;exact bu d bt ([b2,b2,b2]++aK 9 e++dX 17) (kT (b:=ab) Y (λm=>aw h▸ah d aC) λm=>by cases m)
 have h:=iN e h;refine al h λA c h=>dn d [.en 22 24 (0+cE part) 0 (ar A)] (aN (ch ar c)) (kW (ag ((A.nest.length:Int)<=wr (loop+1))) (λo=>?_) λo=>?_);rotate_left
 ·have h:=iO o h;exact bu d bt ([b2,b2,b2]++aI 6 e++[bn ar c,aF e,aM av A.nest,aF e,aF e]++aK 11 o++dX 6) (kT (b:=ab) Y (λm=>aw h▸ah d aC) λm=>by cases m)
 have h:=iN o h;refine bH h λq a v K h=>dn d [.en 24 25 (0+cE (wr (loop+1))) 0 (av q),.en 24 26 (0+cE (wr (loop+1))) 1 (av q)] (a2 (ch av a) (ch av a)) (kW v (λC=>?_) λC=>?_);rotate_left
 ·have h:=iO C h;exact bu d bt ([b2,b2,b2]++aI 6 e++[bn ar c,aF e,aM av A.nest,aF e,aF e]++aI 4 o++[bn ar c]++aI 3 o++[aB (bI av a),aF o,bn av a,aF o,aF o,.z (.b ab),.z (.nat 25),.z (.nat 26),ao (LZ G K),aF o]++aK 6 C) (kT (b:=ab) Y (λm=>aw h▸ah d aC) λm=>by cases m)
 have h:=iN C h;refine al h λg j h=>bu d bt ([b2,b2,b2]++aI 6 e++[bn ar c,aF e,aM av A.nest,aF e,aF e]++aI 4 o++[bn ar c]++aI 3 o++[aB (bI av a),aF o,bn av a,aF o,aF o,.z (.b ab),.z (.nat 25),.z (.nat 26),ao (LZ G K),aF o]++aI 4 C++[ao (Ma G n p part 74 [T.int .i64 loop] (λF=>v7 n F loop) (λF t r h=>Vw G n F t loop h) j),aF C,aF C]) (dR (b:= !g) (λm=>?_) λm=>?_)
 ·have m:g=ak:=by simpa using m
  have h:=iN m h;exact aw h▸ah d aC
 have m:g=ab:=by simpa using m
 have h:=iO m h;refine ay (aq (cx h λs k L l Q x h=>al h λR y h=>?_));have i:=afj k a (of_decide_eq_false e);exact dn d [.en 24 27 (0+cE loop) 0 (av s),.en 24 28 (0+cE loop) 1 (av s)] (a4 (ch av k) i (ch av k) i) (bu d bt [bn ar c,bn ar c,bn ar c,.z (.int 2),aB (bI av a),bn av a,bn ar c,aB (bI av k),bn av k,.z (.int 0),.z (.nat 2),aB (bI av k),bn av k,.z (.int 2),.z (.nat 2),aB (Ne.symm i),aB (Ne.symm i),aB (bI av a),bn av a,aB i,aB i] (dn d [.dz 24 26 (av s) (bV av (A.nest.set loop.toNat (⟨s.lo,q.hi⟩:Loop))),.dz 24 25 (av (⟨s.lo,q.hi⟩:Loop)) (L.map av),.dz 24 28 (av q) (bV av (L.set (wr (loop+1)).toNat (⟨q.lo,s.hi⟩:Loop))),.dz 24 27 (av (⟨q.lo,s.hi⟩:Loop)) (Q.map av),.dz 22 24 (ar A) (R.map ar)] (o9 (b3 (q.hi.map aG).length) (o9 (b3 b4) (o9 (ch av k) (o9 (gq av (xc l (⟨s.lo,q.hi⟩:Loop)) rfl) (o9 i (o9 (b3 (q.lo.map aG).length) (o9 (b3 b4) (o9 (ch av (vc l (⟨s.lo,q.hi⟩:Loop))) (o9 (gq av (xb l (⟨s.lo,q.hi⟩:Loop)) rfl) (o9 i (a12 (b3 (s.hi.map aG).length) (b3 b4) (ch av (acf l a i)) (gq av (xc x (⟨q.lo,s.hi⟩:Loop)) rfl) (b3 (s.lo.map aG).length) (b3 b4) (ch av (vc x (⟨q.lo,s.hi⟩:Loop))) (gq av (xb x (⟨q.lo,s.hi⟩:Loop)) rfl) ((cQ av l).trans (cQ av x)) (b3 b4) (ch ar c) (gq ar y rfl)))))))))))) (bH h λE W u B h=>D d [aY [22] [] (Tu G n R part (⟨Q,A.body⟩:Part) (CX y) 1 (wr (loop+2)) 76 [T.int .i64 loop] (λF=>vZ n F loop) (λF r h=>Vv G n F loop h) W B)] (dn d [.dp 22,.fg 23 1 (u.map ar).length,.bh 21 [] [23],.bh 22 [] [23]] (aN ((cQ ar y).trans (cQ ar B))) (al h λI Z h=>aw h▸D d [ao (rY G Z)] aC)))))
theorem W4(G:cA)(n:Nat)(a:az)(h:Fl n a=aa r):ba G 231 [V.agg (cw a)] (aL r):=bj aV func231 rfl λw X d=>D d [.z (.b (ab))] (al h λe c h=>aw h▸D d [ao (ts G c)] aC)
theorem FY{a}{r}(h:xo n a=aa r):ba G 162 [aE aG a] (aL r):=bj aV func162 rfl λw X e=>ah e (al h λi c h=>aw h▸D e [ao (Uq G n a 231 (λd=>Fl n d) (λd r h=>W4 G n d h) c)] aC)
theorem KX{l}{r}(h:wx n l=aa r):ba G 79 [V.agg (kb l)] (V.bM [U r.1,U r.2.1,aL r.2.2]):=bj aV func79 rfl λw X d=>D d [.z (.b (ab))] (aq (bo h (λp=>bR [(1,V.aS (av l)),(26,aL p)]) (λs h=>a1 h (λa h=>a1 h (λc h=>al h λx e h=>a1 h (λi h=>al h λy k h=>au d ([aM aG l.lo]++aI 3 a++[aM aG l.hi,aF a,aF a]++aI 3 c++[ao (FY G e),aF c,aF c]++aI 3 i++[ao (FY G k),aF i,aF i]) (an h)) λi h=>au d ([aM aG l.lo]++aI 3 a++[aM aG l.hi,aF a,aF a]++aI 3 c++[ao (FY G e),aF c,aF c]++aK 5 i) (an h)) λc h=>au d ([aM aG l.lo]++aI 3 a++[aM aG l.hi,aF a,aF a]++aK 5 c++dX 5) (an h)) λa h=>au d ([aM aG l.lo]++aK 5 a++dX 10) (an h)) λA h=>aA h (λq h=>aw h▸ah d aC) λq h=>ay (aq (bH h λB m C o h=>aw h▸bu d bt [a' aG m,a' aG o] aC))))
theorem Vo(G:cA)(n:Nat)(d:List Int)(e:Nat)(a:Int){r:(List Int)}(h:vX n d a=aa r):cu G 80 [aH 3 e 1 ai d] [ms 0 e 1 ai d,V.aS [T.int .i64 a]] (V.bM []) [aH 3 e 1 ai r]:=cC aV func80 rfl λw X k l o=>bH h λp c m i h=>aw h▸bu l bt [aB (bI ai c),bn ai c,aB (bI ai c),bn ai c,.z (.rows (m.map ai)),aB (str ai i)] qd
theorem wz{a}{r}(h:qD n a=aa r):cu G 90 [] [U a] (V.agg [ms 0 1 1 ai r.aT,U r.const]) [aH 3 1 1 ai r.aT]:=cC aV func90 rfl λw X e d i=>D d [.z (.nat 20)] (al h λk c h=>aw h▸D d [.z (.nat 21),bZ (sU ai c),aB (py c).1] (bP d [.dT 21 0 [] [20]] cG))
theorem tX{v}{k}{r}(h:ow n v k=aa r):cu G 81 [] [U v,U k] (V.agg [ms 0 1 1 ai r.aT,U r.const]) [aH 3 1 1 ai r.aT]:=cC aV func81 rfl λw X l a m=>D a [.z (.nat 20)] (al h λo e h=>D a [aY [] [21] (wz G e),.z (.nat 22)] (bH h λp c i d h=>aw h▸D a [aB (bI ai c),bn ai c,.z (.rows (i.map ai)),.z (.fg 22 0 (i.map ai).length),aB (str ai d),aB (cQ ai d)] (ah a (bP a [.dT 21 0 [] [20,22]] cG))))
theorem Cn{a}{k}{b}{r}(h:s3 n a k b=aa r):cu G 87 [] [V.agg (cw a),U k,V.agg (cw b)] (V.agg [ms 0 1 1 ai r.aT,U r.const]) [aH 3 1 1 ai r.aT]:=by refine cC aV func87 rfl λw X s c C=>D c [.z (.b (ab)),.z (.b (ab)),.z (.nat 20)] (al h λx l h=>D c [aY [] [21] (Eb G l),.z (.nat 22)] (aq (D c [aM ai b.aT] (be (cH h (λm q=>a6 [(1,U k),(5,V.aS (aG b)),(6,V.ref 20 0),(7,V.ref 22 0),(13,aE ai b.aT),(14,U (b.aT.length:Int)),(15,U m.2)] [(20,E.cells [aZ,U 0]),(21,aH 3 q 1 ai m.1),(22,E.cells [ms 21 q 1 ai m.1,U x.const])] [20,21,22]) 1 (aO) ?_)))));rintro i ⟨F,y⟩ A h;exact ah c (c6 h (λB h=>ay (bC (al h λH o h=>D c [a' ai o] (bH h λK d p e h=>au c [aB (bI ai d),bn ai d,aB (bI ai d),bn ai d,.z (.rows (p.map ai)),.z (.fg 22 0 (p.map ai).length),aB (str ai e),aB (cQ ai e)] (bf c ⟨(p,wr (y+1)),A,h,aO⟩))))) λB h=>aw h▸br (ah c (ah c (bP c [.dT 21 0 [] [20,22]] cG))))
theorem G3{a}{v}{b}{r}(h:u3 n a v b=aa r):cu G 83 [] [V.agg (cw a),U v,V.agg (cw b)] (V.agg [ms 0 1 1 ai r.aT,U r.const]) [aH 3 1 1 ai r.aT]:=cC aV func83 rfl λw X m d o=>D d [.z (.b (ab)),.z (.b (ab)),.z (.nat 20)] (al h λp i h=>D d [aY [] [21] (Eb G i),.z (.nat 22)] (al h λq c h=>D d [aB (bI ai c),bn ai c] (al h λl e h=>D d [aB (bI ai c),bn ai c,.z (.rows (l.map ai)),.z (.fg 22 0 (l.map ai).length),aB (str ai e),aB (cQ ai e)] (al h λs k h=>aw h▸D d [.z (.at 5),.z (.bh 21 [] [22]),aY [] [23] (Cn G k)] (bP d [.dT 23 0 [] [20]] cG)))))
theorem Vn(G:cA)(n:Nat)(a:az)(c:Int)(d:az){r:az}(h:vW n a c d=aa r):ba G 82 [V.agg (cw a),V.aS [T.int .i64 c],V.aS (aG d)] (V.agg (cw r)):=bj aV func82 rfl λw X e=>D e [.z (.b (ab)),.z (.nat 20)] (al h λk i h=>aw h▸D e [aY [] [21] (G3 G i)] (bP e [.bh 21 [] [20]] aC))
theorem VZ{p}{part}{loop}{r}(h:En n p part loop=aa r):ba G 21 [V.agg (bX p),U part,U loop] (V.bM [V.agg (bX r.1),aL r.2]):=by
 refine bj aV func21 rfl λw X a=>D a [.z (.b (ab)),.z (.b (ab)),.z (.nat 20)] (aq (al h λW q h=>a1 h (λA h=>au a [ao (r3 G n p part loop q A),.z (.nat 21)] (aq (D a [ev,ev,ev] (kT (b:=ab) Y (λZ=>aw h▸ah a aC) λZ=>by cases Z)))) λA h=>au a [aY [] [21,22] (r2 G n p part loop q A),.z (.nat 23)] (aq (D a [b2,b2,b2] (aA h (λf h=>aw h▸ah a aC) λf h=>ay (aq (cx h λm d o c i B h=>dn a [.en 22 24 (0+cE part) 0 (ar m),.en 24 25 (0+cE loop) 0 (av o),.en 24 26 (0+cE loop) 1 (av o)] (a3 (ch ar d) (ch av c) (ch av c)) (bu a bt [bn ar d,aB (bI av c),bn av c,.z (.b ab),.z (.nat 25),.z (.nat 26),ao (KX G B)] (dn a [.dz 24 26 (av o) (m.nest.map av),.dz 24 25 (av o) (m.nest.map av),.dz 22 24 (ar m) (W.1.parts.map ar)] (a12 (b3 (o.hi.map aG).length) (b3 b4) (ch av c) (iV av c rfl) (b3 (o.lo.map aG).length) (b3 b4) (ch av c) (iV av c rfl) (b3 (m.nest.map av).length) (b3 b4) (ch ar d) (iV ar d rfl)) (aq (aq (a1 h (λC h=>?_) λC h=>?_))))))))))))
 ·have s:(!i.2.2)=ab:=by rw[C];rfl
  exact au a (aK 6 s) (kT (b:=ab) Y (λe=>aw h▸ah a aC) λe=>by cases e)
 have s:(!i.2.2)=ak:=by rw[C];rfl
 refine al h λF H h=>au a (aI 4 s++[ao (Ma G n p part 80 [T.int .i64 loop] (λl=>vX n l loop) (λl K r h=>Vo G n l K loop h) H),aF s,aF s]) (dR (b:= !F) (λe=>?_) λe=>?_)
 ·have e:F=ak:=by simpa using e
  have h:=iN e h;exact aw h▸ah a aC
 have e:F=ab:=by simpa using e
 have h:=iO e h;exact ay (al h λL Q h=>D a [aY [] [28] (tX G Q),.z (.nat 29)] (ah a (bP a [.bh 28 [] [29],.tu 29 [13]] (bH h λg x R k h=>D a [aY [22] [] (Kl G n W.1.parts part m d 1 (wr (loop+1)) 82 [T.int .i64 loop] [T.bE (L.aT.map ai),T.int .i64 (wr ((wr (i.1+i.2.1))-1))] (λl=>vW n l loop (⟨L.aT,wr ((wr (i.1+i.2.1))-1)⟩:az)) (λl r h=>Vn G n l loop (⟨L.aT,wr ((wr (i.1+i.2.1))-1)⟩:az) h) x k)] (dn a [.dp 22,.fg 23 1 (R.map ar).length,.bh 21 [] [23],.bh 22 [] [23]] (aN (cQ ar k)) (al h λj y h=>aw h▸D a [ao (rY G y)] aC))))))
theorem Nk{a}{r}(h:xS n a=aa r):ba G 84 [U a] (aL r):=bj aV func84 rfl λw X d=>ah d (al h λe c h=>aw h▸D d [ao (gi G c)] aC)
theorem Wc(G:cA)(n:Nat)(a:az)(c:Int)(d:Int){r:az}(h:zz n a c d=aa r):ba G 86 [V.agg (cw a),V.aS [T.int .i64 c],V.aS [T.int .i64 d]] (V.agg (cw r)):=bj aV func86 rfl λw X e=>D e [.z (.b (ab)),.z (.nat 20)] (aq (bH h λl i m k h=>aw h▸bu e bt [aY [] [21] (tX G i),.z (.at 2),.z (.bh 21 [8] []),aY [] [22] (Cn G k)] (bP e [.bh 22 [] [20]] aC)))
theorem Wb(G:cA)(n:Nat)(a:az)(c:Int)(d:az){r:az}(h:m9 n a c d=aa r):ba G 88 [V.agg (cw a),V.aS [T.int .i64 c],V.aS (aG d)] (V.agg (cw r)):=bj aV func88 rfl λw X e=>D e [.z (.b (ab)),.z (.nat 20)] (al h λk i h=>aw h▸D e [aY [] [21] (G3 G i)] (bP e [.bh 21 [] [20]] aC))
theorem XN{p}{part}{loop}{d}{r}(h:AJ n p part loop d=aa r):ba G 22 [V.agg (bX p),U part,U loop,U d] (V.bM [V.agg (bX r.1),aL r.2]):=bj aV func22 rfl λw X c=>D c [.z (.b (ab)),.z (.b (ab)),.z (.b (ab)),.z (.nat 20)] (aq (al h λo s h=>a1 h (λF h=>au c [ao (r3 G n p part loop s F),.z (.nat 21)] (aq (aq (bu c bt (dX 16) (kT (b:=ab) Y (λe=>aw h▸ah c aC) λe=>by cases e))))) λF h=>au c [aY [] [21,22] (r2 G n p part loop s F),.z (.nat 23)] (aq (bo h (λf=>a6 [(6,V.aS [T.int .i64 loop]),(7,V.aS [T.int .i64 d]),(8,V.ref 20 0),(10,V.ref 23 0),(11,V.cK 22 1 2 (0+cE part) 0),(42,aL f)] [(20,E.cells [aZ,aZ]),(21,aH 55 1 2 bw o.1.aQ),(22,E.a7 b4 0 1 (o.1.parts.map ar) []),(23,E.cells [ms 21 1 2 bw o.1.aQ,ms 22 1 2 ar o.1.parts])] [20,21,22,23]) (λM h=>a1 h (λe h=>al h λi a h=>dn c [.en 22 24 (0+cE part) 0 (ar i)] (aN (ch ar a)) (a1 h (λq h=>al h λg H h=>bu c bt ([b2,b2,b2]++aI 6 e++[bn ar a,aF e,aM av i.nest,aF e,aF e,aF q,aF q,ao (Nk G H),aF q,aF q]) ⟨!g,h,S.le.trans (og c [.dz 22 24 (ar i) (o.1.parts.map ar)] (a4 (b3 (i.nest.map av).length) (b3 b4) (ch ar a) (iV ar a rfl))) (aO)⟩) λq h=>bu c bt ([b2,b2,b2]++aI 6 e++[bn ar a,aF e,aM av i.nest,aF e,aF e]++aK 4 q) ⟨ab,h,S.le.trans (og c [.dz 22 24 (ar i) (o.1.parts.map ar)] (a4 (b3 (i.nest.map av).length) (b3 b4) (ch ar a) (iV ar a rfl))) (aO)⟩)) λe h=>bu c bt ([b2,b2,b2]++aK 9 e++dX 4) (an h)) λN h=>aA h (λj h=>aw h▸ah c aC) λj h=>ay (aq (cx h λi a t x P K h=>bH h λu y A k h=>bu c bt [.z (.en 22 25 (0+cE part) 0 (ar i)),bn ar a,aB (ch ar a),aB (bI av x),aY [25] [] (Tv G n i.nest (wr (loop+1)) t x 1 86 [T.int .i64 d] [T.int .i64 loop] (λm=>zz n m d loop) (λm r h=>Wc G n m d loop h) K y)] (dn c [.dz 22 25 (ar i) (A.map ar)] (a4 (cQ av y) (b3 b4) (ch ar a) (gq ar k rfl)) (aq (al h λUk L h=>al h λK3 Q h=>al h λR W h=>bu c bt [aY [] [26] (tX G L),aY [] [27] (tX G Q),.z (.at 3),.z (.bh 26 [55] []),.z (.at 3),.z (.bh 27 [59] []),aY [] [28] (Cn G W),.z (.nat 29)] (bP c [.bh 28 [] [29],.tu 29 [13]] (bH h λv B Z l h=>D c [aY [22] [] (Kl G n A part (⟨u,i.body⟩:Part) (CX k) 1 (wr (loop+2)) 88 [T.int .i64 loop] (aG R) (λm=>m9 n m loop R) (λm r h=>Wb G n m loop R h) B l)] (dn c [.dp 22,.fg 23 1 (Z.map ar).length,.bh 21 [] [23],.bh 22 [] [23]] (aN ((cQ ar k).trans (cQ ar l))) (al h λI C h=>aw h▸D c [ao (rY G C)] aC)))))))))))))
theorem VY(G:cA)(n:Nat)(a:az)(c:Int){r:az}(h:zp n a c=aa r):ba G 89 [V.agg (cw a),V.aS [T.int .i64 c]] (V.agg (cw r)):=bj aV func89 rfl λw X d=>D d [.z (.b (ab)),.z (.nat 20)] (aq (bH h λk e l i h=>aw h▸bu d bt [aY [] [21] (wz G e),.z (.at 2),.z (.bh 21 [6] []),aY [] [22] (Cn G i)] (bP d [.bh 22 [] [20]] aC)))
theorem VX(G:cA)(n:Nat)(a:az)(c:Int)(d:az){r:az}(h:wq n a c d=aa r):ba G 91 [V.agg (cw a),V.aS [T.int .i64 c],V.aS (aG d)] (V.agg (cw r)):=bj aV func91 rfl λw X e=>D e [.z (.b (ab)),.z (.nat 20)] (al h λk i h=>aw h▸D e [aY [] [21] (G3 G i)] (bP e [.bh 21 [] [20]] aC))
theorem Wx{p}{part}{loop}{a}{r}(h:Fs n p part loop a=aa r):ba G 23 [V.agg (bX p),U part,U loop,U a] (V.bM [V.agg (bX r.1),aL r.2]):=bj aV func23 rfl λw X c=>D c [.z (.b (ab)),.z (.b (ab)),.z (.b (ab)),.z (.nat 20)] (aq (al h λA m h=>a1 h (λC h=>au c [ao (r3 G n p part loop m C),.z (.nat 21)] (aq (D c (dX 7) (kT (b:=ab) Y (λe=>aw h▸ah c aC) λe=>by cases e)))) λC h=>au c [aY [] [21,22] (r2 G n p part loop m C),.z (.nat 23)] (aq (bo h (λR=>a6 [(6,V.aS [T.int .i64 loop]),(7,V.aS [T.int .i64 a]),(8,V.ref 20 0),(10,V.ref 23 0),(11,V.cK 22 1 2 (0+cE part) 0),(32,aL R)] [(20,E.cells [aZ,aZ]),(21,aH 55 1 2 bw A.1.aQ),(22,E.a7 b4 0 1 (A.1.parts.map ar) []),(23,E.cells [ms 21 1 2 bw A.1.aQ,ms 22 1 2 ar A.1.parts])] [20,21,22,23]) (λt h=>a1 h (λe h=>al h λu F h=>au c [b2,b2,b2,aF e,aF e,ao (Nk G F),aF e,aF e] (an h)) λe h=>au c ([b2,b2,b2]++aK 4 e) (an h)) λv h=>aA h (λW h=>aw h▸ah c aC) λW h=>ay (aq (cx h λB k Z o I H h=>bH h λf q s d h=>bu c bt [.z (.en 22 25 (0+cE part) 0 (ar B)),bn ar k,aB (ch ar k),aB (bI av o),aY [25] [] (Tw G n B.nest loop Z o 1 89 [T.int .i64 a] (λl=>zp n l a) (λl r h=>VY G n l a h) H q)] (dn c [.dz 22 25 (ar B) (s.map ar)] (a4 (cQ av q) (b3 b4) (ch ar k) (gq ar d rfl)) (al h λK L h=>D c [aY [] [26] (tX G L),.z (.nat 27)] (ah c (bP c [.bh 26 [] [27],.tu 27 [13]] (bH h λg x Q i h=>D c [aY [22] [] (Kl G n s part (⟨f,B.body⟩:Part) (CX d) 1 (wr (loop+1)) 91 [T.int .i64 loop] [T.bE (K.aT.map ai),T.int .i64 (wr (0-a))] (λl=>wq n l loop (⟨K.aT,wr (0-a)⟩:az)) (λl r h=>VX G n l loop (⟨K.aT,wr (0-a)⟩:az) h) x i)] (dn c [.dp 22,.fg 23 1 (Q.map ar).length,.bh 21 [] [23],.bh 22 [] [23]] (aN ((cQ ar d).trans (cQ ar i))) (al h λj y h=>aw h▸D c [ao (rY G y)] aC)))))))))))))
theorem adZ(f:k->List T){x:List k}{m:Nat}(c:o<l.length)(a:m=l.length-o):o+m<=(l.map f).length/\(te l o x).map f=(l.map f).take o++(x.map f).take (Nat.min (x.map f).length m)++(l.map f).drop (o+Nat.min (x.map f).length m):=by subst a;refine⟨by rw[dJ];omega,?_⟩;unfold te;rw[eN,eN,uJ,uJ,List.map_drop,dJ]
theorem Pu(f:k->List T){x:List k}(a:o<l.length):(l.map f).length=((te l o x).map f).length:=by
 unfold te;simp only[List.length_map,List.length_append,List.length_take,List.length_drop]
 have:Nat.min x.length (l.length-o)=min x.length (l.length-o):=rfl;omega
theorem VW(G:cA)(n:Nat)(a:az)(c:Int){r:az}(h:wo n a c=aa r):ba G 93 [V.agg (cw a),V.aS [T.int .i64 c]] (V.agg (cw r)):=by
 refine bj aV func93 rfl λw X e=>D e [.z (.b (ab)),.z (.nat 20)] (al h λd y h=>D e [aY [] [21] (Eb G y),.z (.nat 22)] (kW (ag ((0:Int)<=wr (c+1))) (λq=>?_) λq=>?_))
 ·have h:=iN q h;exact kx h
 have h:=iO q h;refine kW (ag (wr (c+1)<(d.aT.length:Int))) (λs=>?_) λs=>?_
 ·have h:=iN s h;exact kx h
 have h:=iO s h;have C:=fF q;have F:=fF s;exact cx h λi A H k B p h=>aw h▸aq (bu e bt [.z (.nat (wr (c+1)).toNat),.z (.nat (d.aT.length-(wr (c+1)).toNat)),aB (O8 ai d.aT C F),bZ (qM ai A),.z (.rows (bV ai (te d.aT (wr (c+1)).toNat i))),.z (.nat (Nat.min (i.map ai).length (d.aT.length-(wr (c+1)).toNat))),dy a.aT,dy i,aB (adZ ai (l:=d.aT) (x:=i) (o:=(wr (c+1)).toNat) (m:=d.aT.length-(wr (c+1)).toNat) O rfl)] (D e [aB (Df ai k (Pu ai (l:=d.aT) (x:=i) (o:=(wr (c+1)).toNat) O)),bn ai k,.z (.rows (B.map ai)),.z (.fg 22 0 (B.map ai).length),aB (str ai p),aB ((Pu ai (l:=d.aT) (x:=i) (o:=(wr (c+1)).toNat) O).trans (cQ ai p))] (bP e [.bh 21 [] [22]] (ah e aC))))
open Go.RowKit Go.Lib in
set_option maxHeartbeats 4000000 in
set_option maxRecDepth 100000 in
theorem WC(b n c i d m s:Nat)(l vs:List Value)(w:World)(hi:i<n)(hm:0<m)(Q:n+m<=c)(U:c<=9223372036854775807)(y:d≠b)
  (R:l.length=n*2) (X:vs.length=m*2)
  (Z: ∀j v,l[j]? =aa v->w.cell? ⟨b,j,aj⟩=aa v) (q: ∀j,j<(n+m)*2->(w.cell? ⟨b,j,aj⟩).isSome=ab) (z: ∀j,w.frozen? ⟨b,j,aj⟩=ak)
  (f: ∀j v,vs[j]? =aa v->w.cell? ⟨d,j,aj⟩=aa v) (g: ∀v∈l,v.oneCell'=ab) (t: ∀v∈vs,v.oneCell'=ab)
  (V uy:TypeId) (u D:Nat) (E:w.shape? d=aa (V,u)) (I:w.shape? b=aa (uy,D)) (M:D≠0) (A: ∀j,w.frozen? ⟨d,j,aj⟩=ak):
  Calls prog 94 #[.slice (aa ⟨b,0,aj⟩) n c,.int .i64 i,.slice (aa ⟨d,0,aj⟩) m s] w λe w'=>
   e= .returned (.slice (aa ⟨b,0,aj⟩) (n+m) c)/\w'=(w.drew.setCells b ((i+m)*2) (l.drop (i*2))).setCells b (i*2) vs:=by
 have y2: ¬((m:Int)=0):=O
 have qw: ¬((i:Int)=(n:Int)):=O
 have nx:IntKind.i64.wrap ((i:Int)+(m:Int))=(i:Int)+(m:Int):=by rw[IntKind.wrap_i64];omega
 have nw:(0:Int)<=(i:Int)+(m:Int):=O
 have lB:i<=n:=O
 have JV:((i:Int)+(m:Int)).toNat=i+m:=O
 have vO: ¬(c=i+m):=O
 have yP:(i:Int)<=(n:Int)+(m:Int):=O
 have ahb: ¬(c=i):=O
 have N: ∀P S,(callFunc 163 #[.slice (aa ⟨d,0,aj⟩) m s,.slice (aa ⟨b,(i+m)*2,aj⟩) P S]).run prog w= .ok (.value (.bool ak)) w:=λP S=>by
  rw[run_callFunc_extern func163 Y Y Y (e:=Extern.SlicesOverlaps.overlaps #[58,58] #[4]) Y,
   Lib.run_overlaps_apart w 58 4 101 underlying58 2 sizeOf101 ⟨d,0,aj⟩ ⟨b,(i+m)*2,aj⟩ m s P S y V uy u D E I M (A 0) (A u)]
  rfl
 have B:(l.drop (i*2)).length=(n-i)*2:=by rw[fM,R];omega
 have C:(prog.info? 101).map (·.size)=aa 2:=Y
 have p: ∀ty r k3,(Builtin.copy_ #[58,58] ty #[.slice (aa ⟨b,(i+m)*2,aj⟩) (n+m-(i+m)) r,.slice (aa ⟨b,i*2,aj⟩) (n+m-i) k3]).run prog w.drew= .ok (goInt ((n-i:Nat):Int)) (w.drew.setCells b ((i+m)*2) (l.drop (i*2))):=λty r k3=>
  r9 w.drew 58 58 ty 101 2 b ((i+m)*2) (n+m-(i+m)) r ⟨b,i*2,aj⟩ (n+m-i) k3 (n-i) (l.drop (i*2)) underlying58 C (by simp only[Nat.min_def];split<;>omega) B
   (λj v o=>by rw[Addr.add_lit];exact Z (i*2+j) v (by rwa [gZ] at o))
   (λj o=>q _ O) (λj o=>z _) λv bW=>g v (fq bW)
 obtain⟨F,a⟩: ∃F,F=w.drew.setCells b ((i+m)*2) (l.drop (i*2)):=⟨_,rfl⟩
 have H: ∀k,k<(n+m)*2->(F.cell? ⟨b,k,aj⟩).isSome=ab:=λk hk=>by
  rw[a];exact D0 b (l.drop (i*2)) ((i+m)*2) w.drew (λj o=>q _ (by rw[B] at o;omega)) k (q k hk)
 have K: ∀(W:World),(∀x,W.cell? x=F.cell? x)->(∀x,W.frozen? x=F.frozen? x)-> ∀ty r,(Builtin.copy_ #[58,58] ty #[.slice (aa ⟨b,i*2,aj⟩) (n+m-i) r,.slice (aa ⟨d,0,aj⟩) m s]).run prog W= .ok (goInt m) (W.setCells b (i*2) vs):=λW L T ty r=>
  r9 W 58 58 ty 101 2 b (i*2) (n+m-i) r ⟨d,0,aj⟩ m s m vs underlying58 C (by simp only[Nat.min_def];split<;>omega) X
   (λj v o=>by
    rw[Addr.add_lit,dQ,L,a,World.cell?_setCells_out b _ _ _ _ λh _=>bB h y];exact f j v o)
   (λj o=>by rw[L];exact H _ O) (λj o=>by rw[T,a,World.frozen?_setCells];exact z _) t
 rw[<-a] at p
 go_enter func94,Tryz.ntmps94
 go_wp2_with (simp only[N])
 go_region_law (refine Ed rfl _ _ 58 58 rfl _ _ (by simp[Act.eval,Act.put]) (by simp[Act.eval,Act.put]) (p _ _ _) ?_)
 go_wp2_with (at_builtin;refine vI _ rfl _ _ 58 58 rfl _ _ rfl rfl (K _ (λ_=>rfl) (λ_=>rfl) _ _) ?_)
 go_ret
 first|exact⟨rfl,rfl⟩|exact⟨rfl,by rw[a]⟩
open Go.RowKit Go.Lib in
set_option maxHeartbeats 4000000 in
set_option maxRecDepth 100000 in
theorem WH(b n c i y m P:Nat)(k l:List Value)(w:World)(hi:i<n)(hm:0<m)(ahQ:n<=c)(C:c<n+m)(F:TypeInfo)(z:Value)(R:prog.info? 101=aa F)(S:F.zero=aa z)(X:F.size=2)(T:z.cells.size=2)(hle:n+m<=1000000000)(Z:(n+m)*F.bytes<=140737488355328)
  (U:k.length=n*2) (f:l.length=m*2)
  (H: ∀j v,k[j]? =aa v->w.cell? ⟨b,j,aj⟩=aa v)
  (g: ∀j v,l[j]? =aa v->w.cell? ⟨y,j,aj⟩=aa v) (V: ∀v∈k,v.oneCell'=ab) (qi: ∀v∈l,v.oneCell'=ab):
  Calls prog 94 #[.slice (aa ⟨b,0,aj⟩) n c,.int .i64 i,.slice (aa ⟨y,0,aj⟩) m P] w λe w'=>
   e= .returned (.slice (aa ⟨w.heap.size,0,aj⟩) (n+m) (grownCap w (n+m) c 101))/\
   w'=(((w.alloc (.cells ((k.take (i*2)).toArray++eS z.cells (n+m-i)++eS z.cells (grownCap w (n+m) c 101-(n+m))) 101)).drew.setCells w.heap.size (i*2) l).drew).setCells w.heap.size ((i+m)*2) (k.drop (i*2)):=by
 have y2: ¬((m:Int)=0):=O
 have qw: ¬((i:Int)=(n:Int)):=O
 have aix:(c:Int)<(n:Int)+(m:Int):=O
 have u:(prog.info? 101).map (·.size)=aa 2:=by rw[R];simp[X]
 have JA:b<w.heap.size:=block_lt_of_cell (H 0 _ (bp O));have JY:y<w.heap.size:=block_lt_of_cell (g 0 _ (bp O));have D:(n:Int)+(m:Int)-(i:Int)=((n+m-i:Nat):Int):=O
 have K:i+(n+m-i)=n+m:=O
 have A:(Builtin.firstCells F.size i (.slice (aa ⟨b,0,aj⟩) i c)).run prog w.drew= .ok (k.take (i*2)).toArray w.drew:=by
  rw[X];exact run_firstCells_some w.drew 2 i ⟨b,0,aj⟩ i c (k.take (i*2)) (by rw[cZ];omega) (λj v d=>by
   rw[Addr.add_lit,dQ];rw[g'] at d;split at d
   ·exact H j v d
   cases d)
 have s: ∀ty,(Builtin.append_ #[58,3] ty #[.slice (aa ⟨b,0,aj⟩) i c,.int .i64 ((n:Int)+(m:Int)-(i:Int))]).run prog w=
   .ok (.slice (aa ⟨w.heap.size,0,aj⟩) (n+m) (grownCap w (n+m) c 101)) (w.drew.alloc (.cells ((k.take (i*2)).toArray++eS z.cells (n+m-i)++eS z.cells (grownCap w (n+m) c 101-(n+m))) 101)):=λty=>by
  have h:=Lib.run_append_grow_zeros w 58 3 ty 101 F z .i64 .i64 underlying58 underlying3 R S (aa ⟨b,0,aj⟩) i c (k.take (i*2)) A (n+m-i) O O O O (by
   have:=eh F.bytes (O:n+m-i<=n+m);omega) (by rw[K];exact growslice_fits C Z)
  rw[K] at h;rw[D];exact h
 obtain⟨G,N⟩: ∃G,G=grownCap w (n+m) c 101:=⟨_,rfl⟩
 obtain⟨a,p⟩: ∃a:Array Value,a=(k.take (i*2)).toArray++eS z.cells (n+m-i)++eS z.cells (G-(n+m)):=⟨_,rfl⟩
 rw[<-N] at s⊢;rw[<-p] at s⊢;have pf:(n+m)*2<=a.size:=by
  rw[p];simp[eS,T];omega
 obtain⟨q,o⟩: ∃q,q=w.drew.alloc (.cells a 101):=⟨_,rfl⟩
 rw[<-o] at s;have gz: ∀j,j<(n+m)*2->(q.cell? ⟨w.heap.size,j,aj⟩).isSome=ab:=λj d=>by
  rw[o,World.cell?_alloc_at (w:=w.drew) a _ w.heap.size j rfl,iY O];rfl
 have E: ∀j,q.frozen? ⟨w.heap.size,j,aj⟩=ak:=λj=>by rw[o];exact World.frozen?_alloc_at (w:=w.drew) a _ w.heap.size j rfl
 have Jv: ∀j v,w.cell? ⟨b,j,aj⟩=aa v->q.cell? ⟨b,j,aj⟩=aa v:=λj v h=>by rw[o,World.cell?_alloc_past (w:=w.drew) _ b j JA];exact h
 have Jw: ∀j v,w.cell? ⟨y,j,aj⟩=aa v->q.cell? ⟨y,j,aj⟩=aa v:=λj v h=>by rw[o,World.cell?_alloc_past (w:=w.drew) _ y j JY];exact h
 have I: ∀(W:World),(∀x,W.cell? x=q.cell? x)->(∀x,W.frozen? x=q.frozen? x)-> ∀ty L,(Builtin.copy_ #[58,58] ty #[.slice (aa ⟨w.heap.size,i*2,aj⟩) (n+m-i) L,.slice (aa ⟨y,0,aj⟩) m P]).run prog W= .ok (goInt m) (W.setCells w.heap.size (i*2) l):=λW r Q ty L=>
  r9 W 58 58 ty 101 2 w.heap.size (i*2) (n+m-i) L ⟨y,0,aj⟩ m P m l underlying58 u (by simp only[Nat.min_def];split<;>omega) f
   (λj v d=>by rw[Addr.add_lit,dQ,r];exact Jw _ v (g j v d))
   (λj d=>by rw[r];exact gz _ O) (λj d=>by rw[Q];exact E _) qi
 have Jr:n+m<=G:=by rw[N];exact grownCap_ge w _ _ _
 have agZ:G<=9223372036854775807:=by
  have:=grownCap_le_maxLen w (n+m) c 101 (by unfold maxLen;omega);rw[<-N] at this;unfold maxLen at this;omega
 have ag0: ¬(G=i):=O
 have ag1: ¬(G=i+m):=O
 have ahe: ¬(c=i):=O
 have Jz:b≠w.heap.size:=O
 have M:(k.drop (i*2)).length=(n-i)*2:=by rw[fM,U];omega
 have B: ∀(W:World),(∀x,W.cell? x=(q.setCells w.heap.size (i*2) l).cell? x)->(∀x,W.frozen? x=(q.setCells w.heap.size (i*2) l).frozen? x)-> ∀ty L k3,(Builtin.copy_ #[58,58] ty #[.slice (aa ⟨w.heap.size,(i+m)*2,aj⟩) (n+m-(i+m)) L,.slice (aa ⟨b,i*2,aj⟩) (n-i) k3]).run prog W= .ok (goInt ((n-i:Nat):Int)) (W.setCells w.heap.size ((i+m)*2) (k.drop (i*2))):=λW r Q ty L k3=>
  r9 W 58 58 ty 101 2 w.heap.size ((i+m)*2) (n+m-(i+m)) L ⟨b,i*2,aj⟩ (n-i) k3 (n-i) (k.drop (i*2)) underlying58 u (by simp only[Nat.min_def];split<;>omega) M
   (λj v d=>by
    rw[Addr.add_lit,r,World.cell?_setCells_out _ _ _ _ _ λh _=>bB h Jz];exact Jv _ v (H (i*2+j) v (by rwa [gZ] at d)))
   (λj d=>by rw[r];exact D0 w.heap.size l (i*2) q (λt gJ=>gz _ (by rw[f] at gJ;omega)) _ (gz _ (by rw[M] at d;omega)))
   (λj d=>by rw[Q,World.frozen?_setCells];exact E _) λv bW=>V v (fq bW)
 subst o;have Jp: ∀x,((w.alloc (.cells a 101)).drew).cell? x=(w.drew.alloc (.cells a 101)).cell? x:=λx=>rfl;have Jq: ∀x,((w.alloc (.cells a 101)).drew).frozen? x=(w.drew.alloc (.cells a 101)).frozen? x:=λx=>rfl;have tx: ∀x,(((w.alloc (.cells a 101)).drew.setCells w.heap.size (i*2) l).drew).cell? x=((w.drew.alloc (.cells a 101)).setCells w.heap.size (i*2) l).cell? x:=λx=>rfl;have tz: ∀x,(((w.alloc (.cells a 101)).drew.setCells w.heap.size (i*2) l).drew).frozen? x=((w.drew.alloc (.cells a 101)).setCells w.heap.size (i*2) l).frozen? x:=λx=>rfl;have nx:IntKind.i64.wrap ((i:Int)+(m:Int))=(i:Int)+(m:Int):=by rw[IntKind.wrap_i64];omega
 have nw:(0:Int)<=(i:Int)+(m:Int):=O
 have lB:i<=n:=O
 have JV:((i:Int)+(m:Int)).toNat=i+m:=O
 have yP:(i:Int)<=(n:Int):=O
 clear D K A p N pf
 go_enter func94,Tryz.ntmps94
 go_wp2_with (first
  |(at_builtin;refine Lib.wpList_append_run _ rfl _ _ _ _ rfl _ _ rfl rfl _ _ (s _) ?_)
  |(at_builtin;refine vI _ rfl _ _ 58 58 rfl _ _ rfl rfl (I _ Jp Jq _ _) ?_)
  |(at_builtin;refine vI _ rfl _ _ 58 58 rfl _ _ rfl rfl (B _ (λ_=>rfl) (λ_=>rfl) _ _ _) ?_))
 go_region_law (refine Ed rfl _ _ 58 58 rfl (.slice (aa ⟨w.heap.size,(i+m)*2,aj⟩) (n+m-(i+m)) (G-(i+m))) (.slice (aa ⟨b,i*2,aj⟩) (n-i) (c-i)) (by simp[Act.eval,Act.put]) (by simp[Act.eval,Act.put]) (B _ tx tz 3 (G-(i+m)) (c-i)) ?_)
 go_wp2
 go_ret
 exact⟨rfl,rfl⟩
open Go.RowKit Go.Lib in
set_option maxHeartbeats 4000000 in
set_option maxRecDepth 100000 in
theorem WE(d h:Option Addr)(n c i k:Nat)(w:World)(q:i<=n)(r:n<=c)(s:c<=9223372036854775807):Calls prog 94 #[.slice d n c,.int .i64 i,.slice h 0 k] w λe l=>e= .returned (.slice d n c)/\l=w:=by
 have m:(i:Int)<=(n:Int):=O
 go_enter func94,Tryz.ntmps94
 cases d with
 |none=>
  go_wp2
  go_ret
  exact⟨rfl,rfl⟩
 |some a=>
  obtain⟨x,y,o⟩:=a;by_cases p:c=i
  ·go_wp2
   go_ret
   exact⟨rfl,rfl⟩
  go_wp2
  go_ret
  exact⟨rfl,rfl⟩
open Go.RowKit Go.Lib in
set_option maxHeartbeats 4000000 in
set_option maxRecDepth 100000 in
theorem Xh(d h:Option Addr)(n c m k:Nat)(w:World)(l:Value)(w':World)(s:0<m)(x:n<=c)(y:c<=9223372036854775807)(i:(Builtin.append_ #[58,58] 58 #[.slice d n c,.slice h m k]).run prog w= .ok l w'):
  Calls prog 94 #[.slice d n c,.int .i64 n,.slice h m k] w λe o=>e= .returned l/\o=w':=by
 have p: ¬((m:Int)=0):=O
 go_enter func94,Tryz.ntmps94
 cases d with
 |none=>
  go_wp2_with (at_builtin;refine Lib.wpList_append_run _ rfl _ _ _ _ rfl _ _ rfl rfl _ _ i ?_)
  go_ret
  exact⟨rfl,rfl⟩
 |some a=>
  obtain⟨z,A,q⟩:=a;by_cases r:c=n
  ·go_wp2_with (at_builtin;refine Lib.wpList_append_run _ rfl _ _ _ _ rfl _ _ rfl rfl _ _ i ?_)
   go_ret
   exact⟨rfl,rfl⟩
  go_wp2_with (at_builtin;refine Lib.wpList_append_run _ rfl _ _ _ _ rfl _ _ rfl rfl _ _ i ?_)
  go_ret
  exact⟨rfl,rfl⟩
theorem YE(s:prog.info? 101=aa a)(x:a.zero=aa z)(y:a.size=2)(A:z.cells.size=2):AU prog 94 58 101 2 a z where
 nothing:=WE
 tail:=Xh
 room:=λb n c i B m dR cs C w F H d q K e h k L Q l o p j t fs u R W X Z=>WC b n c i B m dR cs C w F H d q K e h k L Q l o p j t fs u R W X Z
 grow:=λb n c i B m dR cs C w F H f d g r e h k l o p=>WH b n c i B m dR cs C w F H f d a z s x y A g r e h k l o p
theorem VT(G:cA)(n:Nat)(s:List Loop)(i:Int)(v:List Loop)(d e:Nat){r:List Loop}(h:wj n s i v=aa r):
  cu G 94 [aH 101 d 2 av s,aH 101 e 2 av v] [ms 0 d 2 av s,U i,ms 1 e 2 av v] (ms 0 (d+1) 2 av r) [aH 101 (d+1) 2 av r,aH 101 e 2 av v]:=by
 unfold wj at h;refine kW (ag ((0:Int)<=i)) (λl=>?_) λl=>?_
 ·have h:=iN l h;exact kx h
 have h:=iO l h;refine kW (ag (i<=(s.length:Int))) (λm=>?_) λm=>?_
 ·have h:=iN m h;exact kx h
 have h:=iO m h;have y:=fF l;have A:=fF m;obtain⟨k,rfl⟩: ∃k:Nat,i=(k:Int):=⟨i.toNat,O⟩
 simp only[Int.toNat_natCast] at h;have a:(prog.info? 101).map (λi=>(i.zero.map λz=>z.cells.size,i.size,Nat.ble i.bytes 140000))=aa (aa 2,2,ab):=Y
 cases o:prog.info? 101 with
 |none=>rw[o] at a;cases a
 |some w=>
  rw[o] at a;simp only[hv,Option.some.injEq,Prod.mk.injEq] at a;obtain⟨c,q,x⟩:=a;cases p:w.zero with
  |none=>rw[p] at c;cases c
  |some z=>
   rw[p] at c;simp only[hv,Option.some.injEq] at c;refine QD ⟨_,func94,Y,Y⟩ (YE o p q c) underlying58 o p c q underlying101 (by decide) (eP x) av (λ_=>rfl) s v r k d e O h
abbrev ajC:List dB:=[⟨61,2,[]⟩]
theorem VN(G:cA)(n:Nat)(d s:List Loop)(i:Int)(v:List Loop)(a c:Nat){r:List Loop}(e:(d.map av).length=(s.map av).length)(h:wj n s i v=aa r):
  cu G 94 [aH 101 a 2 av s,aH 101 c 2 av v] [ms 0 a 2 av d,U i,ms 1 c 2 av v] (ms 0 (a+1) 2 av r) [aH 101 (a+1) 2 av r,aH 101 c 2 av v]:=by have:=VT G n s i v a c h;show jW _ _ _ _ [V.bg 0 a 2 0 (d.map av).length,U i,ms 1 c 2 av v] _ _;rw[e];exact this
theorem Wt{p}{part}{loop}{k}{r}(h:Fo n p part loop k=aa r):ba G 24 [V.agg (bX p),U part,U loop,U k] (V.bM [V.agg (bX r.1),aL r.2]):=by
 refine bj aV func24 rfl λw X a=>D a [.z (.b (ab)),.z (.b (ab)),.z (.nat 20)] (aq (al h λm C h=>kW m.2 (λF=>?_) λF=>?_))
 ·have h:=iN F h;exact au a [ao (r3 G n p part loop C F),.z (.nat 21)] (aq (D a (dX 14) (kT (b:=ab) Y (λe=>aw h▸ah a aC) λe=>by cases e)))
 have h:=iO F h;refine al h λi c h=>au a [aY [] [21,22] (r2 G n p part loop C F),.z (.nat 23)] (aq (bo h (λx_=>a6 [(3,U k),(6,V.aS [T.int .i64 loop]),(8,V.ref 20 0),(10,V.ref 23 0),(11,V.cK 22 1 2 (0+cE part) 0),(44,aL x_)] [(20,E.cells [aZ,aZ]),(21,aH 55 1 2 bw m.1.aQ),(22,E.a7 b4 0 1 (m.1.parts.map ar) []),(23,E.cells [ms 21 1 2 bw m.1.aQ,ms 22 1 2 ar m.1.parts])] [20,21,22,23]) (λjJ h=>a1 h (λe h=>dn a [.en 22 24 (0+cE part) 0 (ar i)] (aN (ch ar c)) (a1 h (λy h=>al h λil W h=>au a ([b2,b2,b2]++aI 4 e++[bn ar c,aF e,aM av i.nest,aF e,aF e,aF y,aF y,ao (gi G W),aF y,aF y]) ⟨!il,h,S.le.trans (og a [.dz 22 24 (ar i) (m.1.parts.map ar)] (a4 (b3 (i.nest.map av).length) (b3 b4) (ch ar c) (iV ar c rfl))) (aO)⟩) λy h=>au a ([b2,b2,b2]++aI 4 e++[bn ar c,aF e,aM av i.nest,aF e,aF e]++aK 4 y) ⟨ab,h,S.le.trans (og a [.dz 22 24 (ar i) (m.1.parts.map ar)] (a4 (b3 (i.nest.map av).length) (b3 b4) (ch ar c) (iV ar c rfl))) (aO)⟩)) λe h=>au a ([b2,b2,b2]++aK 7 e++dX 4) (an h)) λkE h=>aA h (λeE h=>aw h▸ah a aC) λeE h=>ay (aq (bH h λA d Z f h=>dn a [.en 22 24 (0+cE part) 0 (ar i),.en 24 25 (0+cE loop) 0 (av A),.en 24 26 (0+cE loop) 1 (av A)] (a3 (ch ar c) (ch av d) (ch av d)) (bu a bt [bn ar c,aB (bI av d),bn av d,.z (.b ab),.z (.nat 25),.z (.nat 26),ao (KX G f)] (dn a [.dz 24 26 (av A) (i.nest.map av),.dz 24 25 (av A) (i.nest.map av),.dz 22 24 (ar i) (m.1.parts.map ar)] (a12 (b3 (A.hi.map aG).length) (b3 b4) (ch av d) (iV av d rfl) (b3 (A.lo.map aG).length) (b3 b4) (ch av d) (iV av d rfl) (b3 (i.nest.map av).length) (b3 b4) (ch ar c) (iV ar c rfl)) (aq (ah a (dR (b:= !Z.2.2) (λs=>?_) λs=>?_)))))))))
 ·have s:Z.2.2=ak:=by simpa using s
  have h:=iN s h;exact aw h▸ah a aC
 have s:Z.2.2=ab:=by simpa using s
 have h:=iO s h;refine ay (bH h λB g jT x h=>D a [aY [22] [] (Tu G n m.1.parts part i c 1 loop 93 [T.int .i64 loop] (λj=>wo n j loop) (λj r h=>VW G n j loop h) g x)] ?_);have l:=CX x;exact dn a [.en 22 36 (0+cE part) 0 (ar B),.dp 36,.ei 22 ajC 0] (aN (ch ar l)) (aq (al h λal' t h=>au a [aB (sT t)] (aq (al h λUk u h=>al h λK3 v h=>bu a bt [aY [] [27] (tX G u),aY [] [28] (tX G v),.z (.nat 29),.z (.nat 30)] (ah a (bP a [.bh 27 [] [29],.bh 28 [] [30]] (aq (al h λAg I h=>al h λz2 M h=>al h λUl H h=>al h λK o h=>bu a bt [.z (.row (ar B)),aB (ch ar l),aY [] [31] (wz G I),.z (.at 8),.z (.bh 31 [92] []),.z (.int 0),aY [] [32] (wz G M),.z (.at 4),.z (.bh 32 [96] []),.z (.int 0),aB (bI av H),bn av H,.z (.rows (K.map av)),aB (str av o)] (aq (al h λz3 N h=>al h λz4 P h=>bH h λuR L Q q h=>bu a bt [.z (.row (ar B)),aB (ch ar l),aY [] [33] (wz G N),.z (.at 10),.z (.bh 33 [107] []),.z (.int 0),aY [] [34] (wz G P),.z (.at 7),.z (.bh 34 [110] []),.z (.int 0),.z (.int 1),.z (.nat 35),aY [36,35] [] (VN G n B.nest K loop [(⟨[z3],[z4]⟩:Loop)] 1 1 (cQ av o) L),.z (.row (ar B)),aB (ch ar l)] (dn a [.Dq 22 0 36,.EW 22 (ar B) (Q.map ar),.dp 22,.fg 23 1 (Q.map ar).length,.bh 21 [] [23],.bh 22 [] [23]] (a3 (ch ar l) (gq ar q rfl) ((cQ ar x).trans (cQ ar q))) (al h λoS R h=>aw h▸D a [ao (rY G R)] aC))))))))))))
theorem Zf{p}{q}{r}(h:Bn n p q=aa r):ba G 97 [aE ai p,aE ai q] (aL r):=bj aV func97 rfl λw X c=>ah c (al h λd a h=>aw h▸D c [ao (VU G a)] aC)
theorem Lv{s}{i}{j}(o:Nat){r}(h:wk n s i j=aa r):
  cu G 98 [aH 61 o 2 ar s] [ms 0 o 2 ar s,U i,U j] (ms 0 o 2 ar (r.2.take r.1)) [aH 61 o 2 ar r.2]:=by
 refine cC aV func98 rfl λw X A d B=>ah d (kW (ag ((0:Int)<=i)) (λp=>?_) λp=>?_)
 ·have h:=iN p h;exact kx h
 have h:=iO p h;refine kW (ag (i<=j)) (λq=>?_) λq=>?_
 ·have h:=iN q h;exact kx h
 have h:=iO q h;refine kW (ag (j<=(s.length:Int))) (λx=>?_) λx=>?_
 ·have h:=iN x h;exact kx h
 have h:=iO x h;have c:=fF p;have e:=fF q;have a:=fF x;refine D d [aM ar s,aB (agG ar s c e a)] (aq (ah d (aA h (λy h=>aw h▸D d [.z (.at 0),.z (.len 6 (bV ar (s.take s.length)).length),aB (afY ar s)] cG) λy h=>?_)));have l:i<j:=by have:=of_decide_eq_false y;omega
 refine ay (D d [aM ar s] ?_);by_cases m:j<(s.length:Int)
 ·exact aw h▸aq (bu d bt [.z (.nat 0),.z (.nat i.toNat),.z (.nat j.toNat),.z (.nat (s.length-j.toNat)),.z (.rows (bV ar (oa s i j))),aB (R6 ar s c e a),aB (O8 ar s (O:0<=j) m),aB (UI ar s c e a),aB (UH ar s c e a),aB (UG ar s i j)] (D d [.z (.nat (fm s i j)),.z (.int 1),.z (.nat (fm s i j)),.z (.nat (s.length-(fm s i j))),.z (.rows (bV ar (kM s i j (⟨[],[]⟩:Part)))),aB (b3 (fm s i j)),aB (R7 ar s (oa s i j) (k:=2) (by decide) c l a (Pt s c e a) rfl),aB (agE ar s (⟨[],[]⟩:Part) c l a)] (D d [.z (.at 0),.z (.len 6 (bV ar ((kM s i j (⟨[],[]⟩:Part)).take (fm s i j))).length),aB (R8 ar s (⟨[],[]⟩:Part) c l a)] cG)))
 exact aw h▸aq (bu d bt [.z (.nat 0),.z (.nat i.toNat),.z (.int 0),.z (.int 0),aB (R6 ar s c e a),aB (agF ar s c e a m)] (D d [.z (.nat (i.toNat)),.z (.int 1),.z (.nat (i.toNat)),.z (.nat (s.length-(i.toNat))),.z (.rows (bV ar (kM s i j (⟨[],[]⟩:Part)))),aB (b3 (i.toNat)),aB (R7 ar s s (k:=2) (by decide) c l a rfl (R9 s a m)),aB (UR ar s (⟨[],[]⟩:Part) c l a m)] (D d [.z (.at 0),.z (.len 6 (bV ar ((kM s i j (⟨[],[]⟩:Part)).take (fm s i j))).length),aB ((R9 s a m).trans (R8 ar s (⟨[],[]⟩:Part) c l a))] cG)))
theorem Vd(G:cA)(n:Nat)(d:List Loop)(e:List Loop)(c:FuncId)(p:Loop->Loop->Option Bool)(k: ∀(q:Loop) (s:Loop) r,p q s=aa r->ba G c [V.agg (kb q),V.agg (kb s)] (aL r))(h:DZ n d e p=aa r):ba G 129 [aE av d,aE av e,V.fn c []] (aL r):=by
 refine bj aV func129 rfl λw X a=>ah a (aq (D a [aM av d,aM av e] (aA h (λx h=>?_) λx h=>?_)))
 ·cases h;exact ah a aC
 refine ay (aq (D a [aM av d] (be (cr h (λy=>bR [(1,aE av e),(2,V.fn c []),(15,aE av d),(16,U (d.length:Int)),(17,U y)]) aO λi H h=>ah a (c6 h (λA h=>?_) λA h=>?_)))))
 ·refine ay (bC (al h λB l h=>D a [a' av l,.z (.nat 20)] (al h λC m h=>D a [a' av m,.z (.nat 21)] (al h λK o h=>D a [ao (k B C _ o)] (aA h (λF h=>?_) λF h=>ay (bf a (an h)))))));cases h;exact ah a aC
 cases h;exact br (ah a aC)
theorem DK(G:cA)(n:Nat)(d:List az)(e:List az)(c:FuncId)(p:az->az->Option Bool)(k: ∀(q:az) (s:az) r,p q s=aa r->ba G c [V.agg (cw q),V.agg (cw s)] (aL r))(h:d9 n d e p=aa r):ba G 131 [aE aG d,aE aG e,V.fn c []] (aL r):=by
 refine bj aV func131 rfl λw X a=>ah a (aq (D a [aM aG d,aM aG e] (aA h (λx h=>?_) λx h=>?_)))
 ·cases h;exact ah a aC
 refine ay (aq (D a [aM aG d] (be (cr h (λy=>bR [(1,aE aG e),(2,V.fn c []),(15,aE aG d),(16,U (d.length:Int)),(17,U y)]) aO λi H h=>ah a (c6 h (λA h=>?_) λA h=>?_)))))
 ·refine ay (bC (al h λB l h=>D a [a' aG l,.z (.nat 20)] (al h λC m h=>D a [a' aG m,.z (.nat 21)] (al h λK o h=>D a [ao (k B C _ o)] (aA h (λF h=>?_) λF h=>ay (bf a (an h)))))));cases h;exact ah a aC
 cases h;exact br (ah a aC)
theorem tP(G:cA)(n:Nat)(a:az)(b:az)(h:kQ n a b=aa r):ba G 132 [V.agg (cw a),V.agg (cw b)] (aL r):=bj aV func132 rfl λw X d=>D d [.z (.b (ab)),.z (.b (ab))] (bo h (λi=>bR [(4,aL i)]) (λk h=>al h λl c h=>a1 h (λe h=>au d ([ao (K' G n a.aT b.aT c)]++aI 6 e) (an h)) λe h=>au d ([ao (K' G n a.aT b.aT c)]++aK 6 e) (an h)) λm h=>aw h▸aC)
theorem W5(G:cA)(n:Nat)(x:Loop)(y:Loop)(h:wv n x y=aa r):ba G 130 [V.agg (kb x),V.agg (kb y)] (aL r):=bj aV func130 rfl λw X i=>D i [.z (.b (ab)),.z (.b (ab))] (bo h (λl=>bR [(4,aL l)]) (λm h=>al h λo d h=>a1 h (λe h=>au i ([ao (DK G n x.lo y.lo 132 (λa c=>kQ n a c) (λa c r h=>tP G n a c h) d)]++aI 6 e) (an h)) λe h=>al h λp k h=>au i ([ao (DK G n x.lo y.lo 132 (λa c=>kQ n a c) (λa c r h=>tP G n a c h) d)]++aK 5 e++[ao (DK G n x.hi y.hi 132 (λa c=>kQ n a c) (λa c r h=>tP G n a c h) k),aJ e]) (an h)) λq h=>aw h▸aC)
theorem FL{a}{b}{r}(h:ug n a b=aa r):ba G 47 [aE av a,aE av b] (aL r):=bj aV func47 rfl λw X i=>ah i (al h λk c h=>aw h▸D i [ao (Vd G n a b 130 (λd e=>wv n d e) (λd e r h=>W5 G n d e h) c)] aC)
theorem aec{R:Type}{l:List R}{x y:R}(h:ax l i=aa x)(k:ax l (wr (i+1))=aa y):0+cE (wr (i+1))≠0+cE i:=by have c:=(nF h).1;have a:=(nF k).1;have e:wr (i+1)=_:=IntKind.wrap_i64 (i+1);rw[e] at a⊢;omega
def D9:List dB:=[⟨61,2,[]⟩]
theorem WA{p}{part}{r}(h:Fw n p part=aa r):ba G 25 [V.agg (bX p),U part] (V.bM [V.agg (bX r.1),aL r.2]):=by
 refine bj aV func25 rfl λw X a=>D a [.z (.b (ab)),.z (.nat 20)] (aq (al h λe x h=>kW e.2 (λy=>?_) λy=>?_))
 ·have h:=iN y h;exact au a [ao (r3 G n p part (-1) x y),.z (.nat 21)] (aq (aq (bu a bt (dX 21) (kT (b:=ab) Y (λl=>aw h▸ah a aC) λl=>by cases l))))
 have h:=iO y h;refine al h λd c h=>au a [aY [] [21,22] (r2 G n p part (-1) x y),.z (.nat 23)] (dn a [.en 22 24 (0+cE part) 1 (ar d),.dp 24,.ei 22 D9 0] (aN (ch ar c)) (aq (bo h (λA=>a6 [(1,U part),(2,V.aS (fa p)),(4,V.ref 20 0),(6,V.ref 23 0),(7,V.cK 22 1 2 (0+cE part) 0),(46,aL A)] [(20,E.cells [aZ,aZ]),(21,aH 55 1 2 bw e.1.aQ),(22,E.a7 D9 0 1 (e.1.parts.map ar) [((0+cE part),1,ms 24 1 9 bs d.body)]),(23,E.cells [ms 21 1 2 bw e.1.aQ,ms 22 1 2 ar e.1.parts]),(24,aH 73 1 9 bs d.body)] [20,21,22,23,24]) (λjJ h=>a1 h (λl h=>bH h λil j kE u h=>bu a bt (eg 5++[aM ar p.parts,b2,b2]++aI 4 l++[bn ar c]++aI 5 l++[a' ar j]++aI 3 l++[ao (FL G u),aF l,aF l]) (an h)) λl h=>bu a bt (eg 5++[aM ar p.parts,b2,b2]++aK 14 l) (an h)) λk8 h=>aA h (λeE h=>aw h▸ah a aC) λeE h=>ay (aq (al h λB C h=>a1 h (λI h=>au a [.z (.v (V.bM [V.t T.iA,aL B.2])),aB (z' I (pr G C))] (aq (aq (kx h)))) λI h=>au a [.z (.v (V.bM [V.aS (eX (B.1.getD default)),aL B.2])),aB (Aa I (pr G C))] (aq (al h λq M h=>D a [aY [] [25] (KL G M),aM d7 q] (be (cr h (λA=>a6 [(1,U part),(4,V.ref 20 0),(6,V.ref 23 0),(7,V.cK 22 1 2 (0+cE part) 0),(9,V.aS (eX (B.1.getD default))),(54,ms 25 1 3 d7 q),(55,U (q.length:Int)),(56,U A)] [(20,E.cells [aZ,aZ]),(21,aH 55 1 2 bw e.1.aQ),(22,E.a7 D9 0 1 (e.1.parts.map ar) [((0+cE part),1,ms 24 1 9 bs d.body)]),(23,E.cells [ms 21 1 2 bw e.1.aQ,ms 22 1 2 ar e.1.parts]),(24,aH 73 1 9 bs d.body),(25,aH 120 1 3 d7 q)] [20,21,22,23,24,25]) aO λZ iI h=>ah a (c6 h (λhU h=>ay (bC (al h λs m h=>D a [aB (bI d7 m),bn d7 m,.z (.nat 26)] (aq (bH h λN F P H h=>bu a bt [a' cj F,a' cj H,.z (.nat 27),.z (.nat 28)] (bo h (λA=>a6 [(1,U part),(4,V.ref 20 0),(6,V.ref 23 0),(7,V.cK 22 1 2 (0+cE part) 0),(9,V.aS (eX (B.1.getD default))),(54,ms 25 1 3 d7 q),(55,U (q.length:Int)),(56,U iI),(93,aL A)] [(20,E.cells [aZ,aZ]),(21,aH 55 1 2 bw e.1.aQ),(22,E.a7 D9 0 1 (e.1.parts.map ar) [((0+cE part),1,ms 24 1 9 bs d.body)]),(23,E.cells [ms 21 1 2 bw e.1.aQ,ms 22 1 2 ar e.1.parts]),(24,aH 73 1 9 bs d.body),(25,aH 120 1 3 d7 q),(26,E.cells [U s.e3,U s.e5,U s.kinds]),(27,E.cells (kc N)),(28,E.cells (kc P))] [20,21,22,23,24,25,26,27,28]) (λaiU h=>a1 h (λf h=>au a (aI 6 f++eg 6) (an h)) λf h=>a1 h (λg h=>au a (aK 6 f++aI 6 g) (an h)) λg h=>al h λnU K h=>au a (aK 6 f++aK 5 g++[ao (Zf G K),aJ g]) (an h)) λpM h=>aA h (λjY h=>aw h▸ah a aC) λjY h=>ay (bf a (an h)))))))) λhU h=>br (aq (cx h λS i nV L Q o h=>bH h λk R oT W h=>?_))))))))))));have hne:0+cE (wr (part+1))≠0+cE part:=aec c i;exact aw h▸bu a bt [bn ar c,.z (.nat 0),aB (bI ar i),bn ar i,aB hne,bZ (b' bs L),bF 9 gx d.body,bF 9 gx S.body,bn ar c] (dn a [.Dq 22 0 24,.EW 22 (ar d) (Q.map ar),.dp 22,.fg 23 1 (Q.map ar).length] (a3 (ch ar c) (gq ar o rfl) (cQ ar o)) (D a [aY [22] [] (Lv G 1 R),.z (.cut 22 k.1 (bV ar (k.2.take k.1))),aB (L2 ar k.2 k.1)] (bP a [.bh 21 [] [23],.bh 22 [] [23]] (D a [ao (rY G W)] aC))))
theorem Wo{s}{r}(h:FD n s=aa r):cu G 100 [] [aE bs s] (ms 0 1 9 bs r) [aH 73 1 9 bs r]:=cC aV func100 rfl λw X e a k=>ah a (aq (aq (a1 h (λd h=>au a [.z (.b ak),aB (ajD bs d)] (kT (b:=ak) Y (λi=>bB (i.symm.trans (b3 ak)) (by decide)) λ_=>(ay (al h λl c h=>aw h▸D a [.z (.nat 20),bZ (b' bs c),bF 9 gx [],bF 9 gx s] (eW a 2 20))))) λd h=>kx h)))
open Go.RowKit Go.Lib in
set_option maxHeartbeats 4000000 in
set_option maxRecDepth 100000 in
theorem Xi(b n c i d m s:Nat)(l vs:List Value)(w:World)(hi:i<n)(hm:0<m)(Q:n+m<=c)(U:c<=9223372036854775807)(y:d≠b)
  (R:l.length=n*2) (X:vs.length=m*2)
  (Z: ∀j v,l[j]? =aa v->w.cell? ⟨b,j,aj⟩=aa v) (q: ∀j,j<(n+m)*2->(w.cell? ⟨b,j,aj⟩).isSome=ab) (z: ∀j,w.frozen? ⟨b,j,aj⟩=ak)
  (f: ∀j v,vs[j]? =aa v->w.cell? ⟨d,j,aj⟩=aa v) (g: ∀v∈l,v.oneCell'=ab) (t: ∀v∈vs,v.oneCell'=ab)
  (V uy:TypeId) (u D:Nat) (E:w.shape? d=aa (V,u)) (I:w.shape? b=aa (uy,D)) (M:D≠0) (A: ∀j,w.frozen? ⟨d,j,aj⟩=ak):
  Calls prog 101 #[.slice (aa ⟨b,0,aj⟩) n c,.int .i64 i,.slice (aa ⟨d,0,aj⟩) m s] w λe w'=>
   e= .returned (.slice (aa ⟨b,0,aj⟩) (n+m) c)/\w'=(w.drew.setCells b ((i+m)*2) (l.drop (i*2))).setCells b (i*2) vs:=by
 have y2: ¬((m:Int)=0):=O
 have qw: ¬((i:Int)=(n:Int)):=O
 have nx:IntKind.i64.wrap ((i:Int)+(m:Int))=(i:Int)+(m:Int):=by rw[IntKind.wrap_i64];omega
 have nw:(0:Int)<=(i:Int)+(m:Int):=O
 have lB:i<=n:=O
 have JV:((i:Int)+(m:Int)).toNat=i+m:=O
 have vO: ¬(c=i+m):=O
 have yP:(i:Int)<=(n:Int)+(m:Int):=O
 have ahb: ¬(c=i):=O
 have N: ∀P S,(callFunc 169 #[.slice (aa ⟨d,0,aj⟩) m s,.slice (aa ⟨b,(i+m)*2,aj⟩) P S]).run prog w= .ok (.value (.bool ak)) w:=λP S=>by
  rw[run_callFunc_extern func169 Y Y Y (e:=Extern.SlicesOverlaps.overlaps #[24,24] #[4]) Y,
   Lib.run_overlaps_apart w 24 4 61 underlying24 2 sizeOf61 ⟨d,0,aj⟩ ⟨b,(i+m)*2,aj⟩ m s P S y V uy u D E I M (A 0) (A u)]
  rfl
 have B:(l.drop (i*2)).length=(n-i)*2:=by rw[fM,R];omega
 have C:(prog.info? 61).map (·.size)=aa 2:=Y
 have p: ∀ty r k3,(Builtin.copy_ #[24,24] ty #[.slice (aa ⟨b,(i+m)*2,aj⟩) (n+m-(i+m)) r,.slice (aa ⟨b,i*2,aj⟩) (n+m-i) k3]).run prog w.drew= .ok (goInt ((n-i:Nat):Int)) (w.drew.setCells b ((i+m)*2) (l.drop (i*2))):=λty r k3=>
  r9 w.drew 24 24 ty 61 2 b ((i+m)*2) (n+m-(i+m)) r ⟨b,i*2,aj⟩ (n+m-i) k3 (n-i) (l.drop (i*2)) underlying24 C (by simp only[Nat.min_def];split<;>omega) B
   (λj v o=>by rw[Addr.add_lit];exact Z (i*2+j) v (by rwa [gZ] at o))
   (λj o=>q _ O) (λj o=>z _) λv bW=>g v (fq bW)
 obtain⟨F,a⟩: ∃F,F=w.drew.setCells b ((i+m)*2) (l.drop (i*2)):=⟨_,rfl⟩
 have H: ∀k,k<(n+m)*2->(F.cell? ⟨b,k,aj⟩).isSome=ab:=λk hk=>by
  rw[a];exact D0 b (l.drop (i*2)) ((i+m)*2) w.drew (λj o=>q _ (by rw[B] at o;omega)) k (q k hk)
 have K: ∀(W:World),(∀x,W.cell? x=F.cell? x)->(∀x,W.frozen? x=F.frozen? x)-> ∀ty r,(Builtin.copy_ #[24,24] ty #[.slice (aa ⟨b,i*2,aj⟩) (n+m-i) r,.slice (aa ⟨d,0,aj⟩) m s]).run prog W= .ok (goInt m) (W.setCells b (i*2) vs):=λW L T ty r=>
  r9 W 24 24 ty 61 2 b (i*2) (n+m-i) r ⟨d,0,aj⟩ m s m vs underlying24 C (by simp only[Nat.min_def];split<;>omega) X
   (λj v o=>by
    rw[Addr.add_lit,dQ,L,a,World.cell?_setCells_out b _ _ _ _ λh _=>bB h y];exact f j v o)
   (λj o=>by rw[L];exact H _ O) (λj o=>by rw[T,a,World.frozen?_setCells];exact z _) t
 rw[<-a] at p
 go_enter func101,Tryz.ntmps101
 go_wp2_with (simp only[N])
 go_region_law (refine Ed rfl _ _ 24 24 rfl _ _ (by simp[Act.eval,Act.put]) (by simp[Act.eval,Act.put]) (p _ _ _) ?_)
 go_wp2_with (at_builtin;refine vI _ rfl _ _ 24 24 rfl _ _ rfl rfl (K _ (λ_=>rfl) (λ_=>rfl) _ _) ?_)
 go_ret
 first|exact⟨rfl,rfl⟩|exact⟨rfl,by rw[a]⟩
open Go.RowKit Go.Lib in
set_option maxHeartbeats 4000000 in
set_option maxRecDepth 100000 in
theorem WG(b n c i y m P:Nat)(k l:List Value)(w:World)(hi:i<n)(hm:0<m)(ahQ:n<=c)(C:c<n+m)(F:TypeInfo)(z:Value)(R:prog.info? 61=aa F)(S:F.zero=aa z)(X:F.size=2)(T:z.cells.size=2)(hle:n+m<=1000000000)(Z:(n+m)*F.bytes<=140737488355328)
  (U:k.length=n*2) (f:l.length=m*2)
  (H: ∀j v,k[j]? =aa v->w.cell? ⟨b,j,aj⟩=aa v)
  (g: ∀j v,l[j]? =aa v->w.cell? ⟨y,j,aj⟩=aa v) (V: ∀v∈k,v.oneCell'=ab) (qi: ∀v∈l,v.oneCell'=ab):
  Calls prog 101 #[.slice (aa ⟨b,0,aj⟩) n c,.int .i64 i,.slice (aa ⟨y,0,aj⟩) m P] w λe w'=>
   e= .returned (.slice (aa ⟨w.heap.size,0,aj⟩) (n+m) (grownCap w (n+m) c 61))/\
   w'=(((w.alloc (.cells ((k.take (i*2)).toArray++eS z.cells (n+m-i)++eS z.cells (grownCap w (n+m) c 61-(n+m))) 61)).drew.setCells w.heap.size (i*2) l).drew).setCells w.heap.size ((i+m)*2) (k.drop (i*2)):=by
 have y2: ¬((m:Int)=0):=O
 have qw: ¬((i:Int)=(n:Int)):=O
 have aix:(c:Int)<(n:Int)+(m:Int):=O
 have u:(prog.info? 61).map (·.size)=aa 2:=by rw[R];simp[X]
 have JA:b<w.heap.size:=block_lt_of_cell (H 0 _ (bp O));have JY:y<w.heap.size:=block_lt_of_cell (g 0 _ (bp O));have D:(n:Int)+(m:Int)-(i:Int)=((n+m-i:Nat):Int):=O
 have K:i+(n+m-i)=n+m:=O
 have A:(Builtin.firstCells F.size i (.slice (aa ⟨b,0,aj⟩) i c)).run prog w.drew= .ok (k.take (i*2)).toArray w.drew:=by
  rw[X];exact run_firstCells_some w.drew 2 i ⟨b,0,aj⟩ i c (k.take (i*2)) (by rw[cZ];omega) (λj v d=>by
   rw[Addr.add_lit,dQ];rw[g'] at d;split at d
   ·exact H j v d
   cases d)
 have s: ∀ty,(Builtin.append_ #[24,3] ty #[.slice (aa ⟨b,0,aj⟩) i c,.int .i64 ((n:Int)+(m:Int)-(i:Int))]).run prog w=
   .ok (.slice (aa ⟨w.heap.size,0,aj⟩) (n+m) (grownCap w (n+m) c 61)) (w.drew.alloc (.cells ((k.take (i*2)).toArray++eS z.cells (n+m-i)++eS z.cells (grownCap w (n+m) c 61-(n+m))) 61)):=λty=>by
  have h:=Lib.run_append_grow_zeros w 24 3 ty 61 F z .i64 .i64 underlying24 underlying3 R S (aa ⟨b,0,aj⟩) i c (k.take (i*2)) A (n+m-i) O O O O (by
   have:=eh F.bytes (O:n+m-i<=n+m);omega) (by rw[K];exact growslice_fits C Z)
  rw[K] at h;rw[D];exact h
 obtain⟨G,N⟩: ∃G,G=grownCap w (n+m) c 61:=⟨_,rfl⟩
 obtain⟨a,p⟩: ∃a:Array Value,a=(k.take (i*2)).toArray++eS z.cells (n+m-i)++eS z.cells (G-(n+m)):=⟨_,rfl⟩
 rw[<-N] at s⊢;rw[<-p] at s⊢;have pf:(n+m)*2<=a.size:=by
  rw[p];simp[eS,T];omega
 obtain⟨q,o⟩: ∃q,q=w.drew.alloc (.cells a 61):=⟨_,rfl⟩
 rw[<-o] at s;have gz: ∀j,j<(n+m)*2->(q.cell? ⟨w.heap.size,j,aj⟩).isSome=ab:=λj d=>by
  rw[o,World.cell?_alloc_at (w:=w.drew) a _ w.heap.size j rfl,iY O];rfl
 have E: ∀j,q.frozen? ⟨w.heap.size,j,aj⟩=ak:=λj=>by rw[o];exact World.frozen?_alloc_at (w:=w.drew) a _ w.heap.size j rfl
 have Jv: ∀j v,w.cell? ⟨b,j,aj⟩=aa v->q.cell? ⟨b,j,aj⟩=aa v:=λj v h=>by rw[o,World.cell?_alloc_past (w:=w.drew) _ b j JA];exact h
 have Jw: ∀j v,w.cell? ⟨y,j,aj⟩=aa v->q.cell? ⟨y,j,aj⟩=aa v:=λj v h=>by rw[o,World.cell?_alloc_past (w:=w.drew) _ y j JY];exact h
 have I: ∀(W:World),(∀x,W.cell? x=q.cell? x)->(∀x,W.frozen? x=q.frozen? x)-> ∀ty L,(Builtin.copy_ #[24,24] ty #[.slice (aa ⟨w.heap.size,i*2,aj⟩) (n+m-i) L,.slice (aa ⟨y,0,aj⟩) m P]).run prog W= .ok (goInt m) (W.setCells w.heap.size (i*2) l):=λW r Q ty L=>
  r9 W 24 24 ty 61 2 w.heap.size (i*2) (n+m-i) L ⟨y,0,aj⟩ m P m l underlying24 u (by simp only[Nat.min_def];split<;>omega) f
   (λj v d=>by rw[Addr.add_lit,dQ,r];exact Jw _ v (g j v d))
   (λj d=>by rw[r];exact gz _ O) (λj d=>by rw[Q];exact E _) qi
 have Jr:n+m<=G:=by rw[N];exact grownCap_ge w _ _ _
 have agZ:G<=9223372036854775807:=by
  have:=grownCap_le_maxLen w (n+m) c 61 (by unfold maxLen;omega);rw[<-N] at this;unfold maxLen at this;omega
 have ag0: ¬(G=i):=O
 have ag1: ¬(G=i+m):=O
 have ahe: ¬(c=i):=O
 have Jz:b≠w.heap.size:=O
 have M:(k.drop (i*2)).length=(n-i)*2:=by rw[fM,U];omega
 have B: ∀(W:World),(∀x,W.cell? x=(q.setCells w.heap.size (i*2) l).cell? x)->(∀x,W.frozen? x=(q.setCells w.heap.size (i*2) l).frozen? x)-> ∀ty L k3,(Builtin.copy_ #[24,24] ty #[.slice (aa ⟨w.heap.size,(i+m)*2,aj⟩) (n+m-(i+m)) L,.slice (aa ⟨b,i*2,aj⟩) (n-i) k3]).run prog W= .ok (goInt ((n-i:Nat):Int)) (W.setCells w.heap.size ((i+m)*2) (k.drop (i*2))):=λW r Q ty L k3=>
  r9 W 24 24 ty 61 2 w.heap.size ((i+m)*2) (n+m-(i+m)) L ⟨b,i*2,aj⟩ (n-i) k3 (n-i) (k.drop (i*2)) underlying24 u (by simp only[Nat.min_def];split<;>omega) M
   (λj v d=>by
    rw[Addr.add_lit,r,World.cell?_setCells_out _ _ _ _ _ λh _=>bB h Jz];exact Jv _ v (H (i*2+j) v (by rwa [gZ] at d)))
   (λj d=>by rw[r];exact D0 w.heap.size l (i*2) q (λt gJ=>gz _ (by rw[f] at gJ;omega)) _ (gz _ (by rw[M] at d;omega)))
   (λj d=>by rw[Q,World.frozen?_setCells];exact E _) λv bW=>V v (fq bW)
 subst o;have Jp: ∀x,((w.alloc (.cells a 61)).drew).cell? x=(w.drew.alloc (.cells a 61)).cell? x:=λx=>rfl;have Jq: ∀x,((w.alloc (.cells a 61)).drew).frozen? x=(w.drew.alloc (.cells a 61)).frozen? x:=λx=>rfl;have tx: ∀x,(((w.alloc (.cells a 61)).drew.setCells w.heap.size (i*2) l).drew).cell? x=((w.drew.alloc (.cells a 61)).setCells w.heap.size (i*2) l).cell? x:=λx=>rfl;have tz: ∀x,(((w.alloc (.cells a 61)).drew.setCells w.heap.size (i*2) l).drew).frozen? x=((w.drew.alloc (.cells a 61)).setCells w.heap.size (i*2) l).frozen? x:=λx=>rfl;have nx:IntKind.i64.wrap ((i:Int)+(m:Int))=(i:Int)+(m:Int):=by rw[IntKind.wrap_i64];omega
 have nw:(0:Int)<=(i:Int)+(m:Int):=O
 have lB:i<=n:=O
 have JV:((i:Int)+(m:Int)).toNat=i+m:=O
 have yP:(i:Int)<=(n:Int):=O
 clear D K A p N pf
 go_enter func101,Tryz.ntmps101
 go_wp2_with (first
  |(at_builtin;refine Lib.wpList_append_run _ rfl _ _ _ _ rfl _ _ rfl rfl _ _ (s _) ?_)
  |(at_builtin;refine vI _ rfl _ _ 24 24 rfl _ _ rfl rfl (I _ Jp Jq _ _) ?_)
  |(at_builtin;refine vI _ rfl _ _ 24 24 rfl _ _ rfl rfl (B _ (λ_=>rfl) (λ_=>rfl) _ _ _) ?_))
 go_region_law (refine Ed rfl _ _ 24 24 rfl (.slice (aa ⟨w.heap.size,(i+m)*2,aj⟩) (n+m-(i+m)) (G-(i+m))) (.slice (aa ⟨b,i*2,aj⟩) (n-i) (c-i)) (by simp[Act.eval,Act.put]) (by simp[Act.eval,Act.put]) (B _ tx tz 3 (G-(i+m)) (c-i)) ?_)
 go_wp2
 go_ret
 exact⟨rfl,rfl⟩
open Go.RowKit Go.Lib in
set_option maxHeartbeats 4000000 in
set_option maxRecDepth 100000 in
theorem WD(d h:Option Addr)(n c i k:Nat)(w:World)(q:i<=n)(r:n<=c)(s:c<=9223372036854775807):Calls prog 101 #[.slice d n c,.int .i64 i,.slice h 0 k] w λe l=>e= .returned (.slice d n c)/\l=w:=by
 have m:(i:Int)<=(n:Int):=O
 go_enter func101,Tryz.ntmps101
 cases d with
 |none=>
  go_wp2
  go_ret
  exact⟨rfl,rfl⟩
 |some a=>
  obtain⟨x,y,o⟩:=a;by_cases p:c=i
  ·go_wp2
   go_ret
   exact⟨rfl,rfl⟩
  go_wp2
  go_ret
  exact⟨rfl,rfl⟩
open Go.RowKit Go.Lib in
set_option maxHeartbeats 4000000 in
set_option maxRecDepth 100000 in
theorem Xg(d h:Option Addr)(n c m k:Nat)(w:World)(l:Value)(w':World)(s:0<m)(x:n<=c)(y:c<=9223372036854775807)(i:(Builtin.append_ #[24,24] 24 #[.slice d n c,.slice h m k]).run prog w= .ok l w'):
  Calls prog 101 #[.slice d n c,.int .i64 n,.slice h m k] w λe o=>e= .returned l/\o=w':=by
 have p: ¬((m:Int)=0):=O
 go_enter func101,Tryz.ntmps101
 cases d with
 |none=>
  go_wp2_with (at_builtin;refine Lib.wpList_append_run _ rfl _ _ _ _ rfl _ _ rfl rfl _ _ i ?_)
  go_ret
  exact⟨rfl,rfl⟩
 |some a=>
  obtain⟨z,A,q⟩:=a;by_cases r:c=n
  ·go_wp2_with (at_builtin;refine Lib.wpList_append_run _ rfl _ _ _ _ rfl _ _ rfl rfl _ _ i ?_)
   go_ret
   exact⟨rfl,rfl⟩
  go_wp2_with (at_builtin;refine Lib.wpList_append_run _ rfl _ _ _ _ rfl _ _ rfl rfl _ _ i ?_)
  go_ret
  exact⟨rfl,rfl⟩
theorem YD(s:prog.info? 61=aa a)(x:a.zero=aa z)(y:a.size=2)(A:z.cells.size=2):AU prog 101 24 61 2 a z where
 nothing:=WD
 tail:=Xg
 room:=λb n c i B m dR cs C w F H d q K e h k L Q l o p j t fs u R W X Z=>Xi b n c i B m dR cs C w F H d q K e h k L Q l o p j t fs u R W X Z
 grow:=λb n c i B m dR cs C w F H f d g r e h k l o p=>WG b n c i B m dR cs C w F H f d a z s x y A g r e h k l o p
theorem Lu(G:cA)(n:Nat)(s:List Part)(i:Int)(v:List Part)(d e:Nat){r:List Part}(h:wi n s i v=aa r):
  cu G 101 [aH 61 d 2 ar s,aH 61 e 2 ar v] [ms 0 d 2 ar s,U i,ms 1 e 2 ar v] (ms 0 (d+1) 2 ar r) [aH 61 (d+1) 2 ar r,aH 61 e 2 ar v]:=by
 unfold wi at h;refine kW (ag ((0:Int)<=i)) (λl=>?_) λl=>?_
 ·have h:=iN l h;exact kx h
 have h:=iO l h;refine kW (ag (i<=(s.length:Int))) (λm=>?_) λm=>?_
 ·have h:=iN m h;exact kx h
 have h:=iO m h;have y:=fF l;have A:=fF m;obtain⟨k,rfl⟩: ∃k:Nat,i=(k:Int):=⟨i.toNat,O⟩
 simp only[Int.toNat_natCast] at h;have a:(prog.info? 61).map (λi=>(i.zero.map λz=>z.cells.size,i.size,Nat.ble i.bytes 140000))=aa (aa 2,2,ab):=Y
 cases o:prog.info? 61 with
 |none=>rw[o] at a;cases a
 |some w=>
  rw[o] at a;simp only[hv,Option.some.injEq,Prod.mk.injEq] at a;obtain⟨c,q,x⟩:=a;cases p:w.zero with
  |none=>rw[p] at c;cases c
  |some z=>
   rw[p] at c;simp only[hv,Option.some.injEq] at c;refine QD ⟨_,func101,Y,Y⟩ (YD o p q c) underlying24 o p c q underlying61 (by decide) (eP x) ar (λ_=>rfl) s v r k d e O h
theorem Vi{p}{part}{c}{r}(h:D5 n p part c=aa r):ba G 26 [V.agg (bX p),U part,U c] (V.bM [V.agg (bX r.1),aL r.2]):=by
 refine bj aV func26 rfl λw X a=>D a [.z (.b (ab)),.z (.nat 20)] (aq (al h λe o h=>kW e.2 (λq=>?_) λq=>?_))
 ·have h:=iN q h;exact au a [ao (r3 G n p part (-1) o q),.z (.nat 21)] (aq (D a (dX 10) (kT (b:=ab) Y (λZ=>aw h▸ah a aC) λZ=>by cases Z)))
 have h:=iO q h;exact al h λk d h=>au a [aY [] [21,22] (r2 G n p part (-1) o q),.z (.nat 23)] (bP a [.dp 22] (aq (bo h (λs=>a6 [(1,U part),(2,U c),(3,V.aS (fa p)),(6,V.ref 20 0),(8,V.ref 23 0),(9,V.cK 22 1 2 (0+cE part) 0),(37,aL s)] [(20,E.cells [aZ,aZ]),(21,aH 55 1 2 bw e.1.aQ),(22,aH 61 1 2 ar e.1.parts),(23,E.cells [ms 21 1 2 bw e.1.aQ,ms 22 1 2 ar e.1.parts])] [20,21,22,23]) (λjJ h=>al h λil j h=>au a (eg 5++[bn ar d,b2,aM bs k.body,b2,b2,ao (gi G j),b2,b2]) (an h)) λkE h=>aA h (λZ h=>aw h▸ah a aC) λZ h=>ay (aq (al h λx y h=>a1 h (λu h=>au a [.z (.v (V.bM [V.t T.iA,aL x.2])),aB (z' u (pr G y))] (aq (aq (kx h)))) λu h=>au a [.z (.v (V.bM [V.aS (eX (x.1.getD default)),aL x.2])),aB (Aa u (pr G y))] (aq (al h λl I h=>D a [aY [] [24] (KL G I),aM d7 l] (be (cr h (λs=>a6 [(1,U part),(2,U c),(6,V.ref 20 0),(8,V.ref 23 0),(9,V.cK 22 1 2 (0+cE part) 0),(11,V.aS (eX (x.1.getD default))),(45,ms 24 1 3 d7 l),(46,U (l.length:Int)),(47,U s)] [(20,E.cells [aZ,aZ]),(21,aH 55 1 2 bw e.1.aQ),(22,aH 61 1 2 ar e.1.parts),(23,E.cells [ms 21 1 2 bw e.1.aQ,ms 22 1 2 ar e.1.parts]),(24,aH 120 1 3 d7 l)] [20,21,22,23,24]) aO λf ha h=>ah a (c6 h (λfy h=>ay (bC (al h λM A h=>D a [aB (bI d7 A),bn d7 A,.z (.nat 25)] (aq (bH h λN B P C h=>bu a bt [a' cj B,a' cj C,.z (.nat 26),.z (.nat 27)] (bo h (λs=>a6 [(1,U part),(2,U c),(6,V.ref 20 0),(8,V.ref 23 0),(9,V.cK 22 1 2 (0+cE part) 0),(11,V.aS (eX (x.1.getD default))),(45,ms 24 1 3 d7 l),(46,U (l.length:Int)),(47,U ha),(88,aL s)] [(20,E.cells [aZ,aZ]),(21,aH 55 1 2 bw e.1.aQ),(22,aH 61 1 2 ar e.1.parts),(23,E.cells [ms 21 1 2 bw e.1.aQ,ms 22 1 2 ar e.1.parts]),(24,aH 120 1 3 d7 l),(25,E.cells [U M.e3,U M.e5,U M.kinds]),(26,E.cells (kc N)),(27,E.cells (kc P))] [20,21,22,23,24,25,26,27]) (λTd h=>a1 h (λF h=>au a (aI 5 F++eg 10) (an h)) λF h=>a1 h (λg h=>au a (aK 5 F++aI 5 g++eg 5) (an h)) λg h=>a1 h (λS h=>au a (aK 5 F++aK 5 g++aI 5 S) (an h)) λS h=>au a (aK 5 F++aK 5 g++aK 5 S) (an h)) λoS h=>aA h (λjY h=>aw h▸ah a aC) λjY h=>ay (bf a (an h)))))))) λfy h=>br (aq (cx h λnU H pM K re L h=>bu a bt [bn ar d,aY [] [25] (MA G H),bn ar d,bZ (qM bs K),bF 9 gx k.body,aY [] [26] (Wo G L),.z (.nat 27)] (bP a [.bh 25 [] [27],.bh 26 [] [27]] (bH h λna Q m i h=>D a [bn ar d,bZ (sx bs Q),bF 9 gx k.body,bn ar d,.z (.rows (m.map ar)),.z (.fg 23 1 (m.map ar).length),aB (str ar i),aB (cQ ar i)] (bH h λpN R oT W h=>aw h▸D a [.z (.int 1),.z (.nat 28),aY [22,28] [] (Lu G n m (wr (part+1)) [(⟨nU,re⟩:Part)] 1 1 R)] (bP a [.bh 21 [] [23],.bh 22 [] [23]] (D a [ao (rY G W)] aC)))))))))))))))))
theorem Lj{a}{r}(h:rO n a=aa r):cu G 168 [aH 68 1 2 aG a] [ms 0 1 2 aG a] (ms 1 1 2 aG r) [aH 68 1 2 aG a,aH 68 1 2 aG r]:=by refine cC aV func168 rfl λw X o c C=>ah c (ah c (aq (D c [aM aG a] (be (bP c [.grow 3 20 68] (cH h (λi m=>a6 [(3,ms 20 m 2 aG i.1),(6,ms 0 1 2 aG a),(7,U (a.length:Int)),(8,U i.2)] [(0,aH 68 1 2 aG a),(20,aH 68 m 2 aG i.1)] [0,20]) 1 (aO) ?_))))));rintro e ⟨p,q⟩ s h;exact ah c (c6 h (λx h=>ay (bC (al h λy d h=>D c [aB (bI aG d),bn aG d,.z (.nat 21)] (bH h λA k B l h=>au c [ao (La G n y k),.z (.int 0),bZ (b' aG l),bF 2 ff p,bF 2 ff [A]] (bf c ⟨(B,wr (q+1)),(s+1),h,aO⟩))))) λx h=>aw h▸br (ah c (bP c [.dT 20 1 [2] []] cG)))
theorem WY{nest}{r}(h:uj n nest=aa r):cu G 99 [E.a7 b4 1 1 (nest.map av) []] [ms 0 1 2 av nest] (ms 1 1 2 av r) [E.a7 b4 1 1 (nest.map av) [],E.a7 b4 1 1 (r.map av) []]:=by refine cC aV func99 rfl λw X A c H=>ah c (ah c (aq (D c [aM av nest] (be (bP c [.grow 3 20 101,.ei 20 b4 1] (cH h (λm x=>a6 [(3,ms 20 x 2 av m.1),(6,ms 0 1 2 av nest),(7,U (nest.length:Int)),(8,U m.2)] [(0,E.a7 b4 1 1 (nest.map av) []),(20,E.a7 b4 1 x (m.1.map av) [])] [0,20]) 1 (aO) ?_))))));rintro l ⟨e,o⟩ B h;exact ah c (c6 h (λC h=>ay (bC (aq (al h λi a h=>dn c [.en 0 25 (0+cE o) 0 (av i),.en 0 26 (0+cE o) 1 (av i),.dp 25,.dp 26] (a2 (ch av a) (ch av a)) (au c [aB (bI av a),bn av a,.z (.nat 21)] (cx h λk p F q s d h=>bu c bt [aY [25] [22] (Lj G p),aY [26] [23] (Lj G q),.z (.lt 24 b4 1),.z (.rows (bV av (e++[(⟨[],[]⟩:Loop)]))),aB (b3 (aU b4 1)),aB (tl av (⟨[],[]⟩:Loop) d),bF 2 fj e,bF 2 fj [(⟨[],[]⟩:Loop)]] (dn c [.ei 22 b4 3,.dz 20 22 (av (⟨[],[]⟩:Loop)) (bV av (e++[(⟨k,[]⟩:Loop)])),.ei 23 b4 3,.dz 20 23 (av (⟨k,[]⟩:Loop)) (s.map av),.len 3 (s.map av).length] (a9 (b3 (k.map aG).length) (b3 b4) (nn av e (⟨[],[]⟩:Loop)) (yx av e (ph:=(⟨[],[]⟩:Loop)) (y:=(⟨k,[]⟩:Loop)) rfl) (b3 (F.map aG).length) (b3 b4) (nn av e (⟨k,[]⟩:Loop)) (s6 av (ph:=(⟨k,[]⟩:Loop)) d rfl) (tj av (⟨[],[]⟩:Loop) d)) (dn c [.ei 25 b4 3,.ei 26 b4 3,.dz 0 26 (av i) (nest.map av),.dz 0 25 (av i) (nest.map av)] (fV (b3 (i.hi.map aG).length) (b3 b4) (ch av a) (iV av a rfl) (b3 (i.lo.map aG).length) (b3 b4) (ch av a) (iV av a rfl)) (bf c ⟨(s,wr (o+1)),(B+1),h,aO⟩))))))))) λC h=>aw h▸br (ah c (bP c [.dT 20 1 [2,3] []] cG)))
theorem WW{p}{r}(h:r8 n p=aa r):cu G 102 [E.a7 b4 1 1 (p.nest.map av) [],aH 73 1 9 bs p.body] [V.agg [ms 0 1 2 av p.nest,ms 1 1 9 bs p.body]] (V.agg [ms 2 1 2 av r.nest,ms 3 1 9 bs r.body]) [E.a7 b4 1 1 (p.nest.map av) [],aH 73 1 9 bs p.body,E.a7 b4 1 1 (r.nest.map av) [],aH 73 1 9 bs r.body]:=by refine cC aV func102 rfl λw X q a F=>D a [.z (.nat 25),.z (.nat 20)] (al h λm e h=>D a [aY [0] [21] (WY G e),.z (.nat 22)] (aq (D a [aM bs p.body] (be (bP a [.fb 22 1 23 73] (cH h (λi o=>a6 [(2,V.ref 20 0),(3,V.ref 22 0),(11,ms 1 1 9 bs p.body),(12,U (p.body.length:Int)),(13,U i.2)] [(0,E.a7 b4 1 1 (p.nest.map av) []),(1,aH 73 1 9 bs p.body),(20,E.cells [aZ,aZ]),(21,E.a7 b4 1 1 (m.map av) []),(22,E.cells [ms 21 1 2 av m,ms 23 o 9 bs i.1]),(23,aH 73 o 9 bs i.1)] [0,1,20,21,22,23,25]) 1 (aO) ?_))))));rintro d ⟨s,x⟩ y h;exact ah a (c6 h (λA h=>ay (bC (al h λH c h=>D a [aB (bI bs c),bn bs c,.z (.nat 24)] (bH h λB k C l h=>bu a bt [ao (FA G k),.z (.int 0),bZ (b' bs l),bF 9 gx s,bF 9 gx [B]] (bf a ⟨(C,wr (x+1)),(y+1),h,aO⟩))))) λA h=>aw h▸br (ah a (bP a [.dT 21 2 [] [20,22]] (bP a [.dT 23 3 [] [20,22]] cG))))
theorem Ww{p}{part}{i}{r}(h:Fq n p part i=aa r):ba G 27 [V.agg (bX p),U part,U i] (V.bM [V.agg (bX r.1),aL r.2]):=by
 refine bj aV func27 rfl λw X a=>D a [.z (.b (ab)),.z (.nat 20)] (aq (al h λN H h=>a1 h (λW h=>au a [ao (r3 G n p part (-1) H W),.z (.nat 21)] (aq (D a (dX 7) (kT (b:=ab) Y (λI=>aw h▸ah a aC) λI=>by cases I)))) λW h=>al h λl d h=>au a [aY [] [21,22] (r2 G n p part (-1) H W),.z (.nat 23)] (dn a [.en 22 24 (0+cE part) 0 (ar l)] (aN (ch ar d)) (aq (D a (eg 4++[bn ar d,b2,aM av l.nest,b2,b2]) (aA h (λP h=>aw h▸ah a aC) λP h=>ay (aq (bH h λm c M Z h=>dn a [.en 24 25 (0+cE 0) 0 (av m),.en 24 26 (0+cE 0) 1 (av m),.dp 25,.dp 26] (a2 (ch av c) (ch av c)) (au a [bn ar d,aB (bI av c),bn av c,.z (.b ab),.z (.nat 25),.z (.nat 26),ao (KX G Z)] (dn a [.ei 25 b4 3,.ei 26 b4 3,.dz 24 26 (av m) (l.nest.map av),.dz 24 25 (av m) (l.nest.map av)] (fV (b3 (m.hi.map aG).length) (b3 b4) (ch av c) (iV av c rfl) (b3 (m.lo.map aG).length) (b3 b4) (ch av c) (iV av c rfl)) (aq (aq (a1 h (λf h=>?_) λf h=>?_)))))))))))))
 ·have K:(!M.2.2)=ab:=by rw[f];rfl
  exact au a (aK 6 K) (kT (b:=ab) Y (λk=>aw h▸ah a aC) λk=>by cases k)
 have K:(!M.2.2)=ak:=by rw[f];rfl
 refine al h λg j h=>au a (aI 4 K++[ao (gi G j),aF K,aF K]) (dR (b:= !g) (λk=>?_) λk=>?_)
 ·have k:g=ak:=by simpa using k
  have h:=iN k h;exact aw h▸ah a aC
 have k:g=ab:=by simpa using k
 have h:=iO k h;exact ay (aq (al h λS t h=>dn a [.en 22 27 (0+cE part) 1 (ar l),.dp 27] (aN (ch ar d)) (au a [bn ar d,aY [24,27] [28,29] (WW G t),.z (.nat 30)] (aq (cx h λT o u q v s h=>al h λC x h=>dn a [.en 24 31 (0+cE 0) 1 (av m),.dp 31] (aN (ch av c)) (au a [bn ar d,aB (bI av c),bn av c,aB (bI aG o),bn aG o,.z (.rows (u.map aG)),aB (str aG q)] (dn a [.ei 31 b4 3,.dz 24 31 (av m) (v.map av)] (a4 (cQ aG q) (b3 b4) (ch av c) (gq av s rfl)) (aq (cx h λL e pM y E A h=>al h λF B h=>dn a [.en 28 32 (0+cE 0) 0 (av L),.dp 32] (aN (ch av e)) (au a [aB (bI av e),bn av e,aB (bI aG y),bn aG y,.z (.rows (E.map aG)),aB (str aG A)] (dn a [.ei 32 b4 3,.dz 28 32 (av L) (F.map av),.ei 27 b4 2,.dz 22 27 (ar l) (N.1.parts.map ar),.dz 22 24 (ar l) (C.map ar)] (a12 (cQ aG A) (b3 b4) (ch av e) (gq av B rfl) (b3 (l.body.map bs).length) (b3 b4) (ch ar d) (iV ar d rfl) (cQ av s) (b3 b4) (ch ar d) (gq ar x rfl)) (dn a [.dp 22,.fg 23 1 (C.map ar).length,.dp 28,.fg 30 0 (F.map av).length,.bh 28 [] [30],.bh 29 [] [30]] (a2 (cQ ar x) (cQ av B)) (bH h λnV Q nW R h=>aw h▸D a [.z (.int 1),.z (.nat 33),aY [22,33] [] (Lu G n C (wr (part+1)) [(⟨F,S.body⟩:Part)] 1 1 Q)] (bP a [.bh 21 [] [23],.bh 22 [] [23]] (D a [ao (rY G R)] aC)))))))))))))))
theorem y8{p}{r}(h:vY n p=aa r):ba G 143 [V.agg (bX p)] (U r):=by refine bj aV func143 rfl λw X a=>D a [.z (.b (ab))] (ah a (aq (D a [aM bw p.aQ] (be (cr h (λi=>bR [(3,U i.1),(7,aE bw p.aQ),(8,U (p.aQ.length:Int)),(9,U i.2)]) aO ?_)))));rintro c ⟨l,m⟩ h;exact ah a (c6 h (λk h=>ay (bC (al h λo d h=>D a [a' bw d,.z (.nat 20)] (al h λq e h=>au a [ao (LF G e)] (bf a (an h)))))) λk h=>aw h▸br (ah a aC))
theorem Uc{t}{part}{r}(h:y9 n t part=aa r):cu G 172 [] [V.aS (eX t),U part] (V.bM [ms 0 1 1 bD r.1,ms 1 1 1 bD r.2]) [aH 4 1 1 bD r.1,aH 4 1 1 bD r.2]:=by
 refine cC aV func172 rfl λw X P c bL=>ah c (aq (cx h λht W jS s il Z h=>al h λkE x h=>bu c bt [ao (y8 G W),.z (.nat 20),bZ (sU bD s),aB (py s).1,ao (y8 G Z),.z (.nat 21),bZ (sU bD x),aB (py x).1] (aq (D c [aM cj t.list] (be (x' (γ:=Nat×Nat) h (λa e=>a6 [(0,V.aS (eX t)),(1,U part),(6,ms 20 e.1 1 bD a.1),(7,ms 21 e.2 1 bD a.2.1),(27,aE cj t.list),(28,U (t.list.length:Int)),(29,U a.2.2)] [(20,aH 4 e.1 1 bD a.1),(21,aH 4 e.2 1 bD a.2.1)] [20,21]) (1,1) (aO) ?_))))));rintro y ⟨S,b,R⟩ ⟨N,A⟩ h;refine ah c (c6 h (λT h=>?_) λT h=>?_)
 ·refine ay ?_;obtain⟨f,B,h⟩:=ja h;refine ix (γ:=Nat) (j:=f) (r:=r) (λa e=>a6 [(0,V.aS (eX t)),(1,U part),(6,ms 20 e 1 bD a.1),(7,ms 21 A 1 bD a.2.1),(27,aE cj t.list),(28,U (t.list.length:Int)),(29,U R)] [(20,aH 4 e 1 bD a.1),(21,aH 4 A 1 bD a.2.1),(22,E.cells [U a.2.2.1,U a.2.2.2.1,aE ai a.2.2.2.2])] [20,21,22]) ?_ ?_
  ·refine be (al h λd C h=>D c [a' cj C,.z (.nat 22)] (aq (ah c (aA h (λc2 h=>br ⟨(S,b,d.part,d.stmt,d.bU),N,h,aO⟩) λc2 h=>ay (aq (al h λo F h=>D c [a' (bd ai) F,aM ai o] (be (cH h (λa e=>a6 [(0,V.aS (eX t)),(1,U part),(6,ms 20 e 1 bD a.1),(7,ms 21 A 1 bD b),(8,U R),(27,aE cj t.list),(28,U (t.list.length:Int)),(29,U R),(44,aE ai o),(45,U (o.length:Int)),(46,U a.2)] [(20,aH 4 e 1 bD a.1),(21,aH 4 A 1 bD b),(22,E.cells (kc d))] [20,21,22]) N (aO) ?_))))))));rintro H ⟨g,u⟩ K h;exact ah c (c6 h (λeE h=>ay (bC (al h λnV L h=>D c [a' ai L] (bH h λnW i p k h=>au c [aB (bI bD i),bn bD i,.z (.rows (p.map bD)),.z (.len 6 (p.map bD).length),aB (str bD k),aB (cQ bD k)] (bf c ⟨(p,wr (u+1)),K,h,aO⟩))))) λeE h=>br (cx h λoT Q nb l q m h=>au c [a' ai Q,aB (bI bD l),bn bD l,.z (.rows (q.map bD)),.z (.len 7 (q.map bD).length),aB (str bD m),aB (cQ bD m)] ⟨(g,q,d.part,d.stmt,d.bU),K,h,aO⟩))
  rintro⟨v,I,pO,oU,sy⟩ M h;subst B;exact bf c ⟨(v,I,wr (R+1)),(M,A),h,aO⟩
 exact aw h▸br (ah c (bP c [.dT 20 0 [4] []] (bP c [.dT 21 1 [5] []] cG)))
theorem Uz{p}{a}{b}{r}(h:DP n p a b=aa r):ba G 103 [V.agg (bX p),U a,U b] (aL r):=bj aV func103 rfl λw X e=>D e [.z (.b (ab))] (aq (al h λj Q h=>a1 h (λu h=>au e [.z (.v (V.bM [V.t T.iA,aL j.2])),aB (z' u (pr G Q))] (aq (bo h (λH=>bR [(1,U a),(2,U b),(7,V.t T.iA),(37,aL H)]) (λjJ h=>a1 h (λx h=>al h λil K h=>a1 h (λB h=>al h λkE R h=>a1 h (λE h=>au e (aI 3 x++[ao (iq G K),aF x,aF x]++aI 3 B++[ao (iq G R),aF B,aF B]++aI 4 E) (an h)) λE h=>au e (aI 3 x++[ao (iq G K),aF x,aF x]++aI 3 B++[ao (iq G R),aF B,aF B]++aK 4 E) (an h)) λB h=>au e (aI 3 x++[ao (iq G K),aF x,aF x]++aK 5 B++dX 4) (an h)) λx h=>au e (aK 5 x++dX 9) (an h)) λk8 h=>aA h (λS h=>aw h▸ah e aC) λS h=>ay (aq (kx h))))) λu h=>au e [.z (.v (V.bM [V.aS (eX (j.1.getD default)),aL j.2])),aB (Aa u (pr G Q))] (aq (bo h (λH=>bR [(1,U a),(2,U b),(7,V.aS (eX (j.1.getD default))),(37,aL H)]) (λrX h=>a1 h (λy h=>al h λha L h=>a1 h (λC h=>al h λiI W h=>a1 h (λI h=>au e (aI 3 y++[ao (iq G L),aF y,aF y]++aI 3 C++[ao (iq G W),aF C,aF C]++aI 4 I) (an h)) λI h=>au e (aI 3 y++[ao (iq G L),aF y,aF y]++aI 3 C++[ao (iq G W),aF C,aF C]++aK 4 I) (an h)) λC h=>au e (aI 3 y++[ao (iq G L),aF y,aF y]++aK 5 C++dX 4) (an h)) λy h=>au e (aK 5 y++dX 9) (an h)) λjT h=>aA h (λtm h=>aw h▸ah e aC) λtm h=>ay (al h λi Z h=>D e [aY [] [20,21] (Uc G Z)] (al h λo f h=>D e [aY [] [22,23] (Uc G f)] (aq (D e [aM bD i.1] (be (cr h (λH=>a6 [(9,ms 20 1 1 bD i.1),(10,ms 21 1 1 bD i.2),(11,ms 22 1 1 bD o.1),(12,ms 23 1 1 bD o.2),(51,U (i.1.length:Int)),(52,U H)] [(20,aH 4 1 1 bD i.1),(21,aH 4 1 1 bD i.2),(22,aH 4 1 1 bD o.1),(23,aH 4 1 1 bD o.2)] [20,21,22,23]) aO λg M h=>ah e (c6 h (λN h=>ay (bC (ah e (bo h (λH=>a6 [(9,ms 20 1 1 bD i.1),(10,ms 21 1 1 bD i.2),(11,ms 22 1 1 bD o.1),(12,ms 23 1 1 bD o.2),(51,U (i.1.length:Int)),(52,U M),(82,aL H)] [(20,aH 4 1 1 bD i.1),(21,aH 4 1 1 bD i.2),(22,aH 4 1 1 bD o.1),(23,aH 4 1 1 bD o.2)] [20,21,22,23]) (λTe h=>al h λpM d h=>a1 h (λc h=>al h λre q h=>a1 h (λs h=>au e ([aB (bI bD d),bn bD d]++aI 7 c++[b2,b2,b2,aB (bI bD q),b2,bn bD q,b2]++aI 4 s++[b2,aF s,b2]) (an h)) λs h=>al h λna F h=>au e ([aB (bI bD d),bn bD d]++aI 7 c++[b2,b2,b2,aB (bI bD q),b2,bn bD q,b2]++aK 3 s++[aB (bI bD F),aJ s,bn bD F,b2,aJ s,b2]) (an h)) λc h=>al h λnV k h=>a1 h (λm h=>al h λnW l h=>a1 h (λA h=>au e ([aB (bI bD d),bn bD d]++aK 3 c++[aB (bI bD k),aJ c,bn bD k,aJ c]++aI 3 m++[aB (bI bD l),aF m,bn bD l,aJ c,aF m,aJ c]++aI 3 A++[aB (bI bD l),aF A,bn bD l]++aI 8 A) (an h)) λA h=>au e ([aB (bI bD d),bn bD d]++aK 3 c++[aB (bI bD k),aJ c,bn bD k,aJ c]++aI 3 m++[aB (bI bD l),aF m,bn bD l,aJ c,aF m,aJ c]++aK 7 A) (an h)) λm h=>au e ([aB (bI bD d),bn bD d]++aK 3 c++[aB (bI bD k),aJ c,bn bD k,aJ c]++aK 4 m++[aJ c,aJ m,aJ c]++dX 7) (an h)) λpN h=>aA h (λP h=>aw h▸ah e aC) λP h=>ay (bf e (an h)))))) λN h=>aw h▸br (ah e aC))))))))))))
theorem Ws{p}{part}{r}(h:Fm n p part=aa r):ba G 28 [V.agg (bX p),U part] (V.bM [V.agg (bX r.1),aL r.2]):=bj aV func28 rfl λw X a=>D a [.z (.b (ab)),.z (.nat 20)] (aq (bo h (λy=>a6 [(1,U part),(2,V.aS (fa p)),(4,V.ref 20 0),(23,aL y)] [(20,E.cells [aZ,aZ])] [20]) (λB h=>a1 h (λe h=>a1 h (λi h=>al h λC o h=>au a (aI 4 e++[aM ar p.parts,aF e,aF e]++aI 5 i++[ao (Uz G o),aF i,aF i]) (an h)) λi h=>au a (aI 4 e++[aM ar p.parts,aF e,aF e]++aK 7 i) (an h)) λe h=>au a (aK 6 e++dX 7) (an h)) λF h=>aA h (λA h=>aw h▸ah a aC) λA h=>ay (al h λH q h=>D a [aY [] [21,22] (Ec G q),.z (.nat 23)] (aq (cx h λK k L c s d h=>bH h λQ l x m h=>aw h▸bu a bt [aB (bI ar k),bn ar k,aB (bI ar c),bn ar c,aB (bI ar c),bn ar c,.z (.rows (s.map ar)),aB (str ar d),aB (Df ar l (cQ ar d)),bn ar l,.z (.rows (x.map ar)),aB (str ar m)] (dn a [.len 31 (s.map ar).length,.fg 23 1 (s.map ar).length,.fg 23 1 (x.map ar).length] (a3 (cQ ar d) (cQ ar d) (cQ ar m)) (D a [.z (.at 3),.z (.bh 21 [] [23]),.z (.at 3),.z (.bh 22 [] [23])] aC)))))))
theorem Vf{t}{a}{r}(h:D1 n t a=aa r):cu G 174 [] [V.aS (eX t),U a] (ms 0 1 1 ai r) [aH 3 1 1 ai r]:=by refine cC aV func174 rfl λw X H c W=>ah c (ah c (aq (al h λd s h=>D c [a' (bd ai) s,aM ai d] (be (bP c [.grow 5 20 3] (cH h (λe B=>a6 [(0,V.aS (eX t)),(1,U a),(5,ms 20 B 1 ai e.1),(15,aE ai d),(16,U (d.length:Int)),(17,U e.2)] [(20,aH 3 B 1 ai e.1)] [20]) 1 (aO) ?_))))));rintro o ⟨i,x⟩ k h;exact ah c (c6 h (λK h=>ay (bC (al h λC y h=>D c [a' ai y] (ah c (bC (cr h (λe=>a6 [(0,V.aS (eX t)),(1,U a),(5,ms 20 k 1 ai i),(7,U C),(8,U e),(15,aE ai d),(16,U (d.length:Int)),(17,U x)] [(20,aH 3 k 1 ai i)] [20]) aO λp F h=>aq (bo h (λe=>a6 [(0,V.aS (eX t)),(1,U a),(5,ms 20 k 1 ai i),(7,U C),(8,U F),(15,aE ai d),(16,U (d.length:Int)),(17,U x),(35,aL e)] [(20,aH 3 k 1 ai i)] [20]) (λZ h=>a1 h (λq h=>au c (aI 10 q) (an h)) λq h=>al h λL l h=>au c (aK 6 q++[a' ai l]++aK 4 q) (an h)) λQ h=>aA h (λR h=>ay (be (bf c (an h)))) λR h=>br (al h λA m h=>au c [.z (.int 0),bZ (b' ai m),dy i,dy [F]] (bf c ⟨(A,wr (x+1)),(k+1),h,aO⟩))))))))) λK h=>aw h▸br (ah c (eW c 4 20)))
theorem VV{t}{r}(h:Em n t=aa r):cu G 105 [] [V.aS (eX t)] (ms 0 1 1 bD r) [aH 4 1 1 bD r]:=by
 refine cC aV func105 rfl λw X E a bL=>ah a (al h λht x h=>D a [aM cj t.list,.z (.nat 20),bZ (sU bD x),aB (py x).1] (aq (D a [aM cj t.list] (be (cH h (λc k=>a6 [(0,V.aS (eX t)),(3,ms 20 k 1 bD c.1),(4,U c.2)] [(20,aH 4 k 1 bD c.1)] [20]) 1 (aO) ?_)))));rintro Q ⟨W,y⟩ R h;refine aq (ah a (aA h (λI h=>?_) λI h=>?_))
 ·refine ay ?_;obtain⟨M,Z,h⟩:=ja h;refine ix (γ:=Nat) (j:=M) (r:=r) (λc k=>a6 [(0,V.aS (eX t)),(3,ms 20 k 1 bD c),(4,U y)] [(20,aH 4 k 1 bD c)] [20]) ?_ ?_
  ·refine be (aq (bo h (λc=>a6 [(0,V.aS (eX t)),(3,ms 20 R 1 bD W),(4,U y),(44,aL c)] [(20,aH 4 R 1 bD W)] [20]) (λTg h=>al h λiI e h=>a1 h (λs h=>bu a bt ([aB (bI bD e),bn bD e]++aI 16 s) (an h)) λs h=>cx h λjT b N A P B h=>bu a bt ([aB (bI bD e),bn bD e]++aK 7 s++[bZ (qM ai b),dy t.jR]++aK 6 s++[a' ai A,aJ s,aJ s,ao (KC G B),aJ s]) (an h)) λS h=>aA h (λT h=>br ⟨W,R,h,aO⟩) λT h=>ay (bH h λoS l C m h=>D a [aB (bI bD l),bn bD l,.z (.rows (C.map bD)),.z (.len 3 (C.map bD).length),aB (str bD m),aB (cQ bD m)] (al h λd F h=>D a [aY [] [21] (Vf G F),aM ai d] (be (cH h (λc k=>a6 [(0,V.aS (eX t)),(3,ms 20 k 1 bD c.1),(4,U y),(50,ms 21 1 1 ai d),(51,U (d.length:Int)),(52,U c.2)] [(20,aH 4 k 1 bD c.1),(21,aH 3 1 1 ai d)] [20,21]) R (aO) ?_))))));rintro H ⟨f,K⟩ i h;exact ah a (c6 h (λfy h=>ay (bo h (λc=>a6 [(0,V.aS (eX t)),(3,ms 20 i 1 bD c),(4,U y),(50,ms 21 1 1 ai d),(51,U (d.length:Int)),(52,U K)] [(20,aH 4 i 1 bD c),(21,aH 3 1 1 ai d)] [20,21]) (λak3 h=>be (al h λoT o h=>D a [aB (bI ai o),bn ai o] (ah a (aA h (λhU h=>bH h λnb p L q h=>au a [aB (bI bD p),bn bD p,.z (.rows (L.map bD)),.z (.len 3 (L.map bD).length),aB (str bD q),aB (cQ bD q)] (an h)) λhU h=>ay (an h))))) λg h=>bf a ⟨(g,wr (K+1)),i,h,aO⟩)) λfy h=>br ⟨f,i,h,aO⟩)
  rintro u v h;subst Z;exact bf a ⟨(u,wr (y-1)),v,h,aO⟩
 exact aw h▸br (ah a (eW a 2 20))
theorem XO{p}{part}{r}(h:AK n p part=aa r):ba G 29 [V.agg (bX p),U part] (V.bM [V.agg (bX r.1),aL r.2]):=bj aV func29 rfl λw X a=>D a [.z (.b (ab)),.z (.nat 20)] (aq (al h λk l h=>a1 h (λB h=>au a [.z (.v (V.bM [V.t T.iA,aL k.2])),aB (z' B (pr G l))] (aq (bo h (λe=>a6 [(1,U part),(2,V.aS (fa p)),(4,V.ref 20 0),(6,V.t T.iA),(23,aL e)] [(20,E.cells [aZ,aZ])] [20]) (λI h=>a1 h (λm h=>al h λM C h=>au a (aI 3 m++[ao (iq G C),aF m,aF m]) (an h)) λm h=>au a (aK 5 m) (an h)) λN h=>aA h (λK h=>aw h▸ah a aC) λK h=>ay (aq (aq (kx h)))))) λB h=>au a [.z (.v (V.bM [V.aS (eX (k.1.getD default)),aL k.2])),aB (Aa B (pr G l))] (aq (bo h (λe=>a6 [(1,U part),(2,V.aS (fa p)),(4,V.ref 20 0),(6,V.aS (eX (k.1.getD default))),(23,aL e)] [(20,E.cells [aZ,aZ])] [20]) (λP h=>a1 h (λo h=>al h λS F h=>au a (aI 3 o++[ao (iq G F),aF o,aF o]) (an h)) λo h=>au a (aK 5 o) (an h)) λha h=>aA h (λL h=>aw h▸ah a aC) λL h=>ay (aq (al h λi H h=>D a [aY [] [21] (VV G H),aM bD i] (be (cr h (λe=>a6 [(1,U part),(2,V.aS (fa p)),(4,V.ref 20 0),(6,V.aS (eX (k.1.getD default))),(26,ms 21 1 1 bD i),(27,U (i.length:Int)),(28,U e)] [(20,E.cells [aZ,aZ]),(21,aH 4 1 1 bD i)] [20,21]) aO λq Q h=>ah a (c6 h (λR h=>ay (bC (al h λW d h=>D a [aB (bI bD d),bn bD d] (bo h (λe=>a6 [(1,U part),(2,V.aS (fa p)),(4,V.ref 20 0),(6,V.aS (eX (k.1.getD default))),(26,ms 21 1 1 bD i),(27,U (i.length:Int)),(28,U Q),(45,aL e)] [(20,E.cells [aZ,aZ]),(21,aH 4 1 1 bD i)] [20,21]) (λZ h=>a1 h (λA h=>au a (aI 11 A) (an h)) λA h=>al h λf s h=>au a (aK 6 A++[a' cj s]++aK 5 A) (an h)) λg h=>aA h (λj h=>aw h▸ah a aC) λj h=>ay (bf a (an h)))))) λR h=>br (al h λu x h=>D a [aY [] [22,23] (Ec G x),.z (.nat 24)] (al h λc y h=>aw h▸D a [aY [23] [] (Lv G 1 y),.z (.cut 23 c.1 (bV ar (c.2.take c.1))),aB (L2 ar c.2 c.1)] (D a [.z (.at 3),.z (.bh 22 [] [24]),.z (.at 3),.z (.bh 23 [] [24])] aC))))))))))))
theorem HX{a}{r}(h:oZ n a=aa r):ba G 237 [U a] (V.agg (dj r)):=bj aV func237 rfl λw X c=>aw h▸D c [.z (.nat 20)] (ah c aC)
theorem mF{e}{a}{r}(h:jH n e a=aa r):ba G 239 [V.agg (dj e),U a] (aL r):=bj aV func239 rfl λw X c=>D c [.z (.b (ab))] (bo h (λi=>bR [(4,aL i)]) (λk h=>a1 h (λd h=>au c (aI 5 d) (an h)) λd h=>au c (aK 5 d) (an h)) λl h=>aw h▸aC)
theorem acU(G:cA): ∀(n:Nat) (e:Expr) {r:Expr} (h:rS n e=aa r),ba G 175 [V.agg (dj e)] (V.agg (dj r)):=by
 intro n;induction n with
 |zero=>intro e r h;rw[rS.eq_def] at h;cases h
 |succ n nz=>
  intro e r h;rw[rS.eq_def] at h;dsimp only at h;refine bj aV func175 rfl λw X a=>D a [.z (.b (ab)),.z (.nat 20)] (aq (bo h (λA=>a6 [(1,V.aS (dF e)),(2,V.ref 20 0),(22,aL A)] [(20,E.cells [U 0,U 0,aZ,U 0,bA [],aZ,aZ])] [20]) (λrW h=>?_) λil h=>?_))
  ·refine a1 h (λF h=>au a (aI 5 F++eg 5) (an h)) λF h=>?_;obtain⟨jS,K,h⟩:=c5 h;exact a1 h (λt h=>au a (aK 3 F++[ao (ts G K),aJ F,aJ F]++aI 5 t) (an h)) λt h=>au a (aK 3 F++[ao (ts G K),aJ F,aJ F]++aK 5 t) (an h)
  refine aA h (λeE h=>?_) λeE h=>?_
  ·obtain⟨kE,u,h⟩:=c5 h;obtain rfl:=aw h;exact D a [ao (HX G u)] aC
  refine ay (aq ?_);obtain⟨k8,v,h⟩:=c5 h;refine D a [ao (Hp G v)] (aA h (λfy h=>?_) λfy h=>?_)
  ·obtain rfl:=aw h;exact ah a aC
  refine ay (aq ?_);obtain⟨I,M,x,N,P,S,h⟩:=lS h;obtain⟨y,T,h⟩:=c5 h;refine bu a bt [.z (.row (dF I)),aB (hK b7 M (gG I)),ao (nz I N),.z (.row (dF P)),aB (hK b7 S (gG P)),ao (nz P T),.z (.nat 21),.z (.nat 22)] (D a [.z (.int 2),.z (.rows (bV b7 [x,y])),.z (.nat 23),aB (Qj x y)] (ah a (aq (bo h (λA=>a6 [(1,V.aS (dF e)),(2,V.ref 20 0),(3,V.ref 21 0),(4,V.ref 22 0),(5,V.ref 23 0),(6,KS (e.kind=6)),(58,aL A)] [(20,E.cells [U 0,U 0,aZ,U 0,bA [],aZ,aZ]),(21,E.cells (dj x)),(22,E.cells (dj y)),(23,E.cells [U e.kind,U 0,aZ,U 0,bA [],aZ,aE b7 [x,y]])] [20,21,22,23]) (λTb h=>a1 h (λhU h=>au a (aI 4 hU) (an h)) λhU h=>au a (aK 4 hU) (an h)) λuR h=>?_))));refine aA h (λlr h=>?_) λlr h=>?_
  ·refine ah a (bo h (λA=>a6 [(2,V.ref 20 0),(5,V.ref 23 0),(7,U A)] [(20,E.cells [U 0,U 0,aZ,U 0,bA [],aZ,aZ]),(21,E.cells (dj x)),(22,E.cells (dj y)),(23,E.cells [U e.kind,U 0,aZ,U 0,bA [],aZ,aE b7 [x,y]])] [20,21,22,23]) (λTd h=>ah a (be (ah a (aA h (λoc h=>bf a (an h)) λoc h=>ah a (aA h (λjY h=>bf a (an h)) λjY h=>ay (an h)))))) λoS h=>?_);refine aq ?_;obtain⟨nU,L,h⟩:=c5 h;refine D a [ao (gi G L)] (aA h (λtm h=>?_) λtm h=>?_)
   ·obtain⟨pM,Q,h⟩:=c5 h;obtain rfl:=aw h;exact D a [ao (HX G Q)] aC
   obtain rfl:=aw h;exact ay (ah a aC)
  refine ay (bC (bo h (λA=>a6 [(1,V.aS (dF e)),(2,V.ref 20 0),(3,V.ref 21 0),(4,V.ref 22 0),(5,V.ref 23 0),(6,KS (e.kind=6)),(85,aL A)] [(20,E.cells [U 0,U 0,aZ,U 0,bA [],aZ,aZ]),(21,E.cells (dj x)),(22,E.cells (dj y)),(23,E.cells [U e.kind,U 0,aZ,U 0,bA [],aZ,aE b7 [x,y]])] [20,21,22,23]) (λaiV h=>?_) λpN h=>?_))
  ·refine a1 h (λc h=>?_) λc h=>?_
   ·refine a1 h (λm h=>au a (aI 3 c++[b2,b2,aF m,aF m,b2,aF m,b2]) (an h)) λm h=>?_;obtain⟨na,R,h⟩:=c5 h;exact au a (aI 3 c++[b2,b2,aJ m,aJ m,ao (mF G R),b2,aJ m,b2]) (an h)
   obtain⟨nV,B,h⟩:=c5 h;refine a1 h (λk h=>?_) λk h=>au a ([aJ c,aJ c,ao (mF G B),aJ c]++aK 4 k) (an h);refine a1 h (λo h=>au a [aJ c,aJ c,ao (mF G B),aJ c,aF k,aF k,aF o,aF o,aF k,aF o,aF k] (an h)) λo h=>?_;obtain⟨nW,W,h⟩:=c5 h;exact au a [aJ c,aJ c,ao (mF G B),aJ c,aF k,aF k,aJ o,aJ o,ao (mF G W),aF k,aJ o,aF k] (an h)
  refine aA h (λJb h=>?_) λJb h=>?_
  ·obtain rfl:=aw h;exact ah a aC
  refine bo h (λA=>a6 [(2,V.ref 20 0),(3,V.ref 21 0),(4,V.ref 22 0),(5,V.ref 23 0),(6,KS (e.kind=6)),(100,aL A)] [(20,E.cells [U 0,U 0,aZ,U 0,bA [],aZ,aZ]),(21,E.cells (dj x)),(22,E.cells (dj y)),(23,E.cells [U e.kind,U 0,aZ,U 0,bA [],aZ,aE b7 [x,y]])] [20,21,22,23]) (λaiW h=>?_) λuS h=>?_
  ·refine a1 h (λd h=>?_) λd h=>?_
   ·refine a1 h (λp h=>au a (aI 3 d++[b2,b2,aF p,aF p,b2,aF p,b2]) (an h)) λp h=>?_;obtain⟨nb,Z,h⟩:=c5 h;exact au a (aI 3 d++[b2,b2,aJ p,aJ p,ao (mF G Z),b2,aJ p,b2]) (an h)
   obtain⟨nX,C,h⟩:=c5 h;refine a1 h (λl h=>?_) λl h=>au a ([aJ d,aJ d,ao (mF G C),aJ d]++aK 4 l) (an h);refine a1 h (λq h=>au a [aJ d,aJ d,ao (mF G C),aJ d,aF l,aF l,aF q,aF q,aF l,aF q,aF l] (an h)) λq h=>?_;obtain⟨rf,f,h⟩:=c5 h;exact au a [aJ d,aJ d,ao (mF G C),aJ d,aF l,aF l,aJ q,aJ q,ao (mF G f),aF l,aJ q,aF l] (an h)
  refine aA h (λJc h=>?_) λJc h=>?_
  ·obtain rfl:=aw h;exact ah a aC
  refine bo h (λA=>a6 [(2,V.ref 20 0),(5,V.ref 23 0),(116,aL A)] [(20,E.cells [U 0,U 0,aZ,U 0,bA [],aZ,aZ]),(21,E.cells (dj x)),(22,E.cells (dj y)),(23,E.cells [U e.kind,U 0,aZ,U 0,bA [],aZ,aE b7 [x,y]])] [20,21,22,23]) (λak5 h=>?_) λsA h=>?_
  ·refine a1 h (λi h=>au a (aI 5 i) (an h)) λi h=>?_;obtain⟨oU,H,h⟩:=c5 h;refine a1 h (λs h=>?_) λs h=>au a [aJ i,aJ i,ao (mF G H),aJ i,aJ s,aJ s,aJ i,aJ s,aJ i] (an h);obtain⟨sy,g,h⟩:=c5 h;exact au a [aJ i,aJ i,ao (mF G H),aJ i,aF s,aF s,ao (mF G g),aJ i,aF s,aJ i] (an h)
  refine aA h (λJd h=>?_) λJd h=>?_
  ·obtain⟨sB,j,h⟩:=c5 h;obtain rfl:=aw h;exact D a [ao (HX G j)] aC
  obtain rfl:=aw h;exact ay (ah a aC)
theorem aab{s}{r}(h:uT n s=aa r):ba G 106 [V.agg (fC s)] (V.agg (fC r)):=bj aV func106 rfl λw X a=>D a [.z (.b (ab)),.z (.nat 20)] (al h λe c h=>D a [ao (FA G c),.z (.nat 21)] (al h λi d h=>aw h▸D a [ao (acU G n e.value d)] (ah a aC)))
theorem V2{p}{r}(h:Er n p=aa r):ba G 30 [V.agg (bX p)] (V.bM [V.agg (bX r.1),aL r.2]):=by
 refine bj aV func30 rfl λw X a=>D a [.z (.b (ab)),.z (.nat 20)] (aq (al h λR y h=>D a [ao (jX G y)] (aA h (λK h=>aw h▸ah a aC) λK h=>ay (al h λk A h=>D a [aY [] [21,22] (Ui G A),.z (.nat 23)] (aq (D a [aM ar k.parts] (be (cr h (λe=>a6 [(2,V.ref 20 0),(4,V.ref 23 0),(16,ms 22 1 2 ar e.1),(17,U (k.parts.length:Int)),(18,U e.2)] [(20,E.cells [aZ,aZ]),(21,aH 55 1 2 bw k.aQ),(22,E.a7 b4 0 1 (e.1.map ar) []),(23,E.cells [ms 21 1 2 bw k.aQ,ms 22 1 2 ar e.1])] [20,21,22,23]) aO ?_))))))));rintro q ⟨s,o⟩ h;refine ah a (c6 h (λL h=>?_) λL h=>?_)
 ·refine ay (bC (al h λd c h=>D a [.z (.en 22 24 (0+cE o) 1 (ar d)),.z (.en 22 27 (0+cE o) 0 (ar d)),bn ar c,.z (.nat 25),aB (ch ar c),aB (bI ar c),aB (ch ar c)] (bP a [.dp 24] (D a [aM bs d.body] (be (cr h (λe=>a6 [(2,V.ref 20 0),(4,V.ref 23 0),(16,ms 22 1 2 ar s),(17,U (k.parts.length:Int)),(18,U o),(6,V.ref 25 0),(23,ms 24 1 9 bs e.1),(24,U (d.body.length:Int)),(25,U e.2)] [(20,E.cells [aZ,aZ]),(21,aH 55 1 2 bw k.aQ),(22,E.a7 b4 0 1 (bV ar s) [((0+cE o),0,ms 27 1 2 av d.nest),((0+cE o),1,ms 24 1 9 bs d.body)]),(23,E.cells [ms 21 1 2 bw k.aQ,ms 22 1 2 ar s]),(24,aH 73 1 9 bs e.1),(25,E.cells [ms 27 1 2 av d.nest,ms 24 1 9 bs e.1]),(27,E.a7 b4 1 1 (d.nest.map av) [])] [20,21,22,23,24,25,27]) aO ?_))))));rintro x ⟨W,Z⟩ h;exact ah a (c6 h (λQ h=>ay (bC (al h λf i h=>D a [aB (bI bs i),bn bs i,.z (.nat 26)] (bH h λg B C l h=>bu a bt [ao (aab G B),aB (bI bs i),bn bs i,.z (.rows (C.map bs)),aB (str bs l)] (dn a [.len 23 (C.map bs).length,.fg 25 1 (C.map bs).length] (a2 (cQ bs l) (cQ bs l)) (bf a (an h))))))) λQ h=>br (bH h λj F H m h=>dn a [.dz 22 27 (ar d) (bV ar s),.ei 24 b4 2,.dz 22 24 (ar d) (H.map ar),.len 16 (H.map ar).length,.fg 23 1 (H.map ar).length] (U7 (b3 (d.nest.map av).length) (b3 b4) (ch ar c) (iV ar c rfl) (jK bs F) (b3 b4) (ch ar c) (gq ar m rfl) (cQ ar m) (cQ ar m)) (bf a (an h))))
 exact aw h▸br (ah a (bP a [.dp 22,.bh 21 [] [20],.bh 22 [] [20]] aC))
theorem WB{p}{s}{r}(h:Fx n p s=aa r):ba G 6 [V.agg (bX p),V.agg [U s.kind,U s.part,U s.a,U s.b]] (V.bM [V.agg (bX r.1),aL r.2]):=bj aV func6 rfl λw X c=>D c [.z (.b (ab)),.z (.b (ab)),.z (.nat 20)] (aq (al h λv k h=>D c [ao (Zc G k)] (aA h (λH h=>aw h▸ah c aC) λH h=>ay (aq (ah c (be (ah c (aA h (λK h=>al h λE l h=>aw h▸D c [ao (V1 G l)] aC) λK h=>ah c (aA h (λL h=>al h λI m h=>aw h▸D c [ao (VZ G m)] aC) λL h=>ah c (aA h (λQ h=>al h λM o h=>aw h▸D c [ao (XN G o)] aC) λQ h=>ah c (aA h (λR h=>al h λN q h=>aw h▸D c [ao (Wx G q)] aC) λR h=>ah c (aA h (λW h=>al h λP x h=>aw h▸D c [ao (Wt G x)] aC) λW h=>ah c (aA h (λZ h=>al h λS y h=>aw h▸D c [ao (WA G y)] aC) λZ h=>ah c (aA h (λf h=>al h λT A h=>aw h▸D c [ao (Vi G A)] aC) λf h=>ah c (aA h (λg h=>al h λjT B h=>aw h▸D c [ao (Ww G B)] aC) λg h=>ah c (aA h (λC h=>al h λj d h=>aw h▸D c [ao (Ws G d)] aC) λC h=>ah c (aA h (λF h=>al h λt e h=>aw h▸D c [ao (XO G e)] aC) λF h=>ay (al h λu i h=>aw h▸D c [ao (V2 G i)] aC))))))))))))))))))
theorem Tz(G:cA)(n:Nat)(d:List cg)(e:List cg)(c:FuncId)(s:cg->cg->Option Bool)(k: ∀(l:cg) (m:cg) r,s l m=aa r->ba G c [V.agg [bA l.name,aE ai l.b1],V.agg [bA m.name,aE ai m.b1]] (aL r))(h:Ks n d e s=aa r):ba G 50 [aE bw d,aE bw e,V.fn c []] (aL r):=by
 refine bj aV func50 rfl λw X a=>ah a (aq (D a [aM bw d,aM bw e] (aA h (λx h=>?_) λx h=>?_)))
 ·cases h;exact ah a aC
 refine ay (aq (D a [aM bw d] (be (cr h (λy=>bR [(1,aE bw e),(2,V.fn c []),(15,aE bw d),(16,U (d.length:Int)),(17,U y)]) aO λi H h=>ah a (c6 h (λA h=>?_) λA h=>?_)))))
 ·refine ay (bC (al h λB o h=>D a [a' bw o,.z (.nat 20)] (al h λC p h=>D a [a' bw p,.z (.nat 21)] (al h λK q h=>D a [ao (k B C _ q)] (aA h (λF h=>?_) λF h=>ay (bf a (an h)))))));cases h;exact ah a aC
 cases h;exact br (ah a aC)
theorem Vc(G:cA)(n:Nat)(d:List Part)(e:List Part)(c:FuncId)(p:Part->Part->Option Bool)(k: ∀(q:Part) (s:Part) r,p q s=aa r->ba G c [V.agg (mm q),V.agg (mm s)] (aL r))(h:Ky n d e p=aa r):ba G 51 [aE ar d,aE ar e,V.fn c []] (aL r):=by
 refine bj aV func51 rfl λw X a=>ah a (aq (D a [aM ar d,aM ar e] (aA h (λx h=>?_) λx h=>?_)))
 ·cases h;exact ah a aC
 refine ay (aq (D a [aM ar d] (be (cr h (λy=>bR [(1,aE ar e),(2,V.fn c []),(15,aE ar d),(16,U (d.length:Int)),(17,U y)]) aO λi H h=>ah a (c6 h (λA h=>?_) λA h=>?_)))))
 ·refine ay (bC (al h λB l h=>D a [a' ar l,.z (.nat 20)] (al h λC m h=>D a [a' ar m,.z (.nat 21)] (al h λK o h=>D a [ao (k B C _ o)] (aA h (λF h=>?_) λF h=>ay (bf a (an h)))))));cases h;exact ah a aC
 cases h;exact br (ah a aC)
theorem Uj(G:cA)(n:Nat)(x:cg)(y:cg)(h:ze n x y=aa r):ba G 44 [V.agg [bA x.name,aE ai x.b1],V.agg [bA y.name,aE ai y.b1]] (aL r):=bj aV func44 rfl λw X c=>D c [.z (.b (ab)),.z (.b (ab))] (bo h (λe=>bR [(4,aL e)]) (λi h=>a1 h (λa h=>au c (aI 6 a) (an h)) λa h=>al h λk d h=>au c (aK 5 a++[ao (K' G n x.b1 y.b1 d),aJ a]) (an h)) λl h=>aw h▸aC)
theorem Vb(G:cA)(n:Nat)(d:List Stmt)(e:List Stmt)(c:FuncId)(p:Stmt->Stmt->Option Bool)(k: ∀(q:Stmt) (s:Stmt) r,p q s=aa r->ba G c [V.agg (fC q),V.agg (fC s)] (aL r))(h:Kx n d e p=aa r):ba G 48 [aE bs d,aE bs e,V.fn c []] (aL r):=by
 refine bj aV func48 rfl λw X a=>ah a (aq (D a [aM bs d,aM bs e] (aA h (λx h=>?_) λx h=>?_)))
 ·cases h;exact ah a aC
 refine ay (aq (D a [aM bs d] (be (cr h (λy=>bR [(1,aE bs e),(2,V.fn c []),(15,aE bs d),(16,U (d.length:Int)),(17,U y)]) aO λi H h=>ah a (c6 h (λA h=>?_) λA h=>?_)))))
 ·refine ay (bC (al h λB l h=>D a [a' bs l,.z (.nat 20)] (al h λC m h=>D a [a' bs m,.z (.nat 21)] (al h λK o h=>D a [ao (k B C _ o)] (aA h (λF h=>?_) λF h=>ay (bf a (an h)))))));cases h;exact ah a aC
 cases h;exact br (ah a aC)
theorem Eg{a}{b}{r}(h:zx n a b=aa r):ba G 133 [V.agg (gS a),V.agg (gS b)] (aL r):=bj aV func133 rfl λw X d=>D d [.z (.b (ab)),.z (.b (ab))] (bo h (λl=>bR [(4,aL l)]) (λm h=>a1 h (λc h=>au d (aI 6 c) (an h)) λc h=>al h λo e h=>au d (aK 5 c++[ao (DK G n a.bz b.bz 132 (λi k=>kQ n i k) (λi k r h=>tP G n i k h) e),aJ c]) (an h)) λp h=>aw h▸aC)
theorem Ve(G:cA)(n:Nat)(d:List Expr)(e:List Expr)(c:FuncId)(s:Expr->Expr->Option Bool)(k: ∀(x:Expr) (y:Expr) r,s x y=aa r->ba G c [V.agg (dj x),V.agg (dj y)] (aL r))(h:Kz n d e s=aa r):ba G 195 [aE b7 d,aE b7 e,V.fn c []] (aL r):=by
 refine bj aV func195 rfl λw X a=>ah a (aq (D a [aM b7 d,aM b7 e] (aA h (λA h=>?_) λA h=>?_)))
 ·cases h;exact ah a aC
 refine ay (aq (D a [aM b7 d] (be (cr h (λB=>bR [(1,aE b7 e),(2,V.fn c []),(15,aE b7 d),(16,U (d.length:Int)),(17,U B)]) aO λi H h=>ah a (c6 h (λC h=>?_) λC h=>?_)))))
 ·refine ay (bC (al h λl m h=>D a [.z (.row (dF l)),.z (.nat 20),aB (hK b7 m (gG l))] (al h λo p h=>D a [.z (.row (dF o)),.z (.nat 21),aB (hK b7 p (gG o))] (al h λK q h=>D a [ao (k l o _ q)] (aA h (λF h=>?_) λF h=>ay (bf a (an h)))))));cases h;exact ah a aC
 cases h;exact br (ah a aC)
theorem XL(G:cA): ∀(n:Nat) (a:Expr) (b:Expr) {r:Bool} (h:rR n a b=aa r),ba G 134 [V.agg (dj a),V.agg (dj b)] (aL r):=by
 intro n;induction n with
 |zero=>intro a b r h;rw[rR.eq_def] at h;cases h
 |succ n s=>
  intro a b r h;rw[rR.eq_def] at h;dsimp only at h;refine bj aV func134 rfl λw X e=>D e [.z (.b (ab)),.z (.b (ab))] (bo h (λx=>bR [(4,aL x)]) (λy h=>?_) λA h=>?_)
  ·refine a1 h (λi h=>au e (aI 6 i++eg 18) (an h)) λi h=>?_;refine a1 h (λc h=>au e (aK 6 i++aI 6 c++eg 12) (an h)) λc h=>?_;obtain⟨B,d,h⟩:=c5 h;refine a1 h (λk h=>au e (aK 6 i++aK 5 c++[ao (tP G n a.index b.index d),aJ c]++aI 6 k++eg 6) (an h)) λk h=>?_;obtain⟨C,l,h⟩:=c5 h;refine a1 h (λm h=>au e (aK 6 i++aK 5 c++[ao (tP G n a.index b.index d),aJ c]++aK 5 k++[ao (Eg G l),aJ k]++aI 6 m) (an h)) λm h=>?_;obtain⟨F,o,h⟩:=c5 h;exact au e (aK 6 i++aK 5 c++[ao (tP G n a.index b.index d),aJ c]++aK 5 k++[ao (Eg G l),aJ k]++aK 5 m++[ao (Ve G n a.bk b.bk 134 (λp q=>rR n p q) (λp q r h=>s p q h) o),aJ m]) (an h)
  obtain rfl:=aw h;exact aC
theorem XM(G:cA)(n:Nat)(a:Stmt)(b:Stmt)(h:Ac n a b=aa r):ba G 49 [V.agg (fC a),V.agg (fC b)] (aL r):=bj aV func49 rfl λw X e=>D e [.z (.b (ab)),.z (.b (ab))] (bo h (λk=>bR [(4,aL k)]) (λl h=>al h λm c h=>a1 h (λd h=>au e ([ao (Eg G c)]++aI 6 d) (an h)) λd h=>al h λo i h=>au e ([ao (Eg G c)]++aK 5 d++[ao (XL G n a.value b.value i),aJ d]) (an h)) λp h=>aw h▸aC)
theorem Vq(G:cA)(n:Nat)(x:Part)(y:Part)(h:zd n x y=aa r):ba G 46 [V.agg (mm x),V.agg (mm y)] (aL r):=bj aV func46 rfl λw X d=>D d [.z (.b (ab)),.z (.b (ab))] (bo h (λl=>bR [(4,aL l)]) (λm h=>al h λo a h=>a1 h (λc h=>au d ([ao (FL G a)]++aI 6 c) (an h)) λc h=>al h λp e h=>au d ([ao (FL G a)]++aK 5 c++[ao (Vb G n x.body y.body 49 (λi k=>Ac n i k) (λi k r h=>XM G n i k h) e),aJ c]) (an h)) λq h=>aw h▸aC)
theorem KM{a}{b}{r}(h:tT n a b=aa r):ba G 8 [V.agg (bX a),V.agg (bX b)] (aL r):=bj aV func8 rfl λw X e=>D e [.z (.b (ab)),.z (.b (ab))] (ah e (ah e (bo h (λm=>bR [(4,aL m)]) (λo h=>al h λp i h=>a1 h (λk h=>au e ([ao (Tz G n a.aQ b.aQ 44 (λc d=>ze n c d) (λc d r h=>Uj G n c d h) i)]++aI 7 k) (an h)) λk h=>al h λq l h=>au e ([ao (Tz G n a.aQ b.aQ 44 (λc d=>ze n c d) (λc d r h=>Uj G n c d h) i)]++aK 6 k++[ao (Vc G n a.parts b.parts 46 (λc d=>zd n c d) (λc d r h=>Vq G n c d h) l),aJ k]) (an h)) λs h=>aw h▸aC)))
theorem W7{p}{r}(h:EO n p=aa r):ba G 53 [V.agg (bX p)] (U r):=bj aV func53 rfl λw X a=>D a [.z (.b (ab))] (aq (al h λi c h=>D a [ao (jX G c)] (aA h (λe h=>aw h▸ah a aC) λe h=>ay (al h λk d h=>aw h▸D a [ao (y8 G d)] aC))))
theorem Vu(G:cA)(n:Nat)(a:Int)(h:zh n a=aa r):ba G 209 [U a] (aL r):=bj aV func209 rfl λw X d=>ah d (al h λe c h=>aw h▸D d [ao (gi G c)] aC)
theorem V0{p}{m}{r}(h:Eo n p m=aa r):ba G 144 [V.agg (bX p),aE ai m] (aL r):=bj aV func144 rfl λw X i=>D i [.z (.b (ab))] (bo h (λo=>bR [(4,aL o)]) (λq h=>al h λs c h=>a1 h (λa h=>au i ([ao (jX G c)]++aI 6 a++eg 4) (an h)) λa h=>al h λx e h=>a1 h (λd h=>au i ([ao (jX G c),aJ a,aJ a,aM ai m,aJ a,aJ a,ao (y8 G e),aJ a,aJ a]++aI 4 d) (an h)) λd h=>al h λy k h=>au i [ao (jX G c),aJ a,aJ a,aM ai m,aJ a,aJ a,ao (y8 G e),aJ a,aJ a,aJ d,aJ d,ao (vF G n m 209 (λl=>zh n l) (λl r h=>Vu G n l h) k),aJ d,aJ d] (an h)) λA h=>aw h▸aC)
theorem Uy{p}{r}(h:DO n p=aa r):cu G 145 [] [V.agg (bX p)] (ms 0 1 3 cj r) [aH 122 1 3 cj r]:=cC aV func145 rfl λw X d a i=>D a [.z (.b (ab))] (al h λk c h=>D a [aY [] [20] (Kd G c)] (aq (ah a (aA h (λe h=>aw h▸ah a (bP a [.grow 2 0 122] cG)) λe h=>aw h▸ay (ah a (eW a 2 20))))))
theorem AR{a}{r}(h:uN n a=aa r):ba G 265 [U a] (U r):=bj aV func265 rfl λw X c=>aw h▸ah c (D c [aB (show(1000:Int)≠0 by decide),aB (show(1000:Int)≠0 by decide)] aC)
theorem Vp(G:cA): ∀(n:Nat) (p:Prog) (m:List Int) (e:Expr) (a:List Int) {r:Int} (h:rQ n p m e a=aa r),ba G 211 [V.agg (bX p),aE ai m,V.agg (dj e),aE ai a] (U r):=by
 intro n;induction n with
 |zero=>intro p m e a r h;rw[rQ.eq_def] at h;cases h
 |succ n H=>
  intro p m e a r h;rw[rQ.eq_def] at h;dsimp only at h;refine bj aV func211 rfl λw X c=>D c [.z (.b (ab)),.z (.b (ab))] (aq (ah c (be (ah c (aA h (λK h=>?_) λK h=>?_)))))
  ·obtain rfl:=aw h;exact ah c aC
  refine ah c (aA h (λL h=>?_) λL h=>?_)
  ·obtain⟨g,k,j,l,h⟩:=gE h;obtain rfl:=aw h;exact D c [ao (v' G k),ao (AR G l)] aC
  refine ah c (aA h (λQ h=>?_) λQ h=>?_)
  ·obtain⟨t,o,u,q,h⟩:=gE h;obtain rfl:=aw h;exact D c [ao (tr G o),a' ai q] aC
  refine ay (aq ?_);obtain⟨s,x,v,y,A,B,h⟩:=lS h;obtain⟨E,C,h⟩:=c5 h;refine bu c bt [.z (.row (dF s)),aB (hK b7 x (gG s)),ao (H p m s a y),.z (.row (dF A)),aB (hK b7 B (gG A)),ao (H p m A a C)] (aq (ah c (be (ah c (aA h (λR h=>?_) λR h=>?_)))))
  ·obtain⟨I,F,h⟩:=c5 h;obtain rfl:=aw h;exact D c [ao (AR G F)] aC
  refine ah c (aA h (λW h=>?_) λW h=>?_)
  ·obtain⟨Z,d,h⟩:=c5 h;obtain rfl:=aw h;exact D c [ao (AR G d)] aC
  refine ay ?_;obtain⟨f,i,h⟩:=c5 h;obtain rfl:=aw h;exact D c [ao (AR G i)] aC
theorem Wd{p}{m}(c:Nat){x}{r}(h:t7 n p m x=aa r):cu G 146 [aH 3 c 1 ai m] [V.agg (bX p),ms 0 c 1 ai m,V.agg (kc x)] (V.bM []) [aH 3 c 1 ai r]:=cC aV func146 rfl λw X o d y=>D d [.z (.b (ab)),.z (.b (ab))] (al h λq e h=>D d [ao (Lm G e),.z (.nat 20)] (cx h λA i B k C a h=>al h λs l h=>aw h▸bu d bt [ao (tr G i),.z (.b (ab)),ao (Vp G n p m q.value x.bU k),aB (bI ai a),bn ai a,.z (.rows (s.map ai)),aB (str ai l)] qd))
theorem LD{p}{m}{r}(h:tW n p m=aa r):cu G 54 [] [V.agg (bX p),aE ai m] (V.bM [ms 0 1 1 ai r.1,aL r.2]) [aH 3 1 1 ai r.1]:=by refine cC aV func54 rfl λw X B a L=>D a [.z (.b (ab))] (aq (al h λQ k h=>D a [ao (V0 G k)] (aA h (λC h=>aw h▸ah a (bP a [.grow 4 0 3] cG)) λC h=>ay (al h λR l h=>D a [aY [] [20] (G.clone m l)] (aq (al h λe o h=>D a [aY [] [21] (Uy G o),aM cj e] (be (cH h (λq x=>a6 [(2,V.aS (fa p)),(6,ms 20 x 1 ai q.1),(16,ms 21 1 3 cj e),(17,U (e.length:Int)),(18,U q.2)] [(20,aH 3 x 1 ai q.1),(21,aH 122 1 3 cj e)] [20,21]) 1 (aO) ?_))))))));rintro i ⟨W,F⟩ y h;exact ah a (c6 h (λH h=>ay (bC (al h λZ c h=>D a [aB (bI cj c),bn cj c,.z (.nat 22)] (bH h λA s K d h=>au a [aY [20] [] (Wd G y s),.z (.len 6 (A.map ai).length),aB (jK ai d)] (bf a ⟨(A,wr (F+1)),y,h,aO⟩))))) λH h=>aw h▸br (ah a (eW a 4 20)))
theorem Zm{a}{b}{r}(h:xy n a b=aa r):ba G 55 [aE ai a,aE ai b] (aL r):=bj aV func55 rfl λw X c=>ah c (aq (D c [aM ai a,aM ai b] (aA h (λk h=>aw h▸ah c aC) λk h=>ay (aq (ah c (be (cr h (λl=>bR [(0,aE ai a),(1,aE ai b),(5,U l)]) aO λd p h=>aq (D c [aM ai a] (aA h (λm h=>ay (bC (aq (bH h λq e s i h=>bu c bt [a' ai e,a' ai i] (aA h (λo h=>aw h▸ah c aC) λo h=>ay (bf c (an h))))))) λm h=>aw h▸br (ah c aC))))))))))
theorem Yt{p}{q}{a}{r}(h:AW n p q a=aa r):ba G 10 [V.agg (bX p),V.agg (bX q),U a] (aL r):=by refine bj aV func10 rfl λw X c=>D c [.z (.b (ab)),.z (.b (ab))] (bH h λg y j e h=>D c [ao (W7 G y),.z (.nat 20),bZ (sU ai e),aB (py e).1] (aq (ah c (be (cH h (λi F=>a6 [(2,U a),(3,V.aS (fa p)),(4,V.aS (fa q)),(7,ms 20 F 1 ai i.1),(8,U i.2)] [(20,aH 3 F 1 ai i.1)] [20]) 1 (aO) ?_)))));rintro s ⟨H,K⟩ L h;exact aq (D c [aM ai H] (aA h (λQ h=>ay (bC (bH h λt k A l h=>au c [aB (show(1000:Int)≠0 by decide),aB (bI ai k),bn ai k,.z (.rows (A.map ai)),.z (.len 7 (A.map ai).length),aB (str ai l),aB (cQ ai l)] (bf c ⟨(A,wr (K+1)),L,h,aO⟩)))) λQ h=>br (al h λR B h=>D c [.z (.at 6),.z (.bh 20 [7,34] []),aY [] [21] (LD G B)] (al h λC m h=>D c [aY [] [22] (LD G m)] (bo h (λi=>a6 [(6,aL i)] [(21,aH 3 1 1 ai R.1),(22,aH 3 1 1 ai C.1)] [20,21,22]) (λW h=>a1 h (λd h=>au c ([aF d,aF d]++eg 4) (an h)) λd h=>a1 h (λx h=>au c ([aJ d,aJ d]++aI 4 x) (an h)) λx h=>al h λZ o h=>au c ([aJ d,aJ d]++aK 3 x++[.z (.b (ab)),ao (Zm G o),aJ x]) (an h)) λf h=>aw h▸aC)))))
theorem U'{a}{r}(h:DX n a=aa r):cu G 11 [] [aE dO a] (V.bM [V.agg (bX r.1),ms 0 1 4 gL r.2]) [aH 28 1 4 gL r.2]:=cC aV func11 rfl λw X l c m=>D c [.z (.nat 20)] (al h λo d h=>D c [aY [] [21] (Yn G d)] (al h λp e h=>D c [aY [21] [] (Y9 G e),.z (.nat 22)] (al h λq i h=>D c [aY [21] [23] (Yo G i)] (al h λs k h=>aw h▸D c [aY [21] [] (XE G k)] (eW c 3 23)))))
theorem W9{p}{a}{r}(h:ES n p a=aa r):ba G 12 [V.agg (bX p),aE gL a] (V.bM [V.agg (bX r.1),aL r.2]):=by refine bj aV func12 rfl λw X c=>D c [.z (.b (ab)),.z (.nat 20)] (aq (bo h (λe=>a6 [(1,aE gL a),(2,V.aS (fa p)),(4,V.ref 20 0),(18,aL e)] [(20,E.cells [aZ,aZ])] [20]) (λA h=>al h λB i h=>a1 h (λd h=>au c [ao (jX G i),aF d,aF d,aM gL a,aF d,aF d] (an h)) λd h=>au c ([ao (jX G i)]++aK 4 d) (an h)) λC h=>aA h (λq h=>aw h▸ah c aC) λq h=>ay (al h λF m h=>D c [aY [] [21,22] (Ec G m),.z (.nat 23)] (aq (D c [aM gL a] (be (bP c [.bh 21 [] [23]] (bP c [.bh 22 [] [23]] (cr h (λe=>a6 [(4,V.ref 20 0),(6,V.ref 23 0),(22,aE gL a),(23,U (a.length:Int)),(24,U e.2.2)] [(20,E.cells [aZ,aZ]),(23,E.cells [aE bw e.1,aE ar e.2.1])] [20,21,22,23]) aO ?_)))))))));rintro l ⟨H,K,L⟩ h;exact ah c (c6 h (λs h=>ay (bC (al h λQ o h=>D c [a' gL o,.z (.nat 24)] (al h λx k h=>D c [ao (WB G k),.z (.nat 25)] (aq (ah c (aA h (λy h=>aw h▸ah c aC) λy h=>ay (bf c (bf c (an h)))))))))) λs h=>aw h▸br (ah c aC))
theorem Wm{p}{a}{r}(h:EL n p a=aa r):ba G 13 [V.agg (bX p),aE gL a] (V.bM [V.agg (bX r.1),aL r.2]):=by refine bj aV func13 rfl λw X c=>D c [.z (.nat 20),.z (.nat 21)] (al h λs o h=>D c [ao (my G o)] (aq (bo h (λe=>a6 [(1,aE gL a),(2,V.ref 20 0),(4,V.ref 21 0),(19,aL e)] [(20,E.cells (bX s)),(21,E.cells [aZ,aZ])] [20,21]) (λF h=>al h λH i h=>a1 h (λd h=>au c [ao (fW G i),aF d,aF d,aM gL a,aF d,aF d] (an h)) λd h=>au c ([ao (fW G i)]++aK 4 d) (an h)) λK h=>aA h (λx h=>aw h▸ah c aC) λx h=>ay (al h λL q h=>D c [aY [] [22,23] (zU G q),.z (.nat 24)] (aq (ah c (be (bP c [.bh 22 [] [24]] (bP c [.dp 23,.bh 23 [] [24]] (cr h (λe=>a6 [(1,aE gL a),(4,V.ref 21 0),(6,V.ref 24 0),(7,U e.2.2)] [(20,E.cells (bX s)),(21,E.cells [aZ,aZ]),(24,E.cells [aE bw e.1,aE ar e.2.1])] [20,21,22,23,24]) aO ?_))))))))));rintro m ⟨Q,R,W⟩ h;exact aq (D c [aM gL a] (aA h (λy h=>ay (bC (aq (bH h λA k B l h=>bu c bt [a' gL k,ao (LX G l),.z (.nat 25)] (aq (ah c (aA h (λC h=>aw h▸ah c aC) λC h=>ay (bf c (bf c (an h)))))))))) λy h=>aw h▸br (ah c aC)))
theorem VL(G:cA)(n:Nat)(c:List UInt8)(a:List UInt8)(h:KP n c a=aa r):ba G 4 [aE dO c,aE dO a] (aL r):=bj aV func4 rfl λw X d=>ah d (aq (bo h (λk=>bR [(0,aE dO c),(1,aE dO a),(18,aL k)]) (λg h=>a1 h (λl h=>au d [aM dO c,aF l,aF l,aM dO a,aF l,aF l] (an h)) λl h=>au d ([aM dO c]++aK 4 l) (an h)) λj h=>aA h (λK h=>aw h▸ah d aC) λK h=>ay (al h λA B h=>D d [aY [] [20] (U' G B),.z (.nat 21)] (al h λs C h=>D d [.z (.at 7),.z (.bh 20 [6,26] []),ao (W9 G C),.z (.nat 22)] (al h λx F h=>D d [ao (Wm G F),.z (.nat 23)] (aq (bo h (λk=>a6 [(1,aE dO a),(5,V.ref 21 0),(7,V.ref 22 0),(8,aL s.2),(9,V.ref 23 0),(10,aL x.2),(48,aL k)] [(21,E.cells (bX A.1)),(22,E.cells (bX s.1)),(23,E.cells (bX x.1))] [20,21,22,23]) (λt h=>a1 h (λe h=>al h λu m h=>a1 h (λH h=>au d (aI 3 e++[ao (KM G m),aF e,aF e]++aI 3 H) (an h)) λH h=>au d (aI 3 e++[ao (KM G m),aF e,aF e]++aK 3 H) (an h)) λe h=>au d (aK 5 e++[ev,ev,ev]) (an h)) λv h=>aA h (λL h=>bo h (λk=>a6 [(4,aL k)] [(21,E.cells (bX A.1)),(22,E.cells (bX s.1)),(23,E.cells (bX x.1))] [20,21,22,23]) (λI h=>a1 h (λy h=>au d (aI 4 y) (an h)) λy h=>al h λQ o h=>au d (aK 3 y++[ao (KM G o),aJ y]) (an h)) λR h=>aw h▸aC) λL h=>ay (bo h (λk=>a6 [(4,aL k)] [(21,E.cells (bX A.1)),(22,E.cells (bX s.1)),(23,E.cells (bX x.1))] [20,21,22,23]) (λW h=>al h λZ i h=>a1 h (λp h=>au d ([ao (jX G i)]++aI 6 p) (an h)) λp h=>al h λb q h=>au d ([ao (jX G i)]++aK 4 p++[aM dO a,aJ p,ao (Yt G q),aJ p]) (an h)) λf h=>aw h▸aC))))))))
end Go.Lift
