/- The walks: the code computes what the plain functions say. -/
import Derived.Test.YtaedfpoebdhocaaGreatQModels
import Derived.Test.YtaedfpoebdhocaaGreatQWalks2
set_option maxRecDepth 10000
set_option linter.unusedVariables false
namespace Go.Lift
open Go Go.Proofs
variable (G:GS) {n:Nat}
theorem dL{p}{a}{point}{r}(h:cO n p a point=some r):PQ G 90 [V.agg (fB p),V.agg (dG a),vM rI point] (vI r):=by
 refine pq aN Tryz.func90 rfl fun w X hC=>aO hC [.z (.b (true)),.z (.b (true))] [3,4,6] [(3,V.tp (cA p)),(4,V.tp (cF a))] (aE hC [7] [(7,vI 0)] (qs (aO hC [oN aT p.arrays] (fr 14 4) [(15,vM aT p.arrays),(16,vI (p.arrays.length:Int)),(17,vI 0)] (qb (jC h (fun x_=>dI [(2,vM rI point),(4,V.tp (cF a)),(7,vI x_.1),(15,vM aT p.arrays),(16,vI (p.arrays.length:Int)),(17,vI x_.2)]) lS ?_)))));rintro again3 ⟨x1,x2⟩ h;refine aE hC [18] [(18,vK x2 p.arrays)] (E6 h (fun c1 h=>?_) fun c1 h=>?_)
 ·refine qk (eN ?_);obtain⟨x4,hx4,h⟩:=bd h;refine rq hC [oR aT hx4,.z (.nat 20)] [9,19,20] [(9,V.ref 20 0)] [(20,sc [vS x4.name,vM rI x4.dims])] [(20,true)] (qs (aE hC (fr 21 5) [(25,vB (!decide (x4.name=a.array)))] (aV h (fun c2 h=>?_) fun c2 h=>?_)))
  ·obtain⟨x5,hx5,h⟩:=bd h;exact aO hC [oV (yF G hx5)] [7,26,27,28,29] [(7,vI (wr (x1+x5)))] (d4 (bA hC [17,70] [(17,vI (wr (x2+1)))] (lE h)))
  refine qk (qs (aO hC [oN aD a.subs,oN rI x4.dims] (fr 30 7) [(36,vB (!decide ((a.subs.length:Int)=(x4.dims.length:Int))))] (aV h (fun c3 h=>?_) fun c3 h=>?_)))
  ·cases h;exact aE hC [6] [(6,vI (-1))] zr
  refine qk (aE hC [10] [(10,vI 0)] (qs (aO hC [oN aD a.subs] (fr 37 4) [(38,vM aD a.subs),(39,vI (a.subs.length:Int)),(40,vI 0)] (qb (jC h (fun x_=>gB [(2,vM rI point),(7,vI x1),(9,V.ref 20 0),(10,vI x_.1),(38,vM aD a.subs),(39,vI (a.subs.length:Int)),(40,vI x_.2)] [(20,E.cells [vS x4.name,vM rI x4.dims])] [20]) lS ?_)))));rintro again8 ⟨x6,x7⟩ h;refine aE hC [41] [(41,vK x7 a.subs)] (E6 h (fun c4 h=>?_) fun c4 h=>?_)
  ·refine qk (eN ?_);obtain⟨x9,hx9,h⟩:=bd h;refine rq hC [oR aD hx9,.z (.nat 21)] [11,12,42,43,44] [(11,vI x7),(12,V.ref 21 0)] [(21,some (E.cells (b9 x9)))] [(21,true)] ?_;obtain⟨x10,hx10,h⟩:=bd h;refine aO hC [oV (dU G hx10)] [13,45,46,47] [(13,vI x10)] (qs ?_);obtain⟨x11,hx11,x12,hx12,h⟩:=gT h;refine aO hC [oR rI hx11,oV (aZ G hx12)] (fr 48 9) [(56,vB (!x12))] (aV h (fun c5 h=>?_) fun c5 h=>qk (bI hC [oR rI hx11] [10,57,58,59,60,61,62,63,64,65] [(10,vI (wr ((wr (x6*x11))+x10)))] (bA hC [40,66] [(40,vI (wr (x7+1)))] (lE h))));cases h;exact aE hC [6] [(6,vI (-1))] zr
  cases h;exact d4 (aE hC [6,67,68,69] [(6,vI (wr (x1+x6)))] zr)
 cases h;exact d4 (aE hC [6] [(6,vI (-1))] zr)
theorem nJ(G:GS)(n:Nat)(a:Access)(c0__a1:Prog)(c1__a2:List Int){r:Bool}(h:cN n a c0__a1 c1__a2=some r):PQ G 146 [V.agg (dG a),V.tp (cA c0__a1),V.tp [T.sl (List.map rI c1__a2)]] (vB r):=by refine pq aN Tryz.func146 rfl fun w X hC=>aO hC [.z (.b (true))] [3,4] [(3,V.tp (cF a))] ?_;obtain⟨x1,hx1,h⟩:=bd h;cases h;exact aO hC [oV (dL G hx1)] (fr 4 6) [(4,vD (x1<0))] zr
theorem lN(G:GS)(n:Nat)(s:List Access)(fF:FuncId)(fC0:List T)(fC1:List T)(f:Access→Option Bool)(hf: ∀(q0:Access) r,f q0=some r→PQ G fF [V.agg (dG q0),V.tp fC0,V.tp fC1] (vB r)){r:Int}(h:fK n s f=some r):PQ G 170 [vM aL s,V.fn fF [V.tp fC0,V.tp fC1]] (vI r):=by
 refine pq aN Tryz.func170 rfl fun w X hC=>bB hC [4] (qs (aO hC [oN aL s] [6,7,8] [(7,vI (s.length:Int)),(8,vI 0)] (qb (jC h (fun x_=>dI [(0,vM aL s),(1,V.fn fF [V.tp fC0,V.tp fC1]),(7,vI (s.length:Int)),(8,vI x_)]) lS ?_))));rintro again2 x1 h;refine aE hC [9] [(9,vK x1 s)] (E6 h (fun c1 h=>?_) fun c1 h=>?_)
 ·refine qk (eN (aE hC [5,10] [(5,vI x1)] ?_));obtain⟨x3,hx3,x4,hx4,h⟩:=gT h;refine aO hC [oR aL hx3,oV (hf x3 _ hx4)] (fr 11 6) [(16,vB x4)] (aV h (fun c2 h=>?_) fun c2 h=>qk (bA hC [8,18] [(8,vI (wr (x1+1)))] (lE h)));obtain rfl:=so h;exact aE hC [4,17] [(4,vI x1)] zr
 obtain rfl:=so h;exact d4 (aE hC [4] [(4,vI (-1))] zr)
theorem jO(G:GS)(n:Nat)(s:List Access)(fF:FuncId)(fC0:List T)(fC1:List T)(f:Access→Option Bool)(hf: ∀(q0:Access) r,f q0=some r→PQ G fF [V.agg (dG q0),V.tp fC0,V.tp fC1] (vB r)){r:Bool}(h:cR n s f=some r):PQ G 144 [vM aL s,V.fn fF [V.tp fC0,V.tp fC1]] (vB r):=by refine pq aN Tryz.func144 rfl fun w X hC=>bB hC [4] ?_;obtain⟨x1,hx1,h⟩:=bd h;cases h;exact aO hC [oV (lN G n s fF fC0 fC1 f hf hx1)] (fr 4 5) [(4,vD ((0:Int)≤x1))] zr
theorem pH{p}{s}{point}{r}(h:eP n p s point=some r):PQ G 109 [V.agg (fB p),V.agg (iC s),vM rI point] (vB r):=by
 refine pq aN Tryz.func109 rfl fun w X hC=>aO hC [.z (.b (true)),.z (.b (true)),.z (.b (true))] (fr 3 4) [(3,V.tp (cA p)),(4,V.tp (mZ s)),(5,V.tp [T.sl (point.map rI)])] (vj h (fun x_=>dI [(6,vB x_)]) (fun j1 h=>?_) fun x5 h=>?_)
 ·obtain⟨x2,hx2,h⟩:=bd h;refine aX h (fun c1 h=>bI hC ([oV (dL G hx2)]++rF 7 c1) (fr 6 15) [(6,vB false)] (lE h)) fun c1 h=>?_;obtain⟨x3,hx3,x4,hx4,h⟩:=gT h;exact rk hC ([oV (dL G hx2)]++rT 3 c1++[oC [] [20] (C1 G n s.value hx3),oT c1,oT c1,.z (.b (true)),oV (jO G n x3 146 (cA p) [T.sl (point.map rI)] (fun q0=>cN n q0 p point) (fun q0 r h=>nJ G n q0 p point h) hx4),oT c1,oT c1]) (fr 6 15) [(6,vB (!x4))] [(20,some (ar 119 1 2 aL x3))] [(20,true)] (lE h)
 obtain rfl:=so h;exact zr
theorem mS(G:GS)(n:Nat)(s:List Stmt)(fF:FuncId)(fC0:List T)(f:Stmt→Option Bool)(hf: ∀(q0:Stmt) r,f q0=some r→PQ G fF [V.agg (iC q0),V.tp fC0] (vB r)){r:Int}(h:gL n s f=some r):PQ G 140 [vM aU s,V.fn fF [V.tp fC0]] (vI r):=by
 refine pq aN Tryz.func140 rfl fun w X hC=>bB hC [4] (qs (aO hC [oN aU s] [6,7,8] [(7,vI (s.length:Int)),(8,vI 0)] (qb (jC h (fun x_=>dI [(0,vM aU s),(1,V.fn fF [V.tp fC0]),(7,vI (s.length:Int)),(8,vI x_)]) lS ?_))));rintro again2 x1 h;refine aE hC [9] [(9,vK x1 s)] (E6 h (fun c1 h=>?_) fun c1 h=>?_)
 ·refine qk (eN (aE hC [5,10] [(5,vI x1)] ?_));obtain⟨x3,hx3,x4,hx4,h⟩:=gT h;refine aO hC [oR aU hx3,oV (hf x3 _ hx4)] (fr 11 6) [(16,vB x4)] (aV h (fun c2 h=>?_) fun c2 h=>qk (bA hC [8,18] [(8,vI (wr (x1+1)))] (lE h)));obtain rfl:=so h;exact aE hC [4,17] [(4,vI x1)] zr
 obtain rfl:=so h;exact d4 (aE hC [4] [(4,vI (-1))] zr)
theorem kU(G:GS)(n:Nat)(s:List Stmt)(fF:FuncId)(fC0:List T)(f:Stmt→Option Bool)(hf: ∀(q0:Stmt) r,f q0=some r→PQ G fF [V.agg (iC q0),V.tp fC0] (vB r)){r:Bool}(h:dF n s f=some r):PQ G 105 [vM aU s,V.fn fF [V.tp fC0]] (vB r):=by refine pq aN Tryz.func105 rfl fun w X hC=>bB hC [4] ?_;obtain⟨x1,hx1,h⟩:=bd h;cases h;exact aO hC [oV (mS G n s fF fC0 f hf hx1)] (fr 4 5) [(4,vD ((0:Int)≤x1))] zr
theorem gD{p}{r}(h:bU n p=some r):VQ G 69 [] [V.agg (fB p)] (V.tup [ms 0 1 3 aQ r.1,vB r.2]) [ar 53 1 3 aQ r.1]:=by
 refine vq aN Tryz.func69 rfl fun w X β0 hC hg=>aO hC [.z (.b (true))] [1,2,3] [(1,V.tp (cA p))] (qs (vj h (fun x_=>dI [(1,V.tp (cA p)),(22,vB x_)]) (fun j1 h=>?_) fun x3 h=>?_))
 ·obtain⟨x2,hx2,h⟩:=bd h;exact aX h (fun c1 h=>bI hC ([oV (rU G hx2)]++rF 3 c1++[oN aR p.parts,oF c1,oF c1]) (fr 13 10) [(22,vD ((4:Int)<(p.parts.length:Int)))] (lE h)) fun c1 h=>bI hC ([oV (rU G hx2)]++rT 5 c1) (fr 13 10) [(22,vB true)] (lE h)
 refine aV h (fun c2 h=>?_) fun c2 h=>?_
 ·cases h;exact aE hC [2,3] [(2,d5),(3,vB false)] (qw (lk hC [.grow 2 0 53] [2] [(2,ms 0 1 3 aQ [])] [(0,some (ar 53 1 3 aQ []))] [(0,true)]) zw)
 refine qk (aE hC [4] [(4,d5)] (qs (aO hC [oN aR p.parts] (fr 23 4) [(24,vM aR p.parts),(25,vI (p.parts.length:Int)),(26,vI 0)] (qb (qw (lk hC [.grow 4 20 53] [4] [(4,ms 20 1 3 aQ [])] [(20,some (ar 53 1 3 aQ []))] [(20,true)]) ?_)))));refine uU h (fun x_ g_=>gB [(1,V.tp (cA p)),(4,ms 20 g_ 3 aQ x_.1),(24,vM aR p.parts),(25,vI (p.parts.length:Int)),(26,vI x_.2)] [(20,ar 53 g_ 3 aQ x_.1)] [20]) 1 (lS) ?_;rintro again7 ⟨x4,x5⟩ g6 h;refine aE hC [27] [(27,vK x5 p.parts)] (E6 h (fun c3 h=>?_) fun c3 h=>?_)
 ·refine qk (eN ?_);obtain⟨x8,hx8,h⟩:=bd h;refine rq hC [oR aR hx8,.z (.nat 21),.z (.at 0),.z (.fp 21 [6])] [5,6,28,29,30] [(5,vI x5),(6,V.tp (jE x8))] [(21,none)] [(21,true)] ?_;obtain⟨x9,hx9,h⟩:=bd h;refine rq hC [oC [] [22] (yE G hx9)] [7,8,31,32,33,34,35,36] [(7,ms 22 1 1 (rL rI) x9.1),(8,vB x9.2)] [(22,some (ar 40 1 1 (rL rI) x9.1))] [(22,true)] (qs (vj h (fun x_=>gB [(1,V.tp (cA p)),(4,ms 20 g6 3 aQ x4),(5,vI x5),(6,V.tp (jE x8)),(7,ms 22 1 1 (rL rI) x9.1),(24,vM aR p.parts),(25,vI (p.parts.length:Int)),(26,vI x5),(51,vB x_)] [(20,ar 53 g6 3 aQ x4),(22,ar 40 1 1 (rL rI) x9.1)] [20,21,22]) (fun j10 h=>?_) fun x13 h=>?_))
  ·refine aX h (fun c4 h=>?_) fun c4 h=>bI hC (rT 6 c4++sT 5) (fr 37 15) [(51,vB true)] (lE h);obtain⟨x11,hx11,h⟩:=bd h;refine aX h (fun c5 h=>?_) fun c5 h=>bI hC (rF 3 c4++[oN aU x8.body,oF c4,oV (aZ G hx11),oF c4,oF c4]++rT 5 c5) (fr 37 15) [(51,vB true)] (lE h);obtain⟨x12,hx12,h⟩:=bd h;exact bI hC (rF 3 c4++[oN aU x8.body,oF c4,oV (aZ G hx11),oF c4,oF c4]++rF 4 c5++[oV (kU G n x8.body 106 (jE x8) (fun q0=>bZ n q0 x8) (fun q0 r h=>lO G n q0 x8 h) hx12),oF c5]) (fr 37 15) [(51,vB x12)] (lE h)
  refine aV h (fun c6 h=>?_) fun c6 h=>?_
  ·cases h;exact aE hC [2,3] [(2,d5),(3,vB false)] (qw (lk hC [.grow 2 0 53] [2] [(2,ms 0 1 3 aQ [])] [(0,some (ar 53 1 3 aQ []))] [(0,true)]) zw)
  refine qk (aO hC [oN (rL rI) x9.1] [52,53,54] [(52,ms 22 1 1 (rL rI) x9.1),(53,vI (x9.1.length:Int)),(54,vI 0)] (qb (uU h (fun x_ g_=>gB [(1,V.tp (cA p)),(4,ms 20 g_ 3 aQ x_.1),(5,vI x5),(6,V.tp (jE x8)),(24,vM aR p.parts),(25,vI (p.parts.length:Int)),(26,vI x5),(52,ms 22 1 1 (rL rI) x9.1),(53,vI (x9.1.length:Int)),(54,vI x_.2)] [(20,ar 53 g_ 3 aQ x_.1),(22,ar 40 1 1 (rL rI) x9.1)] [20,21,22]) g6 (lS) ?_)));rintro again17 ⟨x14,x15⟩ g16 h;refine aE hC [55] [(55,vK x15 x9.1)] (E6 h (fun c7 h=>?_) fun c7 h=>d4 (bA hC [26,84] [(26,vI (wr (x5+1)))] ⟨(x14,wr (x5+1)),g16,h,lS⟩));refine qk (eN ?_);obtain⟨x18,hx18,h⟩:=bd h;refine aO hC [oQ (yM (rL rI) hx18),oX (rL rI) hx18] [10,56,57] [(10,vM rI x18)] (qs ?_);obtain⟨x19,hx19,h⟩:=bd h;refine aO hC [oV (R5 G hx19)] [58,59,60] [(60,vB (!x19))] (aV h (fun c8 h=>?_) fun c8 h=>?_)
  ·cases h;exact aE hC [2,3] [(2,d5),(3,vB false)] (qw (lk hC [.grow 2 0 53] [2] [(2,ms 0 1 3 aQ [])] [(0,some (ar 53 1 3 aQ []))] [(0,true)]) zw)
  refine qk (aO hC [oN aU x8.body] (fr 61 4) [(62,vM aU x8.body),(63,vI (x8.body.length:Int)),(64,vI 0)] (qb (uU h (fun x_ g_=>gB [(1,V.tp (cA p)),(4,ms 20 g_ 3 aQ x_.1),(5,vI x5),(6,V.tp (jE x8)),(10,vM rI x18),(24,vM aR p.parts),(25,vI (p.parts.length:Int)),(26,vI x5),(52,ms 22 1 1 (rL rI) x9.1),(53,vI (x9.1.length:Int)),(54,vI x15),(62,vM aU x8.body),(63,vI (x8.body.length:Int)),(64,vI x_.2)] [(20,ar 53 g_ 3 aQ x_.1),(22,ar 40 1 1 (rL rI) x9.1)] [20,21,22]) g16 (lS) ?_)));rintro again23 ⟨x20,x21⟩ g22 h;refine aE hC [65] [(65,vK x21 x8.body)] (E6 h (fun c9 h=>?_) fun c9 h=>d4 (bA hC [54,83] [(54,vI (wr (x15+1)))] ⟨(x20,wr (x15+1)),g22,h,lS⟩));refine qk (eN ?_);obtain⟨x24,hx24,h⟩:=bd h;refine rq hC [oR aU hx24,.z (.nat 23)] [11,12,66,67,68] [(11,vI x21),(12,V.ref 23 0)] [(23,some (E.cells (iC x24)))] [(23,true)] (qs ?_);obtain⟨x25,hx25,h⟩:=bd h;refine aO hC [oV (pH G hx25)] (fr 69 5) [(73,vB (!x25))] (aV h (fun c10 h=>?_) fun c10 h=>?_)
  ·cases h;exact aE hC [2,3] [(2,d5),(3,vB false)] (qw (lk hC [.grow 2 0 53] [2] [(2,ms 0 1 3 aQ [])] [(0,some (ar 53 1 3 aQ []))] [(0,true)]) zw)
  refine qk ?_;obtain⟨x26,hx26,x27,hx27,h⟩:=gT h;exact rk hC [oC [] [24] (G.clone x18 hx26),.z (.at 4),.z (.fz 24 [78] []),.z (.int 0),oA (bH aQ hx27),oM 3 nX x20,oM 3 nX [(⟨x5,x21,x26⟩:Inst)]] [4,74,75,76,77,78,79,80,81] [(4,ms 20 (g22+1) 3 aQ x27)] [(24,none),(20,some (ar 53 (g22+1) 3 aQ x27))] [(24,true)] (bA hC [64,82] [(64,vI (wr (x21+1)))] ⟨(x27,wr (x21+1)),(g22+1),h,lS⟩)
 cases h;exact d4 (aO hC [oN aQ x4] [2,3,85,86,87,88] [(2,ms 20 g6 3 aQ x4),(3,vD ((x4.length:Int)≤120))] (xR hC 2 20 (ms 0 1 3 aQ x4) (ar 53 1 3 aQ x4)))
theorem tZ{p}{r}(h:gA n p=some r):PQ G 40 [V.agg (fB p)] (vB r):=by refine pq aN Tryz.func40 rfl fun w X hC=>aO hC [.z (.b (true))] [1,2] [(1,V.tp (cA p))] ?_;obtain⟨x1,hx1,h⟩:=bd h;cases h;exact rq hC [oC [] [20] (gD G hx1)] (fr 3 7) [(4,vB x1.2)] [(20,some (ar 53 1 3 aQ x1.1))] [(20,true)] (aE hC [2,10] [(2,vB x1.2)] zr)
theorem tY{p}{x}{r}(h:f9 n p x=some r):PQ G 88 [V.agg (fB p),V.agg (aDV x)] (V.agg (iC r)):=by refine pq aN Tryz.func88 rfl fun w X hC=>rq hC [.z (.b (true)),.z (.b (true)),.z (.nat 20)] [2,3,4] [(2,V.tp (cA p)),(3,V.tp (aCF x)),(4,V.ref 20 0)] [(20,sc [vS [],d5,vI 0,vI 0,d5,vI 0,vS [],d5,d5])] [(20,true)] (qs ?_);obtain⟨x1,hx1,x2,hx2,h⟩:=gT h;obtain rfl:=so h;exact dkt hC cU [oR aR hx1,oR aU hx2] (fr 5 11) [(20,some (E.cells (iC x2)))] [] zr
theorem oD{p}{x}{r}(h:d6 n p x=some r):VQ G 111 [] [V.agg (fB p),V.agg (aDV x)] (V.tup [ms 0 1 1 rI r.1,vI r.2]) [ar 3 1 1 rI r.1]:=by
 refine vq aN Tryz.func111 rfl fun w X β0 hC hg=>aO hC [.z (.b (true)),.z (.b (true))] (fr 2 4) [(2,V.tp (cA p)),(3,V.tp (aCF x))] ?_;obtain⟨x1,hx1,h⟩:=bd h;refine rq hC [oV (tY G hx1),.z (.nat 20)] [6,10,11,12] [(6,V.ref 20 0)] [(20,some (E.cells (iC x1)))] [(20,true)] (aE hC [7] [(7,d5)] (qs ?_));obtain⟨x2,hx2,h⟩:=bd h;refine rq hC [oC [] [21] (C1 G n x1.value hx2),oN aL x2] (fr 13 5) [(15,ms 21 1 2 aL x2),(16,vI (x2.length:Int)),(17,vI 0)] [(21,some (ar 119 1 2 aL x2))] [(21,true)] (qb (qw (lk hC [.grow 7 22 3] [7] [(7,ms 22 1 1 rI [])] [(22,some (ar 3 1 1 rI []))] [(22,true)]) (uU h (fun x_ g_=>gB [(2,V.tp (cA p)),(3,V.tp (aCF x)),(6,V.ref 20 0),(7,ms 22 g_ 1 rI x_.1),(15,ms 21 1 2 aL x2),(16,vI (x2.length:Int)),(17,vI x_.2)] [(20,E.cells (iC x1)),(21,ar 119 1 2 aL x2),(22,ar 3 g_ 1 rI x_.1)] [20,21,22]) 1 (lS) ?_)));rintro again6 ⟨x3,x4⟩ g5 h;refine aE hC [18] [(18,vK x4 x2)] (E6 h (fun c1 h=>?_) fun c1 h=>?_)
 ·refine qk (eN ?_);obtain⟨x7,hx7,h⟩:=bd h;refine rq hC [oQ (yM aL hx7),oX aL hx7,.z (.nat 23)] [9,19,20] [(9,V.ref 23 0)] [(23,some (E.cells (dG x7)))] [(23,true)] ?_;obtain⟨x8,hx8,x9,hx9,h⟩:=gT h;exact rk hC [oV (dL G hx8),.z (.int 0),oA (bH rI hx9),oI x3,oI [x8]] [7,21,22,23,24,25,26,27,28] [(7,ms 22 (g5+1) 1 rI x9)] [(22,some (ar 3 (g5+1) 1 rI x9))] [] (bA hC [17,29] [(17,vI (wr (x4+1)))] ⟨(x9,wr (x4+1)),(g5+1),h,lS⟩)
 refine d4 ?_;obtain⟨x10,hx10,h⟩:=bd h;cases h;exact aO hC [oV (dL G hx10)] [4,5,30,31,32,33,34,35,36] [(4,ms 22 g5 1 rI x3),(5,vI x10)] (xR hC 4 22 (ms 0 1 1 rI x3) (ar 3 1 1 rI x3))
theorem B9{p}{r}(h:q6 n p=some r):PQ G 73 [V.agg (fB p)] (V.tup [vP aE4 r.1,vB r.2]):=by
 unfold q6 at h;refine pmr aN Tryz.func73 rfl rfl rfl rfl rfl (aHT _ _ _) rfl ?_;intro w X hC;refine aO hC [.z (.b (true))] [1,2,3] [(1,V.tp (cA p))] ?_;obtain⟨x1,hx1,h⟩:=bd h;refine rq hC [oC [] [20] (gD G hx1)] [4,5,11,12,13,14,15] [(4,ms 20 1 3 aQ x1.1),(5,vB x1.2)] [(20,some (ar 53 1 3 aQ x1.1))] [(20,true)] (qs (aE hC [16,17] [(17,vB (!x1.2))] (aV h (fun c1 h=>?_) fun c1 h=>?_)))
 ·cases h;exact aE hC [2,3] [(2,V.t T.nilP),(3,vB false)] zr
 refine qk (rq hC [.z (.nat 21)] [6,18,19,20,21] [(6,V.ref 21 0)] [(21,sc [vM aT p.arrays,vM aR p.parts,ms 20 1 3 aQ x1.1,d5,d5])] [(21,true)] (qs (aO hC [oN aQ x1.1] [22,23,24] [(22,ms 20 1 3 aQ x1.1),(23,vI (x1.1.length:Int)),(24,vI 0)] (qb (qw (lk hC [.growc 21 3 22 40] [] [] [(22,some (ar 40 1 1 (rL rI) [])),(21,sc [vM aT p.arrays,vM aR p.parts,ms 20 1 3 aQ x1.1,ms 22 1 1 (rL rI) [],d5])] [(22,true)]) ?_)))));refine qw (lk hC [.growc 21 4 23 3] [] [] [(23,some (ar 3 1 1 rI [])),(21,sc [vM aT p.arrays,vM aR p.parts,ms 20 1 3 aQ x1.1,ms 22 1 1 (rL rI) [],ms 23 1 1 rI []])] [(23,true)]) (U6 (γ:=Nat×Nat) h (fun x_ g_=>gB [(1,V.tp (cA p)),(6,V.ref 21 0),(22,ms 20 1 3 aQ x1.1),(23,vI (x1.1.length:Int)),(24,vI x_.2.2)] [(20,ar 53 1 3 aQ x1.1),(21,E.cells [vM aT p.arrays,vM aR p.parts,ms 20 1 3 aQ x1.1,ms 22 g_.1 1 (rL rI) x_.1,ms 23 g_.2 1 rI x_.2.1]),(22,ar 40 g_.1 1 (rL rI) x_.1),(23,ar 3 g_.2 1 rI x_.2.1)] [20,21,22,23]) (1,1) (lS) ?_);rintro again7 ⟨x2,x3,x4⟩ ⟨g5,g6⟩ h;refine aE hC [25] [(25,vK x4 x1.1)] (E6 h (fun c2 h=>?_) fun c2 h=>?_)
 ·refine qk (eN ?_);obtain⟨x8,hx8,h⟩:=bd h;refine rq hC [oQ (yM aQ hx8),oX aQ hx8,.z (.nat 24)] [8,26,27] [(8,V.ref 24 0)] [(24,some (E.cells (aDV x8)))] [(24,true)] ?_;obtain⟨x9,hx9,h⟩:=bd h;refine rq hC [oC [] [25] (oD G hx9)] [9,10,28,29,30,31,32,33] [(9,ms 25 1 1 rI x9.1),(10,vI x9.2)] [(25,some (ar 3 1 1 rI x9.1))] [(25,true)] ?_;obtain⟨x10,hx10,x11,hx11,h⟩:=gT h;exact dkt hC cU [.z (.at 15),.z (.fz 25 [9,40] []),.z (.int 0),oA (bH (rL rI) hx10),.z (.int 0),oQ (rwM (r:=(rL rI)) 1 (fun _=>rfl) x2),oQ (rwM (r:=(rL rI)) 1 (fun _=>rfl) [x9.1]),oA (bH rI hx11),oI x3,oI [x9.2]] [9,34,35,36,37,38,39,40,41,42,43,44,45,46,47,48,49,50,51,52,53] [(25,none),(22,some (ar 40 (g5+1) 1 (rL rI) x10)),(23,some (ar 3 (g6+1) 1 rI x11)),(21,sc [vM aT p.arrays,vM aR p.parts,ms 20 1 3 aQ x1.1,ms 22 (g5+1) 1 (rL rI) x10,ms 23 (g6+1) 1 rI x11])] [] (bA hC [24,54] [(24,vI (wr (x4+1)))] ⟨(x10,x11,wr (x4+1)),((g5+1),(g6+1)),h,lS⟩)
 cases h;exact d4 (aE hC [2,3,55] [(2,V.ref 21 0),(3,vB true)] (qw (lk hC [.fz 20 [22] [21],.fz 22 [] [21],.fz 23 [] [21],.fp 21 [2,6]] [2,6,22] [(2,V.tp [T.sl (p.arrays.map aT),T.sl (p.parts.map aR),T.sl (x1.1.map aQ),T.sl (List.map (rL rI) x2),T.sl (x3.map rI)]),(6,V.tp [T.sl (p.arrays.map aT),T.sl (p.parts.map aR),T.sl (x1.1.map aQ),T.sl (List.map (rL rI) x2),T.sl (x3.map rI)]),(22,vM aQ x1.1)] [(21,none),(20,none),(22,none),(23,none)] []) zr))
theorem J0{s}{r}(h:l6 n s=some r):PQ G 74 [vM rI s] (vM rI r):=by refine pq aN Tryz.func74 rfl fun w X hC=>bB hC [2] ?_;obtain⟨x1,hx1,h⟩:=bd h;obtain rfl:=so h;exact aO hC [oN rI s,oN rI s,.z (.rows (x1.map rI)),oQ (And.intro (D9 rI hx1) (Eq.refl ((s.length:Int):Int))),oI s] (fr 2 7) [(2,vM rI x1)] zr
theorem t1{p}{r}(h:eE n p=some r):PQ G 42 [V.agg (fB p)] (vM rI r):=by
 refine pq aN Tryz.func42 rfl fun w X hC=>aO hC [.z (.b (true))] [1,2] [(1,V.tp (cA p))] (qs ?_);obtain⟨x1,hx1,h⟩:=bd h;refine aX h (fun c1 h=>?_) fun c1 h=>?_
 ·refine bI hC [.z (.v (V.tup [V.t T.nilP,vB x1.2])),oQ (vPn c1 (B9 G hx1))] [3,4,7,8,9,10,11] [(3,V.t T.nilP),(4,vB x1.2)] (qs (aE hC [12,13] [(13,vB (!x1.2))] (aV h (fun c2 h=>?_) fun c2 h=>qk (aE hC [5] [(5,d5)] (qs (qs (nof h)))))));obtain rfl:=so h;exact aE hC [2] [(2,d5)] zr
 refine bI hC [.z (.v (V.tup [V.tp [T.sl (List.map aT (((x1.1.getD default).program).arrays)),T.sl (List.map aR (((x1.1.getD default).program).parts)),T.sl (List.map aQ ((x1.1.getD default).list)),T.sl (List.map (rL rI) ((x1.1.getD default).reads)),T.sl (List.map rI ((x1.1.getD default).writes))],vB x1.2])),oQ (vPs c1 (B9 G hx1))] [3,4,7,8,9,10,11] [(3,V.tp [T.sl (List.map aT (((x1.1.getD default).program).arrays)),T.sl (List.map aR (((x1.1.getD default).program).parts)),T.sl (List.map aQ ((x1.1.getD default).list)),T.sl (List.map (rL rI) ((x1.1.getD default).reads)),T.sl (List.map rI ((x1.1.getD default).writes))]),(4,vB x1.2)] (qs (aE hC [12,13] [(13,vB (!x1.2))] (aV h (fun c3 h=>?_) fun c3 h=>?_)))
 ·obtain rfl:=so h;exact aE hC [2] [(2,d5)] zr
 refine qk (aE hC [5] [(5,d5)] (qs (aO hC [oN aQ ((x1.1.getD default).list)] (fr 14 6) [(18,vI (((x1.1.getD default).list).length:Int)),(19,vI 0)] (qb (qw (lk hC [.grow 5 20 3] [5] [(5,ms 20 1 1 rI [])] [(20,some (ar 3 1 1 rI []))] [(20,true)]) ?_)))));refine uU h (fun x_ g_=>gB [(3,V.tp [T.sl (List.map aT (((x1.1.getD default).program).arrays)),T.sl (List.map aR (((x1.1.getD default).program).parts)),T.sl (List.map aQ ((x1.1.getD default).list)),T.sl (List.map (rL rI) ((x1.1.getD default).reads)),T.sl (List.map rI ((x1.1.getD default).writes))]),(5,ms 20 g_ 1 rI x_.1),(18,vI (((x1.1.getD default).list).length:Int)),(19,vI x_.2)] [(20,ar 3 g_ 1 rI x_.1)] [20]) 1 (lS) ?_;rintro again5 ⟨x2,x3⟩ g4 h;refine aE hC [20] [(20,vD (x3<(((x1.1.getD default).list).length:Int)))] (E6 h (fun c4 h=>?_) fun c4 h=>?_)
 ·refine qk (eN (aE hC [6,21] [(6,vI x3)] ?_));obtain⟨x6,hx6,x7,hx7,x8,hx8,h⟩:=yO h;obtain⟨x9,hx9,h⟩:=bd h;exact dk hC cU [oR (rL rI) hx6,oA (bH rI hx7),oI x2,oI x6,oR rI hx8,.z (.int 0),oA (bH rI hx9),oI x7,oI [x8]] [5,22,23,24,25,26,27,28,29,30,31,32,33,34,35,36,37,38,39] [(5,ms 20 (g4+2) 1 rI x9)] [(20,some (ar 3 (g4+2) 1 rI x9))] [] (bA hC [19,40] [(19,vI (wr (x3+1)))] ⟨(x9,wr (x3+1)),(g4+2),h,lS⟩)
 refine d4 ?_;obtain⟨x10,hx10,x11,hx11,h⟩:=gT h;obtain rfl:=so h;exact rq hC [oN rI x2,.z (.at 3),.z (.fz 20 [5,41,42] []),oA (D9 rI hx10),oI x2,oV (J0 G hx11)] [2,5,41,42,43,44,45,46] [(2,vM rI x11)] [(20,none)] [] zr
theorem rV{p}{size}{r}(h:fH n p size=some r):PQ G 11 [V.agg (fB p),vI size] (vI r):=by
 refine pq aN Tryz.func11 rfl fun w X hC=>aO hC [.z (.b (true))] [2,4] [(2,V.tp (cA p))] (qs ?_);obtain⟨x1,hx1,h⟩:=bd h;refine aO hC [oV (tZ G hx1)] [5,6,7] [(7,vB (!x1))] (aV h (fun c1 h=>?_) fun c1 h=>?_)
 ·obtain rfl:=so h;exact aE hC [4] [(4,vI (-1))] zr
 refine qk ?_;obtain⟨x2,hx2,x3,hx3,h⟩:=gT h;obtain rfl:=so h;exact aO hC [oV (t1 G hx2),oV (G.lru x2 size x3 hx3)] [4,8,9,10,11] [(4,vI x3)] zr
theorem xY{a}{b}{r}(h:mW n a b=some r):PQ G 22 [vM rI a,vM rI b] (vB r):=by
 refine pq aN Tryz.func22 rfl fun w X hC=>bB hC [4] (qs (aO hC [oN rI a,oN rI b] (fr 6 5) [(10,vB (!decide ((a.length:Int)=(b.length:Int))))] (aV h (fun c1 h=>?_) fun c1 h=>?_)))
 ·cases h;exact aE hC [4] [(4,vB false)] zr
 refine qk (qs (aE hC [5] [(5,vI 0)] (qb (jC h (fun x_=>dI [(0,vM rI a),(1,vM rI b),(5,vI x_)]) lS ?_))));rintro again2 x1 h;refine qs (aO hC [oN rI a] (fr 11 4) [(14,vK x1 a)] (aV h (fun c2 h=>?_) fun c2 h=>?_))
 ·refine qk (eN (qs ?_));obtain⟨x3,hx3,x4,hx4,h⟩:=gT h;refine mT hC cU [oR rI hx3,oR rI hx4] (fr 17 9) [(25,vB (!decide (x3=x4)))] (aV h (fun c3 h=>?_) fun c3 h=>qk (bA hC [5,15,16] [(5,vI (wr (x1+1)))] (lE h)));cases h;exact aE hC [4] [(4,vB false)] zr
 cases h;exact d4 (aE hC [4] [(4,vB true)] zr)
theorem Q8{a}{b}{r}(h:nP n a b=some r):PQ G 75 [V.agg [vS a.name,vM rI a.dims],V.agg [vS b.name,vM rI b.dims]] (vB r):=by
 refine pq aN Tryz.func75 rfl fun w X hC=>aO hC [.z (.b (true)),.z (.b (true))] [2,3,4] [(2,V.tp [T.str a.name,T.sl (List.map rI a.dims)]),(3,V.tp [T.str b.name,T.sl (List.map rI b.dims)])] (qs (aE hC (fr 5 5) [(9,vB (!decide (a.name=b.name)))] (aV h (fun c1 h=>?_) fun c1 h=>?_)))
 ·cases h;exact aE hC [4] [(4,vB false)] zr
 refine qk (qs ?_);obtain⟨x1,hx1,h⟩:=bd h;refine aO hC [oV (xY G hx1)] (fr 10 6) [(15,vB (!x1))] (aV h (fun c2 h=>?_) fun c2 h=>?_)
 ·cases h;exact aE hC [4] [(4,vB false)] zr
 cases h;exact qk (aE hC [4] [(4,vB true)] zr)
theorem I9{a}{b}{r}(h:oW n a b=some r):PQ G 43 [vM aT a,vM aT b] (vB r):=by
 refine pq aN Tryz.func43 rfl fun w X hC=>bB hC [4] (qs (aO hC [oN aT a,oN aT b] (fr 6 5) [(10,vB (!decide ((a.length:Int)=(b.length:Int))))] (aV h (fun c1 h=>?_) fun c1 h=>?_)))
 ·cases h;exact aE hC [4] [(4,vB false)] zr
 refine qk (qs (aE hC [5] [(5,vI 0)] (qb (jC h (fun x_=>dI [(0,vM aT a),(1,vM aT b),(5,vI x_)]) lS ?_))));rintro again2 x1 h;refine qs (aO hC [oN aT a] (fr 11 4) [(14,vK x1 a)] (aV h (fun c2 h=>?_) fun c2 h=>?_))
 ·refine qk (eN (qs ?_));obtain⟨x3,hx3,x4,hx4,x5,hx5,h⟩:=yO h;refine mT hC cU [oR aT hx3,oR aT hx4,oV (Q8 G hx5)] (fr 17 10) [(26,vB (!x5))] (aV h (fun c3 h=>?_) fun c3 h=>qk (bA hC [5,15,16] [(5,vI (wr (x1+1)))] (lE h)));cases h;exact aE hC [4] [(4,vB false)] zr
 cases h;exact d4 (aE hC [4] [(4,vB true)] zr)
theorem rN{a}{b}{r}(h:jA n a b=some r):PQ G 186 [V.agg (b9 a),V.agg (b9 b)] (vB r):=by
 refine pq aN Tryz.func186 rfl fun w X hC=>aO hC [.z (.b (true)),.z (.b (true))] [2,3,4] [(2,V.tp (bR a)),(3,V.tp (bR b))] (qs ?_);obtain⟨x1,hx1,h⟩:=bd h;refine aO hC [oV (xY G hx1)] (fr 5 6) [(10,vB (!x1))] (aV h (fun c1 h=>?_) fun c1 h=>?_)
 ·cases h;exact aE hC [4] [(4,vB false)] zr
 refine qk (qs (aE hC (fr 11 5) [(15,vB (!decide (a.const=b.const)))] (aV h (fun c2 h=>?_) fun c2 h=>?_)))
 ·cases h;exact aE hC [4] [(4,vB false)] zr
 cases h;exact qk (aE hC [4] [(4,vB true)] zr)
theorem kS{a}{b}{r}(h:gZ n a b=some r):PQ G 171 [vM aD a,vM aD b] (vB r):=by
 refine pq aN Tryz.func171 rfl fun w X hC=>bB hC [4] (qs (aO hC [oN aD a,oN aD b] (fr 6 5) [(10,vB (!decide ((a.length:Int)=(b.length:Int))))] (aV h (fun c1 h=>?_) fun c1 h=>?_)))
 ·cases h;exact aE hC [4] [(4,vB false)] zr
 refine qk (qs (aE hC [5] [(5,vI 0)] (qb (jC h (fun x_=>dI [(0,vM aD a),(1,vM aD b),(5,vI x_)]) lS ?_))));rintro again2 x1 h;refine qs (aO hC [oN aD a] (fr 11 4) [(14,vK x1 a)] (aV h (fun c2 h=>?_) fun c2 h=>?_))
 ·refine qk (eN (qs ?_));obtain⟨x3,hx3,x4,hx4,x5,hx5,h⟩:=yO h;refine mT hC cU [oR aD hx3,oR aD hx4,oV (rN G hx5)] (fr 17 10) [(26,vB (!x5))] (aV h (fun c3 h=>?_) fun c3 h=>qk (bA hC [5,15,16] [(5,vI (wr (x1+1)))] (lE h)));cases h;exact aE hC [4] [(4,vB false)] zr
 cases h;exact d4 (aE hC [4] [(4,vB true)] zr)
theorem aAh{a}{b}{r}(h:pV n a b=some r):PQ G 147 [V.agg (rX a),V.agg (rX b)] (vB r):=by
 refine pq aN Tryz.func147 rfl fun w X hC=>aO hC [.z (.b (true)),.z (.b (true))] [2,3,4] [(2,V.tp (m0 a)),(3,V.tp (m0 b))] (qs ?_);obtain⟨x1,hx1,h⟩:=bd h;refine aO hC [oV (kS G hx1)] (fr 5 6) [(10,vB (!x1))] (aV h (fun c1 h=>?_) fun c1 h=>?_)
 ·cases h;exact aE hC [4] [(4,vB false)] zr
 refine qk (qs ?_);obtain⟨x2,hx2,h⟩:=bd h;refine aO hC [oV (kS G hx2)] (fr 11 6) [(16,vB (!x2))] (aV h (fun c2 h=>?_) fun c2 h=>?_)
 ·cases h;exact aE hC [4] [(4,vB false)] zr
 cases h;exact qk (aE hC [4] [(4,vB true)] zr)
theorem Q6{a}{b}{r}(h:sQ n a b=some r):PQ G 112 [vM aG a,vM aG b] (vB r):=by
 refine pq aN Tryz.func112 rfl fun w X hC=>bB hC [4] (qs (aO hC [oN aG a,oN aG b] (fr 6 5) [(10,vB (!decide ((a.length:Int)=(b.length:Int))))] (aV h (fun c1 h=>?_) fun c1 h=>?_)))
 ·cases h;exact aE hC [4] [(4,vB false)] zr
 refine qk (qs (aE hC [5] [(5,vI 0)] (qb (jC h (fun x_=>dI [(0,vM aG a),(1,vM aG b),(5,vI x_)]) lS ?_))));rintro again2 x1 h;refine qs (aO hC [oN aG a] (fr 11 4) [(14,vK x1 a)] (aV h (fun c2 h=>?_) fun c2 h=>?_))
 ·refine qk (eN (qs ?_));obtain⟨x3,hx3,x4,hx4,x5,hx5,h⟩:=yO h;refine mT hC cU [oR aG hx3,oR aG hx4,oV (aAh G hx5)] (fr 17 10) [(26,vB (!x5))] (aV h (fun c3 h=>?_) fun c3 h=>qk (bA hC [5,15,16] [(5,vI (wr (x1+1)))] (lE h)));cases h;exact aE hC [4] [(4,vB false)] zr
 cases h;exact d4 (aE hC [4] [(4,vB true)] zr)
theorem rO{a}{b}{r}(h:jB n a b=some r):PQ G 172 [V.agg (dG a),V.agg (dG b)] (vB r):=by
 refine pq aN Tryz.func172 rfl fun w X hC=>aO hC [.z (.b (true)),.z (.b (true))] [2,3,4] [(2,V.tp (cF a)),(3,V.tp (cF b))] (qs (aE hC (fr 5 5) [(9,vB (!decide (a.array=b.array)))] (aV h (fun c1 h=>?_) fun c1 h=>?_)))
 ·cases h;exact aE hC [4] [(4,vB false)] zr
 refine qk (qs ?_);obtain⟨x1,hx1,h⟩:=bd h;refine aO hC [oV (kS G hx1)] (fr 10 6) [(15,vB (!x1))] (aV h (fun c2 h=>?_) fun c2 h=>?_)
 ·cases h;exact aE hC [4] [(4,vB false)] zr
 cases h;exact qk (aE hC [4] [(4,vB true)] zr)
theorem Q7(G:GS)(n:Nat)(self:Expr→Expr→Option Bool)(hself: ∀(q0:Expr) (q1:Expr) {r:Bool},self q0 q1=some r→PQ G 173 [V.agg (iD q0),V.agg (iD q1)] (vB r))(a:List Expr)(b:List Expr){r:Bool}(h:sS n self a b=some r):PQ G 187 [vM aS a,vM aS b] (vB r):=by
 refine pq aN Tryz.func187 rfl fun w X hC=>bB hC [4] (qs (aO hC [oN aS a,oN aS b] (fr 6 5) [(10,vB (!decide ((a.length:Int)=(b.length:Int))))] (aV h (fun c1 h=>?_) fun c1 h=>?_)))
 ·cases h;exact aE hC [4] [(4,vB false)] zr
 refine qk (qs (aE hC [5] [(5,vI 0)] (qb (jC h (fun x_=>dI [(0,vM aS a),(1,vM aS b),(5,vI x_)]) lS ?_))));rintro again2 x1 h;refine qs (aO hC [oN aS a] (fr 11 4) [(14,vK x1 a)] (aV h (fun c2 h=>?_) fun c2 h=>?_))
 ·refine qk (eN (qs ?_));obtain⟨x3,hx3,x4,hx4,x5,hx5,h⟩:=yO h;refine mT hC cU [.z (.row (gI x3)),.z (.row (gI x4)),oQ (f7 aS hx3 (cL x3)),oQ (f7 aS hx4 (cL x4)),oV (hself x3 x4 hx5)] (fr 17 10) [(26,vB (!x5))] (aV h (fun c3 h=>?_) fun c3 h=>qk (bA hC [5,15,16] [(5,vI (wr (x1+1)))] (lE h)));cases h;exact aE hC [4] [(4,vB false)] zr
 cases h;exact d4 (aE hC [4] [(4,vB true)] zr)
theorem aAi(G:GS): ∀(n:Nat) (a:Expr) (b:Expr) {r:Bool} (h:w_eqExpr n a b=some r),PQ G 173 [V.agg (iD a),V.agg (iD b)] (vB r):=by
 intro n;induction n with
 |zero=>intro a b r h;rw [w_eqExpr.eq_def] at h;cases h
 |succ n ih=>
  intro a b r h;rw [w_eqExpr.eq_def] at h;dsimp only at h;refine pq aN Tryz.func173 rfl fun w X hC=>aO hC [.z (.b (true)),.z (.b (true))] [2,3,4] [(2,V.tp (fT a)),(3,V.tp (fT b))] (qs (aE hC (fr 5 5) [(9,vB (!decide (a.kind=b.kind)))] (aV h (fun c1 h=>?_) fun c1 h=>?_)))
  ·cases h;exact aE hC [4] [(4,vB false)] zr
  refine qk (qs (aE hC (fr 10 5) [(14,vB (!decide (a.num=b.num)))] (aV h (fun c2 h=>?_) fun c2 h=>?_)))
  ·cases h;exact aE hC [4] [(4,vB false)] zr
  refine qk (qs ?_);obtain⟨x1,hx1,h⟩:=bd h;refine aO hC [oV (rN G hx1)] (fr 15 6) [(20,vB (!x1))] (aV h (fun c3 h=>?_) fun c3 h=>?_)
  ·cases h;exact aE hC [4] [(4,vB false)] zr
  refine qk (qs ?_);obtain⟨x2,hx2,h⟩:=bd h;refine aO hC [oV (rO G hx2)] (fr 21 6) [(26,vB (!x2))] (aV h (fun c4 h=>?_) fun c4 h=>?_)
  ·cases h;exact aE hC [4] [(4,vB false)] zr
  refine qk (qs ?_);obtain⟨x3,hx3,h⟩:=bd h;refine aO hC [oV (Q7 G n (w_eqExpr n) (fun q0 q1 r h=>ih q0 q1 h) a.kids b.kids hx3)] (fr 27 6) [(32,vB (!x3))] (aV h (fun c5 h=>?_) fun c5 h=>?_)
  ·cases h;exact aE hC [4] [(4,vB false)] zr
  cases h;exact qk (aE hC [4] [(4,vB true)] zr)
theorem aAf{a}{b}{r}(h:pT n a b=some r):PQ G 148 [V.agg (iC a),V.agg (iC b)] (vB r):=by
 refine pq aN Tryz.func148 rfl fun w X hC=>aO hC [.z (.b (true)),.z (.b (true))] [2,3,4] [(2,V.tp (mZ a)),(3,V.tp (mZ b))] (qs ?_);obtain⟨x1,hx1,h⟩:=bd h;refine aO hC [oV (rO G hx1)] (fr 5 6) [(10,vB (!x1))] (aV h (fun c1 h=>?_) fun c1 h=>?_)
 ·cases h;exact aE hC [4] [(4,vB false)] zr
 refine qk (qs ?_);obtain⟨x2,hx2,h⟩:=bd h;refine aO hC [oV (aAi G n a.value b.value hx2)] (fr 11 6) [(16,vB (!x2))] (aV h (fun c2 h=>?_) fun c2 h=>?_)
 ·cases h;exact aE hC [4] [(4,vB false)] zr
 cases h;exact qk (aE hC [4] [(4,vB true)] zr)
theorem Q4{a}{b}{r}(h:sO n a b=some r):PQ G 113 [vM aU a,vM aU b] (vB r):=by
 refine pq aN Tryz.func113 rfl fun w X hC=>bB hC [4] (qs (aO hC [oN aU a,oN aU b] (fr 6 5) [(10,vB (!decide ((a.length:Int)=(b.length:Int))))] (aV h (fun c1 h=>?_) fun c1 h=>?_)))
 ·cases h;exact aE hC [4] [(4,vB false)] zr
 refine qk (qs (aE hC [5] [(5,vI 0)] (qb (jC h (fun x_=>dI [(0,vM aU a),(1,vM aU b),(5,vI x_)]) lS ?_))));rintro again2 x1 h;refine qs (aO hC [oN aU a] (fr 11 4) [(14,vK x1 a)] (aV h (fun c2 h=>?_) fun c2 h=>?_))
 ·refine qk (eN (qs ?_));obtain⟨x3,hx3,x4,hx4,x5,hx5,h⟩:=yO h;refine mT hC cU [oR aU hx3,oR aU hx4,oV (aAf G hx5)] (fr 17 10) [(26,vB (!x5))] (aV h (fun c3 h=>?_) fun c3 h=>qk (bA hC [5,15,16] [(5,vI (wr (x1+1)))] (lE h)));cases h;exact aE hC [4] [(4,vB false)] zr
 cases h;exact d4 (aE hC [4] [(4,vB true)] zr)
theorem aAg{a}{b}{r}(h:pU n a b=some r):PQ G 76 [V.agg (C2 a),V.agg (C2 b)] (vB r):=by
 refine pq aN Tryz.func76 rfl fun w X hC=>aO hC [.z (.b (true)),.z (.b (true))] [2,3,4] [(2,V.tp (jE a)),(3,V.tp (jE b))] (qs ?_);obtain⟨x1,hx1,h⟩:=bd h;refine aO hC [oV (Q6 G hx1)] (fr 5 6) [(10,vB (!x1))] (aV h (fun c1 h=>?_) fun c1 h=>?_)
 ·cases h;exact aE hC [4] [(4,vB false)] zr
 refine qk (qs ?_);obtain⟨x2,hx2,h⟩:=bd h;refine aO hC [oV (Q4 G hx2)] (fr 11 6) [(16,vB (!x2))] (aV h (fun c2 h=>?_) fun c2 h=>?_)
 ·cases h;exact aE hC [4] [(4,vB false)] zr
 cases h;exact qk (aE hC [4] [(4,vB true)] zr)
theorem Q5{a}{b}{r}(h:sP n a b=some r):PQ G 44 [vM aR a,vM aR b] (vB r):=by
 refine pq aN Tryz.func44 rfl fun w X hC=>bB hC [4] (qs (aO hC [oN aR a,oN aR b] (fr 6 5) [(10,vB (!decide ((a.length:Int)=(b.length:Int))))] (aV h (fun c1 h=>?_) fun c1 h=>?_)))
 ·cases h;exact aE hC [4] [(4,vB false)] zr
 refine qk (qs (aE hC [5] [(5,vI 0)] (qb (jC h (fun x_=>dI [(0,vM aR a),(1,vM aR b),(5,vI x_)]) lS ?_))));rintro again2 x1 h;refine qs (aO hC [oN aR a] (fr 11 4) [(14,vK x1 a)] (aV h (fun c2 h=>?_) fun c2 h=>?_))
 ·refine qk (eN (qs ?_));obtain⟨x3,hx3,x4,hx4,x5,hx5,h⟩:=yO h;refine mT hC cU [oR aR hx3,oR aR hx4,oV (aAg G hx5)] (fr 17 10) [(26,vB (!x5))] (aV h (fun c3 h=>?_) fun c3 h=>qk (bA hC [5,15,16] [(5,vI (wr (x1+1)))] (lE h)));cases h;exact aE hC [4] [(4,vB false)] zr
 cases h;exact d4 (aE hC [4] [(4,vB true)] zr)
theorem zG{a}{b}{r}(h:jV n a b=some r):PQ G 12 [V.agg (fB a),V.agg (fB b)] (vB r):=by
 refine pq aN Tryz.func12 rfl fun w X hC=>aO hC [.z (.b (true)),.z (.b (true))] [2,3,4] [(2,V.tp (cA a)),(3,V.tp (cA b))] (qs ?_);obtain⟨x1,hx1,h⟩:=bd h;refine aO hC [oV (I9 G hx1)] (fr 5 6) [(10,vB (!x1))] (aV h (fun c1 h=>?_) fun c1 h=>?_)
 ·cases h;exact aE hC [4] [(4,vB false)] zr
 refine qk (qs ?_);obtain⟨x2,hx2,h⟩:=bd h;refine aO hC [oV (Q5 G hx2)] (fr 11 6) [(16,vB (!x2))] (aV h (fun c2 h=>?_) fun c2 h=>?_)
 ·cases h;exact aE hC [4] [(4,vB false)] zr
 cases h;exact qk (aE hC [4] [(4,vB true)] zr)
theorem kT(G:GS)(n:Nat)(aP:Prog)(aSize:Int){r:Bool}(h:dM n aP aSize=some r):PQ G 3 [V.agg (fB aP),vI aSize] (vB r):=by
 refine pq aN Tryz.func3 rfl fun w X hC=>aO hC [.z (.b (true))] [2,4] [(2,V.tp (cA aP))] (aE hC [5] [(5,vI 1048576)] ?_);obtain⟨x1,hx1,h⟩:=bd h;refine aO hC [oV (zF G hx1)] [5,9,10,11] [(5,vI x1)] (qs (aE hC [12,13] [(13,vD (x1<0))] (aV h (fun c1 h=>?_) fun c1 h=>?_)))
 ·cases h;exact aE hC [4] [(4,vB true)] zr
 refine qk ?_;obtain⟨x2,hx2,x3,hx3,h⟩:=gT h;refine aO hC [oV (kP G hx2),oV (rR G hx3)] [6,14,15,16,17] [(6,vI x3)] ?_;obtain⟨x4,hx4,h⟩:=bd h;refine rq hC [oV (kP G hx4),.z (.nat 20)] [7,18,19] [(7,V.ref 20 0)] [(20,some (E.cells (fB x4)))] [(20,true)] ?_;obtain⟨x5,hx5,h⟩:=bd h;refine aO hC [oV (rV G hx5)] [8,20,21,22] [(8,vI x5)] (qs (aE hC [23,24,25] [(25,vB (!decide (x5=x3)))] (aV h (fun c2 h=>?_) fun c2 h=>?_)))
 ·cases h;exact aE hC [4] [(4,vB false)] zr
 refine qk (qs (qs ?_));obtain⟨x6,hx6,x7,hx7,h⟩:=gT h;refine mT hC cU [oV (kP G hx6),oV (zG G hx7)] (fr 26 5) [(30,vB (!x7))] (aV h (fun c3 h=>?_) fun c3 h=>?_)
 ·cases h;exact aE hC [4] [(4,vB false)] zr
 cases h;exact qk (aE hC [4] [(4,vB true)] zr)
end Go.Lift
