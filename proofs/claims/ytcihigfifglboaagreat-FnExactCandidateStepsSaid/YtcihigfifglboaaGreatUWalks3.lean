/- The walks: the code computes what the plain functions say. -/
import Derived.Test.YtcihigfifglboaaGreatUModels
import Derived.Test.YtcihigfifglboaaGreatUWalks2
set_option maxRecDepth 10000
set_option linter.unusedVariables false
namespace Go.Lift
open Go Go.Proofs
variable (G:GS) {n:Nat}
theorem lT(G:GS)(n:Nat)(s:List Stmt)(fF:FuncId)(fC0:List T)(f:Stmt→Option Bool)(hf: ∀(q0:Stmt) r,f q0=some r→PQ G fF [V.agg (nI q0),V.tp fC0] (vB r)){r:Bool}(h:dP n s f=some r):PQ G 121 [vM aH s,V.fn fF [V.tp fC0]] (vB r):=by refine pq aU Tryz.func121 rfl fun w X hC=>bB hC [4] ?_;obtain⟨x1,hx1,h⟩:=bd h;cases h;exact aV hC [oV (nO G n s fF fC0 f hf hx1)] (fr 4 5) [(4,vD ((0:Int)≤x1))] zr
theorem nP{p}{r}(h:dQ n p=some r):VQ G 80 [] [V.agg (nJ p)] (V.tup [ms 0 1 3 dG r.1,vB r.2]) [ar 72 1 3 dG r.1]:=by
 refine vq aU Tryz.func80 rfl fun w X β0 hC hg=>aV hC [.z (.b (true))] [1,2,3] [(1,V.tp (cT p))] (qs (vj h (fun x_=>dO [(1,V.tp (cT p)),(22,vB x_)]) (fun j1 h=>?_) fun x3 h=>?_))
 ·obtain⟨x2,hx2,h⟩:=bd h;exact bC h (fun c1 h=>bR hC ([oV (sM G hx2)]++rF 3 c1++[oN aK p.parts,oF c1,oF c1]) (fr 13 10) [(22,vD ((4:Int)<(p.parts.length:Int)))] (lE h)) fun c1 h=>bR hC ([oV (sM G hx2)]++rT 5 c1) (fr 13 10) [(22,vB true)] (lE h)
 refine aY h (fun c2 h=>?_) fun c2 h=>?_
 ·cases h;exact aE hC [2,3] [(2,fI),(3,vB false)] (qw (lk hC [.grow 2 0 72] [2] [(2,ms 0 1 3 dG [])] [(0,some (ar 72 1 3 dG []))] [(0,true)]) zw)
 refine qk (aE hC [4] [(4,fI)] (qs (aV hC [oN aK p.parts] (fr 23 4) [(24,vM aK p.parts),(25,vI (p.parts.length:Int)),(26,vI 0)] (qb (qw (lk hC [.grow 4 20 72] [4] [(4,ms 20 1 3 dG [])] [(20,some (ar 72 1 3 dG []))] [(20,true)]) ?_)))));refine uL h (fun x_ g_=>fY [(1,V.tp (cT p)),(4,ms 20 g_ 3 dG x_.1),(24,vM aK p.parts),(25,vI (p.parts.length:Int)),(26,vI x_.2)] [(20,ar 72 g_ 3 dG x_.1)] [20]) 1 (lS) ?_;rintro again7 ⟨x4,x5⟩ g6 h;refine aE hC [27] [(27,vK x5 p.parts)] (H9 h (fun c3 h=>?_) fun c3 h=>?_)
 ·refine qk (dU ?_);obtain⟨x8,hx8,h⟩:=bd h;refine rq hC [oR aK hx8,.z (.nat 21),.z (.at 0),.z (.fp 21 [6])] [5,6,28,29,30] [(5,vI x5),(6,V.tp (iS x8))] [(21,none)] [(21,true)] ?_;obtain⟨x9,hx9,h⟩:=bd h;refine rq hC [oC [] [22] (yX G hx9)] [7,8,31,32,33,34,35,36] [(7,ms 22 1 1 (rL rI) x9.1),(8,vB x9.2)] [(22,some (ar 39 1 1 (rL rI) x9.1))] [(22,true)] (qs (vj h (fun x_=>fY [(1,V.tp (cT p)),(4,ms 20 g6 3 dG x4),(5,vI x5),(6,V.tp (iS x8)),(7,ms 22 1 1 (rL rI) x9.1),(24,vM aK p.parts),(25,vI (p.parts.length:Int)),(26,vI x5),(51,vB x_)] [(20,ar 72 g6 3 dG x4),(22,ar 39 1 1 (rL rI) x9.1)] [20,21,22]) (fun j10 h=>?_) fun x13 h=>?_))
  ·refine bC h (fun c4 h=>?_) fun c4 h=>bR hC (rT 6 c4++sT 5) (fr 37 15) [(51,vB true)] (lE h);obtain⟨x11,hx11,h⟩:=bd h;refine bC h (fun c5 h=>?_) fun c5 h=>bR hC (rF 3 c4++[oN aH x8.body,oF c4,oV (bE G hx11),oF c4,oF c4]++rT 5 c5) (fr 37 15) [(51,vB true)] (lE h);obtain⟨x12,hx12,h⟩:=bd h;exact bR hC (rF 3 c4++[oN aH x8.body,oF c4,oV (bE G hx11),oF c4,oF c4]++rF 4 c5++[oV (lT G n x8.body 122 (iS x8) (fun q0=>b9 n q0 x8) (fun q0 r h=>mE G n q0 x8 h) hx12),oF c5]) (fr 37 15) [(51,vB x12)] (lE h)
  refine aY h (fun c6 h=>?_) fun c6 h=>?_
  ·cases h;exact aE hC [2,3] [(2,fI),(3,vB false)] (qw (lk hC [.grow 2 0 72] [2] [(2,ms 0 1 3 dG [])] [(0,some (ar 72 1 3 dG []))] [(0,true)]) zw)
  refine qk (aV hC [oN (rL rI) x9.1] [52,53,54] [(52,ms 22 1 1 (rL rI) x9.1),(53,vI (x9.1.length:Int)),(54,vI 0)] (qb (uL h (fun x_ g_=>fY [(1,V.tp (cT p)),(4,ms 20 g_ 3 dG x_.1),(5,vI x5),(6,V.tp (iS x8)),(24,vM aK p.parts),(25,vI (p.parts.length:Int)),(26,vI x5),(52,ms 22 1 1 (rL rI) x9.1),(53,vI (x9.1.length:Int)),(54,vI x_.2)] [(20,ar 72 g_ 3 dG x_.1),(22,ar 39 1 1 (rL rI) x9.1)] [20,21,22]) g6 (lS) ?_)));rintro again17 ⟨x14,x15⟩ g16 h;refine aE hC [55] [(55,vK x15 x9.1)] (H9 h (fun c7 h=>?_) fun c7 h=>dN (bA hC [26,84] [(26,vI (wr (x5+1)))] ⟨(x14,wr (x5+1)),g16,h,lS⟩));refine qk (dU ?_);obtain⟨x18,hx18,h⟩:=bd h;refine aV hC [oQ (mH (rL rI) hx18),oX (rL rI) hx18] [10,56,57] [(10,vM rI x18)] (qs ?_);obtain⟨x19,hx19,h⟩:=bd h;refine aV hC [oV (T2 G hx19)] [58,59,60] [(60,vB (!x19))] (aY h (fun c8 h=>?_) fun c8 h=>?_)
  ·cases h;exact aE hC [2,3] [(2,fI),(3,vB false)] (qw (lk hC [.grow 2 0 72] [2] [(2,ms 0 1 3 dG [])] [(0,some (ar 72 1 3 dG []))] [(0,true)]) zw)
  refine qk (aV hC [oN aH x8.body] (fr 61 4) [(62,vM aH x8.body),(63,vI (x8.body.length:Int)),(64,vI 0)] (qb (uL h (fun x_ g_=>fY [(1,V.tp (cT p)),(4,ms 20 g_ 3 dG x_.1),(5,vI x5),(6,V.tp (iS x8)),(10,vM rI x18),(24,vM aK p.parts),(25,vI (p.parts.length:Int)),(26,vI x5),(52,ms 22 1 1 (rL rI) x9.1),(53,vI (x9.1.length:Int)),(54,vI x15),(62,vM aH x8.body),(63,vI (x8.body.length:Int)),(64,vI x_.2)] [(20,ar 72 g_ 3 dG x_.1),(22,ar 39 1 1 (rL rI) x9.1)] [20,21,22]) g16 (lS) ?_)));rintro again23 ⟨x20,x21⟩ g22 h;refine aE hC [65] [(65,vK x21 x8.body)] (H9 h (fun c9 h=>?_) fun c9 h=>dN (bA hC [54,83] [(54,vI (wr (x15+1)))] ⟨(x20,wr (x15+1)),g22,h,lS⟩));refine qk (dU ?_);obtain⟨x24,hx24,h⟩:=bd h;refine rq hC [oR aH hx24,.z (.nat 23)] [11,12,66,67,68] [(11,vI x21),(12,V.ref 23 0)] [(23,some (E.cells (nI x24)))] [(23,true)] (qs ?_);obtain⟨x25,hx25,h⟩:=bd h;refine aV hC [oV (qM G hx25)] (fr 69 5) [(73,vB (!x25))] (aY h (fun c10 h=>?_) fun c10 h=>?_)
  ·cases h;exact aE hC [2,3] [(2,fI),(3,vB false)] (qw (lk hC [.grow 2 0 72] [2] [(2,ms 0 1 3 dG [])] [(0,some (ar 72 1 3 dG []))] [(0,true)]) zw)
  refine qk ?_;obtain⟨x26,hx26,x27,hx27,h⟩:=iT h;exact rk hC [oC [] [24] (G.clone x18 hx26),.z (.at 4),.z (.fz 24 [78] []),.z (.int 0),oA (bT dG hx27),oM 3 B8 x20,oM 3 B8 [(⟨x5,x21,x26⟩:Inst)]] [4,74,75,76,77,78,79,80,81] [(4,ms 20 (g22+1) 3 dG x27)] [(24,none),(20,some (ar 72 (g22+1) 3 dG x27))] [(24,true)] (bA hC [64,82] [(64,vI (wr (x21+1)))] ⟨(x27,wr (x21+1)),(g22+1),h,lS⟩)
 cases h;exact dN (aV hC [oN dG x4] [2,3,85,86,87,88] [(2,ms 20 g6 3 dG x4),(3,vD ((x4.length:Int)≤120))] (xR hC 2 20 (ms 0 1 3 dG x4) (ar 72 1 3 dG x4)))
theorem uH{p}{r}(h:gF n p=some r):PQ G 35 [V.agg (nJ p)] (vB r):=by refine pq aU Tryz.func35 rfl fun w X hC=>aV hC [.z (.b (true))] [1,2] [(1,V.tp (cT p))] ?_;obtain⟨x1,hx1,h⟩:=bd h;cases h;exact rq hC [oC [] [20] (nP G hx1)] (fr 3 7) [(4,vB x1.2)] [(20,some (ar 72 1 3 dG x1.1))] [(20,true)] (aE hC [2,10] [(2,vB x1.2)] zr)
theorem qN{p}{r}(h:cQ n p=some r):VQ G 11 [] [V.agg (nJ p)] (ms 0 1 4 aJ r) [ar 59 1 4 aJ r]:=by
 refine vq aU Tryz.func11 rfl fun w X β0 hC hg=>aV hC [.z (.b (true))] [1,2] [(1,V.tp (cT p))] (qs ?_);obtain⟨x1,hx1,h⟩:=bd h;refine aV hC [oV (uH G hx1)] [10,11,12] [(12,vB (!x1))] (aY h (fun c1 h=>?_) fun c1 h=>?_)
 ·obtain rfl:=so h;exact aE hC [2] [(2,fI)] (qw (lk hC [.grow 2 0 59] [2] [(2,ms 0 1 4 aJ [])] [(0,some (ar 59 1 4 aJ []))] [(0,true)]) zw)
 refine qk (aE hC [3] [(3,fI)] (qs (aV hC [oN aK p.parts] (fr 13 4) [(14,vM aK p.parts),(15,vI (p.parts.length:Int)),(16,vI 0)] (qb (qw (lk hC [.grow 3 20 59] [3] [(3,ms 20 1 4 aJ [])] [(20,some (ar 59 1 4 aJ []))] [(20,true)]) ?_)))));refine uL h (fun x_ g_=>fY [(1,V.tp (cT p)),(3,ms 20 g_ 4 aJ x_.1),(14,vM aK p.parts),(15,vI (p.parts.length:Int)),(16,vI x_.2)] [(20,ar 59 g_ 4 aJ x_.1)] [20]) 1 (lS) ?_;rintro again5 ⟨x2,x3⟩ g4 h;refine aE hC [17] [(17,vK x3 p.parts)] (H9 h (fun c2 h=>?_) fun c2 h=>?_)
 ·refine qk (dU ?_);obtain⟨x6,hx6,h⟩:=bd h;refine rq hC [oR aK hx6,.z (.nat 21)] [4,5,18,19,20] [(4,vI x3),(5,V.ref 21 0)] [(21,some (E.cells (vE x6)))] [(21,true)] (qs (aE hC [6] [(6,vI 0)] (qb (uL h (fun x_ g_=>fY [(1,V.tp (cT p)),(3,ms 20 g_ 4 aJ x_.1),(4,vI x3),(5,V.ref 21 0),(6,vI x_.2),(14,vM aK p.parts),(15,vI (p.parts.length:Int)),(16,vI x3)] [(20,ar 59 g_ 4 aJ x_.1),(21,E.cells (vE x6))] [20,21]) g4 (lS) ?_))));rintro again10 ⟨x7,x8⟩ g9 h;refine qs (aV hC [oN aI x6.nest] (fr 21 6) [(26,vD (wr (x8+1)<(x6.nest.length:Int)))] (aY h (fun c3 h=>?_) fun c3 h=>?_))
  ·refine qk (dU ?_);obtain⟨x11,hx11,h⟩:=bd h;exact rk hC [.z (.int 0),oA (bT aJ hx11),oM 4 bL x7,oM 4 bL [(⟨1,x3,x8,0⟩:Step)]] [3,29,30,31,32,33,34] [(3,ms 20 (g9+1) 4 aJ x11)] [(20,some (ar 59 (g9+1) 4 aJ x11))] [] (bA hC [6,27,28] [(6,vI (wr (x8+1)))] ⟨(x11,wr (x8+1)),(g9+1),h,lS⟩)
  refine dN (aV hC [oN aI x6.nest] (fr 35 4) [(37,vI (x6.nest.length:Int)),(38,vI 0)] (qb (uL h (fun x_ g_=>fY [(1,V.tp (cT p)),(3,ms 20 g_ 4 aJ x_.1),(4,vI x3),(14,vM aK p.parts),(15,vI (p.parts.length:Int)),(16,vI x3),(37,vI (x6.nest.length:Int)),(38,vI x_.2)] [(20,ar 59 g_ 4 aJ x_.1),(21,E.cells (vE x6))] [20,21]) g9 (lS) ?_)));rintro again15 ⟨x12,x13⟩ g14 h;refine aE hC [39] [(39,vK x13 x6.nest)] (H9 h (fun c4 h=>?_) fun c4 h=>dN (bA hC [16,48] [(16,vI (wr (x3+1)))] ⟨(x12,wr (x3+1)),g14,h,lS⟩));refine qk (dU (aE hC [7,40] [(7,vI x13)] ?_));obtain⟨x16,hx16,h⟩:=bd h;exact rk hC [.z (.int 0),oA (bT aJ hx16),oM 4 bL x12,oM 4 bL [(⟨2,x3,x13,0⟩:Step)]] [3,41,42,43,44,45,46] [(3,ms 20 (g14+1) 4 aJ x16)] [(20,some (ar 59 (g14+1) 4 aJ x16))] [] (bA hC [38,47] [(38,vI (wr (x13+1)))] ⟨(x16,wr (x13+1)),(g14+1),h,lS⟩)
 refine dN (qs (aE hC [8] [(8,vI 0)] (qb (uL h (fun x_ g_=>fY [(1,V.tp (cT p)),(3,ms 20 g_ 4 aJ x_.1),(8,vI x_.2)] [(20,ar 59 g_ 4 aJ x_.1)] [20]) g4 (lS) ?_))));rintro again20 ⟨x17,x18⟩ g19 h;refine qs (aV hC [oN aK p.parts] (fr 49 6) [(54,vD (wr (x18+1)<(p.parts.length:Int)))] (aY h (fun c5 h=>?_) fun c5 h=>?_))
 ·refine qk (dU ?_);obtain⟨x21,hx21,h⟩:=bd h;exact rk hC [.z (.int 0),oA (bT aJ hx21),oM 4 bL x17,oM 4 bL [(⟨6,x18,0,0⟩:Step),(⟨9,x18,0,0⟩:Step)]] [3,57,58,59,60,61,62,63] [(3,ms 20 (g19+1) 4 aJ x21)] [(20,some (ar 59 (g19+1) 4 aJ x21))] [] (bA hC [8,55,56] [(8,vI (wr (x18+1)))] ⟨(x21,wr (x18+1)),(g19+1),h,lS⟩)
 refine dN (qs (aV hC [oN aK p.parts] (fr 64 4) [(66,vI (p.parts.length:Int)),(67,vI 0)] (qb (uL h (fun x_ g_=>fY [(3,ms 20 g_ 4 aJ x_.1),(66,vI (p.parts.length:Int)),(67,vI x_.2)] [(20,ar 59 g_ 4 aJ x_.1)] [20]) g19 (lS) ?_))));rintro again25 ⟨x22,x23⟩ g24 h;refine aE hC [68] [(68,vK x23 p.parts)] (H9 h (fun c6 h=>?_) fun c6 h=>?_)
 ·refine qk (dU (aE hC [9,69] [(9,vI x23)] ?_));obtain⟨x26,hx26,h⟩:=bd h;exact rk hC [.z (.int 0),oA (bT aJ hx26),oM 4 bL x22,oM 4 bL [(⟨10,x23,0,0⟩:Step)]] [3,70,71,72,73,74] [(3,ms 20 (g24+1) 4 aJ x26)] [(20,some (ar 59 (g24+1) 4 aJ x26))] [] (bA hC [67,75] [(67,vI (wr (x23+1)))] ⟨(x26,wr (x23+1)),(g24+1),h,lS⟩)
 refine dN ?_;obtain⟨x27,hx27,h⟩:=bd h;obtain rfl:=so h;exact rq hC [.z (.int 0),oA (bT aJ hx27),oM 4 bL x22,oM 4 bL [(⟨11,0,0,0⟩:Step)]] [2,3,76,77,78,79] [(2,ms 20 (g24+1) 4 aJ x27)] [(20,some (ar 59 (g24+1) 4 aJ x27))] [] (xR hC 2 20 (ms 0 1 4 aJ x27) (ar 59 1 4 aJ x27))
theorem aAk{a}{b}{r}(h:wO n a b=some r):PQ G 36 [V.agg [vI a.kind,vI a.part,vI a.a,vI a.b],V.agg [vI b.kind,vI b.part,vI b.a,vI b.b]] (vB r):=by
 refine pq aU Tryz.func36 rfl fun w X hC=>aV hC [.z (.b (true)),.z (.b (true))] [2,3,4] [(2,V.tp [T.int .i64 a.kind,T.int .i64 a.part,T.int .i64 a.a,T.int .i64 a.b]),(3,V.tp [T.int .i64 b.kind,T.int .i64 b.part,T.int .i64 b.a,T.int .i64 b.b])] (qs (aE hC (fr 5 5) [(9,vB (!decide (a.kind=b.kind)))] (aY h (fun c1 h=>?_) fun c1 h=>?_)))
 ·cases h;exact aE hC [4] [(4,vB false)] zr
 refine qk (qs (aE hC (fr 10 5) [(14,vB (!decide (a.part=b.part)))] (aY h (fun c2 h=>?_) fun c2 h=>?_)))
 ·cases h;exact aE hC [4] [(4,vB false)] zr
 refine qk (qs (aE hC (fr 15 5) [(19,vB (!decide (a.a=b.a)))] (aY h (fun c3 h=>?_) fun c3 h=>?_)))
 ·cases h;exact aE hC [4] [(4,vB false)] zr
 refine qk (qs (aE hC (fr 20 5) [(24,vB (!decide (a.b=b.b)))] (aY h (fun c4 h=>?_) fun c4 h=>?_)))
 ·cases h;exact aE hC [4] [(4,vB false)] zr
 cases h;exact qk (aE hC [4] [(4,vB true)] zr)
theorem oH{a}{b}{r}(h:lW n a b=some r):PQ G 12 [vM aJ a,vM aJ b] (vB r):=by
 refine pq aU Tryz.func12 rfl fun w X hC=>bB hC [4] (qs (aV hC [oN aJ a,oN aJ b] (fr 6 5) [(10,vB (!decide ((a.length:Int)=(b.length:Int))))] (aY h (fun c1 h=>?_) fun c1 h=>?_)))
 ·cases h;exact aE hC [4] [(4,vB false)] zr
 refine qk (qs (aE hC [5] [(5,vI 0)] (qb (gK h (fun x_=>dO [(0,vM aJ a),(1,vM aJ b),(5,vI x_)]) lS ?_))));rintro again2 x1 h;refine qs (aV hC [oN aJ a] (fr 11 4) [(14,vK x1 a)] (aY h (fun c2 h=>?_) fun c2 h=>?_))
 ·refine qk (dU (qs ?_));obtain⟨x3,hx3,x4,hx4,x5,hx5,h⟩:=M1 h;refine oD hC dV [oR aJ hx3,oR aJ hx4,oV (aAk G hx5)] (fr 17 10) [(26,vB (!x5))] (aY h (fun c3 h=>?_) fun c3 h=>qk (bA hC [5,15,16] [(5,vI (wr (x1+1)))] (lE h)));cases h;exact aE hC [4] [(4,vB false)] zr
 cases h;exact dN (aE hC [4] [(4,vB true)] zr)
theorem yQ{a}{b}{r}(h:nS n a b=some r):PQ G 20 [vM rI a,vM rI b] (vB r):=by
 refine pq aU Tryz.func20 rfl fun w X hC=>bB hC [4] (qs (aV hC [oN rI a,oN rI b] (fr 6 5) [(10,vB (!decide ((a.length:Int)=(b.length:Int))))] (aY h (fun c1 h=>?_) fun c1 h=>?_)))
 ·cases h;exact aE hC [4] [(4,vB false)] zr
 refine qk (qs (aE hC [5] [(5,vI 0)] (qb (gK h (fun x_=>dO [(0,vM rI a),(1,vM rI b),(5,vI x_)]) lS ?_))));rintro again2 x1 h;refine qs (aV hC [oN rI a] (fr 11 4) [(14,vK x1 a)] (aY h (fun c2 h=>?_) fun c2 h=>?_))
 ·refine qk (dU (qs ?_));obtain⟨x3,hx3,x4,hx4,h⟩:=iT h;refine oD hC dV [oR rI hx3,oR rI hx4] (fr 17 9) [(25,vB (!decide (x3=x4)))] (aY h (fun c3 h=>?_) fun c3 h=>qk (bA hC [5,15,16] [(5,vI (wr (x1+1)))] (lE h)));cases h;exact aE hC [4] [(4,vB false)] zr
 cases h;exact dN (aE hC [4] [(4,vB true)] zr)
theorem S6{a}{b}{r}(h:o0 n a b=some r):PQ G 81 [V.agg [vS a.name,vM rI a.dims],V.agg [vS b.name,vM rI b.dims]] (vB r):=by
 refine pq aU Tryz.func81 rfl fun w X hC=>aV hC [.z (.b (true)),.z (.b (true))] [2,3,4] [(2,V.tp [T.str a.name,T.sl (List.map rI a.dims)]),(3,V.tp [T.str b.name,T.sl (List.map rI b.dims)])] (qs (aE hC (fr 5 5) [(9,vB (!decide (a.name=b.name)))] (aY h (fun c1 h=>?_) fun c1 h=>?_)))
 ·cases h;exact aE hC [4] [(4,vB false)] zr
 refine qk (qs ?_);obtain⟨x1,hx1,h⟩:=bd h;refine aV hC [oV (yQ G hx1)] (fr 10 6) [(15,vB (!x1))] (aY h (fun c2 h=>?_) fun c2 h=>?_)
 ·cases h;exact aE hC [4] [(4,vB false)] zr
 cases h;exact qk (aE hC [4] [(4,vB true)] zr)
theorem L6{a}{b}{r}(h:pW n a b=some r):PQ G 37 [vM aQ a,vM aQ b] (vB r):=by
 refine pq aU Tryz.func37 rfl fun w X hC=>bB hC [4] (qs (aV hC [oN aQ a,oN aQ b] (fr 6 5) [(10,vB (!decide ((a.length:Int)=(b.length:Int))))] (aY h (fun c1 h=>?_) fun c1 h=>?_)))
 ·cases h;exact aE hC [4] [(4,vB false)] zr
 refine qk (qs (aE hC [5] [(5,vI 0)] (qb (gK h (fun x_=>dO [(0,vM aQ a),(1,vM aQ b),(5,vI x_)]) lS ?_))));rintro again2 x1 h;refine qs (aV hC [oN aQ a] (fr 11 4) [(14,vK x1 a)] (aY h (fun c2 h=>?_) fun c2 h=>?_))
 ·refine qk (dU (qs ?_));obtain⟨x3,hx3,x4,hx4,x5,hx5,h⟩:=M1 h;refine oD hC dV [oR aQ hx3,oR aQ hx4,oV (S6 G hx5)] (fr 17 10) [(26,vB (!x5))] (aY h (fun c3 h=>?_) fun c3 h=>qk (bA hC [5,15,16] [(5,vI (wr (x1+1)))] (lE h)));cases h;exact aE hC [4] [(4,vB false)] zr
 cases h;exact dN (aE hC [4] [(4,vB true)] zr)
theorem sG{a}{b}{r}(h:jS n a b=some r):PQ G 222 [V.agg (cG a),V.agg (cG b)] (vB r):=by
 refine pq aU Tryz.func222 rfl fun w X hC=>aV hC [.z (.b (true)),.z (.b (true))] [2,3,4] [(2,V.tp (bS a)),(3,V.tp (bS b))] (qs ?_);obtain⟨x1,hx1,h⟩:=bd h;refine aV hC [oV (yQ G hx1)] (fr 5 6) [(10,vB (!x1))] (aY h (fun c1 h=>?_) fun c1 h=>?_)
 ·cases h;exact aE hC [4] [(4,vB false)] zr
 refine qk (qs (aE hC (fr 11 5) [(15,vB (!decide (a.const=b.const)))] (aY h (fun c2 h=>?_) fun c2 h=>?_)))
 ·cases h;exact aE hC [4] [(4,vB false)] zr
 cases h;exact qk (aE hC [4] [(4,vB true)] zr)
theorem lR{a}{b}{r}(h:iI n a b=some r):PQ G 203 [vM aA a,vM aA b] (vB r):=by
 refine pq aU Tryz.func203 rfl fun w X hC=>bB hC [4] (qs (aV hC [oN aA a,oN aA b] (fr 6 5) [(10,vB (!decide ((a.length:Int)=(b.length:Int))))] (aY h (fun c1 h=>?_) fun c1 h=>?_)))
 ·cases h;exact aE hC [4] [(4,vB false)] zr
 refine qk (qs (aE hC [5] [(5,vI 0)] (qb (gK h (fun x_=>dO [(0,vM aA a),(1,vM aA b),(5,vI x_)]) lS ?_))));rintro again2 x1 h;refine qs (aV hC [oN aA a] (fr 11 4) [(14,vK x1 a)] (aY h (fun c2 h=>?_) fun c2 h=>?_))
 ·refine qk (dU (qs ?_));obtain⟨x3,hx3,x4,hx4,x5,hx5,h⟩:=M1 h;refine oD hC dV [oR aA hx3,oR aA hx4,oV (sG G hx5)] (fr 17 10) [(26,vB (!x5))] (aY h (fun c3 h=>?_) fun c3 h=>qk (bA hC [5,15,16] [(5,vI (wr (x1+1)))] (lE h)));cases h;exact aE hC [4] [(4,vB false)] zr
 cases h;exact dN (aE hC [4] [(4,vB true)] zr)
theorem aAm{a}{b}{r}(h:qZ n a b=some r):PQ G 170 [V.agg (vF a),V.agg (vF b)] (vB r):=by
 refine pq aU Tryz.func170 rfl fun w X hC=>aV hC [.z (.b (true)),.z (.b (true))] [2,3,4] [(2,V.tp (nE a)),(3,V.tp (nE b))] (qs ?_);obtain⟨x1,hx1,h⟩:=bd h;refine aV hC [oV (lR G hx1)] (fr 5 6) [(10,vB (!x1))] (aY h (fun c1 h=>?_) fun c1 h=>?_)
 ·cases h;exact aE hC [4] [(4,vB false)] zr
 refine qk (qs ?_);obtain⟨x2,hx2,h⟩:=bd h;refine aV hC [oV (lR G hx2)] (fr 11 6) [(16,vB (!x2))] (aY h (fun c2 h=>?_) fun c2 h=>?_)
 ·cases h;exact aE hC [4] [(4,vB false)] zr
 cases h;exact qk (aE hC [4] [(4,vB true)] zr)
theorem S4{a}{b}{r}(h:tE n a b=some r):PQ G 126 [vM aI a,vM aI b] (vB r):=by
 refine pq aU Tryz.func126 rfl fun w X hC=>bB hC [4] (qs (aV hC [oN aI a,oN aI b] (fr 6 5) [(10,vB (!decide ((a.length:Int)=(b.length:Int))))] (aY h (fun c1 h=>?_) fun c1 h=>?_)))
 ·cases h;exact aE hC [4] [(4,vB false)] zr
 refine qk (qs (aE hC [5] [(5,vI 0)] (qb (gK h (fun x_=>dO [(0,vM aI a),(1,vM aI b),(5,vI x_)]) lS ?_))));rintro again2 x1 h;refine qs (aV hC [oN aI a] (fr 11 4) [(14,vK x1 a)] (aY h (fun c2 h=>?_) fun c2 h=>?_))
 ·refine qk (dU (qs ?_));obtain⟨x3,hx3,x4,hx4,x5,hx5,h⟩:=M1 h;refine oD hC dV [oR aI hx3,oR aI hx4,oV (aAm G hx5)] (fr 17 10) [(26,vB (!x5))] (aY h (fun c3 h=>?_) fun c3 h=>qk (bA hC [5,15,16] [(5,vI (wr (x1+1)))] (lE h)));cases h;exact aE hC [4] [(4,vB false)] zr
 cases h;exact dN (aE hC [4] [(4,vB true)] zr)
theorem sH{a}{b}{r}(h:jT n a b=some r):PQ G 204 [V.agg (eE a),V.agg (eE b)] (vB r):=by
 refine pq aU Tryz.func204 rfl fun w X hC=>aV hC [.z (.b (true)),.z (.b (true))] [2,3,4] [(2,V.tp (cM a)),(3,V.tp (cM b))] (qs (aE hC (fr 5 5) [(9,vB (!decide (a.array=b.array)))] (aY h (fun c1 h=>?_) fun c1 h=>?_)))
 ·cases h;exact aE hC [4] [(4,vB false)] zr
 refine qk (qs ?_);obtain⟨x1,hx1,h⟩:=bd h;refine aV hC [oV (lR G hx1)] (fr 10 6) [(15,vB (!x1))] (aY h (fun c2 h=>?_) fun c2 h=>?_)
 ·cases h;exact aE hC [4] [(4,vB false)] zr
 cases h;exact qk (aE hC [4] [(4,vB true)] zr)
theorem S5(G:GS)(n:Nat)(self:Expr→Expr→Option Bool)(hself: ∀(q0:Expr) (q1:Expr) {r:Bool},self q0 q1=some r→PQ G 205 [V.agg (kM q0),V.agg (kM q1)] (vB r))(a:List Expr)(b:List Expr){r:Bool}(h:tF n self a b=some r):PQ G 223 [vM aC a,vM aC b] (vB r):=by
 refine pq aU Tryz.func223 rfl fun w X hC=>bB hC [4] (qs (aV hC [oN aC a,oN aC b] (fr 6 5) [(10,vB (!decide ((a.length:Int)=(b.length:Int))))] (aY h (fun c1 h=>?_) fun c1 h=>?_)))
 ·cases h;exact aE hC [4] [(4,vB false)] zr
 refine qk (qs (aE hC [5] [(5,vI 0)] (qb (gK h (fun x_=>dO [(0,vM aC a),(1,vM aC b),(5,vI x_)]) lS ?_))));rintro again2 x1 h;refine qs (aV hC [oN aC a] (fr 11 4) [(14,vK x1 a)] (aY h (fun c2 h=>?_) fun c2 h=>?_))
 ·refine qk (dU (qs ?_));obtain⟨x3,hx3,x4,hx4,x5,hx5,h⟩:=M1 h;refine oD hC dV [.z (.row (bK x3)),.z (.row (bK x4)),oQ (gD aC hx3 (aO x3)),oQ (gD aC hx4 (aO x4)),oV (hself x3 x4 hx5)] (fr 17 10) [(26,vB (!x5))] (aY h (fun c3 h=>?_) fun c3 h=>qk (bA hC [5,15,16] [(5,vI (wr (x1+1)))] (lE h)));cases h;exact aE hC [4] [(4,vB false)] zr
 cases h;exact dN (aE hC [4] [(4,vB true)] zr)
theorem aAn(G:GS): ∀(n:Nat) (a:Expr) (b:Expr) {r:Bool} (h:w_eqExpr n a b=some r),PQ G 205 [V.agg (kM a),V.agg (kM b)] (vB r):=by
 intro n;induction n with
 |zero=>intro a b r h;rw [w_eqExpr.eq_def] at h;cases h
 |succ n ih=>
  intro a b r h;rw [w_eqExpr.eq_def] at h;dsimp only at h;refine pq aU Tryz.func205 rfl fun w X hC=>aV hC [.z (.b (true)),.z (.b (true))] [2,3,4] [(2,V.tp (fW a)),(3,V.tp (fW b))] (qs (aE hC (fr 5 5) [(9,vB (!decide (a.kind=b.kind)))] (aY h (fun c1 h=>?_) fun c1 h=>?_)))
  ·cases h;exact aE hC [4] [(4,vB false)] zr
  refine qk (qs (aE hC (fr 10 5) [(14,vB (!decide (a.num=b.num)))] (aY h (fun c2 h=>?_) fun c2 h=>?_)))
  ·cases h;exact aE hC [4] [(4,vB false)] zr
  refine qk (qs ?_);obtain⟨x1,hx1,h⟩:=bd h;refine aV hC [oV (sG G hx1)] (fr 15 6) [(20,vB (!x1))] (aY h (fun c3 h=>?_) fun c3 h=>?_)
  ·cases h;exact aE hC [4] [(4,vB false)] zr
  refine qk (qs ?_);obtain⟨x2,hx2,h⟩:=bd h;refine aV hC [oV (sH G hx2)] (fr 21 6) [(26,vB (!x2))] (aY h (fun c4 h=>?_) fun c4 h=>?_)
  ·cases h;exact aE hC [4] [(4,vB false)] zr
  refine qk (qs ?_);obtain⟨x3,hx3,h⟩:=bd h;refine aV hC [oV (S5 G n (w_eqExpr n) (fun q0 q1 r h=>ih q0 q1 h) a.kids b.kids hx3)] (fr 27 6) [(32,vB (!x3))] (aY h (fun c5 h=>?_) fun c5 h=>?_)
  ·cases h;exact aE hC [4] [(4,vB false)] zr
  cases h;exact qk (aE hC [4] [(4,vB true)] zr)
theorem aAj{a}{b}{r}(h:qX n a b=some r):PQ G 171 [V.agg (nI a),V.agg (nI b)] (vB r):=by
 refine pq aU Tryz.func171 rfl fun w X hC=>aV hC [.z (.b (true)),.z (.b (true))] [2,3,4] [(2,V.tp (nD a)),(3,V.tp (nD b))] (qs ?_);obtain⟨x1,hx1,h⟩:=bd h;refine aV hC [oV (sH G hx1)] (fr 5 6) [(10,vB (!x1))] (aY h (fun c1 h=>?_) fun c1 h=>?_)
 ·cases h;exact aE hC [4] [(4,vB false)] zr
 refine qk (qs ?_);obtain⟨x2,hx2,h⟩:=bd h;refine aV hC [oV (aAn G n a.value b.value hx2)] (fr 11 6) [(16,vB (!x2))] (aY h (fun c2 h=>?_) fun c2 h=>?_)
 ·cases h;exact aE hC [4] [(4,vB false)] zr
 cases h;exact qk (aE hC [4] [(4,vB true)] zr)
theorem S2{a}{b}{r}(h:tC n a b=some r):PQ G 127 [vM aH a,vM aH b] (vB r):=by
 refine pq aU Tryz.func127 rfl fun w X hC=>bB hC [4] (qs (aV hC [oN aH a,oN aH b] (fr 6 5) [(10,vB (!decide ((a.length:Int)=(b.length:Int))))] (aY h (fun c1 h=>?_) fun c1 h=>?_)))
 ·cases h;exact aE hC [4] [(4,vB false)] zr
 refine qk (qs (aE hC [5] [(5,vI 0)] (qb (gK h (fun x_=>dO [(0,vM aH a),(1,vM aH b),(5,vI x_)]) lS ?_))));rintro again2 x1 h;refine qs (aV hC [oN aH a] (fr 11 4) [(14,vK x1 a)] (aY h (fun c2 h=>?_) fun c2 h=>?_))
 ·refine qk (dU (qs ?_));obtain⟨x3,hx3,x4,hx4,x5,hx5,h⟩:=M1 h;refine oD hC dV [oR aH hx3,oR aH hx4,oV (aAj G hx5)] (fr 17 10) [(26,vB (!x5))] (aY h (fun c3 h=>?_) fun c3 h=>qk (bA hC [5,15,16] [(5,vI (wr (x1+1)))] (lE h)));cases h;exact aE hC [4] [(4,vB false)] zr
 cases h;exact dN (aE hC [4] [(4,vB true)] zr)
theorem aAl{a}{b}{r}(h:qY n a b=some r):PQ G 82 [V.agg (vE a),V.agg (vE b)] (vB r):=by
 refine pq aU Tryz.func82 rfl fun w X hC=>aV hC [.z (.b (true)),.z (.b (true))] [2,3,4] [(2,V.tp (iS a)),(3,V.tp (iS b))] (qs ?_);obtain⟨x1,hx1,h⟩:=bd h;refine aV hC [oV (S4 G hx1)] (fr 5 6) [(10,vB (!x1))] (aY h (fun c1 h=>?_) fun c1 h=>?_)
 ·cases h;exact aE hC [4] [(4,vB false)] zr
 refine qk (qs ?_);obtain⟨x2,hx2,h⟩:=bd h;refine aV hC [oV (S2 G hx2)] (fr 11 6) [(16,vB (!x2))] (aY h (fun c2 h=>?_) fun c2 h=>?_)
 ·cases h;exact aE hC [4] [(4,vB false)] zr
 cases h;exact qk (aE hC [4] [(4,vB true)] zr)
theorem S3{a}{b}{r}(h:tD n a b=some r):PQ G 38 [vM aK a,vM aK b] (vB r):=by
 refine pq aU Tryz.func38 rfl fun w X hC=>bB hC [4] (qs (aV hC [oN aK a,oN aK b] (fr 6 5) [(10,vB (!decide ((a.length:Int)=(b.length:Int))))] (aY h (fun c1 h=>?_) fun c1 h=>?_)))
 ·cases h;exact aE hC [4] [(4,vB false)] zr
 refine qk (qs (aE hC [5] [(5,vI 0)] (qb (gK h (fun x_=>dO [(0,vM aK a),(1,vM aK b),(5,vI x_)]) lS ?_))));rintro again2 x1 h;refine qs (aV hC [oN aK a] (fr 11 4) [(14,vK x1 a)] (aY h (fun c2 h=>?_) fun c2 h=>?_))
 ·refine qk (dU (qs ?_));obtain⟨x3,hx3,x4,hx4,x5,hx5,h⟩:=M1 h;refine oD hC dV [oR aK hx3,oR aK hx4,oV (aAl G hx5)] (fr 17 10) [(26,vB (!x5))] (aY h (fun c3 h=>?_) fun c3 h=>qk (bA hC [5,15,16] [(5,vI (wr (x1+1)))] (lE h)));cases h;exact aE hC [4] [(4,vB false)] zr
 cases h;exact dN (aE hC [4] [(4,vB true)] zr)
theorem zY{a}{b}{r}(h:kW n a b=some r):PQ G 13 [V.agg (nJ a),V.agg (nJ b)] (vB r):=by
 refine pq aU Tryz.func13 rfl fun w X hC=>aV hC [.z (.b (true)),.z (.b (true))] [2,3,4] [(2,V.tp (cT a)),(3,V.tp (cT b))] (qs ?_);obtain⟨x1,hx1,h⟩:=bd h;refine aV hC [oV (L6 G hx1)] (fr 5 6) [(10,vB (!x1))] (aY h (fun c1 h=>?_) fun c1 h=>?_)
 ·cases h;exact aE hC [4] [(4,vB false)] zr
 refine qk (qs ?_);obtain⟨x2,hx2,h⟩:=bd h;refine aV hC [oV (S3 G hx2)] (fr 11 6) [(16,vB (!x2))] (aY h (fun c2 h=>?_) fun c2 h=>?_)
 ·cases h;exact aE hC [4] [(4,vB false)] zr
 cases h;exact qk (aE hC [4] [(4,vB true)] zr)
theorem jC{k}{r}(h:eK n k=some r):PQ G 83 [vI k] (vS r):=by
 refine pq aU Tryz.func83 rfl fun w X hC=>bB hC [2] (qs (aE hC [4,5] [(5,vD (k≤0))] (aY h (fun c1 h=>?_) fun c1 h=>?_)))
 ·obtain rfl:=so h;exact aE hC [2] [(2,vS [109,48])] zr
 refine qk (aE hC [3] [(3,vS [])] (dU (gK h (fun x_=>dO [(0,vI x_.1),(3,vS x_.2)]) lS ?_)));rintro again3 ⟨x1,x2⟩ h;refine qs (aE hC [6,7] [(7,vD ((0:Int)<x1))] (aY h (fun c2 h=>?_) fun c2 h=>?_))
 ·refine qk (qb ?_);obtain⟨x4,hx4,h⟩:=bd h;exact aV hC [.z (.y (UInt8.ofInt (wr (48+(Int.tmod x1 10))))),.z (.int 0),.z (.str [UInt8.ofInt (wr (48+(Int.tmod x1 10)))]),oQ (show(10:Int)≠0 by decide),oQ (Eq.refl (UInt8.ofInt (wr (48+(Int.tmod x1 10))))),oQ (Eq.refl (List.map jG [UInt8.ofInt (wr (48+(Int.tmod x1 10)))])),oS hx4] [3,8,9,10,11,12,13,14,15] [(3,vS x4)] (bR hC [oQ (show(10:Int)≠0 by decide)] [0,16,17] [(0,vI (wr (Int.tdiv x1 10)))] (lE h))
 refine dN ?_;obtain⟨x5,hx5,h⟩:=bd h;obtain rfl:=so h;exact aV hC [oS hx5] [2,18,19] [(2,vS x5)] zr
theorem pR{a}{k}{r}(h:iH n a k=some r):PQ G 16 [vM aJ a,vI k] (vI r):=by
 refine pq aU Tryz.func16 rfl fun w X hC=>bB hC [4] (qs (aE hC [5] [(5,vI 0)] (qb (gK h (fun x_=>dO [(0,vM aJ a),(1,vI x_.1),(5,vI x_.2)]) lS ?_))));rintro again3 ⟨x1,x2⟩ h;refine qs (aV hC [oN aJ a] (fr 6 4) [(9,vK x2 a)] (aY h (fun c1 h=>?_) fun c1 h=>?_))
 ·refine qk (dU (qs ?_));obtain⟨x4,hx4,h⟩:=bd h;refine aV hC [oR aJ hx4] (fr 12 7) [(18,vB (!decide (x4.kind=x1)))] (aY h (fun c2 h=>?_) fun c2 h=>?_)
  ·obtain rfl:=so h;exact aE hC [4] [(4,vI (-1))] zr
  refine qk (aE hC [1,19,20] [(1,vI (wr (x1+1)))] (qs (aV hC [oR aJ hx4] (fr 21 7) [(27,vB (!decide (x4.part=wr (x1+1))))] (aY h (fun c3 h=>?_) fun c3 h=>?_))))
  ·obtain rfl:=so h;exact aE hC [4] [(4,vI (-1))] zr
  refine qk (aE hC [1,28,29] [(1,vI (wr ((wr (x1+1))+1)))] (qs (aV hC [oR aJ hx4] (fr 30 7) [(36,vB (!decide (x4.a=wr ((wr (x1+1))+1))))] (aY h (fun c4 h=>?_) fun c4 h=>?_))))
  ·obtain rfl:=so h;exact aE hC [4] [(4,vI (-1))] zr
  refine qk (aE hC [1,37,38] [(1,vI (wr ((wr ((wr (x1+1))+1))+1)))] (qs (aV hC [oR aJ hx4] (fr 39 7) [(45,vB (!decide (x4.b=wr ((wr ((wr (x1+1))+1))+1))))] (aY h (fun c5 h=>?_) fun c5 h=>qk (bA hC [1,46,47] [(1,vI (wr ((wr ((wr ((wr (x1+1))+1))+1))+1)))] (bA hC [5,10,11] [(5,vI (wr (x2+1)))] (lE h)))))));obtain rfl:=so h;exact aE hC [4] [(4,vI (-1))] zr
 obtain rfl:=so h;exact dN (aE hC [4,48] [(4,vI x1)] zr)
end Go.Lift
