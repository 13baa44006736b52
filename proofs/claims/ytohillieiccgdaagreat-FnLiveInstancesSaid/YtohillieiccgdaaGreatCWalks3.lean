/- The walks: the code computes what the plain functions say. -/
import Derived.Test.YtohillieiccgdaaGreatCModels
import Derived.Test.YtohillieiccgdaaGreatCWalks2
set_option maxRecDepth 10000
set_option linter.unusedVariables false
namespace Go.Lift
open Go Go.Proofs
variable (G:GS) {n:Nat}
theorem l3(G:GS)(n:Nat)(s:List Access)(fF:FuncId)(fC0:List T)(fC1:List T)(f:Access→Option Bool)(hf: ∀(q0:Access) r,f q0=some r→PQ G fF [V.agg (dU q0),V.tp fC0,V.tp fC1] (vB r)){r:Bool}(h:cC n s f=some r):PQ G 187 [vM aO s,V.fn fF [V.tp fC0,V.tp fC1]] (vB r):=by
 unfold cC at h
 refine pq aN Tryz.func187 rfl fun w X hC=> ?_
 refine rq hC [] [4] [] [] [] ?_
 obtain⟨x1,hx1,h⟩:=bd h
 obtain rfl:=so h
 exact rq hC [oV (nR G n s fF fC0 fC1 f hf hx1)] (fr 4 5) [(4,vB (decide ((0:Int)≤x1)))] [] [] (qr eR)
theorem tC{p}{s}{point}{r}(h:eA n p s point=some r):PQ G 165 [V.agg (cD p),V.agg (gG s),vM rI point] (vB r):=by
 unfold eA at h
 refine pq aN Tryz.func165 rfl fun w X hC=> ?_
 refine rq hC [.z (.b (true)),.z (.b (true)),.z (.b (true))] (fr 3 4) [(3,V.tp (bR p)),(4,V.tp (rU s)),(5,V.tp [T.sl (List.map rI point)])] [] [] (vj h (fun x_=>bA [(6,vB x_)] [] []) (fun j1 h=> ?_) (fun x5 h=> ?_))
 ·
  obtain⟨x2,hx2,h⟩:=bd h
  refine aS h (fun c1 h=> ?_) (fun c1 h=> ?_)
  ·exact rk hC ([oV (cI G hx2)]++rF 7 c1) (fr 6 15) [(6,vB false)] [] [] (lE h)
  ·obtain⟨x3,hx3,x4,hx4,h⟩:=dI h
   exact rk hC ([oV (cI G hx2)]++rT 3 c1++[oC [] [20] (J4 G n s.value hx3),oT c1,oT c1,.z (.b (true)),oV (l3 G n x3 234 (bR p) [T.sl (List.map rI point)] (fun q0=>cG n q0 p point) (fun q0 r h=>qJ G n q0 p point h) hx4),oT c1,oT c1]) (fr 6 15) [(6,vB (!x4))] [(20,some (ar 107 1 2 aO x3))] [(20,true)] (lE h)
 ·obtain rfl:=so h
  exact qr eR
theorem qI(G:GS)(n:Nat)(n_a0:Int){r:Bool}(h:cV n n_a0=some r):PQ G 227 [vI n_a0] (vB r):=by
 unfold cV at h
 refine pq aN Tryz.func227 rfl fun w X hC=> ?_
 refine rq hC [] [2] [] [] [] ?_
 obtain⟨x1,hx1,h⟩:=bd h
 obtain rfl:=so h
 exact rq hC [oV (aZ G hx1)] (fr 2 4) [(2,vB (!x1))] [] [] (qr eR)
theorem uJ{list}{r}(h:lV n list=some r):PQ G 159 [vM aP list] (vB r):=by
 unfold lV at h
 refine pq aN Tryz.func159 rfl fun w X hC=> ?_
 refine rq hC [] [2] [] [] [] (qs (rq hC [oN aP list] [5,6,7] [(5,vM aP list),(6,vI (list.length:Int)),(7,vI 0)] [] [] (qb (jK h (fun x_=>bA [(0,vM aP list),(5,vM aP list),(6,vI (list.length:Int)),(7,vI x_)] [] []) lS ?_))))
 rintro again2 x1 h
 refine rq hC [] [8] [(8,vB (decide (x1<(list.length:Int))))] [] [] (qs (aR h (fun c1 h=> ?_) (fun c1 h=> ?_)))
 ·refine qk (qs (qb ?_))
  obtain⟨x3,hx3,h⟩:=bd h
  refine rq hC [oR aP hx3,.z (.nat 20)] [3,4,9,10,11] [(3,vI x1),(4,V.ref 20 0)] [(20,sc [vS x3.name,vM rI x3.dims])] [(20,true)] (vj h (fun x_=>bA [(0,vM aP list),(5,vM aP list),(6,vI (list.length:Int)),(7,vI x1),(42,vB x_)] [(20,E.cells [vS x3.name,vM rI x3.dims])] [20]) (fun j4 h=> ?_) (fun x11 h=> ?_))
  ·
   obtain⟨x5,hx5,h⟩:=bd h
   refine aS h (fun c2 h=> ?_) (fun c2 h=> ?_)
   ·refine aS h (fun c3 h=> ?_) (fun c3 h=> ?_)
    ·obtain⟨x6,hx6,h⟩:=bd h
     refine aS h (fun c4 h=> ?_) (fun c4 h=> ?_)
     ·obtain⟨x7,hx7,h⟩:=bd h
      exact dk hC bM ([oV (dT G hx5)]++rF 3 c2++rF 9 c3++[oF c2,oF c3,oF c2,eF,eF,eF,oN rI x3.dims,eF,oV (aZ G hx6),eF,eF]++rF 3 c4++[oV (cM G n x3.dims 227 (fun q0=>cV n q0) (fun q0 r h=>qI G n q0 h) hx7),oF c4]) (fr 12 31) [(42,vB x7)] [] [] (lE h)
     ·exact dk hC bM ([oV (dT G hx5)]++rF 3 c2++rF 9 c3++[oF c2,oF c3,oF c2,eF,eF,eF,oN rI x3.dims,eF,oV (aZ G hx6),eF,eF]++rT 4 c4) (fr 12 31) [(42,vB true)] [] [] (lE h)
    ·obtain⟨x8,hx8,h⟩:=bd h
     refine aS h (fun c5 h=> ?_) (fun c5 h=> ?_)
     ·obtain⟨x9,hx9,h⟩:=bd h
      refine aS h (fun c6 h=> ?_) (fun c6 h=> ?_)
      ·obtain⟨x10,hx10,h⟩:=bd h
       exact dk hC bM ([oV (dT G hx5)]++rF 3 c2++rT 4 c3++[oR aP hx8]++rT 5 c3++[oF c2,oT c3,oF c2]++rF 3 c5++[oN rI x3.dims,oF c5,oV (aZ G hx9),oF c5,oF c5]++rF 3 c6++[oV (cM G n x3.dims 227 (fun q0=>cV n q0) (fun q0 r h=>qI G n q0 h) hx10),oF c6]) (fr 12 31) [(42,vB x10)] [] [] (lE h)
      ·exact dk hC bM ([oV (dT G hx5)]++rF 3 c2++rT 4 c3++[oR aP hx8]++rT 5 c3++[oF c2,oT c3,oF c2]++rF 3 c5++[oN rI x3.dims,oF c5,oV (aZ G hx9),oF c5,oF c5]++rT 4 c6) (fr 12 31) [(42,vB true)] [] [] (lE h)
     ·exact dk hC bM ([oV (dT G hx5)]++rF 3 c2++rT 4 c3++[oR aP hx8]++rT 5 c3++[oF c2,oT c3,oF c2]++rT 6 c5++sT 4) (fr 12 31) [(42,vB true)] [] [] (lE h)
   ·exact dk hC bM ([oV (dT G hx5)]++rT 5 c2++sT 10) (fr 12 31) [(42,vB true)] [] [] (lE h)
  ·refine aR h (fun c7 h=> ?_) (fun c7 h=> ?_)
   ·obtain rfl:=so h
    exact rq hC [] [2] [(2,vB false)] [] [] (qr eR)
   ·exact qk (rk hC [] [7,43] [(7,vI (wr (x1+1)))] [] [] (lE h))
 ·obtain rfl:=so h
  exact cT (rq hC [oN aP list] [2,44,45,46] [(2,vB (decide ((list.length:Int)≤4)))] [] [] (qr eR))
theorem pD(G:GS)(n:Nat)(s:List Stmt)(fF:FuncId)(fC0:List T)(f:Stmt→Option Bool)(hf: ∀(q0:Stmt) r,f q0=some r→PQ G fF [V.agg (gG q0),V.tp fC0] (vB r)){r:Int}(h:fR n s f=some r):PQ G 230 [vM aY s,V.fn fF [V.tp fC0]] (vI r):=by
 unfold fR at h
 refine pq aN Tryz.func230 rfl fun w X hC=> ?_
 refine rq hC [] [4] [] [] [] (qs (rq hC [oN aY s] [6,7,8] [(7,vI (s.length:Int)),(8,vI 0)] [] [] (qb (jK h (fun x_=>bA [(0,vM aY s),(1,V.fn fF [V.tp fC0]),(7,vI (s.length:Int)),(8,vI x_)] [] []) lS ?_))))
 rintro again2 x1 h
 refine rq hC [] [9] [(9,vB (decide (x1<(s.length:Int))))] [] [] (qs (aR h (fun c1 h=> ?_) (fun c1 h=> ?_)))
 ·refine qk (qs (qb (rq hC [] [5,10] [(5,vI x1)] [] [] ?_)))
  obtain⟨x3,hx3,x4,hx4,h⟩:=dI h
  refine rq hC [oR aY hx3,oV (hf x3 _ hx4)] (fr 11 6) [(16,vB x4)] [] [] (aR h (fun c2 h=> ?_) (fun c2 h=> ?_))
  ·obtain rfl:=so h
   exact rq hC [] [4,17] [(4,vI x1)] [] [] (qr eR)
  ·exact qk (rk hC [] [8,18] [(8,vI (wr (x1+1)))] [] [] (lE h))
 ·obtain rfl:=so h
  exact cT (rq hC [] [4] [(4,vI (-1))] [] [] (qr eR))
theorem mV(G:GS)(n:Nat)(s:List Stmt)(fF:FuncId)(fC0:List T)(f:Stmt→Option Bool)(hf: ∀(q0:Stmt) r,f q0=some r→PQ G fF [V.agg (gG q0),V.tp fC0] (vB r)){r:Bool}(h:cU n s f=some r):PQ G 161 [vM aY s,V.fn fF [V.tp fC0]] (vB r):=by
 unfold cU at h
 refine pq aN Tryz.func161 rfl fun w X hC=> ?_
 refine rq hC [] [4] [] [] [] ?_
 obtain⟨x1,hx1,h⟩:=bd h
 obtain rfl:=so h
 exact rq hC [oV (pD G n s fF fC0 f hf hx1)] (fr 4 5) [(4,vB (decide ((0:Int)≤x1)))] [] [] (qr eR)
theorem fA{p}{r}(h:bP n p=some r):VQ G 67 [] [V.agg (cD p)] (V.tup [ms 0 1 3 aJ r.1,vB r.2]) [ar 38 1 3 aJ r.1]:=by
 unfold bP at h
 refine vq aN Tryz.func67 rfl fun w X β0 hC hg=> ?_
 refine rq hC [.z (.b (true))] [1,2,3] [(1,V.tp (bR p))] [] [] (qs (vj h (fun x_=>bA [(1,V.tp (bR p)),(22,vB x_)] [] []) (fun j1 h=> ?_) (fun x3 h=> ?_)))
 ·
  obtain⟨x2,hx2,h⟩:=bd h
  refine aS h (fun c1 h=> ?_) (fun c1 h=> ?_)
  ·exact rk hC ([oV (uJ G hx2)]++rF 3 c1++[oN aH p.parts,oF c1,oF c1]) (fr 13 10) [(22,vB (decide ((4:Int)<(p.parts.length:Int))))] [] [] (lE h)
  ·exact rk hC ([oV (uJ G hx2)]++rT 5 c1) (fr 13 10) [(22,vB true)] [] [] (lE h)
 ·refine aR h (fun c2 h=> ?_) (fun c2 h=> ?_)
  ·obtain rfl:=so h
   exact rq hC [] [2,3] [(2,V.t T.nilS),(3,vB false)] [] [] (qw (lk hC [.grow 2 0 38] [2] [(2,ms 0 1 3 aJ [])] [(0,some (ar 38 1 3 aJ []))] [(0,true)]) (qr eW))
  ·refine qk (rq hC [] [4] [(4,V.t T.nilS)] [] [] (qs (rq hC [oN aH p.parts] (fr 23 4) [(24,vM aH p.parts),(25,vI (p.parts.length:Int)),(26,vI 0)] [] [] (qb (qw (lk hC [.grow 4 20 38] [4] [(4,ms 20 1 3 aJ [])] [(20,some (ar 38 1 3 aJ []))] [(20,true)]) ?_)))))
   refine bG (γ:=Nat) h (fun x_ g_=>bA [(1,V.tp (bR p)),(4,ms 20 g_ 3 aJ x_.1),(24,vM aH p.parts),(25,vI (p.parts.length:Int)),(26,vI x_.2)] [(20,ar 38 g_ 3 aJ x_.1)] [20]) 1 (lS) ?_
   rintro again7 ⟨x4,x5⟩ g6 h
   refine rq hC [] [27] [(27,vB (decide (x5<(p.parts.length:Int))))] [] [] (qs (aR h (fun c3 h=> ?_) (fun c3 h=> ?_)))
   ·refine qk (qs (qb ?_))
    obtain⟨x8,hx8,h⟩:=bd h
    refine rq hC [oR aH hx8,.z (.nat 21),.z (.at 0),.z (.fp 21 [6])] [5,6,28,29,30] [(5,vI x5),(6,V.tp (pF x8))] [(21,none)] [(21,true)] ?_
    obtain⟨x9,hx9,h⟩:=bd h
    refine rq hC [oC [] [22] (D0 G hx9)] [7,8,31,32,33,34,35,36] [(7,ms 22 1 1 (rL rI) x9.1),(8,vB x9.2)] [(22,some (ar 27 1 1 (rL rI) x9.1))] [(22,true)] (qs (vj h (fun x_=>bA [(1,V.tp (bR p)),(4,ms 20 g6 3 aJ x4),(5,vI x5),(6,V.tp (pF x8)),(7,ms 22 1 1 (rL rI) x9.1),(24,vM aH p.parts),(25,vI (p.parts.length:Int)),(26,vI x5),(51,vB x_)] [(20,ar 38 g6 3 aJ x4),(22,ar 27 1 1 (rL rI) x9.1)] [20,21,22]) (fun j10 h=> ?_) (fun x13 h=> ?_)))
    ·
     refine aS h (fun c4 h=> ?_) (fun c4 h=> ?_)
     ·obtain⟨x11,hx11,h⟩:=bd h
      refine aS h (fun c5 h=> ?_) (fun c5 h=> ?_)
      ·obtain⟨x12,hx12,h⟩:=bd h
       exact rk hC (rF 3 c4++[oN aY x8.body,oF c4,oV (aZ G hx11),oF c4,oF c4]++rF 4 c5++[oV (mV G n x8.body 162 (pF x8) (fun q0=>bX n q0 x8) (fun q0 r h=>nU G n q0 x8 h) hx12),oF c5]) (fr 37 15) [(51,vB x12)] [] [] (lE h)
      ·exact rk hC (rF 3 c4++[oN aY x8.body,oF c4,oV (aZ G hx11),oF c4,oF c4]++rT 5 c5) (fr 37 15) [(51,vB true)] [] [] (lE h)
     ·exact rk hC (rT 6 c4++sT 5) (fr 37 15) [(51,vB true)] [] [] (lE h)
    ·refine aR h (fun c6 h=> ?_) (fun c6 h=> ?_)
     ·obtain rfl:=so h
      exact rq hC [] [2,3] [(2,V.t T.nilS),(3,vB false)] [] [] (qw (lk hC [.grow 2 0 38] [2] [(2,ms 0 1 3 aJ [])] [(0,some (ar 38 1 3 aJ []))] [(0,true)]) (qr eW))
     ·refine qk (rq hC [oN (rL rI) x9.1] [52,53,54] [(52,ms 22 1 1 (rL rI) x9.1),(53,vI (x9.1.length:Int)),(54,vI 0)] [] [] (qb (bG (γ:=Nat) h (fun x_ g_=>bA [(1,V.tp (bR p)),(4,ms 20 g_ 3 aJ x_.1),(5,vI x5),(6,V.tp (pF x8)),(24,vM aH p.parts),(25,vI (p.parts.length:Int)),(26,vI x5),(52,ms 22 1 1 (rL rI) x9.1),(53,vI (x9.1.length:Int)),(54,vI x_.2)] [(20,ar 38 g_ 3 aJ x_.1),(22,ar 27 1 1 (rL rI) x9.1)] [20,21,22]) g6 (lS) ?_)))
      rintro again17 ⟨x14,x15⟩ g16 h
      refine rq hC [] [55] [(55,vB (decide (x15<(x9.1.length:Int))))] [] [] (qs (aR h (fun c7 h=> ?_) (fun c7 h=> ?_)))
      ·refine qk (qs (qb ?_))
       obtain⟨x18,hx18,h⟩:=bd h
       refine rq hC [oQ (jU (rL rI) hx18),oX (rL rI) hx18] [10,56,57] [(10,vM rI x18)] [] [] (qs ?_)
       obtain⟨x19,hx19,h⟩:=bd h
       refine rq hC [oV (qH G hx19)] [58,59,60] [(60,vB (!x19))] [] [] (aR h (fun c8 h=> ?_) (fun c8 h=> ?_))
       ·obtain rfl:=so h
        exact rq hC [] [2,3] [(2,V.t T.nilS),(3,vB false)] [] [] (qw (lk hC [.grow 2 0 38] [2] [(2,ms 0 1 3 aJ [])] [(0,some (ar 38 1 3 aJ []))] [(0,true)]) (qr eW))
       ·refine qk (rq hC [oN aY x8.body] (fr 61 4) [(62,vM aY x8.body),(63,vI (x8.body.length:Int)),(64,vI 0)] [] [] (qb (bG (γ:=Nat) h (fun x_ g_=>bA [(1,V.tp (bR p)),(4,ms 20 g_ 3 aJ x_.1),(5,vI x5),(6,V.tp (pF x8)),(10,vM rI x18),(24,vM aH p.parts),(25,vI (p.parts.length:Int)),(26,vI x5),(52,ms 22 1 1 (rL rI) x9.1),(53,vI (x9.1.length:Int)),(54,vI x15),(62,vM aY x8.body),(63,vI (x8.body.length:Int)),(64,vI x_.2)] [(20,ar 38 g_ 3 aJ x_.1),(22,ar 27 1 1 (rL rI) x9.1)] [20,21,22]) g16 (lS) ?_)))
        rintro again23 ⟨x20,x21⟩ g22 h
        refine rq hC [] [65] [(65,vB (decide (x21<(x8.body.length:Int))))] [] [] (qs (aR h (fun c9 h=> ?_) (fun c9 h=> ?_)))
        ·refine qk (qs (qb ?_))
         obtain⟨x24,hx24,h⟩:=bd h
         refine rq hC [oR aY hx24,.z (.nat 23)] [11,12,66,67,68] [(11,vI x21),(12,V.ref 23 0)] [(23,some (E.cells (gG x24)))] [(23,true)] (qs ?_)
         obtain⟨x25,hx25,h⟩:=bd h
         refine rq hC [oV (tC G hx25)] (fr 69 5) [(73,vB (!x25))] [] [] (aR h (fun c10 h=> ?_) (fun c10 h=> ?_))
         ·obtain rfl:=so h
          exact rq hC [] [2,3] [(2,V.t T.nilS),(3,vB false)] [] [] (qw (lk hC [.grow 2 0 38] [2] [(2,ms 0 1 3 aJ [])] [(0,some (ar 38 1 3 aJ []))] [(0,true)]) (qr eW))
         ·refine qk ?_
          obtain⟨x26,hx26,x27,hx27,h⟩:=dI h
          exact rk hC [oC [] [24] (G.clone x18 hx26),.z (.at 4),.z (.fz 24 [78] []),.z (.int 0),oA (aT aJ hx27),oQ (b9 (r:=aJ) 3 q7 x20),oQ (b9 (r:=aJ) 3 q7 [(⟨x5,x21,x26⟩:Inst)])] [4,74,75,76,77,78,79,80,81] [(4,ms 20 (g22+1) 3 aJ x27)] [(24,none),(20,some (ar 38 (g22+1) 3 aJ x27))] [(24,true)] (rk hC [] [64,82] [(64,vI (wr (x21+1)))] [] [] ⟨(x27,wr (x21+1)),(g22+1),h,lS⟩)
        ·exact cT (rk hC [] [54,83] [(54,vI (wr (x15+1)))] [] [] ⟨(x20,wr (x15+1)),g22,h,lS⟩)
      ·exact cT (rk hC [] [26,84] [(26,vI (wr (x5+1)))] [] [] ⟨(x14,wr (x5+1)),g16,h,lS⟩)
   ·obtain rfl:=so h
    exact cT (rq hC [oN aJ x4] [2,3,85,86,87,88] [(2,ms 20 g6 3 aJ x4),(3,vB (decide ((x4.length:Int)≤120)))] [] [] (qw (lk hC [.ren 2 20 0] [2] [(2,ms 0 1 3 aJ x4)] [(0,some (ar 38 1 3 aJ x4)),(20,none)] [(0,true)]) (qr eW)))
theorem nT{p}{x}{r}(h:cK n p x=some r):PQ G 98 [V.agg (cD p),V.agg (D2 x)] (V.agg (gG r)):=by
 unfold cK at h
 refine pq aN Tryz.func98 rfl fun w X hC=> ?_
 refine rq hC [.z (.b (true)),.z (.b (true)),.z (.nat 20)] [2,3,4] [(2,V.tp (bR p)),(3,V.tp (yD x)),(4,V.ref 20 0)] [(20,sc [vS [],V.t T.nilS,vI 0,vI 0,V.t T.nilS,vI 0,vS [],V.t T.nilS,V.t T.nilS])] [(20,true)] (qs ?_)
 obtain⟨x1,hx1,x2,hx2,h⟩:=dI h
 obtain rfl:=so h
 exact dk hC bM [oR aH hx1,oR aY hx2] (fr 5 11) [] [(20,some (E.cells (gG x2)))] [] (qr eR)
theorem rQ{p}{x}{r}(h:dS n p x=some r):VQ G 149 [] [V.agg (cD p),V.agg (D2 x)] (V.tup [ms 0 1 1 rI r.1,vI r.2]) [ar 3 1 1 rI r.1]:=by
 unfold dS at h
 refine vq aN Tryz.func149 rfl fun w X β0 hC hg=> ?_
 refine rq hC [.z (.b (true)),.z (.b (true))] (fr 2 4) [(2,V.tp (bR p)),(3,V.tp (yD x))] [] [] ?_
 obtain⟨x1,hx1,h⟩:=bd h
 refine rq hC [oV (nT G hx1),.z (.nat 20)] [6,10,11,12] [(6,V.ref 20 0)] [(20,some (E.cells (gG x1)))] [(20,true)] (rq hC [] [7] [(7,V.t T.nilS)] [] [] (qs ?_))
 obtain⟨x2,hx2,h⟩:=bd h
 refine rq hC [oC [] [21] (J4 G n x1.value hx2),oN aO x2] (fr 13 5) [(15,ms 21 1 2 aO x2),(16,vI (x2.length:Int)),(17,vI 0)] [(21,some (ar 107 1 2 aO x2))] [(21,true)] (qb (qw (lk hC [.grow 7 22 3] [7] [(7,ms 22 1 1 rI [])] [(22,some (ar 3 1 1 rI []))] [(22,true)]) (bG (γ:=Nat) h (fun x_ g_=>bA [(2,V.tp (bR p)),(3,V.tp (yD x)),(6,V.ref 20 0),(7,ms 22 g_ 1 rI x_.1),(15,ms 21 1 2 aO x2),(16,vI (x2.length:Int)),(17,vI x_.2)] [(20,E.cells (gG x1)),(21,ar 107 1 2 aO x2),(22,ar 3 g_ 1 rI x_.1)] [20,21,22]) 1 (lS) ?_)))
 rintro again6 ⟨x3,x4⟩ g5 h
 refine rq hC [] [18] [(18,vB (decide (x4<(x2.length:Int))))] [] [] (qs (aR h (fun c1 h=> ?_) (fun c1 h=> ?_)))
 ·refine qk (qs (qb ?_))
  obtain⟨x7,hx7,h⟩:=bd h
  refine rq hC [oQ (jU aO hx7),oX aO hx7,.z (.nat 23)] [9,19,20] [(9,V.ref 23 0)] [(23,some (E.cells (dU x7)))] [(23,true)] ?_
  obtain⟨x8,hx8,x9,hx9,h⟩:=dI h
  exact rk hC [oV (cI G hx8),.z (.int 0),oA (aT rI hx9),oQ (b9 (r:=rI) 1 (fun _=>rfl) x3),oQ (b9 (r:=rI) 1 (fun _=>rfl) [x8])] [7,21,22,23,24,25,26,27,28] [(7,ms 22 (g5+1) 1 rI x9)] [(22,some (ar 3 (g5+1) 1 rI x9))] [] (rk hC [] [17,29] [(17,vI (wr (x4+1)))] [] [] ⟨(x9,wr (x4+1)),(g5+1),h,lS⟩)
 ·refine cT ?_
  obtain⟨x10,hx10,h⟩:=bd h
  obtain rfl:=so h
  exact rq hC [oV (cI G hx10)] [4,5,30,31,32,33,34,35,36] [(4,ms 22 g5 1 rI x3),(5,vI x10)] [] [] (qw (lk hC [.ren 4 22 0] [4] [(4,ms 0 1 1 rI x3)] [(0,some (ar 3 1 1 rI x3)),(22,none)] [(0,true)]) (qr eW))
theorem rJ{p}{r}(h:rC n p=some r):PQ G 59 [V.agg (cD p)] (V.tup [vP aEJ r.1,vB r.2]):=by
 unfold rC at h
 refine pmr aN Tryz.func59 rfl rfl rfl rfl rfl (aHb _ _ _) rfl ?_
 intro w X hC
 refine rq hC [.z (.b (true))] [1,2,3] [(1,V.tp (bR p))] [] [] ?_
 obtain⟨x1,hx1,h⟩:=bd h
 refine rq hC [oC [] [20] (fA G hx1)] [4,5,11,12,13,14,15] [(4,ms 20 1 3 aJ x1.1),(5,vB x1.2)] [(20,some (ar 38 1 3 aJ x1.1))] [(20,true)] (qs (rq hC [] [16,17] [(17,vB (!x1.2))] [] [] (aR h (fun c1 h=> ?_) (fun c1 h=> ?_))))
 ·obtain rfl:=so h
  exact rq hC [] [2,3] [(2,V.t T.nilP),(3,vB false)] [] [] (qr eR)
 ·refine qk (rq hC [.z (.nat 21)] [6,18,19,20,21] [(6,V.ref 21 0)] [(21,sc [vM aP p.arrays,vM aH p.parts,ms 20 1 3 aJ x1.1,V.t T.nilS,V.t T.nilS])] [(21,true)] (qs (rq hC [oN aJ x1.1] [22,23,24] [(22,ms 20 1 3 aJ x1.1),(23,vI (x1.1.length:Int)),(24,vI 0)] [] [] (qb (qw (lk hC [.growc 21 3 22 27] [] [] [(22,some (ar 27 1 1 (rL rI) [])),(21,sc [vM aP p.arrays,vM aH p.parts,ms 20 1 3 aJ x1.1,ms 22 1 1 (rL rI) [],V.t T.nilS])] [(22,true)]) ?_)))))
  refine qw (lk hC [.growc 21 4 23 3] [] [] [(23,some (ar 3 1 1 rI [])),(21,sc [vM aP p.arrays,vM aH p.parts,ms 20 1 3 aJ x1.1,ms 22 1 1 (rL rI) [],ms 23 1 1 rI []])] [(23,true)]) (bG (γ:=Nat×Nat) h (fun x_ g_=>bA [(1,V.tp (bR p)),(6,V.ref 21 0),(22,ms 20 1 3 aJ x1.1),(23,vI (x1.1.length:Int)),(24,vI x_.2.2)] [(20,ar 38 1 3 aJ x1.1),(21,E.cells [vM aP p.arrays,vM aH p.parts,ms 20 1 3 aJ x1.1,ms 22 g_.1 1 (rL rI) x_.1,ms 23 g_.2 1 rI x_.2.1]),(22,ar 27 g_.1 1 (rL rI) x_.1),(23,ar 3 g_.2 1 rI x_.2.1)] [20,21,22,23]) (1,1) (lS) ?_)
  rintro again7 ⟨x2,x3,x4⟩ ⟨g5,g6⟩ h
  refine rq hC [] [25] [(25,vB (decide (x4<(x1.1.length:Int))))] [] [] (qs (aR h (fun c2 h=> ?_) (fun c2 h=> ?_)))
  ·refine qk (qs (qb ?_))
   obtain⟨x8,hx8,h⟩:=bd h
   refine rq hC [oQ (jU aJ hx8),oX aJ hx8,.z (.nat 24)] [8,26,27] [(8,V.ref 24 0)] [(24,some (E.cells (D2 x8)))] [(24,true)] ?_
   obtain⟨x9,hx9,h⟩:=bd h
   refine rq hC [oC [] [25] (rQ G hx9)] [9,10,28,29,30,31,32,33] [(9,ms 25 1 1 rI x9.1),(10,vI x9.2)] [(25,some (ar 3 1 1 rI x9.1))] [(25,true)] ?_
   obtain⟨x10,hx10,x11,hx11,h⟩:=dI h
   exact dk hC bM [.z (.at 15),.z (.fz 25 [9,40] []),.z (.int 0),oA (aT (rL rI) hx10),.z (.int 0),oQ (b9 (r:=(rL rI)) 1 (fun _=>rfl) x2),oQ (b9 (r:=(rL rI)) 1 (fun _=>rfl) [x9.1]),oA (aT rI hx11),oQ (b9 (r:=rI) 1 (fun _=>rfl) x3),oQ (b9 (r:=rI) 1 (fun _=>rfl) [x9.2])] [9,34,35,36,37,38,39,40,41,42,43,44,45,46,47,48,49,50,51,52,53] [] [(25,none),(22,some (ar 27 (g5+1) 1 (rL rI) x10)),(23,some (ar 3 (g6+1) 1 rI x11)),(21,sc [vM aP p.arrays,vM aH p.parts,ms 20 1 3 aJ x1.1,ms 22 (g5+1) 1 (rL rI) x10,ms 23 (g6+1) 1 rI x11])] [] (rk hC [] [24,54] [(24,vI (wr (x4+1)))] [] [] ⟨(x10,x11,wr (x4+1)),((g5+1),(g6+1)),h,lS⟩)
  ·obtain rfl:=so h
   exact cT (rq hC [] [2,3,55] [(2,V.ref 21 0),(3,vB true)] [] [] (qw (lk hC [.fz 20 [22] [21],.fz 22 [] [21],.fz 23 [] [21],.fp 21 [2,6]] [2,6,22] [(2,V.tp [T.sl (List.map aP p.arrays),T.sl (List.map aH p.parts),T.sl (List.map aJ x1.1),T.sl (List.map (rL rI) x2),T.sl (List.map rI x3)]),(6,V.tp [T.sl (List.map aP p.arrays),T.sl (List.map aH p.parts),T.sl (List.map aJ x1.1),T.sl (List.map (rL rI) x2),T.sl (List.map rI x3)]),(22,vM aJ x1.1)] [(21,none),(20,none),(22,none),(23,none)] []) (qr eR)))
theorem F0{s}{v}{r}(h:mF n s v=some r):PQ G 194 [vM rI s,vI v] (vI r):=by
 unfold mF at h
 refine pq aN Tryz.func194 rfl fun w X hC=> ?_
 refine rq hC [] [4] [] [] [] (qs (rq hC [oN rI s] [6,7,8] [(7,vI (s.length:Int)),(8,vI 0)] [] [] (qb (jK h (fun x_=>bA [(0,vM rI s),(1,vI v),(7,vI (s.length:Int)),(8,vI x_)] [] []) lS ?_))))
 rintro again2 x1 h
 refine rq hC [] [9] [(9,vB (decide (x1<(s.length:Int))))] [] [] (qs (aR h (fun c1 h=> ?_) (fun c1 h=> ?_)))
 ·refine qk (qs (qb (rq hC [] [5,10] [(5,vI x1)] [] [] ?_)))
  obtain⟨x3,hx3,h⟩:=bd h
  refine rq hC [oR rI hx3] (fr 11 6) [(16,vB (decide (v=x3)))] [] [] (aR h (fun c2 h=> ?_) (fun c2 h=> ?_))
  ·obtain rfl:=so h
   exact rq hC [] [4,17] [(4,vI x1)] [] [] (qr eR)
  ·exact qk (rk hC [] [8,18] [(8,vI (wr (x1+1)))] [] [] (lE h))
 ·obtain rfl:=so h
  exact cT (rq hC [] [4] [(4,vI (-1))] [] [] (qr eR))
theorem nS{s}{v}{r}(h:d8 n s v=some r):PQ G 150 [vM rI s,vI v] (vB r):=by
 unfold d8 at h
 refine pq aN Tryz.func150 rfl fun w X hC=> ?_
 refine rq hC [] [4] [] [] [] ?_
 obtain⟨x1,hx1,h⟩:=bd h
 obtain rfl:=so h
 exact rq hC [oV (F0 G hx1)] (fr 4 5) [(4,vB (decide ((0:Int)≤x1)))] [] [] (qr eR)
theorem uI{t}{i}{r}(h:eS n t i=some r):PQ G 60 [V.tp [T.sl (List.map aP t.program.arrays),T.sl (List.map aH t.program.parts),T.sl (List.map aJ t.list),T.sl (List.map (rL rI) t.reads),T.sl (List.map rI t.writes)],vI i] (vB r):=by
 unfold eS at h
 refine pq aN Tryz.func60 rfl fun w X hC=> ?_
 refine rq hC [] [4] [] [] [] (qs (rq hC [] [5,6,7] [(5,vI (wr (i+1)))] [] [] (qb (jK h (fun x_=>bA [(0,V.tp [T.sl (List.map aP t.program.arrays),T.sl (List.map aH t.program.parts),T.sl (List.map aJ t.list),T.sl (List.map (rL rI) t.reads),T.sl (List.map rI t.writes)]),(1,vI i),(5,vI x_)] [] []) lS ?_))))
 rintro again2 x1 h
 refine qs (rq hC [oN aJ t.list] (fr 8 7) [(14,vB (decide (x1<(t.list.length:Int))))] [] [] (aR h (fun c1 h=> ?_) (fun c1 h=> ?_)))
 ·refine qk (qs (qb (qs (qs ?_))))
  obtain⟨x3,hx3,x4,hx4,x5,hx5,h⟩:=mO h
  refine dk hC bM [oR (rL rI) hx3,oR rI hx4,oV (nS G hx5)] (fr 17 15) [(31,vB x5)] [] [] (aR h (fun c2 h=> ?_) (fun c2 h=> ?_))
  ·obtain rfl:=so h
   exact rq hC [] [4] [(4,vB false)] [] [] (qr eR)
  ·refine qk (qs ?_)
   obtain⟨x6,hx6,h⟩:=bd h
   refine dk hC bM [oR rI hx6,oR rI hx4] (fr 32 15) [(46,vB (decide (x6=x4)))] [] [] (aR h (fun c3 h=> ?_) (fun c3 h=> ?_))
   ·obtain rfl:=so h
    exact rq hC [] [4] [(4,vB true)] [] [] (qr eR)
   ·exact qk (rk hC [] [5,15,16] [(5,vI (wr (x1+1)))] [] [] (lE h))
 ·obtain rfl:=so h
  exact cT (rq hC [] [4] [(4,vB false)] [] [] (qr eR))
theorem uN{p}{r}(h:eV n p=some r):VQ G 15 [] [V.agg (cD p)] (ms 0 1 1 rI r) [ar 3 1 1 rI r]:=by
 unfold eV at h
 refine vq aN Tryz.func15 rfl fun w X β0 hC hg=> ?_
 refine rq hC [.z (.b (true))] [1,2] [(1,V.tp (bR p))] [] [] (qs ?_)
 obtain⟨x1,hx1,h⟩:=bd h
 refine aS h (fun c1 h=> ?_) (fun c1 h=> ?_)
 ·refine rk hC [.z (.v (V.tup [V.t T.nilP,vB x1.2])),oQ (vPn c1 (rJ G hx1))] [3,4,7,8,9,10,11] [(3,V.t T.nilP),(4,vB x1.2)] [] [] (qs (rq hC [] [12,13] [(13,vB (!x1.2))] [] [] (aR h (fun c2 h=> ?_) (fun c2 h=> ?_))))
  ·obtain rfl:=so h
   exact rq hC [] [2] [(2,V.t T.nilS)] [] [] (qw (lk hC [.grow 2 0 3] [2] [(2,ms 0 1 1 rI [])] [(0,some (ar 3 1 1 rI []))] [(0,true)]) (qr eW))
  ·exact qk (rq hC [] [5] [(5,V.t T.nilS)] [] [] (qs (qs (nof h))))
 ·refine rk hC [.z (.v (V.tup [V.tp [T.sl (List.map aP (((x1.1.getD default).program).arrays)),T.sl (List.map aH (((x1.1.getD default).program).parts)),T.sl (List.map aJ ((x1.1.getD default).list)),T.sl (List.map (rL rI) ((x1.1.getD default).reads)),T.sl (List.map rI ((x1.1.getD default).writes))],vB x1.2])),oQ (vPs c1 (rJ G hx1))] [3,4,7,8,9,10,11] [(3,V.tp [T.sl (List.map aP (((x1.1.getD default).program).arrays)),T.sl (List.map aH (((x1.1.getD default).program).parts)),T.sl (List.map aJ ((x1.1.getD default).list)),T.sl (List.map (rL rI) ((x1.1.getD default).reads)),T.sl (List.map rI ((x1.1.getD default).writes))]),(4,vB x1.2)] [] [] (qs (rq hC [] [12,13] [(13,vB (!x1.2))] [] [] (aR h (fun c3 h=> ?_) (fun c3 h=> ?_))))
  ·obtain rfl:=so h
   exact rq hC [] [2] [(2,V.t T.nilS)] [] [] (qw (lk hC [.grow 2 0 3] [2] [(2,ms 0 1 1 rI [])] [(0,some (ar 3 1 1 rI []))] [(0,true)]) (qr eW))
  ·refine qk (rq hC [] [5] [(5,V.t T.nilS)] [] [] (qs (rq hC [oN aJ ((x1.1.getD default).list)] (fr 14 6) [(18,vI (((x1.1.getD default).list).length:Int)),(19,vI 0)] [] [] (qb (qw (lk hC [.grow 5 20 3] [5] [(5,ms 20 1 1 rI [])] [(20,some (ar 3 1 1 rI []))] [(20,true)]) ?_)))))
   refine bG (γ:=Nat) h (fun x_ g_=>bA [(3,V.tp [T.sl (List.map aP (((x1.1.getD default).program).arrays)),T.sl (List.map aH (((x1.1.getD default).program).parts)),T.sl (List.map aJ ((x1.1.getD default).list)),T.sl (List.map (rL rI) ((x1.1.getD default).reads)),T.sl (List.map rI ((x1.1.getD default).writes))]),(5,ms 20 g_ 1 rI x_.1),(18,vI (((x1.1.getD default).list).length:Int)),(19,vI x_.2)] [(20,ar 3 g_ 1 rI x_.1)] [20]) 1 (lS) ?_
   rintro again5 ⟨x2,x3⟩ g4 h
   refine rq hC [] [20] [(20,vB (decide (x3<(((x1.1.getD default).list).length:Int))))] [] [] (qs (aR h (fun c4 h=> ?_) (fun c4 h=> ?_)))
   ·refine qk ?_
    obtain⟨j6,hj6,h⟩:=vH h
    refine iA (γ:=Nat) (j:=j6) (r:=r) (fun x_ g_=>bA [(3,V.tp [T.sl (List.map aP (((x1.1.getD default).program).arrays)),T.sl (List.map aH (((x1.1.getD default).program).parts)),T.sl (List.map aJ ((x1.1.getD default).list)),T.sl (List.map (rL rI) ((x1.1.getD default).reads)),T.sl (List.map rI ((x1.1.getD default).writes))]),(5,ms 20 g_ 1 rI x_),(18,vI (((x1.1.getD default).list).length:Int)),(19,vI x3)] [(20,ar 3 g_ 1 rI x_)] [20]) ?_ ?_
    ·
     refine qb (rq hC [] [6,21] [(6,vI x3)] [] [] ?_)
     obtain⟨x7,hx7,h⟩:=bd h
     refine rq hC [oV (uI G hx7)] [22,23,24] [(24,vB x7)] [] [] (aR h (fun c5 h=> ?_) (fun c5 h=> ?_))
     ·obtain⟨x8,hx8,h⟩:=bd h
      exact rk hC [.z (.int 0),oA (aT rI hx8),oQ (b9 (r:=rI) 1 (fun _=>rfl) x2),oQ (b9 (r:=rI) 1 (fun _=>rfl) [x3])] [5,25,26,27,28] [(5,ms 20 (g4+1) 1 rI x8)] [(20,some (ar 3 (g4+1) 1 rI x8))] [] ⟨x8,(g4+1),h,lS⟩
     ·exact qk ⟨x2,g4,h,lS⟩
    ·rintro x9 g10 h
     subst hj6
     exact rk hC [] [19,29] [(19,vI (wr (x3+1)))] [] [] ⟨(x9,wr (x3+1)),g10,h,lS⟩
   ·obtain rfl:=so h
    exact cT (rq hC [] [2,30] [(2,ms 20 g4 1 rI x2)] [] [] (qw (lk hC [.ren 2 20 0] [2] [(2,ms 0 1 1 rI x2)] [(0,some (ar 3 1 1 rI x2)),(20,none)] [(0,true)]) (qr eW)))
theorem kA{p}{r}(h:cH n p=some r):VQ G 19 [] [V.agg (cD p)] (ms 0 1 3 aJ r) [ar 38 1 3 aJ r]:=by
 unfold cH at h
 refine vq aN Tryz.func19 rfl fun w X β0 hC hg=> ?_
 refine rq hC [.z (.b (true))] [1,2] [(1,V.tp (bR p))] [] [] ?_
 obtain⟨x1,hx1,h⟩:=bd h
 refine rq hC [oC [] [20] (fA G hx1)] (fr 3 7) [(3,ms 20 1 3 aJ x1.1),(4,vB x1.2)] [(20,some (ar 38 1 3 aJ x1.1))] [(20,true)] (qs (rq hC [] [10,11] [(11,vB (!x1.2))] [] [] (aR h (fun c1 h=> ?_) (fun c1 h=> ?_))))
 ·obtain rfl:=so h
  exact rq hC [] [2] [(2,V.t T.nilS)] [] [] (qw (lk hC [.grow 2 0 38] [2] [(2,ms 0 1 3 aJ [])] [(0,some (ar 38 1 3 aJ []))] [(0,true)]) (qr eW))
 ·obtain rfl:=so h
  exact qk (rq hC [] [2,12] [(2,ms 20 1 3 aJ x1.1)] [] [] (qw (lk hC [.ren 2 20 0] [2] [(2,ms 0 1 3 aJ x1.1)] [(0,some (ar 38 1 3 aJ x1.1)),(20,none)] [(0,true)]) (qr eW)))
theorem uL(G:GS)(n:Nat)(n_a0:Int){r:Bool}(h:dL n n_a0=some r):PQ G 152 [vI n_a0] (vB r):=by
 unfold dL at h
 refine pq aN Tryz.func152 rfl fun w X hC=> ?_
 refine rq hC [] [2] [] [] [] ?_
 obtain⟨x1,hx1,h⟩:=bd h
 obtain rfl:=so h
 exact rq hC [oV (aZ G hx1)] (fr 2 4) [(2,vB (!x1))] [] [] (qr eR)
theorem jJ{p}{r}(h:fK n p=some r):PQ G 28 [V.agg (cD p)] (vB r):=by
 unfold fK at h
 refine pq aN Tryz.func28 rfl fun w X hC=> ?_
 refine rq hC [.z (.b (true))] [1,2] [(1,V.tp (bR p))] [] [] ?_
 obtain⟨x1,hx1,h⟩:=bd h
 obtain rfl:=so h
 exact rq hC [oC [] [20] (fA G hx1)] (fr 3 7) [(4,vB x1.2)] [(20,some (ar 38 1 3 aJ x1.1))] [(20,true)] (rq hC [] [2,10] [(2,vB x1.2)] [] [] (qr eR))
theorem mN{p}{r}(h:gK n p=some r):PQ G 85 [V.agg (cD p)] (vI r):=by
 unfold gK at h
 refine pq aN Tryz.func85 rfl fun w X hC=> ?_
 refine rq hC [.z (.b (true))] [1,2] [(1,V.tp (bR p))] [] [] (rq hC [] [3] [(3,vI 0)] [] [] (qs (rq hC [oN aP p.arrays] (fr 6 4) [(7,vM aP p.arrays),(8,vI (p.arrays.length:Int)),(9,vI 0)] [] [] (qb (jK h (fun x_=>bA [(3,vI x_.1),(7,vM aP p.arrays),(8,vI (p.arrays.length:Int)),(9,vI x_.2)] [] []) lS ?_)))))
 rintro again3 ⟨x1,x2⟩ h
 refine rq hC [] [10] [(10,vB (decide (x2<(p.arrays.length:Int))))] [] [] (qs (aR h (fun c1 h=> ?_) (fun c1 h=> ?_)))
 ·refine qk (qs (qb ?_))
  obtain⟨x4,hx4,h⟩:=bd h
  refine rq hC [oR aP hx4,.z (.nat 20)] [5,11,12] [(5,V.ref 20 0)] [(20,sc [vS x4.name,vM rI x4.dims])] [(20,true)] ?_
  obtain⟨x5,hx5,h⟩:=bd h
  exact rk hC [oV (qL G hx5)] [3,13,14,15,16] [(3,vI (wr (x1+x5)))] [] [] (rk hC [] [9,17] [(9,vI (wr (x2+1)))] [] [] (lE h))
 ·obtain rfl:=so h
  exact cT (rq hC [] [2,18] [(2,vI x1)] [] [] (qr eR))
theorem kD{p}{m}{r}(h:eZ n p m=some r):PQ G 61 [V.agg (cD p),vM rI m] (vB r):=by
 unfold eZ at h
 refine pq aN Tryz.func61 rfl fun w X hC=> ?_
 refine rq hC [.z (.b (true))] [2,4] [(2,V.tp (bR p))] [] [] (vj h (fun x_=>bA [(4,vB x_)] [] []) (fun j1 h=> ?_) (fun x5 h=> ?_))
 ·
  obtain⟨x2,hx2,h⟩:=bd h
  refine aS h (fun c1 h=> ?_) (fun c1 h=> ?_)
  ·exact rk hC ([oV (jJ G hx2)]++rF 6 c1++sF 4) (fr 4 15) [(4,vB false)] [] [] (lE h)
  ·obtain⟨x3,hx3,h⟩:=bd h
   refine aS h (fun c2 h=> ?_) (fun c2 h=> ?_)
   ·exact rk hC ([oV (jJ G hx2),oT c1,oT c1,oN rI m,oT c1,oT c1,oV (mN G hx3),oT c1,oT c1]++rF 4 c2) (fr 4 15) [(4,vB false)] [] [] (lE h)
   ·obtain⟨x4,hx4,h⟩:=bd h
    exact rk hC [oV (jJ G hx2),oT c1,oT c1,oN rI m,oT c1,oT c1,oV (mN G hx3),oT c1,oT c1,oT c2,oT c2,oV (cM G n m 152 (fun q0=>dL n q0) (fun q0 r h=>uL G n q0 h) hx4),oT c2,oT c2] (fr 4 15) [(4,vB (!x4))] [] [] (lE h)
 ·obtain rfl:=so h
  exact qr eR
theorem oZ{n_a0}{r}(h:jW n n_a0=some r):PQ G 221 [vI n_a0] (vI r):=by
 unfold jW at h
 refine pq aN Tryz.func221 rfl fun w X hC=> ?_
 obtain rfl:=so h
 exact rq hC [] [2] [] [] [] (rq hC [oQ (show(1000:Int)≠0 by decide),oQ (show(1000:Int)≠0 by decide)] (fr 2 6) [(2,vI (Int.tmod (wr ((wr ((Int.tmod n_a0 1000)+999))+1)) 1000))] [] [] (qr eR))
theorem uK(G:GS): ∀(n:Nat) (p:Prog) (m:List Int) (e:Expr) (point:List Int) {r:Int} (h:i_Program_value n p m e point=some r),PQ G 153 [V.agg (cD p),vM rI m,V.agg (fX e),vM rI point] (vI r):=by
 intro n
 induction n with
 |zero=>intro p m e point r h;rw [i_Program_value.eq_def] at h;cases h
 |succ n ih=>
  intro p m e point r h
  rw [i_Program_value.eq_def] at h;dsimp only at h
  refine pq aN Tryz.func153 rfl fun w X hC=> ?_
  refine rq hC [.z (.b (true)),.z (.b (true))] [4,6,8] [(4,V.tp (bR p)),(6,V.tp (iB e))] [] [] (qs (rq hC [] [11,12] [(12,vI e.kind)] [] [] (qb (rq hC [] [13,14] [(13,vB (decide (e.kind=1)))] [] [] (aR h (fun c1 h=> ?_) (fun c1 h=> ?_))))))
  ·obtain rfl:=so h
   exact rq hC [] [8,15,16] [(8,vI e.num)] [] [] (qr eR)
  ·refine rq hC [] [17,18] [(17,vB (decide (e.kind=2)))] [] [] (aR h (fun c2 h=> ?_) (fun c2 h=> ?_))
   ·obtain⟨x1,hx1,x2,hx2,h⟩:=dI h
    obtain rfl:=so h
    exact rq hC [oV (dN G hx1),oV (oZ G hx2)] [8,19,20,21,22,23] [(8,vI x2)] [] [] (qr eR)
   ·refine rq hC [] [24,25] [(24,vB (decide (e.kind=3)))] [] [] (aR h (fun c3 h=> ?_) (fun c3 h=> ?_))
    ·obtain⟨x3,hx3,x4,hx4,h⟩:=dI h
     obtain rfl:=so h
     exact rq hC [oV (cI G hx3),oR rI hx4] [8,26,27,28,29,30,31,32,33] [(8,vI x4)] [] [] (qr eR)
    ·refine qk (qs ?_)
     obtain⟨x5,hx5,x6,hx6,x7,hx7,h⟩:=mO h
     obtain⟨x8,hx8,h⟩:=bd h
     refine dk hC bM [.z (.row (eE x5)),oQ (gJ aM hx5 (dF x5)),oV (ih p m x5 point hx6),.z (.row (eE x7)),oQ (gJ aM hx7 (dF x7)),oV (ih p m x7 point hx8)] [9,10,34,35,36,37,38,39,40,41,42,43,44,45,46,47,48,49] [(9,vI x6),(10,vI x8)] [] [] (qs (rq hC [] [50,51] [(51,vI e.kind)] [] [] (qb (rq hC [] [52,53] [(52,vB (decide (e.kind=4)))] [] [] (aR h (fun c4 h=> ?_) (fun c4 h=> ?_))))))
     ·obtain⟨x9,hx9,h⟩:=bd h
      obtain rfl:=so h
      exact rq hC [oV (oZ G hx9)] [8,54,55,56,57] [(8,vI x9)] [] [] (qr eR)
     ·refine rq hC [] [58,59] [(58,vB (decide (e.kind=5)))] [] [] (aR h (fun c5 h=> ?_) (fun c5 h=> ?_))
      ·obtain⟨x10,hx10,h⟩:=bd h
       obtain rfl:=so h
       exact rq hC [oV (oZ G hx10)] [8,60,61,62,63] [(8,vI x10)] [] [] (qr eR)
      ·refine qk ?_
       obtain⟨x11,hx11,h⟩:=bd h
       obtain rfl:=so h
       exact rq hC [oV (oZ G hx11)] [8,64,65,66,67] [(8,vI x11)] [] [] (qr eR)
theorem qK{p}{m}(mG:Nat){x}{r}(h:fT n p m x=some r):VQ G 63 [ar 3 mG 1 rI m] [V.agg (cD p),ms 0 mG 1 rI m,V.agg (D2 x)] (V.tup []) [ar 3 mG 1 rI r]:=by
 unfold fT at h
 refine vq aN Tryz.func63 rfl fun w X β0 hC hg=> ?_
 refine rq hC [.z (.b (true)),.z (.b (true))] [3,5] [(3,V.tp (bR p)),(5,V.tp (yD x))] [] [] ?_
 obtain⟨x1,hx1,h⟩:=bd h
 refine rq hC [oV (nT G hx1),.z (.nat 20)] (fr 6 4) [(6,V.ref 20 0)] [(20,some (E.cells (gG x1)))] [(20,true)] ?_
 obtain⟨x2,hx2,x3,hx3,x4,hx4,h⟩:=mO h
 obtain⟨x5,hx5,h⟩:=bd h
 obtain rfl:=so h
 exact dk hC bM [oV (cI G hx2),.z (.b (true)),oV (uK G n p m x1.value x.point hx3),oQ (jU rI hx4),oX rI hx4,.z (.rows (List.map rI x5)),oQ (str rI hx5)] [1,10,11,12,13,14,15,16,17,18,19,20,21,22,23,24] [] [(0,some (ar 3 mG 1 rI x5))] [] eW
theorem C9{p}{m}{r}(h:iM n p m=some r):VQ G 16 [] [V.agg (cD p),vM rI m] (V.tup [ms 0 1 1 rI r.1,vB r.2]) [ar 3 1 1 rI r.1]:=by
 unfold iM at h
 refine vq aN Tryz.func16 rfl fun w X β0 hC hg=> ?_
 refine rq hC [.z (.b (true))] [2,4,5] [(2,V.tp (bR p))] [] [] (qs ?_)
 obtain⟨x1,hx1,h⟩:=bd h
 refine rq hC [oV (kD G hx1)] (fr 9 4) [(12,vB (!x1))] [] [] (aR h (fun c1 h=> ?_) (fun c1 h=> ?_))
 ·obtain rfl:=so h
  exact rq hC [] [4,5] [(4,V.t T.nilS),(5,vB false)] [] [] (qw (lk hC [.grow 4 0 3] [4] [(4,ms 0 1 1 rI [])] [(0,some (ar 3 1 1 rI []))] [(0,true)]) (qr eW))
 ·refine qk ?_
  obtain⟨x2,hx2,h⟩:=bd h
  refine rq hC [oC [] [20] (G.clone m hx2)] [6,13,14] [(6,ms 20 1 1 rI x2)] [(20,some (ar 3 1 1 rI x2))] [(20,true)] (qs ?_)
  obtain⟨x3,hx3,h⟩:=bd h
  refine rq hC [oC [] [21] (kA G hx3),oN aJ x3] (fr 15 4) [(16,ms 21 1 3 aJ x3),(17,vI (x3.length:Int)),(18,vI 0)] [(21,some (ar 38 1 3 aJ x3))] [(21,true)] (qb (bG (γ:=Nat) h (fun x_ g_=>bA [(2,V.tp (bR p)),(6,ms 20 g_ 1 rI x_.1),(16,ms 21 1 3 aJ x3),(17,vI (x3.length:Int)),(18,vI x_.2)] [(20,ar 3 g_ 1 rI x_.1),(21,ar 38 1 3 aJ x3)] [20,21]) 1 (lS) ?_))
  rintro again7 ⟨x4,x5⟩ g6 h
  refine rq hC [] [19] [(19,vB (decide (x5<(x3.length:Int))))] [] [] (qs (aR h (fun c2 h=> ?_) (fun c2 h=> ?_)))
  ·refine qk (qs (qb ?_))
   obtain⟨x8,hx8,h⟩:=bd h
   refine rq hC [oQ (jU aJ hx8),oX aJ hx8,.z (.nat 22)] [8,20,21] [(8,V.ref 22 0)] [(22,some (E.cells (D2 x8)))] [(22,true)] ?_
   obtain⟨x9,hx9,x10,hx10,h⟩:=dI h
   exact rk hC [oC [20] [] (qK G g6 hx9),.z (.len 6 (List.map rI x9).length),oQ (aCS rI hx10)] [6,22,23,24,25] [(6,ms 20 g6 1 rI x9)] [(20,some (ar 3 g6 1 rI x9))] [(20,true)] (rk hC [] [18,26] [(18,vI (wr (x5+1)))] [] [] ⟨(x9,wr (x5+1)),g6,h,lS⟩)
  ·obtain rfl:=so h
   exact cT (rq hC [] [4,5,27] [(4,ms 20 g6 1 rI x4),(5,vB true)] [] [] (qw (lk hC [.ren 4 20 0] [4] [(4,ms 0 1 1 rI x4)] [(0,some (ar 3 1 1 rI x4)),(20,none)] [(0,true)]) (qr eW)))
theorem oK{a}{b}{r}(h:lD n a b=some r):PQ G 17 [vM rI a,vM rI b] (vB r):=by
 unfold lD at h
 refine pq aN Tryz.func17 rfl fun w X hC=> ?_
 refine rq hC [] [4] [] [] [] (qs (rq hC [oN rI a,oN rI b] (fr 6 5) [(10,vB (!decide ((a.length:Int)=(b.length:Int))))] [] [] (aR h (fun c1 h=> ?_) (fun c1 h=> ?_))))
 ·obtain rfl:=so h
  exact rq hC [] [4] [(4,vB false)] [] [] (qr eR)
 ·refine qk (qs (rq hC [] [5] [(5,vI 0)] [] [] (qb (jK h (fun x_=>bA [(0,vM rI a),(1,vM rI b),(5,vI x_)] [] []) lS ?_))))
  rintro again2 x1 h
  refine qs (rq hC [oN rI a] (fr 11 4) [(14,vB (decide (x1<(a.length:Int))))] [] [] (aR h (fun c2 h=> ?_) (fun c2 h=> ?_)))
  ·refine qk (qs (qb (qs ?_)))
   obtain⟨x3,hx3,x4,hx4,h⟩:=dI h
   refine dk hC bM [oR rI hx3,oR rI hx4] (fr 17 9) [(25,vB (!decide (x3=x4)))] [] [] (aR h (fun c3 h=> ?_) (fun c3 h=> ?_))
   ·obtain rfl:=so h
    exact rq hC [] [4] [(4,vB false)] [] [] (qr eR)
   ·exact qk (rk hC [] [5,15,16] [(5,vI (wr (x1+1)))] [] [] (lE h))
  ·obtain rfl:=so h
   exact cT (rq hC [] [4] [(4,vB true)] [] [] (qr eR))
theorem w9{p}{r}(h:f9 n p=some r):VQ G 70 [] [V.agg (cD p)] (ms 0 1 3 aJ r) [ar 38 1 3 aJ r]:=by
 unfold f9 at h
 refine vq aN Tryz.func70 rfl fun w X β0 hC hg=> ?_
 refine rq hC [.z (.b (true))] [1,2] [(1,V.tp (bR p))] [] [] (rq hC [.z (.nat 20)] [3,8] [(3,ms 20 1 3 aJ [])] [(20,some (ar 38 1 3 aJ []))] [(20,true)] (qs (rq hC [] [4] [(4,vI 0)] [] [] (qb (bG (γ:=Nat) h (fun x_ g_=>bA [(1,V.tp (bR p)),(3,ms 20 g_ 3 aJ x_.1),(4,vI x_.2)] [(20,ar 38 g_ 3 aJ x_.1)] [20]) 1 (lS) ?_)))))
 rintro again4 ⟨x1,x2⟩ g3 h
 refine qs (rq hC [oN aH p.parts] (fr 9 5) [(13,vB (decide (x2<(p.parts.length:Int))))] [] [] (aR h (fun c1 h=> ?_) (fun c1 h=> ?_)))
 ·refine qk (qs (qb ?_))
  obtain⟨x5,hx5,x6,hx6,h⟩:=dI h
  refine rq hC [.z (.nat 21),oR aH hx5,oC [21] [] (uF G n [] 1 x5.nest [] hx6)] [5,16,17,18,19,20,21,22,23] [(5,ms 21 2 1 (rL rI) x6)] [(21,some (ar 27 2 1 (rL rI) x6))] [(21,true),(21,true)] (rq hC [] [6] [(6,vI 0)] [] [] (qb (bG (γ:=Nat) h (fun x_ g_=>bA [(1,V.tp (bR p)),(3,ms 20 g_ 3 aJ x_.1),(4,vI x2),(5,ms 21 2 1 (rL rI) x6),(6,vI x_.2)] [(20,ar 38 g_ 3 aJ x_.1),(21,ar 27 2 1 (rL rI) x6)] [20,21]) g3 (lS) ?_)))
  rintro again10 ⟨x7,x8⟩ g9 h
  refine qs (rq hC [oN (rL rI) x6] (fr 24 4) [(27,vB (decide (x8<(x6.length:Int))))] [] [] (aR h (fun c2 h=> ?_) (fun c2 h=> ?_)))
  ·refine qk (qs (qb (rq hC [] [7] [(7,vI 0)] [] [] (qb (bG (γ:=Nat) h (fun x_ g_=>bA [(1,V.tp (bR p)),(3,ms 20 g_ 3 aJ x_.1),(4,vI x2),(5,ms 21 2 1 (rL rI) x6),(6,vI x8),(7,vI x_.2)] [(20,ar 38 g_ 3 aJ x_.1),(21,ar 27 2 1 (rL rI) x6)] [20,21]) g9 (lS) ?_)))))
   rintro again14 ⟨x11,x12⟩ g13 h
   refine qs (rq hC [oR aH hx5,oN aY x5.body] (fr 30 9) [(38,vB (decide (x12<(x5.body.length:Int))))] [] [] (aR h (fun c3 h=> ?_) (fun c3 h=> ?_)))
   ·refine qk (qs (qb ?_))
    obtain⟨x15,hx15,x16,hx16,x17,hx17,h⟩:=mO h
    exact rk hC [.z (.nat 22),oQ (jU (rL rI) hx15),oX (rL rI) hx15,oA (aT rI hx16),.z (.at 4),.z (.fz 22 [49] []),.z (.int 0),oQ (b9 (r:=rI) 1 (fun _=>rfl) []),oQ (b9 (r:=rI) 1 (fun _=>rfl) x15),oA (aT aJ hx17),oQ (b9 (r:=aJ) 3 q7 x11),oQ (b9 (r:=aJ) 3 q7 [(⟨x2,x12,x16⟩:Inst)])] [3,41,42,43,44,45,46,47,48,49,50,51,52] [(3,ms 20 (g13+1) 3 aJ x17)] [(22,none),(20,some (ar 38 (g13+1) 3 aJ x17))] [(22,true)] (rk hC [] [7,39,40] [(7,vI (wr (x12+1)))] [] [] ⟨(x17,wr (x12+1)),(g13+1),h,lS⟩)
   ·exact cT (rk hC [] [6,28,29] [(6,vI (wr (x8+1)))] [] [] ⟨(x11,wr (x8+1)),g13,h,lS⟩)
  ·exact cT (rk hC [] [4,14,15] [(4,vI (wr (x2+1)))] [] [] ⟨(x7,wr (x2+1)),g9,h,lS⟩)
 ·obtain rfl:=so h
  exact cT (rq hC [] [2,53] [(2,ms 20 g3 3 aJ x1)] [] [] (qw (lk hC [.ren 2 20 0] [2] [(2,ms 0 1 3 aJ x1)] [(0,some (ar 38 1 3 aJ x1)),(20,none)] [(0,true)]) (qr eW)))
theorem aAz{p}{r}(h:pK n p=some r):VQ G 65 [] [V.agg (cD p)] (ms 0 1 2 bD r) [ar 83 1 2 bD r]:=by
 unfold pK at h
 refine vq aN Tryz.func65 rfl fun w X β0 hC hg=> ?_
 refine rq hC [.z (.b (true))] [1,2] [(1,V.tp (bR p))] [] [] (rq hC [.z (.nat 20)] [3,9] [(3,ms 20 1 2 bD [])] [(20,some (ar 83 1 2 bD []))] [(20,true)] ?_)
 obtain⟨x1,hx1,h⟩:=bd h
 refine rq hC [oC [] [21] (w9 G hx1)] [4,10,11] [(4,ms 21 1 3 aJ x1)] [(21,some (ar 38 1 3 aJ x1))] [(21,true)] (qs (rq hC [] [5] [(5,vI 0)] [] [] (qb (bG (γ:=Nat) h (fun x_ g_=>bA [(1,V.tp (bR p)),(3,ms 20 g_ 2 bD x_.1),(4,ms 21 1 3 aJ x1),(5,vI x_.2)] [(20,ar 83 g_ 2 bD x_.1),(21,ar 38 1 3 aJ x1)] [20,21]) 1 (lS) ?_))))
 rintro again5 ⟨x2,x3⟩ g4 h
 refine qs (rq hC [oN aJ x1] (fr 12 4) [(15,vB (decide (x3<(x1.length:Int))))] [] [] (aR h (fun c1 h=> ?_) (fun c1 h=> ?_)))
 ·refine qk (qs (qb (qs ?_)))
  obtain⟨x6,hx6,x7,hx7,x8,hx8,h⟩:=mO h
  obtain⟨x9,hx9,h⟩:=bd h
  refine dk hC bM [oQ (jU aJ hx6),oX aJ hx6,oR aH hx7,oQ (jU aJ hx6),oX aJ hx6,oR aY hx8,oQ (jU aJ hx6),oX aJ hx6,oC [] [22] (wR G hx9)] [6,7,8,18,19,20,21,22,23,24,25,26,27,28,29,30,31,32,33,34,35,36,37,38,39,40,41,42,43,44,45,46] [(6,ms 22 1 1 rI x9.1),(7,vI x9.2.1)] [(22,some (ar 3 1 1 rI x9.1))] [(22,true)] ?_
  obtain⟨x10,hx10,h⟩:=bd h
  exact rk hC [.z (.at 4),.z (.fz 22 [6,48] []),.z (.int 0),oA (aT bD hx10),oQ (b9 (r:=bD) 2 yU x2),oQ (b9 (r:=bD) 2 yU [(⟨x9.1,x9.2.1⟩:L6Use)])] [3,6,47,48,49,50,51,52] [(3,ms 20 (g4+1) 2 bD x10)] [(22,none),(20,some (ar 83 (g4+1) 2 bD x10))] [] (rk hC [] [5,16,17] [(5,vI (wr (x3+1)))] [] [] ⟨(x10,wr (x3+1)),(g4+1),h,lS⟩)
 ·obtain rfl:=so h
  exact cT (rq hC [] [2,53] [(2,ms 20 g4 2 bD x2)] [] [] (qw (lk hC [.ren 2 20 0] [2] [(2,ms 0 1 2 bD x2)] [(0,some (ar 83 1 2 bD x2)),(20,none)] [(0,true)]) (qr eW)))
theorem W3{nest}{p}{r}(h:nI n nest p=some r):PQ G 166 [vM aD nest,vM rI p] (vB r):=by
 unfold nI at h
 refine pq aN Tryz.func166 rfl fun w X hC=> ?_
 refine rq hC [] [4] [] [] [] (qs (vj h (fun x_=>bA [(0,vM aD nest),(1,vM rI p),(23,vB x_)] [] []) (fun j1 h=> ?_) (fun x4 h=> ?_)))
 ·
  obtain⟨x2,hx2,h⟩:=bd h
  refine aS h (fun c1 h=> ?_) (fun c1 h=> ?_)
  ·obtain⟨x3,hx3,h⟩:=bd h
   refine aS h (fun c2 h=> ?_) (fun c2 h=> ?_)
   ·exact rk hC [oV (jN G hx2),oF c1,oF c1,oV (qH G hx3),oF c1,oF c1,oF c2,oF c2,oN rI p,oF c2,oF c2,oN aD nest,oF c2,oF c2] (fr 9 15) [(23,vB (!decide ((p.length:Int)=(nest.length:Int))))] [] [] (lE h)
   ·exact rk hC ([oV (jN G hx2),oF c1,oF c1,oV (qH G hx3),oF c1,oF c1]++rT 6 c2) (fr 9 15) [(23,vB true)] [] [] (lE h)
  ·exact rk hC ([oV (jN G hx2)]++rT 4 c1++sT 6) (fr 9 15) [(23,vB true)] [] [] (lE h)
 ·refine aR h (fun c3 h=> ?_) (fun c3 h=> ?_)
  ·obtain rfl:=so h
   exact rq hC [] [4] [(4,vB false)] [] [] (qr eR)
  ·refine qk (qs (rq hC [oN aD nest] [24,25,26] [(24,vM aD nest),(25,vI (nest.length:Int)),(26,vI 0)] [] [] (qb (jK h (fun x_=>bA [(1,vM rI p),(24,vM aD nest),(25,vI (nest.length:Int)),(26,vI x_)] [] []) lS ?_))))
   rintro again6 x5 h
   refine rq hC [] [27] [(27,vB (decide (x5<(nest.length:Int))))] [] [] (qs (aR h (fun c4 h=> ?_) (fun c4 h=> ?_)))
   ·refine qk (qs (qb ?_))
    obtain⟨x7,hx7,h⟩:=bd h
    refine rq hC [oR aD hx7,.z (.nat 20)] [5,6,28,29,30] [(5,vI x5),(6,V.ref 20 0)] [(20,some (E.cells (D1 x7)))] [(20,true)] (qs ?_)
    obtain⟨x8,hx8,x9,hx9,h⟩:=dI h
    refine dk hC bM [oA (xG rI hx8),oQ (b9 (r:=rI) 1 (fun _=>rfl) p),oV (sD G hx9)] [7,8,31,32,33,34,35,36,37,38] [(7,vI x9.1),(8,vI x9.2)] [] [] (vj h (fun x_=>bA [(1,vM rI p),(24,vM aD nest),(25,vI (nest.length:Int)),(26,vI x5),(52,vB x_)] [(20,E.cells (D1 x7))] [20]) (fun j10 h=> ?_) (fun x12 h=> ?_))
    ·
     obtain⟨x11,hx11,h⟩:=bd h
     refine aS h (fun c5 h=> ?_) (fun c5 h=> ?_)
     ·exact rk hC ([oR rI hx11]++rF 3 c5++[oR rI hx11]++rF 4 c5) (fr 39 14) [(52,vB (decide (x9.2≤x11)))] [] [] (lE h)
     ·exact rk hC ([oR rI hx11]++rT 7 c5) (fr 39 14) [(52,vB true)] [] [] (lE h)
    ·refine aR h (fun c6 h=> ?_) (fun c6 h=> ?_)
     ·obtain rfl:=so h
      exact rq hC [] [4] [(4,vB false)] [] [] (qr eR)
     ·exact qk (rk hC [] [26,53] [(26,vI (wr (x5+1)))] [] [] (lE h))
   ·obtain rfl:=so h
    exact cT (rq hC [] [4] [(4,vB true)] [] [] (qr eR))
theorem o1{p}{x}{r}(h:cL n p x=some r):PQ G 68 [V.agg (cD p),V.agg (D2 x)] (vB r):=by
 unfold cL at h
 refine pq aN Tryz.func68 rfl fun w X hC=> ?_
 refine rq hC [.z (.b (true)),.z (.b (true))] [2,3,4] [(2,V.tp (bR p)),(3,V.tp (yD x))] [] [] (vj h (fun x_=>bA [(4,vB x_)] [] []) (fun j1 h=> ?_) (fun x6 h=> ?_))
 ·
  obtain⟨x2,hx2,h⟩:=bd h
  refine aS h (fun c1 h=> ?_) (fun c1 h=> ?_)
  ·exact dk hC bM ([oN aH p.parts,oV (aZ G hx2)]++rF 13 c1++sF 11) (fr 4 34) [(4,vB false)] [] [] (lE h)
  ·obtain⟨x3,hx3,x4,hx4,h⟩:=dI h
   refine aS h (fun c2 h=> ?_) (fun c2 h=> ?_)
   ·exact dk hC bM ([oN aH p.parts,oV (aZ G hx2)]++rT 7 c1++[oR aH hx3]++rT 3 c1++[oN aY x3.body,oT c1,oT c1,oV (aZ G hx4),oT c1]++rF 11 c2) (fr 4 34) [(4,vB false)] [] [] (lE h)
   ·obtain⟨x5,hx5,h⟩:=bd h
    exact dk hC bM ([oN aH p.parts,oV (aZ G hx2)]++rT 7 c1++[oR aH hx3]++rT 3 c1++[oN aY x3.body,oT c1,oT c1,oV (aZ G hx4),oT c1]++rT 5 c2++[oR aH hx3]++rT 5 c2++[oV (W3 G hx5),oT c2]) (fr 4 34) [(4,vB x5)] [] [] (lE h)
 ·obtain rfl:=so h
  exact qr eR
theorem xC{p}{m}{x}{r}(h:gF n p m x=some r):VQ G 20 [] [V.agg (cD p),vM rI m,V.agg (D2 x)] (V.tup [ms 0 1 1 rI r.1,vB r.2]) [ar 3 1 1 rI r.1]:=by
 unfold gF at h
 refine vq aN Tryz.func20 rfl fun w X β0 hC hg=> ?_
 refine rq hC [.z (.b (true)),.z (.b (true))] [3,5,6,7] [(3,V.tp (bR p)),(5,V.tp (yD x))] [] [] (qs (vj h (fun x_=>bA [(1,vM rI m),(3,V.tp (bR p)),(5,V.tp (yD x)),(18,vB x_)] [] []) (fun j1 h=> ?_) (fun x4 h=> ?_)))
 ·
  obtain⟨x2,hx2,h⟩:=bd h
  refine aS h (fun c1 h=> ?_) (fun c1 h=> ?_)
  ·obtain⟨x3,hx3,h⟩:=bd h
   exact rk hC ([oV (kD G hx2)]++rF 3 c1++[oV (o1 G hx3),oF c1,oF c1]) (fr 9 10) [(18,vB (!x3))] [] [] (lE h)
  ·exact rk hC ([oV (kD G hx2)]++rT 5 c1) (fr 9 10) [(18,vB true)] [] [] (lE h)
 ·refine aR h (fun c2 h=> ?_) (fun c2 h=> ?_)
  ·obtain rfl:=so h
   exact rq hC [] [6,7] [(6,V.t T.nilS),(7,vB false)] [] [] (qw (lk hC [.grow 6 0 3] [6] [(6,ms 0 1 1 rI [])] [(0,some (ar 3 1 1 rI []))] [(0,true)]) (qr eW))
  ·refine qk ?_
   obtain⟨x5,hx5,h⟩:=bd h
   refine rq hC [oC [] [20] (G.clone m hx5)] [8,19,20] [(8,ms 20 1 1 rI x5)] [(20,some (ar 3 1 1 rI x5))] [(20,true)] ?_
   obtain⟨x6,hx6,x7,hx7,h⟩:=dI h
   obtain rfl:=so h
   exact rq hC [oC [20] [] (qK G 1 hx6),.z (.len 8 (List.map rI x6).length),oQ (aCS rI hx7)] [8,21,22,23,24] [(8,ms 20 1 1 rI x6)] [(20,some (ar 3 1 1 rI x6))] [(20,true)] (rq hC [] [6,7,25] [(6,ms 20 1 1 rI x6),(7,vB true)] [] [] (qw (lk hC [.ren 6 20 0] [6] [(6,ms 0 1 1 rI x6)] [(0,some (ar 3 1 1 rI x6)),(20,none)] [(0,true)]) (qr eW)))
theorem E8{list}{r}(h:l9 n list=some r):VQ G 89 [] [vM rB list] (ms 0 1 1 rI r) [ar 3 1 1 rI r]:=by
 unfold l9 at h
 refine vq aN Tryz.func89 rfl fun w X β0 hC hg=> ?_
 refine rq hC [] [2] [] [] [] (rq hC [.z (.nat 20)] [3,5] [(3,ms 20 1 1 rI [])] [(20,some (ar 3 1 1 rI []))] [(20,true)] (qs (rq hC [] [4] [(4,vI 0)] [] [] (qb (bG (γ:=Nat) h (fun x_ g_=>bA [(0,vM rB list),(3,ms 20 g_ 1 rI x_.1),(4,vI x_.2)] [(20,ar 3 g_ 1 rI x_.1)] [20]) 1 (lS) ?_)))))
 rintro again4 ⟨x1,x2⟩ g3 h
 refine qs (rq hC [oN rB list] (fr 6 4) [(9,vB (decide (x2<(list.length:Int))))] [] [] (aR h (fun c1 h=> ?_) (fun c1 h=> ?_)))
 ·refine qk ?_
  obtain⟨j5,hj5,h⟩:=vH h
  refine iA (γ:=Nat) (j:=j5) (r:=r) (fun x_ g_=>bA [(0,vM rB list),(3,ms 20 g_ 1 rI x_),(4,vI x2)] [(20,ar 3 g_ 1 rI x_)] [20]) ?_ ?_
  ·
   refine qb ?_
   obtain⟨x6,hx6,h⟩:=bd h
   refine rq hC [oR rB hx6] (fr 12 4) [(15,vB x6)] [] [] (aR h (fun c2 h=> ?_) (fun c2 h=> ?_))
   ·obtain⟨x7,hx7,h⟩:=bd h
    exact rk hC [.z (.int 0),oA (aT rI hx7),oQ (b9 (r:=rI) 1 (fun _=>rfl) x1),oQ (b9 (r:=rI) 1 (fun _=>rfl) [x2])] [3,16,17,18,19] [(3,ms 20 (g3+1) 1 rI x7)] [(20,some (ar 3 (g3+1) 1 rI x7))] [] ⟨x7,(g3+1),h,lS⟩
   ·exact qk ⟨x1,g3,h,lS⟩
  ·rintro x8 g9 h
   subst hj5
   exact rk hC [] [4,10,11] [(4,vI (wr (x2+1)))] [] [] ⟨(x8,wr (x2+1)),g9,h,lS⟩
 ·obtain rfl:=so h
  exact cT (rq hC [] [2,20] [(2,ms 20 g3 1 rI x1)] [] [] (qw (lk hC [.ren 2 20 0] [2] [(2,ms 0 1 1 rI x1)] [(0,some (ar 3 1 1 rI x1)),(20,none)] [(0,true)]) (qr eW)))
theorem aB8{list}{n_a1}{r}(h:qR n list n_a1=some r):PQ G 32 [vM rI list,vI n_a1] (vB r):=by
 unfold qR at h
 refine pq aN Tryz.func32 rfl fun w X hC=> ?_
 refine rq hC [] [4] [] [] [] (qs (rq hC [] [5] [(5,vI 0)] [] [] (qb (jK h (fun x_=>bA [(0,vM rI list),(1,vI n_a1),(5,vI x_)] [] []) lS ?_))))
 rintro again2 x1 h
 refine qs (rq hC [oN rI list] (fr 6 4) [(9,vB (decide (x1<(list.length:Int))))] [] [] (aR h (fun c1 h=> ?_) (fun c1 h=> ?_)))
 ·refine qk (qs (qb ?_))
  obtain⟨x3,hx3,h⟩:=bd h
  refine rq hC [oR rI hx3] (fr 12 6) [(17,vB (decide (x3=n_a1)))] [] [] (aR h (fun c2 h=> ?_) (fun c2 h=> ?_))
  ·obtain rfl:=so h
   exact rq hC [] [4] [(4,vB true)] [] [] (qr eR)
  ·exact qk (rk hC [] [5,10,11] [(5,vI (wr (x1+1)))] [] [] (lE h))
 ·obtain rfl:=so h
  exact cT (rq hC [] [4] [(4,vB false)] [] [] (qr eR))
theorem aAN{list}{r}(h:qD n list=some r):VQ G 86 [] [vM rB list] (ms 0 1 1 rI r) [ar 3 1 1 rI r]:=by
 unfold qD at h
 refine vq aN Tryz.func86 rfl fun w X β0 hC hg=> ?_
 refine rq hC [] [2] [] [] [] (rq hC [] [3] [(3,V.t T.nilS)] [] [] (qs (rq hC [oN rB list] [6,7,8] [(6,vM rB list),(7,vI (list.length:Int)),(8,vI 0)] [] [] (qb (qw (lk hC [.grow 3 20 3] [3] [(3,ms 20 1 1 rI [])] [(20,some (ar 3 1 1 rI []))] [(20,true)]) ?_)))))
 refine bG (γ:=Nat) h (fun x_ g_=>bA [(3,ms 20 g_ 1 rI x_.1),(6,vM rB list),(7,vI (list.length:Int)),(8,vI x_.2)] [(20,ar 3 g_ 1 rI x_.1)] [20]) 1 (lS) ?_
 rintro again4 ⟨x1,x2⟩ g3 h
 refine rq hC [] [9] [(9,vB (decide (x2<(list.length:Int))))] [] [] (qs (aR h (fun c1 h=> ?_) (fun c1 h=> ?_)))
 ·refine qk ?_
  obtain⟨j5,hj5,h⟩:=vH h
  refine iA (γ:=Nat) (j:=j5) (r:=r) (fun x_ g_=>bA [(3,ms 20 g_ 1 rI x_),(6,vM rB list),(7,vI (list.length:Int)),(8,vI x2)] [(20,ar 3 g_ 1 rI x_)] [20]) ?_ ?_
  ·
   refine qb ?_
   obtain⟨x6,hx6,h⟩:=bd h
   refine rq hC [oR rB hx6] [4,5,10,11,12] [(4,vI x2),(5,vB x6)] [] [] (rq hC [] [13] [(13,vB x6)] [] [] (aR h (fun c2 h=> ?_) (fun c2 h=> ?_)))
   ·obtain⟨x7,hx7,h⟩:=bd h
    exact rk hC [.z (.int 0),oA (aT rI hx7),oQ (b9 (r:=rI) 1 (fun _=>rfl) x1),oQ (b9 (r:=rI) 1 (fun _=>rfl) [x2])] [3,14,15,16,17] [(3,ms 20 (g3+1) 1 rI x7)] [(20,some (ar 3 (g3+1) 1 rI x7))] [] ⟨x7,(g3+1),h,lS⟩
   ·exact qk ⟨x1,g3,h,lS⟩
  ·rintro x8 g9 h
   subst hj5
   exact rk hC [] [8,18] [(8,vI (wr (x2+1)))] [] [] ⟨(x8,wr (x2+1)),g9,h,lS⟩
 ·obtain rfl:=so h
  exact cT (rq hC [] [2,19] [(2,ms 20 g3 1 rI x1)] [] [] (qw (lk hC [.ren 2 20 0] [2] [(2,ms 0 1 1 rI x1)] [(0,some (ar 3 1 1 rI x1)),(20,none)] [(0,true)]) (qr eW)))
theorem tB{t}{to_a1}{r}(h:d9 n t to_a1=some r):VQ G 181 [] [V.tp [T.sl (List.map aP t.program.arrays),T.sl (List.map aH t.program.parts),T.sl (List.map aJ t.list),T.sl (List.map (rL rI) t.reads),T.sl (List.map rI t.writes)],vI to_a1] (ms 0 1 1 rI r) [ar 3 1 1 rI r]:=by
 unfold d9 at h
 refine vq aN Tryz.func181 rfl fun w X β0 hC hg=> ?_
 refine rq hC [] [4] [] [] [] (rq hC [] [5] [(5,V.t T.nilS)] [] [] (qs ?_))
 obtain⟨x1,hx1,h⟩:=bd h
 refine rq hC [oR (rL rI) hx1,oN rI x1] (fr 9 9) [(15,vM rI x1),(16,vI (x1.length:Int)),(17,vI 0)] [] [] (qb (qw (lk hC [.grow 5 20 3] [5] [(5,ms 20 1 1 rI [])] [(20,some (ar 3 1 1 rI []))] [(20,true)]) (bG (γ:=Nat) h (fun x_ g_=>bA [(0,V.tp [T.sl (List.map aP t.program.arrays),T.sl (List.map aH t.program.parts),T.sl (List.map aJ t.list),T.sl (List.map (rL rI) t.reads),T.sl (List.map rI t.writes)]),(1,vI to_a1),(5,ms 20 g_ 1 rI x_.1),(15,vM rI x1),(16,vI (x1.length:Int)),(17,vI x_.2)] [(20,ar 3 g_ 1 rI x_.1)] [20]) 1 (lS) ?_)))
 rintro again5 ⟨x2,x3⟩ g4 h
 refine rq hC [] [18] [(18,vB (decide (x3<(x1.length:Int))))] [] [] (qs (aR h (fun c1 h=> ?_) (fun c1 h=> ?_)))
 ·refine qk (qs (qb ?_))
  obtain⟨x6,hx6,h⟩:=bd h
  refine rq hC [oR rI hx6] [7,19,20] [(7,vI x6)] [] [] (rq hC [] [8,21,22] [(8,vI (wr (to_a1-1)))] [] [] (qs (qb (jK h (fun x_=>bA [(0,V.tp [T.sl (List.map aP t.program.arrays),T.sl (List.map aH t.program.parts),T.sl (List.map aJ t.list),T.sl (List.map (rL rI) t.reads),T.sl (List.map rI t.writes)]),(1,vI to_a1),(5,ms 20 g4 1 rI x2),(7,vI x6),(8,vI x_),(15,vM rI x1),(16,vI (x1.length:Int)),(17,vI x3)] [(20,ar 3 g4 1 rI x2)] [20]) lS ?_))))
  rintro again8 x7 h
  refine qs (vj h (fun x_=>bA [(0,V.tp [T.sl (List.map aP t.program.arrays),T.sl (List.map aH t.program.parts),T.sl (List.map aJ t.list),T.sl (List.map (rL rI) t.reads),T.sl (List.map rI t.writes)]),(1,vI to_a1),(5,ms 20 g4 1 rI x2),(7,vI x6),(8,vI x7),(15,vM rI x1),(16,vI (x1.length:Int)),(17,vI x3),(35,vB x_)] [(20,ar 3 g4 1 rI x2)] [20]) (fun j9 h=> ?_) (fun x11 h=> ?_))
  ·
   refine aS h (fun c2 h=> ?_) (fun c2 h=> ?_)
   ·exact rk hC (rF 10 c2) (fr 23 13) [(35,vB false)] [] [] (lE h)
   ·obtain⟨x10,hx10,h⟩:=bd h
    exact rk hC (rT 6 c2++[oR rI hx10]++rT 4 c2) (fr 23 13) [(35,vB (!decide (x10=x6)))] [] [] (lE h)
  ·refine aR h (fun c3 h=> ?_) (fun c3 h=> ?_)
   ·exact qk (qb (rk hC [] [8,36,37] [(8,vI (wr (x7-1)))] [] [] (lE h)))
   ·refine cT ?_
    obtain⟨x12,hx12,h⟩:=bd h
    exact rk hC [.z (.int 0),oA (aT rI hx12),oQ (b9 (r:=rI) 1 (fun _=>rfl) x2),oQ (b9 (r:=rI) 1 (fun _=>rfl) [x7])] [5,38,39,40,41] [(5,ms 20 (g4+1) 1 rI x12)] [(20,some (ar 3 (g4+1) 1 rI x12))] [] (rk hC [] [17,42] [(17,vI (wr (x3+1)))] [] [] ⟨(x12,wr (x3+1)),(g4+1),h,lS⟩)
 ·obtain rfl:=so h
  exact cT (rq hC [] [4,43] [(4,ms 20 g4 1 rI x2)] [] [] (qw (lk hC [.ren 4 20 0] [4] [(4,ms 0 1 1 rI x2)] [(0,some (ar 3 1 1 rI x2)),(20,none)] [(0,true)]) (qr eW)))
theorem xB{t}{r}(h:gE n t=some r):VQ G 87 [] [V.tp [T.sl (List.map aP t.program.arrays),T.sl (List.map aH t.program.parts),T.sl (List.map aJ t.list),T.sl (List.map (rL rI) t.reads),T.sl (List.map rI t.writes)]] (ms 0 1 1 rB r) [ar 4 1 1 rB r]:=by
 unfold gE at h
 refine vq aN Tryz.func87 rfl fun w X β0 hC hg=> ?_
 refine rq hC [] [2] [] [] [] ?_
 obtain⟨x1,hx1,h⟩:=bd h
 refine rq hC [oN aJ t.list,.z (.nat 20),oA (aC8 rB hx1),oQ (xK hx1).1] [3,7,8,9,10,11,12] [(3,ms 20 1 1 rB x1)] [(20,some (ar 4 1 1 rB x1))] [(20,true)] (qs (rq hC [oN aJ t.list] [4,13,14,15,16,17,18] [(4,vI (wr ((t.list.length:Int)-1)))] [] [] (qb (bG (γ:=Nat) h (fun x_ g_=>bA [(0,V.tp [T.sl (List.map aP t.program.arrays),T.sl (List.map aH t.program.parts),T.sl (List.map aJ t.list),T.sl (List.map (rL rI) t.reads),T.sl (List.map rI t.writes)]),(3,ms 20 g_ 1 rB x_.1),(4,vI x_.2)] [(20,ar 4 g_ 1 rB x_.1)] [20]) 1 (lS) ?_))))
 rintro again5 ⟨x2,x3⟩ g4 h
 refine qs (rq hC [] [19,20] [(20,vB (decide ((0:Int)≤x3)))] [] [] (aR h (fun c1 h=> ?_) (fun c1 h=> ?_)))
 ·refine qk ?_
  obtain⟨j6,hj6,h⟩:=vH h
  refine iA (γ:=Nat) (j:=j6) (r:=r) (fun x_ g_=>bA [(0,V.tp [T.sl (List.map aP t.program.arrays),T.sl (List.map aH t.program.parts),T.sl (List.map aJ t.list),T.sl (List.map (rL rI) t.reads),T.sl (List.map rI t.writes)]),(3,ms 20 g_ 1 rB x_),(4,vI x3)] [(20,ar 4 g_ 1 rB x_)] [20]) ?_ ?_
  ·
   refine qb (qs (vj h (fun x_=>bA [(0,V.tp [T.sl (List.map aP t.program.arrays),T.sl (List.map aH t.program.parts),T.sl (List.map aJ t.list),T.sl (List.map (rL rI) t.reads),T.sl (List.map rI t.writes)]),(3,ms 20 g4 1 rB x2),(4,vI x3),(44,vB x_)] [(20,ar 4 g4 1 rB x2)] [20]) (fun j7 h=> ?_) (fun x12 h=> ?_)))
   ·
    obtain⟨x8,hx8,h⟩:=bd h
    refine aS h (fun c2 h=> ?_) (fun c2 h=> ?_)
    ·exact dk hC bM ([oQ (jU rB hx8),oX rB hx8]++rF 16 c2) (fr 23 22) [(44,vB false)] [] [] (lE h)
    ·obtain⟨x9,hx9,x10,hx10,x11,hx11,h⟩:=mO h
     exact dk hC bM ([oQ (jU rB hx8),oX rB hx8]++rT 7 c2++[oA (aCP rI hx9),oQ (b9 (r:=rI) 1 (fun _=>rfl) t.writes)]++rT 6 c2++[oR rI hx10,oT c2,oT c2,oV (nS G hx11),oT c2]) (fr 23 22) [(44,vB x11)] [] [] (lE h)
   ·refine aR h (fun c3 h=> ?_) (fun c3 h=> ?_)
    ·exact cT ⟨x2,g4,h,lS⟩
    ·refine qk ?_
     obtain⟨x13,hx13,x14,hx14,h⟩:=dI h
     refine rq hC [oQ (jU rB hx13),oX rB hx13,.z (.rows (List.map rB x14)),.z (.len 3 (List.map rB x14).length),oQ (str rB hx14),oQ (pB rB hx14)] [3,45,46,47] [(3,ms 20 g4 1 rB x14)] [(20,some (ar 4 g4 1 rB x14))] [] ?_
     obtain⟨x15,hx15,h⟩:=bd h
     refine rq hC [oC [] [21] (tB G hx15),oN rI x15] (fr 48 5) [(50,ms 21 1 1 rI x15),(51,vI (x15.length:Int)),(52,vI 0)] [(21,some (ar 3 1 1 rI x15))] [(21,true)] (qb (bG (γ:=Nat) h (fun x_ g_=>bA [(0,V.tp [T.sl (List.map aP t.program.arrays),T.sl (List.map aH t.program.parts),T.sl (List.map aJ t.list),T.sl (List.map (rL rI) t.reads),T.sl (List.map rI t.writes)]),(3,ms 20 g_ 1 rB x_.1),(4,vI x3),(50,ms 21 1 1 rI x15),(51,vI (x15.length:Int)),(52,vI x_.2)] [(20,ar 4 g_ 1 rB x_.1),(21,ar 3 1 1 rI x15)] [20,21]) g4 (lS) ?_))
     rintro again19 ⟨x16,x17⟩ g18 h
     refine rq hC [] [53] [(53,vB (decide (x17<(x15.length:Int))))] [] [] (qs (aR h (fun c4 h=> ?_) (fun c4 h=> ?_)))
     ·refine qk (vj h (fun x_=>bA [(0,V.tp [T.sl (List.map aP t.program.arrays),T.sl (List.map aH t.program.parts),T.sl (List.map aJ t.list),T.sl (List.map (rL rI) t.reads),T.sl (List.map rI t.writes)]),(3,ms 20 g18 1 rB x_),(4,vI x3),(50,ms 21 1 1 rI x15),(51,vI (x15.length:Int)),(52,vI x17)] [(20,ar 4 g18 1 rB x_),(21,ar 3 1 1 rI x15)] [20,21]) (fun j20 h=> ?_) (fun x24 h=> ?_))
      ·
       refine qb ?_
       obtain⟨x21,hx21,h⟩:=bd h
       refine rq hC [oQ (jU rI hx21),oX rI hx21] [6,54,55] [(6,vI x21)] [] [] (rq hC [] [56,57] [(57,vB (decide ((0:Int)≤x21)))] [] [] (aR h (fun c5 h=> ?_) (fun c5 h=> ?_)))
       ·obtain⟨x22,hx22,x23,hx23,h⟩:=dI h
        exact rk hC [oQ (jU rB hx22),oX rB hx22,.z (.rows (List.map rB x23)),.z (.len 3 (List.map rB x23).length),oQ (str rB hx23),oQ (pB rB hx23)] [3,58,59,60] [(3,ms 20 g18 1 rB x23)] [(20,some (ar 4 g18 1 rB x23))] [] (lE h)
       ·exact qk (lE h)
      ·exact rk hC [] [52,61] [(52,vI (wr (x17+1)))] [] [] ⟨(x24,wr (x17+1)),g18,h,lS⟩
     ·exact cT ⟨x16,g18,h,lS⟩
  ·rintro x25 g26 h
   subst hj6
   exact rk hC [] [4,21,22] [(4,vI (wr (x3-1)))] [] [] ⟨(x25,wr (x3-1)),g26,h,lS⟩
 ·obtain rfl:=so h
  exact cT (rq hC [] [2,62] [(2,ms 20 g4 1 rB x2)] [] [] (qw (lk hC [.ren 2 20 0] [2] [(2,ms 0 1 1 rB x2)] [(0,some (ar 4 1 1 rB x2)),(20,none)] [(0,true)]) (qr eW)))
theorem uM{p}{r}(h:eU n p=some r):VQ G 30 [] [V.agg (cD p)] (ms 0 1 1 rI r) [ar 3 1 1 rI r]:=by
 unfold eU at h
 refine vq aN Tryz.func30 rfl fun w X β0 hC hg=> ?_
 refine rq hC [.z (.b (true))] [1,2] [(1,V.tp (bR p))] [] [] (qs ?_)
 obtain⟨x1,hx1,h⟩:=bd h
 refine aS h (fun c1 h=> ?_) (fun c1 h=> ?_)
 ·refine rk hC [.z (.v (V.tup [V.t T.nilP,vB x1.2])),oQ (vPn c1 (rJ G hx1))] (fr 3 7) [(3,V.t T.nilP),(4,vB x1.2)] [] [] (qs (rq hC [] [10,11] [(11,vB (!x1.2))] [] [] (aR h (fun c2 h=> ?_) (fun c2 h=> ?_))))
  ·obtain rfl:=so h
   exact rq hC [] [2] [(2,V.t T.nilS)] [] [] (qw (lk hC [.grow 2 0 3] [2] [(2,ms 0 1 1 rI [])] [(0,some (ar 3 1 1 rI []))] [(0,true)]) (qr eW))
  ·exact qk (qs (nof h))
 ·refine rk hC [.z (.v (V.tup [V.tp [T.sl (List.map aP (((x1.1.getD default).program).arrays)),T.sl (List.map aH (((x1.1.getD default).program).parts)),T.sl (List.map aJ ((x1.1.getD default).list)),T.sl (List.map (rL rI) ((x1.1.getD default).reads)),T.sl (List.map rI ((x1.1.getD default).writes))],vB x1.2])),oQ (vPs c1 (rJ G hx1))] (fr 3 7) [(3,V.tp [T.sl (List.map aP (((x1.1.getD default).program).arrays)),T.sl (List.map aH (((x1.1.getD default).program).parts)),T.sl (List.map aJ ((x1.1.getD default).list)),T.sl (List.map (rL rI) ((x1.1.getD default).reads)),T.sl (List.map rI ((x1.1.getD default).writes))]),(4,vB x1.2)] [] [] (qs (rq hC [] [10,11] [(11,vB (!x1.2))] [] [] (aR h (fun c3 h=> ?_) (fun c3 h=> ?_))))
  ·obtain rfl:=so h
   exact rq hC [] [2] [(2,V.t T.nilS)] [] [] (qw (lk hC [.grow 2 0 3] [2] [(2,ms 0 1 1 rI [])] [(0,some (ar 3 1 1 rI []))] [(0,true)]) (qr eW))
  ·refine qk ?_
   obtain⟨x2,hx2,x3,hx3,h⟩:=dI h
   obtain rfl:=so h
   exact rq hC [oC [] [20] (xB G hx2),.z (.at 2),.z (.fz 20 [13] []),oC [] [21] (aAN G hx3)] [2,12,13,14] [(2,ms 21 1 1 rI x3)] [(20,none),(21,some (ar 3 1 1 rI x3))] [(20,true),(21,true)] (qw (lk hC [.ren 2 21 0] [2] [(2,ms 0 1 1 rI x3)] [(0,some (ar 3 1 1 rI x3)),(21,none)] [(0,true)]) (qr eW))
theorem O3{uses}{to_a1}{cell}{r}(h:lG n uses to_a1 cell=some r):PQ G 88 [vM bD uses,vI to_a1,vI cell] (vI r):=by
 unfold lG at h
 refine pq aN Tryz.func88 rfl fun w X hC=> ?_
 refine rq hC [] [6] [] [] [] (qs (rq hC [] [7,8,9] [(7,vI (wr (to_a1-1)))] [] [] (qb (jK h (fun x_=>bA [(0,vM bD uses),(2,vI cell),(7,vI x_)] [] []) lS ?_))))
 rintro again2 x1 h
 refine qs (rq hC [] [10,11] [(11,vB (decide ((0:Int)≤x1)))] [] [] (aR h (fun c1 h=> ?_) (fun c1 h=> ?_)))
 ·refine qk (qs (qb ?_))
  obtain⟨x3,hx3,h⟩:=bd h
  refine rq hC [oR bD hx3] (fr 14 7) [(20,vB (decide (x3.write=cell)))] [] [] (aR h (fun c2 h=> ?_) (fun c2 h=> ?_))
  ·obtain rfl:=so h
   exact rq hC [] [6,21] [(6,vI x1)] [] [] (qr eR)
  ·exact qk (rk hC [] [7,12,13] [(7,vI (wr (x1-1)))] [] [] (lE h))
 ·obtain rfl:=so h
  exact cT (rq hC [] [6] [(6,vI (-1))] [] [] (qr eR))
theorem iR{p}{r}(h:dK n p=some r):VQ G 31 [] [V.agg (cD p)] (ms 0 1 1 rI r) [ar 3 1 1 rI r]:=by
 unfold dK at h
 refine vq aN Tryz.func31 rfl fun w X β0 hC hg=> ?_
 refine rq hC [.z (.b (true))] [1,2] [(1,V.tp (bR p))] [] [] (qs ?_)
 obtain⟨x1,hx1,h⟩:=bd h
 refine rq hC [oV (jI G hx1)] [10,11,12] [(12,vB (!x1))] [] [] (aR h (fun c1 h=> ?_) (fun c1 h=> ?_))
 ·obtain rfl:=so h
  exact rq hC [.z (.nat 20)] [2,13] [(2,ms 20 1 1 rI [])] [(20,some (ar 3 1 1 rI []))] [(20,true)] (qw (lk hC [.ren 2 20 0] [2] [(2,ms 0 1 1 rI [])] [(0,some (ar 3 1 1 rI [])),(20,none)] [(0,true)]) (qr eW))
 ·refine qk ?_
  obtain⟨x2,hx2,h⟩:=bd h
  refine rq hC [oC [] [20] (aAz G hx2)] [3,14,15] [(3,ms 20 1 2 bD x2)] [(20,some (ar 83 1 2 bD x2))] [(20,true)] ?_
  obtain⟨x3,hx3,h⟩:=bd h
  refine rq hC [oN bD x2,.z (.nat 21),oA (aC8 rB hx3),oQ (xK hx3).1] [4,16,17,18] [(4,ms 21 1 1 rB x3)] [(21,some (ar 4 1 1 rB x3))] [(21,true)] (qs (rq hC [oN bD x2] [5,19,20,21] [(5,vI (wr ((x2.length:Int)-1)))] [] [] (qb (bG (γ:=Nat) h (fun x_ g_=>bA [(3,ms 20 1 2 bD x2),(4,ms 21 g_ 1 rB x_.1),(5,vI x_.2)] [(20,ar 83 1 2 bD x2),(21,ar 4 g_ 1 rB x_.1)] [20,21]) 1 (lS) ?_))))
  rintro again7 ⟨x4,x5⟩ g6 h
  refine qs (rq hC [] [22,23] [(23,vB (decide ((0:Int)≤x5)))] [] [] (aR h (fun c2 h=> ?_) (fun c2 h=> ?_)))
  ·refine qk (qs (qb (rq hC [] [6] [(6,vB true)] [] [] (qs (rq hC [] [7,26,27] [(7,vI (wr (x5+1)))] [] [] ?_)))))
   refine qb (jK h (fun x_=>bA [(3,ms 20 1 2 bD x2),(4,ms 21 g6 1 rB x4),(5,vI x5),(6,vB x_.1),(7,vI x_.2)] [(20,ar 83 1 2 bD x2),(21,ar 4 g6 1 rB x4)] [20,21]) lS ?_)
   rintro again10 ⟨x8,x9⟩ h
   refine qs (rq hC [oN bD x2] (fr 28 4) [(31,vB (decide (x9<(x2.length:Int))))] [] [] (aR h (fun c3 h=> ?_) (fun c3 h=> ?_)))
   ·refine qk (vj h (fun x_=>bA [(3,ms 20 1 2 bD x2),(4,ms 21 g6 1 rB x4),(5,vI x5),(6,vB x_),(7,vI x9)] [(20,ar 83 1 2 bD x2),(21,ar 4 g6 1 rB x4)] [20,21]) (fun j11 h=> ?_) (fun x14 h=> ?_))
    ·
     refine qb (aS h (fun c4 h=> ?_) (fun c4 h=> ?_))
     ·exact dk hC bM (rF 12 c4) [6,34,35,36,37,38,39,40,41,42,43,44,45,46,47] [(6,vB false)] [] [] (lE h)
     ·obtain⟨x12,hx12,x13,hx13,h⟩:=dI h
      exact dk hC bM (rT 3 c4++[oQ (jU bD hx12),oT c4,oT c4,oX bD hx12]++rT 3 c4++[oQ (jU bD hx13),oT c4,oT c4,oX bD hx13,oT c4,oT c4]) [6,34,35,36,37,38,39,40,41,42,43,44,45,46,47] [(6,vB (!decide (x12.write=x13.write)))] [] [] (lE h)
    ·exact rk hC [] [7,32,33] [(7,vI (wr (x9+1)))] [] [] (lE h)
   ·refine cT (vj h (fun x_=>bA [(3,ms 20 1 2 bD x2),(4,ms 21 g6 1 rB x_),(5,vI x5)] [(20,ar 83 1 2 bD x2),(21,ar 4 g6 1 rB x_)] [20,21]) (fun j15 h=> ?_) (fun x19 h=> ?_))
    ·
     obtain⟨x16,hx16,h⟩:=bd h
     refine aS h (fun c5 h=> ?_) (fun c5 h=> ?_)
     ·obtain⟨x17,hx17,h⟩:=bd h
      exact rk hC [oQ (jU rB hx16),oX rB hx16,oF c5,oF c5,oQ (jU rB hx16),oX rB hx16,.z (.rows (List.map rB x17)),.z (.len 4 (List.map rB x17).length),oQ (str rB hx17),oQ (pB rB hx17)] [4,48,49,50,51,52,53,54,55,56,57] [(4,ms 21 g6 1 rB x17)] [(21,some (ar 4 g6 1 rB x17))] [] (lE h)
     ·obtain⟨x18,hx18,h⟩:=bd h
      exact rk hC [oQ (jU rB hx16),oX rB hx16,oT c5,oT c5,oQ (jU rB hx16),oX rB hx16,.z (.rows (List.map rB x18)),.z (.len 4 (List.map rB x18).length),oQ (str rB hx18),oQ (pB rB hx18)] [4,48,49,50,51,52,53,54,55,56,57] [(4,ms 21 g6 1 rB x18)] [(21,some (ar 4 g6 1 rB x18))] [] (lE h)
    ·refine rq hC [] [8] [(8,vI 0)] [] [] (qb (bG (γ:=Nat) h (fun x_ g_=>bA [(3,ms 20 1 2 bD x2),(4,ms 21 g_ 1 rB x_.1),(5,vI x5),(8,vI x_.2)] [(20,ar 83 1 2 bD x2),(21,ar 4 g_ 1 rB x_.1)] [20,21]) g6 (lS) ?_))
     rintro again23 ⟨x20,x21⟩ g22 h
     refine qs (vj h (fun x_=>bA [(3,ms 20 1 2 bD x2),(4,ms 21 g22 1 rB x20),(5,vI x5),(8,vI x21),(71,vB x_)] [(20,ar 83 1 2 bD x2),(21,ar 4 g22 1 rB x20)] [20,21]) (fun j24 h=> ?_) (fun x27 h=> ?_))
     ·
      obtain⟨x25,hx25,h⟩:=bd h
      refine aS h (fun c6 h=> ?_) (fun c6 h=> ?_)
      ·exact rk hC ([oQ (jU bD hx25),oX bD hx25,oN rI x25.reads]++rF 5 c6) (fr 58 14) [(71,vB false)] [] [] (lE h)
      ·obtain⟨x26,hx26,h⟩:=bd h
       exact rk hC ([oQ (jU bD hx25),oX bD hx25,oN rI x25.reads]++rT 3 c6++[oQ (jU rB hx26),oT c6,oX rB hx26,oT c6]) (fr 58 14) [(71,vB x26)] [] [] (lE h)
     ·refine aR h (fun c7 h=> ?_) (fun c7 h=> ?_)
      ·refine qk (vj h (fun x_=>bA [(3,ms 20 1 2 bD x2),(4,ms 21 g22 1 rB x_),(5,vI x5),(8,vI x21)] [(20,ar 83 1 2 bD x2),(21,ar 4 g22 1 rB x_)] [20,21]) (fun j28 h=> ?_) (fun x34 h=> ?_))
       ·
        refine qb ?_
        obtain⟨x29,hx29,x30,hx30,x31,hx31,h⟩:=mO h
        refine rq hC [oQ (jU bD hx29),oX bD hx29,oR rI hx30,.z (.b (true)),oV (O3 G hx31)] [9,74,75,76,77,78,79,80,81,82,83,84] [(9,vI x31)] [] [] (rq hC [] [85,86] [(86,vB (decide ((0:Int)≤x31)))] [] [] (aR h (fun c8 h=> ?_) (fun c8 h=> ?_)))
        ·obtain⟨x32,hx32,x33,hx33,h⟩:=dI h
         exact rk hC [oQ (jU rB hx32),oX rB hx32,.z (.rows (List.map rB x33)),.z (.len 4 (List.map rB x33).length),oQ (str rB hx33),oQ (pB rB hx33)] [4,87,88,89] [(4,ms 21 g22 1 rB x33)] [(21,some (ar 4 g22 1 rB x33))] [] (lE h)
        ·exact qk (lE h)
       ·exact rk hC [] [8,72,73] [(8,vI (wr (x21+1)))] [] [] ⟨(x34,wr (x21+1)),g22,h,lS⟩
      ·exact cT (rk hC [] [5,24,25] [(5,vI (wr (x5-1)))] [] [] ⟨(x20,wr (x5-1)),g22,h,lS⟩)
  ·refine cT ?_
   obtain⟨x35,hx35,h⟩:=bd h
   obtain rfl:=so h
   exact rq hC [.z (.at 2),.z (.fz 21 [4,90] []),oC [] [22] (E8 G hx35)] [2,4,90,91] [(2,ms 22 1 1 rI x35)] [(21,none),(22,some (ar 3 1 1 rI x35))] [(22,true)] (qw (lk hC [.ren 2 22 0] [2] [(2,ms 0 1 1 rI x35)] [(0,some (ar 3 1 1 rI x35)),(22,none)] [(0,true)]) (qr eW))
theorem rO(G:GS)(n:Nat)(code:List UInt8){r:Bool}(h:fB n code=some r):PQ G 6 [vM rY code] (vB r):=by
 unfold fB at h
 refine pq aN Tryz.func6 rfl fun w X hC=> ?_
 refine rq hC [] [2] [] [] [] (qs (rq hC [oN rY code] [15,16,17] [(17,vB (decide ((1048576:Int)<(code.length:Int))))] [] [] (aR h (fun c1 h=> ?_) (fun c1 h=> ?_))))
 ·obtain rfl:=so h
  exact rq hC [] [2] [(2,vB true)] [] [] (qr eR)
 ·refine qk ?_
  obtain⟨x1,hx1,h⟩:=bd h
  refine rq hC [oC [] [20] (tA G hx1),.z (.nat 21)] [3,4,18,19,20,21,22] [(3,V.ref 21 0),(4,ms 20 1 1 rI x1.2)] [(20,some (ar 3 1 1 rI x1.2)),(21,some (E.cells (cD x1.1)))] [(20,true),(21,true)] ?_
  obtain⟨x2,hx2,h⟩:=bd h
  refine rq hC [oC [] [22] (uM G hx2)] [5,23,24] [(5,ms 22 1 1 rI x2)] [(22,some (ar 3 1 1 rI x2))] [(22,true)] ?_
  obtain⟨x3,hx3,h⟩:=bd h
  refine rq hC [.z (.at 6),.z (.fz 20 [4,27] []),oC [] [23] (C9 G hx3)] [4,6,7,25,26,27,28,29,30] [(4,vM rI x1.2),(6,ms 23 1 1 rI x3.1),(7,vB x3.2)] [(20,none),(23,some (ar 3 1 1 rI x3.1))] [(23,true)] (qs (vj h (fun x_=>bA [(3,V.ref 21 0),(4,vM rI x1.2),(5,ms 22 1 1 rI x2),(6,ms 23 1 1 rI x3.1),(39,vB x_.2)] [(21,E.cells (cD x1.1)),(22,ar 3 1 1 rI x2),(23,ar 3 1 1 rI x3.1),(24,ar 3 1 1 rI x_.1)] [20,21,22,23,24]) (fun j4 h=> ?_) ?_))
  ·
   obtain⟨x5,hx5,x6,hx6,h⟩:=dI h
   refine aS h (fun c2 h=> ?_) (fun c2 h=> ?_)
   ·exact rk hC ([oC [] [24] (iR G hx5),.z (.b (true)),oV (oK G hx6)]++rF 3 c2) (fr 31 9) [(39,vB (!x3.2))] [(24,some (ar 3 1 1 rI x5))] [(24,true)] (lE h)
   ·exact rk hC ([oC [] [24] (iR G hx5),.z (.b (true)),oV (oK G hx6)]++rT 3 c2) (fr 31 9) [(39,vB true)] [(24,some (ar 3 1 1 rI x5))] [(24,true)] (lE h)
  ·rintro⟨x7,x8⟩ h
   refine aR h (fun c3 h=> ?_) (fun c3 h=> ?_)
   ·obtain⟨x9,hx9,x10,hx10,h⟩:=dI h
    obtain rfl:=so h
    exact rq hC [oC [] [25] (iR G hx9),.z (.b (true)),oV (oK G hx10)] [2,40,41,42,43] [(2,vB x10)] [(25,some (ar 3 1 1 rI x9))] [(25,true)] (qr eR)
   ·refine qk ?_
    obtain⟨x11,hx11,h⟩:=bd h
    refine rq hC [oC [] [25] (kA G hx11)] [8,44,45] [(8,ms 25 1 3 aJ x11)] [(25,some (ar 38 1 3 aJ x11))] [(25,true)] ?_
    obtain⟨x12,hx12,h⟩:=bd h
    refine rq hC [.z (.nat 26),oA (aT rI hx12),oQ (b9 (r:=rI) 1 (fun _=>rfl) []),oQ (b9 (r:=rI) 1 (fun _=>rfl) x1.2)] [9,46,47,48] [(9,ms 26 2 1 rI x12)] [(26,some (ar 3 2 1 rI x12))] [(26,true)] (qs (rq hC [] [10] [(10,vI 0)] [] [] (qb (qw (lk hC [.fz 26 [9] []] [9] [(9,vM rI x12)] [(26,none)] []) (jK h (fun x_=>bA [(3,V.ref 21 0),(5,ms 22 1 1 rI x2),(6,ms 23 1 1 rI x3.1),(8,ms 25 1 3 aJ x11),(9,vM rI x_.1),(10,vI x_.2)] [(21,E.cells (cD x1.1)),(22,ar 3 1 1 rI x2),(23,ar 3 1 1 rI x3.1),(24,ar 3 1 1 rI x7),(25,ar 38 1 3 aJ x11)] [20,21,22,23,24,25,26]) lS ?_)))))
    rintro again15 ⟨x13,x14⟩ h
    refine qs (rq hC [oN rI x2] (fr 49 4) [(52,vB (decide (x14<(x2.length:Int))))] [] [] (aR h (fun c4 h=> ?_) (fun c4 h=> ?_)))
    ·refine qk (qs (qb (qs ?_)))
     obtain⟨x16,hx16,x17,hx17,x18,hx18,h⟩:=mO h
     refine dk hC bM [oQ (jU rI hx16),oX rI hx16,oQ (jU aJ hx17),oX aJ hx17,oC [] [27] (xC G hx18)] [11,12,55,56,57,58,59,60,61,62,63,64,65,66,67] [(11,ms 27 1 1 rI x18.1),(12,vB x18.2)] [(27,some (ar 3 1 1 rI x18.1))] [(27,true)] (qs (rq hC [] [68,69] [(69,vB (!x18.2))] [] [] (aR h (fun c5 h=> ?_) (fun c5 h=> ?_))))
     ·obtain rfl:=so h
      exact rq hC [] [2] [(2,vB false)] [] [] (qr eR)
     ·exact qk (rk hC [] [9,70] [(9,ms 27 1 1 rI x18.1)] [] [] (rk hC [] [10,53,54] [(10,vI (wr (x14+1)))] [] [] ⟨(x18.1,wr (x14+1)),h,((lk hC [.fz 27 [9,11] []] [9,11] [(9,vM rI x18.1),(11,vM rI x18.1)] [(27,none)] []).trans (lS))⟩))
    ·refine cT ?_
     obtain⟨x19,hx19,h⟩:=bd h
     refine rq hC [oC [] [27] (uN G hx19)] [13,71,72] [(13,ms 27 1 1 rI x19)] [(27,some (ar 3 1 1 rI x19))] [(27,true)] (qs (rq hC [] [14] [(14,vI 0)] [] [] (qb (jK h (fun x_=>bA [(5,ms 22 1 1 rI x2),(6,ms 23 1 1 rI x3.1),(9,vM rI x13),(13,ms 27 1 1 rI x19),(14,vI x_)] [(21,E.cells (cD x1.1)),(22,ar 3 1 1 rI x2),(23,ar 3 1 1 rI x3.1),(24,ar 3 1 1 rI x7),(25,ar 38 1 3 aJ x11),(27,ar 3 1 1 rI x19)] [20,21,22,23,24,25,26,27]) lS ?_))))
     rintro again21 x20 h
     refine qs (rq hC [oN rI x19] (fr 73 4) [(76,vB (decide (x20<(x19.length:Int))))] [] [] (aR h (fun c6 h=> ?_) (fun c6 h=> ?_)))
     ·refine qk (qs (qb ?_))
      obtain⟨x22,hx22,x23,hx23,h⟩:=dI h
      refine rq hC [oQ (jU rI hx22),oX rI hx22,.z (.b (true)),oV (aB8 G hx23)] (fr 79 6) [(84,vB x23)] [] [] (aR h (fun c7 h=> ?_) (fun c7 h=> ?_))
      ·obtain rfl:=so h
       exact rq hC [] [2] [(2,vB false)] [] [] (qr eR)
      ·exact qk (rk hC [] [14,77,78] [(14,vI (wr (x20+1)))] [] [] (lE h))
     ·refine cT ?_
      obtain⟨x24,hx24,h⟩:=bd h
      obtain rfl:=so h
      exact rq hC [.z (.b (true)),oV (oK G hx24)] [2,85,86,87] [(2,vB x24)] [] [] (qr eR)
end Go.Lift
