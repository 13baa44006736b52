/- The walks: the code computes what the plain functions say. -/
import Derived.Test.YtohillieiccgdaaGreatBModels
import Derived.Test.YtohillieiccgdaaGreatBWalks2
set_option maxRecDepth 10000
set_option linter.unusedVariables false
namespace Go.Lift
open Go Go.Proofs
variable (G:GS) {n:Nat}
theorem lJ(G:GS)(n:Nat)(s:List Access)(fF:FuncId)(fC0:List T)(fC1:List T)(f:Access→Option Bool)(hf: ∀(q0:Access) r,f q0=some r→PQ G fF [V.agg (dR q0),V.tp fC0,V.tp fC1] (vB r)){r:Bool}(h:cC n s f=some r):PQ G 187 [vM aO s,V.fn fF [V.tp fC0,V.tp fC1]] (vB r):=by
 unfold cC at h
 refine pq aN Tryz.func187 rfl fun w X hC=> ?_
 refine rq hC [] [4] [] [] [] ?_
 obtain⟨x1,hx1,h⟩:=bd h
 obtain rfl:=so h
 exact rq hC [oV (nG G n s fF fC0 fC1 f hf hx1)] (fr 4 5) [(4,vB (decide ((0:Int)≤x1)))] [] [] (qr eR)
theorem sQ{p}{s}{point}{r}(h:d7 n p s point=some r):PQ G 165 [V.agg (b9 p),V.agg (fS s),vM rI point] (vB r):=by
 unfold d7 at h
 refine pq aN Tryz.func165 rfl fun w X hC=> ?_
 refine rq hC [.z (.b (true)),.z (.b (true)),.z (.b (true))] (fr 3 4) [(3,V.tp (bM p)),(4,V.tp (rG s)),(5,V.tp [T.sl (List.map rI point)])] [] [] (vj h (fun x_=>bA [(6,vB x_)] [] []) (fun j1 h=> ?_) (fun x5 h=> ?_))
 ·
  obtain⟨x2,hx2,h⟩:=bd h
  refine aP h (fun c1 h=> ?_) (fun c1 h=> ?_)
  ·exact rk hC ([oV (cG G hx2)]++rF 7 c1) (fr 6 15) [(6,vB false)] [] [] (lE h)
  ·obtain⟨x3,hx3,x4,hx4,h⟩:=dK h
   exact rk hC ([oV (cG G hx2)]++rT 3 c1++[oC [] [20] (G6 G n s.value hx3),oT c1,oT c1,.z (.b (true)),oV (lJ G n x3 234 (bM p) [T.sl (List.map rI point)] (fun q0=>cF n q0 p point) (fun q0 r h=>qC G n q0 p point h) hx4),oT c1,oT c1]) (fr 6 15) [(6,vB (!x4))] [(20,some (ar 107 1 2 aO x3))] [(20,true)] (lE h)
 ·obtain rfl:=so h
  exact qr eR
theorem qB(G:GS)(n:Nat)(n_a0:Int){r:Bool}(h:cW n n_a0=some r):PQ G 227 [vI n_a0] (vB r):=by
 unfold cW at h
 refine pq aN Tryz.func227 rfl fun w X hC=> ?_
 refine rq hC [] [2] [] [] [] ?_
 obtain⟨x1,hx1,h⟩:=bd h
 obtain rfl:=so h
 exact rq hC [oV (aW G hx1)] (fr 2 4) [(2,vB (!x1))] [] [] (qr eR)
theorem tZ{list}{r}(h:lD n list=some r):PQ G 159 [vM aT list] (vB r):=by
 unfold lD at h
 refine pq aN Tryz.func159 rfl fun w X hC=> ?_
 refine rq hC [] [2] [] [] [] (qs (rq hC [oN aT list] [5,6,7] [(5,vM aT list),(6,vI (list.length:Int)),(7,vI 0)] [] [] (qb (kC h (fun x_=>bA [(0,vM aT list),(5,vM aT list),(6,vI (list.length:Int)),(7,vI x_)] [] []) lS ?_))))
 rintro again2 x1 h
 refine rq hC [] [8] [(8,vB (decide (x1<(list.length:Int))))] [] [] (qs (aR h (fun c1 h=> ?_) (fun c1 h=> ?_)))
 ·refine qk (qs (qb ?_))
  obtain⟨x3,hx3,h⟩:=bd h
  refine rq hC [oR aT hx3,.z (.nat 20)] [3,4,9,10,11] [(3,vI x1),(4,V.ref 20 0)] [(20,sc [vS x3.name,vM rI x3.dims])] [(20,true)] (vj h (fun x_=>bA [(0,vM aT list),(5,vM aT list),(6,vI (list.length:Int)),(7,vI x1),(42,vB x_)] [(20,E.cells [vS x3.name,vM rI x3.dims])] [20]) (fun j4 h=> ?_) (fun x11 h=> ?_))
  ·
   obtain⟨x5,hx5,h⟩:=bd h
   refine aP h (fun c2 h=> ?_) (fun c2 h=> ?_)
   ·refine aP h (fun c3 h=> ?_) (fun c3 h=> ?_)
    ·obtain⟨x6,hx6,h⟩:=bd h
     refine aP h (fun c4 h=> ?_) (fun c4 h=> ?_)
     ·obtain⟨x7,hx7,h⟩:=bd h
      exact dk hC bN ([oV (dQ G hx5)]++rF 3 c2++rF 9 c3++[oF c2,oF c3,oF c2,eF,eF,eF,oN rI x3.dims,eF,oV (aW G hx6),eF,eF]++rF 3 c4++[oV (cM G n x3.dims 227 (fun q0=>cW n q0) (fun q0 r h=>qB G n q0 h) hx7),oF c4]) (fr 12 31) [(42,vB x7)] [] [] (lE h)
     ·exact dk hC bN ([oV (dQ G hx5)]++rF 3 c2++rF 9 c3++[oF c2,oF c3,oF c2,eF,eF,eF,oN rI x3.dims,eF,oV (aW G hx6),eF,eF]++rT 4 c4) (fr 12 31) [(42,vB true)] [] [] (lE h)
    ·obtain⟨x8,hx8,h⟩:=bd h
     refine aP h (fun c5 h=> ?_) (fun c5 h=> ?_)
     ·obtain⟨x9,hx9,h⟩:=bd h
      refine aP h (fun c6 h=> ?_) (fun c6 h=> ?_)
      ·obtain⟨x10,hx10,h⟩:=bd h
       exact dk hC bN ([oV (dQ G hx5)]++rF 3 c2++rT 4 c3++[oR aT hx8]++rT 5 c3++[oF c2,oT c3,oF c2]++rF 3 c5++[oN rI x3.dims,oF c5,oV (aW G hx9),oF c5,oF c5]++rF 3 c6++[oV (cM G n x3.dims 227 (fun q0=>cW n q0) (fun q0 r h=>qB G n q0 h) hx10),oF c6]) (fr 12 31) [(42,vB x10)] [] [] (lE h)
      ·exact dk hC bN ([oV (dQ G hx5)]++rF 3 c2++rT 4 c3++[oR aT hx8]++rT 5 c3++[oF c2,oT c3,oF c2]++rF 3 c5++[oN rI x3.dims,oF c5,oV (aW G hx9),oF c5,oF c5]++rT 4 c6) (fr 12 31) [(42,vB true)] [] [] (lE h)
     ·exact dk hC bN ([oV (dQ G hx5)]++rF 3 c2++rT 4 c3++[oR aT hx8]++rT 5 c3++[oF c2,oT c3,oF c2]++rT 6 c5++sT 4) (fr 12 31) [(42,vB true)] [] [] (lE h)
   ·exact dk hC bN ([oV (dQ G hx5)]++rT 5 c2++sT 10) (fr 12 31) [(42,vB true)] [] [] (lE h)
  ·refine aR h (fun c7 h=> ?_) (fun c7 h=> ?_)
   ·obtain rfl:=so h
    exact rq hC [] [2] [(2,vB false)] [] [] (qr eR)
   ·exact qk (rk hC [] [7,43] [(7,vI (wr (x1+1)))] [] [] (lE h))
 ·obtain rfl:=so h
  exact dG (rq hC [oN aT list] [2,44,45,46] [(2,vB (decide ((list.length:Int)≤4)))] [] [] (qr eR))
theorem o5(G:GS)(n:Nat)(s:List Stmt)(fF:FuncId)(fC0:List T)(f:Stmt→Option Bool)(hf: ∀(q0:Stmt) r,f q0=some r→PQ G fF [V.agg (fS q0),V.tp fC0] (vB r)){r:Int}(h:fM n s f=some r):PQ G 230 [vM aZ s,V.fn fF [V.tp fC0]] (vI r):=by
 unfold fM at h
 refine pq aN Tryz.func230 rfl fun w X hC=> ?_
 refine rq hC [] [4] [] [] [] (qs (rq hC [oN aZ s] [6,7,8] [(7,vI (s.length:Int)),(8,vI 0)] [] [] (qb (kC h (fun x_=>bA [(0,vM aZ s),(1,V.fn fF [V.tp fC0]),(7,vI (s.length:Int)),(8,vI x_)] [] []) lS ?_))))
 rintro again2 x1 h
 refine rq hC [] [9] [(9,vB (decide (x1<(s.length:Int))))] [] [] (qs (aR h (fun c1 h=> ?_) (fun c1 h=> ?_)))
 ·refine qk (qs (qb (rq hC [] [5,10] [(5,vI x1)] [] [] ?_)))
  obtain⟨x3,hx3,x4,hx4,h⟩:=dK h
  refine rq hC [oR aZ hx3,oV (hf x3 _ hx4)] (fr 11 6) [(16,vB x4)] [] [] (aR h (fun c2 h=> ?_) (fun c2 h=> ?_))
  ·obtain rfl:=so h
   exact rq hC [] [4,17] [(4,vI x1)] [] [] (qr eR)
  ·exact qk (rk hC [] [8,18] [(8,vI (wr (x1+1)))] [] [] (lE h))
 ·obtain rfl:=so h
  exact dG (rq hC [] [4] [(4,vI (-1))] [] [] (qr eR))
theorem mF(G:GS)(n:Nat)(s:List Stmt)(fF:FuncId)(fC0:List T)(f:Stmt→Option Bool)(hf: ∀(q0:Stmt) r,f q0=some r→PQ G fF [V.agg (fS q0),V.tp fC0] (vB r)){r:Bool}(h:cU n s f=some r):PQ G 161 [vM aZ s,V.fn fF [V.tp fC0]] (vB r):=by
 unfold cU at h
 refine pq aN Tryz.func161 rfl fun w X hC=> ?_
 refine rq hC [] [4] [] [] [] ?_
 obtain⟨x1,hx1,h⟩:=bd h
 obtain rfl:=so h
 exact rq hC [oV (o5 G n s fF fC0 f hf hx1)] (fr 4 5) [(4,vB (decide ((0:Int)≤x1)))] [] [] (qr eR)
theorem dF{p}{r}(h:bH n p=some r):VQ G 67 [] [V.agg (b9 p)] (V.tup [ms 0 1 3 aJ r.1,vB r.2]) [ar 38 1 3 aJ r.1]:=by
 unfold bH at h
 refine vq aN Tryz.func67 rfl fun w X β0 hC hg=> ?_
 refine rq hC [.z (.b (true))] [1,2,3] [(1,V.tp (bM p))] [] [] (qs (vj h (fun x_=>bA [(1,V.tp (bM p)),(22,vB x_)] [] []) (fun j1 h=> ?_) (fun x3 h=> ?_)))
 ·
  obtain⟨x2,hx2,h⟩:=bd h
  refine aP h (fun c1 h=> ?_) (fun c1 h=> ?_)
  ·exact rk hC ([oV (tZ G hx2)]++rF 3 c1++[oN aH p.parts,oF c1,oF c1]) (fr 13 10) [(22,vB (decide ((4:Int)<(p.parts.length:Int))))] [] [] (lE h)
  ·exact rk hC ([oV (tZ G hx2)]++rT 5 c1) (fr 13 10) [(22,vB true)] [] [] (lE h)
 ·refine aR h (fun c2 h=> ?_) (fun c2 h=> ?_)
  ·obtain rfl:=so h
   exact rq hC [] [2,3] [(2,V.t T.nilS),(3,vB false)] [] [] (qw (lk hC [.grow 2 0 38] [2] [(2,ms 0 1 3 aJ [])] [(0,some (ar 38 1 3 aJ []))] [(0,true)]) (qr eW))
  ·refine qk (rq hC [] [4] [(4,V.t T.nilS)] [] [] (qs (rq hC [oN aH p.parts] (fr 23 4) [(24,vM aH p.parts),(25,vI (p.parts.length:Int)),(26,vI 0)] [] [] (qb (qw (lk hC [.grow 4 20 38] [4] [(4,ms 20 1 3 aJ [])] [(20,some (ar 38 1 3 aJ []))] [(20,true)]) ?_)))))
   refine bL (γ:=Nat) h (fun x_ g_=>bA [(1,V.tp (bM p)),(4,ms 20 g_ 3 aJ x_.1),(24,vM aH p.parts),(25,vI (p.parts.length:Int)),(26,vI x_.2)] [(20,ar 38 g_ 3 aJ x_.1)] [20]) 1 (lS) ?_
   rintro again7 ⟨x4,x5⟩ g6 h
   refine rq hC [] [27] [(27,vB (decide (x5<(p.parts.length:Int))))] [] [] (qs (aR h (fun c3 h=> ?_) (fun c3 h=> ?_)))
   ·refine qk (qs (qb ?_))
    obtain⟨x8,hx8,h⟩:=bd h
    refine rq hC [oR aH hx8,.z (.nat 21),.z (.at 0),.z (.fp 21 [6])] [5,6,28,29,30] [(5,vI x5),(6,V.tp (o7 x8))] [(21,none)] [(21,true)] ?_
    obtain⟨x9,hx9,h⟩:=bd h
    refine rq hC [oC [] [22] (z8 G hx9)] [7,8,31,32,33,34,35,36] [(7,ms 22 1 1 (rL rI) x9.1),(8,vB x9.2)] [(22,some (ar 27 1 1 (rL rI) x9.1))] [(22,true)] (qs (vj h (fun x_=>bA [(1,V.tp (bM p)),(4,ms 20 g6 3 aJ x4),(5,vI x5),(6,V.tp (o7 x8)),(7,ms 22 1 1 (rL rI) x9.1),(24,vM aH p.parts),(25,vI (p.parts.length:Int)),(26,vI x5),(51,vB x_)] [(20,ar 38 g6 3 aJ x4),(22,ar 27 1 1 (rL rI) x9.1)] [20,21,22]) (fun j10 h=> ?_) (fun x13 h=> ?_)))
    ·
     refine aP h (fun c4 h=> ?_) (fun c4 h=> ?_)
     ·obtain⟨x11,hx11,h⟩:=bd h
      refine aP h (fun c5 h=> ?_) (fun c5 h=> ?_)
      ·obtain⟨x12,hx12,h⟩:=bd h
       exact rk hC (rF 3 c4++[oN aZ x8.body,oF c4,oV (aW G hx11),oF c4,oF c4]++rF 4 c5++[oV (mF G n x8.body 162 (o7 x8) (fun q0=>bV n q0 x8) (fun q0 r h=>nJ G n q0 x8 h) hx12),oF c5]) (fr 37 15) [(51,vB x12)] [] [] (lE h)
      ·exact rk hC (rF 3 c4++[oN aZ x8.body,oF c4,oV (aW G hx11),oF c4,oF c4]++rT 5 c5) (fr 37 15) [(51,vB true)] [] [] (lE h)
     ·exact rk hC (rT 6 c4++sT 5) (fr 37 15) [(51,vB true)] [] [] (lE h)
    ·refine aR h (fun c6 h=> ?_) (fun c6 h=> ?_)
     ·obtain rfl:=so h
      exact rq hC [] [2,3] [(2,V.t T.nilS),(3,vB false)] [] [] (qw (lk hC [.grow 2 0 38] [2] [(2,ms 0 1 3 aJ [])] [(0,some (ar 38 1 3 aJ []))] [(0,true)]) (qr eW))
     ·refine qk (rq hC [oN (rL rI) x9.1] [52,53,54] [(52,ms 22 1 1 (rL rI) x9.1),(53,vI (x9.1.length:Int)),(54,vI 0)] [] [] (qb (bL (γ:=Nat) h (fun x_ g_=>bA [(1,V.tp (bM p)),(4,ms 20 g_ 3 aJ x_.1),(5,vI x5),(6,V.tp (o7 x8)),(24,vM aH p.parts),(25,vI (p.parts.length:Int)),(26,vI x5),(52,ms 22 1 1 (rL rI) x9.1),(53,vI (x9.1.length:Int)),(54,vI x_.2)] [(20,ar 38 g_ 3 aJ x_.1),(22,ar 27 1 1 (rL rI) x9.1)] [20,21,22]) g6 (lS) ?_)))
      rintro again17 ⟨x14,x15⟩ g16 h
      refine rq hC [] [55] [(55,vB (decide (x15<(x9.1.length:Int))))] [] [] (qs (aR h (fun c7 h=> ?_) (fun c7 h=> ?_)))
      ·refine qk (qs (qb ?_))
       obtain⟨x18,hx18,h⟩:=bd h
       refine rq hC [oQ (mB (rL rI) hx18),oX (rL rI) hx18] [10,56,57] [(10,vM rI x18)] [] [] (qs ?_)
       obtain⟨x19,hx19,h⟩:=bd h
       refine rq hC [oV (T5 G hx19)] [58,59,60] [(60,vB (!x19))] [] [] (aR h (fun c8 h=> ?_) (fun c8 h=> ?_))
       ·obtain rfl:=so h
        exact rq hC [] [2,3] [(2,V.t T.nilS),(3,vB false)] [] [] (qw (lk hC [.grow 2 0 38] [2] [(2,ms 0 1 3 aJ [])] [(0,some (ar 38 1 3 aJ []))] [(0,true)]) (qr eW))
       ·refine qk (rq hC [oN aZ x8.body] (fr 61 4) [(62,vM aZ x8.body),(63,vI (x8.body.length:Int)),(64,vI 0)] [] [] (qb (bL (γ:=Nat) h (fun x_ g_=>bA [(1,V.tp (bM p)),(4,ms 20 g_ 3 aJ x_.1),(5,vI x5),(6,V.tp (o7 x8)),(10,vM rI x18),(24,vM aH p.parts),(25,vI (p.parts.length:Int)),(26,vI x5),(52,ms 22 1 1 (rL rI) x9.1),(53,vI (x9.1.length:Int)),(54,vI x15),(62,vM aZ x8.body),(63,vI (x8.body.length:Int)),(64,vI x_.2)] [(20,ar 38 g_ 3 aJ x_.1),(22,ar 27 1 1 (rL rI) x9.1)] [20,21,22]) g16 (lS) ?_)))
        rintro again23 ⟨x20,x21⟩ g22 h
        refine rq hC [] [65] [(65,vB (decide (x21<(x8.body.length:Int))))] [] [] (qs (aR h (fun c9 h=> ?_) (fun c9 h=> ?_)))
        ·refine qk (qs (qb ?_))
         obtain⟨x24,hx24,h⟩:=bd h
         refine rq hC [oR aZ hx24,.z (.nat 23)] [11,12,66,67,68] [(11,vI x21),(12,V.ref 23 0)] [(23,some (E.cells (fS x24)))] [(23,true)] (qs ?_)
         obtain⟨x25,hx25,h⟩:=bd h
         refine rq hC [oV (sQ G hx25)] (fr 69 5) [(73,vB (!x25))] [] [] (aR h (fun c10 h=> ?_) (fun c10 h=> ?_))
         ·obtain rfl:=so h
          exact rq hC [] [2,3] [(2,V.t T.nilS),(3,vB false)] [] [] (qw (lk hC [.grow 2 0 38] [2] [(2,ms 0 1 3 aJ [])] [(0,some (ar 38 1 3 aJ []))] [(0,true)]) (qr eW))
         ·refine qk ?_
          obtain⟨x26,hx26,x27,hx27,h⟩:=dK h
          exact rk hC [oC [] [24] (G.clone x18 hx26),.z (.at 4),.z (.fz 24 [78] []),.z (.int 0),oA (aS aJ hx27),oQ (cI (r:=aJ) 3 qU x20),oQ (cI (r:=aJ) 3 qU [(⟨x5,x21,x26⟩:Inst)])] [4,74,75,76,77,78,79,80,81] [(4,ms 20 (g22+1) 3 aJ x27)] [(24,none),(20,some (ar 38 (g22+1) 3 aJ x27))] [(24,true)] (rk hC [] [64,82] [(64,vI (wr (x21+1)))] [] [] ⟨(x27,wr (x21+1)),(g22+1),h,lS⟩)
        ·exact dG (rk hC [] [54,83] [(54,vI (wr (x15+1)))] [] [] ⟨(x20,wr (x15+1)),g22,h,lS⟩)
      ·exact dG (rk hC [] [26,84] [(26,vI (wr (x5+1)))] [] [] ⟨(x14,wr (x5+1)),g16,h,lS⟩)
   ·obtain rfl:=so h
    exact dG (rq hC [oN aJ x4] [2,3,85,86,87,88] [(2,ms 20 g6 3 aJ x4),(3,vB (decide ((x4.length:Int)≤120)))] [] [] (qw (lk hC [.ren 2 20 0] [2] [(2,ms 0 1 3 aJ x4)] [(0,some (ar 38 1 3 aJ x4)),(20,none)] [(0,true)]) (qr eW)))
theorem nI{p}{x}{r}(h:cL n p x=some r):PQ G 98 [V.agg (b9 p),V.agg (G7 x)] (V.agg (fS r)):=by
 unfold cL at h
 refine pq aN Tryz.func98 rfl fun w X hC=> ?_
 refine rq hC [.z (.b (true)),.z (.b (true)),.z (.nat 20)] [2,3,4] [(2,V.tp (bM p)),(3,V.tp (O2 x)),(4,V.ref 20 0)] [(20,sc [vS [],V.t T.nilS,vI 0,vI 0,V.t T.nilS,vI 0,vS [],V.t T.nilS,V.t T.nilS])] [(20,true)] (qs ?_)
 obtain⟨x1,hx1,x2,hx2,h⟩:=dK h
 obtain rfl:=so h
 exact dk hC bN [oR aH hx1,oR aZ hx2] (fr 5 11) [] [(20,some (E.cells (fS x2)))] [] (qr eR)
theorem rD{p}{x}{r}(h:dO n p x=some r):VQ G 149 [] [V.agg (b9 p),V.agg (G7 x)] (V.tup [ms 0 1 1 rI r.1,vI r.2]) [ar 3 1 1 rI r.1]:=by
 unfold dO at h
 refine vq aN Tryz.func149 rfl fun w X β0 hC hg=> ?_
 refine rq hC [.z (.b (true)),.z (.b (true))] (fr 2 4) [(2,V.tp (bM p)),(3,V.tp (O2 x))] [] [] ?_
 obtain⟨x1,hx1,h⟩:=bd h
 refine rq hC [oV (nI G hx1),.z (.nat 20)] [6,10,11,12] [(6,V.ref 20 0)] [(20,some (E.cells (fS x1)))] [(20,true)] (rq hC [] [7] [(7,V.t T.nilS)] [] [] (qs ?_))
 obtain⟨x2,hx2,h⟩:=bd h
 refine rq hC [oC [] [21] (G6 G n x1.value hx2),oN aO x2] (fr 13 5) [(15,ms 21 1 2 aO x2),(16,vI (x2.length:Int)),(17,vI 0)] [(21,some (ar 107 1 2 aO x2))] [(21,true)] (qb (qw (lk hC [.grow 7 22 3] [7] [(7,ms 22 1 1 rI [])] [(22,some (ar 3 1 1 rI []))] [(22,true)]) (bL (γ:=Nat) h (fun x_ g_=>bA [(2,V.tp (bM p)),(3,V.tp (O2 x)),(6,V.ref 20 0),(7,ms 22 g_ 1 rI x_.1),(15,ms 21 1 2 aO x2),(16,vI (x2.length:Int)),(17,vI x_.2)] [(20,E.cells (fS x1)),(21,ar 107 1 2 aO x2),(22,ar 3 g_ 1 rI x_.1)] [20,21,22]) 1 (lS) ?_)))
 rintro again6 ⟨x3,x4⟩ g5 h
 refine rq hC [] [18] [(18,vB (decide (x4<(x2.length:Int))))] [] [] (qs (aR h (fun c1 h=> ?_) (fun c1 h=> ?_)))
 ·refine qk (qs (qb ?_))
  obtain⟨x7,hx7,h⟩:=bd h
  refine rq hC [oQ (mB aO hx7),oX aO hx7,.z (.nat 23)] [9,19,20] [(9,V.ref 23 0)] [(23,some (E.cells (dR x7)))] [(23,true)] ?_
  obtain⟨x8,hx8,x9,hx9,h⟩:=dK h
  exact rk hC [oV (cG G hx8),.z (.int 0),oA (aS rI hx9),oQ (cI (r:=rI) 1 (fun _=>rfl) x3),oQ (cI (r:=rI) 1 (fun _=>rfl) [x8])] [7,21,22,23,24,25,26,27,28] [(7,ms 22 (g5+1) 1 rI x9)] [(22,some (ar 3 (g5+1) 1 rI x9))] [] (rk hC [] [17,29] [(17,vI (wr (x4+1)))] [] [] ⟨(x9,wr (x4+1)),(g5+1),h,lS⟩)
 ·refine dG ?_
  obtain⟨x10,hx10,h⟩:=bd h
  obtain rfl:=so h
  exact rq hC [oV (cG G hx10)] [4,5,30,31,32,33,34,35,36] [(4,ms 22 g5 1 rI x3),(5,vI x10)] [] [] (qw (lk hC [.ren 4 22 0] [4] [(4,ms 0 1 1 rI x3)] [(0,some (ar 3 1 1 rI x3)),(22,none)] [(0,true)]) (qr eW))
theorem G5{p}{r}(h:tI n p=some r):PQ G 59 [V.agg (b9 p)] (V.tup [vP aEe r.1,vB r.2]):=by
 unfold tI at h
 refine pmr aN Tryz.func59 rfl rfl rfl rfl rfl (aGH _ _ _) rfl ?_
 intro w X hC
 refine rq hC [.z (.b (true))] [1,2,3] [(1,V.tp (bM p))] [] [] ?_
 obtain⟨x1,hx1,h⟩:=bd h
 refine rq hC [oC [] [20] (dF G hx1)] [4,5,11,12,13,14,15] [(4,ms 20 1 3 aJ x1.1),(5,vB x1.2)] [(20,some (ar 38 1 3 aJ x1.1))] [(20,true)] (qs (rq hC [] [16,17] [(17,vB (!x1.2))] [] [] (aR h (fun c1 h=> ?_) (fun c1 h=> ?_))))
 ·obtain rfl:=so h
  exact rq hC [] [2,3] [(2,V.t T.nilP),(3,vB false)] [] [] (qr eR)
 ·refine qk (rq hC [.z (.nat 21)] [6,18,19,20,21] [(6,V.ref 21 0)] [(21,sc [vM aT p.arrays,vM aH p.parts,ms 20 1 3 aJ x1.1,V.t T.nilS,V.t T.nilS])] [(21,true)] (qs (rq hC [oN aJ x1.1] [22,23,24] [(22,ms 20 1 3 aJ x1.1),(23,vI (x1.1.length:Int)),(24,vI 0)] [] [] (qb (qw (lk hC [.growc 21 3 22 27] [] [] [(22,some (ar 27 1 1 (rL rI) [])),(21,sc [vM aT p.arrays,vM aH p.parts,ms 20 1 3 aJ x1.1,ms 22 1 1 (rL rI) [],V.t T.nilS])] [(22,true)]) ?_)))))
  refine qw (lk hC [.growc 21 4 23 3] [] [] [(23,some (ar 3 1 1 rI [])),(21,sc [vM aT p.arrays,vM aH p.parts,ms 20 1 3 aJ x1.1,ms 22 1 1 (rL rI) [],ms 23 1 1 rI []])] [(23,true)]) (bL (γ:=Nat×Nat) h (fun x_ g_=>bA [(1,V.tp (bM p)),(6,V.ref 21 0),(22,ms 20 1 3 aJ x1.1),(23,vI (x1.1.length:Int)),(24,vI x_.2.2)] [(20,ar 38 1 3 aJ x1.1),(21,E.cells [vM aT p.arrays,vM aH p.parts,ms 20 1 3 aJ x1.1,ms 22 g_.1 1 (rL rI) x_.1,ms 23 g_.2 1 rI x_.2.1]),(22,ar 27 g_.1 1 (rL rI) x_.1),(23,ar 3 g_.2 1 rI x_.2.1)] [20,21,22,23]) (1,1) (lS) ?_)
  rintro again7 ⟨x2,x3,x4⟩ ⟨g5,g6⟩ h
  refine rq hC [] [25] [(25,vB (decide (x4<(x1.1.length:Int))))] [] [] (qs (aR h (fun c2 h=> ?_) (fun c2 h=> ?_)))
  ·refine qk (qs (qb ?_))
   obtain⟨x8,hx8,h⟩:=bd h
   refine rq hC [oQ (mB aJ hx8),oX aJ hx8,.z (.nat 24)] [8,26,27] [(8,V.ref 24 0)] [(24,some (E.cells (G7 x8)))] [(24,true)] ?_
   obtain⟨x9,hx9,h⟩:=bd h
   refine rq hC [oC [] [25] (rD G hx9)] [9,10,28,29,30,31,32,33] [(9,ms 25 1 1 rI x9.1),(10,vI x9.2)] [(25,some (ar 3 1 1 rI x9.1))] [(25,true)] ?_
   obtain⟨x10,hx10,x11,hx11,h⟩:=dK h
   exact dk hC bN [.z (.at 15),.z (.fz 25 [9,40] []),.z (.int 0),oA (aS (rL rI) hx10),.z (.int 0),oQ (cI (r:=(rL rI)) 1 (fun _=>rfl) x2),oQ (cI (r:=(rL rI)) 1 (fun _=>rfl) [x9.1]),oA (aS rI hx11),oQ (cI (r:=rI) 1 (fun _=>rfl) x3),oQ (cI (r:=rI) 1 (fun _=>rfl) [x9.2])] [9,34,35,36,37,38,39,40,41,42,43,44,45,46,47,48,49,50,51,52,53] [] [(25,none),(22,some (ar 27 (g5+1) 1 (rL rI) x10)),(23,some (ar 3 (g6+1) 1 rI x11)),(21,sc [vM aT p.arrays,vM aH p.parts,ms 20 1 3 aJ x1.1,ms 22 (g5+1) 1 (rL rI) x10,ms 23 (g6+1) 1 rI x11])] [] (rk hC [] [24,54] [(24,vI (wr (x4+1)))] [] [] ⟨(x10,x11,wr (x4+1)),((g5+1),(g6+1)),h,lS⟩)
  ·obtain rfl:=so h
   exact dG (rq hC [] [2,3,55] [(2,V.ref 21 0),(3,vB true)] [] [] (qw (lk hC [.fz 20 [22] [21],.fz 22 [] [21],.fz 23 [] [21],.fp 21 [2,6]] [2,6,22] [(2,V.tp [T.sl (List.map aT p.arrays),T.sl (List.map aH p.parts),T.sl (List.map aJ x1.1),T.sl (List.map (rL rI) x2),T.sl (List.map rI x3)]),(6,V.tp [T.sl (List.map aT p.arrays),T.sl (List.map aH p.parts),T.sl (List.map aJ x1.1),T.sl (List.map (rL rI) x2),T.sl (List.map rI x3)]),(22,vM aJ x1.1)] [(21,none),(20,none),(22,none),(23,none)] []) (qr eR)))
theorem C0{s}{v}{r}(h:lV n s v=some r):PQ G 194 [vM rI s,vI v] (vI r):=by
 unfold lV at h
 refine pq aN Tryz.func194 rfl fun w X hC=> ?_
 refine rq hC [] [4] [] [] [] (qs (rq hC [oN rI s] [6,7,8] [(7,vI (s.length:Int)),(8,vI 0)] [] [] (qb (kC h (fun x_=>bA [(0,vM rI s),(1,vI v),(7,vI (s.length:Int)),(8,vI x_)] [] []) lS ?_))))
 rintro again2 x1 h
 refine rq hC [] [9] [(9,vB (decide (x1<(s.length:Int))))] [] [] (qs (aR h (fun c1 h=> ?_) (fun c1 h=> ?_)))
 ·refine qk (qs (qb (rq hC [] [5,10] [(5,vI x1)] [] [] ?_)))
  obtain⟨x3,hx3,h⟩:=bd h
  refine rq hC [oR rI hx3] (fr 11 6) [(16,vB (decide (v=x3)))] [] [] (aR h (fun c2 h=> ?_) (fun c2 h=> ?_))
  ·obtain rfl:=so h
   exact rq hC [] [4,17] [(4,vI x1)] [] [] (qr eR)
  ·exact qk (rk hC [] [8,18] [(8,vI (wr (x1+1)))] [] [] (lE h))
 ·obtain rfl:=so h
  exact dG (rq hC [] [4] [(4,vI (-1))] [] [] (qr eR))
theorem nH{s}{v}{r}(h:d5 n s v=some r):PQ G 150 [vM rI s,vI v] (vB r):=by
 unfold d5 at h
 refine pq aN Tryz.func150 rfl fun w X hC=> ?_
 refine rq hC [] [4] [] [] [] ?_
 obtain⟨x1,hx1,h⟩:=bd h
 obtain rfl:=so h
 exact rq hC [oV (C0 G hx1)] (fr 4 5) [(4,vB (decide ((0:Int)≤x1)))] [] [] (qr eR)
theorem fI{p}{r}(h:bZ n p=some r):VQ G 19 [] [V.agg (b9 p)] (ms 0 1 3 aJ r) [ar 38 1 3 aJ r]:=by
 unfold bZ at h
 refine vq aN Tryz.func19 rfl fun w X β0 hC hg=> ?_
 refine rq hC [.z (.b (true))] [1,2] [(1,V.tp (bM p))] [] [] ?_
 obtain⟨x1,hx1,h⟩:=bd h
 refine rq hC [oC [] [20] (dF G hx1)] (fr 3 7) [(3,ms 20 1 3 aJ x1.1),(4,vB x1.2)] [(20,some (ar 38 1 3 aJ x1.1))] [(20,true)] (qs (rq hC [] [10,11] [(11,vB (!x1.2))] [] [] (aR h (fun c1 h=> ?_) (fun c1 h=> ?_))))
 ·obtain rfl:=so h
  exact rq hC [] [2] [(2,V.t T.nilS)] [] [] (qw (lk hC [.grow 2 0 38] [2] [(2,ms 0 1 3 aJ [])] [(0,some (ar 38 1 3 aJ []))] [(0,true)]) (qr eW))
 ·obtain rfl:=so h
  exact qk (rq hC [] [2,12] [(2,ms 20 1 3 aJ x1.1)] [] [] (qw (lk hC [.ren 2 20 0] [2] [(2,ms 0 1 3 aJ x1.1)] [(0,some (ar 38 1 3 aJ x1.1)),(20,none)] [(0,true)]) (qr eW)))
theorem t1(G:GS)(n:Nat)(n_a0:Int){r:Bool}(h:dH n n_a0=some r):PQ G 152 [vI n_a0] (vB r):=by
 unfold dH at h
 refine pq aN Tryz.func152 rfl fun w X hC=> ?_
 refine rq hC [] [2] [] [] [] ?_
 obtain⟨x1,hx1,h⟩:=bd h
 obtain rfl:=so h
 exact rq hC [oV (aW G hx1)] (fr 2 4) [(2,vB (!x1))] [] [] (qr eR)
theorem iX{p}{r}(h:fD n p=some r):PQ G 28 [V.agg (b9 p)] (vB r):=by
 unfold fD at h
 refine pq aN Tryz.func28 rfl fun w X hC=> ?_
 refine rq hC [.z (.b (true))] [1,2] [(1,V.tp (bM p))] [] [] ?_
 obtain⟨x1,hx1,h⟩:=bd h
 obtain rfl:=so h
 exact rq hC [oC [] [20] (dF G hx1)] (fr 3 7) [(4,vB x1.2)] [(20,some (ar 38 1 3 aJ x1.1))] [(20,true)] (rq hC [] [2,10] [(2,vB x1.2)] [] [] (qr eR))
theorem l6{p}{r}(h:gB n p=some r):PQ G 85 [V.agg (b9 p)] (vI r):=by
 unfold gB at h
 refine pq aN Tryz.func85 rfl fun w X hC=> ?_
 refine rq hC [.z (.b (true))] [1,2] [(1,V.tp (bM p))] [] [] (rq hC [] [3] [(3,vI 0)] [] [] (qs (rq hC [oN aT p.arrays] (fr 6 4) [(7,vM aT p.arrays),(8,vI (p.arrays.length:Int)),(9,vI 0)] [] [] (qb (kC h (fun x_=>bA [(3,vI x_.1),(7,vM aT p.arrays),(8,vI (p.arrays.length:Int)),(9,vI x_.2)] [] []) lS ?_)))))
 rintro again3 ⟨x1,x2⟩ h
 refine rq hC [] [10] [(10,vB (decide (x2<(p.arrays.length:Int))))] [] [] (qs (aR h (fun c1 h=> ?_) (fun c1 h=> ?_)))
 ·refine qk (qs (qb ?_))
  obtain⟨x4,hx4,h⟩:=bd h
  refine rq hC [oR aT hx4,.z (.nat 20)] [5,11,12] [(5,V.ref 20 0)] [(20,sc [vS x4.name,vM rI x4.dims])] [(20,true)] ?_
  obtain⟨x5,hx5,h⟩:=bd h
  exact rk hC [oV (qE G hx5)] [3,13,14,15,16] [(3,vI (wr (x1+x5)))] [] [] (rk hC [] [9,17] [(9,vI (wr (x2+1)))] [] [] (lE h))
 ·obtain rfl:=so h
  exact dG (rq hC [] [2,18] [(2,vI x1)] [] [] (qr eR))
theorem jR{p}{m}{r}(h:eP n p m=some r):PQ G 61 [V.agg (b9 p),vM rI m] (vB r):=by
 unfold eP at h
 refine pq aN Tryz.func61 rfl fun w X hC=> ?_
 refine rq hC [.z (.b (true))] [2,4] [(2,V.tp (bM p))] [] [] (vj h (fun x_=>bA [(4,vB x_)] [] []) (fun j1 h=> ?_) (fun x5 h=> ?_))
 ·
  obtain⟨x2,hx2,h⟩:=bd h
  refine aP h (fun c1 h=> ?_) (fun c1 h=> ?_)
  ·exact rk hC ([oV (iX G hx2)]++rF 6 c1++sF 4) (fr 4 15) [(4,vB false)] [] [] (lE h)
  ·obtain⟨x3,hx3,h⟩:=bd h
   refine aP h (fun c2 h=> ?_) (fun c2 h=> ?_)
   ·exact rk hC ([oV (iX G hx2),oT c1,oT c1,oN rI m,oT c1,oT c1,oV (l6 G hx3),oT c1,oT c1]++rF 4 c2) (fr 4 15) [(4,vB false)] [] [] (lE h)
   ·obtain⟨x4,hx4,h⟩:=bd h
    exact rk hC [oV (iX G hx2),oT c1,oT c1,oN rI m,oT c1,oT c1,oV (l6 G hx3),oT c1,oT c1,oT c2,oT c2,oV (cM G n m 152 (fun q0=>dH n q0) (fun q0 r h=>t1 G n q0 h) hx4),oT c2,oT c2] (fr 4 15) [(4,vB (!x4))] [] [] (lE h)
 ·obtain rfl:=so h
  exact qr eR
theorem oJ{n_a0}{r}(h:jL n n_a0=some r):PQ G 221 [vI n_a0] (vI r):=by
 unfold jL at h
 refine pq aN Tryz.func221 rfl fun w X hC=> ?_
 obtain rfl:=so h
 exact rq hC [] [2] [] [] [] (rq hC [oQ (show(1000:Int)≠0 by decide),oQ (show(1000:Int)≠0 by decide)] (fr 2 6) [(2,vI (Int.tmod (wr ((wr ((Int.tmod n_a0 1000)+999))+1)) 1000))] [] [] (qr eR))
theorem t0(G:GS): ∀(n:Nat) (p:Prog) (m:List Int) (e:Expr) (point:List Int) {r:Int} (h:i_Program_value n p m e point=some r),PQ G 153 [V.agg (b9 p),vM rI m,V.agg (fJ e),vM rI point] (vI r):=by
 intro n
 induction n with
 |zero=>intro p m e point r h;rw [i_Program_value.eq_def] at h;cases h
 |succ n ih=>
  intro p m e point r h
  rw [i_Program_value.eq_def] at h;dsimp only at h
  refine pq aN Tryz.func153 rfl fun w X hC=> ?_
  refine rq hC [.z (.b (true)),.z (.b (true))] [4,6,8] [(4,V.tp (bM p)),(6,V.tp (gJ e))] [] [] (qs (rq hC [] [11,12] [(12,vI e.kind)] [] [] (qb (rq hC [] [13,14] [(13,vB (decide (e.kind=1)))] [] [] (aR h (fun c1 h=> ?_) (fun c1 h=> ?_))))))
  ·obtain rfl:=so h
   exact rq hC [] [8,15,16] [(8,vI e.num)] [] [] (qr eR)
  ·refine rq hC [] [17,18] [(17,vB (decide (e.kind=2)))] [] [] (aR h (fun c2 h=> ?_) (fun c2 h=> ?_))
   ·obtain⟨x1,hx1,x2,hx2,h⟩:=dK h
    obtain rfl:=so h
    exact rq hC [oV (dJ G hx1),oV (oJ G hx2)] [8,19,20,21,22,23] [(8,vI x2)] [] [] (qr eR)
   ·refine rq hC [] [24,25] [(24,vB (decide (e.kind=3)))] [] [] (aR h (fun c3 h=> ?_) (fun c3 h=> ?_))
    ·obtain⟨x3,hx3,x4,hx4,h⟩:=dK h
     obtain rfl:=so h
     exact rq hC [oV (cG G hx3),oR rI hx4] [8,26,27,28,29,30,31,32,33] [(8,vI x4)] [] [] (qr eR)
    ·refine qk (qs ?_)
     obtain⟨x5,hx5,x6,hx6,x7,hx7,h⟩:=lL h
     obtain⟨x8,hx8,h⟩:=bd h
     refine dk hC bN [.z (.row (dT x5)),oQ (eX aL hx5 (cK x5)),oV (ih p m x5 point hx6),.z (.row (dT x7)),oQ (eX aL hx7 (cK x7)),oV (ih p m x7 point hx8)] [9,10,34,35,36,37,38,39,40,41,42,43,44,45,46,47,48,49] [(9,vI x6),(10,vI x8)] [] [] (qs (rq hC [] [50,51] [(51,vI e.kind)] [] [] (qb (rq hC [] [52,53] [(52,vB (decide (e.kind=4)))] [] [] (aR h (fun c4 h=> ?_) (fun c4 h=> ?_))))))
     ·obtain⟨x9,hx9,h⟩:=bd h
      obtain rfl:=so h
      exact rq hC [oV (oJ G hx9)] [8,54,55,56,57] [(8,vI x9)] [] [] (qr eR)
     ·refine rq hC [] [58,59] [(58,vB (decide (e.kind=5)))] [] [] (aR h (fun c5 h=> ?_) (fun c5 h=> ?_))
      ·obtain⟨x10,hx10,h⟩:=bd h
       obtain rfl:=so h
       exact rq hC [oV (oJ G hx10)] [8,60,61,62,63] [(8,vI x10)] [] [] (qr eR)
      ·refine qk ?_
       obtain⟨x11,hx11,h⟩:=bd h
       obtain rfl:=so h
       exact rq hC [oV (oJ G hx11)] [8,64,65,66,67] [(8,vI x11)] [] [] (qr eR)
theorem qD{p}{m}(mG:Nat){x}{r}(h:fO n p m x=some r):VQ G 63 [ar 3 mG 1 rI m] [V.agg (b9 p),ms 0 mG 1 rI m,V.agg (G7 x)] (V.tup []) [ar 3 mG 1 rI r]:=by
 unfold fO at h
 refine vq aN Tryz.func63 rfl fun w X β0 hC hg=> ?_
 refine rq hC [.z (.b (true)),.z (.b (true))] [3,5] [(3,V.tp (bM p)),(5,V.tp (O2 x))] [] [] ?_
 obtain⟨x1,hx1,h⟩:=bd h
 refine rq hC [oV (nI G hx1),.z (.nat 20)] (fr 6 4) [(6,V.ref 20 0)] [(20,some (E.cells (fS x1)))] [(20,true)] ?_
 obtain⟨x2,hx2,x3,hx3,x4,hx4,h⟩:=lL h
 obtain⟨x5,hx5,h⟩:=bd h
 obtain rfl:=so h
 exact dk hC bN [oV (cG G hx2),.z (.b (true)),oV (t0 G n p m x1.value x.point hx3),oQ (mB rI hx4),oX rI hx4,.z (.rows (List.map rI x5)),oQ (str rI hx5)] [1,10,11,12,13,14,15,16,17,18,19,20,21,22,23,24] [] [(0,some (ar 3 mG 1 rI x5))] [] eW
theorem zZ{p}{m}{r}(h:iA n p m=some r):VQ G 16 [] [V.agg (b9 p),vM rI m] (V.tup [ms 0 1 1 rI r.1,vB r.2]) [ar 3 1 1 rI r.1]:=by
 unfold iA at h
 refine vq aN Tryz.func16 rfl fun w X β0 hC hg=> ?_
 refine rq hC [.z (.b (true))] [2,4,5] [(2,V.tp (bM p))] [] [] (qs ?_)
 obtain⟨x1,hx1,h⟩:=bd h
 refine rq hC [oV (jR G hx1)] (fr 9 4) [(12,vB (!x1))] [] [] (aR h (fun c1 h=> ?_) (fun c1 h=> ?_))
 ·obtain rfl:=so h
  exact rq hC [] [4,5] [(4,V.t T.nilS),(5,vB false)] [] [] (qw (lk hC [.grow 4 0 3] [4] [(4,ms 0 1 1 rI [])] [(0,some (ar 3 1 1 rI []))] [(0,true)]) (qr eW))
 ·refine qk ?_
  obtain⟨x2,hx2,h⟩:=bd h
  refine rq hC [oC [] [20] (G.clone m hx2)] [6,13,14] [(6,ms 20 1 1 rI x2)] [(20,some (ar 3 1 1 rI x2))] [(20,true)] (qs ?_)
  obtain⟨x3,hx3,h⟩:=bd h
  refine rq hC [oC [] [21] (fI G hx3),oN aJ x3] (fr 15 4) [(16,ms 21 1 3 aJ x3),(17,vI (x3.length:Int)),(18,vI 0)] [(21,some (ar 38 1 3 aJ x3))] [(21,true)] (qb (bL (γ:=Nat) h (fun x_ g_=>bA [(2,V.tp (bM p)),(6,ms 20 g_ 1 rI x_.1),(16,ms 21 1 3 aJ x3),(17,vI (x3.length:Int)),(18,vI x_.2)] [(20,ar 3 g_ 1 rI x_.1),(21,ar 38 1 3 aJ x3)] [20,21]) 1 (lS) ?_))
  rintro again7 ⟨x4,x5⟩ g6 h
  refine rq hC [] [19] [(19,vB (decide (x5<(x3.length:Int))))] [] [] (qs (aR h (fun c2 h=> ?_) (fun c2 h=> ?_)))
  ·refine qk (qs (qb ?_))
   obtain⟨x8,hx8,h⟩:=bd h
   refine rq hC [oQ (mB aJ hx8),oX aJ hx8,.z (.nat 22)] [8,20,21] [(8,V.ref 22 0)] [(22,some (E.cells (G7 x8)))] [(22,true)] ?_
   obtain⟨x9,hx9,x10,hx10,h⟩:=dK h
   exact rk hC [oC [20] [] (qD G g6 hx9),.z (.len 6 (List.map rI x9).length),oQ (V8 rI hx10)] [6,22,23,24,25] [(6,ms 20 g6 1 rI x9)] [(20,some (ar 3 g6 1 rI x9))] [(20,true)] (rk hC [] [18,26] [(18,vI (wr (x5+1)))] [] [] ⟨(x9,wr (x5+1)),g6,h,lS⟩)
  ·obtain rfl:=so h
   exact dG (rq hC [] [4,5,27] [(4,ms 20 g6 1 rI x4),(5,vB true)] [] [] (qw (lk hC [.ren 4 20 0] [4] [(4,ms 0 1 1 rI x4)] [(0,some (ar 3 1 1 rI x4)),(20,none)] [(0,true)]) (qr eW)))
theorem zK{a}{b}{r}(h:mK n a b=some r):PQ G 17 [vM rI a,vM rI b] (vB r):=by
 unfold mK at h
 refine pq aN Tryz.func17 rfl fun w X hC=> ?_
 refine rq hC [] [4] [] [] [] (qs (rq hC [oN rI a,oN rI b] (fr 6 5) [(10,vB (!decide ((a.length:Int)=(b.length:Int))))] [] [] (aR h (fun c1 h=> ?_) (fun c1 h=> ?_))))
 ·obtain rfl:=so h
  exact rq hC [] [4] [(4,vB false)] [] [] (qr eR)
 ·refine qk (qs (rq hC [] [5] [(5,vI 0)] [] [] (qb (kC h (fun x_=>bA [(0,vM rI a),(1,vM rI b),(5,vI x_)] [] []) lS ?_))))
  rintro again2 x1 h
  refine qs (rq hC [oN rI a] (fr 11 4) [(14,vB (decide (x1<(a.length:Int))))] [] [] (aR h (fun c2 h=> ?_) (fun c2 h=> ?_)))
  ·refine qk (qs (qb (qs ?_)))
   obtain⟨x3,hx3,x4,hx4,h⟩:=dK h
   refine dk hC bN [oR rI hx3,oR rI hx4] (fr 17 9) [(25,vB (!decide (x3=x4)))] [] [] (aR h (fun c3 h=> ?_) (fun c3 h=> ?_))
   ·obtain rfl:=so h
    exact rq hC [] [4] [(4,vB false)] [] [] (qr eR)
   ·exact qk (rk hC [] [5,15,16] [(5,vI (wr (x1+1)))] [] [] (lE h))
  ·obtain rfl:=so h
   exact dG (rq hC [] [4] [(4,vB true)] [] [] (qr eR))
theorem oZ{p}{r}(h:eN n p=some r):VQ G 70 [] [V.agg (b9 p)] (ms 0 1 3 aJ r) [ar 38 1 3 aJ r]:=by
 unfold eN at h
 refine vq aN Tryz.func70 rfl fun w X β0 hC hg=> ?_
 refine rq hC [.z (.b (true))] [1,2] [(1,V.tp (bM p))] [] [] (rq hC [.z (.nat 20)] [3,8] [(3,ms 20 1 3 aJ [])] [(20,some (ar 38 1 3 aJ []))] [(20,true)] (qs (rq hC [] [4] [(4,vI 0)] [] [] (qb (bL (γ:=Nat) h (fun x_ g_=>bA [(1,V.tp (bM p)),(3,ms 20 g_ 3 aJ x_.1),(4,vI x_.2)] [(20,ar 38 g_ 3 aJ x_.1)] [20]) 1 (lS) ?_)))))
 rintro again4 ⟨x1,x2⟩ g3 h
 refine qs (rq hC [oN aH p.parts] (fr 9 5) [(13,vB (decide (x2<(p.parts.length:Int))))] [] [] (aR h (fun c1 h=> ?_) (fun c1 h=> ?_)))
 ·refine qk (qs (qb ?_))
  obtain⟨x5,hx5,x6,hx6,h⟩:=dK h
  refine rq hC [.z (.nat 21),oR aH hx5,oC [21] [] (tW G n [] 1 x5.nest [] hx6)] [5,16,17,18,19,20,21,22,23] [(5,ms 21 2 1 (rL rI) x6)] [(21,some (ar 27 2 1 (rL rI) x6))] [(21,true),(21,true)] (rq hC [] [6] [(6,vI 0)] [] [] (qb (bL (γ:=Nat) h (fun x_ g_=>bA [(1,V.tp (bM p)),(3,ms 20 g_ 3 aJ x_.1),(4,vI x2),(5,ms 21 2 1 (rL rI) x6),(6,vI x_.2)] [(20,ar 38 g_ 3 aJ x_.1),(21,ar 27 2 1 (rL rI) x6)] [20,21]) g3 (lS) ?_)))
  rintro again10 ⟨x7,x8⟩ g9 h
  refine qs (rq hC [oN (rL rI) x6] (fr 24 4) [(27,vB (decide (x8<(x6.length:Int))))] [] [] (aR h (fun c2 h=> ?_) (fun c2 h=> ?_)))
  ·refine qk (qs (qb (rq hC [] [7] [(7,vI 0)] [] [] (qb (bL (γ:=Nat) h (fun x_ g_=>bA [(1,V.tp (bM p)),(3,ms 20 g_ 3 aJ x_.1),(4,vI x2),(5,ms 21 2 1 (rL rI) x6),(6,vI x8),(7,vI x_.2)] [(20,ar 38 g_ 3 aJ x_.1),(21,ar 27 2 1 (rL rI) x6)] [20,21]) g9 (lS) ?_)))))
   rintro again14 ⟨x11,x12⟩ g13 h
   refine qs (rq hC [oR aH hx5,oN aZ x5.body] (fr 30 9) [(38,vB (decide (x12<(x5.body.length:Int))))] [] [] (aR h (fun c3 h=> ?_) (fun c3 h=> ?_)))
   ·refine qk (qs (qb ?_))
    obtain⟨x15,hx15,x16,hx16,x17,hx17,h⟩:=lL h
    exact rk hC [.z (.nat 22),oQ (mB (rL rI) hx15),oX (rL rI) hx15,oA (aS rI hx16),.z (.at 4),.z (.fz 22 [49] []),.z (.int 0),oQ (cI (r:=rI) 1 (fun _=>rfl) []),oQ (cI (r:=rI) 1 (fun _=>rfl) x15),oA (aS aJ hx17),oQ (cI (r:=aJ) 3 qU x11),oQ (cI (r:=aJ) 3 qU [(⟨x2,x12,x16⟩:Inst)])] [3,41,42,43,44,45,46,47,48,49,50,51,52] [(3,ms 20 (g13+1) 3 aJ x17)] [(22,none),(20,some (ar 38 (g13+1) 3 aJ x17))] [(22,true)] (rk hC [] [7,39,40] [(7,vI (wr (x12+1)))] [] [] ⟨(x17,wr (x12+1)),(g13+1),h,lS⟩)
   ·exact dG (rk hC [] [6,28,29] [(6,vI (wr (x8+1)))] [] [] ⟨(x11,wr (x8+1)),g13,h,lS⟩)
  ·exact dG (rk hC [] [4,14,15] [(4,vI (wr (x2+1)))] [] [] ⟨(x7,wr (x2+1)),g9,h,lS⟩)
 ·obtain rfl:=so h
  exact dG (rq hC [] [2,53] [(2,ms 20 g3 3 aJ x1)] [] [] (qw (lk hC [.ren 2 20 0] [2] [(2,ms 0 1 3 aJ x1)] [(0,some (ar 38 1 3 aJ x1)),(20,none)] [(0,true)]) (qr eW)))
theorem aAa{p}{r}(h:pE n p=some r):VQ G 65 [] [V.agg (b9 p)] (ms 0 1 2 cV r) [ar 83 1 2 cV r]:=by
 unfold pE at h
 refine vq aN Tryz.func65 rfl fun w X β0 hC hg=> ?_
 refine rq hC [.z (.b (true))] [1,2] [(1,V.tp (bM p))] [] [] (rq hC [.z (.nat 20)] [3,9] [(3,ms 20 1 2 cV [])] [(20,some (ar 83 1 2 cV []))] [(20,true)] ?_)
 obtain⟨x1,hx1,h⟩:=bd h
 refine rq hC [oC [] [21] (oZ G hx1)] [4,10,11] [(4,ms 21 1 3 aJ x1)] [(21,some (ar 38 1 3 aJ x1))] [(21,true)] (qs (rq hC [] [5] [(5,vI 0)] [] [] (qb (bL (γ:=Nat) h (fun x_ g_=>bA [(1,V.tp (bM p)),(3,ms 20 g_ 2 cV x_.1),(4,ms 21 1 3 aJ x1),(5,vI x_.2)] [(20,ar 83 g_ 2 cV x_.1),(21,ar 38 1 3 aJ x1)] [20,21]) 1 (lS) ?_))))
 rintro again5 ⟨x2,x3⟩ g4 h
 refine qs (rq hC [oN aJ x1] (fr 12 4) [(15,vB (decide (x3<(x1.length:Int))))] [] [] (aR h (fun c1 h=> ?_) (fun c1 h=> ?_)))
 ·refine qk (qs (qb (qs ?_)))
  obtain⟨x6,hx6,x7,hx7,x8,hx8,h⟩:=lL h
  obtain⟨x9,hx9,h⟩:=bd h
  refine dk hC bN [oQ (mB aJ hx6),oX aJ hx6,oR aH hx7,oQ (mB aJ hx6),oX aJ hx6,oR aZ hx8,oQ (mB aJ hx6),oX aJ hx6,oC [] [22] (wD G hx9)] [6,7,8,18,19,20,21,22,23,24,25,26,27,28,29,30,31,32,33,34,35,36,37,38,39,40,41,42,43,44,45,46] [(6,ms 22 1 1 rI x9.1),(7,vI x9.2.1)] [(22,some (ar 3 1 1 rI x9.1))] [(22,true)] ?_
  obtain⟨x10,hx10,h⟩:=bd h
  exact rk hC [.z (.at 4),.z (.fz 22 [6,48] []),.z (.int 0),oA (aS cV hx10),oQ (cI (r:=cV) 2 yB x2),oQ (cI (r:=cV) 2 yB [(⟨x9.1,x9.2.1⟩:L6Use)])] [3,6,47,48,49,50,51,52] [(3,ms 20 (g4+1) 2 cV x10)] [(22,none),(20,some (ar 83 (g4+1) 2 cV x10))] [] (rk hC [] [5,16,17] [(5,vI (wr (x3+1)))] [] [] ⟨(x10,wr (x3+1)),(g4+1),h,lS⟩)
 ·obtain rfl:=so h
  exact dG (rq hC [] [2,53] [(2,ms 20 g4 2 cV x2)] [] [] (qw (lk hC [.ren 2 20 0] [2] [(2,ms 0 1 2 cV x2)] [(0,some (ar 83 1 2 cV x2)),(20,none)] [(0,true)]) (qr eW)))
theorem G4{list}{n_a1}{r}(h:qM n list n_a1=some r):PQ G 158 [vM rI list,vI n_a1] (vB r):=by
 unfold qM at h
 refine pq aN Tryz.func158 rfl fun w X hC=> ?_
 refine rq hC [] [4] [] [] [] (qs (rq hC [] [5] [(5,vI 0)] [] [] (qb (kC h (fun x_=>bA [(0,vM rI list),(1,vI n_a1),(5,vI x_)] [] []) lS ?_))))
 rintro again2 x1 h
 refine qs (rq hC [oN rI list] (fr 6 4) [(9,vB (decide (x1<(list.length:Int))))] [] [] (aR h (fun c1 h=> ?_) (fun c1 h=> ?_)))
 ·refine qk (qs (qb ?_))
  obtain⟨x3,hx3,h⟩:=bd h
  refine rq hC [oR rI hx3] (fr 12 6) [(17,vB (decide (x3=n_a1)))] [] [] (aR h (fun c2 h=> ?_) (fun c2 h=> ?_))
  ·obtain rfl:=so h
   exact rq hC [] [4] [(4,vB true)] [] [] (qr eR)
  ·exact qk (rk hC [] [5,10,11] [(5,vI (wr (x1+1)))] [] [] (lE h))
 ·obtain rfl:=so h
  exact dG (rq hC [] [4] [(4,vB false)] [] [] (qr eR))
theorem wW{p}{m}{r}(h:fV n p m=some r):PQ G 69 [V.agg (b9 p),vM rI m] (vB r):=by
 unfold fV at h
 refine pq aN Tryz.func69 rfl fun w X hC=> ?_
 refine rq hC [.z (.b (true))] [2,4] [(2,V.tp (bM p))] [] [] (qs (rq hC [] [5] [(5,vI 0)] [] [] (qb (kC h (fun x_=>bA [(1,vM rI m),(2,V.tp (bM p)),(5,vI x_)] [] []) lS ?_))))
 rintro again2 x1 h
 refine qs (rq hC [oN rI m] (fr 6 4) [(9,vB (decide (x1<(m.length:Int))))] [] [] (aR h (fun c1 h=> ?_) (fun c1 h=> ?_)))
 ·refine qk (qs (qb (vj h (fun x_=>bA [(1,vM rI m),(2,V.tp (bM p)),(5,vI x1),(23,vB x_)] [] []) (fun j3 h=> ?_) (fun x5 h=> ?_))))
  ·
   obtain⟨x4,hx4,h⟩:=bd h
   refine aP h (fun c2 h=> ?_) (fun c2 h=> ?_)
   ·exact rk hC ([oR rI hx4]++rF 3 c2++[oR rI hx4]++rF 3 c2) (fr 12 12) [(23,vB (decide ((999:Int)<x4)))] [] [] (lE h)
   ·exact rk hC ([oR rI hx4]++rT 6 c2) (fr 12 12) [(23,vB true)] [] [] (lE h)
  ·refine aR h (fun c3 h=> ?_) (fun c3 h=> ?_)
   ·obtain rfl:=so h
    exact rq hC [] [4] [(4,vB false)] [] [] (qr eR)
   ·exact qk (rk hC [] [5,10,11] [(5,vI (wr (x1+1)))] [] [] (lE h))
 ·refine dG (vj h (fun x_=>bA [(4,vB x_)] [] []) (fun j6 h=> ?_) (fun x9 h=> ?_))
  ·
   obtain⟨x7,hx7,h⟩:=bd h
   refine aP h (fun c4 h=> ?_) (fun c4 h=> ?_)
   ·exact rk hC ([oV (d9 G hx7)]++rF 6 c4) [4,24,25,26,27,28,29,30,31,32] [(4,vB false)] [] [] (lE h)
   ·obtain⟨x8,hx8,h⟩:=bd h
    exact rk hC [oV (d9 G hx7),oT c4,oT c4,oN rI m,oT c4,oT c4,oV (wC G hx8),oT c4,oT c4] [4,24,25,26,27,28,29,30,31,32] [(4,vB (decide ((m.length:Int)=x8)))] [] [] (lE h)
  ·obtain rfl:=so h
   exact qr eR
theorem n8{n_a0}{r}(h:jF n n_a0=some r):PQ G 238 [vI n_a0] (vI r):=by
 unfold jF at h
 refine pq aN Tryz.func238 rfl fun w X hC=> ?_
 refine rq hC [] [2] [] [] [] (rq hC [oQ (show(1000:Int)≠0 by decide)] [0,3,4] [(0,vI (Int.tmod n_a0 1000))] [] [] (qs (rq hC [] [5,6] [(6,vB (decide (Int.tmod n_a0 1000<0)))] [] [] (aR h (fun c1 h=> ?_) (fun c1 h=> ?_)))))
 ·obtain rfl:=so h
  exact rq hC [] [2,7,8,9] [(2,vI (wr ((wr ((Int.tmod n_a0 1000)+999))+1)))] [] [] (qr eR)
 ·obtain rfl:=so h
  exact qk (rq hC [] [2,10] [(2,vI (Int.tmod n_a0 1000))] [] [] (qr eR))
theorem aAb(G:GS): ∀(n:Nat) (list:List Arr) (m:List Int) (e:Expr) (point:List Int) {r:Int} (h:s_l5Eval n list m e point=some r),PQ G 169 [vM aT list,vM rI m,V.agg (fJ e),vM rI point] (vI r):=by
 intro n
 induction n with
 |zero=>intro list m e point r h;rw [s_l5Eval.eq_def] at h;cases h
 |succ n ih=>
  intro list m e point r h
  rw [s_l5Eval.eq_def] at h;dsimp only at h
  refine pq aN Tryz.func169 rfl fun w X hC=> ?_
  refine rq hC [.z (.b (true))] [6,8] [(6,V.tp (gJ e))] [] [] (qs (rq hC [] [11,12] [(12,vI e.kind)] [] [] (qb (rq hC [] [13,14] [(13,vB (decide (e.kind=1)))] [] [] (aR h (fun c1 h=> ?_) (fun c1 h=> ?_))))))
  ·obtain rfl:=so h
   exact rq hC [] [8,15,16] [(8,vI e.num)] [] [] (qr eR)
  ·refine rq hC [] [17,18] [(17,vB (decide (e.kind=2)))] [] [] (aR h (fun c2 h=> ?_) (fun c2 h=> ?_))
   ·obtain⟨x1,hx1,x2,hx2,h⟩:=dK h
    obtain rfl:=so h
    exact rq hC [oV (iW G hx1),oV (n8 G hx2)] [8,19,20,21,22,23] [(8,vI x2)] [] [] (qr eR)
   ·refine rq hC [] [24,25] [(24,vB (decide (e.kind=3)))] [] [] (aR h (fun c3 h=> ?_) (fun c3 h=> ?_))
    ·obtain⟨x3,hx3,x4,hx4,h⟩:=dK h
     obtain rfl:=so h
     exact rq hC [oV (oB G hx3),oR rI hx4] [8,26,27,28,29,30,31,32,33] [(8,vI x4)] [] [] (qr eR)
    ·refine qk ?_
     obtain⟨x5,hx5,x6,hx6,h⟩:=dK h
     refine rq hC [.z (.row (dT x5)),oQ (eX aL hx5 (cK x5)),oV (ih list m x5 point hx6)] [9,34,35,36,37,38,39,40,41] [(9,vI x6)] [] [] ?_
     obtain⟨x7,hx7,x8,hx8,h⟩:=dK h
     refine rq hC [.z (.row (dT x7)),oQ (eX aL hx7 (cK x7)),oV (ih list m x7 point hx8)] [10,42,43,44,45,46,47,48,49] [(10,vI x8)] [] [] (qs (rq hC [] [50,51] [(51,vI e.kind)] [] [] (qb (rq hC [] [52,53] [(52,vB (decide (e.kind=4)))] [] [] (aR h (fun c4 h=> ?_) (fun c4 h=> ?_))))))
     ·obtain⟨x9,hx9,h⟩:=bd h
      obtain rfl:=so h
      exact rq hC [oV (n8 G hx9)] [8,54,55,56,57] [(8,vI x9)] [] [] (qr eR)
     ·refine rq hC [] [58,59] [(58,vB (decide (e.kind=5)))] [] [] (aR h (fun c5 h=> ?_) (fun c5 h=> ?_))
      ·obtain⟨x10,hx10,h⟩:=bd h
       obtain rfl:=so h
       exact rq hC [oV (n8 G hx10)] [8,60,61,62,63] [(8,vI x10)] [] [] (qr eR)
      ·refine qk ?_
       obtain⟨x11,hx11,h⟩:=bd h
       obtain rfl:=so h
       exact rq hC [oV (n8 G hx11)] [8,64,65,66,67] [(8,vI x11)] [] [] (qr eR)
theorem aBO{p}{m}(mG:Nat){x}{r}(h:sY n p m x=some r):VQ G 71 [ar 3 mG 1 rI m] [V.agg (b9 p),ms 0 mG 1 rI m,V.agg (G7 x)] (V.tup []) [ar 3 mG 1 rI r]:=by
 unfold sY at h
 refine vq aN Tryz.func71 rfl fun w X β0 hC hg=> ?_
 refine rq hC [.z (.b (true)),.z (.b (true))] [3,5] [(3,V.tp (bM p)),(5,V.tp (O2 x))] [] [] (qs ?_)
 obtain⟨x1,hx1,x2,hx2,h⟩:=dK h
 refine dk hC bN [oR aH hx1,oR aZ hx2,.z (.nat 20)] (fr 6 12) [(6,V.ref 20 0)] [(20,some (E.cells (fS x2)))] [(20,true)] ?_
 obtain⟨x3,hx3,x4,hx4,x5,hx5,h⟩:=lL h
 obtain⟨x6,hx6,h⟩:=bd h
 obtain rfl:=so h
 exact dk hC bN [oV (oB G hx3),.z (.b (true)),oV (aAb G n p.arrays m x2.value x.point hx4),oQ (mB rI hx5),oX rI hx5,.z (.rows (List.map rI x6)),oQ (str rI hx6)] [1,18,19,20,21,22,23,24,25,26,27,28,29,30,31,32,33,34] [] [(0,some (ar 3 mG 1 rI x6))] [] eW
theorem zT{p}{m}{r}(h:gW n p m=some r):VQ G 21 [] [V.agg (b9 p),vM rI m] (V.tup [ms 0 1 1 rI r.1,vB r.2]) [ar 3 1 1 rI r.1]:=by
 unfold gW at h
 refine vq aN Tryz.func21 rfl fun w X β0 hC hg=> ?_
 refine rq hC [.z (.b (true))] [2,4,5] [(2,V.tp (bM p))] [] [] (qs ?_)
 obtain⟨x1,hx1,h⟩:=bd h
 refine rq hC [oV (wW G hx1)] (fr 9 4) [(12,vB (!x1))] [] [] (aR h (fun c1 h=> ?_) (fun c1 h=> ?_))
 ·obtain rfl:=so h
  exact rq hC [.z (.nat 20)] [4,5,13] [(4,ms 20 1 1 rI []),(5,vB false)] [(20,some (ar 3 1 1 rI []))] [(20,true)] (qw (lk hC [.ren 4 20 0] [4] [(4,ms 0 1 1 rI [])] [(0,some (ar 3 1 1 rI [])),(20,none)] [(0,true)]) (qr eW))
 ·refine qk ?_
  obtain⟨x2,hx2,h⟩:=bd h
  refine rq hC [.z (.nat 20),oA (aS rI hx2),oQ (cI (r:=rI) 1 (fun _=>rfl) []),oQ (cI (r:=rI) 1 (fun _=>rfl) m)] [6,14,15,16] [(6,ms 20 2 1 rI x2)] [(20,some (ar 3 2 1 rI x2))] [(20,true)] ?_
  obtain⟨x3,hx3,h⟩:=bd h
  refine rq hC [oC [] [21] (oZ G hx3)] [7,17,18] [(7,ms 21 1 3 aJ x3)] [(21,some (ar 38 1 3 aJ x3))] [(21,true)] (qs (rq hC [] [8] [(8,vI 0)] [] [] (qb (bL (γ:=Nat) h (fun x_ g_=>bA [(2,V.tp (bM p)),(6,ms 20 g_ 1 rI x_.1),(7,ms 21 1 3 aJ x3),(8,vI x_.2)] [(20,ar 3 g_ 1 rI x_.1),(21,ar 38 1 3 aJ x3)] [20,21]) 2 (lS) ?_))))
  rintro again7 ⟨x4,x5⟩ g6 h
  refine qs (rq hC [oN aJ x3] (fr 19 4) [(22,vB (decide (x5<(x3.length:Int))))] [] [] (aR h (fun c2 h=> ?_) (fun c2 h=> ?_)))
  ·refine qk (qs (qb ?_))
   obtain⟨x8,hx8,x9,hx9,x10,hx10,h⟩:=lL h
   exact dk hC bN [oQ (mB aJ hx8),oX aJ hx8,oC [20] [] (aBO G g6 hx9)] (fr 25 7) [] [(20,some (ar 3 g6 1 rI x9))] [(20,true)] (qw (lpP hC [.len 6 (List.map rI x9).length] [6] [(6,ms 20 g6 1 rI x9)] [] [] (a1 (V8 rI hx10)) (by kernel_rfl)) (rk hC [] [8,23,24] [(8,vI (wr (x5+1)))] [] [] ⟨(x9,wr (x5+1)),g6,h,lS⟩))
  ·obtain rfl:=so h
   exact dG (rq hC [] [4,5,32] [(4,ms 20 g6 1 rI x4),(5,vB true)] [] [] (qw (lk hC [.ren 4 20 0] [4] [(4,ms 0 1 1 rI x4)] [(0,some (ar 3 1 1 rI x4)),(20,none)] [(0,true)]) (qr eW)))
theorem T6{order}{many}{r}(h:m8 n order many=some r):PQ G 171 [vM rI order,vI many] (vB r):=by
 unfold m8 at h
 refine pq aN Tryz.func171 rfl fun w X hC=> ?_
 refine rq hC [] [4] [] [] [] ?_
 obtain⟨x1,hx1,h⟩:=bd h
 refine rq hC [.z (.nat 20),oA (aFp rB hx1),oQ (I8 hx1).1] [5,8,9] [(5,ms 20 1 1 rB x1)] [(20,some (ar 4 1 1 rB x1))] [(20,true)] (qs (rq hC [oN rI order] [10,11,12] [(10,vM rI order),(11,vI (order.length:Int)),(12,vI 0)] [] [] (qb (bL (γ:=Nat) h (fun x_ g_=>bA [(0,vM rI order),(1,vI many),(5,ms 20 g_ 1 rB x_.1),(10,vM rI order),(11,vI (order.length:Int)),(12,vI x_.2)] [(20,ar 4 g_ 1 rB x_.1)] [20]) 1 (lS) ?_))))
 rintro again5 ⟨x2,x3⟩ g4 h
 refine rq hC [] [13] [(13,vB (decide (x3<(order.length:Int))))] [] [] (qs (aR h (fun c1 h=> ?_) (fun c1 h=> ?_)))
 ·refine qk (qs (qb ?_))
  obtain⟨x6,hx6,h⟩:=bd h
  refine rq hC [oR rI hx6] [7,14,15] [(7,vI x6)] [] [] (qs (vj h (fun x_=>bA [(0,vM rI order),(1,vI many),(5,ms 20 g4 1 rB x2),(7,vI x6),(10,vM rI order),(11,vI (order.length:Int)),(12,vI x3),(26,vB x_)] [(20,ar 4 g4 1 rB x2)] [20]) (fun j7 h=> ?_) (fun x10 h=> ?_)))
  ·
   obtain⟨x8,hx8,h⟩:=bd h
   refine aP h (fun c2 h=> ?_) (fun c2 h=> ?_)
   ·obtain⟨x9,hx9,h⟩:=bd h
    exact rk hC ([oV (aW G hx8)]++rF 3 c2++[oQ (mB rB hx9),oF c2,oX rB hx9,oF c2]) (fr 16 11) [(26,vB x9)] [] [] (lE h)
   ·exact rk hC ([oV (aW G hx8)]++rT 5 c2) (fr 16 11) [(26,vB true)] [] [] (lE h)
  ·refine aR h (fun c3 h=> ?_) (fun c3 h=> ?_)
   ·obtain rfl:=so h
    exact rq hC [] [4] [(4,vB false)] [] [] (qr eR)
   ·refine qk ?_
    obtain⟨x11,hx11,x12,hx12,h⟩:=dK h
    exact rk hC [oQ (mB rB hx11),oX rB hx11,.z (.rows (List.map rB x12)),.z (.len 5 (List.map rB x12).length),oQ (str rB hx12),oQ (rA rB hx12)] [5,27,28,29] [(5,ms 20 g4 1 rB x12)] [(20,some (ar 4 g4 1 rB x12))] [] (rk hC [] [12,30] [(12,vI (wr (x3+1)))] [] [] ⟨(x12,wr (x3+1)),g4,h,lS⟩)
 ·obtain rfl:=so h
  exact dG (rq hC [oN rI order] [4,31,32,33,34] [(4,vB (decide ((order.length:Int)=many)))] [] [] (qr eR))
theorem z7{p}{order}{r}(h:iB n p order=some r):PQ G 72 [V.agg (b9 p),vM rI order] (vB r):=by
 unfold iB at h
 refine pq aN Tryz.func72 rfl fun w X hC=> ?_
 refine rq hC [.z (.b (true))] [2,4] [(2,V.tp (bM p))] [] [] ?_
 obtain⟨x1,hx1,h⟩:=bd h
 refine rq hC [oC [] [20] (dF G hx1)] (fr 5 7) [(5,ms 20 1 3 aJ x1.1),(6,vB x1.2)] [(20,some (ar 38 1 3 aJ x1.1))] [(20,true)] (vj h (fun x_=>bA [(4,vB x_)] [(20,ar 38 1 3 aJ x1.1)] [20]) (fun j2 h=> ?_) (fun x4 h=> ?_))
 ·
  refine aP h (fun c1 h=> ?_) (fun c1 h=> ?_)
  ·exact rk hC (rF 5 c1) [4,12,13,14,15,16,17,18] [(4,vB false)] [] [] (lE h)
  ·obtain⟨x3,hx3,h⟩:=bd h
   exact rk hC (rT 3 c1++[oN aJ x1.1,oT c1,oV (T6 G hx3),oT c1]) [4,12,13,14,15,16,17,18] [(4,vB x3)] [] [] (lE h)
 ·obtain rfl:=so h
  exact qr eR
theorem L6{p}{m}{order}{r}(h:lF n p m order=some r):VQ G 22 [] [V.agg (b9 p),vM rI m,vM rI order] (V.tup [ms 0 1 1 rI r.1,vB r.2]) [ar 3 1 1 rI r.1]:=by
 unfold lF at h
 refine vq aN Tryz.func22 rfl fun w X β0 hC hg=> ?_
 refine rq hC [.z (.b (true))] [3,6,7] [(3,V.tp (bM p))] [] [] (qs (vj h (fun x_=>bA [(1,vM rI m),(2,vM rI order),(3,V.tp (bM p)),(21,vB x_)] [] []) (fun j1 h=> ?_) (fun x4 h=> ?_)))
 ·
  obtain⟨x2,hx2,h⟩:=bd h
  refine aP h (fun c1 h=> ?_) (fun c1 h=> ?_)
  ·obtain⟨x3,hx3,h⟩:=bd h
   exact rk hC ([oV (jR G hx2)]++rF 3 c1++[oV (z7 G hx3),oF c1,oF c1]) (fr 12 10) [(21,vB (!x3))] [] [] (lE h)
  ·exact rk hC ([oV (jR G hx2)]++rT 5 c1) (fr 12 10) [(21,vB true)] [] [] (lE h)
 ·refine aR h (fun c2 h=> ?_) (fun c2 h=> ?_)
  ·obtain rfl:=so h
   exact rq hC [] [6,7] [(6,V.t T.nilS),(7,vB false)] [] [] (qw (lk hC [.grow 6 0 3] [6] [(6,ms 0 1 1 rI [])] [(0,some (ar 3 1 1 rI []))] [(0,true)]) (qr eW))
  ·refine qk ?_
   obtain⟨x5,hx5,h⟩:=bd h
   refine rq hC [oC [] [20] (fI G hx5)] [8,22,23] [(8,ms 20 1 3 aJ x5)] [(20,some (ar 38 1 3 aJ x5))] [(20,true)] ?_
   obtain⟨x6,hx6,h⟩:=bd h
   refine rq hC [oC [] [21] (G.clone m hx6)] [9,24,25] [(9,ms 21 1 1 rI x6)] [(21,some (ar 3 1 1 rI x6))] [(21,true)] (qs (rq hC [oN rI order] [26,27,28] [(26,vM rI order),(27,vI (order.length:Int)),(28,vI 0)] [] [] (qb (bL (γ:=Nat) h (fun x_ g_=>bA [(3,V.tp (bM p)),(8,ms 20 1 3 aJ x5),(9,ms 21 g_ 1 rI x_.1),(26,vM rI order),(27,vI (order.length:Int)),(28,vI x_.2)] [(20,ar 38 1 3 aJ x5),(21,ar 3 g_ 1 rI x_.1)] [20,21]) 1 (lS) ?_))))
   rintro again10 ⟨x7,x8⟩ g9 h
   refine rq hC [] [29] [(29,vB (decide (x8<(order.length:Int))))] [] [] (qs (aR h (fun c3 h=> ?_) (fun c3 h=> ?_)))
   ·refine qk (qs (qb ?_))
    obtain⟨x11,hx11,h⟩:=bd h
    refine rq hC [oR rI hx11] [11,30,31] [(11,vI x11)] [] [] ?_
    obtain⟨x12,hx12,x13,hx13,x14,hx14,h⟩:=lL h
    exact dk hC bN [oQ (mB aJ hx12),oX aJ hx12,oC [21] [] (qD G g9 hx13)] (fr 32 7) [] [(21,some (ar 3 g9 1 rI x13))] [(21,true)] (qw (lpP hC [.len 9 (List.map rI x13).length] [9] [(9,ms 21 g9 1 rI x13)] [] [] (a1 (V8 rI hx14)) (by kernel_rfl)) (rk hC [] [28,39] [(28,vI (wr (x8+1)))] [] [] ⟨(x13,wr (x8+1)),g9,h,lS⟩))
   ·obtain rfl:=so h
    exact dG (rq hC [] [6,7,40] [(6,ms 21 g9 1 rI x7),(7,vB true)] [] [] (qw (lk hC [.ren 6 21 0] [6] [(6,ms 0 1 1 rI x7)] [(0,some (ar 3 1 1 rI x7)),(21,none)] [(0,true)]) (qr eW)))
theorem sP{t}{from_a1}{to_a2}{r}(h:d6 n t from_a1 to_a2=some r):PQ G 74 [V.tp [T.sl (List.map aT t.program.arrays),T.sl (List.map aH t.program.parts),T.sl (List.map aJ t.list),T.sl (List.map (rL rI) t.reads),T.sl (List.map rI t.writes)],vI from_a1,vI to_a2] (vI r):=by
 unfold d6 at h
 refine pq aN Tryz.func74 rfl fun w X hC=> ?_
 refine rq hC [] [6] [] [] [] (rq hC [] [7] [(7,vI 0)] [] [] (vj h (fun x_=>bA [(0,V.tp [T.sl (List.map aT t.program.arrays),T.sl (List.map aH t.program.parts),T.sl (List.map aJ t.list),T.sl (List.map (rL rI) t.reads),T.sl (List.map rI t.writes)]),(1,vI from_a1),(2,vI to_a2),(7,vI x_)] [] []) (fun j1 h=> ?_) (fun x5 h=> ?_)))
 ·
  refine qs ?_
  obtain⟨x2,hx2,x3,hx3,x4,hx4,h⟩:=lL h
  refine dk hC bN [oR (rL rI) hx2,oR rI hx3,oV (nH G hx4)] (fr 8 15) [(22,vB x4)] [] [] (aR h (fun c1 h=> ?_) (fun c1 h=> ?_))
  ·exact rk hC [] [7,23,24] [(7,vI (wr (0+1)))] [] [] (lE h)
  ·exact qk (lE h)
 ·refine vj h (fun x_=>bA [(0,V.tp [T.sl (List.map aT t.program.arrays),T.sl (List.map aH t.program.parts),T.sl (List.map aJ t.list),T.sl (List.map (rL rI) t.reads),T.sl (List.map rI t.writes)]),(1,vI from_a1),(2,vI to_a2),(7,vI x_)] [] []) (fun j6 h=> ?_) (fun x10 h=> ?_)
  ·
   refine qs ?_
   obtain⟨x7,hx7,x8,hx8,x9,hx9,h⟩:=lL h
   refine dk hC bN [oR (rL rI) hx7,oR rI hx8,oV (nH G hx9)] (fr 25 15) [(39,vB x9)] [] [] (aR h (fun c2 h=> ?_) (fun c2 h=> ?_))
   ·exact rk hC [] [7,40,41] [(7,vI (wr (x5+2)))] [] [] (lE h)
   ·exact qk (lE h)
  ·refine vj h (fun x_=>bA [(7,vI x_)] [] []) (fun j11 h=> ?_) (fun x14 h=> ?_)
   ·
    refine qs ?_
    obtain⟨x12,hx12,x13,hx13,h⟩:=dK h
    refine dk hC bN [oR rI hx12,oR rI hx13] (fr 42 15) [(56,vB (decide (x12=x13)))] [] [] (aR h (fun c3 h=> ?_) (fun c3 h=> ?_))
    ·exact rk hC [] [7,57,58] [(7,vI (wr (x10+4)))] [] [] (lE h)
    ·exact qk (lE h)
   ·obtain rfl:=so h
    exact rq hC [] [6,59] [(6,vI x14)] [] [] (qr eR)
theorem A0{p}{from_a1}{to_a2}{r}(h:iD n p from_a1 to_a2=some r):PQ G 23 [V.agg (b9 p),vI from_a1,vI to_a2] (vI r):=by
 unfold iD at h
 refine pq aN Tryz.func23 rfl fun w X hC=> ?_
 refine rq hC [.z (.b (true))] [3,6] [(3,V.tp (bM p))] [] [] (qs ?_)
 obtain⟨x1,hx1,h⟩:=bd h
 refine aP h (fun c1 h=> ?_) (fun c1 h=> ?_)
 ·refine rk hC [.z (.v (V.tup [V.t T.nilP,vB x1.2])),oQ (vPn c1 (G5 G hx1))] (fr 7 7) [(7,V.t T.nilP),(8,vB x1.2)] [] [] (qs (qs (aP h (fun c2 h=> ?_) (fun c2 h=> ?_))))
  ·exact nof h
  ·refine rk hC (rT 10 c2++sT 14) (fr 14 29) [(42,vB true)] [] [] (xE (b:=true) (by kernel_rfl) (fun _=> ?_) (fun hb=>absurd (hb.symm.trans (Eq.refl true)) (by decide)))
   obtain rfl:=so h
   exact rq hC [] [6] [(6,vI 0)] [] [] (qr eR)
 ·refine rk hC [.z (.v (V.tup [V.tp [T.sl (List.map aT (((x1.1.getD default).program).arrays)),T.sl (List.map aH (((x1.1.getD default).program).parts)),T.sl (List.map aJ ((x1.1.getD default).list)),T.sl (List.map (rL rI) ((x1.1.getD default).reads)),T.sl (List.map rI ((x1.1.getD default).writes))],vB x1.2])),oQ (vPs c1 (G5 G hx1))] (fr 7 7) [(7,V.tp [T.sl (List.map aT (((x1.1.getD default).program).arrays)),T.sl (List.map aH (((x1.1.getD default).program).parts)),T.sl (List.map aJ ((x1.1.getD default).list)),T.sl (List.map (rL rI) ((x1.1.getD default).reads)),T.sl (List.map rI ((x1.1.getD default).writes))]),(8,vB x1.2)] [] [] (qs (vj h (fun x_=>bA [(1,vI from_a1),(2,vI to_a2),(7,V.tp [T.sl (List.map aT (((x1.1.getD default).program).arrays)),T.sl (List.map aH (((x1.1.getD default).program).parts)),T.sl (List.map aJ ((x1.1.getD default).list)),T.sl (List.map (rL rI) ((x1.1.getD default).reads)),T.sl (List.map rI ((x1.1.getD default).writes))]),(42,vB x_)] [] []) (fun j2 h=> ?_) (fun x5 h=> ?_)))
  ·
   refine aP h (fun c3 h=> ?_) (fun c3 h=> ?_)
   ·obtain⟨x3,hx3,h⟩:=bd h
    refine aP h (fun c4 h=> ?_) (fun c4 h=> ?_)
    ·obtain⟨x4,hx4,h⟩:=bd h
     refine aP h (fun c5 h=> ?_) (fun c5 h=> ?_)
     ·exact rk hC (rF 6 c3++[oN aJ ((x1.1.getD default).list),oF c3,oF c3,oV (aW G hx3),oF c3,oF c3]++rF 6 c4++[oN aJ ((x1.1.getD default).list),oF c4,oF c4,oV (aW G hx4),oF c4,oF c4]++rF 4 c5) (fr 14 29) [(42,vB (decide (to_a2≤from_a1)))] [] [] (lE h)
     ·exact rk hC (rF 6 c3++[oN aJ ((x1.1.getD default).list),oF c3,oF c3,oV (aW G hx3),oF c3,oF c3]++rF 6 c4++[oN aJ ((x1.1.getD default).list),oF c4,oF c4,oV (aW G hx4),oF c4,oF c4]++rT 4 c5) (fr 14 29) [(42,vB true)] [] [] (lE h)
    ·exact rk hC (rF 6 c3++[oN aJ ((x1.1.getD default).list),oF c3,oF c3,oV (aW G hx3),oF c3,oF c3]++rT 10 c4++sT 4) (fr 14 29) [(42,vB true)] [] [] (lE h)
   ·exact rk hC (rT 10 c3++sT 14) (fr 14 29) [(42,vB true)] [] [] (lE h)
  ·refine aR h (fun c6 h=> ?_) (fun c6 h=> ?_)
   ·obtain rfl:=so h
    exact rq hC [] [6] [(6,vI 0)] [] [] (qr eR)
   ·refine qk ?_
    obtain⟨x6,hx6,h⟩:=bd h
    obtain rfl:=so h
    exact rq hC [oV (sP G hx6)] [6,43,44,45,46] [(6,vI x6)] [] [] (qr eR)
theorem S4{a}{b}{r}(h:mN n a b=some r):PQ G 75 [V.agg [vM rI a.reads,vI a.write],V.agg [vM rI b.reads,vI b.write]] (vI r):=by
 unfold mN at h
 refine pq aN Tryz.func75 rfl fun w X hC=> ?_
 refine rq hC [.z (.b (true)),.z (.b (true))] [2,3,4] [(2,V.tp [T.sl (List.map rI a.reads),T.int .i64 a.write]),(3,V.tp [T.sl (List.map rI b.reads),T.int .i64 b.write])] [] [] (rq hC [] [5] [(5,vI 0)] [] [] (vj h (fun x_=>bA [(2,V.tp [T.sl (List.map rI a.reads),T.int .i64 a.write]),(3,V.tp [T.sl (List.map rI b.reads),T.int .i64 b.write]),(5,vI x_)] [] []) (fun j1 h=> ?_) (fun x3 h=> ?_)))
 ·
  obtain⟨x2,hx2,h⟩:=bd h
  refine rq hC [oV (G4 G hx2)] (fr 6 5) [(10,vB x2)] [] [] (aR h (fun c1 h=> ?_) (fun c1 h=> ?_))
  ·exact rk hC [] [5,11,12] [(5,vI (wr (0+1)))] [] [] (lE h)
  ·exact qk (lE h)
 ·refine vj h (fun x_=>bA [(2,V.tp [T.sl (List.map rI a.reads),T.int .i64 a.write]),(3,V.tp [T.sl (List.map rI b.reads),T.int .i64 b.write]),(5,vI x_)] [] []) (fun j4 h=> ?_) (fun x6 h=> ?_)
  ·
   obtain⟨x5,hx5,h⟩:=bd h
   refine rq hC [oV (G4 G hx5)] (fr 13 5) [(17,vB x5)] [] [] (aR h (fun c2 h=> ?_) (fun c2 h=> ?_))
   ·exact rk hC [] [5,18,19] [(5,vI (wr (x3+2)))] [] [] (lE h)
   ·exact qk (lE h)
  ·refine vj h (fun x_=>bA [(5,vI x_)] [] []) (fun j7 h=> ?_) (fun x8 h=> ?_)
   ·
    refine rq hC [] (fr 20 5) [(24,vB (decide (a.write=b.write)))] [] [] (aR h (fun c3 h=> ?_) (fun c3 h=> ?_))
    ·exact rk hC [] [5,25,26] [(5,vI (wr (x6+4)))] [] [] (lE h)
    ·exact qk (lE h)
   ·obtain rfl:=so h
    exact rq hC [] [4,27] [(4,vI x8)] [] [] (qr eR)
theorem iF{p}{from_a1}{to_a2}{r}(h:gY n p from_a1 to_a2=some r):PQ G 24 [V.agg (b9 p),vI from_a1,vI to_a2] (vI r):=by
 unfold gY at h
 refine pq aN Tryz.func24 rfl fun w X hC=> ?_
 refine rq hC [.z (.b (true))] [3,6] [(3,V.tp (bM p))] [] [] (qs ?_)
 obtain⟨x1,hx1,h⟩:=bd h
 refine rq hC [oV (d9 G hx1)] [8,9,10] [(10,vB (!x1))] [] [] (aR h (fun c1 h=> ?_) (fun c1 h=> ?_))
 ·obtain rfl:=so h
  exact rq hC [] [6] [(6,vI 0)] [] [] (qr eR)
 ·refine qk ?_
  obtain⟨x2,hx2,h⟩:=bd h
  refine rq hC [oC [] [20] (aAa G hx2)] [7,11,12] [(7,ms 20 1 2 cV x2)] [(20,some (ar 83 1 2 cV x2))] [(20,true)] (qs (vj h (fun x_=>bA [(1,vI from_a1),(2,vI to_a2),(7,ms 20 1 2 cV x2),(25,vB x_)] [(20,ar 83 1 2 cV x2)] [20]) (fun j3 h=> ?_) (fun x4 h=> ?_)))
  ·
   refine aP h (fun c2 h=> ?_) (fun c2 h=> ?_)
   ·refine aP h (fun c3 h=> ?_) (fun c3 h=> ?_)
    ·exact rk hC (rF 4 c2++rF 3 c3++[oN cV x2,oF c3,oF c3]) (fr 13 13) [(25,vB (decide ((x2.length:Int)≤to_a2)))] [] [] (lE h)
    ·exact rk hC (rF 4 c2++rT 5 c3) (fr 13 13) [(25,vB true)] [] [] (lE h)
   ·exact rk hC (rT 4 c2++sT 5) (fr 13 13) [(25,vB true)] [] [] (lE h)
  ·refine aR h (fun c4 h=> ?_) (fun c4 h=> ?_)
   ·obtain rfl:=so h
    exact rq hC [] [6] [(6,vI 0)] [] [] (qr eR)
   ·refine qk (qs ?_)
    obtain⟨x5,hx5,x6,hx6,x7,hx7,h⟩:=lL h
    obtain rfl:=so h
    exact dk hC bN [oQ (mB cV hx5),oX cV hx5,oQ (mB cV hx6),oX cV hx6,oV (S4 G hx7)] [6,26,27,28,29,30,31,32,33,34] [(6,vI x7)] [] [] (qr eR)
theorem B8(G:GS)(n:Nat)(code:List UInt8)(more:List UInt8){r:Bool}(h:lO n code more=some r):PQ G 4 [vM rY code,vM rY more] (vB r):=by
 unfold lO at h
 refine pq aN Tryz.func4 rfl fun w X hC=> ?_
 refine rq hC [] [4] [] [] [] (qs (vj h (fun x_=>bA [(0,vM rY code),(1,vM rY more),(25,vB x_)] [] []) (fun j1 h=> ?_) (fun x2 h=> ?_)))
 ·
  refine aP h (fun c1 h=> ?_) (fun c1 h=> ?_)
  ·exact rk hC [oN rY code,oF c1,oF c1,oN rY more,oF c1,oF c1] (fr 18 8) [(25,vB (decide ((1048576:Int)<(more.length:Int))))] [] [] (lE h)
  ·exact rk hC ([oN rY code]++rT 4 c1) (fr 18 8) [(25,vB true)] [] [] (lE h)
 ·refine aR h (fun c2 h=> ?_) (fun c2 h=> ?_)
  ·obtain rfl:=so h
   exact rq hC [] [4] [(4,vB true)] [] [] (qr eR)
  ·refine qk ?_
   obtain⟨x3,hx3,h⟩:=bd h
   refine rq hC [oC [] [20] (sO G hx3),.z (.nat 21)] [5,6,26,27,28,29,30] [(5,V.ref 21 0),(6,ms 20 1 1 rI x3.2)] [(20,some (ar 3 1 1 rI x3.2)),(21,some (E.cells (b9 x3.1)))] [(20,true),(21,true)] ?_
   obtain⟨x4,hx4,h⟩:=bd h
   refine rq hC [oC [] [22] (fI G hx4),oN aJ x4] [7,31,32,33] [(7,vI (x4.length:Int))] [(22,some (ar 38 1 3 aJ x4))] [(22,true)] ?_
   obtain⟨x5,hx5,h⟩:=bd h
   refine rq hC [.z (.at 6),.z (.fz 20 [6,36] []),oC [] [23] (zZ G hx5)] [6,8,9,34,35,36,37,38,39] [(6,vM rI x3.2),(8,ms 23 1 1 rI x5.1),(9,vB x5.2)] [(20,none),(23,some (ar 3 1 1 rI x5.1))] [(23,true)] (qs (vj h (fun x_=>bA [(1,vM rY more),(5,V.ref 21 0),(6,vM rI x3.2),(7,vI (x4.length:Int)),(8,ms 23 1 1 rI x5.1),(45,vB x_)] [(21,E.cells (b9 x3.1)),(22,ar 38 1 3 aJ x4),(23,ar 3 1 1 rI x5.1)] [20,21,22,23]) (fun j6 h=> ?_) (fun x7 h=> ?_)))
   ·
    refine aP h (fun c3 h=> ?_) (fun c3 h=> ?_)
    ·exact rk hC (rF 3 c3) (fr 40 6) [(45,vB (!x5.2))] [] [] (lE h)
    ·exact rk hC (rT 3 c3) (fr 40 6) [(45,vB true)] [] [] (lE h)
   ·refine aR h (fun c4 h=> ?_) (fun c4 h=> ?_)
    ·obtain⟨x8,hx8,h⟩:=bd h
     refine rq hC [oC [] [24] (zT G hx8)] [10,11,46,47,48,49,50,51] [(10,ms 24 1 1 rI x8.1)] [(24,some (ar 3 1 1 rI x8.1))] [(24,true)] ?_
     obtain⟨x9,hx9,h⟩:=bd h
     obtain rfl:=so h
     exact rq hC [.z (.b (true)),oV (zK G hx9)] [4,52,53,54] [(4,vB x9)] [] [] (qr eR)
    ·refine qk ?_
     obtain⟨x10,hx10,h⟩:=bd h
     refine rq hC [oN rY more,oQ (uS hx10)] [12,55,56,57,58,59] [(12,vI (Int.tmod (more.length:Int) (wr ((x4.length:Int)-1))))] [] [] (rq hC [.z (.nat 24)] [13,60] [(13,ms 24 1 1 rI [])] [(24,some (ar 3 1 1 rI []))] [(24,true)] (qs (rq hC [] [14] [(14,vI 0)] [] [] (qb (bL (γ:=Nat) h (fun x_ g_=>bA [(5,V.ref 21 0),(6,vM rI x3.2),(7,vI (x4.length:Int)),(8,ms 23 1 1 rI x5.1),(12,vI (Int.tmod (more.length:Int) (wr ((x4.length:Int)-1)))),(13,ms 24 g_ 1 rI x_.1),(14,vI x_.2)] [(21,E.cells (b9 x3.1)),(22,ar 38 1 3 aJ x4),(23,ar 3 1 1 rI x5.1),(24,ar 3 g_ 1 rI x_.1)] [20,21,22,23,24]) 1 (lS) ?_)))))
     rintro again14 ⟨x11,x12⟩ g13 h
     refine qs (rq hC [] [61,62,63] [(63,vB (decide (x12<(x4.length:Int))))] [] [] (aR h (fun c5 h=> ?_) (fun c5 h=> ?_)))
     ·refine qk (qs (qb ?_))
      obtain⟨x15,hx15,h⟩:=bd h
      exact rk hC [.z (.int 0),oA (aS rI hx15),oQ (cI (r:=rI) 1 (fun _=>rfl) x11),oQ (cI (r:=rI) 1 (fun _=>rfl) [x12])] [13,66,67,68,69] [(13,ms 24 (g13+1) 1 rI x15)] [(24,some (ar 3 (g13+1) 1 rI x15))] [] (rk hC [] [14,64,65] [(14,vI (wr (x12+1)))] [] [] ⟨(x15,wr (x12+1)),(g13+1),h,lS⟩)
     ·refine dG ?_
      obtain⟨x16,hx16,x17,hx17,h⟩:=dK h
      refine rq hC [oQ (mB rI hx16),oX rI hx16,.z (.rows (List.map rI x17)),.z (.len 13 (List.map rI x17).length),oQ (str rI hx17),oQ (rA rI hx17)] [13,70,71,72,73,74] [(13,ms 24 g13 1 rI x17)] [(24,some (ar 3 g13 1 rI x17))] [] ?_
      obtain⟨x18,hx18,x19,hx19,h⟩:=dK h
      refine rq hC [oQ (mB rI hx18),oX rI hx18,.z (.rows (List.map rI x19)),.z (.len 13 (List.map rI x19).length),oQ (str rI hx19),oQ (rA rI hx19)] [13,75,76,77,78,79] [(13,ms 24 g13 1 rI x19)] [(24,some (ar 3 g13 1 rI x19))] [] ?_
      obtain⟨x20,hx20,h⟩:=bd h
      refine rq hC [.z (.at 6),.z (.fz 24 [13,83] []),oC [] [25] (L6 G hx20)] [13,15,16,80,81,82,83,84,85,86] [(15,ms 25 1 1 rI x20.1),(16,vB x20.2)] [(24,none),(25,some (ar 3 1 1 rI x20.1))] [(25,true)] ?_
      obtain⟨x21,hx21,h⟩:=bd h
      refine rq hC [oV (A0 G hx21)] [17,87,88,89,90,91] [(17,vI x21)] [] [] (vj h (fun x_=>bA [(4,vB x_)] [(21,E.cells (b9 x3.1)),(22,ar 38 1 3 aJ x4),(23,ar 3 1 1 rI x5.1),(25,ar 3 1 1 rI x20.1)] [20,21,22,23,24,25]) (fun j22 h=> ?_) (fun x25 h=> ?_))
      ·
       obtain⟨x23,hx23,h⟩:=bd h
       refine aP h (fun c6 h=> ?_) (fun c6 h=> ?_)
       ·exact rk hC ([oV (iF G hx23),oF c6,oF c6]++sF 5) [4,92,93,94,95,96,97,98,99,100,101,102,103,104,105,106,107,108,109,110] [(4,vB false)] [] [] (lE h)
       ·refine aP h (fun c7 h=> ?_) (fun c7 h=> ?_)
        ·exact rk hC ([oV (iF G hx23),oT c6,oT c6]++rF 5 c7) [4,92,93,94,95,96,97,98,99,100,101,102,103,104,105,106,107,108,109,110] [(4,vB false)] [] [] (lE h)
        ·refine aP h (fun c8 h=> ?_) (fun c8 h=> ?_)
         ·obtain⟨x24,hx24,h⟩:=bd h
          exact rk hC ([oV (iF G hx23),oT c6,oT c6]++rT 3 c7++rF 3 c8++[.z (.b (true)),oV (zK G hx24),oT c7,oF c8,oT c7]) [4,92,93,94,95,96,97,98,99,100,101,102,103,104,105,106,107,108,109,110] [(4,vB x24)] [] [] (lE h)
         ·exact rk hC ([oV (iF G hx23),oT c6,oT c6]++rT 3 c7++rT 3 c8++[oT c7,oT c8,oT c7]) [4,92,93,94,95,96,97,98,99,100,101,102,103,104,105,106,107,108,109,110] [(4,vB true)] [] [] (lE h)
      ·obtain rfl:=so h
       exact qr eR
end Go.Lift
