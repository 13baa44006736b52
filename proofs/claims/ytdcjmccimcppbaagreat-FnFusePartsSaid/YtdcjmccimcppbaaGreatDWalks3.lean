/- The walks: the code computes what the plain functions say. -/
import Derived.Test.YtdcjmccimcppbaaGreatDModels
import Derived.Test.YtdcjmccimcppbaaGreatDWalks2
set_option maxRecDepth 10000
set_option linter.unusedVariables false
namespace Go.Lift
open Go Go.Proofs
variable (G:GS) {n:Nat}
theorem wK(G:GS)(n:Nat)(s1:List Expr)(s2:List Expr)(eqF:FuncId)(eq:Expr→Expr→Option Bool)(heq: ∀(q0:Expr) (q1:Expr) r,eq q0 q1=some r→PQ G eqF [V.agg (dI q0),V.agg (dI q1)] (vB r)){r:Bool}(h:iS n s1 s2 eq=some r):PQ G 249 [vM aK s1,vM aK s2,V.fn eqF []] (vB r):=by
 unfold iS at h
 refine pq aN Tryz.func249 rfl fun w X hC=> ?_
 refine rq hC [] [6] [] [] [] (qs (rq hC [oN aK s1,oN aK s2] (fr 10 5) [(14,vB (!decide ((s1.length:Int)=(s2.length:Int))))] [] [] (aR h (fun c1 h=> ?_) (fun c1 h=> ?_))))
 ·obtain rfl:=so h
  exact rq hC [] [6] [(6,vB false)] [] [] (qr eR)
 ·refine qk (qs (rq hC [oN aK s1] [15,16,17] [(15,vM aK s1),(16,vI (s1.length:Int)),(17,vI 0)] [] [] (qb (i8 h (fun x_=>aW [(1,vM aK s2),(2,V.fn eqF []),(15,vM aK s1),(16,vI (s1.length:Int)),(17,vI x_)] [] []) lS ?_))))
  rintro again2 x1 h
  refine rq hC [] [18] [(18,vB (decide (x1<(s1.length:Int))))] [] [] (qs (aR h (fun c2 h=> ?_) (fun c2 h=> ?_)))
  ·refine qk (qs (qb ?_))
   obtain⟨x3,hx3,h⟩:=bd h
   refine rq hC [.z (.row (eH x3)),.z (.nat 20),oQ (fM aK hx3 (cX x3))] [7,8,19,20,21] [(7,vI x1),(8,V.ref 20 0)] [(20,some (E.cells (dI x3)))] [(20,true)] ?_
   obtain⟨x4,hx4,h⟩:=bd h
   refine rq hC [.z (.row (eH x4)),.z (.nat 21),oQ (fM aK hx4 (cX x4))] [9,22,23,24,25] [(9,V.ref 21 0)] [(21,some (E.cells (dI x4)))] [(21,true)] ?_
   obtain⟨x5,hx5,h⟩:=bd h
   refine rq hC [oV (heq x3 x4 _ hx5)] (fr 26 5) [(30,vB (!x5))] [] [] (aR h (fun c3 h=> ?_) (fun c3 h=> ?_))
   ·obtain rfl:=so h
    exact rq hC [] [6] [(6,vB false)] [] [] (qr eR)
   ·exact qk (rk hC [] [17,31] [(17,vI (wr (x1+1)))] [] [] (lE h))
  ·obtain rfl:=so h
   exact cN (rq hC [] [6] [(6,vB true)] [] [] (qr eR))
theorem aAP(G:GS): ∀(n:Nat) (a:Expr) (b:Expr) {r:Bool} (h:i_exprSame n a b=some r),PQ G 173 [V.agg (dI a),V.agg (dI b)] (vB r):=by
 intro n
 induction n with
 |zero=>intro a b r h;rw [i_exprSame.eq_def] at h;cases h
 |succ n ih=>
  intro a b r h
  rw [i_exprSame.eq_def] at h;dsimp only at h
  refine pq aN Tryz.func173 rfl fun w X hC=> ?_
  refine rq hC [.z (.b (true)),.z (.b (true))] [2,3,4] [(2,V.tp (gX a)),(3,V.tp (gX b))] [] [] (vj h (fun x_=>aW [(4,vB x_)] [] []) (fun j1 h=> ?_) (fun x5 h=> ?_))
  ·
   refine aS h (fun c1 h=> ?_) (fun c1 h=> ?_)
   ·exact rk hC (rF 6 c1++sF 18) (fr 4 34) [(4,vB false)] [] [] (lE h)
   ·refine aS h (fun c2 h=> ?_) (fun c2 h=> ?_)
    ·exact rk hC (rT 6 c1++rF 6 c2++sF 12) (fr 4 34) [(4,vB false)] [] [] (lE h)
    ·obtain⟨x2,hx2,h⟩:=bd h
     refine aS h (fun c3 h=> ?_) (fun c3 h=> ?_)
     ·exact rk hC (rT 6 c1++rT 5 c2++[oV (eM G n a.index b.index hx2),oT c2]++rF 6 c3++sF 6) (fr 4 34) [(4,vB false)] [] [] (lE h)
     ·obtain⟨x3,hx3,h⟩:=bd h
      refine aS h (fun c4 h=> ?_) (fun c4 h=> ?_)
      ·exact rk hC (rT 6 c1++rT 5 c2++[oV (eM G n a.index b.index hx2),oT c2]++rT 5 c3++[oV (kS G hx3),oT c3]++rF 6 c4) (fr 4 34) [(4,vB false)] [] [] (lE h)
      ·obtain⟨x4,hx4,h⟩:=bd h
       exact rk hC (rT 6 c1++rT 5 c2++[oV (eM G n a.index b.index hx2),oT c2]++rT 5 c3++[oV (kS G hx3),oT c3]++rT 5 c4++[oV (wK G n a.kids b.kids 173 (fun q0 q1=>i_exprSame n q0 q1) (fun q0 q1 r h=>ih q0 q1 h) hx4),oT c4]) (fr 4 34) [(4,vB x4)] [] [] (lE h)
  ·obtain rfl:=so h
   exact qr eR
theorem aAQ(G:GS)(n:Nat)(a:Stmt)(b:Stmt){r:Bool}(h:lP n a b=some r):PQ G 76 [V.agg (cU a),V.agg (cU b)] (vB r):=by
 unfold lP at h
 refine pq aN Tryz.func76 rfl fun w X hC=> ?_
 refine rq hC [.z (.b (true)),.z (.b (true))] [2,3,4] [(2,V.tp (oZ a)),(3,V.tp (oZ b))] [] [] (vj h (fun x_=>aW [(4,vB x_)] [] []) (fun j1 h=> ?_) (fun x4 h=> ?_))
 ·
  obtain⟨x2,hx2,h⟩:=bd h
  refine aS h (fun c1 h=> ?_) (fun c1 h=> ?_)
  ·exact rk hC ([oV (kS G hx2)]++rF 6 c1) (fr 4 13) [(4,vB false)] [] [] (lE h)
  ·obtain⟨x3,hx3,h⟩:=bd h
   exact rk hC ([oV (kS G hx2)]++rT 5 c1++[oV (aAP G n a.value b.value hx3),oT c1]) (fr 4 13) [(4,vB x3)] [] [] (lE h)
 ·obtain rfl:=so h
  exact qr eR
theorem yJ(G:GS)(n:Nat)(x:Part)(y:Part){r:Bool}(h:eO n x y=some r):PQ G 73 [V.agg (mU x),V.agg (mU y)] (vB r):=by
 unfold eO at h
 refine pq aN Tryz.func73 rfl fun w X hC=> ?_
 refine rq hC [.z (.b (true)),.z (.b (true))] [2,3,4] [(2,V.tp (nM x)),(3,V.tp (nM y))] [] [] (vj h (fun x_=>aW [(4,vB x_)] [] []) (fun j1 h=> ?_) (fun x4 h=> ?_))
 ·
  obtain⟨x2,hx2,h⟩:=bd h
  refine aS h (fun c1 h=> ?_) (fun c1 h=> ?_)
  ·exact rk hC ([oV (rV G hx2)]++rF 6 c1) (fr 4 13) [(4,vB false)] [] [] (lE h)
  ·obtain⟨x3,hx3,h⟩:=bd h
   exact rk hC ([oV (rV G hx2)]++rT 5 c1++[oV (wH G n x.body y.body 76 (fun q0 q1=>lP n q0 q1) (fun q0 q1 r h=>aAQ G n q0 q1 h) hx3),oT c1]) (fr 4 13) [(4,vB x3)] [] [] (lE h)
 ·obtain rfl:=so h
  exact qr eR
theorem mT(G:GS)(n:Nat)(s1:List Arr)(s2:List Arr)(eqF:FuncId)(eq:Arr→Arr→Option Bool)(heq: ∀(q0:Arr) (q1:Arr) r,eq q0 q1=some r→PQ G eqF [V.agg [vS q0.name,vM rI q0.dims],V.agg [vS q1.name,vM rI q1.dims]] (vB r)){r:Bool}(h:gS n s1 s2 eq=some r):PQ G 77 [vM aH s1,vM aH s2,V.fn eqF []] (vB r):=by
 unfold gS at h
 refine pq aN Tryz.func77 rfl fun w X hC=> ?_
 refine rq hC [] [6] [] [] [] (qs (rq hC [oN aH s1,oN aH s2] (fr 10 5) [(14,vB (!decide ((s1.length:Int)=(s2.length:Int))))] [] [] (aR h (fun c1 h=> ?_) (fun c1 h=> ?_))))
 ·obtain rfl:=so h
  exact rq hC [] [6] [(6,vB false)] [] [] (qr eR)
 ·refine qk (qs (rq hC [oN aH s1] [15,16,17] [(15,vM aH s1),(16,vI (s1.length:Int)),(17,vI 0)] [] [] (qb (i8 h (fun x_=>aW [(1,vM aH s2),(2,V.fn eqF []),(15,vM aH s1),(16,vI (s1.length:Int)),(17,vI x_)] [] []) lS ?_))))
  rintro again2 x1 h
  refine rq hC [] [18] [(18,vB (decide (x1<(s1.length:Int))))] [] [] (qs (aR h (fun c2 h=> ?_) (fun c2 h=> ?_)))
  ·refine qk (qs (qb ?_))
   obtain⟨x3,hx3,h⟩:=bd h
   refine rq hC [oR aH hx3,.z (.nat 20)] [7,8,19,20,21] [(7,vI x1),(8,V.ref 20 0)] [(20,sc [vS x3.name,vM rI x3.dims])] [(20,true)] ?_
   obtain⟨x4,hx4,h⟩:=bd h
   refine rq hC [oR aH hx4,.z (.nat 21)] [9,22,23,24,25] [(9,V.ref 21 0)] [(21,sc [vS x4.name,vM rI x4.dims])] [(21,true)] ?_
   obtain⟨x5,hx5,h⟩:=bd h
   refine rq hC [oV (heq x3 x4 _ hx5)] (fr 26 5) [(30,vB (!x5))] [] [] (aR h (fun c3 h=> ?_) (fun c3 h=> ?_))
   ·obtain rfl:=so h
    exact rq hC [] [6] [(6,vB false)] [] [] (qr eR)
   ·exact qk (rk hC [] [17,31] [(17,vI (wr (x1+1)))] [] [] (lE h))
  ·obtain rfl:=so h
   exact cN (rq hC [] [6] [(6,vB true)] [] [] (qr eR))
theorem wI(G:GS)(n:Nat)(s1:List Part)(s2:List Part)(eqF:FuncId)(eq:Part→Part→Option Bool)(heq: ∀(q0:Part) (q1:Part) r,eq q0 q1=some r→PQ G eqF [V.agg (mU q0),V.agg (mU q1)] (vB r)){r:Bool}(h:iR n s1 s2 eq=some r):PQ G 78 [vM aC s1,vM aC s2,V.fn eqF []] (vB r):=by
 unfold iR at h
 refine pq aN Tryz.func78 rfl fun w X hC=> ?_
 refine rq hC [] [6] [] [] [] (qs (rq hC [oN aC s1,oN aC s2] (fr 10 5) [(14,vB (!decide ((s1.length:Int)=(s2.length:Int))))] [] [] (aR h (fun c1 h=> ?_) (fun c1 h=> ?_))))
 ·obtain rfl:=so h
  exact rq hC [] [6] [(6,vB false)] [] [] (qr eR)
 ·refine qk (qs (rq hC [oN aC s1] [15,16,17] [(15,vM aC s1),(16,vI (s1.length:Int)),(17,vI 0)] [] [] (qb (i8 h (fun x_=>aW [(1,vM aC s2),(2,V.fn eqF []),(15,vM aC s1),(16,vI (s1.length:Int)),(17,vI x_)] [] []) lS ?_))))
  rintro again2 x1 h
  refine rq hC [] [18] [(18,vB (decide (x1<(s1.length:Int))))] [] [] (qs (aR h (fun c2 h=> ?_) (fun c2 h=> ?_)))
  ·refine qk (qs (qb ?_))
   obtain⟨x3,hx3,h⟩:=bd h
   refine rq hC [oR aC hx3,.z (.nat 20)] [7,8,19,20,21] [(7,vI x1),(8,V.ref 20 0)] [(20,some (E.cells (mU x3)))] [(20,true)] ?_
   obtain⟨x4,hx4,h⟩:=bd h
   refine rq hC [oR aC hx4,.z (.nat 21)] [9,22,23,24,25] [(9,V.ref 21 0)] [(21,some (E.cells (mU x4)))] [(21,true)] ?_
   obtain⟨x5,hx5,h⟩:=bd h
   refine rq hC [oV (heq x3 x4 _ hx5)] (fr 26 5) [(30,vB (!x5))] [] [] (aR h (fun c3 h=> ?_) (fun c3 h=> ?_))
   ·obtain rfl:=so h
    exact rq hC [] [6] [(6,vB false)] [] [] (qr eR)
   ·exact qk (rk hC [] [17,31] [(17,vI (wr (x1+1)))] [] [] (lE h))
  ·obtain rfl:=so h
   exact cN (rq hC [] [6] [(6,vB true)] [] [] (qr eR))
theorem pC(G:GS)(n:Nat)(x:Arr)(y:Arr){r:Bool}(h:eP n x y=some r):PQ G 71 [V.agg [vS x.name,vM rI x.dims],V.agg [vS y.name,vM rI y.dims]] (vB r):=by
 unfold eP at h
 refine pq aN Tryz.func71 rfl fun w X hC=> ?_
 refine rq hC [.z (.b (true)),.z (.b (true))] [2,3,4] [(2,V.tp [T.str x.name,T.sl (List.map rI x.dims)]),(3,V.tp [T.str y.name,T.sl (List.map rI y.dims)])] [] [] (vj h (fun x_=>aW [(4,vB x_)] [] []) (fun j1 h=> ?_) (fun x3 h=> ?_))
 ·
  refine aS h (fun c1 h=> ?_) (fun c1 h=> ?_)
  ·exact rk hC (rF 6 c1) (fr 4 13) [(4,vB false)] [] [] (lE h)
  ·obtain⟨x2,hx2,h⟩:=bd h
   exact rk hC (rT 5 c1++[oV (pK G hx2),oT c1]) (fr 4 13) [(4,vB x2)] [] [] (lE h)
 ·obtain rfl:=so h
  exact qr eR
theorem mQ{a}{b}{r}(h:d9 n a b=some r):PQ G 18 [V.agg (bD a),V.agg (bD b)] (vB r):=by
 unfold d9 at h
 refine pq aN Tryz.func18 rfl fun w X hC=> ?_
 refine rq hC [.z (.b (true)),.z (.b (true))] [2,3,4] [(2,V.tp (bM a)),(3,V.tp (bM b))] [] [] (rq hC [] [5] [(5,V.fn 71 [])] [] [] (rq hC [] [6] [(6,V.fn 73 [])] [] [] (vj h (fun x_=>aW [(4,vB x_)] [] []) (fun j1 h=> ?_) (fun x4 h=> ?_))))
 ·
  obtain⟨x2,hx2,h⟩:=bd h
  refine aS h (fun c1 h=> ?_) (fun c1 h=> ?_)
  ·exact rk hC ([oV (mT G n a.arrays b.arrays 71 (fun q0 q1=>eP n q0 q1) (fun q0 q1 r h=>pC G n q0 q1 h) hx2)]++rF 7 c1) [4,7,8,9,10,11,12,13,14,15,16,17,18,19,20] [(4,vB false)] [] [] (lE h)
  ·obtain⟨x3,hx3,h⟩:=bd h
   exact rk hC ([oV (mT G n a.arrays b.arrays 71 (fun q0 q1=>eP n q0 q1) (fun q0 q1 r h=>pC G n q0 q1 h) hx2)]++rT 6 c1++[oV (wI G n a.parts b.parts 73 (fun q0 q1=>eO n q0 q1) (fun q0 q1 r h=>yJ G n q0 q1 h) hx3),oT c1]) [4,7,8,9,10,11,12,13,14,15,16,17,18,19,20] [(4,vB x3)] [] [] (lE h)
 ·obtain rfl:=so h
  exact qr eR
theorem kT{p}{r}(h:dX n p=some r):PQ G 181 [V.agg (bD p)] (vI r):=by
 unfold dX at h
 refine pq aN Tryz.func181 rfl fun w X hC=> ?_
 refine rq hC [.z (.b (true))] [1,2] [(1,V.tp (bM p))] [] [] (rq hC [] [3] [(3,vI 0)] [] [] (qs (rq hC [oN aH p.arrays] (fr 6 4) [(7,vM aH p.arrays),(8,vI (p.arrays.length:Int)),(9,vI 0)] [] [] (qb (i8 h (fun x_=>aW [(3,vI x_.1),(7,vM aH p.arrays),(8,vI (p.arrays.length:Int)),(9,vI x_.2)] [] []) lS ?_)))))
 rintro again3 ⟨x1,x2⟩ h
 refine rq hC [] [10] [(10,vB (decide (x2<(p.arrays.length:Int))))] [] [] (qs (aR h (fun c1 h=> ?_) (fun c1 h=> ?_)))
 ·refine qk (qs (qb ?_))
  obtain⟨x4,hx4,h⟩:=bd h
  refine rq hC [oR aH hx4,.z (.nat 20)] [5,11,12] [(5,V.ref 20 0)] [(20,sc [vS x4.name,vM rI x4.dims])] [(20,true)] ?_
  obtain⟨x5,hx5,h⟩:=bd h
  exact rk hC [oV (tX G hx5)] [3,13,14,15,16] [(3,vI (wr (x1+x5)))] [] [] (rk hC [] [9,17] [(9,vI (wr (x2+1)))] [] [] (lE h))
 ·obtain rfl:=so h
  exact cN (rq hC [] [2,18] [(2,vI x1)] [] [] (qr eR))
theorem Q4{p}{r}(h:kN n p=some r):PQ G 80 [V.agg (bD p)] (vI r):=by
 unfold kN at h
 refine pq aN Tryz.func80 rfl fun w X hC=> ?_
 refine rq hC [.z (.b (true))] [1,2] [(1,V.tp (bM p))] [] [] (qs ?_)
 obtain⟨x1,hx1,h⟩:=bd h
 refine rq hC [oV (bH G hx1)] [3,4,5] [(5,vB (!x1))] [] [] (aR h (fun c1 h=> ?_) (fun c1 h=> ?_))
 ·obtain rfl:=so h
  exact rq hC [] [2] [(2,vI 0)] [] [] (qr eR)
 ·refine qk ?_
  obtain⟨x2,hx2,h⟩:=bd h
  obtain rfl:=so h
  exact rq hC [oV (kT G hx2)] [2,6,7] [(2,vI x2)] [] [] (qr eR)
theorem aDy{a}{b}{r}(h:pO n a b=some r):PQ G 81 [vM rI a,vM rI b] (vB r):=by
 unfold pO at h
 refine pq aN Tryz.func81 rfl fun w X hC=> ?_
 refine rq hC [] [4] [] [] [] (qs (rq hC [oN rI a,oN rI b] (fr 6 5) [(10,vB (!decide ((a.length:Int)=(b.length:Int))))] [] [] (aR h (fun c1 h=> ?_) (fun c1 h=> ?_))))
 ·obtain rfl:=so h
  exact rq hC [] [4] [(4,vB false)] [] [] (qr eR)
 ·refine qk (qs (rq hC [] [5] [(5,vI 0)] [] [] (qb (i8 h (fun x_=>aW [(0,vM rI a),(1,vM rI b),(5,vI x_)] [] []) lS ?_))))
  rintro again2 x1 h
  refine qs (rq hC [oN rI a] (fr 11 4) [(14,vB (decide (x1<(a.length:Int))))] [] [] (aR h (fun c2 h=> ?_) (fun c2 h=> ?_)))
  ·refine qk (qs (qb (qs ?_)))
   obtain⟨x3,hx3,x4,hx4,h⟩:=dC h
   refine dk hC bF [oR rI hx3,oR rI hx4] (fr 17 9) [(25,vB (!decide (x3=x4)))] [] [] (aR h (fun c3 h=> ?_) (fun c3 h=> ?_))
   ·obtain rfl:=so h
    exact rq hC [] [4] [(4,vB false)] [] [] (qr eR)
   ·exact qk (rk hC [] [5,15,16] [(5,vI (wr (x1+1)))] [] [] (lE h))
  ·obtain rfl:=so h
   exact cN (rq hC [] [4] [(4,vB true)] [] [] (qr eR))
theorem yK(G:GS)(n:Nat)(n_a0:Int){r:Bool}(h:eQ n n_a0=some r):PQ G 227 [vI n_a0] (vB r):=by
 unfold eQ at h
 refine pq aN Tryz.func227 rfl fun w X hC=> ?_
 refine rq hC [] [2] [] [] [] ?_
 obtain⟨x1,hx1,h⟩:=bd h
 obtain rfl:=so h
 exact rq hC [oV (bL G hx1)] (fr 2 4) [(2,vB (!x1))] [] [] (qr eR)
theorem D5{p}{m}{r}(h:jG n p m=some r):PQ G 147 [V.agg (bD p),vM rI m] (vB r):=by
 unfold jG at h
 refine pq aN Tryz.func147 rfl fun w X hC=> ?_
 refine rq hC [.z (.b (true))] [2,4] [(2,V.tp (bM p))] [] [] (vj h (fun x_=>aW [(4,vB x_)] [] []) (fun j1 h=> ?_) (fun x5 h=> ?_))
 ·
  obtain⟨x2,hx2,h⟩:=bd h
  refine aS h (fun c1 h=> ?_) (fun c1 h=> ?_)
  ·exact rk hC ([oV (bH G hx2)]++rF 6 c1++sF 4) (fr 4 15) [(4,vB false)] [] [] (lE h)
  ·obtain⟨x3,hx3,h⟩:=bd h
   refine aS h (fun c2 h=> ?_) (fun c2 h=> ?_)
   ·exact rk hC ([oV (bH G hx2),oT c1,oT c1,oN rI m,oT c1,oT c1,oV (kT G hx3),oT c1,oT c1]++rF 4 c2) (fr 4 15) [(4,vB false)] [] [] (lE h)
   ·obtain⟨x4,hx4,h⟩:=bd h
    exact rk hC [oV (bH G hx2),oT c1,oT c1,oN rI m,oT c1,oT c1,oV (kT G hx3),oT c1,oT c1,oT c2,oT c2,oV (dS G n m 227 (fun q0=>eQ n q0) (fun q0 r h=>yK G n q0 h) hx4),oT c2,oT c2] (fr 4 15) [(4,vB (!x4))] [] [] (lE h)
 ·obtain rfl:=so h
  exact qr eR
theorem tW{p}{r}(h:eJ n p=some r):VQ G 101 [] [V.agg (bD p)] (ms 0 1 3 aQ r) [ar 112 1 3 aQ r]:=by
 unfold eJ at h
 refine vq aN Tryz.func101 rfl fun w X β0 hC hg=> ?_
 refine rq hC [.z (.b (true))] [1,2] [(1,V.tp (bM p))] [] [] ?_
 obtain⟨x1,hx1,h⟩:=bd h
 refine rq hC [oC [] [20] (gR G hx1)] (fr 3 7) [(3,ms 20 1 3 aQ x1.1),(4,vB x1.2)] [(20,some (ar 112 1 3 aQ x1.1))] [(20,true)] (qs (rq hC [] [10,11] [(11,vB (!x1.2))] [] [] (aR h (fun c1 h=> ?_) (fun c1 h=> ?_))))
 ·obtain rfl:=so h
  exact rq hC [] [2] [(2,V.t T.nilS)] [] [] (qw (lk hC [.grow 2 0 112] [2] [(2,ms 0 1 3 aQ [])] [(0,some (ar 112 1 3 aQ []))] [(0,true)]) (qr eW))
 ·obtain rfl:=so h
  exact qk (rq hC [] [2,12] [(2,ms 20 1 3 aQ x1.1)] [] [] (qw (lk hC [.ren 2 20 0] [2] [(2,ms 0 1 3 aQ x1.1)] [(0,some (ar 112 1 3 aQ x1.1)),(20,none)] [(0,true)]) (qr eW)))
theorem qS{p}{x}{r}(h:dR n p x=some r):PQ G 228 [V.agg (bD p),V.agg (qU x)] (V.agg (cU r)):=by
 unfold dR at h
 refine pq aN Tryz.func228 rfl fun w X hC=> ?_
 refine rq hC [.z (.b (true)),.z (.b (true)),.z (.nat 20)] [2,3,4] [(2,V.tp (bM p)),(3,V.tp (aD9 x)),(4,V.ref 20 0)] [(20,sc [vS [],V.t T.nilS,vI 0,vI 0,V.t T.nilS,vI 0,vS [],V.t T.nilS,V.t T.nilS])] [(20,true)] (qs ?_)
 obtain⟨x1,hx1,x2,hx2,h⟩:=dC h
 obtain rfl:=so h
 exact dk hC bF [oR aC hx1,oR aI hx2] (fr 5 11) [] [(20,some (E.cells (cU x2)))] [] (qr eR)
theorem rR{n_a0}{r}(h:mC n n_a0=some r):PQ G 293 [vI n_a0] (vI r):=by
 unfold mC at h
 refine pq aN Tryz.func293 rfl fun w X hC=> ?_
 obtain rfl:=so h
 exact rq hC [] [2] [] [] [] (rq hC [oQ (show(1000:Int)≠0 by decide),oQ (show(1000:Int)≠0 by decide)] (fr 2 6) [(2,vI (Int.tmod (wr ((wr ((Int.tmod n_a0 1000)+999))+1)) 1000))] [] [] (qr eR))
theorem yH(G:GS): ∀(n:Nat) (p:Prog) (m:List Int) (e:Expr) (point:List Int) {r:Int} (h:i_Program_value n p m e point=some r),PQ G 229 [V.agg (bD p),vM rI m,V.agg (dI e),vM rI point] (vI r):=by
 intro n
 induction n with
 |zero=>intro p m e point r h;rw [i_Program_value.eq_def] at h;cases h
 |succ n ih=>
  intro p m e point r h
  rw [i_Program_value.eq_def] at h;dsimp only at h
  refine pq aN Tryz.func229 rfl fun w X hC=> ?_
  refine rq hC [.z (.b (true)),.z (.b (true))] [4,6,8] [(4,V.tp (bM p)),(6,V.tp (gX e))] [] [] (qs (rq hC [] [11,12] [(12,vI e.kind)] [] [] (qb (rq hC [] [13,14] [(13,vB (decide (e.kind=1)))] [] [] (aR h (fun c1 h=> ?_) (fun c1 h=> ?_))))))
  ·obtain rfl:=so h
   exact rq hC [] [8,15,16] [(8,vI e.num)] [] [] (qr eR)
  ·refine rq hC [] [17,18] [(17,vB (decide (e.kind=2)))] [] [] (aR h (fun c2 h=> ?_) (fun c2 h=> ?_))
   ·obtain⟨x1,hx1,x2,hx2,h⟩:=dC h
    obtain rfl:=so h
    exact rq hC [oV (eU G hx1),oV (rR G hx2)] [8,19,20,21,22,23] [(8,vI x2)] [] [] (qr eR)
   ·refine rq hC [] [24,25] [(24,vB (decide (e.kind=3)))] [] [] (aR h (fun c3 h=> ?_) (fun c3 h=> ?_))
    ·obtain⟨x3,hx3,x4,hx4,h⟩:=dC h
     obtain rfl:=so h
     exact rq hC [oV (dO G hx3),oR rI hx4] [8,26,27,28,29,30,31,32,33] [(8,vI x4)] [] [] (qr eR)
    ·refine qk (qs ?_)
     obtain⟨x5,hx5,x6,hx6,x7,hx7,h⟩:=kV h
     obtain⟨x8,hx8,h⟩:=bd h
     refine dk hC bF [.z (.row (eH x5)),oQ (fM aK hx5 (cX x5)),oV (ih p m x5 point hx6),.z (.row (eH x7)),oQ (fM aK hx7 (cX x7)),oV (ih p m x7 point hx8)] [9,10,34,35,36,37,38,39,40,41,42,43,44,45,46,47,48,49] [(9,vI x6),(10,vI x8)] [] [] (qs (rq hC [] [50,51] [(51,vI e.kind)] [] [] (qb (rq hC [] [52,53] [(52,vB (decide (e.kind=4)))] [] [] (aR h (fun c4 h=> ?_) (fun c4 h=> ?_))))))
     ·obtain⟨x9,hx9,h⟩:=bd h
      obtain rfl:=so h
      exact rq hC [oV (rR G hx9)] [8,54,55,56,57] [(8,vI x9)] [] [] (qr eR)
     ·refine rq hC [] [58,59] [(58,vB (decide (e.kind=5)))] [] [] (aR h (fun c5 h=> ?_) (fun c5 h=> ?_))
      ·obtain⟨x10,hx10,h⟩:=bd h
       obtain rfl:=so h
       exact rq hC [oV (rR G hx10)] [8,60,61,62,63] [(8,vI x10)] [] [] (qr eR)
      ·refine qk ?_
       obtain⟨x11,hx11,h⟩:=bd h
       obtain rfl:=so h
       exact rq hC [oV (rR G hx11)] [8,64,65,66,67] [(8,vI x11)] [] [] (qr eR)
theorem Q0{p}{m}(mG:Nat){x}{r}(h:kL n p m x=some r):VQ G 149 [ar 3 mG 1 rI m] [V.agg (bD p),ms 0 mG 1 rI m,V.agg (qU x)] (V.tup []) [ar 3 mG 1 rI r]:=by
 unfold kL at h
 refine vq aN Tryz.func149 rfl fun w X β0 hC hg=> ?_
 refine rq hC [.z (.b (true)),.z (.b (true))] [3,5] [(3,V.tp (bM p)),(5,V.tp (aD9 x))] [] [] ?_
 obtain⟨x1,hx1,h⟩:=bd h
 refine rq hC [oV (qS G hx1),.z (.nat 20)] (fr 6 4) [(6,V.ref 20 0)] [(20,some (E.cells (cU x1)))] [(20,true)] ?_
 obtain⟨x2,hx2,x3,hx3,x4,hx4,h⟩:=kV h
 obtain⟨x5,hx5,h⟩:=bd h
 obtain rfl:=so h
 exact dk hC bF [oV (dO G hx2),.z (.b (true)),oV (yH G n p m x1.value x.point hx3),oQ (mM rI hx4),oX rI hx4,.z (.rows (List.map rI x5)),oQ (str rI hx5)] [1,10,11,12,13,14,15,16,17,18,19,20,21,22,23,24] [] [(0,some (ar 3 mG 1 rI x5))] [] eW
theorem tU{p}{m}{r}(h:fC n p m=some r):VQ G 58 [] [V.agg (bD p),vM rI m] (V.tup [ms 0 1 1 rI r.1,vB r.2]) [ar 3 1 1 rI r.1]:=by
 unfold fC at h
 refine vq aN Tryz.func58 rfl fun w X β0 hC hg=> ?_
 refine rq hC [.z (.b (true))] [2,4,5] [(2,V.tp (bM p))] [] [] (qs ?_)
 obtain⟨x1,hx1,h⟩:=bd h
 refine rq hC [oV (D5 G hx1)] (fr 9 4) [(12,vB (!x1))] [] [] (aR h (fun c1 h=> ?_) (fun c1 h=> ?_))
 ·obtain rfl:=so h
  exact rq hC [] [4,5] [(4,V.t T.nilS),(5,vB false)] [] [] (qw (lk hC [.grow 4 0 3] [4] [(4,ms 0 1 1 rI [])] [(0,some (ar 3 1 1 rI []))] [(0,true)]) (qr eW))
 ·refine qk ?_
  obtain⟨x2,hx2,h⟩:=bd h
  refine rq hC [oC [] [20] (G.clone m hx2)] [6,13,14] [(6,ms 20 1 1 rI x2)] [(20,some (ar 3 1 1 rI x2))] [(20,true)] (qs ?_)
  obtain⟨x3,hx3,h⟩:=bd h
  refine rq hC [oC [] [21] (tW G hx3),oN aQ x3] (fr 15 4) [(16,ms 21 1 3 aQ x3),(17,vI (x3.length:Int)),(18,vI 0)] [(21,some (ar 112 1 3 aQ x3))] [(21,true)] (qb (bA (γ:=Nat) h (fun x_ g_=>aW [(2,V.tp (bM p)),(6,ms 20 g_ 1 rI x_.1),(16,ms 21 1 3 aQ x3),(17,vI (x3.length:Int)),(18,vI x_.2)] [(20,ar 3 g_ 1 rI x_.1),(21,ar 112 1 3 aQ x3)] [20,21]) 1 (lS) ?_))
  rintro again7 ⟨x4,x5⟩ g6 h
  refine rq hC [] [19] [(19,vB (decide (x5<(x3.length:Int))))] [] [] (qs (aR h (fun c2 h=> ?_) (fun c2 h=> ?_)))
  ·refine qk (qs (qb ?_))
   obtain⟨x8,hx8,h⟩:=bd h
   refine rq hC [oQ (mM aQ hx8),oX aQ hx8,.z (.nat 22)] [8,20,21] [(8,V.ref 22 0)] [(22,some (E.cells (qU x8)))] [(22,true)] ?_
   obtain⟨x9,hx9,x10,hx10,h⟩:=dC h
   exact rk hC [oC [20] [] (Q0 G g6 hx9),.z (.len 6 (List.map rI x9).length),oQ (aJN rI hx10)] [6,22,23,24,25] [(6,ms 20 g6 1 rI x9)] [(20,some (ar 3 g6 1 rI x9))] [(20,true)] (rk hC [] [18,26] [(18,vI (wr (x5+1)))] [] [] ⟨(x9,wr (x5+1)),g6,h,lS⟩)
  ·obtain rfl:=so h
   exact cN (rq hC [] [4,5,27] [(4,ms 20 g6 1 rI x4),(5,vB true)] [] [] (qw (lk hC [.ren 4 20 0] [4] [(4,ms 0 1 1 rI x4)] [(0,some (ar 3 1 1 rI x4)),(20,none)] [(0,true)]) (qr eW)))
theorem aBZ{p}{q}{seed}{r}(h:pP n p q seed=some r):PQ G 20 [V.agg (bD p),V.agg (bD q),vI seed] (vB r):=by
 unfold pP at h
 refine pq aN Tryz.func20 rfl fun w X hC=> ?_
 refine rq hC [.z (.b (true)),.z (.b (true))] [3,4,6] [(3,V.tp (bM p)),(4,V.tp (bM q))] [] [] ?_
 obtain⟨x1,hx1,x2,hx2,h⟩:=dC h
 refine rq hC [oV (Q4 G hx1),.z (.nat 20),oA (aJQ rI hx2),oQ (aAk hx2).1] [7,13,14,15] [(7,ms 20 1 1 rI x2)] [(20,some (ar 3 1 1 rI x2))] [(20,true)] (qs (rq hC [] [8] [(8,vI 0)] [] [] (qb (bA (γ:=Nat) h (fun x_ g_=>aW [(2,vI seed),(3,V.tp (bM p)),(4,V.tp (bM q)),(7,ms 20 g_ 1 rI x_.1),(8,vI x_.2)] [(20,ar 3 g_ 1 rI x_.1)] [20]) 1 (lS) ?_))))
 rintro again6 ⟨x3,x4⟩ g5 h
 refine qs (rq hC [oN rI x3] (fr 16 4) [(19,vB (decide (x4<(x3.length:Int))))] [] [] (aR h (fun c1 h=> ?_) (fun c1 h=> ?_)))
 ·refine qk (qs (qb ?_))
  obtain⟨x7,hx7,x8,hx8,h⟩:=dC h
  exact rk hC [oQ (show(1000:Int)≠0 by decide),oQ (mM rI hx7),oX rI hx7,.z (.rows (List.map rI x8)),.z (.len 7 (List.map rI x8).length),oQ (str rI hx8),oQ (uN rI hx8)] [7,22,23,24,25,26,27,28,29,30,31] [(7,ms 20 g5 1 rI x8)] [(20,some (ar 3 g5 1 rI x8))] [] (rk hC [] [8,20,21] [(8,vI (wr (x4+1)))] [] [] ⟨(x8,wr (x4+1)),g5,h,lS⟩)
 ·refine cN ?_
  obtain⟨x9,hx9,h⟩:=bd h
  refine rq hC [.z (.at 6),.z (.fz 20 [7,34] []),oC [] [21] (tU G hx9)] [7,9,10,32,33,34,35,36,37] [(7,vM rI x3),(9,ms 21 1 1 rI x9.1),(10,vB x9.2)] [(20,none),(21,some (ar 3 1 1 rI x9.1))] [(21,true)] ?_
  obtain⟨x10,hx10,h⟩:=bd h
  refine rq hC [oC [] [22] (tU G hx10)] [11,12,38,39,40,41,42,43] [(11,ms 22 1 1 rI x10.1),(12,vB x10.2)] [(22,some (ar 3 1 1 rI x10.1))] [(22,true)] (vj h (fun x_=>aW [(6,vB x_)] [(21,ar 3 1 1 rI x9.1),(22,ar 3 1 1 rI x10.1)] [20,21,22]) (fun j11 h=> ?_) (fun x13 h=> ?_))
  ·
   refine aS h (fun c2 h=> ?_) (fun c2 h=> ?_)
   ·exact rk hC ([oF c2,oF c2]++sF 4) [6,44,45,46,47,48,49,50,51,52] [(6,vB false)] [] [] (lE h)
   ·refine aS h (fun c3 h=> ?_) (fun c3 h=> ?_)
    ·exact rk hC ([oT c2,oT c2]++rF 4 c3) [6,44,45,46,47,48,49,50,51,52] [(6,vB false)] [] [] (lE h)
    ·obtain⟨x12,hx12,h⟩:=bd h
     exact rk hC ([oT c2,oT c2]++rT 3 c3++[.z (.b (true)),oV (aDy G hx12),oT c3]) [6,44,45,46,47,48,49,50,51,52] [(6,vB x12)] [] [] (lE h)
  ·obtain rfl:=so h
   exact qr eR
theorem uQ{p}{x}{r}(h:fD n p x=some r):VQ G 185 [] [V.agg (bD p),V.agg (qU x)] (V.tup [ms 0 1 1 rI r.1,vI r.2]) [ar 3 1 1 rI r.1]:=by
 unfold fD at h
 refine vq aN Tryz.func185 rfl fun w X β0 hC hg=> ?_
 refine rq hC [.z (.b (true)),.z (.b (true))] (fr 2 4) [(2,V.tp (bM p)),(3,V.tp (aD9 x))] [] [] ?_
 obtain⟨x1,hx1,h⟩:=bd h
 refine rq hC [oV (qS G hx1),.z (.nat 20)] [6,10,11,12] [(6,V.ref 20 0)] [(20,some (E.cells (cU x1)))] [(20,true)] (rq hC [] [7] [(7,V.t T.nilS)] [] [] (qs ?_))
 obtain⟨x2,hx2,h⟩:=bd h
 refine rq hC [oC [] [21] (X6 G n x1.value hx2),oN aU x2] (fr 13 5) [(15,ms 21 1 2 aU x2),(16,vI (x2.length:Int)),(17,vI 0)] [(21,some (ar 77 1 2 aU x2))] [(21,true)] (qb (qw (lk hC [.grow 7 22 3] [7] [(7,ms 22 1 1 rI [])] [(22,some (ar 3 1 1 rI []))] [(22,true)]) (bA (γ:=Nat) h (fun x_ g_=>aW [(2,V.tp (bM p)),(3,V.tp (aD9 x)),(6,V.ref 20 0),(7,ms 22 g_ 1 rI x_.1),(15,ms 21 1 2 aU x2),(16,vI (x2.length:Int)),(17,vI x_.2)] [(20,E.cells (cU x1)),(21,ar 77 1 2 aU x2),(22,ar 3 g_ 1 rI x_.1)] [20,21,22]) 1 (lS) ?_)))
 rintro again6 ⟨x3,x4⟩ g5 h
 refine rq hC [] [18] [(18,vB (decide (x4<(x2.length:Int))))] [] [] (qs (aR h (fun c1 h=> ?_) (fun c1 h=> ?_)))
 ·refine qk (qs (qb ?_))
  obtain⟨x7,hx7,h⟩:=bd h
  refine rq hC [oQ (mM aU hx7),oX aU hx7,.z (.nat 23)] [9,19,20] [(9,V.ref 23 0)] [(23,some (E.cells (cS x7)))] [(23,true)] ?_
  obtain⟨x8,hx8,x9,hx9,h⟩:=dC h
  exact rk hC [oV (dO G hx8),.z (.int 0),oA (aP rI hx9),oQ (bX (r:=rI) 1 (fun _=>rfl) x3),oQ (bX (r:=rI) 1 (fun _=>rfl) [x8])] [7,21,22,23,24,25,26,27,28] [(7,ms 22 (g5+1) 1 rI x9)] [(22,some (ar 3 (g5+1) 1 rI x9))] [] (rk hC [] [17,29] [(17,vI (wr (x4+1)))] [] [] ⟨(x9,wr (x4+1)),(g5+1),h,lS⟩)
 ·refine cN ?_
  obtain⟨x10,hx10,h⟩:=bd h
  obtain rfl:=so h
  exact rq hC [oV (dO G hx10)] [4,5,30,31,32,33,34,35,36] [(4,ms 22 g5 1 rI x3),(5,vI x10)] [] [] (qw (lk hC [.ren 4 22 0] [4] [(4,ms 0 1 1 rI x3)] [(0,some (ar 3 1 1 rI x3)),(22,none)] [(0,true)]) (qr eW))
theorem X5{p}{r}(h:xM n p=some r):PQ G 86 [V.agg (bD p)] (V.tup [vP aIm r.1,vB r.2]):=by
 unfold xM at h
 refine pmr aN Tryz.func86 rfl rfl rfl rfl rfl (aLj _ _ _) rfl ?_
 intro w X hC
 refine rq hC [.z (.b (true))] [1,2,3] [(1,V.tp (bM p))] [] [] ?_
 obtain⟨x1,hx1,h⟩:=bd h
 refine rq hC [oC [] [20] (gR G hx1)] [4,5,11,12,13,14,15] [(4,ms 20 1 3 aQ x1.1),(5,vB x1.2)] [(20,some (ar 112 1 3 aQ x1.1))] [(20,true)] (qs (rq hC [] [16,17] [(17,vB (!x1.2))] [] [] (aR h (fun c1 h=> ?_) (fun c1 h=> ?_))))
 ·obtain rfl:=so h
  exact rq hC [] [2,3] [(2,V.t T.nilP),(3,vB false)] [] [] (qr eR)
 ·refine qk (rq hC [.z (.nat 21)] [6,18,19,20,21] [(6,V.ref 21 0)] [(21,sc [vM aH p.arrays,vM aC p.parts,ms 20 1 3 aQ x1.1,V.t T.nilS,V.t T.nilS])] [(21,true)] (qs (rq hC [oN aQ x1.1] [22,23,24] [(22,ms 20 1 3 aQ x1.1),(23,vI (x1.1.length:Int)),(24,vI 0)] [] [] (qb (qw (lk hC [.growc 21 3 22 48] [] [] [(22,some (ar 48 1 1 (rL rI) [])),(21,sc [vM aH p.arrays,vM aC p.parts,ms 20 1 3 aQ x1.1,ms 22 1 1 (rL rI) [],V.t T.nilS])] [(22,true)]) ?_)))))
  refine qw (lk hC [.growc 21 4 23 3] [] [] [(23,some (ar 3 1 1 rI [])),(21,sc [vM aH p.arrays,vM aC p.parts,ms 20 1 3 aQ x1.1,ms 22 1 1 (rL rI) [],ms 23 1 1 rI []])] [(23,true)]) (bA (γ:=Nat×Nat) h (fun x_ g_=>aW [(1,V.tp (bM p)),(6,V.ref 21 0),(22,ms 20 1 3 aQ x1.1),(23,vI (x1.1.length:Int)),(24,vI x_.2.2)] [(20,ar 112 1 3 aQ x1.1),(21,E.cells [vM aH p.arrays,vM aC p.parts,ms 20 1 3 aQ x1.1,ms 22 g_.1 1 (rL rI) x_.1,ms 23 g_.2 1 rI x_.2.1]),(22,ar 48 g_.1 1 (rL rI) x_.1),(23,ar 3 g_.2 1 rI x_.2.1)] [20,21,22,23]) (1,1) (lS) ?_)
  rintro again7 ⟨x2,x3,x4⟩ ⟨g5,g6⟩ h
  refine rq hC [] [25] [(25,vB (decide (x4<(x1.1.length:Int))))] [] [] (qs (aR h (fun c2 h=> ?_) (fun c2 h=> ?_)))
  ·refine qk (qs (qb ?_))
   obtain⟨x8,hx8,h⟩:=bd h
   refine rq hC [oQ (mM aQ hx8),oX aQ hx8,.z (.nat 24)] [8,26,27] [(8,V.ref 24 0)] [(24,some (E.cells (qU x8)))] [(24,true)] ?_
   obtain⟨x9,hx9,h⟩:=bd h
   refine rq hC [oC [] [25] (uQ G hx9)] [9,10,28,29,30,31,32,33] [(9,ms 25 1 1 rI x9.1),(10,vI x9.2)] [(25,some (ar 3 1 1 rI x9.1))] [(25,true)] ?_
   obtain⟨x10,hx10,x11,hx11,h⟩:=dC h
   exact dk hC bF [.z (.at 15),.z (.fz 25 [9,40] []),.z (.int 0),oA (aP (rL rI) hx10),.z (.int 0),oQ (bX (r:=(rL rI)) 1 (fun _=>rfl) x2),oQ (bX (r:=(rL rI)) 1 (fun _=>rfl) [x9.1]),oA (aP rI hx11),oQ (bX (r:=rI) 1 (fun _=>rfl) x3),oQ (bX (r:=rI) 1 (fun _=>rfl) [x9.2])] [9,34,35,36,37,38,39,40,41,42,43,44,45,46,47,48,49,50,51,52,53] [] [(25,none),(22,some (ar 48 (g5+1) 1 (rL rI) x10)),(23,some (ar 3 (g6+1) 1 rI x11)),(21,sc [vM aH p.arrays,vM aC p.parts,ms 20 1 3 aQ x1.1,ms 22 (g5+1) 1 (rL rI) x10,ms 23 (g6+1) 1 rI x11])] [] (rk hC [] [24,54] [(24,vI (wr (x4+1)))] [] [] ⟨(x10,x11,wr (x4+1)),((g5+1),(g6+1)),h,lS⟩)
  ·obtain rfl:=so h
   exact cN (rq hC [] [2,3,55] [(2,V.ref 21 0),(3,vB true)] [] [] (qw (lk hC [.fz 20 [22] [21],.fz 22 [] [21],.fz 23 [] [21],.fp 21 [2,6]] [2,6,22] [(2,V.tp [T.sl (List.map aH p.arrays),T.sl (List.map aC p.parts),T.sl (List.map aQ x1.1),T.sl (List.map (rL rI) x2),T.sl (List.map rI x3)]),(6,V.tp [T.sl (List.map aH p.arrays),T.sl (List.map aC p.parts),T.sl (List.map aQ x1.1),T.sl (List.map (rL rI) x2),T.sl (List.map rI x3)]),(22,vM aQ x1.1)] [(21,none),(20,none),(22,none),(23,none)] []) (qr eR)))
theorem cD{p}{part}{r}(h:eD n p part=some r):PQ G 87 [V.agg (bD p),vI part] (vB r):=by
 unfold eD at h
 refine pq aN Tryz.func87 rfl fun w X hC=> ?_
 refine rq hC [.z (.b (true))] [2,4] [(2,V.tp (bM p))] [] [] ?_
 obtain⟨x1,hx1,h⟩:=bd h
 obtain rfl:=so h
 exact rq hC [oN aC p.parts,oV (bL G hx1)] (fr 4 7) [(4,vB x1)] [] [] (qr eR)
theorem X4{list}{n_a1}{r}(h:t6 n list n_a1=some r):PQ G 262 [vM rI list,vI n_a1] (vB r):=by
 unfold t6 at h
 refine pq aN Tryz.func262 rfl fun w X hC=> ?_
 refine rq hC [] [4] [] [] [] (qs (rq hC [] [5] [(5,vI 0)] [] [] (qb (i8 h (fun x_=>aW [(0,vM rI list),(1,vI n_a1),(5,vI x_)] [] []) lS ?_))))
 rintro again2 x1 h
 refine qs (rq hC [oN rI list] (fr 6 4) [(9,vB (decide (x1<(list.length:Int))))] [] [] (aR h (fun c1 h=> ?_) (fun c1 h=> ?_)))
 ·refine qk (qs (qb ?_))
  obtain⟨x3,hx3,h⟩:=bd h
  refine rq hC [oR rI hx3] (fr 12 6) [(17,vB (decide (x3=n_a1)))] [] [] (aR h (fun c2 h=> ?_) (fun c2 h=> ?_))
  ·obtain rfl:=so h
   exact rq hC [] [4] [(4,vB true)] [] [] (qr eR)
  ·exact qk (rk hC [] [5,10,11] [(5,vI (wr (x1+1)))] [] [] (lE h))
 ·obtain rfl:=so h
  exact cN (rq hC [] [4] [(4,vB false)] [] [] (qr eR))
theorem sE{p}{r}(h:gO n p=some r):VQ G 91 [] [V.agg (bD p)] (ms 0 1 3 aQ r) [ar 112 1 3 aQ r]:=by
 unfold gO at h
 refine vq aN Tryz.func91 rfl fun w X β0 hC hg=> ?_
 refine rq hC [.z (.b (true))] [1,2] [(1,V.tp (bM p))] [] [] (rq hC [.z (.nat 20)] [3,8] [(3,ms 20 1 3 aQ [])] [(20,some (ar 112 1 3 aQ []))] [(20,true)] (qs (rq hC [] [4] [(4,vI 0)] [] [] (qb (bA (γ:=Nat) h (fun x_ g_=>aW [(1,V.tp (bM p)),(3,ms 20 g_ 3 aQ x_.1),(4,vI x_.2)] [(20,ar 112 g_ 3 aQ x_.1)] [20]) 1 (lS) ?_)))))
 rintro again4 ⟨x1,x2⟩ g3 h
 refine qs (rq hC [oN aC p.parts] (fr 9 5) [(13,vB (decide (x2<(p.parts.length:Int))))] [] [] (aR h (fun c1 h=> ?_) (fun c1 h=> ?_)))
 ·refine qk (qs (qb ?_))
  obtain⟨x5,hx5,x6,hx6,h⟩:=dC h
  refine rq hC [.z (.nat 21),oR aC hx5,oC [21] [] (xZ G n [] 1 x5.nest [] hx6)] [5,16,17,18,19,20,21,22,23] [(5,ms 21 2 1 (rL rI) x6)] [(21,some (ar 48 2 1 (rL rI) x6))] [(21,true),(21,true)] (rq hC [] [6] [(6,vI 0)] [] [] (qb (bA (γ:=Nat) h (fun x_ g_=>aW [(1,V.tp (bM p)),(3,ms 20 g_ 3 aQ x_.1),(4,vI x2),(5,ms 21 2 1 (rL rI) x6),(6,vI x_.2)] [(20,ar 112 g_ 3 aQ x_.1),(21,ar 48 2 1 (rL rI) x6)] [20,21]) g3 (lS) ?_)))
  rintro again10 ⟨x7,x8⟩ g9 h
  refine qs (rq hC [oN (rL rI) x6] (fr 24 4) [(27,vB (decide (x8<(x6.length:Int))))] [] [] (aR h (fun c2 h=> ?_) (fun c2 h=> ?_)))
  ·refine qk (qs (qb (rq hC [] [7] [(7,vI 0)] [] [] (qb (bA (γ:=Nat) h (fun x_ g_=>aW [(1,V.tp (bM p)),(3,ms 20 g_ 3 aQ x_.1),(4,vI x2),(5,ms 21 2 1 (rL rI) x6),(6,vI x8),(7,vI x_.2)] [(20,ar 112 g_ 3 aQ x_.1),(21,ar 48 2 1 (rL rI) x6)] [20,21]) g9 (lS) ?_)))))
   rintro again14 ⟨x11,x12⟩ g13 h
   refine qs (rq hC [oR aC hx5,oN aI x5.body] (fr 30 9) [(38,vB (decide (x12<(x5.body.length:Int))))] [] [] (aR h (fun c3 h=> ?_) (fun c3 h=> ?_)))
   ·refine qk (qs (qb ?_))
    obtain⟨x15,hx15,x16,hx16,x17,hx17,h⟩:=kV h
    exact rk hC [.z (.nat 22),oQ (mM (rL rI) hx15),oX (rL rI) hx15,oA (aP rI hx16),.z (.at 4),.z (.fz 22 [49] []),.z (.int 0),oQ (bX (r:=rI) 1 (fun _=>rfl) []),oQ (bX (r:=rI) 1 (fun _=>rfl) x15),oA (aP aQ hx17),oQ (bX (r:=aQ) 3 uE x11),oQ (bX (r:=aQ) 3 uE [(⟨x2,x12,x16⟩:Inst)])] [3,41,42,43,44,45,46,47,48,49,50,51,52] [(3,ms 20 (g13+1) 3 aQ x17)] [(22,none),(20,some (ar 112 (g13+1) 3 aQ x17))] [(22,true)] (rk hC [] [7,39,40] [(7,vI (wr (x12+1)))] [] [] ⟨(x17,wr (x12+1)),(g13+1),h,lS⟩)
   ·exact cN (rk hC [] [6,28,29] [(6,vI (wr (x8+1)))] [] [] ⟨(x11,wr (x8+1)),g13,h,lS⟩)
  ·exact cN (rk hC [] [4,14,15] [(4,vI (wr (x2+1)))] [] [] ⟨(x7,wr (x2+1)),g9,h,lS⟩)
 ·obtain rfl:=so h
  exact cN (rq hC [] [2,53] [(2,ms 20 g3 3 aQ x1)] [] [] (qw (lk hC [.ren 2 20 0] [2] [(2,ms 0 1 3 aQ x1)] [(0,some (ar 112 1 3 aQ x1)),(20,none)] [(0,true)]) (qr eW)))
theorem aDC{p}{r}(h:sX n p=some r):VQ G 188 [] [V.agg (bD p)] (ms 0 1 2 cW r) [ar 204 1 2 cW r]:=by
 unfold sX at h
 refine vq aN Tryz.func188 rfl fun w X β0 hC hg=> ?_
 refine rq hC [.z (.b (true))] [1,2] [(1,V.tp (bM p))] [] [] (rq hC [.z (.nat 20)] [3,9] [(3,ms 20 1 2 cW [])] [(20,some (ar 204 1 2 cW []))] [(20,true)] ?_)
 obtain⟨x1,hx1,h⟩:=bd h
 refine rq hC [oC [] [21] (sE G hx1)] [4,10,11] [(4,ms 21 1 3 aQ x1)] [(21,some (ar 112 1 3 aQ x1))] [(21,true)] (qs (rq hC [] [5] [(5,vI 0)] [] [] (qb (bA (γ:=Nat) h (fun x_ g_=>aW [(1,V.tp (bM p)),(3,ms 20 g_ 2 cW x_.1),(4,ms 21 1 3 aQ x1),(5,vI x_.2)] [(20,ar 204 g_ 2 cW x_.1),(21,ar 112 1 3 aQ x1)] [20,21]) 1 (lS) ?_))))
 rintro again5 ⟨x2,x3⟩ g4 h
 refine qs (rq hC [oN aQ x1] (fr 12 4) [(15,vB (decide (x3<(x1.length:Int))))] [] [] (aR h (fun c1 h=> ?_) (fun c1 h=> ?_)))
 ·refine qk (qs (qb (qs ?_)))
  obtain⟨x6,hx6,x7,hx7,x8,hx8,h⟩:=kV h
  obtain⟨x9,hx9,h⟩:=bd h
  refine dk hC bF [oQ (mM aQ hx6),oX aQ hx6,oR aC hx7,oQ (mM aQ hx6),oX aQ hx6,oR aI hx8,oQ (mM aQ hx6),oX aQ hx6,oC [] [22] (A8 G hx9)] [6,7,8,18,19,20,21,22,23,24,25,26,27,28,29,30,31,32,33,34,35,36,37,38,39,40,41,42,43,44,45,46] [(6,ms 22 1 1 rI x9.1),(7,vI x9.2.1)] [(22,some (ar 3 1 1 rI x9.1))] [(22,true)] ?_
  obtain⟨x10,hx10,h⟩:=bd h
  exact rk hC [.z (.at 4),.z (.fz 22 [6,48] []),.z (.int 0),oA (aP cW hx10),oQ (bX (r:=cW) 2 I6 x2),oQ (bX (r:=cW) 2 I6 [(⟨x9.1,x9.2.1⟩:L6Use)])] [3,6,47,48,49,50,51,52] [(3,ms 20 (g4+1) 2 cW x10)] [(22,none),(20,some (ar 204 (g4+1) 2 cW x10))] [] (rk hC [] [5,16,17] [(5,vI (wr (x3+1)))] [] [] ⟨(x10,wr (x3+1)),(g4+1),h,lS⟩)
 ·obtain rfl:=so h
  exact cN (rq hC [] [2,53] [(2,ms 20 g4 2 cW x2)] [] [] (qw (lk hC [.ren 2 20 0] [2] [(2,ms 0 1 2 cW x2)] [(0,some (ar 204 1 2 cW x2)),(20,none)] [(0,true)]) (qr eW)))
theorem aDz{p}{part}{many}{parts}{r}(h:sV n p part many parts=some r):PQ G 85 [V.agg (bD p),vI part,vI many,vM aC parts] (V.tup [V.agg (bD r.1),vB r.2]):=by
 unfold sV at h
 refine pq aN Tryz.func85 rfl fun w X hC=> ?_
 refine rq hC [.z (.b (true)),.z (.nat 20)] [4,8,9] [(4,V.tp (bM p)),(8,V.ref 20 0)] [(20,sc [V.t T.nilS,V.t T.nilS])] [(20,true)] ?_
 obtain⟨x1,hx1,h⟩:=bd h
 refine rq hC [oC [] [21,22] (v8 G hx1),.z (.nat 23)] [10,12,13] [(10,V.ref 23 0)] [(21,some (ar 90 1 2 aH x1.arrays)),(22,some (E.tree mL 2 1 (List.map aC x1.parts) [])),(23,sc [ms 21 1 2 aH x1.arrays,ms 22 1 2 aC x1.parts])] [(21,true),(22,true),(23,true)] (rq hC [.z (.nat 24)] [11,14,15,16] [(11,V.ref 24 0)] [(24,sc [ms 21 1 2 aH x1.arrays,V.t T.nilS])] [(24,true)] (qs (qw (lk hC [.shd 22,.fz 22 [] [23]] [] [] [(22,none),(23,sc [ms 21 1 2 aH x1.arrays,vM aC x1.parts])] []) ?_)))
 obtain⟨x2,hx2,x3,hx3,x4,hx4,h⟩:=kV h
 obtain⟨x5,hx5,x6,hx6,h⟩:=dC h
 refine dk hC bF [.z (.nat 25),oA (D7 aC hx2),oQ (bX (r:=aC) 2 b8 x1.parts),oA (aP aC hx3),oQ (bX (r:=aC) 2 b8 []),oQ (bX (r:=aC) 2 b8 x2),oA (aP aC hx4),oQ (bX (r:=aC) 2 b8 x3),oQ (bX (r:=aC) 2 b8 parts),oA (aF7 aC hx5),oQ (bX (r:=aC) 2 b8 x1.parts),oA (aP aC hx6),oQ (bX (r:=aC) 2 b8 x4),oQ (bX (r:=aC) 2 b8 x5)] (fr 17 16) [] [(25,some (ar 46 4 2 aC x6)),(24,sc [ms 21 1 2 aH x1.arrays,ms 25 4 2 aC x6])] [(25,true)] (qs ?_)
 obtain⟨x7,hx7,h⟩:=bd h
 refine rq hC [.z (.at 3),.z (.fz 21 [] [23,24]),.z (.at 3),.z (.fz 25 [] [24]),oV (dN G hx7)] [33,34,35] [(35,vB (!x7))] [(23,some (E.cells (bD x1))),(24,sc [vM aH x1.arrays,vM aC x6]),(21,none),(25,none)] [] (aR h (fun c1 h=> ?_) (fun c1 h=> ?_))
 ·obtain rfl:=so h
  exact rq hC [] [9,36] [(9,vB false)] [(20,sc [V.t T.nilS,V.t T.nilS])] [] (qr eR)
 ·refine qk ?_
  obtain⟨x8,hx8,h⟩:=bd h
  obtain rfl:=so h
  exact rq hC [oC [] [26,27] (v8 G hx8)] [9,37,38] [(9,vB true)] [(26,some (ar 90 1 2 aH x8.arrays)),(27,some (E.tree mL 2 1 (List.map aC x8.parts) [])),(20,sc [ms 26 1 2 aH x8.arrays,ms 27 1 2 aC x8.parts])] [(26,true),(27,true)] (qw (lk hC [.fz 26 [] [20]] [] [] [(20,sc [vM aH x8.arrays,ms 27 1 2 aC x8.parts]),(26,none)] []) (qw (lk hC [.shd 27,.fz 27 [] [20]] [] [] [(27,none),(20,some (E.cells (bD x8)))] []) (qr eR)))
theorem S2{s}{v}{r}(h:o2 n s v=some r):PQ G 210 [vM rI s,vI v] (vI r):=by
 unfold o2 at h
 refine pq aN Tryz.func210 rfl fun w X hC=> ?_
 refine rq hC [] [4] [] [] [] (qs (rq hC [oN rI s] [6,7,8] [(7,vI (s.length:Int)),(8,vI 0)] [] [] (qb (i8 h (fun x_=>aW [(0,vM rI s),(1,vI v),(7,vI (s.length:Int)),(8,vI x_)] [] []) lS ?_))))
 rintro again2 x1 h
 refine rq hC [] [9] [(9,vB (decide (x1<(s.length:Int))))] [] [] (qs (aR h (fun c1 h=> ?_) (fun c1 h=> ?_)))
 ·refine qk (qs (qb (rq hC [] [5,10] [(5,vI x1)] [] [] ?_)))
  obtain⟨x3,hx3,h⟩:=bd h
  refine rq hC [oR rI hx3] (fr 11 6) [(16,vB (decide (v=x3)))] [] [] (aR h (fun c2 h=> ?_) (fun c2 h=> ?_))
  ·obtain rfl:=so h
   exact rq hC [] [4,17] [(4,vI x1)] [] [] (qr eR)
  ·exact qk (rk hC [] [8,18] [(8,vI (wr (x1+1)))] [] [] (lE h))
 ·obtain rfl:=so h
  exact cN (rq hC [] [4] [(4,vI (-1))] [] [] (qr eR))
theorem qR{s}{v}{r}(h:fV n s v=some r):PQ G 186 [vM rI s,vI v] (vB r):=by
 unfold fV at h
 refine pq aN Tryz.func186 rfl fun w X hC=> ?_
 refine rq hC [] [4] [] [] [] ?_
 obtain⟨x1,hx1,h⟩:=bd h
 obtain rfl:=so h
 exact rq hC [oV (S2 G hx1)] (fr 4 5) [(4,vB (decide ((0:Int)≤x1)))] [] [] (qr eR)
theorem D1{s}{i}{j}(gs:Nat){r}(h:jD n s i j=some r):
  VQ G 89 [ar 46 gs 2 aC s] [ms 0 gs 2 aC s,vI i,vI j] (ms 0 gs 2 aC (r.2.take r.1)) [ar 46 gs 2 aC r.2]:=by
 unfold jD at h
 refine vq aN Tryz.func89 rfl fun w X β0 hC hg=> ?_
 refine rq hC [] [6] [] [] [] (wV (decide ((0:Int)≤i)) (fun c1=> ?_) (fun c1=> ?_))
 ·have h:=bf c1 h
  exact nof h
 have h:=bt c1 h
 refine wV (decide (i≤j)) (fun c2=> ?_) (fun c2=> ?_)
 ·have h:=bf c2 h
  exact nof h
 have h:=bt c2 h
 refine wV (decide (j≤(s.length:Int))) (fun c3=> ?_) (fun c3=> ?_)
 ·have h:=bf c3 h
  exact nof h
 have h:=bt c3 h
 have g0:=of_decide_eq_true c1
 have g1:=of_decide_eq_true c2
 have g2:=of_decide_eq_true c3
 refine rq hC [oN aC s,oQ (dlS aC s g0 g1 g2)] (fr 8 6) [] [] [] (qs (rq hC [] [14,15,16] [(16,vB (decide (i=j)))] [] [] (aR h (fun c4 h=> ?_) (fun c4 h=> ?_))))
 ·obtain rfl:=so h
  exact rq hC [.z (.at 0),.z (.len 6 (List.map aC (s.take s.length)).length),oQ (aKQ aC s)] [6,17] [(6,ms 0 gs 2 aC (s.take s.length))] [] [] (qr eW)
 ·have g4:i<j:=by have:=of_decide_eq_false c4;omega
  refine qk (rq hC [oN aC s] [7,18,19] [(7,vI (s.length:Int))] [] [] ?_)
  by_cases g3:j<(s.length:Int)
  ·obtain rfl:=so h
   exact qs (dk hC bF [.z (.nat 0),.z (.nat i.toNat),.z (.nat j.toNat),.z (.nat (s.length-j.toNat)),.z (.rows (List.map aC (C7 s i j))),oQ (dlA aC s g0 g1 g2),oQ (aFR aC s (show 0≤j by omega) g3),oQ (aLv aC s g0 g1 g2),oQ (aLu aC s g0 g1 g2),oQ (aLt aC s i j)] [0,20,21,22,23,24,25,26] [(0,V.msl 0 gs 2 0 (gW s i j))] [(0,some (ar 46 gs 2 aC (C7 s i j)))] [] (rq hC [.z (.nat (gW s i j)),.z (.int 1),.z (.nat (gW s i j)),.z (.nat (s.length-(gW s i j))),.z (.rows (List.map aC (tQ s i j (⟨[],[]⟩:Part)))),oQ (Eq.refl (gW s i j)),oQ (dlC aC s (C7 s i j) (k:=2) (by decide) g0 g4 g2 (aBW s g0 g1 g2) rfl),oQ (dlD aC s (⟨[],[]⟩:Part) g0 g4 g2)] (fr 27 5) [] [(0,some (ar 46 gs 2 aC (tQ s i j (⟨[],[]⟩:Part))))] [] (rq hC [.z (.at 0),.z (.len 6 (List.map aC ((tQ s i j (⟨[],[]⟩:Part)).take (gW s i j))).length),oQ (dlL aC s (⟨[],[]⟩:Part) g0 g4 g2)] [6,32] [(6,ms 0 gs 2 aC ((tQ s i j (⟨[],[]⟩:Part)).take (gW s i j)))] [] [] (qr eW))))
  ·obtain rfl:=so h
   exact qs (dk hC bF [.z (.nat 0),.z (.nat i.toNat),.z (.int 0),.z (.int 0),oQ (dlA aC s g0 g1 g2),oQ (dlE aC s g0 g1 g2 g3)] [0,20,21,22,23,24,25,26] [(0,V.msl 0 gs 2 0 (i.toNat))] [] [] (rq hC [.z (.nat (i.toNat)),.z (.int 1),.z (.nat (i.toNat)),.z (.nat (s.length-(i.toNat))),.z (.rows (List.map aC (tQ s i j (⟨[],[]⟩:Part)))),oQ (Eq.refl (i.toNat)),oQ (dlC aC s s (k:=2) (by decide) g0 g4 g2 rfl (dlM s g2 g3)),oQ (aLs aC s (⟨[],[]⟩:Part) g0 g4 g2 g3)] (fr 27 5) [] [(0,some (ar 46 gs 2 aC (tQ s i j (⟨[],[]⟩:Part))))] [] (rq hC [.z (.at 0),.z (.len 6 (List.map aC ((tQ s i j (⟨[],[]⟩:Part)).take (gW s i j))).length),oQ ((dlM s g2 g3).trans (dlL aC s (⟨[],[]⟩:Part) g0 g4 g2))] [6,32] [(6,ms 0 gs 2 aC ((tQ s i j (⟨[],[]⟩:Part)).take (gW s i j)))] [] [] (qr eW))))
theorem aDB{r_a0}{r}(h:wX n r_a0=some r):VQ G 103 [eL r_a0] [V.ref 0 0] (V.tup [V.agg (bD r.1),vI r.2.1,vI r.2.2.1,vI r.2.2.2.1]) [eL r.2.2.2.2]:=by
 unfold wX at h
 refine vq aN Tryz.func103 rfl fun w X β0 hC hg=> ?_
 refine rq hC [.z (.nat 20)] (fr 2 4) [(2,V.ref 20 0)] [(20,sc [V.t T.nilS,V.t T.nilS])] [(20,true)] ?_
 obtain⟨x1,hx1,x2,hx2,h⟩:=dC h
 refine rq hC [oC [0] [] (aDA G hx1),oC [0] [] (aAL G hx2),.z (.nat 21)] [6,8,9,10,11] [(6,V.ref 21 0)] [(0,sR x2.2),(21,some (E.cells (bD x2.1)))] [(0,true),(0,true),(21,true)] ?_
 obtain⟨x3,hx3,h⟩:=bd h
 refine rq hC [.z (.int 0),oC [0] [] (aZ G hx3)] [7,12,13,14] [(7,vI x3.1)] [(0,sR x3.2)] [(0,true)] (qs ?_)
 obtain⟨x4,hx4,x5,hx5,h⟩:=dC h
 obtain rfl:=so h
 exact dk hC bF [.z (.int 0),oC [0] [] (aZ G hx4),.z (.int 0),oC [0] [] (aZ G hx5)] [3,4,5,15,16,17,18,19,20,21,22] [(3,vI x3.1),(4,vI x4.1),(5,vI x5.1)] [(0,sR x5.2),(20,some (E.cells (bD x2.1)))] [(0,true),(0,true)] (qr eW)
theorem aAN{p}{r}(h:n8 n p=some r):PQ G 97 [V.agg (bD p)] (V.tup [V.agg (bD r.1),vB r.2]):=by
 unfold n8 at h
 refine pq aN Tryz.func97 rfl fun w X hC=> ?_
 refine rq hC [.z (.b (true)),.z (.nat 20)] [1,2,3] [(1,V.tp (bM p)),(2,V.ref 20 0)] [(20,sc [V.t T.nilS,V.t T.nilS])] [(20,true)] (qs ?_)
 obtain⟨x1,hx1,h⟩:=bd h
 refine rq hC [oV (bH G hx1)] [4,5,6] [(6,vB (!x1))] [] [] (aR h (fun c1 h=> ?_) (fun c1 h=> ?_))
 ·obtain rfl:=so h
  exact rq hC [] [3,7] [(3,vB false)] [(20,sc [V.t T.nilS,V.t T.nilS])] [] (qr eR)
 ·refine qk ?_
  obtain⟨x2,hx2,h⟩:=bd h
  obtain rfl:=so h
  exact rq hC [oC [] [21,22] (D4 G hx2)] [3,8,9] [(3,vB true)] [(21,some (ar 90 1 2 aH x2.arrays)),(22,some (ar 46 1 2 aC x2.parts)),(20,sc [ms 21 1 2 aH x2.arrays,ms 22 1 2 aC x2.parts])] [(21,true),(22,true)] (qw (lk hC [.fz 21 [] [20]] [] [] [(20,sc [vM aH x2.arrays,ms 22 1 2 aC x2.parts]),(21,none)] []) (qw (lk hC [.fz 22 [] [20]] [] [] [(20,some (E.cells (bD x2))),(22,none)] []) (qr eR)))
theorem oM{p}{part}{loop}{r}(h:lQ n p part loop=some r):PQ G 192 [V.agg (bD p),vI part,vI loop] (vB r):=by
 unfold lQ at h
 refine pq aN Tryz.func192 rfl fun w X hC=> ?_
 refine rq hC [.z (.b (true))] [3,6] [(3,V.tp (bM p))] [] [] (vj h (fun x_=>aW [(6,vB x_)] [] []) (fun j1 h=> ?_) (fun x5 h=> ?_))
 ·
  obtain⟨x2,hx2,h⟩:=bd h
  refine aS h (fun c1 h=> ?_) (fun c1 h=> ?_)
  ·exact rk hC ([oV (cD G hx2)]++rF 11 c1) (fr 6 16) [(6,vB false)] [] [] (lE h)
  ·obtain⟨x3,hx3,x4,hx4,h⟩:=dC h
   exact rk hC ([oV (cD G hx2)]++rT 5 c1++[oR aC hx3]++rT 3 c1++[oN aD x3.nest,oT c1,oT c1,oV (bL G hx4),oT c1]) (fr 6 16) [(6,vB x4)] [] [] (lE h)
 ·obtain rfl:=so h
  exact qr eR
theorem aCj(G:GS)(n:Nat)(p:Prog)(part:Int)(loop:Int){r:Prog×Bool}(h:rD n p part loop=some r)(hr:r.2=true):VQ G 92 [] [V.agg (bD p),vI part,vI loop] (V.tup [V.agg [ms 0 1 2 aH r.1.arrays,ms 1 1 2 aC r.1.parts],V.eref 1 1 2 (0+Int.toNat part) 0,vB true]) [ar 90 1 2 aH r.1.arrays,E.tree sM 0 1 (List.map aC r.1.parts) []]:=by
 unfold rD at h
 refine vq aN Tryz.func92 rfl fun w X β0 hC hg=> ?_
 refine rq hC [.z (.b (true)),.z (.nat 20)] [3,6,7,8] [(3,V.tp (bM p)),(6,V.ref 20 0)] [(20,sc [V.t T.nilS,V.t T.nilS])] [(20,true)] (qs (vj h (fun x_=>aW [(1,vI part),(3,V.tp (bM p)),(6,V.ref 20 0),(29,vB x_)] [(20,E.cells [V.t T.nilS,V.t T.nilS])] [20]) (fun j1 h=> ?_) (fun x5 h=> ?_)))
 ·
  obtain⟨x2,hx2,h⟩:=bd h
  refine aS h (fun c1 h=> ?_) (fun c1 h=> ?_)
  ·obtain⟨x3,hx3,h⟩:=bd h
   refine aS h (fun c2 h=> ?_) (fun c2 h=> ?_)
   ·refine aS h (fun c3 h=> ?_) (fun c3 h=> ?_)
    ·exact rk hC ([oV (bH G hx2)]++rF 3 c1++[oV (cD G hx3),oF c1,oF c1]++rF 3 c2++rF 5 c3++[oF c2,oF c3,oF c2]) (fr 10 20) [(29,vB false)] [] [] (lE h)
    ·obtain⟨x4,hx4,h⟩:=bd h
     exact rk hC ([oV (bH G hx2)]++rF 3 c1++[oV (cD G hx3),oF c1,oF c1]++rF 3 c2++rT 4 c3++[oV (oM G hx4),oT c3,oF c2,oT c3,oF c2]) (fr 10 20) [(29,vB (!x4))] [] [] (lE h)
   ·exact rk hC ([oV (bH G hx2)]++rF 3 c1++[oV (cD G hx3),oF c1,oF c1]++rT 5 c2) (fr 10 20) [(29,vB true)] [] [] (lE h)
  ·exact rk hC ([oV (bH G hx2)]++rT 5 c1++sT 5) (fr 10 20) [(29,vB true)] [] [] (lE h)
 ·refine aR h (fun c4 h=> ?_) (fun c4 h=> ?_)
  ·obtain rfl:=so h
   cases hr
  ·refine qk ?_
   obtain⟨x6,hx6,x7,hx7,h⟩:=dC h
   obtain rfl:=so h
   exact rq hC [oC [] [21,22] (yI G hx6),.z (.nat 23)] [9,31,32] [(9,V.ref 23 0)] [(21,some (ar 90 1 2 aH x6.arrays)),(22,some (E.tree sM 0 1 (List.map aC x6.parts) [])),(23,sc [ms 21 1 2 aH x6.arrays,ms 22 1 2 aC x6.parts])] [(21,true),(22,true),(23,true)] (qw (lk hC [.rn 21 0 [] [23]] [] [] [(23,sc [ms 0 1 2 aH x6.arrays,ms 22 1 2 aC x6.parts]),(21,none),(0,some (ar 90 1 2 aH x6.arrays))] [(0,true)]) (qw (lk hC [.rn 22 1 [] [23]] [] [] [(23,sc [ms 0 1 2 aH x6.arrays,ms 1 1 2 aC x6.parts]),(22,none),(1,some (E.tree sM 0 1 (List.map aC x6.parts) []))] [(1,true)]) (qs (dk hC bF [oQ (mM aC hx7)] [7,8,33,34,35,36,37] [(7,V.eref 1 1 2 (0+Int.toNat part) 0),(8,vB true)] [(20,sc [ms 0 1 2 aH x6.arrays,ms 1 1 2 aC x6.parts])] [] (qr eW)))))
theorem aCk(G:GS)(n:Nat)(p:Prog)(part:Int)(loop:Int){r:Prog×Bool}(h:rD n p part loop=some r)(hr:r.2=false):PQ G 92 [V.agg (bD p),vI part,vI loop] (V.tup [V.agg [vM aH [],vM aC []],V.t T.nilP,vB false]):=by
 unfold rD at h
 refine pq aN Tryz.func92 rfl fun w X hC=> ?_
 refine rq hC [.z (.b (true)),.z (.nat 20)] [3,6,7,8] [(3,V.tp (bM p)),(6,V.ref 20 0)] [(20,sc [V.t T.nilS,V.t T.nilS])] [(20,true)] (qs (vj h (fun x_=>aW [(1,vI part),(3,V.tp (bM p)),(6,V.ref 20 0),(29,vB x_)] [(20,E.cells [V.t T.nilS,V.t T.nilS])] [20]) (fun j1 h=> ?_) (fun x5 h=> ?_)))
 ·
  obtain⟨x2,hx2,h⟩:=bd h
  refine aS h (fun c1 h=> ?_) (fun c1 h=> ?_)
  ·obtain⟨x3,hx3,h⟩:=bd h
   refine aS h (fun c2 h=> ?_) (fun c2 h=> ?_)
   ·refine aS h (fun c3 h=> ?_) (fun c3 h=> ?_)
    ·exact rk hC ([oV (bH G hx2)]++rF 3 c1++[oV (cD G hx3),oF c1,oF c1]++rF 3 c2++rF 5 c3++[oF c2,oF c3,oF c2]) (fr 10 20) [(29,vB false)] [] [] (lE h)
    ·obtain⟨x4,hx4,h⟩:=bd h
     exact rk hC ([oV (bH G hx2)]++rF 3 c1++[oV (cD G hx3),oF c1,oF c1]++rF 3 c2++rT 4 c3++[oV (oM G hx4),oT c3,oF c2,oT c3,oF c2]) (fr 10 20) [(29,vB (!x4))] [] [] (lE h)
   ·exact rk hC ([oV (bH G hx2)]++rF 3 c1++[oV (cD G hx3),oF c1,oF c1]++rT 5 c2) (fr 10 20) [(29,vB true)] [] [] (lE h)
  ·exact rk hC ([oV (bH G hx2)]++rT 5 c1++sT 5) (fr 10 20) [(29,vB true)] [] [] (lE h)
 ·refine aR h (fun c4 h=> ?_) (fun c4 h=> ?_)
  ·obtain rfl:=so h
   exact rq hC [] [7,8,30] [(7,V.t T.nilP),(8,vB false)] [(20,sc [V.t T.nilS,V.t T.nilS])] [] (qr eR)
  ·obtain⟨x6,hx6,x7,hx7,h⟩:=dC h
   obtain rfl:=so h
   cases hr
theorem wL{t}{from_a1}{to_a2}{r}(h:fW n t from_a1 to_a2=some r):PQ G 198 [V.tp [T.sl (List.map aH t.program.arrays),T.sl (List.map aC t.program.parts),T.sl (List.map aQ t.list),T.sl (List.map (rL rI) t.reads),T.sl (List.map rI t.writes)],vI from_a1,vI to_a2] (vI r):=by
 unfold fW at h
 refine pq aN Tryz.func198 rfl fun w X hC=> ?_
 refine rq hC [] [6] [] [] [] (rq hC [] [7] [(7,vI 0)] [] [] (vj h (fun x_=>aW [(0,V.tp [T.sl (List.map aH t.program.arrays),T.sl (List.map aC t.program.parts),T.sl (List.map aQ t.list),T.sl (List.map (rL rI) t.reads),T.sl (List.map rI t.writes)]),(1,vI from_a1),(2,vI to_a2),(7,vI x_)] [] []) (fun j1 h=> ?_) (fun x5 h=> ?_)))
 ·
  refine qs ?_
  obtain⟨x2,hx2,x3,hx3,x4,hx4,h⟩:=kV h
  refine dk hC bF [oR (rL rI) hx2,oR rI hx3,oV (qR G hx4)] (fr 8 15) [(22,vB x4)] [] [] (aR h (fun c1 h=> ?_) (fun c1 h=> ?_))
  ·exact rk hC [] [7,23,24] [(7,vI (wr (0+1)))] [] [] (lE h)
  ·exact qk (lE h)
 ·refine vj h (fun x_=>aW [(0,V.tp [T.sl (List.map aH t.program.arrays),T.sl (List.map aC t.program.parts),T.sl (List.map aQ t.list),T.sl (List.map (rL rI) t.reads),T.sl (List.map rI t.writes)]),(1,vI from_a1),(2,vI to_a2),(7,vI x_)] [] []) (fun j6 h=> ?_) (fun x10 h=> ?_)
  ·
   refine qs ?_
   obtain⟨x7,hx7,x8,hx8,x9,hx9,h⟩:=kV h
   refine dk hC bF [oR (rL rI) hx7,oR rI hx8,oV (qR G hx9)] (fr 25 15) [(39,vB x9)] [] [] (aR h (fun c2 h=> ?_) (fun c2 h=> ?_))
   ·exact rk hC [] [7,40,41] [(7,vI (wr (x5+2)))] [] [] (lE h)
   ·exact qk (lE h)
  ·refine vj h (fun x_=>aW [(7,vI x_)] [] []) (fun j11 h=> ?_) (fun x14 h=> ?_)
   ·
    refine qs ?_
    obtain⟨x12,hx12,x13,hx13,h⟩:=dC h
    refine dk hC bF [oR rI hx12,oR rI hx13] (fr 42 15) [(56,vB (decide (x12=x13)))] [] [] (aR h (fun c3 h=> ?_) (fun c3 h=> ?_))
    ·exact rk hC [] [7,57,58] [(7,vI (wr (x10+4)))] [] [] (lE h)
    ·exact qk (lE h)
   ·obtain rfl:=so h
    exact rq hC [] [6,59] [(6,vI x14)] [] [] (qr eR)
theorem D3{t}{r}(h:jF n t=some r):VQ G 104 [] [V.tp [T.sl (List.map aH t.program.arrays),T.sl (List.map aC t.program.parts),T.sl (List.map aQ t.list),T.sl (List.map (rL rI) t.reads),T.sl (List.map rI t.writes)]] (ms 0 1 3 dD r) [ar 136 1 3 dD r]:=by
 unfold jF at h
 refine vq aN Tryz.func104 rfl fun w X β0 hC hg=> ?_
 refine rq hC [] [2] [] [] [] (rq hC [] [3] [(3,V.t T.nilS)] [] [] (qs (rq hC [oN aQ t.list] (fr 7 6) [(11,vI (t.list.length:Int)),(12,vI 0)] [] [] (qb (qw (lk hC [.grow 3 20 136] [3] [(3,ms 20 1 3 dD [])] [(20,some (ar 136 1 3 dD []))] [(20,true)]) ?_)))))
 refine bA (γ:=Nat) h (fun x_ g_=>aW [(0,V.tp [T.sl (List.map aH t.program.arrays),T.sl (List.map aC t.program.parts),T.sl (List.map aQ t.list),T.sl (List.map (rL rI) t.reads),T.sl (List.map rI t.writes)]),(3,ms 20 g_ 3 dD x_.1),(11,vI (t.list.length:Int)),(12,vI x_.2)] [(20,ar 136 g_ 3 dD x_.1)] [20]) 1 (lS) ?_
 rintro again4 ⟨x1,x2⟩ g3 h
 refine rq hC [] [13] [(13,vB (decide (x2<(t.list.length:Int))))] [] [] (qs (aR h (fun c1 h=> ?_) (fun c1 h=> ?_)))
 ·refine qk (qs (qb (rq hC [] [4,14] [(4,vI x2)] [] [] (rq hC [] [5,15,16] [(5,vI (wr (x2+1)))] [] [] (qb (bA (γ:=Nat) h (fun x_ g_=>aW [(0,V.tp [T.sl (List.map aH t.program.arrays),T.sl (List.map aC t.program.parts),T.sl (List.map aQ t.list),T.sl (List.map (rL rI) t.reads),T.sl (List.map rI t.writes)]),(3,ms 20 g_ 3 dD x_.1),(4,vI x2),(5,vI x_.2),(11,vI (t.list.length:Int)),(12,vI x2)] [(20,ar 136 g_ 3 dD x_.1)] [20]) g3 (lS) ?_))))))
  rintro again8 ⟨x5,x6⟩ g7 h
  refine qs (rq hC [oN aQ t.list] (fr 17 7) [(23,vB (decide (x6<(t.list.length:Int))))] [] [] (aR h (fun c2 h=> ?_) (fun c2 h=> ?_)))
  ·refine qk ?_
   obtain⟨j9,hj9,h⟩:=C4 h
   refine lB (γ:=Nat) (j:=j9) (r:=r) (fun x_ g_=>aW [(0,V.tp [T.sl (List.map aH t.program.arrays),T.sl (List.map aC t.program.parts),T.sl (List.map aQ t.list),T.sl (List.map (rL rI) t.reads),T.sl (List.map rI t.writes)]),(3,ms 20 g_ 3 dD x_),(4,vI x2),(5,vI x6),(11,vI (t.list.length:Int)),(12,vI x2)] [(20,ar 136 g_ 3 dD x_)] [20]) ?_ ?_
   ·
    refine qb ?_
    obtain⟨x10,hx10,h⟩:=bd h
    refine rq hC [oV (wL G hx10)] [6,26,27,28,29] [(6,vI x10)] [] [] (rq hC [] [30,31] [(31,vB (decide ((0:Int)<x10)))] [] [] (aR h (fun c3 h=> ?_) (fun c3 h=> ?_)))
    ·obtain⟨x11,hx11,h⟩:=bd h
     exact rk hC [.z (.int 0),oA (aP dD hx11),oQ (bX (r:=dD) 3 w8 x5),oQ (bX (r:=dD) 3 w8 [(⟨x2,x6,x10⟩:Dep)])] [3,32,33,34,35,36,37,38] [(3,ms 20 (g7+1) 3 dD x11)] [(20,some (ar 136 (g7+1) 3 dD x11))] [] ⟨x11,(g7+1),h,lS⟩
    ·exact qk ⟨x5,g7,h,lS⟩
   ·rintro x12 g13 h
    subst hj9
    exact rk hC [] [5,24,25] [(5,vI (wr (x6+1)))] [] [] ⟨(x12,wr (x6+1)),g13,h,lS⟩
  ·exact cN (rk hC [] [12,39] [(12,vI (wr (x2+1)))] [] [] ⟨(x5,wr (x2+1)),g7,h,lS⟩)
 ·obtain rfl:=so h
  exact cN (rq hC [] [2,40] [(2,ms 20 g3 3 dD x1)] [] [] (qw (lk hC [.ren 2 20 0] [2] [(2,ms 0 1 3 dD x1)] [(0,some (ar 136 1 3 dD x1)),(20,none)] [(0,true)]) (qr eW)))
theorem pA{x}{r}(h:gF n x=some r):PQ G 318 [vI x] (vB r):=by
 unfold gF at h
 refine pq aN Tryz.func318 rfl fun w X hC=> ?_
 obtain rfl:=so h
 exact rq hC [] [2] [] [] [] (rq hC [] (fr 2 4) [(2,vB (!decide (x=x)))] [] [] (qr eR))
theorem uO{x}{y}{r}(h:eV n x y=some r):PQ G 269 [vI x,vI y] (vI r):=by
 unfold eV at h
 refine pq aN Tryz.func269 rfl fun w X hC=> ?_
 refine rq hC [] [4] [] [] [] ?_
 obtain⟨x1,hx1,h⟩:=bd h
 refine rq hC [oV (pA G hx1)] [5,7,8] [(5,vB x1)] [] [] ?_
 obtain⟨x2,hx2,h⟩:=bd h
 refine rq hC [oV (pA G hx2)] [6,9,10] [(6,vB x2)] [] [] (qs (rq hC [] [11] [(11,vB x1)] [] [] (aR h (fun c1 h=> ?_) (fun c1 h=> ?_))))
 ·refine qs (rq hC [] [12] [(12,vB x2)] [] [] (aR h (fun c2 h=> ?_) (fun c2 h=> ?_)))
  ·obtain rfl:=so h
   exact rq hC [] [4] [(4,vI 0)] [] [] (qr eR)
  ·obtain rfl:=so h
   exact qk (rq hC [] [4] [(4,vI (-1))] [] [] (qr eR))
 ·refine qk (qs (rq hC [] [13] [(13,vB x2)] [] [] (aR h (fun c3 h=> ?_) (fun c3 h=> ?_))))
  ·obtain rfl:=so h
   exact rq hC [] [4] [(4,vI 1)] [] [] (qr eR)
  ·refine qk (qs (rq hC [] [14,15,16] [(16,vB (decide (x<y)))] [] [] (aR h (fun c4 h=> ?_) (fun c4 h=> ?_))))
   ·obtain rfl:=so h
    exact rq hC [] [4] [(4,vI (-1))] [] [] (qr eR)
   ·refine qk (qs (rq hC [] [17,18,19] [(19,vB (decide (y<x)))] [] [] (aR h (fun c5 h=> ?_) (fun c5 h=> ?_))))
    ·obtain rfl:=so h
     exact rq hC [] [4] [(4,vI 1)] [] [] (qr eR)
    ·obtain rfl:=so h
     exact qk (rq hC [] [4] [(4,vI 0)] [] [] (qr eR))
theorem D2{s1}{s2}{r}(h:l3 n s1 s2=some r):PQ G 199 [vM rI s1,vM rI s2] (vI r):=by
 unfold l3 at h
 refine pq aN Tryz.func199 rfl fun w X hC=> ?_
 refine rq hC [] [4] [] [] [] (qs (rq hC [oN rI s1] [9,10,11] [(9,vM rI s1),(10,vI (s1.length:Int)),(11,vI 0)] [] [] (qb (i8 h (fun x_=>aW [(0,vM rI s1),(1,vM rI s2),(9,vM rI s1),(10,vI (s1.length:Int)),(11,vI x_)] [] []) lS ?_))))
 rintro again2 x1 h
 refine rq hC [] [12] [(12,vB (decide (x1<(s1.length:Int))))] [] [] (qs (aR h (fun c1 h=> ?_) (fun c1 h=> ?_)))
 ·refine qk (qs (qb ?_))
  obtain⟨x3,hx3,h⟩:=bd h
  refine rq hC [oR rI hx3] [5,6,13,14,15] [(5,vI x1),(6,vI x3)] [] [] (qs (rq hC [oN rI s2] (fr 16 4) [(19,vB (decide ((s2.length:Int)≤x1)))] [] [] (aR h (fun c2 h=> ?_) (fun c2 h=> ?_))))
  ·obtain rfl:=so h
   exact rq hC [] [4] [(4,vI 1)] [] [] (qr eR)
  ·refine qk ?_
   obtain⟨x4,hx4,h⟩:=bd h
   refine rq hC [oR rI hx4] [7,20,21,22,23] [(7,vI x4)] [] [] ?_
   obtain⟨x5,hx5,h⟩:=bd h
   refine rq hC [oV (uO G hx5)] [8,24,25,26] [(8,vI x5)] [] [] (rq hC [] [27,28] [(28,vB (!decide (x5=0)))] [] [] (aR h (fun c3 h=> ?_) (fun c3 h=> ?_)))
   ·obtain rfl:=so h
    exact rq hC [] [4,29] [(4,vI x5)] [] [] (qr eR)
   ·exact qk (rk hC [] [11,30] [(11,vI (wr (x1+1)))] [] [] (lE h))
 ·refine cN (qs (rq hC [oN rI s1,oN rI s2] (fr 31 5) [(35,vB (decide ((s1.length:Int)<(s2.length:Int))))] [] [] (aR h (fun c4 h=> ?_) (fun c4 h=> ?_))))
  ·obtain rfl:=so h
   exact rq hC [] [4] [(4,vI (-1))] [] [] (qr eR)
  ·obtain rfl:=so h
   exact qk (rq hC [] [4] [(4,vI 0)] [] [] (qr eR))
theorem aCl{p}{q}{r}(h:qH n p q=some r):PQ G 105 [vM rI p,vM rI q] (vB r):=by
 unfold qH at h
 refine pq aN Tryz.func105 rfl fun w X hC=> ?_
 refine rq hC [] [4] [] [] [] ?_
 obtain⟨x1,hx1,h⟩:=bd h
 obtain rfl:=so h
 exact rq hC [oV (D2 G hx1)] (fr 4 5) [(4,vB (decide (x1<0)))] [] [] (qr eR)
theorem aID{α:Type}{l:List α}{i:Int}{x y:α}(h:ix l i=some x)(k:ix l (wr (i+1))=some y):0+Int.toNat (wr (i+1))≠0+Int.toNat i:=by
 have h1:=(mZ h).1
 have h2:=(mZ k).1
 have e:wr (i+1)=_:=IntKind.wrap_i64 (i+1)
 rw [e] at h2⊢
 omega
def ndR:List Nd:=[⟨46,2,[]⟩]
theorem S9{p}{part}{r}(h:mH n p part=some r):PQ G 32 [V.agg (bD p),vI part] (V.tup [V.agg (bD r.1),vB r.2]):=by
 unfold mH at h
 refine pq aN Tryz.func32 rfl fun w X hC=> ?_
 refine rq hC [.z (.b (true)),.z (.nat 20)] [2,4,5] [(2,V.tp (bM p)),(4,V.ref 20 0)] [(20,sc [V.t T.nilS,V.t T.nilS])] [(20,true)] (qs ?_)
 obtain⟨x1,hx1,h⟩:=bd h
 refine wV x1.2 (fun c1=> ?_) (fun c1=> ?_)
 ·have h:=bf c1 h
  refine rk hC [oV (aCk G n p part (-1) hx1 c1),.z (.nat 21)] [6,7,8,15,16,17,18,19,20,21] [(6,V.ref 21 0),(7,V.t T.nilP),(8,vB false)] [(21,sc [vM aH [],vM aC []])] [(21,true)] (qs (qs (dk hC bF (sT 21) (fr 22 25) [(46,vB true)] [] [] (G2 (b:=true) (by kernel_rfl) (fun c2=> ?_) (fun c2=>by cases c2)))))
  obtain rfl:=so h
  exact rq hC [] [5,47] [(5,vB false)] [(20,sc [V.t T.nilS,V.t T.nilS])] [] (qr eR)
 have h:=bt c1 h
 obtain⟨x17,hx17,h⟩:=bd h
 refine rk hC [oC [] [21,22] (aCj G n p part (-1) hx1 c1),.z (.nat 23)] [6,7,8,15,16,17,18,19,20,21] [(6,V.ref 23 0),(7,V.eref 22 1 2 (0+Int.toNat part) 0),(8,vB true)] [(21,some (ar 90 1 2 aH x1.1.arrays)),(22,some (E.tree sM 0 1 (List.map aC x1.1.parts) [])),(23,sc [ms 21 1 2 aH x1.1.arrays,ms 22 1 2 aC x1.1.parts])] [(21,true),(22,true),(23,true)] (qw (lpP hC [.foc 22 24 (0+Int.toNat part) 1 (aC x17),.shd 24,.tre 22 ndR 0] [] [] [(22,some (E.tree ndR 0 1 (List.map aC x1.1.parts) [((0+Int.toNat part),1,ms 24 1 9 aI x17.body)])),(24,some (ar 84 1 9 aI x17.body))] [(24,true)] (a1 (V5 aC hx17)) (by kernel_rfl)) (qs (vj h (fun x_=>aW [(1,vI part),(2,V.tp (bM p)),(4,V.ref 20 0),(6,V.ref 23 0),(7,V.eref 22 1 2 (0+Int.toNat part) 0),(46,vB x_)] [(20,E.cells [V.t T.nilS,V.t T.nilS]),(21,ar 90 1 2 aH x1.1.arrays),(22,E.tree ndR 0 1 (List.map aC x1.1.parts) [((0+Int.toNat part),1,ms 24 1 9 aI x17.body)]),(23,E.cells [ms 21 1 2 aH x1.1.arrays,ms 22 1 2 aC x1.1.parts]),(24,ar 84 1 9 aI x17.body)] [20,21,22,23,24]) (fun j2 h=> ?_) (fun x5 h=> ?_))))
 ·
  refine aS h (fun c2 h=> ?_) (fun c2 h=> ?_)
  ·obtain⟨x3,hx3,x4,hx4,h⟩:=dC h
   exact dk hC bF (sF 5++[oN aC p.parts,eF,eF]++rF 4 c2++[oX aC hx17]++rF 5 c2++[oR aC hx3]++rF 3 c2++[oV (rV G hx4),oF c2,oF c2]) (fr 22 25) [(46,vB (!x4))] [] [] (lE h)
  ·exact dk hC bF (sF 5++[oN aC p.parts,eF,eF]++rT 14 c2) (fr 22 25) [(46,vB true)] [] [] (lE h)
 ·refine aR h (fun c3 h=> ?_) (fun c3 h=> ?_)
  ·obtain rfl:=so h
   exact rq hC [] [5,47] [(5,vB false)] [(20,sc [V.t T.nilS,V.t T.nilS])] [] (qr eR)
  ·refine qk (qs ?_)
   obtain⟨x6,hx6,h⟩:=bd h
   refine aS h (fun c4 h=> ?_) (fun c4 h=> ?_)
   ·exact rk hC [.z (.v (V.tup [V.t T.nilP,vB x6.2])),oQ (vPn c4 (X5 G hx6))] [9,10,48,49,50,51,52] [(9,V.t T.nilP)] [] [] (qs (qs (nof h)))
   ·refine rk hC [.z (.v (V.tup [V.tp [T.sl (List.map aH (((x6.1.getD default).program).arrays)),T.sl (List.map aC (((x6.1.getD default).program).parts)),T.sl (List.map aQ ((x6.1.getD default).list)),T.sl (List.map (rL rI) ((x6.1.getD default).reads)),T.sl (List.map rI ((x6.1.getD default).writes))],vB x6.2])),oQ (vPs c4 (X5 G hx6))] [9,10,48,49,50,51,52] [(9,V.tp [T.sl (List.map aH (((x6.1.getD default).program).arrays)),T.sl (List.map aC (((x6.1.getD default).program).parts)),T.sl (List.map aQ ((x6.1.getD default).list)),T.sl (List.map (rL rI) ((x6.1.getD default).reads)),T.sl (List.map rI ((x6.1.getD default).writes))])] [] [] (qs ?_)
    obtain⟨x7,hx7,h⟩:=bd h
    refine rq hC [oC [] [25] (D3 G hx7),oN dD x7] (fr 53 4) [(54,ms 25 1 3 dD x7),(55,vI (x7.length:Int)),(56,vI 0)] [(25,some (ar 136 1 3 dD x7))] [(25,true)] (qb (i8 h (fun x_=>aW [(1,vI part),(4,V.ref 20 0),(6,V.ref 23 0),(7,V.eref 22 1 2 (0+Int.toNat part) 0),(9,V.tp [T.sl (List.map aH (((x6.1.getD default).program).arrays)),T.sl (List.map aC (((x6.1.getD default).program).parts)),T.sl (List.map aQ ((x6.1.getD default).list)),T.sl (List.map (rL rI) ((x6.1.getD default).reads)),T.sl (List.map rI ((x6.1.getD default).writes))]),(54,ms 25 1 3 dD x7),(55,vI (x7.length:Int)),(56,vI x_)] [(20,E.cells [V.t T.nilS,V.t T.nilS]),(21,ar 90 1 2 aH x1.1.arrays),(22,E.tree ndR 0 1 (List.map aC x1.1.parts) [((0+Int.toNat part),1,ms 24 1 9 aI x17.body)]),(23,E.cells [ms 21 1 2 aH x1.1.arrays,ms 22 1 2 aC x1.1.parts]),(24,ar 84 1 9 aI x17.body),(25,ar 136 1 3 dD x7)] [20,21,22,23,24,25]) lS ?_))
    rintro again9 x8 h
    refine rq hC [] [57] [(57,vB (decide (x8<(x7.length:Int))))] [] [] (qs (aR h (fun c5 h=> ?_) (fun c5 h=> ?_)))
    ·refine qk (qs (qb ?_))
     obtain⟨x10,hx10,h⟩:=bd h
     refine rq hC [oQ (mM dD hx10),oX dD hx10,.z (.nat 26)] [12,58,59] [(12,V.ref 26 0)] [(26,sc [vI x10.fromF,vI x10.toF,vI x10.kinds])] [(26,true)] (qs ?_)
     obtain⟨x11,hx11,x12,hx12,h⟩:=dC h
     refine dk hC bF [oR aQ hx11,oR aQ hx12,.z (.nat 27),.z (.nat 28)] [13,14,60,61,62,63,64,65,66,67,68,69,70,71,72,73,74,75] [(13,V.ref 27 0),(14,V.ref 28 0)] [(27,some (E.cells (qU x11))),(28,some (E.cells (qU x12)))] [(27,true),(28,true)] (vj h (fun x_=>aW [(1,vI part),(4,V.ref 20 0),(6,V.ref 23 0),(7,V.eref 22 1 2 (0+Int.toNat part) 0),(9,V.tp [T.sl (List.map aH (((x6.1.getD default).program).arrays)),T.sl (List.map aC (((x6.1.getD default).program).parts)),T.sl (List.map aQ ((x6.1.getD default).list)),T.sl (List.map (rL rI) ((x6.1.getD default).reads)),T.sl (List.map rI ((x6.1.getD default).writes))]),(54,ms 25 1 3 dD x7),(55,vI (x7.length:Int)),(56,vI x8),(93,vB x_)] [(20,E.cells [V.t T.nilS,V.t T.nilS]),(21,ar 90 1 2 aH x1.1.arrays),(22,E.tree ndR 0 1 (List.map aC x1.1.parts) [((0+Int.toNat part),1,ms 24 1 9 aI x17.body)]),(23,E.cells [ms 21 1 2 aH x1.1.arrays,ms 22 1 2 aC x1.1.parts]),(24,ar 84 1 9 aI x17.body),(25,ar 136 1 3 dD x7),(26,E.cells [vI x10.fromF,vI x10.toF,vI x10.kinds]),(27,E.cells (qU x11)),(28,E.cells (qU x12))] [20,21,22,23,24,25,26,27,28]) (fun j13 h=> ?_) (fun x15 h=> ?_))
     ·
      refine aS h (fun c6 h=> ?_) (fun c6 h=> ?_)
      ·exact rk hC (rF 6 c6++sF 6) (fr 76 18) [(93,vB false)] [] [] (lE h)
      ·refine aS h (fun c7 h=> ?_) (fun c7 h=> ?_)
       ·exact rk hC (rT 6 c6++rF 6 c7) (fr 76 18) [(93,vB false)] [] [] (lE h)
       ·obtain⟨x14,hx14,h⟩:=bd h
        exact rk hC (rT 6 c6++rT 5 c7++[oV (aCl G hx14),oT c7]) (fr 76 18) [(93,vB x14)] [] [] (lE h)
     ·refine aR h (fun c8 h=> ?_) (fun c8 h=> ?_)
      ·obtain rfl:=so h
       exact rq hC [] [5,94] [(5,vB false)] [(20,sc [V.t T.nilS,V.t T.nilS])] [] (qr eR)
      ·exact qk (rk hC [] [56,95] [(56,vI (wr (x8+1)))] [] [] (lE h))
    ·refine cN (qs ?_)
     obtain⟨x16,hx16,x18,hx18,x19,hx19,h⟩:=kV h
     obtain⟨x20,hx20,x21,hx21,h⟩:=dC h
     have hne:0+Int.toNat (wr (part+1))≠0+Int.toNat part:=aID hx17 hx16
     obtain rfl:=so h
     exact dk hC bF [oX aC hx17,.z (.nat 0),oQ (mM aC hx16),oX aC hx16,oQ hne,oA (aP aI hx18),oQ (bX (r:=aI) 9 cI x17.body),oQ (bX (r:=aI) 9 cI x16.body),oX aC hx17] (fr 96 15) [] [(24,some (ar 84 (1+1) 9 aI x18)),(22,some (E.tree ndR 0 1 (List.map aC x1.1.parts) [((0+Int.toNat part),1,ms 24 (1+1) 9 aI x18)]))] [] (qw (lpP hC [.frzc 22 0 24,.unt 22 (aC x17) (List.map aC x19),.shd 22,.lenc 23 1 (List.map aC x19).length] [] [] [(24,none),(22,some (ar 46 1 2 aC x19)),(23,sc [ms 21 1 2 aH x1.1.arrays,ms 22 1 2 aC x19])] [] (a3 (V5 aC hx17) (aER aC hx19 rfl) (uN aC hx19)) (by kernel_rfl)) (rq hC [oC [22] [] (D1 G 1 hx20),.z (.cut 22 x20.1 (List.map aC (x20.2.take x20.1))),oQ (aLw aC x20.2 x20.1)] (fr 111 8) [] [(22,some (ar 46 1 2 aC (x20.2.take x20.1))),(23,sc [ms 21 1 2 aH x1.1.arrays,ms 22 1 2 aC (x20.2.take x20.1)])] [(22,true)] (qw (lk hC [.fz 21 [] [23],.fz 22 [] [23]] [] [] [(21,none),(22,none),(23,sc [vM aH x1.1.arrays,vM aC (x20.2.take x20.1)])] []) (rq hC [oV (aAN G hx21)] [5,119,120,121,122] [(5,vB x21.2)] [(20,some (E.cells (bD x21.1)))] [] (qr eR)))))
theorem aDP{a}{b}{r}(h:tE n a b=some r):PQ G 319 [vM rI a,vM rI b] (vB r):=by
 unfold tE at h
 refine pq aN Tryz.func319 rfl fun w X hC=> ?_
 refine rq hC [] [4] [] [] [] (qs (rq hC [oN rI a,oN rI b] (fr 6 5) [(10,vB (!decide ((a.length:Int)=(b.length:Int))))] [] [] (aR h (fun c1 h=> ?_) (fun c1 h=> ?_))))
 ·obtain rfl:=so h
  exact rq hC [] [4] [(4,vB false)] [] [] (qr eR)
 ·refine qk (qs (rq hC [] [5] [(5,vI 0)] [] [] (qb (i8 h (fun x_=>aW [(0,vM rI a),(1,vM rI b),(5,vI x_)] [] []) lS ?_))))
  rintro again2 x1 h
  refine qs (rq hC [oN rI a] (fr 11 4) [(14,vB (decide (x1<(a.length:Int))))] [] [] (aR h (fun c2 h=> ?_) (fun c2 h=> ?_)))
  ·refine qk (qs (qb (qs ?_)))
   obtain⟨x3,hx3,x4,hx4,h⟩:=dC h
   refine dk hC bF [oR rI hx3,oR rI hx4] (fr 17 9) [(25,vB (!decide (x3=x4)))] [] [] (aR h (fun c3 h=> ?_) (fun c3 h=> ?_))
   ·obtain rfl:=so h
    exact rq hC [] [4] [(4,vB false)] [] [] (qr eR)
   ·exact qk (rk hC [] [5,15,16] [(5,vI (wr (x1+1)))] [] [] (lE h))
  ·obtain rfl:=so h
   exact cN (rq hC [] [4] [(4,vB true)] [] [] (qr eR))
theorem P7{a}{b}{r}(h:iN n a b=some r):PQ G 270 [V.agg (aT a),V.agg (aT b)] (vB r):=by
 unfold iN at h
 refine pq aN Tryz.func270 rfl fun w X hC=> ?_
 refine rq hC [.z (.b (true)),.z (.b (true))] [2,3,4] [(2,V.tp (bK a)),(3,V.tp (bK b))] [] [] (vj h (fun x_=>aW [(4,vB x_)] [] []) (fun j1 h=> ?_) (fun x3 h=> ?_))
 ·
  refine aS h (fun c1 h=> ?_) (fun c1 h=> ?_)
  ·exact rk hC (rF 6 c1) (fr 4 13) [(4,vB false)] [] [] (lE h)
  ·obtain⟨x2,hx2,h⟩:=bd h
   exact rk hC (rT 5 c1++[oV (aDP G hx2),oT c1]) (fr 4 13) [(4,vB x2)] [] [] (lE h)
 ·obtain rfl:=so h
  exact qr eR
theorem oJ{a}{b}{r}(h:iL n a b=some r):PQ G 200 [vM aB a,vM aB b] (vB r):=by
 unfold iL at h
 refine pq aN Tryz.func200 rfl fun w X hC=> ?_
 refine rq hC [] [4] [] [] [] (qs (rq hC [oN aB a,oN aB b] (fr 6 5) [(10,vB (!decide ((a.length:Int)=(b.length:Int))))] [] [] (aR h (fun c1 h=> ?_) (fun c1 h=> ?_))))
 ·obtain rfl:=so h
  exact rq hC [] [4] [(4,vB false)] [] [] (qr eR)
 ·refine qk (qs (rq hC [] [5] [(5,vI 0)] [] [] (qb (i8 h (fun x_=>aW [(0,vM aB a),(1,vM aB b),(5,vI x_)] [] []) lS ?_))))
  rintro again2 x1 h
  refine qs (rq hC [oN aB a] (fr 11 4) [(14,vB (decide (x1<(a.length:Int))))] [] [] (aR h (fun c2 h=> ?_) (fun c2 h=> ?_)))
  ·refine qk (qs (qb (qs ?_)))
   obtain⟨x3,hx3,x4,hx4,x5,hx5,h⟩:=kV h
   refine dk hC bF [oR aB hx3,oR aB hx4,oV (P7 G hx5)] (fr 17 10) [(26,vB (!x5))] [] [] (aR h (fun c3 h=> ?_) (fun c3 h=> ?_))
   ·obtain rfl:=so h
    exact rq hC [] [4] [(4,vB false)] [] [] (qr eR)
   ·exact qk (rk hC [] [5,15,16] [(5,vI (wr (x1+1)))] [] [] (lE h))
  ·obtain rfl:=so h
   exact cN (rq hC [] [4] [(4,vB true)] [] [] (qr eR))
theorem aAM{a}{b}{r}(h:nW n a b=some r):PQ G 106 [vM aD a,vM aD b] (vB r):=by
 unfold nW at h
 refine pq aN Tryz.func106 rfl fun w X hC=> ?_
 refine rq hC [] [4] [] [] [] (qs (rq hC [oN aD a,oN aD b] (fr 6 5) [(10,vB (!decide ((a.length:Int)=(b.length:Int))))] [] [] (aR h (fun c1 h=> ?_) (fun c1 h=> ?_))))
 ·obtain rfl:=so h
  exact rq hC [] [4] [(4,vB false)] [] [] (qr eR)
 ·refine qk (qs (rq hC [] [5] [(5,vI 0)] [] [] (qb (i8 h (fun x_=>aW [(0,vM aD a),(1,vM aD b),(5,vI x_)] [] []) lS ?_))))
  rintro again2 x1 h
  refine qs (rq hC [oN aD a] (fr 11 4) [(14,vB (decide (x1<(a.length:Int))))] [] [] (aR h (fun c2 h=> ?_) (fun c2 h=> ?_)))
  ·refine qk (qs (qb (vj h (fun x_=>aW [(0,vM aD a),(1,vM aD b),(5,vI x1),(42,vB x_)] [] []) (fun j3 h=> ?_) (fun x8 h=> ?_))))
   ·
    obtain⟨x4,hx4,x5,hx5,x6,hx6,h⟩:=kV h
    refine aS h (fun c3 h=> ?_) (fun c3 h=> ?_)
    ·obtain⟨x7,hx7,h⟩:=bd h
     exact dk hC bF ([oR aD hx4,oR aD hx5,oV (oJ G hx6)]++rF 3 c3++[oR aD hx4]++rF 5 c3++[oR aD hx5]++rF 3 c3++[oV (oJ G hx7),oF c3,oF c3]) (fr 17 26) [(42,vB (!x7))] [] [] (lE h)
    ·exact dk hC bF ([oR aD hx4,oR aD hx5,oV (oJ G hx6)]++rT 13 c3) (fr 17 26) [(42,vB true)] [] [] (lE h)
   ·refine aR h (fun c4 h=> ?_) (fun c4 h=> ?_)
    ·obtain rfl:=so h
     exact rq hC [] [4] [(4,vB false)] [] [] (qr eR)
    ·exact qk (rk hC [] [5,15,16] [(5,vI (wr (x1+1)))] [] [] (lE h))
  ·obtain rfl:=so h
   exact cN (rq hC [] [4] [(4,vB true)] [] [] (qr eR))
theorem aB0{a}{b}{r}(h:pS n a b=some r):PQ G 201 [V.agg [vM rI a.reads,vI a.write],V.agg [vM rI b.reads,vI b.write]] (vI r):=by
 unfold pS at h
 refine pq aN Tryz.func201 rfl fun w X hC=> ?_
 refine rq hC [.z (.b (true)),.z (.b (true))] [2,3,4] [(2,V.tp [T.sl (List.map rI a.reads),T.int .i64 a.write]),(3,V.tp [T.sl (List.map rI b.reads),T.int .i64 b.write])] [] [] (rq hC [] [5] [(5,vI 0)] [] [] (vj h (fun x_=>aW [(2,V.tp [T.sl (List.map rI a.reads),T.int .i64 a.write]),(3,V.tp [T.sl (List.map rI b.reads),T.int .i64 b.write]),(5,vI x_)] [] []) (fun j1 h=> ?_) (fun x3 h=> ?_)))
 ·
  obtain⟨x2,hx2,h⟩:=bd h
  refine rq hC [oV (X4 G hx2)] (fr 6 5) [(10,vB x2)] [] [] (aR h (fun c1 h=> ?_) (fun c1 h=> ?_))
  ·exact rk hC [] [5,11,12] [(5,vI (wr (0+1)))] [] [] (lE h)
  ·exact qk (lE h)
 ·refine vj h (fun x_=>aW [(2,V.tp [T.sl (List.map rI a.reads),T.int .i64 a.write]),(3,V.tp [T.sl (List.map rI b.reads),T.int .i64 b.write]),(5,vI x_)] [] []) (fun j4 h=> ?_) (fun x6 h=> ?_)
  ·
   obtain⟨x5,hx5,h⟩:=bd h
   refine rq hC [oV (X4 G hx5)] (fr 13 5) [(17,vB x5)] [] [] (aR h (fun c2 h=> ?_) (fun c2 h=> ?_))
   ·exact rk hC [] [5,18,19] [(5,vI (wr (x3+2)))] [] [] (lE h)
   ·exact qk (lE h)
  ·refine vj h (fun x_=>aW [(5,vI x_)] [] []) (fun j7 h=> ?_) (fun x8 h=> ?_)
   ·
    refine rq hC [] (fr 20 5) [(24,vB (decide (a.write=b.write)))] [] [] (aR h (fun c3 h=> ?_) (fun c3 h=> ?_))
    ·exact rk hC [] [5,25,26] [(5,vI (wr (x6+4)))] [] [] (lE h)
    ·exact qk (lE h)
   ·obtain rfl:=so h
    exact rq hC [] [4,27] [(4,vI x8)] [] [] (qr eR)
theorem aDD{p}{r}(h:sY n p=some r):VQ G 107 [] [V.agg (bD p)] (ms 0 1 3 dD r) [ar 136 1 3 dD r]:=by
 unfold sY at h
 refine vq aN Tryz.func107 rfl fun w X β0 hC hg=> ?_
 refine rq hC [.z (.b (true))] [1,2] [(1,V.tp (bM p))] [] [] (rq hC [.z (.nat 20)] [3,8] [(3,ms 20 1 3 dD [])] [(20,some (ar 136 1 3 dD []))] [(20,true)] ?_)
 obtain⟨x1,hx1,h⟩:=bd h
 refine rq hC [oC [] [21] (aDC G hx1)] [4,9,10] [(4,ms 21 1 2 cW x1)] [(21,some (ar 204 1 2 cW x1))] [(21,true)] (qs (rq hC [] [5] [(5,vI 0)] [] [] (qb (bA (γ:=Nat) h (fun x_ g_=>aW [(3,ms 20 g_ 3 dD x_.1),(4,ms 21 1 2 cW x1),(5,vI x_.2)] [(20,ar 136 g_ 3 dD x_.1),(21,ar 204 1 2 cW x1)] [20,21]) 1 (lS) ?_))))
 rintro again5 ⟨x2,x3⟩ g4 h
 refine qs (rq hC [oN cW x1] (fr 11 4) [(14,vB (decide (x3<(x1.length:Int))))] [] [] (aR h (fun c1 h=> ?_) (fun c1 h=> ?_)))
 ·refine qk (qs (qb (rq hC [] [6,17,18] [(6,vI (wr (x3+1)))] [] [] (qb (bA (γ:=Nat) h (fun x_ g_=>aW [(3,ms 20 g_ 3 dD x_.1),(4,ms 21 1 2 cW x1),(5,vI x3),(6,vI x_.2)] [(20,ar 136 g_ 3 dD x_.1),(21,ar 204 1 2 cW x1)] [20,21]) g4 (lS) ?_)))))
  rintro again9 ⟨x6,x7⟩ g8 h
  refine qs (rq hC [oN cW x1] (fr 19 4) [(22,vB (decide (x7<(x1.length:Int))))] [] [] (aR h (fun c2 h=> ?_) (fun c2 h=> ?_)))
  ·refine qk ?_
   obtain⟨j10,hj10,h⟩:=C4 h
   refine lB (γ:=Nat) (j:=j10) (r:=r) (fun x_ g_=>aW [(3,ms 20 g_ 3 dD x_),(4,ms 21 1 2 cW x1),(5,vI x3),(6,vI x7)] [(20,ar 136 g_ 3 dD x_),(21,ar 204 1 2 cW x1)] [20,21]) ?_ ?_
   ·
    refine qb (qs ?_)
    obtain⟨x11,hx11,x12,hx12,x13,hx13,h⟩:=kV h
    refine dk hC bF [oQ (mM cW hx11),oX cW hx11,oQ (mM cW hx12),oX cW hx12,oV (aB0 G hx13)] [7,25,26,27,28,29,30,31,32,33] [(7,vI x13)] [] [] (rq hC [] [34,35] [(35,vB (!decide (x13=0)))] [] [] (aR h (fun c3 h=> ?_) (fun c3 h=> ?_)))
    ·obtain⟨x14,hx14,h⟩:=bd h
     exact rk hC [.z (.int 0),oA (aP dD hx14),oQ (bX (r:=dD) 3 w8 x6),oQ (bX (r:=dD) 3 w8 [(⟨x3,x7,x13⟩:Dep)])] [3,36,37,38,39,40,41,42] [(3,ms 20 (g8+1) 3 dD x14)] [(20,some (ar 136 (g8+1) 3 dD x14))] [] ⟨x14,(g8+1),h,lS⟩
    ·exact qk ⟨x6,g8,h,lS⟩
   ·rintro x15 g16 h
    subst hj10
    exact rk hC [] [6,23,24] [(6,vI (wr (x7+1)))] [] [] ⟨(x15,wr (x7+1)),g16,h,lS⟩
  ·exact cN (rk hC [] [5,15,16] [(5,vI (wr (x3+1)))] [] [] ⟨(x6,wr (x3+1)),g8,h,lS⟩)
 ·obtain rfl:=so h
  exact cN (rq hC [] [2,43] [(2,ms 20 g4 3 dD x2)] [] [] (qw (lk hC [.ren 2 20 0] [2] [(2,ms 0 1 3 dD x2)] [(0,some (ar 136 1 3 dD x2)),(20,none)] [(0,true)]) (qr eW)))
theorem aCb{p}{q}{r}(h:pZ n p q=some r):PQ G 108 [vM rI p,vM rI q] (vB r):=by
 unfold pZ at h
 refine pq aN Tryz.func108 rfl fun w X hC=> ?_
 refine rq hC [] [4] [] [] [] (qs (rq hC [] [5] [(5,vI 0)] [] [] (qb (i8 h (fun x_=>aW [(0,vM rI p),(1,vM rI q),(5,vI x_)] [] []) lS ?_))))
 rintro again2 x1 h
 refine qs (vj h (fun x_=>aW [(0,vM rI p),(1,vM rI q),(5,vI x1),(15,vB x_)] [] []) (fun j3 h=> ?_) (fun x4 h=> ?_))
 ·
  refine aS h (fun c1 h=> ?_) (fun c1 h=> ?_)
  ·exact rk hC ([oN rI p]++rF 5 c1) (fr 6 10) [(15,vB false)] [] [] (lE h)
  ·exact rk hC ([oN rI p]++rT 3 c1++[oN rI q,oT c1,oT c1]) (fr 6 10) [(15,vB (decide (x1<(q.length:Int))))] [] [] (lE h)
 ·refine aR h (fun c2 h=> ?_) (fun c2 h=> ?_)
  ·refine qk (qs (qb (qs ?_)))
   obtain⟨x5,hx5,x6,hx6,h⟩:=dC h
   refine dk hC bF [oR rI hx5,oR rI hx6] (fr 18 9) [(26,vB (!decide (x5=x6)))] [] [] (aR h (fun c3 h=> ?_) (fun c3 h=> ?_))
   ·obtain rfl:=so h
    exact qs (dk hC bF [oR rI hx5,oR rI hx6] [4,27,28,29,30,31,32,33,34,35] [(4,vB (decide (x5<x6)))] [] [] (qr eR))
   ·exact qk (rk hC [] [5,16,17] [(5,vI (wr (x1+1)))] [] [] (lE h))
  ·obtain rfl:=so h
   exact cN (rq hC [oN rI p,oN rI q] [4,36,37,38,39,40] [(4,vB (decide ((p.length:Int)<(q.length:Int))))] [] [] (qr eR))
theorem S1{p}{part}{r}(h:mB n p part=some r):PQ G 33 [V.agg (bD p),vI part] (V.tup [V.agg (bD r.1),vB r.2]):=by
 unfold mB at h
 refine pq aN Tryz.func33 rfl fun w X hC=> ?_
 refine rq hC [.z (.nat 20),.z (.nat 21)] [2,4,5] [(2,V.ref 20 0),(4,V.ref 21 0)] [(20,some (E.cells (bD p))),(21,sc [V.t T.nilS,V.t T.nilS])] [(20,true),(21,true)] ?_
 obtain⟨x1,hx1,h⟩:=bd h
 refine rq hC [oV (yC G hx1)] [12,13] [] [(20,some (E.cells (bD x1)))] [] (qs (vj h (fun x_=>aW [(1,vI part),(2,V.ref 20 0),(4,V.ref 21 0),(45,vB x_)] [(20,E.cells (bD x1)),(21,E.cells [V.t T.nilS,V.t T.nilS])] [20,21]) (fun j2 h=> ?_) (fun x7 h=> ?_)))
 ·
  obtain⟨x3,hx3,h⟩:=bd h
  refine aS h (fun c1 h=> ?_) (fun c1 h=> ?_)
  ·refine aS h (fun c2 h=> ?_) (fun c2 h=> ?_)
   ·refine aS h (fun c3 h=> ?_) (fun c3 h=> ?_)
    ·obtain⟨x4,hx4,x5,hx5,x6,hx6,h⟩:=kV h
     exact dk hC bF ([oV (dN G hx3)]++rF 3 c1++rF 4 c2++[oN aC x1.parts]++rF 3 c2++rF 4 c3++[oR aC hx4]++rF 7 c3++[oR aC hx5]++rF 3 c3++[oV (aAM G hx6),oF c3,oF c3]) (fr 14 32) [(45,vB (!x6))] [] [] (lE h)
    ·exact dk hC bF ([oV (dN G hx3)]++rF 3 c1++rF 4 c2++[oN aC x1.parts]++rF 3 c2++rT 16 c3) (fr 14 32) [(45,vB true)] [] [] (lE h)
   ·exact dk hC bF ([oV (dN G hx3)]++rF 3 c1++rT 7 c2++sT 16) (fr 14 32) [(45,vB true)] [] [] (lE h)
  ·exact dk hC bF ([oV (dN G hx3)]++rT 3 c1++sT 23) (fr 14 32) [(45,vB true)] [] [] (lE h)
 ·refine aR h (fun c4 h=> ?_) (fun c4 h=> ?_)
  ·obtain rfl:=so h
   exact rq hC [] [5,46] [(5,vB false)] [(21,sc [V.t T.nilS,V.t T.nilS])] [] (qr eR)
  ·refine qk ?_
   obtain⟨x8,hx8,h⟩:=bd h
   refine rq hC [oC [] [22] (sE G hx8)] [6,47,48] [(6,ms 22 1 3 aQ x8)] [(22,some (ar 112 1 3 aQ x8))] [(22,true)] ?_
   obtain⟨x9,hx9,h⟩:=bd h
   refine rq hC [oC [] [23] (aDD G hx9)] [7,49,50] [(7,ms 23 1 3 dD x9)] [(23,some (ar 136 1 3 dD x9))] [(23,true)] (qs (rq hC [] [8] [(8,vI 0)] [] [] (qb (i8 h (fun x_=>aW [(1,vI part),(2,V.ref 20 0),(4,V.ref 21 0),(6,ms 22 1 3 aQ x8),(7,ms 23 1 3 dD x9),(8,vI x_)] [(20,E.cells (bD x1)),(21,E.cells [V.t T.nilS,V.t T.nilS]),(22,ar 112 1 3 aQ x8),(23,ar 136 1 3 dD x9)] [20,21,22,23]) lS ?_))))
   rintro again11 x10 h
   refine qs (rq hC [oN dD x9] (fr 51 4) [(54,vB (decide (x10<(x9.length:Int))))] [] [] (aR h (fun c5 h=> ?_) (fun c5 h=> ?_)))
   ·refine qk (qs (qb ?_))
    obtain⟨x12,hx12,x13,hx13,h⟩:=dC h
    refine rq hC [oQ (mM dD hx12),oX dD hx12,oQ (mM aQ hx13),oX aQ hx13,.z (.nat 24)] [9,57,58,59,60,61,62,63,64] [(9,V.ref 24 0)] [(24,some (E.cells (qU x13)))] [(24,true)] ?_
    obtain⟨x14,hx14,h⟩:=bd h
    refine rq hC [oQ (mM dD hx12),oX dD hx12,oQ (mM aQ hx14),oX aQ hx14,.z (.nat 25)] [10,65,66,67,68,69,70,71,72] [(10,V.ref 25 0)] [(25,some (E.cells (qU x14)))] [(25,true)] (vj h (fun x_=>aW [(1,vI part),(2,V.ref 20 0),(4,V.ref 21 0),(6,ms 22 1 3 aQ x8),(7,ms 23 1 3 dD x9),(8,vI x10),(90,vB x_)] [(20,E.cells (bD x1)),(21,E.cells [V.t T.nilS,V.t T.nilS]),(22,ar 112 1 3 aQ x8),(23,ar 136 1 3 dD x9),(24,E.cells (qU x13)),(25,E.cells (qU x14))] [20,21,22,23,24,25]) (fun j15 h=> ?_) (fun x17 h=> ?_))
    ·
     refine aS h (fun c6 h=> ?_) (fun c6 h=> ?_)
     ·exact rk hC (rF 6 c6++sF 6) (fr 73 18) [(90,vB false)] [] [] (lE h)
     ·refine aS h (fun c7 h=> ?_) (fun c7 h=> ?_)
      ·exact rk hC (rT 6 c6++rF 6 c7) (fr 73 18) [(90,vB false)] [] [] (lE h)
      ·obtain⟨x16,hx16,h⟩:=bd h
       exact rk hC (rT 6 c6++rT 5 c7++[oV (aCb G hx16),oT c7]) (fr 73 18) [(90,vB x16)] [] [] (lE h)
    ·refine aR h (fun c8 h=> ?_) (fun c8 h=> ?_)
     ·obtain rfl:=so h
      exact rq hC [] [5,91] [(5,vB false)] [(21,sc [V.t T.nilS,V.t T.nilS])] [] (qr eR)
     ·exact qk (rk hC [] [8,55,56] [(8,vI (wr (x10+1)))] [] [] (lE h))
   ·refine cN (qs ?_)
    obtain⟨x18,hx18,x19,hx19,x20,hx20,h⟩:=kV h
    obtain⟨x21,hx21,h⟩:=bd h
    refine dk hC bF [oR aC hx18,.z (.nat 24),oR aC hx18,oA (aP aI hx19),oQ (bX (r:=aI) 9 cI []),oQ (bX (r:=aI) 9 cI x18.body),oR aC hx20,oA (aP aI hx21),.z (.nat 25),oQ (bX (r:=aI) 9 cI x19),oQ (bX (r:=aI) 9 cI x20.body)] [11,92,93,94,95,96,97,98,99,100,101,102,103,104,105,106,107,108,109,110,111,112,113,114] [(11,V.ref 25 0)] [(24,some (ar 84 3 9 aI x21)),(25,sc [vM aD x18.nest,ms 24 3 9 aI x21])] [(24,true),(25,true)] ?_
    obtain⟨x22,hx22,h⟩:=bd h
    obtain rfl:=so h
    exact rq hC [.z (.at 7),.z (.fz 24 [] [25]),.z (.int 0),oV (aDz G hx22)] [5,115,116,117,118,119,120,121] [(5,vB x22.2)] [(25,sc [vM aD x18.nest,vM aI x21]),(24,none),(21,some (E.cells (bD x22.1)))] [] (qr eR)
theorem yE{code}{r}(h:gJ n code=some r):PQ G 31 [vM rY code] (V.tup [V.agg (bD r.1),vI r.2]):=by
 unfold gJ at h
 refine pq aN Tryz.func31 rfl fun w X hC=> ?_
 refine rq hC [.z (.nat 20)] [2,3] [(2,V.ref 20 0)] [(20,sc [V.t T.nilS,V.t T.nilS])] [(20,true)] ?_
 obtain⟨x1,hx1,x2,hx2,h⟩:=dC h
 obtain rfl:=so h
 exact rq hC [oC [] [21] (aCa G hx1),oC [21] [] (aDB G hx2),.z (.nat 22)] (fr 4 12) [(4,V.ref 22 0),(5,vI x2.2.1)] [(21,sR x2.2.2.2.2),(22,some (E.cells (bD x2.1)))] [(21,true),(21,true),(22,true)] (rq hC [] [3,16,17] [(3,vI x2.2.1)] [(20,some (E.cells (bD x2.1)))] [] (qr eR))
theorem C9(G:GS)(n:Nat)(code:List UInt8)(more:List UInt8){r:Bool}(h:lW n code more=some r):PQ G 7 [vM rY code,vM rY more] (vB r):=by
 unfold lW at h
 refine pq aN Tryz.func7 rfl fun w X hC=> ?_
 refine rq hC [] [4] [] [] [] (qs (vj h (fun x_=>aW [(0,vM rY code),(1,vM rY more),(18,vB x_)] [] []) (fun j1 h=> ?_) (fun x2 h=> ?_)))
 ·
  refine aS h (fun c1 h=> ?_) (fun c1 h=> ?_)
  ·exact rk hC [oN rY code,oF c1,oF c1,oN rY more,oF c1,oF c1] (fr 11 8) [(18,vB (decide ((1048576:Int)<(more.length:Int))))] [] [] (lE h)
  ·exact rk hC ([oN rY code]++rT 4 c1) (fr 11 8) [(18,vB true)] [] [] (lE h)
 ·refine aR h (fun c2 h=> ?_) (fun c2 h=> ?_)
  ·obtain rfl:=so h
   exact rq hC [] [4] [(4,vB true)] [] [] (qr eR)
  ·refine qk ?_
   obtain⟨x3,hx3,h⟩:=bd h
   refine rq hC [oV (yE G hx3),.z (.nat 20)] [5,6,19,20,21,22,23] [(5,V.ref 20 0),(6,vI x3.2)] [(20,some (E.cells (bD x3.1)))] [(20,true)] ?_
   obtain⟨x4,hx4,h⟩:=bd h
   refine rq hC [oV (S9 G hx4),.z (.nat 21)] [7,8,24,25,26,27,28,29] [(7,V.ref 21 0),(8,vB x4.2)] [(21,some (E.cells (bD x4.1)))] [(21,true)] ?_
   obtain⟨x5,hx5,h⟩:=bd h
   refine rq hC [oV (S1 G hx5),.z (.nat 22)] [9,10,30,31,32,33,34,35] [(9,V.ref 22 0),(10,vB x5.2)] [(22,some (E.cells (bD x5.1)))] [(22,true)] (qs (vj h (fun x_=>aW [(1,vM rY more),(5,V.ref 20 0),(7,V.ref 21 0),(8,vB x4.2),(9,V.ref 22 0),(10,vB x5.2),(48,vB x_)] [(20,E.cells (bD x3.1)),(21,E.cells (bD x4.1)),(22,E.cells (bD x5.1))] [20,21,22]) (fun j6 h=> ?_) (fun x8 h=> ?_)))
   ·
    refine aS h (fun c3 h=> ?_) (fun c3 h=> ?_)
    ·obtain⟨x7,hx7,h⟩:=bd h
     refine aS h (fun c4 h=> ?_) (fun c4 h=> ?_)
     ·exact rk hC (rF 3 c3++[oV (mQ G hx7),oF c3,oF c3]++rF 3 c4) (fr 36 13) [(48,vB (!x4.2))] [] [] (lE h)
     ·exact rk hC (rF 3 c3++[oV (mQ G hx7),oF c3,oF c3]++rT 3 c4) (fr 36 13) [(48,vB true)] [] [] (lE h)
    ·exact rk hC (rT 5 c3++[eT,eT,eT]) (fr 36 13) [(48,vB true)] [] [] (lE h)
   ·refine aR h (fun c5 h=> ?_) (fun c5 h=> ?_)
    ·refine vj h (fun x_=>aW [(4,vB x_)] [(20,E.cells (bD x3.1)),(21,E.cells (bD x4.1)),(22,E.cells (bD x5.1))] [20,21,22]) (fun j9 h=> ?_) (fun x11 h=> ?_)
     ·
      refine aS h (fun c6 h=> ?_) (fun c6 h=> ?_)
      ·exact rk hC (rF 4 c6) [4,49,50,51,52,53,54,55,56] [(4,vB false)] [] [] (lE h)
      ·obtain⟨x10,hx10,h⟩:=bd h
       exact rk hC (rT 3 c6++[oV (mQ G hx10),oT c6]) [4,49,50,51,52,53,54,55,56] [(4,vB x10)] [] [] (lE h)
     ·obtain rfl:=so h
      exact qr eR
    ·refine qk (vj h (fun x_=>aW [(4,vB x_)] [(20,E.cells (bD x3.1)),(21,E.cells (bD x4.1)),(22,E.cells (bD x5.1))] [20,21,22]) (fun j12 h=> ?_) (fun x15 h=> ?_))
     ·
      obtain⟨x13,hx13,h⟩:=bd h
      refine aS h (fun c7 h=> ?_) (fun c7 h=> ?_)
      ·exact rk hC ([oV (bH G hx13)]++rF 6 c7) [4,57,58,59,60,61,62,63,64,65] [(4,vB false)] [] [] (lE h)
      ·obtain⟨x14,hx14,h⟩:=bd h
       exact rk hC ([oV (bH G hx13)]++rT 4 c7++[oN rY more,oT c7,oV (aBZ G hx14),oT c7]) [4,57,58,59,60,61,62,63,64,65] [(4,vB x14)] [] [] (lE h)
     ·obtain rfl:=so h
      exact qr eR
end Go.Lift
