/- The walks: the code computes what the plain functions say. -/
import Derived.Test.YtdcjmccimcppbaaGreatCModels
import Derived.Test.YtdcjmccimcppbaaGreatCWalks2
set_option maxRecDepth 10000
set_option linter.unusedVariables false
namespace Go.Lift
open Go Go.Proofs
variable (G:GS) {n:Nat}
theorem xI{x}{r}(h:fX n x=some r):PQ G 67 [V.agg (bF x)] (V.agg (bF r)):=by
 unfold fX at h
 refine pq aN Tryz.func67 rfl fun w X hC=> ?_
 refine rq hC [.z (.nat 20),.z (.nat 21)] [1,2] [(1,V.ref 20 0),(2,V.ref 21 0)] [(20,some (E.cells (bF x))),(21,sc [V.t T.nilS,V.t T.nilS])] [(20,true),(21,true)] ?_
 obtain⟨x1,hx1,h⟩:=bd h
 refine rq hC [oC [] [22] (uB G hx1)] (fr 3 4) [] [(22,some (ar 90 1 2 aH x1)),(20,sc [ms 22 1 2 aH x1,vM aC x.parts])] [(22,true)] ?_
 obtain⟨x2,hx2,h⟩:=bd h
 obtain rfl:=so h
 exact rq hC [oC [] [23] (vJ G hx2)] (fr 7 4) [] [(23,some (ar 46 1 2 aC x2)),(20,sc [ms 22 1 2 aH x1,ms 23 1 2 aC x2])] [(23,true)] (rq hC [.z (.at 2),.z (.fz 22 [] [20]),.z (.at 2),.z (.fz 23 [] [20])] [11] [] [(20,sc [vM aH x1,vM aC x2]),(22,none),(23,none),(21,sc [vM aH x1,vM aC x2])] [] (qr eR))
theorem vT(G:GS)(n:Nat)(s1:List Loop)(s2:List Loop)(eqF:FuncId)(eq:Loop→Loop→Option Bool)(heq: ∀(q0:Loop) (q1:Loop) r,eq q0 q1=some r→PQ G eqF [V.agg (l6 q0),V.agg (l6 q1)] (vB r)){r:Bool}(h:iH n s1 s2 eq=some r):PQ G 168 [vM aD s1,vM aD s2,V.fn eqF []] (vB r):=by
 unfold iH at h
 refine pq aN Tryz.func168 rfl fun w X hC=> ?_
 refine rq hC [] [6] [] [] [] (qs (rq hC [oN aD s1,oN aD s2] (fr 10 5) [(14,vB (!decide ((s1.length:Int)=(s2.length:Int))))] [] [] (aS h (fun c1 h=> ?_) (fun c1 h=> ?_))))
 ·obtain rfl:=so h
  exact rq hC [] [6] [(6,vB false)] [] [] (qr eR)
 ·refine qk (qs (rq hC [oN aD s1] [15,16,17] [(15,vM aD s1),(16,vI (s1.length:Int)),(17,vI 0)] [] [] (qb (jI h (fun x_=>aX [(1,vM aD s2),(2,V.fn eqF []),(15,vM aD s1),(16,vI (s1.length:Int)),(17,vI x_)] [] []) lS ?_))))
  rintro again2 x1 h
  refine rq hC [] [18] [(18,vB (decide (x1<(s1.length:Int))))] [] [] (qs (aS h (fun c2 h=> ?_) (fun c2 h=> ?_)))
  ·refine qk (qs (qb ?_))
   obtain⟨x3,hx3,h⟩:=bd h
   refine rq hC [oR aD hx3,.z (.nat 20)] [7,8,19,20,21] [(7,vI x1),(8,V.ref 20 0)] [(20,some (E.cells (l6 x3)))] [(20,true)] ?_
   obtain⟨x4,hx4,h⟩:=bd h
   refine rq hC [oR aD hx4,.z (.nat 21)] [9,22,23,24,25] [(9,V.ref 21 0)] [(21,some (E.cells (l6 x4)))] [(21,true)] ?_
   obtain⟨x5,hx5,h⟩:=bd h
   refine rq hC [oV (heq x3 x4 _ hx5)] (fr 26 5) [(30,vB (!x5))] [] [] (aS h (fun c3 h=> ?_) (fun c3 h=> ?_))
   ·obtain rfl:=so h
    exact rq hC [] [6] [(6,vB false)] [] [] (qr eR)
   ·exact qk (rk hC [] [17,31] [(17,vI (wr (x1+1)))] [] [] (lE h))
  ·obtain rfl:=so h
   exact cN (rq hC [] [6] [(6,vB true)] [] [] (qr eR))
theorem eY(G:GS)(n:Nat)(s1:List Affine)(s2:List Affine)(eqF:FuncId)(eq:Affine→Affine→Option Bool)(heq: ∀(q0:Affine) (q1:Affine) r,eq q0 q1=some r→PQ G eqF [V.agg (aT q0),V.agg (aT q1)] (vB r)){r:Bool}(h:cL n s1 s2 eq=some r):PQ G 170 [vM aB s1,vM aB s2,V.fn eqF []] (vB r):=by
 unfold cL at h
 refine pq aN Tryz.func170 rfl fun w X hC=> ?_
 refine rq hC [] [6] [] [] [] (qs (rq hC [oN aB s1,oN aB s2] (fr 10 5) [(14,vB (!decide ((s1.length:Int)=(s2.length:Int))))] [] [] (aS h (fun c1 h=> ?_) (fun c1 h=> ?_))))
 ·obtain rfl:=so h
  exact rq hC [] [6] [(6,vB false)] [] [] (qr eR)
 ·refine qk (qs (rq hC [oN aB s1] [15,16,17] [(15,vM aB s1),(16,vI (s1.length:Int)),(17,vI 0)] [] [] (qb (jI h (fun x_=>aX [(1,vM aB s2),(2,V.fn eqF []),(15,vM aB s1),(16,vI (s1.length:Int)),(17,vI x_)] [] []) lS ?_))))
  rintro again2 x1 h
  refine rq hC [] [18] [(18,vB (decide (x1<(s1.length:Int))))] [] [] (qs (aS h (fun c2 h=> ?_) (fun c2 h=> ?_)))
  ·refine qk (qs (qb ?_))
   obtain⟨x3,hx3,h⟩:=bd h
   refine rq hC [oR aB hx3,.z (.nat 20)] [7,8,19,20,21] [(7,vI x1),(8,V.ref 20 0)] [(20,some (E.cells (aT x3)))] [(20,true)] ?_
   obtain⟨x4,hx4,h⟩:=bd h
   refine rq hC [oR aB hx4,.z (.nat 21)] [9,22,23,24,25] [(9,V.ref 21 0)] [(21,some (E.cells (aT x4)))] [(21,true)] ?_
   obtain⟨x5,hx5,h⟩:=bd h
   refine rq hC [oV (heq x3 x4 _ hx5)] (fr 26 5) [(30,vB (!x5))] [] [] (aS h (fun c3 h=> ?_) (fun c3 h=> ?_))
   ·obtain rfl:=so h
    exact rq hC [] [6] [(6,vB false)] [] [] (qr eR)
   ·exact qk (rk hC [] [17,31] [(17,vI (wr (x1+1)))] [] [] (lE h))
  ·obtain rfl:=so h
   exact cN (rq hC [] [6] [(6,vB true)] [] [] (qr eR))
theorem o7{s1}{s2}{r}(h:jO n s1 s2=some r):PQ G 72 [vM rI s1,vM rI s2] (vB r):=by
 unfold jO at h
 refine pq aN Tryz.func72 rfl fun w X hC=> ?_
 refine rq hC [] [4] [] [] [] (qs (rq hC [oN rI s1,oN rI s2] (fr 6 5) [(10,vB (!decide ((s1.length:Int)=(s2.length:Int))))] [] [] (aS h (fun c1 h=> ?_) (fun c1 h=> ?_))))
 ·obtain rfl:=so h
  exact rq hC [] [4] [(4,vB false)] [] [] (qr eR)
 ·refine qk (qs (rq hC [oN rI s1] [11,12,13] [(12,vI (s1.length:Int)),(13,vI 0)] [] [] (qb (jI h (fun x_=>aX [(0,vM rI s1),(1,vM rI s2),(12,vI (s1.length:Int)),(13,vI x_)] [] []) lS ?_))))
  rintro again2 x1 h
  refine rq hC [] [14] [(14,vB (decide (x1<(s1.length:Int))))] [] [] (qs (aS h (fun c2 h=> ?_) (fun c2 h=> ?_)))
  ·refine qk (qs (qb (rq hC [] [5,15] [(5,vI x1)] [] [] (qs ?_))))
   obtain⟨x3,hx3,x4,hx4,h⟩:=dJ h
   refine dk hC bP [oR rI hx3,oR rI hx4] (fr 16 9) [(24,vB (!decide (x3=x4)))] [] [] (aS h (fun c3 h=> ?_) (fun c3 h=> ?_))
   ·obtain rfl:=so h
    exact rq hC [] [4] [(4,vB false)] [] [] (qr eR)
   ·exact qk (rk hC [] [13,25] [(13,vI (wr (x1+1)))] [] [] (lE h))
  ·obtain rfl:=so h
   exact cN (rq hC [] [4] [(4,vB true)] [] [] (qr eR))
theorem eC(G:GS)(n:Nat)(a:Affine)(b:Affine){r:Bool}(h:cB n a b=some r):PQ G 171 [V.agg (aT a),V.agg (aT b)] (vB r):=by
 unfold cB at h
 refine pq aN Tryz.func171 rfl fun w X hC=> ?_
 refine rq hC [.z (.b (true)),.z (.b (true))] [2,3,4] [(2,V.tp (bO a)),(3,V.tp (bO b))] [] [] (vj h (fun x_=>aX [(4,vB x_)] [] []) (fun j1 h=> ?_) (fun x3 h=> ?_))
 ·
  obtain⟨x2,hx2,h⟩:=bd h
  refine aR h (fun c1 h=> ?_) (fun c1 h=> ?_)
  ·exact rk hC ([oV (o7 G hx2)]++rF 6 c1) (fr 4 13) [(4,vB false)] [] [] (lE h)
  ·exact rk hC ([oV (o7 G hx2)]++rT 6 c1) (fr 4 13) [(4,vB (decide (a.const=b.const)))] [] [] (lE h)
 ·obtain rfl:=so h
  exact qr eR
theorem N3(G:GS)(n:Nat)(x:Loop)(y:Loop){r:Bool}(h:kG n x y=some r):PQ G 169 [V.agg (l6 x),V.agg (l6 y)] (vB r):=by
 unfold kG at h
 refine pq aN Tryz.func169 rfl fun w X hC=> ?_
 refine rq hC [.z (.b (true)),.z (.b (true))] [2,3,4] [(2,V.tp (wB x)),(3,V.tp (wB y))] [] [] (vj h (fun x_=>aX [(4,vB x_)] [] []) (fun j1 h=> ?_) (fun x4 h=> ?_))
 ·
  obtain⟨x2,hx2,h⟩:=bd h
  refine aR h (fun c1 h=> ?_) (fun c1 h=> ?_)
  ·exact rk hC ([oV (eY G n x.lo y.lo 171 (fun q0 q1=>cB n q0 q1) (fun q0 q1 r h=>eC G n q0 q1 h) hx2)]++rF 6 c1) (fr 4 13) [(4,vB false)] [] [] (lE h)
  ·obtain⟨x3,hx3,h⟩:=bd h
   exact rk hC ([oV (eY G n x.lo y.lo 171 (fun q0 q1=>cB n q0 q1) (fun q0 q1 r h=>eC G n q0 q1 h) hx2)]++rT 5 c1++[oV (eY G n x.hi y.hi 171 (fun q0 q1=>cB n q0 q1) (fun q0 q1 r h=>eC G n q0 q1 h) hx3),oT c1]) (fr 4 13) [(4,vB x3)] [] [] (lE h)
 ·obtain rfl:=so h
  exact qr eR
theorem xP{a}{b}{r}(h:nP n a b=some r):PQ G 74 [vM aD a,vM aD b] (vB r):=by
 unfold nP at h
 refine pq aN Tryz.func74 rfl fun w X hC=> ?_
 refine rq hC [] [4] [] [] [] ?_
 obtain⟨x1,hx1,h⟩:=bd h
 obtain rfl:=so h
 exact rq hC [oV (vT G n a b 169 (fun q0 q1=>kG n q0 q1) (fun q0 q1 r h=>N3 G n q0 q1 h) hx1)] (fr 4 4) [(4,vB x1)] [] [] (qr eR)
theorem vQ(G:GS)(n:Nat)(s1:List Stmt)(s2:List Stmt)(eqF:FuncId)(eq:Stmt→Stmt→Option Bool)(heq: ∀(q0:Stmt) (q1:Stmt) r,eq q0 q1=some r→PQ G eqF [V.agg (cS q0),V.agg (cS q1)] (vB r)){r:Bool}(h:iF n s1 s2 eq=some r):PQ G 75 [vM aL s1,vM aL s2,V.fn eqF []] (vB r):=by
 unfold iF at h
 refine pq aN Tryz.func75 rfl fun w X hC=> ?_
 refine rq hC [] [6] [] [] [] (qs (rq hC [oN aL s1,oN aL s2] (fr 10 5) [(14,vB (!decide ((s1.length:Int)=(s2.length:Int))))] [] [] (aS h (fun c1 h=> ?_) (fun c1 h=> ?_))))
 ·obtain rfl:=so h
  exact rq hC [] [6] [(6,vB false)] [] [] (qr eR)
 ·refine qk (qs (rq hC [oN aL s1] [15,16,17] [(15,vM aL s1),(16,vI (s1.length:Int)),(17,vI 0)] [] [] (qb (jI h (fun x_=>aX [(1,vM aL s2),(2,V.fn eqF []),(15,vM aL s1),(16,vI (s1.length:Int)),(17,vI x_)] [] []) lS ?_))))
  rintro again2 x1 h
  refine rq hC [] [18] [(18,vB (decide (x1<(s1.length:Int))))] [] [] (qs (aS h (fun c2 h=> ?_) (fun c2 h=> ?_)))
  ·refine qk (qs (qb ?_))
   obtain⟨x3,hx3,h⟩:=bd h
   refine rq hC [oR aL hx3,.z (.nat 20)] [7,8,19,20,21] [(7,vI x1),(8,V.ref 20 0)] [(20,some (E.cells (cS x3)))] [(20,true)] ?_
   obtain⟨x4,hx4,h⟩:=bd h
   refine rq hC [oR aL hx4,.z (.nat 21)] [9,22,23,24,25] [(9,V.ref 21 0)] [(21,some (E.cells (cS x4)))] [(21,true)] ?_
   obtain⟨x5,hx5,h⟩:=bd h
   refine rq hC [oV (heq x3 x4 _ hx5)] (fr 26 5) [(30,vB (!x5))] [] [] (aS h (fun c3 h=> ?_) (fun c3 h=> ?_))
   ·obtain rfl:=so h
    exact rq hC [] [6] [(6,vB false)] [] [] (qr eR)
   ·exact qk (rk hC [] [17,31] [(17,vI (wr (x1+1)))] [] [] (lE h))
  ·obtain rfl:=so h
   exact cN (rq hC [] [6] [(6,vB true)] [] [] (qr eR))
theorem kM{a}{b}{r}(h:iJ n a b=some r):PQ G 172 [V.agg (cO a),V.agg (cO b)] (vB r):=by
 unfold iJ at h
 refine pq aN Tryz.func172 rfl fun w X hC=> ?_
 refine rq hC [.z (.b (true)),.z (.b (true))] [2,3,4] [(2,V.tp (dV a)),(3,V.tp (dV b))] [] [] (vj h (fun x_=>aX [(4,vB x_)] [] []) (fun j1 h=> ?_) (fun x3 h=> ?_))
 ·
  refine aR h (fun c1 h=> ?_) (fun c1 h=> ?_)
  ·exact rk hC (rF 6 c1) (fr 4 13) [(4,vB false)] [] [] (lE h)
  ·obtain⟨x2,hx2,h⟩:=bd h
   exact rk hC (rT 5 c1++[oV (eY G n a.subs b.subs 171 (fun q0 q1=>cB n q0 q1) (fun q0 q1 r h=>eC G n q0 q1 h) hx2),oT c1]) (fr 4 13) [(4,vB x2)] [] [] (lE h)
 ·obtain rfl:=so h
  exact qr eR
theorem vU(G:GS)(n:Nat)(s1:List Expr)(s2:List Expr)(eqF:FuncId)(eq:Expr→Expr→Option Bool)(heq: ∀(q0:Expr) (q1:Expr) r,eq q0 q1=some r→PQ G eqF [V.agg (cY q0),V.agg (cY q1)] (vB r)){r:Bool}(h:iI n s1 s2 eq=some r):PQ G 249 [vM aJ s1,vM aJ s2,V.fn eqF []] (vB r):=by
 unfold iI at h
 refine pq aN Tryz.func249 rfl fun w X hC=> ?_
 refine rq hC [] [6] [] [] [] (qs (rq hC [oN aJ s1,oN aJ s2] (fr 10 5) [(14,vB (!decide ((s1.length:Int)=(s2.length:Int))))] [] [] (aS h (fun c1 h=> ?_) (fun c1 h=> ?_))))
 ·obtain rfl:=so h
  exact rq hC [] [6] [(6,vB false)] [] [] (qr eR)
 ·refine qk (qs (rq hC [oN aJ s1] [15,16,17] [(15,vM aJ s1),(16,vI (s1.length:Int)),(17,vI 0)] [] [] (qb (jI h (fun x_=>aX [(1,vM aJ s2),(2,V.fn eqF []),(15,vM aJ s1),(16,vI (s1.length:Int)),(17,vI x_)] [] []) lS ?_))))
  rintro again2 x1 h
  refine rq hC [] [18] [(18,vB (decide (x1<(s1.length:Int))))] [] [] (qs (aS h (fun c2 h=> ?_) (fun c2 h=> ?_)))
  ·refine qk (qs (qb ?_))
   obtain⟨x3,hx3,h⟩:=bd h
   refine rq hC [.z (.row (d8 x3)),.z (.nat 20),oQ (fD aJ hx3 (cR x3))] [7,8,19,20,21] [(7,vI x1),(8,V.ref 20 0)] [(20,some (E.cells (cY x3)))] [(20,true)] ?_
   obtain⟨x4,hx4,h⟩:=bd h
   refine rq hC [.z (.row (d8 x4)),.z (.nat 21),oQ (fD aJ hx4 (cR x4))] [9,22,23,24,25] [(9,V.ref 21 0)] [(21,some (E.cells (cY x4)))] [(21,true)] ?_
   obtain⟨x5,hx5,h⟩:=bd h
   refine rq hC [oV (heq x3 x4 _ hx5)] (fr 26 5) [(30,vB (!x5))] [] [] (aS h (fun c3 h=> ?_) (fun c3 h=> ?_))
   ·obtain rfl:=so h
    exact rq hC [] [6] [(6,vB false)] [] [] (qr eR)
   ·exact qk (rk hC [] [17,31] [(17,vI (wr (x1+1)))] [] [] (lE h))
  ·obtain rfl:=so h
   exact cN (rq hC [] [6] [(6,vB true)] [] [] (qr eR))
theorem Z6(G:GS): ∀(n:Nat) (a:Expr) (b:Expr) {r:Bool} (h:i_exprSame n a b=some r),PQ G 173 [V.agg (cY a),V.agg (cY b)] (vB r):=by
 intro n
 induction n with
 |zero=>intro a b r h;rw [i_exprSame.eq_def] at h;cases h
 |succ n ih=>
  intro a b r h
  rw [i_exprSame.eq_def] at h;dsimp only at h
  refine pq aN Tryz.func173 rfl fun w X hC=> ?_
  refine rq hC [.z (.b (true)),.z (.b (true))] [2,3,4] [(2,V.tp (gL a)),(3,V.tp (gL b))] [] [] (vj h (fun x_=>aX [(4,vB x_)] [] []) (fun j1 h=> ?_) (fun x5 h=> ?_))
  ·
   refine aR h (fun c1 h=> ?_) (fun c1 h=> ?_)
   ·exact rk hC (rF 6 c1++sF 18) (fr 4 34) [(4,vB false)] [] [] (lE h)
   ·refine aR h (fun c2 h=> ?_) (fun c2 h=> ?_)
    ·exact rk hC (rT 6 c1++rF 6 c2++sF 12) (fr 4 34) [(4,vB false)] [] [] (lE h)
    ·obtain⟨x2,hx2,h⟩:=bd h
     refine aR h (fun c3 h=> ?_) (fun c3 h=> ?_)
     ·exact rk hC (rT 6 c1++rT 5 c2++[oV (eC G n a.index b.index hx2),oT c2]++rF 6 c3++sF 6) (fr 4 34) [(4,vB false)] [] [] (lE h)
     ·obtain⟨x3,hx3,h⟩:=bd h
      refine aR h (fun c4 h=> ?_) (fun c4 h=> ?_)
      ·exact rk hC (rT 6 c1++rT 5 c2++[oV (eC G n a.index b.index hx2),oT c2]++rT 5 c3++[oV (kM G hx3),oT c3]++rF 6 c4) (fr 4 34) [(4,vB false)] [] [] (lE h)
      ·obtain⟨x4,hx4,h⟩:=bd h
       exact rk hC (rT 6 c1++rT 5 c2++[oV (eC G n a.index b.index hx2),oT c2]++rT 5 c3++[oV (kM G hx3),oT c3]++rT 5 c4++[oV (vU G n a.kids b.kids 173 (fun q0 q1=>i_exprSame n q0 q1) (fun q0 q1 r h=>ih q0 q1 h) hx4),oT c4]) (fr 4 34) [(4,vB x4)] [] [] (lE h)
  ·obtain rfl:=so h
   exact qr eR
theorem Z7(G:GS)(n:Nat)(a:Stmt)(b:Stmt){r:Bool}(h:lF n a b=some r):PQ G 76 [V.agg (cS a),V.agg (cS b)] (vB r):=by
 unfold lF at h
 refine pq aN Tryz.func76 rfl fun w X hC=> ?_
 refine rq hC [.z (.b (true)),.z (.b (true))] [2,3,4] [(2,V.tp (oB a)),(3,V.tp (oB b))] [] [] (vj h (fun x_=>aX [(4,vB x_)] [] []) (fun j1 h=> ?_) (fun x4 h=> ?_))
 ·
  obtain⟨x2,hx2,h⟩:=bd h
  refine aR h (fun c1 h=> ?_) (fun c1 h=> ?_)
  ·exact rk hC ([oV (kM G hx2)]++rF 6 c1) (fr 4 13) [(4,vB false)] [] [] (lE h)
  ·obtain⟨x3,hx3,h⟩:=bd h
   exact rk hC ([oV (kM G hx2)]++rT 5 c1++[oV (Z6 G n a.value b.value hx3),oT c1]) (fr 4 13) [(4,vB x3)] [] [] (lE h)
 ·obtain rfl:=so h
  exact qr eR
theorem xO(G:GS)(n:Nat)(x:Part)(y:Part){r:Bool}(h:eG n x y=some r):PQ G 73 [V.agg (oZ x),V.agg (oZ y)] (vB r):=by
 unfold eG at h
 refine pq aN Tryz.func73 rfl fun w X hC=> ?_
 refine rq hC [.z (.b (true)),.z (.b (true))] [2,3,4] [(2,V.tp (oD x)),(3,V.tp (oD y))] [] [] (vj h (fun x_=>aX [(4,vB x_)] [] []) (fun j1 h=> ?_) (fun x4 h=> ?_))
 ·
  obtain⟨x2,hx2,h⟩:=bd h
  refine aR h (fun c1 h=> ?_) (fun c1 h=> ?_)
  ·exact rk hC ([oV (xP G hx2)]++rF 6 c1) (fr 4 13) [(4,vB false)] [] [] (lE h)
  ·obtain⟨x3,hx3,h⟩:=bd h
   exact rk hC ([oV (xP G hx2)]++rT 5 c1++[oV (vQ G n x.body y.body 76 (fun q0 q1=>lF n q0 q1) (fun q0 q1 r h=>Z7 G n q0 q1 h) hx3),oT c1]) (fr 4 13) [(4,vB x3)] [] [] (lE h)
 ·obtain rfl:=so h
  exact qr eR
theorem mF(G:GS)(n:Nat)(s1:List Arr)(s2:List Arr)(eqF:FuncId)(eq:Arr→Arr→Option Bool)(heq: ∀(q0:Arr) (q1:Arr) r,eq q0 q1=some r→PQ G eqF [V.agg [vS q0.name,vM rI q0.dims],V.agg [vS q1.name,vM rI q1.dims]] (vB r)){r:Bool}(h:gJ n s1 s2 eq=some r):PQ G 77 [vM aH s1,vM aH s2,V.fn eqF []] (vB r):=by
 unfold gJ at h
 refine pq aN Tryz.func77 rfl fun w X hC=> ?_
 refine rq hC [] [6] [] [] [] (qs (rq hC [oN aH s1,oN aH s2] (fr 10 5) [(14,vB (!decide ((s1.length:Int)=(s2.length:Int))))] [] [] (aS h (fun c1 h=> ?_) (fun c1 h=> ?_))))
 ·obtain rfl:=so h
  exact rq hC [] [6] [(6,vB false)] [] [] (qr eR)
 ·refine qk (qs (rq hC [oN aH s1] [15,16,17] [(15,vM aH s1),(16,vI (s1.length:Int)),(17,vI 0)] [] [] (qb (jI h (fun x_=>aX [(1,vM aH s2),(2,V.fn eqF []),(15,vM aH s1),(16,vI (s1.length:Int)),(17,vI x_)] [] []) lS ?_))))
  rintro again2 x1 h
  refine rq hC [] [18] [(18,vB (decide (x1<(s1.length:Int))))] [] [] (qs (aS h (fun c2 h=> ?_) (fun c2 h=> ?_)))
  ·refine qk (qs (qb ?_))
   obtain⟨x3,hx3,h⟩:=bd h
   refine rq hC [oR aH hx3,.z (.nat 20)] [7,8,19,20,21] [(7,vI x1),(8,V.ref 20 0)] [(20,sc [vS x3.name,vM rI x3.dims])] [(20,true)] ?_
   obtain⟨x4,hx4,h⟩:=bd h
   refine rq hC [oR aH hx4,.z (.nat 21)] [9,22,23,24,25] [(9,V.ref 21 0)] [(21,sc [vS x4.name,vM rI x4.dims])] [(21,true)] ?_
   obtain⟨x5,hx5,h⟩:=bd h
   refine rq hC [oV (heq x3 x4 _ hx5)] (fr 26 5) [(30,vB (!x5))] [] [] (aS h (fun c3 h=> ?_) (fun c3 h=> ?_))
   ·obtain rfl:=so h
    exact rq hC [] [6] [(6,vB false)] [] [] (qr eR)
   ·exact qk (rk hC [] [17,31] [(17,vI (wr (x1+1)))] [] [] (lE h))
  ·obtain rfl:=so h
   exact cN (rq hC [] [6] [(6,vB true)] [] [] (qr eR))
theorem vR(G:GS)(n:Nat)(s1:List Part)(s2:List Part)(eqF:FuncId)(eq:Part→Part→Option Bool)(heq: ∀(q0:Part) (q1:Part) r,eq q0 q1=some r→PQ G eqF [V.agg (oZ q0),V.agg (oZ q1)] (vB r)){r:Bool}(h:iG n s1 s2 eq=some r):PQ G 78 [vM aC s1,vM aC s2,V.fn eqF []] (vB r):=by
 unfold iG at h
 refine pq aN Tryz.func78 rfl fun w X hC=> ?_
 refine rq hC [] [6] [] [] [] (qs (rq hC [oN aC s1,oN aC s2] (fr 10 5) [(14,vB (!decide ((s1.length:Int)=(s2.length:Int))))] [] [] (aS h (fun c1 h=> ?_) (fun c1 h=> ?_))))
 ·obtain rfl:=so h
  exact rq hC [] [6] [(6,vB false)] [] [] (qr eR)
 ·refine qk (qs (rq hC [oN aC s1] [15,16,17] [(15,vM aC s1),(16,vI (s1.length:Int)),(17,vI 0)] [] [] (qb (jI h (fun x_=>aX [(1,vM aC s2),(2,V.fn eqF []),(15,vM aC s1),(16,vI (s1.length:Int)),(17,vI x_)] [] []) lS ?_))))
  rintro again2 x1 h
  refine rq hC [] [18] [(18,vB (decide (x1<(s1.length:Int))))] [] [] (qs (aS h (fun c2 h=> ?_) (fun c2 h=> ?_)))
  ·refine qk (qs (qb ?_))
   obtain⟨x3,hx3,h⟩:=bd h
   refine rq hC [oR aC hx3,.z (.nat 20)] [7,8,19,20,21] [(7,vI x1),(8,V.ref 20 0)] [(20,some (E.cells (oZ x3)))] [(20,true)] ?_
   obtain⟨x4,hx4,h⟩:=bd h
   refine rq hC [oR aC hx4,.z (.nat 21)] [9,22,23,24,25] [(9,V.ref 21 0)] [(21,some (E.cells (oZ x4)))] [(21,true)] ?_
   obtain⟨x5,hx5,h⟩:=bd h
   refine rq hC [oV (heq x3 x4 _ hx5)] (fr 26 5) [(30,vB (!x5))] [] [] (aS h (fun c3 h=> ?_) (fun c3 h=> ?_))
   ·obtain rfl:=so h
    exact rq hC [] [6] [(6,vB false)] [] [] (qr eR)
   ·exact qk (rk hC [] [17,31] [(17,vI (wr (x1+1)))] [] [] (lE h))
  ·obtain rfl:=so h
   exact cN (rq hC [] [6] [(6,vB true)] [] [] (qr eR))
theorem oW(G:GS)(n:Nat)(x:Arr)(y:Arr){r:Bool}(h:eH n x y=some r):PQ G 71 [V.agg [vS x.name,vM rI x.dims],V.agg [vS y.name,vM rI y.dims]] (vB r):=by
 unfold eH at h
 refine pq aN Tryz.func71 rfl fun w X hC=> ?_
 refine rq hC [.z (.b (true)),.z (.b (true))] [2,3,4] [(2,V.tp [T.str x.name,T.sl (List.map rI x.dims)]),(3,V.tp [T.str y.name,T.sl (List.map rI y.dims)])] [] [] (vj h (fun x_=>aX [(4,vB x_)] [] []) (fun j1 h=> ?_) (fun x3 h=> ?_))
 ·
  refine aR h (fun c1 h=> ?_) (fun c1 h=> ?_)
  ·exact rk hC (rF 6 c1) (fr 4 13) [(4,vB false)] [] [] (lE h)
  ·obtain⟨x2,hx2,h⟩:=bd h
   exact rk hC (rT 5 c1++[oV (o7 G hx2),oT c1]) (fr 4 13) [(4,vB x2)] [] [] (lE h)
 ·obtain rfl:=so h
  exact qr eR
theorem mD{a}{b}{r}(h:dY n a b=some r):PQ G 18 [V.agg (bF a),V.agg (bF b)] (vB r):=by
 unfold dY at h
 refine pq aN Tryz.func18 rfl fun w X hC=> ?_
 refine rq hC [.z (.b (true)),.z (.b (true))] [2,3,4] [(2,V.tp (bQ a)),(3,V.tp (bQ b))] [] [] (rq hC [] [5] [(5,V.fn 71 [])] [] [] (rq hC [] [6] [(6,V.fn 73 [])] [] [] (vj h (fun x_=>aX [(4,vB x_)] [] []) (fun j1 h=> ?_) (fun x4 h=> ?_))))
 ·
  obtain⟨x2,hx2,h⟩:=bd h
  refine aR h (fun c1 h=> ?_) (fun c1 h=> ?_)
  ·exact rk hC ([oV (mF G n a.arrays b.arrays 71 (fun q0 q1=>eH n q0 q1) (fun q0 q1 r h=>oW G n q0 q1 h) hx2)]++rF 7 c1) [4,7,8,9,10,11,12,13,14,15,16,17,18,19,20] [(4,vB false)] [] [] (lE h)
  ·obtain⟨x3,hx3,h⟩:=bd h
   exact rk hC ([oV (mF G n a.arrays b.arrays 71 (fun q0 q1=>eH n q0 q1) (fun q0 q1 r h=>oW G n q0 q1 h) hx2)]++rT 6 c1++[oV (vR G n a.parts b.parts 73 (fun q0 q1=>eG n q0 q1) (fun q0 q1 r h=>xO G n q0 q1 h) hx3),oT c1]) [4,7,8,9,10,11,12,13,14,15,16,17,18,19,20] [(4,vB x3)] [] [] (lE h)
 ·obtain rfl:=so h
  exact qr eR
theorem kN{p}{r}(h:dR n p=some r):PQ G 181 [V.agg (bF p)] (vI r):=by
 unfold dR at h
 refine pq aN Tryz.func181 rfl fun w X hC=> ?_
 refine rq hC [.z (.b (true))] [1,2] [(1,V.tp (bQ p))] [] [] (rq hC [] [3] [(3,vI 0)] [] [] (qs (rq hC [oN aH p.arrays] (fr 6 4) [(7,vM aH p.arrays),(8,vI (p.arrays.length:Int)),(9,vI 0)] [] [] (qb (jI h (fun x_=>aX [(3,vI x_.1),(7,vM aH p.arrays),(8,vI (p.arrays.length:Int)),(9,vI x_.2)] [] []) lS ?_)))))
 rintro again3 ⟨x1,x2⟩ h
 refine rq hC [] [10] [(10,vB (decide (x2<(p.arrays.length:Int))))] [] [] (qs (aS h (fun c1 h=> ?_) (fun c1 h=> ?_)))
 ·refine qk (qs (qb ?_))
  obtain⟨x4,hx4,h⟩:=bd h
  refine rq hC [oR aH hx4,.z (.nat 20)] [5,11,12] [(5,V.ref 20 0)] [(20,sc [vS x4.name,vM rI x4.dims])] [(20,true)] ?_
  obtain⟨x5,hx5,h⟩:=bd h
  exact rk hC [oV (tI G hx5)] [3,13,14,15,16] [(3,vI (wr (x1+x5)))] [] [] (rk hC [] [9,17] [(9,vI (wr (x2+1)))] [] [] (lE h))
 ·obtain rfl:=so h
  exact cN (rq hC [] [2,18] [(2,vI x1)] [] [] (qr eR))
theorem N5{p}{r}(h:kI n p=some r):PQ G 80 [V.agg (bF p)] (vI r):=by
 unfold kI at h
 refine pq aN Tryz.func80 rfl fun w X hC=> ?_
 refine rq hC [.z (.b (true))] [1,2] [(1,V.tp (bQ p))] [] [] (qs ?_)
 obtain⟨x1,hx1,h⟩:=bd h
 refine rq hC [oV (iN G hx1)] [3,4,5] [(5,vB (!x1))] [] [] (aS h (fun c1 h=> ?_) (fun c1 h=> ?_))
 ·obtain rfl:=so h
  exact rq hC [] [2] [(2,vI 0)] [] [] (qr eR)
 ·refine qk ?_
  obtain⟨x2,hx2,h⟩:=bd h
  obtain rfl:=so h
  exact rq hC [oV (kN G hx2)] [2,6,7] [(2,vI x2)] [] [] (qr eR)
theorem aCR{a}{b}{r}(h:pB n a b=some r):PQ G 81 [vM rI a,vM rI b] (vB r):=by
 unfold pB at h
 refine pq aN Tryz.func81 rfl fun w X hC=> ?_
 refine rq hC [] [4] [] [] [] (qs (rq hC [oN rI a,oN rI b] (fr 6 5) [(10,vB (!decide ((a.length:Int)=(b.length:Int))))] [] [] (aS h (fun c1 h=> ?_) (fun c1 h=> ?_))))
 ·obtain rfl:=so h
  exact rq hC [] [4] [(4,vB false)] [] [] (qr eR)
 ·refine qk (qs (rq hC [] [5] [(5,vI 0)] [] [] (qb (jI h (fun x_=>aX [(0,vM rI a),(1,vM rI b),(5,vI x_)] [] []) lS ?_))))
  rintro again2 x1 h
  refine qs (rq hC [oN rI a] (fr 11 4) [(14,vB (decide (x1<(a.length:Int))))] [] [] (aS h (fun c2 h=> ?_) (fun c2 h=> ?_)))
  ·refine qk (qs (qb (qs ?_)))
   obtain⟨x3,hx3,x4,hx4,h⟩:=dJ h
   refine dk hC bP [oR rI hx3,oR rI hx4] (fr 17 9) [(25,vB (!decide (x3=x4)))] [] [] (aS h (fun c3 h=> ?_) (fun c3 h=> ?_))
   ·obtain rfl:=so h
    exact rq hC [] [4] [(4,vB false)] [] [] (qr eR)
   ·exact qk (rk hC [] [5,15,16] [(5,vI (wr (x1+1)))] [] [] (lE h))
  ·obtain rfl:=so h
   exact cN (rq hC [] [4] [(4,vB true)] [] [] (qr eR))
theorem xQ(G:GS)(n:Nat)(n_a0:Int){r:Bool}(h:eI n n_a0=some r):PQ G 227 [vI n_a0] (vB r):=by
 unfold eI at h
 refine pq aN Tryz.func227 rfl fun w X hC=> ?_
 refine rq hC [] [2] [] [] [] ?_
 obtain⟨x1,hx1,h⟩:=bd h
 obtain rfl:=so h
 exact rq hC [oV (bM G hx1)] (fr 2 4) [(2,vB (!x1))] [] [] (qr eR)
theorem B0{p}{m}{r}(h:iY n p m=some r):PQ G 147 [V.agg (bF p),vM rI m] (vB r):=by
 unfold iY at h
 refine pq aN Tryz.func147 rfl fun w X hC=> ?_
 refine rq hC [.z (.b (true))] [2,4] [(2,V.tp (bQ p))] [] [] (vj h (fun x_=>aX [(4,vB x_)] [] []) (fun j1 h=> ?_) (fun x5 h=> ?_))
 ·
  obtain⟨x2,hx2,h⟩:=bd h
  refine aR h (fun c1 h=> ?_) (fun c1 h=> ?_)
  ·exact rk hC ([oV (iN G hx2)]++rF 6 c1++sF 4) (fr 4 15) [(4,vB false)] [] [] (lE h)
  ·obtain⟨x3,hx3,h⟩:=bd h
   refine aR h (fun c2 h=> ?_) (fun c2 h=> ?_)
   ·exact rk hC ([oV (iN G hx2),oT c1,oT c1,oN rI m,oT c1,oT c1,oV (kN G hx3),oT c1,oT c1]++rF 4 c2) (fr 4 15) [(4,vB false)] [] [] (lE h)
   ·obtain⟨x4,hx4,h⟩:=bd h
    exact rk hC [oV (iN G hx2),oT c1,oT c1,oN rI m,oT c1,oT c1,oV (kN G hx3),oT c1,oT c1,oT c2,oT c2,oV (dM G n m 227 (fun q0=>eI n q0) (fun q0 r h=>xQ G n q0 h) hx4),oT c2,oT c2] (fr 4 15) [(4,vB (!x4))] [] [] (lE h)
 ·obtain rfl:=so h
  exact qr eR
theorem tH{p}{r}(h:eA n p=some r):VQ G 101 [] [V.agg (bF p)] (ms 0 1 3 aQ r) [ar 112 1 3 aQ r]:=by
 unfold eA at h
 refine vq aN Tryz.func101 rfl fun w X β0 hC hg=> ?_
 refine rq hC [.z (.b (true))] [1,2] [(1,V.tp (bQ p))] [] [] ?_
 obtain⟨x1,hx1,h⟩:=bd h
 refine rq hC [oC [] [20] (gF G hx1)] (fr 3 7) [(3,ms 20 1 3 aQ x1.1),(4,vB x1.2)] [(20,some (ar 112 1 3 aQ x1.1))] [(20,true)] (qs (rq hC [] [10,11] [(11,vB (!x1.2))] [] [] (aS h (fun c1 h=> ?_) (fun c1 h=> ?_))))
 ·obtain rfl:=so h
  exact rq hC [] [2] [(2,V.t T.nilS)] [] [] (qw (lk hC [.grow 2 0 112] [2] [(2,ms 0 1 3 aQ [])] [(0,some (ar 112 1 3 aQ []))] [(0,true)]) (qr eW))
 ·obtain rfl:=so h
  exact qk (rq hC [] [2,12] [(2,ms 20 1 3 aQ x1.1)] [] [] (qw (lk hC [.ren 2 20 0] [2] [(2,ms 0 1 3 aQ x1.1)] [(0,some (ar 112 1 3 aQ x1.1)),(20,none)] [(0,true)]) (qr eW)))
theorem qH{p}{x}{r}(h:dL n p x=some r):PQ G 228 [V.agg (bF p),V.agg (aBE x)] (V.agg (cS r)):=by
 unfold dL at h
 refine pq aN Tryz.func228 rfl fun w X hC=> ?_
 refine rq hC [.z (.b (true)),.z (.b (true)),.z (.nat 20)] [2,3,4] [(2,V.tp (bQ p)),(3,V.tp (aDp x)),(4,V.ref 20 0)] [(20,sc [vS [],V.t T.nilS,vI 0,vI 0,V.t T.nilS,vI 0,vS [],V.t T.nilS,V.t T.nilS])] [(20,true)] (qs ?_)
 obtain⟨x1,hx1,x2,hx2,h⟩:=dJ h
 obtain rfl:=so h
 exact dk hC bP [oR aC hx1,oR aL hx2] (fr 5 11) [] [(20,some (E.cells (cS x2)))] [] (qr eR)
theorem rD{n_a0}{r}(h:lX n n_a0=some r):PQ G 293 [vI n_a0] (vI r):=by
 unfold lX at h
 refine pq aN Tryz.func293 rfl fun w X hC=> ?_
 obtain rfl:=so h
 exact rq hC [] [2] [] [] [] (rq hC [oQ (show(1000:Int)≠0 by decide),oQ (show(1000:Int)≠0 by decide)] (fr 2 6) [(2,vI (Int.tmod (wr ((wr ((Int.tmod n_a0 1000)+999))+1)) 1000))] [] [] (qr eR))
theorem xN(G:GS): ∀(n:Nat) (p:Prog) (m:List Int) (e:Expr) (point:List Int) {r:Int} (h:i_Program_value n p m e point=some r),PQ G 229 [V.agg (bF p),vM rI m,V.agg (cY e),vM rI point] (vI r):=by
 intro n
 induction n with
 |zero=>intro p m e point r h;rw [i_Program_value.eq_def] at h;cases h
 |succ n ih=>
  intro p m e point r h
  rw [i_Program_value.eq_def] at h;dsimp only at h
  refine pq aN Tryz.func229 rfl fun w X hC=> ?_
  refine rq hC [.z (.b (true)),.z (.b (true))] [4,6,8] [(4,V.tp (bQ p)),(6,V.tp (gL e))] [] [] (qs (rq hC [] [11,12] [(12,vI e.kind)] [] [] (qb (rq hC [] [13,14] [(13,vB (decide (e.kind=1)))] [] [] (aS h (fun c1 h=> ?_) (fun c1 h=> ?_))))))
  ·obtain rfl:=so h
   exact rq hC [] [8,15,16] [(8,vI e.num)] [] [] (qr eR)
  ·refine rq hC [] [17,18] [(17,vB (decide (e.kind=2)))] [] [] (aS h (fun c2 h=> ?_) (fun c2 h=> ?_))
   ·obtain⟨x1,hx1,x2,hx2,h⟩:=dJ h
    obtain rfl:=so h
    exact rq hC [oV (eK G hx1),oV (rD G hx2)] [8,19,20,21,22,23] [(8,vI x2)] [] [] (qr eR)
   ·refine rq hC [] [24,25] [(24,vB (decide (e.kind=3)))] [] [] (aS h (fun c3 h=> ?_) (fun c3 h=> ?_))
    ·obtain⟨x3,hx3,x4,hx4,h⟩:=dJ h
     obtain rfl:=so h
     exact rq hC [oV (dE G hx3),oR rI hx4] [8,26,27,28,29,30,31,32,33] [(8,vI x4)] [] [] (qr eR)
    ·refine qk (qs ?_)
     obtain⟨x5,hx5,x6,hx6,x7,hx7,h⟩:=l8 h
     obtain⟨x8,hx8,h⟩:=bd h
     refine dk hC bP [.z (.row (d8 x5)),oQ (fD aJ hx5 (cR x5)),oV (ih p m x5 point hx6),.z (.row (d8 x7)),oQ (fD aJ hx7 (cR x7)),oV (ih p m x7 point hx8)] [9,10,34,35,36,37,38,39,40,41,42,43,44,45,46,47,48,49] [(9,vI x6),(10,vI x8)] [] [] (qs (rq hC [] [50,51] [(51,vI e.kind)] [] [] (qb (rq hC [] [52,53] [(52,vB (decide (e.kind=4)))] [] [] (aS h (fun c4 h=> ?_) (fun c4 h=> ?_))))))
     ·obtain⟨x9,hx9,h⟩:=bd h
      obtain rfl:=so h
      exact rq hC [oV (rD G hx9)] [8,54,55,56,57] [(8,vI x9)] [] [] (qr eR)
     ·refine rq hC [] [58,59] [(58,vB (decide (e.kind=5)))] [] [] (aS h (fun c5 h=> ?_) (fun c5 h=> ?_))
      ·obtain⟨x10,hx10,h⟩:=bd h
       obtain rfl:=so h
       exact rq hC [oV (rD G hx10)] [8,60,61,62,63] [(8,vI x10)] [] [] (qr eR)
      ·refine qk ?_
       obtain⟨x11,hx11,h⟩:=bd h
       obtain rfl:=so h
       exact rq hC [oV (rD G hx11)] [8,64,65,66,67] [(8,vI x11)] [] [] (qr eR)
theorem N2{p}{m}(mG:Nat){x}{r}(h:kF n p m x=some r):VQ G 149 [ar 3 mG 1 rI m] [V.agg (bF p),ms 0 mG 1 rI m,V.agg (aBE x)] (V.tup []) [ar 3 mG 1 rI r]:=by
 unfold kF at h
 refine vq aN Tryz.func149 rfl fun w X β0 hC hg=> ?_
 refine rq hC [.z (.b (true)),.z (.b (true))] [3,5] [(3,V.tp (bQ p)),(5,V.tp (aDp x))] [] [] ?_
 obtain⟨x1,hx1,h⟩:=bd h
 refine rq hC [oV (qH G hx1),.z (.nat 20)] (fr 6 4) [(6,V.ref 20 0)] [(20,some (E.cells (cS x1)))] [(20,true)] ?_
 obtain⟨x2,hx2,x3,hx3,x4,hx4,h⟩:=l8 h
 obtain⟨x5,hx5,h⟩:=bd h
 obtain rfl:=so h
 exact dk hC bP [oV (dE G hx2),.z (.b (true)),oV (xN G n p m x1.value x.point hx3),oQ (jP rI hx4),oX rI hx4,.z (.rows (List.map rI x5)),oQ (str rI hx5)] [1,10,11,12,13,14,15,16,17,18,19,20,21,22,23,24] [] [(0,some (ar 3 mG 1 rI x5))] [] eW
theorem tF{p}{m}{r}(h:eU n p m=some r):VQ G 58 [] [V.agg (bF p),vM rI m] (V.tup [ms 0 1 1 rI r.1,vB r.2]) [ar 3 1 1 rI r.1]:=by
 unfold eU at h
 refine vq aN Tryz.func58 rfl fun w X β0 hC hg=> ?_
 refine rq hC [.z (.b (true))] [2,4,5] [(2,V.tp (bQ p))] [] [] (qs ?_)
 obtain⟨x1,hx1,h⟩:=bd h
 refine rq hC [oV (B0 G hx1)] (fr 9 4) [(12,vB (!x1))] [] [] (aS h (fun c1 h=> ?_) (fun c1 h=> ?_))
 ·obtain rfl:=so h
  exact rq hC [] [4,5] [(4,V.t T.nilS),(5,vB false)] [] [] (qw (lk hC [.grow 4 0 3] [4] [(4,ms 0 1 1 rI [])] [(0,some (ar 3 1 1 rI []))] [(0,true)]) (qr eW))
 ·refine qk ?_
  obtain⟨x2,hx2,h⟩:=bd h
  refine rq hC [oC [] [20] (G.clone m hx2)] [6,13,14] [(6,ms 20 1 1 rI x2)] [(20,some (ar 3 1 1 rI x2))] [(20,true)] (qs ?_)
  obtain⟨x3,hx3,h⟩:=bd h
  refine rq hC [oC [] [21] (tH G hx3),oN aQ x3] (fr 15 4) [(16,ms 21 1 3 aQ x3),(17,vI (x3.length:Int)),(18,vI 0)] [(21,some (ar 112 1 3 aQ x3))] [(21,true)] (qb (bA (γ:=Nat) h (fun x_ g_=>aX [(2,V.tp (bQ p)),(6,ms 20 g_ 1 rI x_.1),(16,ms 21 1 3 aQ x3),(17,vI (x3.length:Int)),(18,vI x_.2)] [(20,ar 3 g_ 1 rI x_.1),(21,ar 112 1 3 aQ x3)] [20,21]) 1 (lS) ?_))
  rintro again7 ⟨x4,x5⟩ g6 h
  refine rq hC [] [19] [(19,vB (decide (x5<(x3.length:Int))))] [] [] (qs (aS h (fun c2 h=> ?_) (fun c2 h=> ?_)))
  ·refine qk (qs (qb ?_))
   obtain⟨x8,hx8,h⟩:=bd h
   refine rq hC [oQ (jP aQ hx8),oX aQ hx8,.z (.nat 22)] [8,20,21] [(8,V.ref 22 0)] [(22,some (E.cells (aBE x8)))] [(22,true)] ?_
   obtain⟨x9,hx9,x10,hx10,h⟩:=dJ h
   exact rk hC [oC [20] [] (N2 G g6 hx9),.z (.len 6 (List.map rI x9).length),oQ (aIN rI hx10)] [6,22,23,24,25] [(6,ms 20 g6 1 rI x9)] [(20,some (ar 3 g6 1 rI x9))] [(20,true)] (rk hC [] [18,26] [(18,vI (wr (x5+1)))] [] [] ⟨(x9,wr (x5+1)),g6,h,lS⟩)
  ·obtain rfl:=so h
   exact cN (rq hC [] [4,5,27] [(4,ms 20 g6 1 rI x4),(5,vB true)] [] [] (qw (lk hC [.ren 4 20 0] [4] [(4,ms 0 1 1 rI x4)] [(0,some (ar 3 1 1 rI x4)),(20,none)] [(0,true)]) (qr eW)))
theorem zR{p}{q}{seed}{r}(h:pC n p q seed=some r):PQ G 20 [V.agg (bF p),V.agg (bF q),vI seed] (vB r):=by
 unfold pC at h
 refine pq aN Tryz.func20 rfl fun w X hC=> ?_
 refine rq hC [.z (.b (true)),.z (.b (true))] [3,4,6] [(3,V.tp (bQ p)),(4,V.tp (bQ q))] [] [] ?_
 obtain⟨x1,hx1,x2,hx2,h⟩:=dJ h
 refine rq hC [oV (N5 G hx1),.z (.nat 20),oA (aCp rI hx2),oQ (wP hx2).1] [7,13,14,15] [(7,ms 20 1 1 rI x2)] [(20,some (ar 3 1 1 rI x2))] [(20,true)] (qs (rq hC [] [8] [(8,vI 0)] [] [] (qb (bA (γ:=Nat) h (fun x_ g_=>aX [(2,vI seed),(3,V.tp (bQ p)),(4,V.tp (bQ q)),(7,ms 20 g_ 1 rI x_.1),(8,vI x_.2)] [(20,ar 3 g_ 1 rI x_.1)] [20]) 1 (lS) ?_))))
 rintro again6 ⟨x3,x4⟩ g5 h
 refine qs (rq hC [oN rI x3] (fr 16 4) [(19,vB (decide (x4<(x3.length:Int))))] [] [] (aS h (fun c1 h=> ?_) (fun c1 h=> ?_)))
 ·refine qk (qs (qb ?_))
  obtain⟨x7,hx7,x8,hx8,h⟩:=dJ h
  exact rk hC [oQ (show(1000:Int)≠0 by decide),oQ (jP rI hx7),oX rI hx7,.z (.rows (List.map rI x8)),.z (.len 7 (List.map rI x8).length),oQ (str rI hx8),oQ (pO rI hx8)] [7,22,23,24,25,26,27,28,29,30,31] [(7,ms 20 g5 1 rI x8)] [(20,some (ar 3 g5 1 rI x8))] [] (rk hC [] [8,20,21] [(8,vI (wr (x4+1)))] [] [] ⟨(x8,wr (x4+1)),g5,h,lS⟩)
 ·refine cN ?_
  obtain⟨x9,hx9,h⟩:=bd h
  refine rq hC [.z (.at 6),.z (.fz 20 [7,34] []),oC [] [21] (tF G hx9)] [7,9,10,32,33,34,35,36,37] [(7,vM rI x3),(9,ms 21 1 1 rI x9.1),(10,vB x9.2)] [(20,none),(21,some (ar 3 1 1 rI x9.1))] [(21,true)] ?_
  obtain⟨x10,hx10,h⟩:=bd h
  refine rq hC [oC [] [22] (tF G hx10)] [11,12,38,39,40,41,42,43] [(11,ms 22 1 1 rI x10.1),(12,vB x10.2)] [(22,some (ar 3 1 1 rI x10.1))] [(22,true)] (vj h (fun x_=>aX [(6,vB x_)] [(21,ar 3 1 1 rI x9.1),(22,ar 3 1 1 rI x10.1)] [20,21,22]) (fun j11 h=> ?_) (fun x13 h=> ?_))
  ·
   refine aR h (fun c2 h=> ?_) (fun c2 h=> ?_)
   ·exact rk hC ([oF c2,oF c2]++sF 4) [6,44,45,46,47,48,49,50,51,52] [(6,vB false)] [] [] (lE h)
   ·refine aR h (fun c3 h=> ?_) (fun c3 h=> ?_)
    ·exact rk hC ([oT c2,oT c2]++rF 4 c3) [6,44,45,46,47,48,49,50,51,52] [(6,vB false)] [] [] (lE h)
    ·obtain⟨x12,hx12,h⟩:=bd h
     exact rk hC ([oT c2,oT c2]++rT 3 c3++[.z (.b (true)),oV (aCR G hx12),oT c3]) [6,44,45,46,47,48,49,50,51,52] [(6,vB x12)] [] [] (lE h)
  ·obtain rfl:=so h
   exact qr eR
theorem aBu{r_a0}{r}(h:pL n r_a0=some r):VQ G 121 [eL r_a0] [V.ref 0 0] (V.agg (bF r.1)) [eL r.2]:=by
 unfold pL at h
 refine vq aN Tryz.func121 rfl fun w X β0 hC hg=> ?_
 refine rq hC [.z (.nat 20)] [2] [(2,V.ref 20 0)] [(20,sc [V.t T.nilS,V.t T.nilS])] [(20,true)] ?_
 obtain⟨x1,hx1,h⟩:=bd h
 refine rq hC [.z (.int 0),oC [0] [] (kL G hx1)] [3,6,7,8] [(3,vS x1.1)] [(0,sR x1.2)] [(0,true)] ?_
 obtain⟨x2,hx2,x3,hx3,h⟩:=dJ h
 refine rq hC [oS hx2,oV (qE G hx3),.z (.nat 21)] [4,5,9,10,11,12,13,14] [(4,V.ref 21 0),(5,vB x3.2)] [(21,some (E.cells (bF x3.1)))] [(21,true)] (qs (vj h (fun x_=>aX [(0,V.ref 0 0),(2,V.ref 20 0),(4,V.ref 21 0),(20,vB x_.2.2)] [(0,E.cells [vM rY x_.1,vI x_.2.1]),(20,E.cells [V.t T.nilS,V.t T.nilS]),(21,E.cells (bF x3.1))] [0,20,21]) (fun j4 h=> ?_) ?_))
 ·
  refine aR h (fun c1 h=> ?_) (fun c1 h=> ?_)
  ·exact rk hC (rF 4 c1) (fr 15 6) [(20,vB false)] [] [] (lE h)
  ·obtain⟨x5,hx5,h⟩:=bd h
   exact rk hC [oT c1,oT c1,oC [0] [] (bH G hx5),oT c1,oT c1] (fr 15 6) [(20,vB (decide (x5.1=0)))] [(0,sR x5.2)] [(0,true)] (lE h)
 ·rintro⟨x6,x7,x8⟩ h
  refine aS h (fun c2 h=> ?_) (fun c2 h=> ?_)
  ·obtain rfl:=so h
   exact rq hC [] [21] [] [(20,some (E.cells (bF x3.1)))] [] (qr eW)
  ·refine qk ?_
   obtain⟨x9,hx9,h⟩:=bd h
   obtain rfl:=so h
   exact rq hC [oC [0] [] (aCT G hx9)] [22,23] [] [(0,sR x9.2),(20,some (E.cells (bF x9.1)))] [(0,true)] (qr eW)
theorem aBv{r_a0}{r}(h:tQ n r_a0=some r):VQ G 82 [eL r_a0] [V.ref 0 0] (V.tup [V.agg (bF r.1),vI r.2.1]) [eL r.2.2]:=by
 unfold tQ at h
 refine vq aN Tryz.func82 rfl fun w X β0 hC hg=> ?_
 refine rq hC [.z (.nat 20)] [2,3] [(2,V.ref 20 0)] [(20,sc [V.t T.nilS,V.t T.nilS])] [(20,true)] ?_
 obtain⟨x1,hx1,x2,hx2,h⟩:=dJ h
 refine rq hC [oC [0] [] (aBu G hx1),oC [0] [] (Z3 G hx2),.z (.nat 21)] (fr 4 5) [(4,V.ref 21 0)] [(0,sR x2.2),(21,some (E.cells (bF x2.1)))] [(0,true),(0,true),(21,true)] (qs ?_)
 obtain⟨x3,hx3,h⟩:=bd h
 obtain rfl:=so h
 exact dk hC bP [.z (.int 0),oC [0] [] (bC G hx3)] [3,9,10,11,12] [(3,vI x3.1)] [(0,sR x3.2),(20,some (E.cells (bF x2.1)))] [(0,true)] (qr eW)
theorem uC{p}{x}{r}(h:eV n p x=some r):VQ G 185 [] [V.agg (bF p),V.agg (aBE x)] (V.tup [ms 0 1 1 rI r.1,vI r.2]) [ar 3 1 1 rI r.1]:=by
 unfold eV at h
 refine vq aN Tryz.func185 rfl fun w X β0 hC hg=> ?_
 refine rq hC [.z (.b (true)),.z (.b (true))] (fr 2 4) [(2,V.tp (bQ p)),(3,V.tp (aDp x))] [] [] ?_
 obtain⟨x1,hx1,h⟩:=bd h
 refine rq hC [oV (qH G hx1),.z (.nat 20)] [6,10,11,12] [(6,V.ref 20 0)] [(20,some (E.cells (cS x1)))] [(20,true)] (rq hC [] [7] [(7,V.t T.nilS)] [] [] (qs ?_))
 obtain⟨x2,hx2,h⟩:=bd h
 refine rq hC [oC [] [21] (T7 G n x1.value hx2),oN aU x2] (fr 13 5) [(15,ms 21 1 2 aU x2),(16,vI (x2.length:Int)),(17,vI 0)] [(21,some (ar 77 1 2 aU x2))] [(21,true)] (qb (qw (lk hC [.grow 7 22 3] [7] [(7,ms 22 1 1 rI [])] [(22,some (ar 3 1 1 rI []))] [(22,true)]) (bA (γ:=Nat) h (fun x_ g_=>aX [(2,V.tp (bQ p)),(3,V.tp (aDp x)),(6,V.ref 20 0),(7,ms 22 g_ 1 rI x_.1),(15,ms 21 1 2 aU x2),(16,vI (x2.length:Int)),(17,vI x_.2)] [(20,E.cells (cS x1)),(21,ar 77 1 2 aU x2),(22,ar 3 g_ 1 rI x_.1)] [20,21,22]) 1 (lS) ?_)))
 rintro again6 ⟨x3,x4⟩ g5 h
 refine rq hC [] [18] [(18,vB (decide (x4<(x2.length:Int))))] [] [] (qs (aS h (fun c1 h=> ?_) (fun c1 h=> ?_)))
 ·refine qk (qs (qb ?_))
  obtain⟨x7,hx7,h⟩:=bd h
  refine rq hC [oQ (jP aU hx7),oX aU hx7,.z (.nat 23)] [9,19,20] [(9,V.ref 23 0)] [(23,some (E.cells (cO x7)))] [(23,true)] ?_
  obtain⟨x8,hx8,x9,hx9,h⟩:=dJ h
  exact rk hC [oV (dE G hx8),.z (.int 0),oA (aP rI hx9),oQ (bZ (r:=rI) 1 (fun _=>rfl) x3),oQ (bZ (r:=rI) 1 (fun _=>rfl) [x8])] [7,21,22,23,24,25,26,27,28] [(7,ms 22 (g5+1) 1 rI x9)] [(22,some (ar 3 (g5+1) 1 rI x9))] [] (rk hC [] [17,29] [(17,vI (wr (x4+1)))] [] [] ⟨(x9,wr (x4+1)),(g5+1),h,lS⟩)
 ·refine cN ?_
  obtain⟨x10,hx10,h⟩:=bd h
  obtain rfl:=so h
  exact rq hC [oV (dE G hx10)] [4,5,30,31,32,33,34,35,36] [(4,ms 22 g5 1 rI x3),(5,vI x10)] [] [] (qw (lk hC [.ren 4 22 0] [4] [(4,ms 0 1 1 rI x3)] [(0,some (ar 3 1 1 rI x3)),(22,none)] [(0,true)]) (qr eW))
theorem T6{p}{r}(h:wZ n p=some r):PQ G 86 [V.agg (bF p)] (V.tup [vP aHs r.1,vB r.2]):=by
 unfold wZ at h
 refine pmr aN Tryz.func86 rfl rfl rfl rfl rfl (aKk _ _ _) rfl ?_
 intro w X hC
 refine rq hC [.z (.b (true))] [1,2,3] [(1,V.tp (bQ p))] [] [] ?_
 obtain⟨x1,hx1,h⟩:=bd h
 refine rq hC [oC [] [20] (gF G hx1)] [4,5,11,12,13,14,15] [(4,ms 20 1 3 aQ x1.1),(5,vB x1.2)] [(20,some (ar 112 1 3 aQ x1.1))] [(20,true)] (qs (rq hC [] [16,17] [(17,vB (!x1.2))] [] [] (aS h (fun c1 h=> ?_) (fun c1 h=> ?_))))
 ·obtain rfl:=so h
  exact rq hC [] [2,3] [(2,V.t T.nilP),(3,vB false)] [] [] (qr eR)
 ·refine qk (rq hC [.z (.nat 21)] [6,18,19,20,21] [(6,V.ref 21 0)] [(21,sc [vM aH p.arrays,vM aC p.parts,ms 20 1 3 aQ x1.1,V.t T.nilS,V.t T.nilS])] [(21,true)] (qs (rq hC [oN aQ x1.1] [22,23,24] [(22,ms 20 1 3 aQ x1.1),(23,vI (x1.1.length:Int)),(24,vI 0)] [] [] (qb (qw (lk hC [.growc 21 3 22 48] [] [] [(22,some (ar 48 1 1 (rL rI) [])),(21,sc [vM aH p.arrays,vM aC p.parts,ms 20 1 3 aQ x1.1,ms 22 1 1 (rL rI) [],V.t T.nilS])] [(22,true)]) ?_)))))
  refine qw (lk hC [.growc 21 4 23 3] [] [] [(23,some (ar 3 1 1 rI [])),(21,sc [vM aH p.arrays,vM aC p.parts,ms 20 1 3 aQ x1.1,ms 22 1 1 (rL rI) [],ms 23 1 1 rI []])] [(23,true)]) (bA (γ:=Nat×Nat) h (fun x_ g_=>aX [(1,V.tp (bQ p)),(6,V.ref 21 0),(22,ms 20 1 3 aQ x1.1),(23,vI (x1.1.length:Int)),(24,vI x_.2.2)] [(20,ar 112 1 3 aQ x1.1),(21,E.cells [vM aH p.arrays,vM aC p.parts,ms 20 1 3 aQ x1.1,ms 22 g_.1 1 (rL rI) x_.1,ms 23 g_.2 1 rI x_.2.1]),(22,ar 48 g_.1 1 (rL rI) x_.1),(23,ar 3 g_.2 1 rI x_.2.1)] [20,21,22,23]) (1,1) (lS) ?_)
  rintro again7 ⟨x2,x3,x4⟩ ⟨g5,g6⟩ h
  refine rq hC [] [25] [(25,vB (decide (x4<(x1.1.length:Int))))] [] [] (qs (aS h (fun c2 h=> ?_) (fun c2 h=> ?_)))
  ·refine qk (qs (qb ?_))
   obtain⟨x8,hx8,h⟩:=bd h
   refine rq hC [oQ (jP aQ hx8),oX aQ hx8,.z (.nat 24)] [8,26,27] [(8,V.ref 24 0)] [(24,some (E.cells (aBE x8)))] [(24,true)] ?_
   obtain⟨x9,hx9,h⟩:=bd h
   refine rq hC [oC [] [25] (uC G hx9)] [9,10,28,29,30,31,32,33] [(9,ms 25 1 1 rI x9.1),(10,vI x9.2)] [(25,some (ar 3 1 1 rI x9.1))] [(25,true)] ?_
   obtain⟨x10,hx10,x11,hx11,h⟩:=dJ h
   exact dk hC bP [.z (.at 15),.z (.fz 25 [9,40] []),.z (.int 0),oA (aP (rL rI) hx10),.z (.int 0),oQ (bZ (r:=(rL rI)) 1 (fun _=>rfl) x2),oQ (bZ (r:=(rL rI)) 1 (fun _=>rfl) [x9.1]),oA (aP rI hx11),oQ (bZ (r:=rI) 1 (fun _=>rfl) x3),oQ (bZ (r:=rI) 1 (fun _=>rfl) [x9.2])] [9,34,35,36,37,38,39,40,41,42,43,44,45,46,47,48,49,50,51,52,53] [] [(25,none),(22,some (ar 48 (g5+1) 1 (rL rI) x10)),(23,some (ar 3 (g6+1) 1 rI x11)),(21,sc [vM aH p.arrays,vM aC p.parts,ms 20 1 3 aQ x1.1,ms 22 (g5+1) 1 (rL rI) x10,ms 23 (g6+1) 1 rI x11])] [] (rk hC [] [24,54] [(24,vI (wr (x4+1)))] [] [] ⟨(x10,x11,wr (x4+1)),((g5+1),(g6+1)),h,lS⟩)
  ·obtain rfl:=so h
   exact cN (rq hC [] [2,3,55] [(2,V.ref 21 0),(3,vB true)] [] [] (qw (lk hC [.fz 20 [22] [21],.fz 22 [] [21],.fz 23 [] [21],.fp 21 [2,6]] [2,6,22] [(2,V.tp [T.sl (List.map aH p.arrays),T.sl (List.map aC p.parts),T.sl (List.map aQ x1.1),T.sl (List.map (rL rI) x2),T.sl (List.map rI x3)]),(6,V.tp [T.sl (List.map aH p.arrays),T.sl (List.map aC p.parts),T.sl (List.map aQ x1.1),T.sl (List.map (rL rI) x2),T.sl (List.map rI x3)]),(22,vM aQ x1.1)] [(21,none),(20,none),(22,none),(23,none)] []) (qr eR)))
theorem nZ{p}{part}{r}(h:d6 n p part=some r):PQ G 87 [V.agg (bF p),vI part] (vB r):=by
 unfold d6 at h
 refine pq aN Tryz.func87 rfl fun w X hC=> ?_
 refine rq hC [.z (.b (true))] [2,4] [(2,V.tp (bQ p))] [] [] ?_
 obtain⟨x1,hx1,h⟩:=bd h
 obtain rfl:=so h
 exact rq hC [oN aC p.parts,oV (bM G hx1)] (fr 4 7) [(4,vB x1)] [] [] (qr eR)
theorem rO{p}{r}(h:gA n p=some r):VQ G 91 [] [V.agg (bF p)] (ms 0 1 3 aQ r) [ar 112 1 3 aQ r]:=by
 unfold gA at h
 refine vq aN Tryz.func91 rfl fun w X β0 hC hg=> ?_
 refine rq hC [.z (.b (true))] [1,2] [(1,V.tp (bQ p))] [] [] (rq hC [.z (.nat 20)] [3,8] [(3,ms 20 1 3 aQ [])] [(20,some (ar 112 1 3 aQ []))] [(20,true)] (qs (rq hC [] [4] [(4,vI 0)] [] [] (qb (bA (γ:=Nat) h (fun x_ g_=>aX [(1,V.tp (bQ p)),(3,ms 20 g_ 3 aQ x_.1),(4,vI x_.2)] [(20,ar 112 g_ 3 aQ x_.1)] [20]) 1 (lS) ?_)))))
 rintro again4 ⟨x1,x2⟩ g3 h
 refine qs (rq hC [oN aC p.parts] (fr 9 5) [(13,vB (decide (x2<(p.parts.length:Int))))] [] [] (aS h (fun c1 h=> ?_) (fun c1 h=> ?_)))
 ·refine qk (qs (qb ?_))
  obtain⟨x5,hx5,x6,hx6,h⟩:=dJ h
  refine rq hC [.z (.nat 21),oR aC hx5,oC [21] [] (xF G n [] 1 x5.nest [] hx6)] [5,16,17,18,19,20,21,22,23] [(5,ms 21 2 1 (rL rI) x6)] [(21,some (ar 48 2 1 (rL rI) x6))] [(21,true),(21,true)] (rq hC [] [6] [(6,vI 0)] [] [] (qb (bA (γ:=Nat) h (fun x_ g_=>aX [(1,V.tp (bQ p)),(3,ms 20 g_ 3 aQ x_.1),(4,vI x2),(5,ms 21 2 1 (rL rI) x6),(6,vI x_.2)] [(20,ar 112 g_ 3 aQ x_.1),(21,ar 48 2 1 (rL rI) x6)] [20,21]) g3 (lS) ?_)))
  rintro again10 ⟨x7,x8⟩ g9 h
  refine qs (rq hC [oN (rL rI) x6] (fr 24 4) [(27,vB (decide (x8<(x6.length:Int))))] [] [] (aS h (fun c2 h=> ?_) (fun c2 h=> ?_)))
  ·refine qk (qs (qb (rq hC [] [7] [(7,vI 0)] [] [] (qb (bA (γ:=Nat) h (fun x_ g_=>aX [(1,V.tp (bQ p)),(3,ms 20 g_ 3 aQ x_.1),(4,vI x2),(5,ms 21 2 1 (rL rI) x6),(6,vI x8),(7,vI x_.2)] [(20,ar 112 g_ 3 aQ x_.1),(21,ar 48 2 1 (rL rI) x6)] [20,21]) g9 (lS) ?_)))))
   rintro again14 ⟨x11,x12⟩ g13 h
   refine qs (rq hC [oR aC hx5,oN aL x5.body] (fr 30 9) [(38,vB (decide (x12<(x5.body.length:Int))))] [] [] (aS h (fun c3 h=> ?_) (fun c3 h=> ?_)))
   ·refine qk (qs (qb ?_))
    obtain⟨x15,hx15,x16,hx16,x17,hx17,h⟩:=l8 h
    exact rk hC [.z (.nat 22),oQ (jP (rL rI) hx15),oX (rL rI) hx15,oA (aP rI hx16),.z (.at 4),.z (.fz 22 [49] []),.z (.int 0),oQ (bZ (r:=rI) 1 (fun _=>rfl) []),oQ (bZ (r:=rI) 1 (fun _=>rfl) x15),oA (aP aQ hx17),oQ (bZ (r:=aQ) 3 tW x11),oQ (bZ (r:=aQ) 3 tW [(⟨x2,x12,x16⟩:Inst)])] [3,41,42,43,44,45,46,47,48,49,50,51,52] [(3,ms 20 (g13+1) 3 aQ x17)] [(22,none),(20,some (ar 112 (g13+1) 3 aQ x17))] [(22,true)] (rk hC [] [7,39,40] [(7,vI (wr (x12+1)))] [] [] ⟨(x17,wr (x12+1)),(g13+1),h,lS⟩)
   ·exact cN (rk hC [] [6,28,29] [(6,vI (wr (x8+1)))] [] [] ⟨(x11,wr (x8+1)),g13,h,lS⟩)
  ·exact cN (rk hC [] [4,14,15] [(4,vI (wr (x2+1)))] [] [] ⟨(x7,wr (x2+1)),g9,h,lS⟩)
 ·obtain rfl:=so h
  exact cN (rq hC [] [2,53] [(2,ms 20 g3 3 aQ x1)] [] [] (qw (lk hC [.ren 2 20 0] [2] [(2,ms 0 1 3 aQ x1)] [(0,some (ar 112 1 3 aQ x1)),(20,none)] [(0,true)]) (qr eW)))
theorem aCU{p}{r}(h:sH n p=some r):VQ G 188 [] [V.agg (bF p)] (ms 0 1 2 bJ r) [ar 204 1 2 bJ r]:=by
 unfold sH at h
 refine vq aN Tryz.func188 rfl fun w X β0 hC hg=> ?_
 refine rq hC [.z (.b (true))] [1,2] [(1,V.tp (bQ p))] [] [] (rq hC [.z (.nat 20)] [3,9] [(3,ms 20 1 2 bJ [])] [(20,some (ar 204 1 2 bJ []))] [(20,true)] ?_)
 obtain⟨x1,hx1,h⟩:=bd h
 refine rq hC [oC [] [21] (rO G hx1)] [4,10,11] [(4,ms 21 1 3 aQ x1)] [(21,some (ar 112 1 3 aQ x1))] [(21,true)] (qs (rq hC [] [5] [(5,vI 0)] [] [] (qb (bA (γ:=Nat) h (fun x_ g_=>aX [(1,V.tp (bQ p)),(3,ms 20 g_ 2 bJ x_.1),(4,ms 21 1 3 aQ x1),(5,vI x_.2)] [(20,ar 204 g_ 2 bJ x_.1),(21,ar 112 1 3 aQ x1)] [20,21]) 1 (lS) ?_))))
 rintro again5 ⟨x2,x3⟩ g4 h
 refine qs (rq hC [oN aQ x1] (fr 12 4) [(15,vB (decide (x3<(x1.length:Int))))] [] [] (aS h (fun c1 h=> ?_) (fun c1 h=> ?_)))
 ·refine qk (qs (qb (qs ?_)))
  obtain⟨x6,hx6,x7,hx7,x8,hx8,h⟩:=l8 h
  obtain⟨x9,hx9,h⟩:=bd h
  refine dk hC bP [oQ (jP aQ hx6),oX aQ hx6,oR aC hx7,oQ (jP aQ hx6),oX aQ hx6,oR aL hx8,oQ (jP aQ hx6),oX aQ hx6,oC [] [22] (zS G hx9)] [6,7,8,18,19,20,21,22,23,24,25,26,27,28,29,30,31,32,33,34,35,36,37,38,39,40,41,42,43,44,45,46] [(6,ms 22 1 1 rI x9.1),(7,vI x9.2.1)] [(22,some (ar 3 1 1 rI x9.1))] [(22,true)] ?_
  obtain⟨x10,hx10,h⟩:=bd h
  exact rk hC [.z (.at 4),.z (.fz 22 [6,48] []),.z (.int 0),oA (aP bJ hx10),oQ (bZ (r:=bJ) 2 G1 x2),oQ (bZ (r:=bJ) 2 G1 [(⟨x9.1,x9.2.1⟩:L6Use)])] [3,6,47,48,49,50,51,52] [(3,ms 20 (g4+1) 2 bJ x10)] [(22,none),(20,some (ar 204 (g4+1) 2 bJ x10))] [] (rk hC [] [5,16,17] [(5,vI (wr (x3+1)))] [] [] ⟨(x10,wr (x3+1)),(g4+1),h,lS⟩)
 ·obtain rfl:=so h
  exact cN (rq hC [] [2,53] [(2,ms 20 g4 2 bJ x2)] [] [] (qw (lk hC [.ren 2 20 0] [2] [(2,ms 0 1 2 bJ x2)] [(0,some (ar 204 1 2 bJ x2)),(20,none)] [(0,true)]) (qr eW)))
theorem O9{list}{r}(h:jK n list=some r):VQ G 190 [] [vM rB list] (ms 0 1 1 rI r) [ar 3 1 1 rI r]:=by
 unfold jK at h
 refine vq aN Tryz.func190 rfl fun w X β0 hC hg=> ?_
 refine rq hC [] [2] [] [] [] (rq hC [.z (.nat 20)] [3,5] [(3,ms 20 1 1 rI [])] [(20,some (ar 3 1 1 rI []))] [(20,true)] (qs (rq hC [] [4] [(4,vI 0)] [] [] (qb (bA (γ:=Nat) h (fun x_ g_=>aX [(0,vM rB list),(3,ms 20 g_ 1 rI x_.1),(4,vI x_.2)] [(20,ar 3 g_ 1 rI x_.1)] [20]) 1 (lS) ?_)))))
 rintro again4 ⟨x1,x2⟩ g3 h
 refine qs (rq hC [oN rB list] (fr 6 4) [(9,vB (decide (x2<(list.length:Int))))] [] [] (aS h (fun c1 h=> ?_) (fun c1 h=> ?_)))
 ·refine qk ?_
  obtain⟨j5,hj5,h⟩:=A1 h
  refine kS (γ:=Nat) (j:=j5) (r:=r) (fun x_ g_=>aX [(0,vM rB list),(3,ms 20 g_ 1 rI x_),(4,vI x2)] [(20,ar 3 g_ 1 rI x_)] [20]) ?_ ?_
  ·
   refine qb ?_
   obtain⟨x6,hx6,h⟩:=bd h
   refine rq hC [oR rB hx6] (fr 12 4) [(15,vB x6)] [] [] (aS h (fun c2 h=> ?_) (fun c2 h=> ?_))
   ·obtain⟨x7,hx7,h⟩:=bd h
    exact rk hC [.z (.int 0),oA (aP rI hx7),oQ (bZ (r:=rI) 1 (fun _=>rfl) x1),oQ (bZ (r:=rI) 1 (fun _=>rfl) [x2])] [3,16,17,18,19] [(3,ms 20 (g3+1) 1 rI x7)] [(20,some (ar 3 (g3+1) 1 rI x7))] [] ⟨x7,(g3+1),h,lS⟩
   ·exact qk ⟨x1,g3,h,lS⟩
  ·rintro x8 g9 h
   subst hj5
   exact rk hC [] [4,10,11] [(4,vI (wr (x2+1)))] [] [] ⟨(x8,wr (x2+1)),g9,h,lS⟩
 ·obtain rfl:=so h
  exact cN (rq hC [] [2,20] [(2,ms 20 g3 1 rI x1)] [] [] (qw (lk hC [.ren 2 20 0] [2] [(2,ms 0 1 1 rI x1)] [(0,some (ar 3 1 1 rI x1)),(20,none)] [(0,true)]) (qr eW)))
theorem aCS{p}{part}{many}{parts}{r}(h:wD n p part many parts=some r):PQ G 85 [V.agg (bF p),vI part,vI many,vM aC parts] (V.tup [V.agg (bF r.1),vB r.2]):=by
 unfold wD at h
 refine pq aN Tryz.func85 rfl fun w X hC=> ?_
 refine rq hC [.z (.b (true)),.z (.nat 20)] [4,8,9] [(4,V.tp (bQ p)),(8,V.ref 20 0)] [(20,sc [V.t T.nilS,V.t T.nilS])] [(20,true)] ?_
 obtain⟨x1,hx1,h⟩:=bd h
 refine rq hC [oC [] [21,22] (vE G hx1),.z (.nat 23)] [10,12,13] [(10,V.ref 23 0)] [(21,some (ar 90 1 2 aH x1.arrays)),(22,some (E.tree l7 2 1 (List.map aC x1.parts) [])),(23,sc [ms 21 1 2 aH x1.arrays,ms 22 1 2 aC x1.parts])] [(21,true),(22,true),(23,true)] (rq hC [.z (.nat 24)] [11,14,15,16] [(11,V.ref 24 0)] [(24,sc [ms 21 1 2 aH x1.arrays,V.t T.nilS])] [(24,true)] (qs (qw (lk hC [.shd 22,.fz 22 [] [23]] [] [] [(22,none),(23,sc [ms 21 1 2 aH x1.arrays,vM aC x1.parts])] []) ?_)))
 obtain⟨x2,hx2,x3,hx3,x4,hx4,h⟩:=l8 h
 obtain⟨x5,hx5,x6,hx6,h⟩:=dJ h
 refine dk hC bP [.z (.nat 25),oA (B4 aC hx2),oQ (bZ (r:=aC) 2 b9 x1.parts),oA (aP aC hx3),oQ (bZ (r:=aC) 2 b9 []),oQ (bZ (r:=aC) 2 b9 x2),oA (aP aC hx4),oQ (bZ (r:=aC) 2 b9 x3),oQ (bZ (r:=aC) 2 b9 parts),oA (aAC aC hx5),oQ (bZ (r:=aC) 2 b9 x1.parts),oA (aP aC hx6),oQ (bZ (r:=aC) 2 b9 x4),oQ (bZ (r:=aC) 2 b9 x5)] (fr 17 16) [] [(25,some (ar 46 4 2 aC x6)),(24,sc [ms 21 1 2 aH x1.arrays,ms 25 4 2 aC x6])] [(25,true)] (qs ?_)
 obtain⟨x7,hx7,h⟩:=bd h
 refine rq hC [.z (.at 3),.z (.fz 21 [] [23,24]),.z (.at 3),.z (.fz 25 [] [24]),oV (dD G hx7)] [33,34,35] [(35,vB (!x7))] [(23,some (E.cells (bF x1))),(24,sc [vM aH x1.arrays,vM aC x6]),(21,none),(25,none)] [] (aS h (fun c1 h=> ?_) (fun c1 h=> ?_))
 ·obtain rfl:=so h
  exact rq hC [] [9,36] [(9,vB false)] [(20,sc [V.t T.nilS,V.t T.nilS])] [] (qr eR)
 ·refine qk ?_
  obtain⟨x8,hx8,h⟩:=bd h
  obtain rfl:=so h
  exact rq hC [oC [] [26,27] (vE G hx8)] [9,37,38] [(9,vB true)] [(26,some (ar 90 1 2 aH x8.arrays)),(27,some (E.tree l7 2 1 (List.map aC x8.parts) [])),(20,sc [ms 26 1 2 aH x8.arrays,ms 27 1 2 aC x8.parts])] [(26,true),(27,true)] (qw (lk hC [.fz 26 [] [20]] [] [] [(20,sc [vM aH x8.arrays,ms 27 1 2 aC x8.parts]),(26,none)] []) (qw (lk hC [.shd 27,.fz 27 [] [20]] [] [] [(27,none),(20,some (E.cells (bF x8)))] []) (qr eR)))
theorem y8{code}{r}(h:gR n code=some r):PQ G 24 [vM rY code] (V.tup [V.agg (bF r.1),vI r.2]):=by
 unfold gR at h
 refine pq aN Tryz.func24 rfl fun w X hC=> ?_
 refine rq hC [.z (.nat 20)] [2,3] [(2,V.ref 20 0)] [(20,sc [V.t T.nilS,V.t T.nilS])] [(20,true)] ?_
 obtain⟨x1,hx1,x2,hx2,h⟩:=dJ h
 obtain rfl:=so h
 exact rq hC [oC [] [21] (aBt G hx1),oC [21] [] (aBv G hx2)] (fr 3 6) [(3,vI x2.2.1)] [(21,sR x2.2.2),(20,some (E.cells (bF x2.1)))] [(21,true),(21,true)] (qr eR)
theorem P0{s}{v}{r}(h:oI n s v=some r):PQ G 210 [vM rI s,vI v] (vI r):=by
 unfold oI at h
 refine pq aN Tryz.func210 rfl fun w X hC=> ?_
 refine rq hC [] [4] [] [] [] (qs (rq hC [oN rI s] [6,7,8] [(7,vI (s.length:Int)),(8,vI 0)] [] [] (qb (jI h (fun x_=>aX [(0,vM rI s),(1,vI v),(7,vI (s.length:Int)),(8,vI x_)] [] []) lS ?_))))
 rintro again2 x1 h
 refine rq hC [] [9] [(9,vB (decide (x1<(s.length:Int))))] [] [] (qs (aS h (fun c1 h=> ?_) (fun c1 h=> ?_)))
 ·refine qk (qs (qb (rq hC [] [5,10] [(5,vI x1)] [] [] ?_)))
  obtain⟨x3,hx3,h⟩:=bd h
  refine rq hC [oR rI hx3] (fr 11 6) [(16,vB (decide (v=x3)))] [] [] (aS h (fun c2 h=> ?_) (fun c2 h=> ?_))
  ·obtain rfl:=so h
   exact rq hC [] [4,17] [(4,vI x1)] [] [] (qr eR)
  ·exact qk (rk hC [] [8,18] [(8,vI (wr (x1+1)))] [] [] (lE h))
 ·obtain rfl:=so h
  exact cN (rq hC [] [4] [(4,vI (-1))] [] [] (qr eR))
theorem y9{s}{v}{r}(h:gT n s v=some r):PQ G 186 [vM rI s,vI v] (vB r):=by
 unfold gT at h
 refine pq aN Tryz.func186 rfl fun w X hC=> ?_
 refine rq hC [] [4] [] [] [] ?_
 obtain⟨x1,hx1,h⟩:=bd h
 obtain rfl:=so h
 exact rq hC [oV (P0 G hx1)] (fr 4 5) [(4,vB (decide ((0:Int)≤x1)))] [] [] (qr eR)
theorem vV{t}{to_a1}{r}(h:fN n t to_a1=some r):VQ G 187 [] [V.tp [T.sl (List.map aH t.program.arrays),T.sl (List.map aC t.program.parts),T.sl (List.map aQ t.list),T.sl (List.map (rL rI) t.reads),T.sl (List.map rI t.writes)],vI to_a1] (ms 0 1 1 rI r) [ar 3 1 1 rI r]:=by
 unfold fN at h
 refine vq aN Tryz.func187 rfl fun w X β0 hC hg=> ?_
 refine rq hC [] [4] [] [] [] (rq hC [] [5] [(5,V.t T.nilS)] [] [] (qs ?_))
 obtain⟨x1,hx1,h⟩:=bd h
 refine rq hC [oR (rL rI) hx1,oN rI x1] (fr 9 9) [(15,vM rI x1),(16,vI (x1.length:Int)),(17,vI 0)] [] [] (qb (qw (lk hC [.grow 5 20 3] [5] [(5,ms 20 1 1 rI [])] [(20,some (ar 3 1 1 rI []))] [(20,true)]) (bA (γ:=Nat) h (fun x_ g_=>aX [(0,V.tp [T.sl (List.map aH t.program.arrays),T.sl (List.map aC t.program.parts),T.sl (List.map aQ t.list),T.sl (List.map (rL rI) t.reads),T.sl (List.map rI t.writes)]),(1,vI to_a1),(5,ms 20 g_ 1 rI x_.1),(15,vM rI x1),(16,vI (x1.length:Int)),(17,vI x_.2)] [(20,ar 3 g_ 1 rI x_.1)] [20]) 1 (lS) ?_)))
 rintro again5 ⟨x2,x3⟩ g4 h
 refine rq hC [] [18] [(18,vB (decide (x3<(x1.length:Int))))] [] [] (qs (aS h (fun c1 h=> ?_) (fun c1 h=> ?_)))
 ·refine qk (qs (qb ?_))
  obtain⟨x6,hx6,h⟩:=bd h
  refine rq hC [oR rI hx6] [7,19,20] [(7,vI x6)] [] [] (rq hC [] [8,21,22] [(8,vI (wr (to_a1-1)))] [] [] (qs (qb (jI h (fun x_=>aX [(0,V.tp [T.sl (List.map aH t.program.arrays),T.sl (List.map aC t.program.parts),T.sl (List.map aQ t.list),T.sl (List.map (rL rI) t.reads),T.sl (List.map rI t.writes)]),(1,vI to_a1),(5,ms 20 g4 1 rI x2),(7,vI x6),(8,vI x_),(15,vM rI x1),(16,vI (x1.length:Int)),(17,vI x3)] [(20,ar 3 g4 1 rI x2)] [20]) lS ?_))))
  rintro again8 x7 h
  refine qs (vj h (fun x_=>aX [(0,V.tp [T.sl (List.map aH t.program.arrays),T.sl (List.map aC t.program.parts),T.sl (List.map aQ t.list),T.sl (List.map (rL rI) t.reads),T.sl (List.map rI t.writes)]),(1,vI to_a1),(5,ms 20 g4 1 rI x2),(7,vI x6),(8,vI x7),(15,vM rI x1),(16,vI (x1.length:Int)),(17,vI x3),(35,vB x_)] [(20,ar 3 g4 1 rI x2)] [20]) (fun j9 h=> ?_) (fun x11 h=> ?_))
  ·
   refine aR h (fun c2 h=> ?_) (fun c2 h=> ?_)
   ·exact rk hC (rF 10 c2) (fr 23 13) [(35,vB false)] [] [] (lE h)
   ·obtain⟨x10,hx10,h⟩:=bd h
    exact rk hC (rT 6 c2++[oR rI hx10]++rT 4 c2) (fr 23 13) [(35,vB (!decide (x10=x6)))] [] [] (lE h)
  ·refine aS h (fun c3 h=> ?_) (fun c3 h=> ?_)
   ·exact qk (qb (rk hC [] [8,36,37] [(8,vI (wr (x7-1)))] [] [] (lE h)))
   ·refine cN ?_
    obtain⟨x12,hx12,h⟩:=bd h
    exact rk hC [.z (.int 0),oA (aP rI hx12),oQ (bZ (r:=rI) 1 (fun _=>rfl) x2),oQ (bZ (r:=rI) 1 (fun _=>rfl) [x7])] [5,38,39,40,41] [(5,ms 20 (g4+1) 1 rI x12)] [(20,some (ar 3 (g4+1) 1 rI x12))] [] (rk hC [] [17,42] [(17,vI (wr (x3+1)))] [] [] ⟨(x12,wr (x3+1)),(g4+1),h,lS⟩)
 ·obtain rfl:=so h
  exact cN (rq hC [] [4,43] [(4,ms 20 g4 1 rI x2)] [] [] (qw (lk hC [.ren 4 20 0] [4] [(4,ms 0 1 1 rI x2)] [(0,some (ar 3 1 1 rI x2)),(20,none)] [(0,true)]) (qr eW)))
theorem A8{t}{r}(h:iW n t=some r):VQ G 88 [] [V.tp [T.sl (List.map aH t.program.arrays),T.sl (List.map aC t.program.parts),T.sl (List.map aQ t.list),T.sl (List.map (rL rI) t.reads),T.sl (List.map rI t.writes)]] (ms 0 1 1 rB r) [ar 4 1 1 rB r]:=by
 unfold iW at h
 refine vq aN Tryz.func88 rfl fun w X β0 hC hg=> ?_
 refine rq hC [] [2] [] [] [] ?_
 obtain⟨x1,hx1,h⟩:=bd h
 refine rq hC [oN aQ t.list,.z (.nat 20),oA (aCp rB hx1),oQ (wP hx1).1] [3,7,8,9,10,11,12] [(3,ms 20 1 1 rB x1)] [(20,some (ar 4 1 1 rB x1))] [(20,true)] (qs (rq hC [oN aQ t.list] [4,13,14,15,16,17,18] [(4,vI (wr ((t.list.length:Int)-1)))] [] [] (qb (bA (γ:=Nat) h (fun x_ g_=>aX [(0,V.tp [T.sl (List.map aH t.program.arrays),T.sl (List.map aC t.program.parts),T.sl (List.map aQ t.list),T.sl (List.map (rL rI) t.reads),T.sl (List.map rI t.writes)]),(3,ms 20 g_ 1 rB x_.1),(4,vI x_.2)] [(20,ar 4 g_ 1 rB x_.1)] [20]) 1 (lS) ?_))))
 rintro again5 ⟨x2,x3⟩ g4 h
 refine qs (rq hC [] [19,20] [(20,vB (decide ((0:Int)≤x3)))] [] [] (aS h (fun c1 h=> ?_) (fun c1 h=> ?_)))
 ·refine qk ?_
  obtain⟨j6,hj6,h⟩:=A1 h
  refine kS (γ:=Nat) (j:=j6) (r:=r) (fun x_ g_=>aX [(0,V.tp [T.sl (List.map aH t.program.arrays),T.sl (List.map aC t.program.parts),T.sl (List.map aQ t.list),T.sl (List.map (rL rI) t.reads),T.sl (List.map rI t.writes)]),(3,ms 20 g_ 1 rB x_),(4,vI x3)] [(20,ar 4 g_ 1 rB x_)] [20]) ?_ ?_
  ·
   refine qb (qs (vj h (fun x_=>aX [(0,V.tp [T.sl (List.map aH t.program.arrays),T.sl (List.map aC t.program.parts),T.sl (List.map aQ t.list),T.sl (List.map (rL rI) t.reads),T.sl (List.map rI t.writes)]),(3,ms 20 g4 1 rB x2),(4,vI x3),(44,vB x_)] [(20,ar 4 g4 1 rB x2)] [20]) (fun j7 h=> ?_) (fun x12 h=> ?_)))
   ·
    obtain⟨x8,hx8,h⟩:=bd h
    refine aR h (fun c2 h=> ?_) (fun c2 h=> ?_)
    ·exact dk hC bP ([oQ (jP rB hx8),oX rB hx8]++rF 16 c2) (fr 23 22) [(44,vB false)] [] [] (lE h)
    ·obtain⟨x9,hx9,x10,hx10,x11,hx11,h⟩:=l8 h
     exact dk hC bP ([oQ (jP rB hx8),oX rB hx8]++rT 7 c2++[oA (aAC rI hx9),oQ (bZ (r:=rI) 1 (fun _=>rfl) t.writes)]++rT 6 c2++[oR rI hx10,oT c2,oT c2,oV (y9 G hx11),oT c2]) (fr 23 22) [(44,vB x11)] [] [] (lE h)
   ·refine aS h (fun c3 h=> ?_) (fun c3 h=> ?_)
    ·exact cN ⟨x2,g4,h,lS⟩
    ·refine qk ?_
     obtain⟨x13,hx13,x14,hx14,h⟩:=dJ h
     refine rq hC [oQ (jP rB hx13),oX rB hx13,.z (.rows (List.map rB x14)),.z (.len 3 (List.map rB x14).length),oQ (str rB hx14),oQ (pO rB hx14)] [3,45,46,47] [(3,ms 20 g4 1 rB x14)] [(20,some (ar 4 g4 1 rB x14))] [] ?_
     obtain⟨x15,hx15,h⟩:=bd h
     refine rq hC [oC [] [21] (vV G hx15),oN rI x15] (fr 48 5) [(50,ms 21 1 1 rI x15),(51,vI (x15.length:Int)),(52,vI 0)] [(21,some (ar 3 1 1 rI x15))] [(21,true)] (qb (bA (γ:=Nat) h (fun x_ g_=>aX [(0,V.tp [T.sl (List.map aH t.program.arrays),T.sl (List.map aC t.program.parts),T.sl (List.map aQ t.list),T.sl (List.map (rL rI) t.reads),T.sl (List.map rI t.writes)]),(3,ms 20 g_ 1 rB x_.1),(4,vI x3),(50,ms 21 1 1 rI x15),(51,vI (x15.length:Int)),(52,vI x_.2)] [(20,ar 4 g_ 1 rB x_.1),(21,ar 3 1 1 rI x15)] [20,21]) g4 (lS) ?_))
     rintro again19 ⟨x16,x17⟩ g18 h
     refine rq hC [] [53] [(53,vB (decide (x17<(x15.length:Int))))] [] [] (qs (aS h (fun c4 h=> ?_) (fun c4 h=> ?_)))
     ·refine qk (vj h (fun x_=>aX [(0,V.tp [T.sl (List.map aH t.program.arrays),T.sl (List.map aC t.program.parts),T.sl (List.map aQ t.list),T.sl (List.map (rL rI) t.reads),T.sl (List.map rI t.writes)]),(3,ms 20 g18 1 rB x_),(4,vI x3),(50,ms 21 1 1 rI x15),(51,vI (x15.length:Int)),(52,vI x17)] [(20,ar 4 g18 1 rB x_),(21,ar 3 1 1 rI x15)] [20,21]) (fun j20 h=> ?_) (fun x24 h=> ?_))
      ·
       refine qb ?_
       obtain⟨x21,hx21,h⟩:=bd h
       refine rq hC [oQ (jP rI hx21),oX rI hx21] [6,54,55] [(6,vI x21)] [] [] (rq hC [] [56,57] [(57,vB (decide ((0:Int)≤x21)))] [] [] (aS h (fun c5 h=> ?_) (fun c5 h=> ?_)))
       ·obtain⟨x22,hx22,x23,hx23,h⟩:=dJ h
        exact rk hC [oQ (jP rB hx22),oX rB hx22,.z (.rows (List.map rB x23)),.z (.len 3 (List.map rB x23).length),oQ (str rB hx23),oQ (pO rB hx23)] [3,58,59,60] [(3,ms 20 g18 1 rB x23)] [(20,some (ar 4 g18 1 rB x23))] [] (lE h)
       ·exact qk (lE h)
      ·exact rk hC [] [52,61] [(52,vI (wr (x17+1)))] [] [] ⟨(x24,wr (x17+1)),g18,h,lS⟩
     ·exact cN ⟨x16,g18,h,lS⟩
  ·rintro x25 g26 h
   subst hj6
   exact rk hC [] [4,21,22] [(4,vI (wr (x3-1)))] [] [] ⟨(x25,wr (x3-1)),g26,h,lS⟩
 ·obtain rfl:=so h
  exact cN (rq hC [] [2,62] [(2,ms 20 g4 1 rB x2)] [] [] (qw (lk hC [.ren 2 20 0] [2] [(2,ms 0 1 1 rB x2)] [(0,some (ar 4 1 1 rB x2)),(20,none)] [(0,true)]) (qr eW)))
theorem A7{s}{i}{j}(gs:Nat){r}(h:lM n s i j=some r):
  VQ G 89 [ar 46 gs 2 aC s] [ms 0 gs 2 aC s,vI i,vI j] (ms 0 gs 2 aC (r.2.take r.1)) [ar 46 gs 2 aC r.2]:=by
 unfold lM at h
 refine vq aN Tryz.func89 rfl fun w X β0 hC hg=> ?_
 refine rq hC [] [6] [] [] [] (B5 (decide ((0:Int)≤i)) (fun c1=> ?_) (fun c1=> ?_))
 ·have h:=bf c1 h
  exact nof h
 have h:=bt c1 h
 refine B5 (decide (i≤j)) (fun c2=> ?_) (fun c2=> ?_)
 ·have h:=bf c2 h
  exact nof h
 have h:=bt c2 h
 refine B5 (decide (j≤(s.length:Int))) (fun c3=> ?_) (fun c3=> ?_)
 ·have h:=bf c3 h
  exact nof h
 have h:=bt c3 h
 have g0:=of_decide_eq_true c1
 have g1:=of_decide_eq_true c2
 have g2:=of_decide_eq_true c3
 refine rq hC [oN aC s,oQ (dlS aC s g0 g1 g2)] (fr 8 6) [] [] [] (qs (rq hC [] [14,15,16] [(16,vB (decide (i=j)))] [] [] (aS h (fun c4 h=> ?_) (fun c4 h=> ?_))))
 ·obtain rfl:=so h
  exact rq hC [.z (.at 0),.z (.len 6 (List.map aC (s.take s.length)).length),oQ (aJS aC s)] [6,17] [(6,ms 0 gs 2 aC (s.take s.length))] [] [] (qr eW)
 ·have g4:i<j:=by have:=of_decide_eq_false c4;omega
  refine qk (rq hC [oN aC s] [7,18,19] [(7,vI (s.length:Int))] [] [] ?_)
  by_cases g3:j<(s.length:Int)
  ·obtain rfl:=so h
   exact qs (dk hC bP [.z (.nat 0),.z (.nat i.toNat),.z (.nat j.toNat),.z (.nat (s.length-j.toNat)),.z (.rows (List.map aC (A3 s i j))),oQ (dlA aC s g0 g1 g2),oQ (aE0 aC s (show 0≤j by omega) g3),oQ (aKv aC s g0 g1 g2),oQ (aKu aC s g0 g1 g2),oQ (aKt aC s i j)] [0,20,21,22,23,24,25,26] [(0,V.msl 0 gs 2 0 (gE s i j))] [(0,some (ar 46 gs 2 aC (A3 s i j)))] [] (rq hC [.z (.nat (gE s i j)),.z (.int 1),.z (.nat (gE s i j)),.z (.nat (s.length-(gE s i j))),.z (.rows (List.map aC (rV s i j (⟨[],[]⟩:Part)))),oQ (Eq.refl (gE s i j)),oQ (dlC aC s (A3 s i j) (k:=2) (by decide) g0 g4 g2 (aBh s g0 g1 g2) rfl),oQ (dlD aC s (⟨[],[]⟩:Part) g0 g4 g2)] (fr 27 5) [] [(0,some (ar 46 gs 2 aC (rV s i j (⟨[],[]⟩:Part))))] [] (rq hC [.z (.at 0),.z (.len 6 (List.map aC ((rV s i j (⟨[],[]⟩:Part)).take (gE s i j))).length),oQ (dlL aC s (⟨[],[]⟩:Part) g0 g4 g2)] [6,32] [(6,ms 0 gs 2 aC ((rV s i j (⟨[],[]⟩:Part)).take (gE s i j)))] [] [] (qr eW))))
  ·obtain rfl:=so h
   exact qs (dk hC bP [.z (.nat 0),.z (.nat i.toNat),.z (.int 0),.z (.int 0),oQ (dlA aC s g0 g1 g2),oQ (dlE aC s g0 g1 g2 g3)] [0,20,21,22,23,24,25,26] [(0,V.msl 0 gs 2 0 (i.toNat))] [] [] (rq hC [.z (.nat (i.toNat)),.z (.int 1),.z (.nat (i.toNat)),.z (.nat (s.length-(i.toNat))),.z (.rows (List.map aC (rV s i j (⟨[],[]⟩:Part)))),oQ (Eq.refl (i.toNat)),oQ (dlC aC s s (k:=2) (by decide) g0 g4 g2 rfl (dlM s g2 g3)),oQ (aKs aC s (⟨[],[]⟩:Part) g0 g4 g2 g3)] (fr 27 5) [] [(0,some (ar 46 gs 2 aC (rV s i j (⟨[],[]⟩:Part))))] [] (rq hC [.z (.at 0),.z (.len 6 (List.map aC ((rV s i j (⟨[],[]⟩:Part)).take (gE s i j))).length),oQ ((dlM s g2 g3).trans (dlL aC s (⟨[],[]⟩:Part) g0 g4 g2))] [6,32] [(6,ms 0 gs 2 aC ((rV s i j (⟨[],[]⟩:Part)).take (gE s i j)))] [] [] (qr eW))))
theorem Z8{p}{part}{r}(h:nQ n p part=some r):PQ G 25 [V.agg (bF p),vI part] (V.tup [V.agg (bF r.1),vB r.2]):=by
 unfold nQ at h
 refine pq aN Tryz.func25 rfl fun w X hC=> ?_
 refine rq hC [.z (.b (true)),.z (.nat 20)] [2,4,5] [(2,V.tp (bQ p)),(4,V.ref 20 0)] [(20,sc [V.t T.nilS,V.t T.nilS])] [(20,true)] (qs ?_)
 obtain⟨x1,hx1,h⟩:=bd h
 refine aR h (fun c1 h=> ?_) (fun c1 h=> ?_)
 ·refine rk hC [.z (.v (V.tup [V.t T.nilP,vB x1.2])),oQ (vPn c1 (T6 G hx1))] [6,7,11,12,13,14,15] [(6,V.t T.nilP),(7,vB x1.2)] [] [] (qs (vj h (fun x_=>aX [(1,vI part),(2,V.tp (bQ p)),(4,V.ref 20 0),(6,V.t T.nilP),(23,vB x_)] [(20,E.cells [V.t T.nilS,V.t T.nilS])] [20]) (fun j2 h=> ?_) (fun x4 h=> ?_)))
  ·
   refine aR h (fun c2 h=> ?_) (fun c2 h=> ?_)
   ·obtain⟨x3,hx3,h⟩:=bd h
    exact rk hC (rF 3 c2++[oV (nZ G hx3),oF c2,oF c2]) (fr 16 8) [(23,vB (!x3))] [] [] (lE h)
   ·exact rk hC (rT 5 c2) (fr 16 8) [(23,vB true)] [] [] (lE h)
  ·refine aS h (fun c3 h=> ?_) (fun c3 h=> ?_)
   ·obtain rfl:=so h
    exact rq hC [] [5,24] [(5,vB false)] [(20,sc [V.t T.nilS,V.t T.nilS])] [] (qr eR)
   ·exact qk (qs (qs (nof h)))
 ·refine rk hC [.z (.v (V.tup [V.tp [T.sl (List.map aH (((x1.1.getD default).program).arrays)),T.sl (List.map aC (((x1.1.getD default).program).parts)),T.sl (List.map aQ ((x1.1.getD default).list)),T.sl (List.map (rL rI) ((x1.1.getD default).reads)),T.sl (List.map rI ((x1.1.getD default).writes))],vB x1.2])),oQ (vPs c1 (T6 G hx1))] [6,7,11,12,13,14,15] [(6,V.tp [T.sl (List.map aH (((x1.1.getD default).program).arrays)),T.sl (List.map aC (((x1.1.getD default).program).parts)),T.sl (List.map aQ ((x1.1.getD default).list)),T.sl (List.map (rL rI) ((x1.1.getD default).reads)),T.sl (List.map rI ((x1.1.getD default).writes))]),(7,vB x1.2)] [] [] (qs (vj h (fun x_=>aX [(1,vI part),(2,V.tp (bQ p)),(4,V.ref 20 0),(6,V.tp [T.sl (List.map aH (((x1.1.getD default).program).arrays)),T.sl (List.map aC (((x1.1.getD default).program).parts)),T.sl (List.map aQ ((x1.1.getD default).list)),T.sl (List.map (rL rI) ((x1.1.getD default).reads)),T.sl (List.map rI ((x1.1.getD default).writes))]),(23,vB x_)] [(20,E.cells [V.t T.nilS,V.t T.nilS])] [20]) (fun j5 h=> ?_) (fun x7 h=> ?_)))
  ·
   refine aR h (fun c4 h=> ?_) (fun c4 h=> ?_)
   ·obtain⟨x6,hx6,h⟩:=bd h
    exact rk hC (rF 3 c4++[oV (nZ G hx6),oF c4,oF c4]) (fr 16 8) [(23,vB (!x6))] [] [] (lE h)
   ·exact rk hC (rT 5 c4) (fr 16 8) [(23,vB true)] [] [] (lE h)
  ·refine aS h (fun c5 h=> ?_) (fun c5 h=> ?_)
   ·obtain rfl:=so h
    exact rq hC [] [5,24] [(5,vB false)] [(20,sc [V.t T.nilS,V.t T.nilS])] [] (qr eR)
   ·refine qk (qs ?_)
    obtain⟨x8,hx8,h⟩:=bd h
    refine rq hC [oC [] [21] (A8 G hx8),oN rB x8] (fr 25 4) [(26,ms 21 1 1 rB x8),(27,vI (x8.length:Int)),(28,vI 0)] [(21,some (ar 4 1 1 rB x8))] [(21,true)] (qb (jI h (fun x_=>aX [(1,vI part),(2,V.tp (bQ p)),(4,V.ref 20 0),(6,V.tp [T.sl (List.map aH (((x1.1.getD default).program).arrays)),T.sl (List.map aC (((x1.1.getD default).program).parts)),T.sl (List.map aQ ((x1.1.getD default).list)),T.sl (List.map (rL rI) ((x1.1.getD default).reads)),T.sl (List.map rI ((x1.1.getD default).writes))]),(26,ms 21 1 1 rB x8),(27,vI (x8.length:Int)),(28,vI x_)] [(20,E.cells [V.t T.nilS,V.t T.nilS]),(21,ar 4 1 1 rB x8)] [20,21]) lS ?_))
    rintro again10 x9 h
    refine rq hC [] [29] [(29,vB (decide (x9<(x8.length:Int))))] [] [] (qs (aS h (fun c6 h=> ?_) (fun c6 h=> ?_)))
    ·refine qk (qs (qb ?_))
     obtain⟨x11,hx11,h⟩:=bd h
     refine rq hC [oQ (jP rB hx11),oX rB hx11] [8,9,30,31,32] [(8,vI x9),(9,vB x11)] [] [] (vj h (fun x_=>aX [(1,vI part),(2,V.tp (bQ p)),(4,V.ref 20 0),(6,V.tp [T.sl (List.map aH (((x1.1.getD default).program).arrays)),T.sl (List.map aC (((x1.1.getD default).program).parts)),T.sl (List.map aQ ((x1.1.getD default).list)),T.sl (List.map (rL rI) ((x1.1.getD default).reads)),T.sl (List.map rI ((x1.1.getD default).writes))]),(26,ms 21 1 1 rB x8),(27,vI (x8.length:Int)),(28,vI x9),(45,vB x_)] [(20,E.cells [V.t T.nilS,V.t T.nilS]),(21,ar 4 1 1 rB x8)] [20,21]) (fun j12 h=> ?_) (fun x14 h=> ?_))
     ·
      refine aR h (fun c7 h=> ?_) (fun c7 h=> ?_)
      ·exact rk hC (rF 11 c7) (fr 33 13) [(45,vB false)] [] [] (lE h)
      ·obtain⟨x13,hx13,h⟩:=bd h
       exact rk hC (rT 6 c7++[oR aQ hx13]++rT 5 c7) (fr 33 13) [(45,vB (decide (x13.part=part)))] [] [] (lE h)
     ·refine aS h (fun c8 h=> ?_) (fun c8 h=> ?_)
      ·obtain rfl:=so h
       exact rq hC [] [5,46] [(5,vB false)] [(20,sc [V.t T.nilS,V.t T.nilS])] [] (qr eR)
      ·exact qk (rk hC [] [28,47] [(28,vI (wr (x9+1)))] [] [] (lE h))
    ·refine cN ?_
     obtain⟨x15,hx15,h⟩:=bd h
     refine rq hC [oC [] [22,23] (A9 G hx15),.z (.nat 24)] [10,48,49] [(10,V.ref 24 0)] [(22,some (ar 90 1 2 aH x15.arrays)),(23,some (ar 46 1 2 aC x15.parts)),(24,sc [ms 22 1 2 aH x15.arrays,ms 23 1 2 aC x15.parts])] [(22,true),(23,true),(24,true)] ?_
     obtain⟨x16,hx16,h⟩:=bd h
     obtain rfl:=so h
     exact rq hC [oC [23] [] (A7 G 1 hx16),.z (.cut 23 x16.1 (List.map aC (x16.2.take x16.1))),oQ (aKw aC x16.2 x16.1)] (fr 50 7) [] [(23,some (ar 46 1 2 aC (x16.2.take x16.1))),(24,sc [ms 22 1 2 aH x15.arrays,ms 23 1 2 aC (x16.2.take x16.1)])] [(23,true)] (rq hC [.z (.at 3),.z (.fz 22 [] [24]),.z (.at 3),.z (.fz 23 [] [24])] [5,57] [(5,vB true)] [(24,sc [vM aH x15.arrays,vM aC (x16.2.take x16.1)]),(22,none),(23,none),(20,sc [vM aH x15.arrays,vM aC (x16.2.take x16.1)])] [] (qr eR))
theorem Z2{uses}{to_a1}{cell}{r}(h:nA n uses to_a1 cell=some r):PQ G 189 [vM bJ uses,vI to_a1,vI cell] (vI r):=by
 unfold nA at h
 refine pq aN Tryz.func189 rfl fun w X hC=> ?_
 refine rq hC [] [6] [] [] [] (qs (rq hC [] [7,8,9] [(7,vI (wr (to_a1-1)))] [] [] (qb (jI h (fun x_=>aX [(0,vM bJ uses),(2,vI cell),(7,vI x_)] [] []) lS ?_))))
 rintro again2 x1 h
 refine qs (rq hC [] [10,11] [(11,vB (decide ((0:Int)≤x1)))] [] [] (aS h (fun c1 h=> ?_) (fun c1 h=> ?_)))
 ·refine qk (qs (qb ?_))
  obtain⟨x3,hx3,h⟩:=bd h
  refine rq hC [oR bJ hx3] (fr 14 7) [(20,vB (decide (x3.write=cell)))] [] [] (aS h (fun c2 h=> ?_) (fun c2 h=> ?_))
  ·obtain rfl:=so h
   exact rq hC [] [6,21] [(6,vI x1)] [] [] (qr eR)
  ·exact qk (rk hC [] [7,12,13] [(7,vI (wr (x1-1)))] [] [] (lE h))
 ·obtain rfl:=so h
  exact cN (rq hC [] [6] [(6,vI (-1))] [] [] (qr eR))
theorem xJ{p}{r}(h:fY n p=some r):VQ G 90 [] [V.agg (bF p)] (ms 0 1 1 rI r) [ar 3 1 1 rI r]:=by
 unfold fY at h
 refine vq aN Tryz.func90 rfl fun w X β0 hC hg=> ?_
 refine rq hC [.z (.b (true))] [1,2] [(1,V.tp (bQ p))] [] [] (qs ?_)
 obtain⟨x1,hx1,h⟩:=bd h
 refine rq hC [oV (dD G hx1)] [10,11,12] [(12,vB (!x1))] [] [] (aS h (fun c1 h=> ?_) (fun c1 h=> ?_))
 ·obtain rfl:=so h
  exact rq hC [.z (.nat 20)] [2,13] [(2,ms 20 1 1 rI [])] [(20,some (ar 3 1 1 rI []))] [(20,true)] (qw (lk hC [.ren 2 20 0] [2] [(2,ms 0 1 1 rI [])] [(0,some (ar 3 1 1 rI [])),(20,none)] [(0,true)]) (qr eW))
 ·refine qk ?_
  obtain⟨x2,hx2,h⟩:=bd h
  refine rq hC [oC [] [20] (aCU G hx2)] [3,14,15] [(3,ms 20 1 2 bJ x2)] [(20,some (ar 204 1 2 bJ x2))] [(20,true)] ?_
  obtain⟨x3,hx3,h⟩:=bd h
  refine rq hC [oN bJ x2,.z (.nat 21),oA (aCp rB hx3),oQ (wP hx3).1] [4,16,17,18] [(4,ms 21 1 1 rB x3)] [(21,some (ar 4 1 1 rB x3))] [(21,true)] (qs (rq hC [oN bJ x2] [5,19,20,21] [(5,vI (wr ((x2.length:Int)-1)))] [] [] (qb (bA (γ:=Nat) h (fun x_ g_=>aX [(3,ms 20 1 2 bJ x2),(4,ms 21 g_ 1 rB x_.1),(5,vI x_.2)] [(20,ar 204 1 2 bJ x2),(21,ar 4 g_ 1 rB x_.1)] [20,21]) 1 (lS) ?_))))
  rintro again7 ⟨x4,x5⟩ g6 h
  refine qs (rq hC [] [22,23] [(23,vB (decide ((0:Int)≤x5)))] [] [] (aS h (fun c2 h=> ?_) (fun c2 h=> ?_)))
  ·refine qk (qs (qb (rq hC [] [6] [(6,vB true)] [] [] (qs (rq hC [] [7,26,27] [(7,vI (wr (x5+1)))] [] [] ?_)))))
   refine qb (jI h (fun x_=>aX [(3,ms 20 1 2 bJ x2),(4,ms 21 g6 1 rB x4),(5,vI x5),(6,vB x_.1),(7,vI x_.2)] [(20,ar 204 1 2 bJ x2),(21,ar 4 g6 1 rB x4)] [20,21]) lS ?_)
   rintro again10 ⟨x8,x9⟩ h
   refine qs (rq hC [oN bJ x2] (fr 28 4) [(31,vB (decide (x9<(x2.length:Int))))] [] [] (aS h (fun c3 h=> ?_) (fun c3 h=> ?_)))
   ·refine qk (vj h (fun x_=>aX [(3,ms 20 1 2 bJ x2),(4,ms 21 g6 1 rB x4),(5,vI x5),(6,vB x_),(7,vI x9)] [(20,ar 204 1 2 bJ x2),(21,ar 4 g6 1 rB x4)] [20,21]) (fun j11 h=> ?_) (fun x14 h=> ?_))
    ·
     refine qb (aR h (fun c4 h=> ?_) (fun c4 h=> ?_))
     ·exact dk hC bP (rF 12 c4) [6,34,35,36,37,38,39,40,41,42,43,44,45,46,47] [(6,vB false)] [] [] (lE h)
     ·obtain⟨x12,hx12,x13,hx13,h⟩:=dJ h
      exact dk hC bP (rT 3 c4++[oQ (jP bJ hx12),oT c4,oT c4,oX bJ hx12]++rT 3 c4++[oQ (jP bJ hx13),oT c4,oT c4,oX bJ hx13,oT c4,oT c4]) [6,34,35,36,37,38,39,40,41,42,43,44,45,46,47] [(6,vB (!decide (x12.write=x13.write)))] [] [] (lE h)
    ·exact rk hC [] [7,32,33] [(7,vI (wr (x9+1)))] [] [] (lE h)
   ·refine cN (vj h (fun x_=>aX [(3,ms 20 1 2 bJ x2),(4,ms 21 g6 1 rB x_),(5,vI x5)] [(20,ar 204 1 2 bJ x2),(21,ar 4 g6 1 rB x_)] [20,21]) (fun j15 h=> ?_) (fun x19 h=> ?_))
    ·
     obtain⟨x16,hx16,h⟩:=bd h
     refine aR h (fun c5 h=> ?_) (fun c5 h=> ?_)
     ·obtain⟨x17,hx17,h⟩:=bd h
      exact rk hC [oQ (jP rB hx16),oX rB hx16,oF c5,oF c5,oQ (jP rB hx16),oX rB hx16,.z (.rows (List.map rB x17)),.z (.len 4 (List.map rB x17).length),oQ (str rB hx17),oQ (pO rB hx17)] [4,48,49,50,51,52,53,54,55,56,57] [(4,ms 21 g6 1 rB x17)] [(21,some (ar 4 g6 1 rB x17))] [] (lE h)
     ·obtain⟨x18,hx18,h⟩:=bd h
      exact rk hC [oQ (jP rB hx16),oX rB hx16,oT c5,oT c5,oQ (jP rB hx16),oX rB hx16,.z (.rows (List.map rB x18)),.z (.len 4 (List.map rB x18).length),oQ (str rB hx18),oQ (pO rB hx18)] [4,48,49,50,51,52,53,54,55,56,57] [(4,ms 21 g6 1 rB x18)] [(21,some (ar 4 g6 1 rB x18))] [] (lE h)
    ·refine rq hC [] [8] [(8,vI 0)] [] [] (qb (bA (γ:=Nat) h (fun x_ g_=>aX [(3,ms 20 1 2 bJ x2),(4,ms 21 g_ 1 rB x_.1),(5,vI x5),(8,vI x_.2)] [(20,ar 204 1 2 bJ x2),(21,ar 4 g_ 1 rB x_.1)] [20,21]) g6 (lS) ?_))
     rintro again23 ⟨x20,x21⟩ g22 h
     refine qs (vj h (fun x_=>aX [(3,ms 20 1 2 bJ x2),(4,ms 21 g22 1 rB x20),(5,vI x5),(8,vI x21),(71,vB x_)] [(20,ar 204 1 2 bJ x2),(21,ar 4 g22 1 rB x20)] [20,21]) (fun j24 h=> ?_) (fun x27 h=> ?_))
     ·
      obtain⟨x25,hx25,h⟩:=bd h
      refine aR h (fun c6 h=> ?_) (fun c6 h=> ?_)
      ·exact rk hC ([oQ (jP bJ hx25),oX bJ hx25,oN rI x25.reads]++rF 5 c6) (fr 58 14) [(71,vB false)] [] [] (lE h)
      ·obtain⟨x26,hx26,h⟩:=bd h
       exact rk hC ([oQ (jP bJ hx25),oX bJ hx25,oN rI x25.reads]++rT 3 c6++[oQ (jP rB hx26),oT c6,oX rB hx26,oT c6]) (fr 58 14) [(71,vB x26)] [] [] (lE h)
     ·refine aS h (fun c7 h=> ?_) (fun c7 h=> ?_)
      ·refine qk (vj h (fun x_=>aX [(3,ms 20 1 2 bJ x2),(4,ms 21 g22 1 rB x_),(5,vI x5),(8,vI x21)] [(20,ar 204 1 2 bJ x2),(21,ar 4 g22 1 rB x_)] [20,21]) (fun j28 h=> ?_) (fun x34 h=> ?_))
       ·
        refine qb ?_
        obtain⟨x29,hx29,x30,hx30,x31,hx31,h⟩:=l8 h
        refine rq hC [oQ (jP bJ hx29),oX bJ hx29,oR rI hx30,.z (.b (true)),oV (Z2 G hx31)] [9,74,75,76,77,78,79,80,81,82,83,84] [(9,vI x31)] [] [] (rq hC [] [85,86] [(86,vB (decide ((0:Int)≤x31)))] [] [] (aS h (fun c8 h=> ?_) (fun c8 h=> ?_)))
        ·obtain⟨x32,hx32,x33,hx33,h⟩:=dJ h
         exact rk hC [oQ (jP rB hx32),oX rB hx32,.z (.rows (List.map rB x33)),.z (.len 4 (List.map rB x33).length),oQ (str rB hx33),oQ (pO rB hx33)] [4,87,88,89] [(4,ms 21 g22 1 rB x33)] [(21,some (ar 4 g22 1 rB x33))] [] (lE h)
        ·exact qk (lE h)
       ·exact rk hC [] [8,72,73] [(8,vI (wr (x21+1)))] [] [] ⟨(x34,wr (x21+1)),g22,h,lS⟩
      ·exact cN (rk hC [] [5,24,25] [(5,vI (wr (x5-1)))] [] [] ⟨(x20,wr (x5-1)),g22,h,lS⟩)
  ·refine cN ?_
   obtain⟨x35,hx35,h⟩:=bd h
   obtain rfl:=so h
   exact rq hC [.z (.at 2),.z (.fz 21 [4,90] []),oC [] [22] (O9 G hx35)] [2,4,90,91] [(2,ms 22 1 1 rI x35)] [(21,none),(22,some (ar 3 1 1 rI x35))] [(22,true)] (qw (lk hC [.ren 2 22 0] [2] [(2,ms 0 1 1 rI x35)] [(0,some (ar 3 1 1 rI x35)),(22,none)] [(0,true)]) (qr eW))
theorem Z4{p}{part}{r}(h:nJ n p part=some r):PQ G 26 [V.agg (bF p),vI part] (V.tup [V.agg (bF r.1),vB r.2]):=by
 unfold nJ at h
 refine pq aN Tryz.func26 rfl fun w X hC=> ?_
 refine rq hC [.z (.nat 20),.z (.nat 21)] [2,4,5] [(2,V.ref 20 0),(4,V.ref 21 0)] [(20,some (E.cells (bF p))),(21,sc [V.t T.nilS,V.t T.nilS])] [(20,true),(21,true)] ?_
 obtain⟨x1,hx1,h⟩:=bd h
 refine rq hC [oV (xI G hx1)] [9,10] [] [(20,some (E.cells (bF x1)))] [] (qs (vj h (fun x_=>aX [(1,vI part),(2,V.ref 20 0),(4,V.ref 21 0),(24,vB x_)] [(20,E.cells (bF x1)),(21,E.cells [V.t T.nilS,V.t T.nilS])] [20,21]) (fun j2 h=> ?_) (fun x4 h=> ?_)))
 ·
  obtain⟨x3,hx3,h⟩:=bd h
  refine aR h (fun c1 h=> ?_) (fun c1 h=> ?_)
  ·refine aR h (fun c2 h=> ?_) (fun c2 h=> ?_)
   ·exact rk hC ([oV (dD G hx3)]++rF 3 c1++rF 4 c2++[oN aC x1.parts,oF c2,oF c2]) (fr 11 14) [(24,vB (decide ((x1.parts.length:Int)≤part)))] [] [] (lE h)
   ·exact rk hC ([oV (dD G hx3)]++rF 3 c1++rT 6 c2) (fr 11 14) [(24,vB true)] [] [] (lE h)
  ·exact rk hC ([oV (dD G hx3)]++rT 3 c1++sT 6) (fr 11 14) [(24,vB true)] [] [] (lE h)
 ·refine aS h (fun c3 h=> ?_) (fun c3 h=> ?_)
  ·obtain rfl:=so h
   exact rq hC [] [5,25] [(5,vB false)] [(21,sc [V.t T.nilS,V.t T.nilS])] [] (qr eR)
  ·refine qk ?_
   obtain⟨x5,hx5,h⟩:=bd h
   refine rq hC [oC [] [22] (xJ G hx5)] [6,26,27] [(6,ms 22 1 1 rI x5)] [(22,some (ar 3 1 1 rI x5))] [(22,true)] ?_
   obtain⟨x6,hx6,h⟩:=bd h
   refine rq hC [oC [] [23] (rO G hx6)] [7,28,29] [(7,ms 23 1 3 aQ x6)] [(23,some (ar 112 1 3 aQ x6))] [(23,true)] (qs (rq hC [] [8] [(8,vI 0)] [] [] (qb (jI h (fun x_=>aX [(1,vI part),(2,V.ref 20 0),(4,V.ref 21 0),(6,ms 22 1 1 rI x5),(7,ms 23 1 3 aQ x6),(8,vI x_)] [(20,E.cells (bF x1)),(21,E.cells [V.t T.nilS,V.t T.nilS]),(22,ar 3 1 1 rI x5),(23,ar 112 1 3 aQ x6)] [20,21,22,23]) lS ?_))))
   rintro again8 x7 h
   refine qs (rq hC [oN rI x5] (fr 30 4) [(33,vB (decide (x7<(x5.length:Int))))] [] [] (aS h (fun c4 h=> ?_) (fun c4 h=> ?_)))
   ·refine qk (qs (qb ?_))
    obtain⟨x9,hx9,x10,hx10,h⟩:=dJ h
    refine rq hC [oQ (jP rI hx9),oX rI hx9,oQ (jP aQ hx10),oX aQ hx10] (fr 36 10) [(45,vB (decide (x10.part=part)))] [] [] (aS h (fun c5 h=> ?_) (fun c5 h=> ?_))
    ·obtain rfl:=so h
     exact rq hC [] [5,46] [(5,vB false)] [(21,sc [V.t T.nilS,V.t T.nilS])] [] (qr eR)
    ·exact qk (rk hC [] [8,34,35] [(8,vI (wr (x7+1)))] [] [] (lE h))
   ·refine cN ?_
    obtain⟨x11,hx11,h⟩:=bd h
    obtain rfl:=so h
    exact rq hC [.z (.nat 24),.z (.at 5),.z (.fz 24 [49] []),oV (aCS G hx11)] [5,47,48,49,50,51,52] [(5,vB x11.2)] [(24,none),(21,some (E.cells (bF x11.1)))] [(24,true)] (qr eR)
theorem L3(G:GS)(n:Nat)(code:List UInt8)(more:List UInt8){r:Bool}(h:mH n code more=some r):PQ G 5 [vM rY code,vM rY more] (vB r):=by
 unfold mH at h
 refine pq aN Tryz.func5 rfl fun w X hC=> ?_
 refine rq hC [] [4] [] [] [] (qs (vj h (fun x_=>aX [(0,vM rY code),(1,vM rY more),(18,vB x_)] [] []) (fun j1 h=> ?_) (fun x2 h=> ?_)))
 ·
  refine aR h (fun c1 h=> ?_) (fun c1 h=> ?_)
  ·exact rk hC [oN rY code,oF c1,oF c1,oN rY more,oF c1,oF c1] (fr 11 8) [(18,vB (decide ((1048576:Int)<(more.length:Int))))] [] [] (lE h)
  ·exact rk hC ([oN rY code]++rT 4 c1) (fr 11 8) [(18,vB true)] [] [] (lE h)
 ·refine aS h (fun c2 h=> ?_) (fun c2 h=> ?_)
  ·obtain rfl:=so h
   exact rq hC [] [4] [(4,vB true)] [] [] (qr eR)
  ·refine qk ?_
   obtain⟨x3,hx3,h⟩:=bd h
   refine rq hC [oV (y8 G hx3),.z (.nat 20)] [5,6,19,20,21,22,23] [(5,V.ref 20 0),(6,vI x3.2)] [(20,some (E.cells (bF x3.1)))] [(20,true)] ?_
   obtain⟨x4,hx4,h⟩:=bd h
   refine rq hC [oV (Z8 G hx4),.z (.nat 21)] [7,8,24,25,26,27,28,29] [(7,V.ref 21 0),(8,vB x4.2)] [(21,some (E.cells (bF x4.1)))] [(21,true)] ?_
   obtain⟨x5,hx5,h⟩:=bd h
   refine rq hC [oV (Z4 G hx5),.z (.nat 22)] [9,10,30,31,32,33,34,35] [(9,V.ref 22 0),(10,vB x5.2)] [(22,some (E.cells (bF x5.1)))] [(22,true)] (qs (vj h (fun x_=>aX [(1,vM rY more),(5,V.ref 20 0),(7,V.ref 21 0),(8,vB x4.2),(9,V.ref 22 0),(10,vB x5.2),(48,vB x_)] [(20,E.cells (bF x3.1)),(21,E.cells (bF x4.1)),(22,E.cells (bF x5.1))] [20,21,22]) (fun j6 h=> ?_) (fun x8 h=> ?_)))
   ·
    refine aR h (fun c3 h=> ?_) (fun c3 h=> ?_)
    ·obtain⟨x7,hx7,h⟩:=bd h
     refine aR h (fun c4 h=> ?_) (fun c4 h=> ?_)
     ·exact rk hC (rF 3 c3++[oV (mD G hx7),oF c3,oF c3]++rF 3 c4) (fr 36 13) [(48,vB (!x4.2))] [] [] (lE h)
     ·exact rk hC (rF 3 c3++[oV (mD G hx7),oF c3,oF c3]++rT 3 c4) (fr 36 13) [(48,vB true)] [] [] (lE h)
    ·exact rk hC (rT 5 c3++[eT,eT,eT]) (fr 36 13) [(48,vB true)] [] [] (lE h)
   ·refine aS h (fun c5 h=> ?_) (fun c5 h=> ?_)
    ·refine vj h (fun x_=>aX [(4,vB x_)] [(20,E.cells (bF x3.1)),(21,E.cells (bF x4.1)),(22,E.cells (bF x5.1))] [20,21,22]) (fun j9 h=> ?_) (fun x11 h=> ?_)
     ·
      refine aR h (fun c6 h=> ?_) (fun c6 h=> ?_)
      ·exact rk hC (rF 4 c6) [4,49,50,51,52,53,54,55,56] [(4,vB false)] [] [] (lE h)
      ·obtain⟨x10,hx10,h⟩:=bd h
       exact rk hC (rT 3 c6++[oV (mD G hx10),oT c6]) [4,49,50,51,52,53,54,55,56] [(4,vB x10)] [] [] (lE h)
     ·obtain rfl:=so h
      exact qr eR
    ·refine qk (vj h (fun x_=>aX [(4,vB x_)] [(20,E.cells (bF x3.1)),(21,E.cells (bF x4.1)),(22,E.cells (bF x5.1))] [20,21,22]) (fun j12 h=> ?_) (fun x14 h=> ?_))
     ·
      obtain⟨x13,hx13,h⟩:=bd h
      refine aR h (fun c7 h=> ?_) (fun c7 h=> ?_)
      ·exact rk hC ([oN rY more,oV (zR G hx13)]++rF 9 c7) [4,57,58,59,60,61,62,63,64,65,66,67,68,69,70,71] [(4,vB false)] [] [] (lE h)
      ·exact rk hC ([oN rY more,oV (zR G hx13)]++rT 3 c7++[oN aC x4.1.parts]++rT 3 c7++[oN aC x3.1.parts]++rT 3 c7) [4,57,58,59,60,61,62,63,64,65,66,67,68,69,70,71] [(4,vB (decide ((x4.1.parts.length:Int)=wr ((x3.1.parts.length:Int)-1))))] [] [] (lE h)
     ·obtain rfl:=so h
      exact qr eR
end Go.Lift
