/- The walks: the code computes what the plain functions say. -/
import Derived.Test.YtdcjmccimcppbaaGreatBModels
import Derived.Test.YtdcjmccimcppbaaGreatBWalks2
set_option maxRecDepth 10000
set_option linter.unusedVariables false
namespace Go.Lift
open Go Go.Proofs
variable (G:GS) {n:Nat}
theorem xI{x}{r}(h:f9 n x=some r):PQ G 67 [V.agg (bD x)] (V.agg (bD r)):=by
 unfold f9 at h
 refine pq aN Tryz.func67 rfl fun w X hC=> ?_
 refine rq hC [.z (.nat 20),.z (.nat 21)] [1,2] [(1,V.ref 20 0),(2,V.ref 21 0)] [(20,some (E.cells (bD x))),(21,sc [V.t T.nilS,V.t T.nilS])] [(20,true),(21,true)] ?_
 obtain⟨x1,hx1,h⟩:=bd h
 refine rq hC [oC [] [22] (uE G hx1)] (fr 3 4) [] [(22,some (ar 90 1 2 aI x1)),(20,sc [ms 22 1 2 aI x1,vM aC x.parts])] [(22,true)] ?_
 obtain⟨x2,hx2,h⟩:=bd h
 obtain rfl:=so h
 exact rq hC [oC [] [23] (vO G hx2)] (fr 7 4) [] [(23,some (ar 46 1 2 aC x2)),(20,sc [ms 22 1 2 aI x1,ms 23 1 2 aC x2])] [(23,true)] (rq hC [.z (.at 2),.z (.fz 22 [] [20]),.z (.at 2),.z (.fz 23 [] [20])] [11] [] [(20,sc [vM aI x1,vM aC x2]),(22,none),(23,none),(21,sc [vM aI x1,vM aC x2])] [] (qr eR))
theorem vW(G:GS)(n:Nat)(s1:List Loop)(s2:List Loop)(eqF:FuncId)(eq:Loop→Loop→Option Bool)(heq: ∀(q0:Loop) (q1:Loop) r,eq q0 q1=some r→PQ G eqF [V.agg (mD q0),V.agg (mD q1)] (vB r)){r:Bool}(h:iH n s1 s2 eq=some r):PQ G 168 [vM aD s1,vM aD s2,V.fn eqF []] (vB r):=by
 unfold iH at h
 refine pq aN Tryz.func168 rfl fun w X hC=> ?_
 refine rq hC [] [6] [] [] [] (qs (rq hC [oN aD s1,oN aD s2] (fr 10 5) [(14,vB (!decide ((s1.length:Int)=(s2.length:Int))))] [] [] (aS h (fun c1 h=> ?_) (fun c1 h=> ?_))))
 ·obtain rfl:=so h
  exact rq hC [] [6] [(6,vB false)] [] [] (qr eR)
 ·refine qk (qs (rq hC [oN aD s1] [15,16,17] [(15,vM aD s1),(16,vI (s1.length:Int)),(17,vI 0)] [] [] (qb (jT h (fun x_=>aX [(1,vM aD s2),(2,V.fn eqF []),(15,vM aD s1),(16,vI (s1.length:Int)),(17,vI x_)] [] []) lS ?_))))
  rintro again2 x1 h
  refine rq hC [] [18] [(18,vB (decide (x1<(s1.length:Int))))] [] [] (qs (aS h (fun c2 h=> ?_) (fun c2 h=> ?_)))
  ·refine qk (qs (qb ?_))
   obtain⟨x3,hx3,h⟩:=bd h
   refine rq hC [oR aD hx3,.z (.nat 20)] [7,8,19,20,21] [(7,vI x1),(8,V.ref 20 0)] [(20,some (E.cells (mD x3)))] [(20,true)] ?_
   obtain⟨x4,hx4,h⟩:=bd h
   refine rq hC [oR aD hx4,.z (.nat 21)] [9,22,23,24,25] [(9,V.ref 21 0)] [(21,some (E.cells (mD x4)))] [(21,true)] ?_
   obtain⟨x5,hx5,h⟩:=bd h
   refine rq hC [oV (heq x3 x4 _ hx5)] (fr 26 5) [(30,vB (!x5))] [] [] (aS h (fun c3 h=> ?_) (fun c3 h=> ?_))
   ·obtain rfl:=so h
    exact rq hC [] [6] [(6,vB false)] [] [] (qr eR)
   ·exact qk (rk hC [] [17,31] [(17,vI (wr (x1+1)))] [] [] (lE h))
  ·obtain rfl:=so h
   exact cR (rq hC [] [6] [(6,vB true)] [] [] (qr eR))
theorem fC(G:GS)(n:Nat)(s1:List Affine)(s2:List Affine)(eqF:FuncId)(eq:Affine→Affine→Option Bool)(heq: ∀(q0:Affine) (q1:Affine) r,eq q0 q1=some r→PQ G eqF [V.agg (aT q0),V.agg (aT q1)] (vB r)){r:Bool}(h:cM n s1 s2 eq=some r):PQ G 170 [vM aB s1,vM aB s2,V.fn eqF []] (vB r):=by
 unfold cM at h
 refine pq aN Tryz.func170 rfl fun w X hC=> ?_
 refine rq hC [] [6] [] [] [] (qs (rq hC [oN aB s1,oN aB s2] (fr 10 5) [(14,vB (!decide ((s1.length:Int)=(s2.length:Int))))] [] [] (aS h (fun c1 h=> ?_) (fun c1 h=> ?_))))
 ·obtain rfl:=so h
  exact rq hC [] [6] [(6,vB false)] [] [] (qr eR)
 ·refine qk (qs (rq hC [oN aB s1] [15,16,17] [(15,vM aB s1),(16,vI (s1.length:Int)),(17,vI 0)] [] [] (qb (jT h (fun x_=>aX [(1,vM aB s2),(2,V.fn eqF []),(15,vM aB s1),(16,vI (s1.length:Int)),(17,vI x_)] [] []) lS ?_))))
  rintro again2 x1 h
  refine rq hC [] [18] [(18,vB (decide (x1<(s1.length:Int))))] [] [] (qs (aS h (fun c2 h=> ?_) (fun c2 h=> ?_)))
  ·refine qk (qs (qb ?_))
   obtain⟨x3,hx3,h⟩:=bd h
   refine rq hC [oR aB hx3,.z (.nat 20)] [7,8,19,20,21] [(7,vI x1),(8,V.ref 20 0)] [(20,some (E.cells (aT x3)))] [(20,true)] ?_
   obtain⟨x4,hx4,h⟩:=bd h
   refine rq hC [oR aB hx4,.z (.nat 21)] [9,22,23,24,25] [(9,V.ref 21 0)] [(21,some (E.cells (aT x4)))] [(21,true)] ?_
   obtain⟨x5,hx5,h⟩:=bd h
   refine rq hC [oV (heq x3 x4 _ hx5)] (fr 26 5) [(30,vB (!x5))] [] [] (aS h (fun c3 h=> ?_) (fun c3 h=> ?_))
   ·obtain rfl:=so h
    exact rq hC [] [6] [(6,vB false)] [] [] (qr eR)
   ·exact qk (rk hC [] [17,31] [(17,vI (wr (x1+1)))] [] [] (lE h))
  ·obtain rfl:=so h
   exact cR (rq hC [] [6] [(6,vB true)] [] [] (qr eR))
theorem o6{s1}{s2}{r}(h:jM n s1 s2=some r):PQ G 72 [vM rI s1,vM rI s2] (vB r):=by
 unfold jM at h
 refine pq aN Tryz.func72 rfl fun w X hC=> ?_
 refine rq hC [] [4] [] [] [] (qs (rq hC [oN rI s1,oN rI s2] (fr 6 5) [(10,vB (!decide ((s1.length:Int)=(s2.length:Int))))] [] [] (aS h (fun c1 h=> ?_) (fun c1 h=> ?_))))
 ·obtain rfl:=so h
  exact rq hC [] [4] [(4,vB false)] [] [] (qr eR)
 ·refine qk (qs (rq hC [oN rI s1] [11,12,13] [(12,vI (s1.length:Int)),(13,vI 0)] [] [] (qb (jT h (fun x_=>aX [(0,vM rI s1),(1,vM rI s2),(12,vI (s1.length:Int)),(13,vI x_)] [] []) lS ?_))))
  rintro again2 x1 h
  refine rq hC [] [14] [(14,vB (decide (x1<(s1.length:Int))))] [] [] (qs (aS h (fun c2 h=> ?_) (fun c2 h=> ?_)))
  ·refine qk (qs (qb (rq hC [] [5,15] [(5,vI x1)] [] [] (qs ?_))))
   obtain⟨x3,hx3,x4,hx4,h⟩:=dI h
   refine dk hC bP [oR rI hx3,oR rI hx4] (fr 16 9) [(24,vB (!decide (x3=x4)))] [] [] (aS h (fun c3 h=> ?_) (fun c3 h=> ?_))
   ·obtain rfl:=so h
    exact rq hC [] [4] [(4,vB false)] [] [] (qr eR)
   ·exact qk (rk hC [] [13,25] [(13,vI (wr (x1+1)))] [] [] (lE h))
  ·obtain rfl:=so h
   exact cR (rq hC [] [4] [(4,vB true)] [] [] (qr eR))
theorem eH(G:GS)(n:Nat)(a:Affine)(b:Affine){r:Bool}(h:cA n a b=some r):PQ G 171 [V.agg (aT a),V.agg (aT b)] (vB r):=by
 unfold cA at h
 refine pq aN Tryz.func171 rfl fun w X hC=> ?_
 refine rq hC [.z (.b (true)),.z (.b (true))] [2,3,4] [(2,V.tp (bM a)),(3,V.tp (bM b))] [] [] (vj h (fun x_=>aX [(4,vB x_)] [] []) (fun j1 h=> ?_) (fun x3 h=> ?_))
 ·
  obtain⟨x2,hx2,h⟩:=bd h
  refine aR h (fun c1 h=> ?_) (fun c1 h=> ?_)
  ·exact rk hC ([oV (o6 G hx2)]++rF 6 c1) (fr 4 13) [(4,vB false)] [] [] (lE h)
  ·exact rk hC ([oV (o6 G hx2)]++rT 6 c1) (fr 4 13) [(4,vB (decide (a.const=b.const)))] [] [] (lE h)
 ·obtain rfl:=so h
  exact qr eR
theorem M9(G:GS)(n:Nat)(x:Loop)(y:Loop){r:Bool}(h:kI n x y=some r):PQ G 169 [V.agg (mD x),V.agg (mD y)] (vB r):=by
 unfold kI at h
 refine pq aN Tryz.func169 rfl fun w X hC=> ?_
 refine rq hC [.z (.b (true)),.z (.b (true))] [2,3,4] [(2,V.tp (wD x)),(3,V.tp (wD y))] [] [] (vj h (fun x_=>aX [(4,vB x_)] [] []) (fun j1 h=> ?_) (fun x4 h=> ?_))
 ·
  obtain⟨x2,hx2,h⟩:=bd h
  refine aR h (fun c1 h=> ?_) (fun c1 h=> ?_)
  ·exact rk hC ([oV (fC G n x.lo y.lo 171 (fun q0 q1=>cA n q0 q1) (fun q0 q1 r h=>eH G n q0 q1 h) hx2)]++rF 6 c1) (fr 4 13) [(4,vB false)] [] [] (lE h)
  ·obtain⟨x3,hx3,h⟩:=bd h
   exact rk hC ([oV (fC G n x.lo y.lo 171 (fun q0 q1=>cA n q0 q1) (fun q0 q1 r h=>eH G n q0 q1 h) hx2)]++rT 5 c1++[oV (fC G n x.hi y.hi 171 (fun q0 q1=>cA n q0 q1) (fun q0 q1 r h=>eH G n q0 q1 h) hx3),oT c1]) (fr 4 13) [(4,vB x3)] [] [] (lE h)
 ·obtain rfl:=so h
  exact qr eR
theorem xP{a}{b}{r}(h:nU n a b=some r):PQ G 74 [vM aD a,vM aD b] (vB r):=by
 unfold nU at h
 refine pq aN Tryz.func74 rfl fun w X hC=> ?_
 refine rq hC [] [4] [] [] [] ?_
 obtain⟨x1,hx1,h⟩:=bd h
 obtain rfl:=so h
 exact rq hC [oV (vW G n a b 169 (fun q0 q1=>kI n q0 q1) (fun q0 q1 r h=>M9 G n q0 q1 h) hx1)] (fr 4 4) [(4,vB x1)] [] [] (qr eR)
theorem vU(G:GS)(n:Nat)(s1:List Stmt)(s2:List Stmt)(eqF:FuncId)(eq:Stmt→Stmt→Option Bool)(heq: ∀(q0:Stmt) (q1:Stmt) r,eq q0 q1=some r→PQ G eqF [V.agg (cU q0),V.agg (cU q1)] (vB r)){r:Bool}(h:iF n s1 s2 eq=some r):PQ G 75 [vM aK s1,vM aK s2,V.fn eqF []] (vB r):=by
 unfold iF at h
 refine pq aN Tryz.func75 rfl fun w X hC=> ?_
 refine rq hC [] [6] [] [] [] (qs (rq hC [oN aK s1,oN aK s2] (fr 10 5) [(14,vB (!decide ((s1.length:Int)=(s2.length:Int))))] [] [] (aS h (fun c1 h=> ?_) (fun c1 h=> ?_))))
 ·obtain rfl:=so h
  exact rq hC [] [6] [(6,vB false)] [] [] (qr eR)
 ·refine qk (qs (rq hC [oN aK s1] [15,16,17] [(15,vM aK s1),(16,vI (s1.length:Int)),(17,vI 0)] [] [] (qb (jT h (fun x_=>aX [(1,vM aK s2),(2,V.fn eqF []),(15,vM aK s1),(16,vI (s1.length:Int)),(17,vI x_)] [] []) lS ?_))))
  rintro again2 x1 h
  refine rq hC [] [18] [(18,vB (decide (x1<(s1.length:Int))))] [] [] (qs (aS h (fun c2 h=> ?_) (fun c2 h=> ?_)))
  ·refine qk (qs (qb ?_))
   obtain⟨x3,hx3,h⟩:=bd h
   refine rq hC [oR aK hx3,.z (.nat 20)] [7,8,19,20,21] [(7,vI x1),(8,V.ref 20 0)] [(20,some (E.cells (cU x3)))] [(20,true)] ?_
   obtain⟨x4,hx4,h⟩:=bd h
   refine rq hC [oR aK hx4,.z (.nat 21)] [9,22,23,24,25] [(9,V.ref 21 0)] [(21,some (E.cells (cU x4)))] [(21,true)] ?_
   obtain⟨x5,hx5,h⟩:=bd h
   refine rq hC [oV (heq x3 x4 _ hx5)] (fr 26 5) [(30,vB (!x5))] [] [] (aS h (fun c3 h=> ?_) (fun c3 h=> ?_))
   ·obtain rfl:=so h
    exact rq hC [] [6] [(6,vB false)] [] [] (qr eR)
   ·exact qk (rk hC [] [17,31] [(17,vI (wr (x1+1)))] [] [] (lE h))
  ·obtain rfl:=so h
   exact cR (rq hC [] [6] [(6,vB true)] [] [] (qr eR))
theorem kO{a}{b}{r}(h:iK n a b=some r):PQ G 172 [V.agg (cP a),V.agg (cP b)] (vB r):=by
 unfold iK at h
 refine pq aN Tryz.func172 rfl fun w X hC=> ?_
 refine rq hC [.z (.b (true)),.z (.b (true))] [2,3,4] [(2,V.tp (dY a)),(3,V.tp (dY b))] [] [] (vj h (fun x_=>aX [(4,vB x_)] [] []) (fun j1 h=> ?_) (fun x3 h=> ?_))
 ·
  refine aR h (fun c1 h=> ?_) (fun c1 h=> ?_)
  ·exact rk hC (rF 6 c1) (fr 4 13) [(4,vB false)] [] [] (lE h)
  ·obtain⟨x2,hx2,h⟩:=bd h
   exact rk hC (rT 5 c1++[oV (fC G n a.subs b.subs 171 (fun q0 q1=>cA n q0 q1) (fun q0 q1 r h=>eH G n q0 q1 h) hx2),oT c1]) (fr 4 13) [(4,vB x2)] [] [] (lE h)
 ·obtain rfl:=so h
  exact qr eR
theorem vX(G:GS)(n:Nat)(s1:List Expr)(s2:List Expr)(eqF:FuncId)(eq:Expr→Expr→Option Bool)(heq: ∀(q0:Expr) (q1:Expr) r,eq q0 q1=some r→PQ G eqF [V.agg (dA q0),V.agg (dA q1)] (vB r)){r:Bool}(h:iI n s1 s2 eq=some r):PQ G 249 [vM aJ s1,vM aJ s2,V.fn eqF []] (vB r):=by
 unfold iI at h
 refine pq aN Tryz.func249 rfl fun w X hC=> ?_
 refine rq hC [] [6] [] [] [] (qs (rq hC [oN aJ s1,oN aJ s2] (fr 10 5) [(14,vB (!decide ((s1.length:Int)=(s2.length:Int))))] [] [] (aS h (fun c1 h=> ?_) (fun c1 h=> ?_))))
 ·obtain rfl:=so h
  exact rq hC [] [6] [(6,vB false)] [] [] (qr eR)
 ·refine qk (qs (rq hC [oN aJ s1] [15,16,17] [(15,vM aJ s1),(16,vI (s1.length:Int)),(17,vI 0)] [] [] (qb (jT h (fun x_=>aX [(1,vM aJ s2),(2,V.fn eqF []),(15,vM aJ s1),(16,vI (s1.length:Int)),(17,vI x_)] [] []) lS ?_))))
  rintro again2 x1 h
  refine rq hC [] [18] [(18,vB (decide (x1<(s1.length:Int))))] [] [] (qs (aS h (fun c2 h=> ?_) (fun c2 h=> ?_)))
  ·refine qk (qs (qb ?_))
   obtain⟨x3,hx3,h⟩:=bd h
   refine rq hC [.z (.row (eB x3)),.z (.nat 20),oQ (fK aJ hx3 (cT x3))] [7,8,19,20,21] [(7,vI x1),(8,V.ref 20 0)] [(20,some (E.cells (dA x3)))] [(20,true)] ?_
   obtain⟨x4,hx4,h⟩:=bd h
   refine rq hC [.z (.row (eB x4)),.z (.nat 21),oQ (fK aJ hx4 (cT x4))] [9,22,23,24,25] [(9,V.ref 21 0)] [(21,some (E.cells (dA x4)))] [(21,true)] ?_
   obtain⟨x5,hx5,h⟩:=bd h
   refine rq hC [oV (heq x3 x4 _ hx5)] (fr 26 5) [(30,vB (!x5))] [] [] (aS h (fun c3 h=> ?_) (fun c3 h=> ?_))
   ·obtain rfl:=so h
    exact rq hC [] [6] [(6,vB false)] [] [] (qr eR)
   ·exact qk (rk hC [] [17,31] [(17,vI (wr (x1+1)))] [] [] (lE h))
  ·obtain rfl:=so h
   exact cR (rq hC [] [6] [(6,vB true)] [] [] (qr eR))
theorem aAe(G:GS): ∀(n:Nat) (a:Expr) (b:Expr) {r:Bool} (h:i_exprSame n a b=some r),PQ G 173 [V.agg (dA a),V.agg (dA b)] (vB r):=by
 intro n
 induction n with
 |zero=>intro a b r h;rw [i_exprSame.eq_def] at h;cases h
 |succ n ih=>
  intro a b r h
  rw [i_exprSame.eq_def] at h;dsimp only at h
  refine pq aN Tryz.func173 rfl fun w X hC=> ?_
  refine rq hC [.z (.b (true)),.z (.b (true))] [2,3,4] [(2,V.tp (gM a)),(3,V.tp (gM b))] [] [] (vj h (fun x_=>aX [(4,vB x_)] [] []) (fun j1 h=> ?_) (fun x5 h=> ?_))
  ·
   refine aR h (fun c1 h=> ?_) (fun c1 h=> ?_)
   ·exact rk hC (rF 6 c1++sF 18) (fr 4 34) [(4,vB false)] [] [] (lE h)
   ·refine aR h (fun c2 h=> ?_) (fun c2 h=> ?_)
    ·exact rk hC (rT 6 c1++rF 6 c2++sF 12) (fr 4 34) [(4,vB false)] [] [] (lE h)
    ·obtain⟨x2,hx2,h⟩:=bd h
     refine aR h (fun c3 h=> ?_) (fun c3 h=> ?_)
     ·exact rk hC (rT 6 c1++rT 5 c2++[oV (eH G n a.index b.index hx2),oT c2]++rF 6 c3++sF 6) (fr 4 34) [(4,vB false)] [] [] (lE h)
     ·obtain⟨x3,hx3,h⟩:=bd h
      refine aR h (fun c4 h=> ?_) (fun c4 h=> ?_)
      ·exact rk hC (rT 6 c1++rT 5 c2++[oV (eH G n a.index b.index hx2),oT c2]++rT 5 c3++[oV (kO G hx3),oT c3]++rF 6 c4) (fr 4 34) [(4,vB false)] [] [] (lE h)
      ·obtain⟨x4,hx4,h⟩:=bd h
       exact rk hC (rT 6 c1++rT 5 c2++[oV (eH G n a.index b.index hx2),oT c2]++rT 5 c3++[oV (kO G hx3),oT c3]++rT 5 c4++[oV (vX G n a.kids b.kids 173 (fun q0 q1=>i_exprSame n q0 q1) (fun q0 q1 r h=>ih q0 q1 h) hx4),oT c4]) (fr 4 34) [(4,vB x4)] [] [] (lE h)
  ·obtain rfl:=so h
   exact qr eR
theorem aAf(G:GS)(n:Nat)(a:Stmt)(b:Stmt){r:Bool}(h:lJ n a b=some r):PQ G 76 [V.agg (cU a),V.agg (cU b)] (vB r):=by
 unfold lJ at h
 refine pq aN Tryz.func76 rfl fun w X hC=> ?_
 refine rq hC [.z (.b (true)),.z (.b (true))] [2,3,4] [(2,V.tp (oE a)),(3,V.tp (oE b))] [] [] (vj h (fun x_=>aX [(4,vB x_)] [] []) (fun j1 h=> ?_) (fun x4 h=> ?_))
 ·
  obtain⟨x2,hx2,h⟩:=bd h
  refine aR h (fun c1 h=> ?_) (fun c1 h=> ?_)
  ·exact rk hC ([oV (kO G hx2)]++rF 6 c1) (fr 4 13) [(4,vB false)] [] [] (lE h)
  ·obtain⟨x3,hx3,h⟩:=bd h
   exact rk hC ([oV (kO G hx2)]++rT 5 c1++[oV (aAe G n a.value b.value hx3),oT c1]) (fr 4 13) [(4,vB x3)] [] [] (lE h)
 ·obtain rfl:=so h
  exact qr eR
theorem xO(G:GS)(n:Nat)(x:Part)(y:Part){r:Bool}(h:eK n x y=some r):PQ G 73 [V.agg (oZ x),V.agg (oZ y)] (vB r):=by
 unfold eK at h
 refine pq aN Tryz.func73 rfl fun w X hC=> ?_
 refine rq hC [.z (.b (true)),.z (.b (true))] [2,3,4] [(2,V.tp (oG x)),(3,V.tp (oG y))] [] [] (vj h (fun x_=>aX [(4,vB x_)] [] []) (fun j1 h=> ?_) (fun x4 h=> ?_))
 ·
  obtain⟨x2,hx2,h⟩:=bd h
  refine aR h (fun c1 h=> ?_) (fun c1 h=> ?_)
  ·exact rk hC ([oV (xP G hx2)]++rF 6 c1) (fr 4 13) [(4,vB false)] [] [] (lE h)
  ·obtain⟨x3,hx3,h⟩:=bd h
   exact rk hC ([oV (xP G hx2)]++rT 5 c1++[oV (vU G n x.body y.body 76 (fun q0 q1=>lJ n q0 q1) (fun q0 q1 r h=>aAf G n q0 q1 h) hx3),oT c1]) (fr 4 13) [(4,vB x3)] [] [] (lE h)
 ·obtain rfl:=so h
  exact qr eR
theorem mK(G:GS)(n:Nat)(s1:List Arr)(s2:List Arr)(eqF:FuncId)(eq:Arr→Arr→Option Bool)(heq: ∀(q0:Arr) (q1:Arr) r,eq q0 q1=some r→PQ G eqF [V.agg [vS q0.name,vM rI q0.dims],V.agg [vS q1.name,vM rI q1.dims]] (vB r)){r:Bool}(h:gJ n s1 s2 eq=some r):PQ G 77 [vM aI s1,vM aI s2,V.fn eqF []] (vB r):=by
 unfold gJ at h
 refine pq aN Tryz.func77 rfl fun w X hC=> ?_
 refine rq hC [] [6] [] [] [] (qs (rq hC [oN aI s1,oN aI s2] (fr 10 5) [(14,vB (!decide ((s1.length:Int)=(s2.length:Int))))] [] [] (aS h (fun c1 h=> ?_) (fun c1 h=> ?_))))
 ·obtain rfl:=so h
  exact rq hC [] [6] [(6,vB false)] [] [] (qr eR)
 ·refine qk (qs (rq hC [oN aI s1] [15,16,17] [(15,vM aI s1),(16,vI (s1.length:Int)),(17,vI 0)] [] [] (qb (jT h (fun x_=>aX [(1,vM aI s2),(2,V.fn eqF []),(15,vM aI s1),(16,vI (s1.length:Int)),(17,vI x_)] [] []) lS ?_))))
  rintro again2 x1 h
  refine rq hC [] [18] [(18,vB (decide (x1<(s1.length:Int))))] [] [] (qs (aS h (fun c2 h=> ?_) (fun c2 h=> ?_)))
  ·refine qk (qs (qb ?_))
   obtain⟨x3,hx3,h⟩:=bd h
   refine rq hC [oR aI hx3,.z (.nat 20)] [7,8,19,20,21] [(7,vI x1),(8,V.ref 20 0)] [(20,sc [vS x3.name,vM rI x3.dims])] [(20,true)] ?_
   obtain⟨x4,hx4,h⟩:=bd h
   refine rq hC [oR aI hx4,.z (.nat 21)] [9,22,23,24,25] [(9,V.ref 21 0)] [(21,sc [vS x4.name,vM rI x4.dims])] [(21,true)] ?_
   obtain⟨x5,hx5,h⟩:=bd h
   refine rq hC [oV (heq x3 x4 _ hx5)] (fr 26 5) [(30,vB (!x5))] [] [] (aS h (fun c3 h=> ?_) (fun c3 h=> ?_))
   ·obtain rfl:=so h
    exact rq hC [] [6] [(6,vB false)] [] [] (qr eR)
   ·exact qk (rk hC [] [17,31] [(17,vI (wr (x1+1)))] [] [] (lE h))
  ·obtain rfl:=so h
   exact cR (rq hC [] [6] [(6,vB true)] [] [] (qr eR))
theorem vV(G:GS)(n:Nat)(s1:List Part)(s2:List Part)(eqF:FuncId)(eq:Part→Part→Option Bool)(heq: ∀(q0:Part) (q1:Part) r,eq q0 q1=some r→PQ G eqF [V.agg (oZ q0),V.agg (oZ q1)] (vB r)){r:Bool}(h:iG n s1 s2 eq=some r):PQ G 78 [vM aC s1,vM aC s2,V.fn eqF []] (vB r):=by
 unfold iG at h
 refine pq aN Tryz.func78 rfl fun w X hC=> ?_
 refine rq hC [] [6] [] [] [] (qs (rq hC [oN aC s1,oN aC s2] (fr 10 5) [(14,vB (!decide ((s1.length:Int)=(s2.length:Int))))] [] [] (aS h (fun c1 h=> ?_) (fun c1 h=> ?_))))
 ·obtain rfl:=so h
  exact rq hC [] [6] [(6,vB false)] [] [] (qr eR)
 ·refine qk (qs (rq hC [oN aC s1] [15,16,17] [(15,vM aC s1),(16,vI (s1.length:Int)),(17,vI 0)] [] [] (qb (jT h (fun x_=>aX [(1,vM aC s2),(2,V.fn eqF []),(15,vM aC s1),(16,vI (s1.length:Int)),(17,vI x_)] [] []) lS ?_))))
  rintro again2 x1 h
  refine rq hC [] [18] [(18,vB (decide (x1<(s1.length:Int))))] [] [] (qs (aS h (fun c2 h=> ?_) (fun c2 h=> ?_)))
  ·refine qk (qs (qb ?_))
   obtain⟨x3,hx3,h⟩:=bd h
   refine rq hC [oR aC hx3,.z (.nat 20)] [7,8,19,20,21] [(7,vI x1),(8,V.ref 20 0)] [(20,some (E.cells (oZ x3)))] [(20,true)] ?_
   obtain⟨x4,hx4,h⟩:=bd h
   refine rq hC [oR aC hx4,.z (.nat 21)] [9,22,23,24,25] [(9,V.ref 21 0)] [(21,some (E.cells (oZ x4)))] [(21,true)] ?_
   obtain⟨x5,hx5,h⟩:=bd h
   refine rq hC [oV (heq x3 x4 _ hx5)] (fr 26 5) [(30,vB (!x5))] [] [] (aS h (fun c3 h=> ?_) (fun c3 h=> ?_))
   ·obtain rfl:=so h
    exact rq hC [] [6] [(6,vB false)] [] [] (qr eR)
   ·exact qk (rk hC [] [17,31] [(17,vI (wr (x1+1)))] [] [] (lE h))
  ·obtain rfl:=so h
   exact cR (rq hC [] [6] [(6,vB true)] [] [] (qr eR))
theorem oW(G:GS)(n:Nat)(x:Arr)(y:Arr){r:Bool}(h:eM n x y=some r):PQ G 71 [V.agg [vS x.name,vM rI x.dims],V.agg [vS y.name,vM rI y.dims]] (vB r):=by
 unfold eM at h
 refine pq aN Tryz.func71 rfl fun w X hC=> ?_
 refine rq hC [.z (.b (true)),.z (.b (true))] [2,3,4] [(2,V.tp [T.str x.name,T.sl (List.map rI x.dims)]),(3,V.tp [T.str y.name,T.sl (List.map rI y.dims)])] [] [] (vj h (fun x_=>aX [(4,vB x_)] [] []) (fun j1 h=> ?_) (fun x3 h=> ?_))
 ·
  refine aR h (fun c1 h=> ?_) (fun c1 h=> ?_)
  ·exact rk hC (rF 6 c1) (fr 4 13) [(4,vB false)] [] [] (lE h)
  ·obtain⟨x2,hx2,h⟩:=bd h
   exact rk hC (rT 5 c1++[oV (o6 G hx2),oT c1]) (fr 4 13) [(4,vB x2)] [] [] (lE h)
 ·obtain rfl:=so h
  exact qr eR
theorem jB{a}{b}{r}(h:dJ n a b=some r):PQ G 18 [V.agg (bD a),V.agg (bD b)] (vB r):=by
 unfold dJ at h
 refine pq aN Tryz.func18 rfl fun w X hC=> ?_
 refine rq hC [.z (.b (true)),.z (.b (true))] [2,3,4] [(2,V.tp (bO a)),(3,V.tp (bO b))] [] [] (rq hC [] [5] [(5,V.fn 71 [])] [] [] (rq hC [] [6] [(6,V.fn 73 [])] [] [] (vj h (fun x_=>aX [(4,vB x_)] [] []) (fun j1 h=> ?_) (fun x4 h=> ?_))))
 ·
  obtain⟨x2,hx2,h⟩:=bd h
  refine aR h (fun c1 h=> ?_) (fun c1 h=> ?_)
  ·exact rk hC ([oV (mK G n a.arrays b.arrays 71 (fun q0 q1=>eM n q0 q1) (fun q0 q1 r h=>oW G n q0 q1 h) hx2)]++rF 7 c1) [4,7,8,9,10,11,12,13,14,15,16,17,18,19,20] [(4,vB false)] [] [] (lE h)
  ·obtain⟨x3,hx3,h⟩:=bd h
   exact rk hC ([oV (mK G n a.arrays b.arrays 71 (fun q0 q1=>eM n q0 q1) (fun q0 q1 r h=>oW G n q0 q1 h) hx2)]++rT 6 c1++[oV (vV G n a.parts b.parts 73 (fun q0 q1=>eK n q0 q1) (fun q0 q1 r h=>xO G n q0 q1 h) hx3),oT c1]) [4,7,8,9,10,11,12,13,14,15,16,17,18,19,20] [(4,vB x3)] [] [] (lE h)
 ·obtain rfl:=so h
  exact qr eR
theorem fE{p}{r}(h:dT n p=some r):PQ G 181 [V.agg (bD p)] (vI r):=by
 unfold dT at h
 refine pq aN Tryz.func181 rfl fun w X hC=> ?_
 refine rq hC [.z (.b (true))] [1,2] [(1,V.tp (bO p))] [] [] (rq hC [] [3] [(3,vI 0)] [] [] (qs (rq hC [oN aI p.arrays] (fr 6 4) [(7,vM aI p.arrays),(8,vI (p.arrays.length:Int)),(9,vI 0)] [] [] (qb (jT h (fun x_=>aX [(3,vI x_.1),(7,vM aI p.arrays),(8,vI (p.arrays.length:Int)),(9,vI x_.2)] [] []) lS ?_)))))
 rintro again3 ⟨x1,x2⟩ h
 refine rq hC [] [10] [(10,vB (decide (x2<(p.arrays.length:Int))))] [] [] (qs (aS h (fun c1 h=> ?_) (fun c1 h=> ?_)))
 ·refine qk (qs (qb ?_))
  obtain⟨x4,hx4,h⟩:=bd h
  refine rq hC [oR aI hx4,.z (.nat 20)] [5,11,12] [(5,V.ref 20 0)] [(20,sc [vS x4.name,vM rI x4.dims])] [(20,true)] ?_
  obtain⟨x5,hx5,h⟩:=bd h
  exact rk hC [oV (tM G hx5)] [3,13,14,15,16] [(3,vI (wr (x1+x5)))] [] [] (rk hC [] [9,17] [(9,vI (wr (x2+1)))] [] [] (lE h))
 ·obtain rfl:=so h
  exact cR (rq hC [] [2,18] [(2,vI x1)] [] [] (qr eR))
theorem N2{p}{r}(h:kK n p=some r):PQ G 80 [V.agg (bD p)] (vI r):=by
 unfold kK at h
 refine pq aN Tryz.func80 rfl fun w X hC=> ?_
 refine rq hC [.z (.b (true))] [1,2] [(1,V.tp (bO p))] [] [] (qs ?_)
 obtain⟨x1,hx1,h⟩:=bd h
 refine rq hC [oV (iO G hx1)] [3,4,5] [(5,vB (!x1))] [] [] (aS h (fun c1 h=> ?_) (fun c1 h=> ?_))
 ·obtain rfl:=so h
  exact rq hC [] [2] [(2,vI 0)] [] [] (qr eR)
 ·refine qk ?_
  obtain⟨x2,hx2,h⟩:=bd h
  obtain rfl:=so h
  exact rq hC [oV (fE G hx2)] [2,6,7] [(2,vI x2)] [] [] (qr eR)
theorem aCT{a}{b}{r}(h:pA n a b=some r):PQ G 81 [vM rI a,vM rI b] (vB r):=by
 unfold pA at h
 refine pq aN Tryz.func81 rfl fun w X hC=> ?_
 refine rq hC [] [4] [] [] [] (qs (rq hC [oN rI a,oN rI b] (fr 6 5) [(10,vB (!decide ((a.length:Int)=(b.length:Int))))] [] [] (aS h (fun c1 h=> ?_) (fun c1 h=> ?_))))
 ·obtain rfl:=so h
  exact rq hC [] [4] [(4,vB false)] [] [] (qr eR)
 ·refine qk (qs (rq hC [] [5] [(5,vI 0)] [] [] (qb (jT h (fun x_=>aX [(0,vM rI a),(1,vM rI b),(5,vI x_)] [] []) lS ?_))))
  rintro again2 x1 h
  refine qs (rq hC [oN rI a] (fr 11 4) [(14,vB (decide (x1<(a.length:Int))))] [] [] (aS h (fun c2 h=> ?_) (fun c2 h=> ?_)))
  ·refine qk (qs (qb (qs ?_)))
   obtain⟨x3,hx3,x4,hx4,h⟩:=dI h
   refine dk hC bP [oR rI hx3,oR rI hx4] (fr 17 9) [(25,vB (!decide (x3=x4)))] [] [] (aS h (fun c3 h=> ?_) (fun c3 h=> ?_))
   ·obtain rfl:=so h
    exact rq hC [] [4] [(4,vB false)] [] [] (qr eR)
   ·exact qk (rk hC [] [5,15,16] [(5,vI (wr (x1+1)))] [] [] (lE h))
  ·obtain rfl:=so h
   exact cR (rq hC [] [4] [(4,vB true)] [] [] (qr eR))
theorem xQ(G:GS)(n:Nat)(n_a0:Int){r:Bool}(h:eN n n_a0=some r):PQ G 227 [vI n_a0] (vB r):=by
 unfold eN at h
 refine pq aN Tryz.func227 rfl fun w X hC=> ?_
 refine rq hC [] [2] [] [] [] ?_
 obtain⟨x1,hx1,h⟩:=bd h
 obtain rfl:=so h
 exact rq hC [oV (bL G hx1)] (fr 2 4) [(2,vB (!x1))] [] [] (qr eR)
theorem A1{p}{m}{r}(h:iX n p m=some r):PQ G 147 [V.agg (bD p),vM rI m] (vB r):=by
 unfold iX at h
 refine pq aN Tryz.func147 rfl fun w X hC=> ?_
 refine rq hC [.z (.b (true))] [2,4] [(2,V.tp (bO p))] [] [] (vj h (fun x_=>aX [(4,vB x_)] [] []) (fun j1 h=> ?_) (fun x5 h=> ?_))
 ·
  obtain⟨x2,hx2,h⟩:=bd h
  refine aR h (fun c1 h=> ?_) (fun c1 h=> ?_)
  ·exact rk hC ([oV (iO G hx2)]++rF 6 c1++sF 4) (fr 4 15) [(4,vB false)] [] [] (lE h)
  ·obtain⟨x3,hx3,h⟩:=bd h
   refine aR h (fun c2 h=> ?_) (fun c2 h=> ?_)
   ·exact rk hC ([oV (iO G hx2),oT c1,oT c1,oN rI m,oT c1,oT c1,oV (fE G hx3),oT c1,oT c1]++rF 4 c2) (fr 4 15) [(4,vB false)] [] [] (lE h)
   ·obtain⟨x4,hx4,h⟩:=bd h
    exact rk hC [oV (iO G hx2),oT c1,oT c1,oN rI m,oT c1,oT c1,oV (fE G hx3),oT c1,oT c1,oT c2,oT c2,oV (dO G n m 227 (fun q0=>eN n q0) (fun q0 r h=>xQ G n q0 h) hx4),oT c2,oT c2] (fr 4 15) [(4,vB (!x4))] [] [] (lE h)
 ·obtain rfl:=so h
  exact qr eR
theorem tK{p}{r}(h:eD n p=some r):VQ G 101 [] [V.agg (bD p)] (ms 0 1 3 aQ r) [ar 112 1 3 aQ r]:=by
 unfold eD at h
 refine vq aN Tryz.func101 rfl fun w X β0 hC hg=> ?_
 refine rq hC [.z (.b (true))] [1,2] [(1,V.tp (bO p))] [] [] ?_
 obtain⟨x1,hx1,h⟩:=bd h
 refine rq hC [oC [] [20] (gI G hx1)] (fr 3 7) [(3,ms 20 1 3 aQ x1.1),(4,vB x1.2)] [(20,some (ar 112 1 3 aQ x1.1))] [(20,true)] (qs (rq hC [] [10,11] [(11,vB (!x1.2))] [] [] (aS h (fun c1 h=> ?_) (fun c1 h=> ?_))))
 ·obtain rfl:=so h
  exact rq hC [] [2] [(2,V.t T.nilS)] [] [] (qw (lk hC [.grow 2 0 112] [2] [(2,ms 0 1 3 aQ [])] [(0,some (ar 112 1 3 aQ []))] [(0,true)]) (qr eW))
 ·obtain rfl:=so h
  exact qk (rq hC [] [2,12] [(2,ms 20 1 3 aQ x1.1)] [] [] (qw (lk hC [.ren 2 20 0] [2] [(2,ms 0 1 3 aQ x1.1)] [(0,some (ar 112 1 3 aQ x1.1)),(20,none)] [(0,true)]) (qr eW)))
theorem qG{p}{x}{r}(h:dN n p x=some r):PQ G 228 [V.agg (bD p),V.agg (N3 x)] (V.agg (cU r)):=by
 unfold dN at h
 refine pq aN Tryz.func228 rfl fun w X hC=> ?_
 refine rq hC [.z (.b (true)),.z (.b (true)),.z (.nat 20)] [2,3,4] [(2,V.tp (bO p)),(3,V.tp (aDq x)),(4,V.ref 20 0)] [(20,sc [vS [],V.t T.nilS,vI 0,vI 0,V.t T.nilS,vI 0,vS [],V.t T.nilS,V.t T.nilS])] [(20,true)] (qs ?_)
 obtain⟨x1,hx1,x2,hx2,h⟩:=dI h
 obtain rfl:=so h
 exact dk hC bP [oR aC hx1,oR aK hx2] (fr 5 11) [] [(20,some (E.cells (cU x2)))] [] (qr eR)
theorem rE{n_a0}{r}(h:l3 n n_a0=some r):PQ G 293 [vI n_a0] (vI r):=by
 unfold l3 at h
 refine pq aN Tryz.func293 rfl fun w X hC=> ?_
 obtain rfl:=so h
 exact rq hC [] [2] [] [] [] (rq hC [oQ (show(1000:Int)≠0 by decide),oQ (show(1000:Int)≠0 by decide)] (fr 2 6) [(2,vI (Int.tmod (wr ((wr ((Int.tmod n_a0 1000)+999))+1)) 1000))] [] [] (qr eR))
theorem xN(G:GS): ∀(n:Nat) (p:Prog) (m:List Int) (e:Expr) (point:List Int) {r:Int} (h:i_Program_value n p m e point=some r),PQ G 229 [V.agg (bD p),vM rI m,V.agg (dA e),vM rI point] (vI r):=by
 intro n
 induction n with
 |zero=>intro p m e point r h;rw [i_Program_value.eq_def] at h;cases h
 |succ n ih=>
  intro p m e point r h
  rw [i_Program_value.eq_def] at h;dsimp only at h
  refine pq aN Tryz.func229 rfl fun w X hC=> ?_
  refine rq hC [.z (.b (true)),.z (.b (true))] [4,6,8] [(4,V.tp (bO p)),(6,V.tp (gM e))] [] [] (qs (rq hC [] [11,12] [(12,vI e.kind)] [] [] (qb (rq hC [] [13,14] [(13,vB (decide (e.kind=1)))] [] [] (aS h (fun c1 h=> ?_) (fun c1 h=> ?_))))))
  ·obtain rfl:=so h
   exact rq hC [] [8,15,16] [(8,vI e.num)] [] [] (qr eR)
  ·refine rq hC [] [17,18] [(17,vB (decide (e.kind=2)))] [] [] (aS h (fun c2 h=> ?_) (fun c2 h=> ?_))
   ·obtain⟨x1,hx1,x2,hx2,h⟩:=dI h
    obtain rfl:=so h
    exact rq hC [oV (eP G hx1),oV (rE G hx2)] [8,19,20,21,22,23] [(8,vI x2)] [] [] (qr eR)
   ·refine rq hC [] [24,25] [(24,vB (decide (e.kind=3)))] [] [] (aS h (fun c3 h=> ?_) (fun c3 h=> ?_))
    ·obtain⟨x3,hx3,x4,hx4,h⟩:=dI h
     obtain rfl:=so h
     exact rq hC [oV (dF G hx3),oR rI hx4] [8,26,27,28,29,30,31,32,33] [(8,vI x4)] [] [] (qr eR)
    ·refine qk (qs ?_)
     obtain⟨x5,hx5,x6,hx6,x7,hx7,h⟩:=kT h
     obtain⟨x8,hx8,h⟩:=bd h
     refine dk hC bP [.z (.row (eB x5)),oQ (fK aJ hx5 (cT x5)),oV (ih p m x5 point hx6),.z (.row (eB x7)),oQ (fK aJ hx7 (cT x7)),oV (ih p m x7 point hx8)] [9,10,34,35,36,37,38,39,40,41,42,43,44,45,46,47,48,49] [(9,vI x6),(10,vI x8)] [] [] (qs (rq hC [] [50,51] [(51,vI e.kind)] [] [] (qb (rq hC [] [52,53] [(52,vB (decide (e.kind=4)))] [] [] (aS h (fun c4 h=> ?_) (fun c4 h=> ?_))))))
     ·obtain⟨x9,hx9,h⟩:=bd h
      obtain rfl:=so h
      exact rq hC [oV (rE G hx9)] [8,54,55,56,57] [(8,vI x9)] [] [] (qr eR)
     ·refine rq hC [] [58,59] [(58,vB (decide (e.kind=5)))] [] [] (aS h (fun c5 h=> ?_) (fun c5 h=> ?_))
      ·obtain⟨x10,hx10,h⟩:=bd h
       obtain rfl:=so h
       exact rq hC [oV (rE G hx10)] [8,60,61,62,63] [(8,vI x10)] [] [] (qr eR)
      ·refine qk ?_
       obtain⟨x11,hx11,h⟩:=bd h
       obtain rfl:=so h
       exact rq hC [oV (rE G hx11)] [8,64,65,66,67] [(8,vI x11)] [] [] (qr eR)
theorem M8{p}{m}(mG:Nat){x}{r}(h:kH n p m x=some r):VQ G 149 [ar 3 mG 1 rI m] [V.agg (bD p),ms 0 mG 1 rI m,V.agg (N3 x)] (V.tup []) [ar 3 mG 1 rI r]:=by
 unfold kH at h
 refine vq aN Tryz.func149 rfl fun w X β0 hC hg=> ?_
 refine rq hC [.z (.b (true)),.z (.b (true))] [3,5] [(3,V.tp (bO p)),(5,V.tp (aDq x))] [] [] ?_
 obtain⟨x1,hx1,h⟩:=bd h
 refine rq hC [oV (qG G hx1),.z (.nat 20)] (fr 6 4) [(6,V.ref 20 0)] [(20,some (E.cells (cU x1)))] [(20,true)] ?_
 obtain⟨x2,hx2,x3,hx3,x4,hx4,h⟩:=kT h
 obtain⟨x5,hx5,h⟩:=bd h
 obtain rfl:=so h
 exact dk hC bP [oV (dF G hx2),.z (.b (true)),oV (xN G n p m x1.value x.point hx3),oQ (iJ rI hx4),oX rI hx4,.z (.rows (List.map rI x5)),oQ (str rI hx5)] [1,10,11,12,13,14,15,16,17,18,19,20,21,22,23,24] [] [(0,some (ar 3 mG 1 rI x5))] [] eW
theorem tI{p}{m}{r}(h:eZ n p m=some r):VQ G 58 [] [V.agg (bD p),vM rI m] (V.tup [ms 0 1 1 rI r.1,vB r.2]) [ar 3 1 1 rI r.1]:=by
 unfold eZ at h
 refine vq aN Tryz.func58 rfl fun w X β0 hC hg=> ?_
 refine rq hC [.z (.b (true))] [2,4,5] [(2,V.tp (bO p))] [] [] (qs ?_)
 obtain⟨x1,hx1,h⟩:=bd h
 refine rq hC [oV (A1 G hx1)] (fr 9 4) [(12,vB (!x1))] [] [] (aS h (fun c1 h=> ?_) (fun c1 h=> ?_))
 ·obtain rfl:=so h
  exact rq hC [] [4,5] [(4,V.t T.nilS),(5,vB false)] [] [] (qw (lk hC [.grow 4 0 3] [4] [(4,ms 0 1 1 rI [])] [(0,some (ar 3 1 1 rI []))] [(0,true)]) (qr eW))
 ·refine qk ?_
  obtain⟨x2,hx2,h⟩:=bd h
  refine rq hC [oC [] [20] (G.clone m hx2)] [6,13,14] [(6,ms 20 1 1 rI x2)] [(20,some (ar 3 1 1 rI x2))] [(20,true)] (qs ?_)
  obtain⟨x3,hx3,h⟩:=bd h
  refine rq hC [oC [] [21] (tK G hx3),oN aQ x3] (fr 15 4) [(16,ms 21 1 3 aQ x3),(17,vI (x3.length:Int)),(18,vI 0)] [(21,some (ar 112 1 3 aQ x3))] [(21,true)] (qb (bA (γ:=Nat) h (fun x_ g_=>aX [(2,V.tp (bO p)),(6,ms 20 g_ 1 rI x_.1),(16,ms 21 1 3 aQ x3),(17,vI (x3.length:Int)),(18,vI x_.2)] [(20,ar 3 g_ 1 rI x_.1),(21,ar 112 1 3 aQ x3)] [20,21]) 1 (lS) ?_))
  rintro again7 ⟨x4,x5⟩ g6 h
  refine rq hC [] [19] [(19,vB (decide (x5<(x3.length:Int))))] [] [] (qs (aS h (fun c2 h=> ?_) (fun c2 h=> ?_)))
  ·refine qk (qs (qb ?_))
   obtain⟨x8,hx8,h⟩:=bd h
   refine rq hC [oQ (iJ aQ hx8),oX aQ hx8,.z (.nat 22)] [8,20,21] [(8,V.ref 22 0)] [(22,some (E.cells (N3 x8)))] [(22,true)] ?_
   obtain⟨x9,hx9,x10,hx10,h⟩:=dI h
   exact rk hC [oC [20] [] (M8 G g6 hx9),.z (.len 6 (List.map rI x9).length),oQ (aIM rI hx10)] [6,22,23,24,25] [(6,ms 20 g6 1 rI x9)] [(20,some (ar 3 g6 1 rI x9))] [(20,true)] (rk hC [] [18,26] [(18,vI (wr (x5+1)))] [] [] ⟨(x9,wr (x5+1)),g6,h,lS⟩)
  ·obtain rfl:=so h
   exact cR (rq hC [] [4,5,27] [(4,ms 20 g6 1 rI x4),(5,vB true)] [] [] (qw (lk hC [.ren 4 20 0] [4] [(4,ms 0 1 1 rI x4)] [(0,some (ar 3 1 1 rI x4)),(20,none)] [(0,true)]) (qr eW)))
theorem tD{p}{q}{seed}{r}(h:pB n p q seed=some r):PQ G 20 [V.agg (bD p),V.agg (bD q),vI seed] (vB r):=by
 unfold pB at h
 refine pq aN Tryz.func20 rfl fun w X hC=> ?_
 refine rq hC [.z (.b (true)),.z (.b (true))] [3,4,6] [(3,V.tp (bO p)),(4,V.tp (bO q))] [] [] ?_
 obtain⟨x1,hx1,x2,hx2,h⟩:=dI h
 refine rq hC [oV (N2 G hx1),.z (.nat 20),oA (X4 rI hx2),oQ (t6 hx2).1] [7,13,14,15] [(7,ms 20 1 1 rI x2)] [(20,some (ar 3 1 1 rI x2))] [(20,true)] (qs (rq hC [] [8] [(8,vI 0)] [] [] (qb (bA (γ:=Nat) h (fun x_ g_=>aX [(2,vI seed),(3,V.tp (bO p)),(4,V.tp (bO q)),(7,ms 20 g_ 1 rI x_.1),(8,vI x_.2)] [(20,ar 3 g_ 1 rI x_.1)] [20]) 1 (lS) ?_))))
 rintro again6 ⟨x3,x4⟩ g5 h
 refine qs (rq hC [oN rI x3] (fr 16 4) [(19,vB (decide (x4<(x3.length:Int))))] [] [] (aS h (fun c1 h=> ?_) (fun c1 h=> ?_)))
 ·refine qk (qs (qb ?_))
  obtain⟨x7,hx7,x8,hx8,h⟩:=dI h
  exact rk hC [oQ (show(1000:Int)≠0 by decide),oQ (iJ rI hx7),oX rI hx7,.z (.rows (List.map rI x8)),.z (.len 7 (List.map rI x8).length),oQ (str rI hx8),oQ (nR rI hx8)] [7,22,23,24,25,26,27,28,29,30,31] [(7,ms 20 g5 1 rI x8)] [(20,some (ar 3 g5 1 rI x8))] [] (rk hC [] [8,20,21] [(8,vI (wr (x4+1)))] [] [] ⟨(x8,wr (x4+1)),g5,h,lS⟩)
 ·refine cR ?_
  obtain⟨x9,hx9,h⟩:=bd h
  refine rq hC [.z (.at 6),.z (.fz 20 [7,34] []),oC [] [21] (tI G hx9)] [7,9,10,32,33,34,35,36,37] [(7,vM rI x3),(9,ms 21 1 1 rI x9.1),(10,vB x9.2)] [(20,none),(21,some (ar 3 1 1 rI x9.1))] [(21,true)] ?_
  obtain⟨x10,hx10,h⟩:=bd h
  refine rq hC [oC [] [22] (tI G hx10)] [11,12,38,39,40,41,42,43] [(11,ms 22 1 1 rI x10.1),(12,vB x10.2)] [(22,some (ar 3 1 1 rI x10.1))] [(22,true)] (vj h (fun x_=>aX [(6,vB x_)] [(21,ar 3 1 1 rI x9.1),(22,ar 3 1 1 rI x10.1)] [20,21,22]) (fun j11 h=> ?_) (fun x13 h=> ?_))
  ·
   refine aR h (fun c2 h=> ?_) (fun c2 h=> ?_)
   ·exact rk hC ([oF c2,oF c2]++sF 4) [6,44,45,46,47,48,49,50,51,52] [(6,vB false)] [] [] (lE h)
   ·refine aR h (fun c3 h=> ?_) (fun c3 h=> ?_)
    ·exact rk hC ([oT c2,oT c2]++rF 4 c3) [6,44,45,46,47,48,49,50,51,52] [(6,vB false)] [] [] (lE h)
    ·obtain⟨x12,hx12,h⟩:=bd h
     exact rk hC ([oT c2,oT c2]++rT 3 c3++[.z (.b (true)),oV (aCT G hx12),oT c3]) [6,44,45,46,47,48,49,50,51,52] [(6,vB x12)] [] [] (lE h)
  ·obtain rfl:=so h
   exact qr eR
theorem aBy{r_a0}{r}(h:pM n r_a0=some r):VQ G 121 [eL r_a0] [V.ref 0 0] (V.agg (bD r.1)) [eL r.2]:=by
 unfold pM at h
 refine vq aN Tryz.func121 rfl fun w X β0 hC hg=> ?_
 refine rq hC [.z (.nat 20)] [2] [(2,V.ref 20 0)] [(20,sc [V.t T.nilS,V.t T.nilS])] [(20,true)] ?_
 obtain⟨x1,hx1,h⟩:=bd h
 refine rq hC [.z (.int 0),oC [0] [] (kM G hx1)] [3,6,7,8] [(3,vS x1.1)] [(0,sR x1.2)] [(0,true)] ?_
 obtain⟨x2,hx2,x3,hx3,h⟩:=dI h
 refine rq hC [oS hx2,oV (qD G hx3),.z (.nat 21)] [4,5,9,10,11,12,13,14] [(4,V.ref 21 0),(5,vB x3.2)] [(21,some (E.cells (bD x3.1)))] [(21,true)] (qs (vj h (fun x_=>aX [(0,V.ref 0 0),(2,V.ref 20 0),(4,V.ref 21 0),(20,vB x_.2.2)] [(0,E.cells [vM rY x_.1,vI x_.2.1]),(20,E.cells [V.t T.nilS,V.t T.nilS]),(21,E.cells (bD x3.1))] [0,20,21]) (fun j4 h=> ?_) ?_))
 ·
  refine aR h (fun c1 h=> ?_) (fun c1 h=> ?_)
  ·exact rk hC (rF 4 c1) (fr 15 6) [(20,vB false)] [] [] (lE h)
  ·obtain⟨x5,hx5,h⟩:=bd h
   exact rk hC [oT c1,oT c1,oC [0] [] (bH G hx5),oT c1,oT c1] (fr 15 6) [(20,vB (decide (x5.1=0)))] [(0,sR x5.2)] [(0,true)] (lE h)
 ·rintro⟨x6,x7,x8⟩ h
  refine aS h (fun c2 h=> ?_) (fun c2 h=> ?_)
  ·obtain rfl:=so h
   exact rq hC [] [21] [] [(20,some (E.cells (bD x3.1)))] [] (qr eW)
  ·refine qk ?_
   obtain⟨x9,hx9,h⟩:=bd h
   obtain rfl:=so h
   exact rq hC [oC [0] [] (aCV G hx9)] [22,23] [] [(0,sR x9.2),(20,some (E.cells (bD x9.1)))] [(0,true)] (qr eW)
theorem aBz{r_a0}{r}(h:tT n r_a0=some r):VQ G 82 [eL r_a0] [V.ref 0 0] (V.tup [V.agg (bD r.1),vI r.2.1]) [eL r.2.2]:=by
 unfold tT at h
 refine vq aN Tryz.func82 rfl fun w X β0 hC hg=> ?_
 refine rq hC [.z (.nat 20)] [2,3] [(2,V.ref 20 0)] [(20,sc [V.t T.nilS,V.t T.nilS])] [(20,true)] ?_
 obtain⟨x1,hx1,x2,hx2,h⟩:=dI h
 refine rq hC [oC [0] [] (aBy G hx1),oC [0] [] (aAc G hx2),.z (.nat 21)] (fr 4 5) [(4,V.ref 21 0)] [(0,sR x2.2),(21,some (E.cells (bD x2.1)))] [(0,true),(0,true),(21,true)] (qs ?_)
 obtain⟨x3,hx3,h⟩:=bd h
 obtain rfl:=so h
 exact dk hC bP [.z (.int 0),oC [0] [] (bC G hx3)] [3,9,10,11,12] [(3,vI x3.1)] [(0,sR x3.2),(20,some (E.cells (bD x2.1)))] [(0,true)] (qr eW)
theorem xK{code}{r}(h:gA n code=some r):PQ G 21 [vM rY code] (V.tup [V.agg (bD r.1),vI r.2]):=by
 unfold gA at h
 refine pq aN Tryz.func21 rfl fun w X hC=> ?_
 refine rq hC [.z (.nat 20)] [2,3] [(2,V.ref 20 0)] [(20,sc [V.t T.nilS,V.t T.nilS])] [(20,true)] ?_
 obtain⟨x1,hx1,x2,hx2,h⟩:=dI h
 obtain rfl:=so h
 exact rq hC [oC [] [21] (aBx G hx1),oC [21] [] (aBz G hx2)] (fr 3 6) [(3,vI x2.2.1)] [(21,sR x2.2.2),(20,some (E.cells (bD x2.1)))] [(21,true),(21,true)] (qr eR)
theorem n6{t}{part}{r}(h:d8 n t part=some r):VQ G 182 [] [V.tp [T.sl (List.map aI t.program.arrays),T.sl (List.map aC t.program.parts),T.sl (List.map aQ t.list),T.sl (List.map (rL rI) t.reads),T.sl (List.map rI t.writes)],vI part] (V.tup [ms 0 1 1 rB r.1,ms 1 1 1 rB r.2]) [ar 4 1 1 rB r.1,ar 4 1 1 rB r.2]:=by
 unfold d8 at h
 refine vq aN Tryz.func182 rfl fun w X β0 hC hg=> ?_
 refine rq hC [] [4,5] [] [] [] (qs ?_)
 obtain⟨x1,hx1,x2,hx2,x3,hx3,h⟩:=kT h
 obtain⟨x4,hx4,h⟩:=bd h
 refine dk hC bP [oV (fE G hx1),.z (.nat 20),oA (X4 rB hx2),oQ (t6 hx2).1,oV (fE G hx3),.z (.nat 21),oA (X4 rB hx4),oQ (t6 hx4).1] [6,7,12,13,14,15,16,17,18,19,20,21,22,23] [(6,ms 20 1 1 rB x2),(7,ms 21 1 1 rB x4)] [(20,some (ar 4 1 1 rB x2)),(21,some (ar 4 1 1 rB x4))] [(20,true),(21,true)] (qs (rq hC [oN aQ t.list] (fr 24 6) [(27,vM aQ t.list),(28,vI (t.list.length:Int)),(29,vI 0)] [] [] (qb (bA (γ:=Nat×Nat) h (fun x_ g_=>aX [(0,V.tp [T.sl (List.map aI t.program.arrays),T.sl (List.map aC t.program.parts),T.sl (List.map aQ t.list),T.sl (List.map (rL rI) t.reads),T.sl (List.map rI t.writes)]),(1,vI part),(6,ms 20 g_.1 1 rB x_.1),(7,ms 21 g_.2 1 rB x_.2.1),(27,vM aQ t.list),(28,vI (t.list.length:Int)),(29,vI x_.2.2)] [(20,ar 4 g_.1 1 rB x_.1),(21,ar 4 g_.2 1 rB x_.2.1)] [20,21]) (1,1) (lS) ?_))))
 rintro again10 ⟨x5,x6,x7⟩ ⟨g8,g9⟩ h
 refine rq hC [] [30] [(30,vB (decide (x7<(t.list.length:Int))))] [] [] (qs (aS h (fun c1 h=> ?_) (fun c1 h=> ?_)))
 ·refine qk ?_
  obtain⟨j11,hj11,h⟩:=yQ h
  refine jU (γ:=Nat) (j:=j11) (r:=r) (fun x_ g_=>aX [(0,V.tp [T.sl (List.map aI t.program.arrays),T.sl (List.map aC t.program.parts),T.sl (List.map aQ t.list),T.sl (List.map (rL rI) t.reads),T.sl (List.map rI t.writes)]),(1,vI part),(6,ms 20 g_ 1 rB x_.1),(7,ms 21 g9 1 rB x_.2.1),(27,vM aQ t.list),(28,vI (t.list.length:Int)),(29,vI x7)] [(20,ar 4 g_ 1 rB x_.1),(21,ar 4 g9 1 rB x_.2.1),(22,E.cells [vI x_.2.2.1,vI x_.2.2.2.1,vM rI x_.2.2.2.2])] [20,21,22]) ?_ ?_
  ·
   refine qb ?_
   obtain⟨x12,hx12,h⟩:=bd h
   refine rq hC [oR aQ hx12,.z (.nat 22)] [8,9,31,32,33] [(8,vI x7),(9,V.ref 22 0)] [(22,some (E.cells (N3 x12)))] [(22,true)] (qs (rq hC [] (fr 34 4) [(37,vB (!decide (x12.part=part)))] [] [] (aS h (fun c2 h=> ?_) (fun c2 h=> ?_))))
   ·exact cR ⟨(x5,x6,x12.part,x12.stmt,x12.point),g8,h,lS⟩
   ·refine qk (qs ?_)
    obtain⟨x13,hx13,h⟩:=bd h
    refine rq hC [oR (rL rI) hx13,oN rI x13] (fr 38 9) [(44,vM rI x13),(45,vI (x13.length:Int)),(46,vI 0)] [] [] (qb (bA (γ:=Nat) h (fun x_ g_=>aX [(0,V.tp [T.sl (List.map aI t.program.arrays),T.sl (List.map aC t.program.parts),T.sl (List.map aQ t.list),T.sl (List.map (rL rI) t.reads),T.sl (List.map rI t.writes)]),(1,vI part),(6,ms 20 g_ 1 rB x_.1),(7,ms 21 g9 1 rB x6),(8,vI x7),(27,vM aQ t.list),(28,vI (t.list.length:Int)),(29,vI x7),(44,vM rI x13),(45,vI (x13.length:Int)),(46,vI x_.2)] [(20,ar 4 g_ 1 rB x_.1),(21,ar 4 g9 1 rB x6),(22,E.cells (N3 x12))] [20,21,22]) g8 (lS) ?_))
    rintro again17 ⟨x14,x15⟩ g16 h
    refine rq hC [] [47] [(47,vB (decide (x15<(x13.length:Int))))] [] [] (qs (aS h (fun c3 h=> ?_) (fun c3 h=> ?_)))
    ·refine qk (qs (qb ?_))
     obtain⟨x18,hx18,h⟩:=bd h
     refine rq hC [oR rI hx18] [11,48,49] [(11,vI x18)] [] [] ?_
     obtain⟨x19,hx19,x20,hx20,h⟩:=dI h
     exact rk hC [oQ (iJ rB hx19),oX rB hx19,.z (.rows (List.map rB x20)),.z (.len 6 (List.map rB x20).length),oQ (str rB hx20),oQ (nR rB hx20)] [6,50,51,52] [(6,ms 20 g16 1 rB x20)] [(20,some (ar 4 g16 1 rB x20))] [] (rk hC [] [46,53] [(46,vI (wr (x15+1)))] [] [] ⟨(x20,wr (x15+1)),g16,h,lS⟩)
    ·refine cR ?_
     obtain⟨x21,hx21,x22,hx22,x23,hx23,h⟩:=kT h
     exact rk hC [oR rI hx21,oQ (iJ rB hx22),oX rB hx22,.z (.rows (List.map rB x23)),.z (.len 7 (List.map rB x23).length),oQ (str rB hx23),oQ (nR rB hx23)] [7,54,55,56,57,58,59,60,61,62] [(7,ms 21 g9 1 rB x23)] [(21,some (ar 4 g9 1 rB x23))] [] ⟨(x14,x23,x12.part,x12.stmt,x12.point),g16,h,lS⟩
  ·rintro⟨x24,x25,x26,x27,x28⟩ g29 h
   subst hj11
   exact rk hC [] [29,63] [(29,vI (wr (x7+1)))] [] [] ⟨(x24,x25,wr (x7+1)),(g29,g9),h,lS⟩
 ·obtain rfl:=so h
  exact cR (rq hC [] [4,5,64,65] [(4,ms 20 g8 1 rB x5),(5,ms 21 g9 1 rB x6)] [] [] (qw (lk hC [.ren 4 20 0] [4] [(4,ms 0 1 1 rB x5)] [(0,some (ar 4 1 1 rB x5)),(20,none)] [(0,true)]) (qw (lk hC [.ren 5 21 1] [5] [(5,ms 1 1 1 rB x6)] [(1,some (ar 4 1 1 rB x6)),(21,none)] [(1,true)]) (qr eW))))
theorem uF{p}{x}{r}(h:e9 n p x=some r):VQ G 185 [] [V.agg (bD p),V.agg (N3 x)] (V.tup [ms 0 1 1 rI r.1,vI r.2]) [ar 3 1 1 rI r.1]:=by
 unfold e9 at h
 refine vq aN Tryz.func185 rfl fun w X β0 hC hg=> ?_
 refine rq hC [.z (.b (true)),.z (.b (true))] (fr 2 4) [(2,V.tp (bO p)),(3,V.tp (aDq x))] [] [] ?_
 obtain⟨x1,hx1,h⟩:=bd h
 refine rq hC [oV (qG G hx1),.z (.nat 20)] [6,10,11,12] [(6,V.ref 20 0)] [(20,some (E.cells (cU x1)))] [(20,true)] (rq hC [] [7] [(7,V.t T.nilS)] [] [] (qs ?_))
 obtain⟨x2,hx2,h⟩:=bd h
 refine rq hC [oC [] [21] (U3 G n x1.value hx2),oN aU x2] (fr 13 5) [(15,ms 21 1 2 aU x2),(16,vI (x2.length:Int)),(17,vI 0)] [(21,some (ar 77 1 2 aU x2))] [(21,true)] (qb (qw (lk hC [.grow 7 22 3] [7] [(7,ms 22 1 1 rI [])] [(22,some (ar 3 1 1 rI []))] [(22,true)]) (bA (γ:=Nat) h (fun x_ g_=>aX [(2,V.tp (bO p)),(3,V.tp (aDq x)),(6,V.ref 20 0),(7,ms 22 g_ 1 rI x_.1),(15,ms 21 1 2 aU x2),(16,vI (x2.length:Int)),(17,vI x_.2)] [(20,E.cells (cU x1)),(21,ar 77 1 2 aU x2),(22,ar 3 g_ 1 rI x_.1)] [20,21,22]) 1 (lS) ?_)))
 rintro again6 ⟨x3,x4⟩ g5 h
 refine rq hC [] [18] [(18,vB (decide (x4<(x2.length:Int))))] [] [] (qs (aS h (fun c1 h=> ?_) (fun c1 h=> ?_)))
 ·refine qk (qs (qb ?_))
  obtain⟨x7,hx7,h⟩:=bd h
  refine rq hC [oQ (iJ aU hx7),oX aU hx7,.z (.nat 23)] [9,19,20] [(9,V.ref 23 0)] [(23,some (E.cells (cP x7)))] [(23,true)] ?_
  obtain⟨x8,hx8,x9,hx9,h⟩:=dI h
  exact rk hC [oV (dF G hx8),.z (.int 0),oA (aP rI hx9),oQ (b6 (r:=rI) 1 (fun _=>rfl) x3),oQ (b6 (r:=rI) 1 (fun _=>rfl) [x8])] [7,21,22,23,24,25,26,27,28] [(7,ms 22 (g5+1) 1 rI x9)] [(22,some (ar 3 (g5+1) 1 rI x9))] [] (rk hC [] [17,29] [(17,vI (wr (x4+1)))] [] [] ⟨(x9,wr (x4+1)),(g5+1),h,lS⟩)
 ·refine cR ?_
  obtain⟨x10,hx10,h⟩:=bd h
  obtain rfl:=so h
  exact rq hC [oV (dF G hx10)] [4,5,30,31,32,33,34,35,36] [(4,ms 22 g5 1 rI x3),(5,vI x10)] [] [] (qw (lk hC [.ren 4 22 0] [4] [(4,ms 0 1 1 rI x3)] [(0,some (ar 3 1 1 rI x3)),(22,none)] [(0,true)]) (qr eW))
theorem U2{p}{r}(h:w4 n p=some r):PQ G 86 [V.agg (bD p)] (V.tup [vP aHu r.1,vB r.2]):=by
 unfold w4 at h
 refine pmr aN Tryz.func86 rfl rfl rfl rfl rfl (aKe _ _ _) rfl ?_
 intro w X hC
 refine rq hC [.z (.b (true))] [1,2,3] [(1,V.tp (bO p))] [] [] ?_
 obtain⟨x1,hx1,h⟩:=bd h
 refine rq hC [oC [] [20] (gI G hx1)] [4,5,11,12,13,14,15] [(4,ms 20 1 3 aQ x1.1),(5,vB x1.2)] [(20,some (ar 112 1 3 aQ x1.1))] [(20,true)] (qs (rq hC [] [16,17] [(17,vB (!x1.2))] [] [] (aS h (fun c1 h=> ?_) (fun c1 h=> ?_))))
 ·obtain rfl:=so h
  exact rq hC [] [2,3] [(2,V.t T.nilP),(3,vB false)] [] [] (qr eR)
 ·refine qk (rq hC [.z (.nat 21)] [6,18,19,20,21] [(6,V.ref 21 0)] [(21,sc [vM aI p.arrays,vM aC p.parts,ms 20 1 3 aQ x1.1,V.t T.nilS,V.t T.nilS])] [(21,true)] (qs (rq hC [oN aQ x1.1] [22,23,24] [(22,ms 20 1 3 aQ x1.1),(23,vI (x1.1.length:Int)),(24,vI 0)] [] [] (qb (qw (lk hC [.growc 21 3 22 48] [] [] [(22,some (ar 48 1 1 (rL rI) [])),(21,sc [vM aI p.arrays,vM aC p.parts,ms 20 1 3 aQ x1.1,ms 22 1 1 (rL rI) [],V.t T.nilS])] [(22,true)]) ?_)))))
  refine qw (lk hC [.growc 21 4 23 3] [] [] [(23,some (ar 3 1 1 rI [])),(21,sc [vM aI p.arrays,vM aC p.parts,ms 20 1 3 aQ x1.1,ms 22 1 1 (rL rI) [],ms 23 1 1 rI []])] [(23,true)]) (bA (γ:=Nat×Nat) h (fun x_ g_=>aX [(1,V.tp (bO p)),(6,V.ref 21 0),(22,ms 20 1 3 aQ x1.1),(23,vI (x1.1.length:Int)),(24,vI x_.2.2)] [(20,ar 112 1 3 aQ x1.1),(21,E.cells [vM aI p.arrays,vM aC p.parts,ms 20 1 3 aQ x1.1,ms 22 g_.1 1 (rL rI) x_.1,ms 23 g_.2 1 rI x_.2.1]),(22,ar 48 g_.1 1 (rL rI) x_.1),(23,ar 3 g_.2 1 rI x_.2.1)] [20,21,22,23]) (1,1) (lS) ?_)
  rintro again7 ⟨x2,x3,x4⟩ ⟨g5,g6⟩ h
  refine rq hC [] [25] [(25,vB (decide (x4<(x1.1.length:Int))))] [] [] (qs (aS h (fun c2 h=> ?_) (fun c2 h=> ?_)))
  ·refine qk (qs (qb ?_))
   obtain⟨x8,hx8,h⟩:=bd h
   refine rq hC [oQ (iJ aQ hx8),oX aQ hx8,.z (.nat 24)] [8,26,27] [(8,V.ref 24 0)] [(24,some (E.cells (N3 x8)))] [(24,true)] ?_
   obtain⟨x9,hx9,h⟩:=bd h
   refine rq hC [oC [] [25] (uF G hx9)] [9,10,28,29,30,31,32,33] [(9,ms 25 1 1 rI x9.1),(10,vI x9.2)] [(25,some (ar 3 1 1 rI x9.1))] [(25,true)] ?_
   obtain⟨x10,hx10,x11,hx11,h⟩:=dI h
   exact dk hC bP [.z (.at 15),.z (.fz 25 [9,40] []),.z (.int 0),oA (aP (rL rI) hx10),.z (.int 0),oQ (b6 (r:=(rL rI)) 1 (fun _=>rfl) x2),oQ (b6 (r:=(rL rI)) 1 (fun _=>rfl) [x9.1]),oA (aP rI hx11),oQ (b6 (r:=rI) 1 (fun _=>rfl) x3),oQ (b6 (r:=rI) 1 (fun _=>rfl) [x9.2])] [9,34,35,36,37,38,39,40,41,42,43,44,45,46,47,48,49,50,51,52,53] [] [(25,none),(22,some (ar 48 (g5+1) 1 (rL rI) x10)),(23,some (ar 3 (g6+1) 1 rI x11)),(21,sc [vM aI p.arrays,vM aC p.parts,ms 20 1 3 aQ x1.1,ms 22 (g5+1) 1 (rL rI) x10,ms 23 (g6+1) 1 rI x11])] [] (rk hC [] [24,54] [(24,vI (wr (x4+1)))] [] [] ⟨(x10,x11,wr (x4+1)),((g5+1),(g6+1)),h,lS⟩)
  ·obtain rfl:=so h
   exact cR (rq hC [] [2,3,55] [(2,V.ref 21 0),(3,vB true)] [] [] (qw (lk hC [.fz 20 [22] [21],.fz 22 [] [21],.fz 23 [] [21],.fp 21 [2,6]] [2,6,22] [(2,V.tp [T.sl (List.map aI p.arrays),T.sl (List.map aC p.parts),T.sl (List.map aQ x1.1),T.sl (List.map (rL rI) x2),T.sl (List.map rI x3)]),(6,V.tp [T.sl (List.map aI p.arrays),T.sl (List.map aC p.parts),T.sl (List.map aQ x1.1),T.sl (List.map (rL rI) x2),T.sl (List.map rI x3)]),(22,vM aQ x1.1)] [(21,none),(20,none),(22,none),(23,none)] []) (qr eR)))
theorem bT{p}{part}{r}(h:cO n p part=some r):PQ G 87 [V.agg (bD p),vI part] (vB r):=by
 unfold cO at h
 refine pq aN Tryz.func87 rfl fun w X hC=> ?_
 refine rq hC [.z (.b (true))] [2,4] [(2,V.tp (bO p))] [] [] ?_
 obtain⟨x1,hx1,h⟩:=bd h
 obtain rfl:=so h
 exact rq hC [oN aC p.parts,oV (bL G hx1)] (fr 4 7) [(4,vB x1)] [] [] (qr eR)
theorem tL{p}{a}{b}{r}(h:eE n p a b=some r):PQ G 83 [V.agg (bD p),vI a,vI b] (vB r):=by
 unfold eE at h
 refine pq aN Tryz.func83 rfl fun w X hC=> ?_
 refine rq hC [.z (.b (true))] [3,6] [(3,V.tp (bO p))] [] [] (qs ?_)
 obtain⟨x1,hx1,h⟩:=bd h
 refine aR h (fun c1 h=> ?_) (fun c1 h=> ?_)
 ·refine rk hC [.z (.v (V.tup [V.t T.nilP,vB x1.2])),oQ (vPn c1 (U2 G hx1))] [7,8,14,15,16,17,18] [(7,V.t T.nilP),(8,vB x1.2)] [] [] (qs (vj h (fun x_=>aX [(1,vI a),(2,vI b),(7,V.t T.nilP),(37,vB x_)] [] []) (fun j2 h=> ?_) (fun x5 h=> ?_)))
  ·
   refine aR h (fun c2 h=> ?_) (fun c2 h=> ?_)
   ·obtain⟨x3,hx3,h⟩:=bd h
    refine aR h (fun c3 h=> ?_) (fun c3 h=> ?_)
    ·obtain⟨x4,hx4,h⟩:=bd h
     refine aR h (fun c4 h=> ?_) (fun c4 h=> ?_)
     ·exact rk hC (rF 3 c2++[oV (bT G hx3),oF c2,oF c2]++rF 3 c3++[oV (bT G hx4),oF c3,oF c3]++rF 4 c4) (fr 19 19) [(37,vB (decide (a=b)))] [] [] (lE h)
     ·exact rk hC (rF 3 c2++[oV (bT G hx3),oF c2,oF c2]++rF 3 c3++[oV (bT G hx4),oF c3,oF c3]++rT 4 c4) (fr 19 19) [(37,vB true)] [] [] (lE h)
    ·exact rk hC (rF 3 c2++[oV (bT G hx3),oF c2,oF c2]++rT 5 c3++sT 4) (fr 19 19) [(37,vB true)] [] [] (lE h)
   ·exact rk hC (rT 5 c2++sT 9) (fr 19 19) [(37,vB true)] [] [] (lE h)
  ·refine aS h (fun c5 h=> ?_) (fun c5 h=> ?_)
   ·obtain rfl:=so h
    exact rq hC [] [6] [(6,vB false)] [] [] (qr eR)
   ·exact qk (qs (nof h))
 ·refine rk hC [.z (.v (V.tup [V.tp [T.sl (List.map aI (((x1.1.getD default).program).arrays)),T.sl (List.map aC (((x1.1.getD default).program).parts)),T.sl (List.map aQ ((x1.1.getD default).list)),T.sl (List.map (rL rI) ((x1.1.getD default).reads)),T.sl (List.map rI ((x1.1.getD default).writes))],vB x1.2])),oQ (vPs c1 (U2 G hx1))] [7,8,14,15,16,17,18] [(7,V.tp [T.sl (List.map aI (((x1.1.getD default).program).arrays)),T.sl (List.map aC (((x1.1.getD default).program).parts)),T.sl (List.map aQ ((x1.1.getD default).list)),T.sl (List.map (rL rI) ((x1.1.getD default).reads)),T.sl (List.map rI ((x1.1.getD default).writes))]),(8,vB x1.2)] [] [] (qs (vj h (fun x_=>aX [(1,vI a),(2,vI b),(7,V.tp [T.sl (List.map aI (((x1.1.getD default).program).arrays)),T.sl (List.map aC (((x1.1.getD default).program).parts)),T.sl (List.map aQ ((x1.1.getD default).list)),T.sl (List.map (rL rI) ((x1.1.getD default).reads)),T.sl (List.map rI ((x1.1.getD default).writes))]),(37,vB x_)] [] []) (fun j6 h=> ?_) (fun x9 h=> ?_)))
  ·
   refine aR h (fun c6 h=> ?_) (fun c6 h=> ?_)
   ·obtain⟨x7,hx7,h⟩:=bd h
    refine aR h (fun c7 h=> ?_) (fun c7 h=> ?_)
    ·obtain⟨x8,hx8,h⟩:=bd h
     refine aR h (fun c8 h=> ?_) (fun c8 h=> ?_)
     ·exact rk hC (rF 3 c6++[oV (bT G hx7),oF c6,oF c6]++rF 3 c7++[oV (bT G hx8),oF c7,oF c7]++rF 4 c8) (fr 19 19) [(37,vB (decide (a=b)))] [] [] (lE h)
     ·exact rk hC (rF 3 c6++[oV (bT G hx7),oF c6,oF c6]++rF 3 c7++[oV (bT G hx8),oF c7,oF c7]++rT 4 c8) (fr 19 19) [(37,vB true)] [] [] (lE h)
    ·exact rk hC (rF 3 c6++[oV (bT G hx7),oF c6,oF c6]++rT 5 c7++sT 4) (fr 19 19) [(37,vB true)] [] [] (lE h)
   ·exact rk hC (rT 5 c6++sT 9) (fr 19 19) [(37,vB true)] [] [] (lE h)
  ·refine aS h (fun c9 h=> ?_) (fun c9 h=> ?_)
   ·obtain rfl:=so h
    exact rq hC [] [6] [(6,vB false)] [] [] (qr eR)
   ·refine qk ?_
    obtain⟨x10,hx10,h⟩:=bd h
    refine rq hC [oC [] [20,21] (n6 G hx10)] [9,10,38,39,40,41,42,43] [(9,ms 20 1 1 rB x10.1),(10,ms 21 1 1 rB x10.2)] [(20,some (ar 4 1 1 rB x10.1)),(21,some (ar 4 1 1 rB x10.2))] [(20,true),(21,true)] ?_
    obtain⟨x11,hx11,h⟩:=bd h
    refine rq hC [oC [] [22,23] (n6 G hx11)] [11,12,44,45,46,47,48,49] [(11,ms 22 1 1 rB x11.1),(12,ms 23 1 1 rB x11.2)] [(22,some (ar 4 1 1 rB x11.1)),(23,some (ar 4 1 1 rB x11.2))] [(22,true),(23,true)] (qs (rq hC [oN rB x10.1] [50,51,52] [(51,vI (x10.1.length:Int)),(52,vI 0)] [] [] (qb (jT h (fun x_=>aX [(9,ms 20 1 1 rB x10.1),(10,ms 21 1 1 rB x10.2),(11,ms 22 1 1 rB x11.1),(12,ms 23 1 1 rB x11.2),(51,vI (x10.1.length:Int)),(52,vI x_)] [(20,ar 4 1 1 rB x10.1),(21,ar 4 1 1 rB x10.2),(22,ar 4 1 1 rB x11.1),(23,ar 4 1 1 rB x11.2)] [20,21,22,23]) lS ?_))))
    rintro again13 x12 h
    refine rq hC [] [53] [(53,vB (decide (x12<(x10.1.length:Int))))] [] [] (qs (aS h (fun c10 h=> ?_) (fun c10 h=> ?_)))
    ·refine qk (qs (qb (rq hC [] [13,54] [(13,vI x12)] [] [] (vj h (fun x_=>aX [(9,ms 20 1 1 rB x10.1),(10,ms 21 1 1 rB x10.2),(11,ms 22 1 1 rB x11.1),(12,ms 23 1 1 rB x11.2),(51,vI (x10.1.length:Int)),(52,vI x12),(82,vB x_)] [(20,ar 4 1 1 rB x10.1),(21,ar 4 1 1 rB x10.2),(22,ar 4 1 1 rB x11.1),(23,ar 4 1 1 rB x11.2)] [20,21,22,23]) (fun j14 h=> ?_) (fun x20 h=> ?_)))))
     ·
      obtain⟨x15,hx15,h⟩:=bd h
      refine aR h (fun c11 h=> ?_) (fun c11 h=> ?_)
      ·obtain⟨x16,hx16,h⟩:=bd h
       refine aR h (fun c12 h=> ?_) (fun c12 h=> ?_)
       ·exact rk hC ([oQ (iJ rB hx15),oX rB hx15]++rF 7 c11++[eF,eF,eF,oQ (iJ rB hx16),eF,oX rB hx16,eF]++rF 4 c12++[eF,oF c12,eF]) (fr 55 28) [(82,vB false)] [] [] (lE h)
       ·obtain⟨x17,hx17,h⟩:=bd h
        exact rk hC ([oQ (iJ rB hx15),oX rB hx15]++rF 7 c11++[eF,eF,eF,oQ (iJ rB hx16),eF,oX rB hx16,eF]++rT 3 c12++[oQ (iJ rB hx17),oT c12,oX rB hx17,eF,oT c12,eF]) (fr 55 28) [(82,vB x17)] [] [] (lE h)
      ·obtain⟨x18,hx18,h⟩:=bd h
       refine aR h (fun c13 h=> ?_) (fun c13 h=> ?_)
       ·obtain⟨x19,hx19,h⟩:=bd h
        refine aR h (fun c14 h=> ?_) (fun c14 h=> ?_)
        ·exact rk hC ([oQ (iJ rB hx15),oX rB hx15]++rT 3 c11++[oQ (iJ rB hx18),oT c11,oX rB hx18,oT c11]++rF 3 c13++[oQ (iJ rB hx19),oF c13,oX rB hx19,oT c11,oF c13,oT c11]++rF 3 c14++[oQ (iJ rB hx19),oF c14,oX rB hx19]++rF 8 c14) (fr 55 28) [(82,vB false)] [] [] (lE h)
        ·exact rk hC ([oQ (iJ rB hx15),oX rB hx15]++rT 3 c11++[oQ (iJ rB hx18),oT c11,oX rB hx18,oT c11]++rF 3 c13++[oQ (iJ rB hx19),oF c13,oX rB hx19,oT c11,oF c13,oT c11]++rT 7 c14) (fr 55 28) [(82,vB true)] [] [] (lE h)
       ·exact rk hC ([oQ (iJ rB hx15),oX rB hx15]++rT 3 c11++[oQ (iJ rB hx18),oT c11,oX rB hx18,oT c11]++rT 4 c13++[oT c11,oT c13,oT c11]++sT 7) (fr 55 28) [(82,vB true)] [] [] (lE h)
     ·refine aS h (fun c15 h=> ?_) (fun c15 h=> ?_)
      ·obtain rfl:=so h
       exact rq hC [] [6] [(6,vB false)] [] [] (qr eR)
      ·exact qk (rk hC [] [52,83] [(52,vI (wr (x12+1)))] [] [] (lE h))
    ·obtain rfl:=so h
     exact cR (rq hC [] [6] [(6,vB true)] [] [] (qr eR))
theorem uR{p}{part}{r}(h:jP n p part=some r):PQ G 22 [V.agg (bD p),vI part] (V.tup [V.agg (bD r.1),vB r.2]):=by
 unfold jP at h
 refine pq aN Tryz.func22 rfl fun w X hC=> ?_
 refine rq hC [.z (.b (true)),.z (.nat 20)] [2,4,5] [(2,V.tp (bO p)),(4,V.ref 20 0)] [(20,sc [V.t T.nilS,V.t T.nilS])] [(20,true)] (qs (vj h (fun x_=>aX [(1,vI part),(2,V.tp (bO p)),(4,V.ref 20 0),(23,vB x_)] [(20,E.cells [V.t T.nilS,V.t T.nilS])] [20]) (fun j1 h=> ?_) (fun x3 h=> ?_)))
 ·
  refine aR h (fun c1 h=> ?_) (fun c1 h=> ?_)
  ·refine aR h (fun c2 h=> ?_) (fun c2 h=> ?_)
   ·obtain⟨x2,hx2,h⟩:=bd h
    exact rk hC (rF 4 c1++[oN aC p.parts,oF c1,oF c1]++rF 5 c2++[oV (tL G hx2),oF c2,oF c2]) (fr 7 17) [(23,vB (!x2))] [] [] (lE h)
   ·exact rk hC (rF 4 c1++[oN aC p.parts,oF c1,oF c1]++rT 7 c2) (fr 7 17) [(23,vB true)] [] [] (lE h)
  ·exact rk hC (rT 6 c1++sT 7) (fr 7 17) [(23,vB true)] [] [] (lE h)
 ·refine aS h (fun c3 h=> ?_) (fun c3 h=> ?_)
  ·obtain rfl:=so h
   exact rq hC [] [5,24] [(5,vB false)] [(20,sc [V.t T.nilS,V.t T.nilS])] [] (qr eR)
  ·refine qk ?_
   obtain⟨x4,hx4,h⟩:=bd h
   refine rq hC [oC [] [21,22] (A0 G hx4),.z (.nat 23)] [6,25,26] [(6,V.ref 23 0)] [(21,some (ar 90 1 2 aI x4.arrays)),(22,some (ar 46 1 2 aC x4.parts)),(23,sc [ms 21 1 2 aI x4.arrays,ms 22 1 2 aC x4.parts])] [(21,true),(22,true),(23,true)] (qs ?_)
   obtain⟨x5,hx5,x6,hx6,x7,hx7,h⟩:=kT h
   obtain⟨x8,hx8,x9,hx9,h⟩:=dI h
   obtain rfl:=so h
   exact dk hC bP [oQ (iJ aC hx5),oX aC hx5,oQ (iJ aC hx6),oX aC hx6,oQ (iJ aC hx6),oX aC hx6,.z (.rows (List.map aC x7)),oQ (str aC hx7),oQ (aKg aC hx8 (nR aC hx7)),oX aC hx8,.z (.rows (List.map aC x9)),oQ (str aC hx9)] (fr 27 20) [(31,ms 22 1 2 aC x4.parts)] [(22,some (ar 46 1 2 aC x9))] [] (qw (lpP hC [.len 31 (List.map aC x7).length,.lenc 23 1 (List.map aC x7).length,.lenc 23 1 (List.map aC x9).length] [31] [] [(23,sc [ms 21 1 2 aI x4.arrays,ms 22 1 2 aC x9])] [] (a3 (nR aC hx7) (nR aC hx7) (nR aC hx9)) (by kernel_rfl)) (rq hC [.z (.at 3),.z (.fz 21 [] [23]),.z (.at 3),.z (.fz 22 [] [23])] [5,47] [(5,vB true)] [(23,sc [vM aI x4.arrays,vM aC x9]),(21,none),(22,none),(20,sc [vM aI x4.arrays,vM aC x9])] [] (qr eR)))
theorem aEw{list}{n_a1}{r}(h:wH n list n_a1=some r):PQ G 262 [vM rI list,vI n_a1] (vB r):=by
 unfold wH at h
 refine pq aN Tryz.func262 rfl fun w X hC=> ?_
 refine rq hC [] [4] [] [] [] (qs (rq hC [] [5] [(5,vI 0)] [] [] (qb (jT h (fun x_=>aX [(0,vM rI list),(1,vI n_a1),(5,vI x_)] [] []) lS ?_))))
 rintro again2 x1 h
 refine qs (rq hC [oN rI list] (fr 6 4) [(9,vB (decide (x1<(list.length:Int))))] [] [] (aS h (fun c1 h=> ?_) (fun c1 h=> ?_)))
 ·refine qk (qs (qb ?_))
  obtain⟨x3,hx3,h⟩:=bd h
  refine rq hC [oR rI hx3] (fr 12 6) [(17,vB (decide (x3=n_a1)))] [] [] (aS h (fun c2 h=> ?_) (fun c2 h=> ?_))
  ·obtain rfl:=so h
   exact rq hC [] [4] [(4,vB true)] [] [] (qr eR)
  ·exact qk (rk hC [] [5,10,11] [(5,vI (wr (x1+1)))] [] [] (lE h))
 ·obtain rfl:=so h
  exact cR (rq hC [] [4] [(4,vB false)] [] [] (qr eR))
theorem jR{a}{b}{r}(h:kZ n a b=some r):PQ G 184 [vM rI a,vM rI b] (vB r):=by
 unfold kZ at h
 refine pq aN Tryz.func184 rfl fun w X hC=> ?_
 refine rq hC [] [4] [] [] [] (qs (rq hC [] [5] [(5,vI 0)] [] [] (qb (jT h (fun x_=>aX [(0,vM rI a),(1,vM rI b),(5,vI x_)] [] []) lS ?_))))
 rintro again2 x1 h
 refine qs (rq hC [oN rI a] (fr 6 4) [(9,vB (decide (x1<(a.length:Int))))] [] [] (aS h (fun c1 h=> ?_) (fun c1 h=> ?_)))
 ·refine qk (qs (qb ?_))
  obtain⟨x3,hx3,x4,hx4,h⟩:=dI h
  refine rq hC [oR rI hx3,oV (aEw G hx4)] (fr 12 6) [(17,vB x4)] [] [] (aS h (fun c2 h=> ?_) (fun c2 h=> ?_))
  ·obtain rfl:=so h
   exact rq hC [] [4] [(4,vB true)] [] [] (qr eR)
  ·exact qk (rk hC [] [5,10,11] [(5,vI (wr (x1+1)))] [] [] (lE h))
 ·obtain rfl:=so h
  exact cR (rq hC [] [4] [(4,vB false)] [] [] (qr eR))
theorem rP{p}{r}(h:gE n p=some r):VQ G 91 [] [V.agg (bD p)] (ms 0 1 3 aQ r) [ar 112 1 3 aQ r]:=by
 unfold gE at h
 refine vq aN Tryz.func91 rfl fun w X β0 hC hg=> ?_
 refine rq hC [.z (.b (true))] [1,2] [(1,V.tp (bO p))] [] [] (rq hC [.z (.nat 20)] [3,8] [(3,ms 20 1 3 aQ [])] [(20,some (ar 112 1 3 aQ []))] [(20,true)] (qs (rq hC [] [4] [(4,vI 0)] [] [] (qb (bA (γ:=Nat) h (fun x_ g_=>aX [(1,V.tp (bO p)),(3,ms 20 g_ 3 aQ x_.1),(4,vI x_.2)] [(20,ar 112 g_ 3 aQ x_.1)] [20]) 1 (lS) ?_)))))
 rintro again4 ⟨x1,x2⟩ g3 h
 refine qs (rq hC [oN aC p.parts] (fr 9 5) [(13,vB (decide (x2<(p.parts.length:Int))))] [] [] (aS h (fun c1 h=> ?_) (fun c1 h=> ?_)))
 ·refine qk (qs (qb ?_))
  obtain⟨x5,hx5,x6,hx6,h⟩:=dI h
  refine rq hC [.z (.nat 21),oR aC hx5,oC [21] [] (xF G n [] 1 x5.nest [] hx6)] [5,16,17,18,19,20,21,22,23] [(5,ms 21 2 1 (rL rI) x6)] [(21,some (ar 48 2 1 (rL rI) x6))] [(21,true),(21,true)] (rq hC [] [6] [(6,vI 0)] [] [] (qb (bA (γ:=Nat) h (fun x_ g_=>aX [(1,V.tp (bO p)),(3,ms 20 g_ 3 aQ x_.1),(4,vI x2),(5,ms 21 2 1 (rL rI) x6),(6,vI x_.2)] [(20,ar 112 g_ 3 aQ x_.1),(21,ar 48 2 1 (rL rI) x6)] [20,21]) g3 (lS) ?_)))
  rintro again10 ⟨x7,x8⟩ g9 h
  refine qs (rq hC [oN (rL rI) x6] (fr 24 4) [(27,vB (decide (x8<(x6.length:Int))))] [] [] (aS h (fun c2 h=> ?_) (fun c2 h=> ?_)))
  ·refine qk (qs (qb (rq hC [] [7] [(7,vI 0)] [] [] (qb (bA (γ:=Nat) h (fun x_ g_=>aX [(1,V.tp (bO p)),(3,ms 20 g_ 3 aQ x_.1),(4,vI x2),(5,ms 21 2 1 (rL rI) x6),(6,vI x8),(7,vI x_.2)] [(20,ar 112 g_ 3 aQ x_.1),(21,ar 48 2 1 (rL rI) x6)] [20,21]) g9 (lS) ?_)))))
   rintro again14 ⟨x11,x12⟩ g13 h
   refine qs (rq hC [oR aC hx5,oN aK x5.body] (fr 30 9) [(38,vB (decide (x12<(x5.body.length:Int))))] [] [] (aS h (fun c3 h=> ?_) (fun c3 h=> ?_)))
   ·refine qk (qs (qb ?_))
    obtain⟨x15,hx15,x16,hx16,x17,hx17,h⟩:=kT h
    exact rk hC [.z (.nat 22),oQ (iJ (rL rI) hx15),oX (rL rI) hx15,oA (aP rI hx16),.z (.at 4),.z (.fz 22 [49] []),.z (.int 0),oQ (b6 (r:=rI) 1 (fun _=>rfl) []),oQ (b6 (r:=rI) 1 (fun _=>rfl) x15),oA (aP aQ hx17),oQ (b6 (r:=aQ) 3 t0 x11),oQ (b6 (r:=aQ) 3 t0 [(⟨x2,x12,x16⟩:Inst)])] [3,41,42,43,44,45,46,47,48,49,50,51,52] [(3,ms 20 (g13+1) 3 aQ x17)] [(22,none),(20,some (ar 112 (g13+1) 3 aQ x17))] [(22,true)] (rk hC [] [7,39,40] [(7,vI (wr (x12+1)))] [] [] ⟨(x17,wr (x12+1)),(g13+1),h,lS⟩)
   ·exact cR (rk hC [] [6,28,29] [(6,vI (wr (x8+1)))] [] [] ⟨(x11,wr (x8+1)),g13,h,lS⟩)
  ·exact cR (rk hC [] [4,14,15] [(4,vI (wr (x2+1)))] [] [] ⟨(x7,wr (x2+1)),g9,h,lS⟩)
 ·obtain rfl:=so h
  exact cR (rq hC [] [2,53] [(2,ms 20 g3 3 aQ x1)] [] [] (qw (lk hC [.ren 2 20 0] [2] [(2,ms 0 1 3 aQ x1)] [(0,some (ar 112 1 3 aQ x1)),(20,none)] [(0,true)]) (qr eW)))
theorem aCW{p}{r}(h:sJ n p=some r):VQ G 188 [] [V.agg (bD p)] (ms 0 1 2 cS r) [ar 204 1 2 cS r]:=by
 unfold sJ at h
 refine vq aN Tryz.func188 rfl fun w X β0 hC hg=> ?_
 refine rq hC [.z (.b (true))] [1,2] [(1,V.tp (bO p))] [] [] (rq hC [.z (.nat 20)] [3,9] [(3,ms 20 1 2 cS [])] [(20,some (ar 204 1 2 cS []))] [(20,true)] ?_)
 obtain⟨x1,hx1,h⟩:=bd h
 refine rq hC [oC [] [21] (rP G hx1)] [4,10,11] [(4,ms 21 1 3 aQ x1)] [(21,some (ar 112 1 3 aQ x1))] [(21,true)] (qs (rq hC [] [5] [(5,vI 0)] [] [] (qb (bA (γ:=Nat) h (fun x_ g_=>aX [(1,V.tp (bO p)),(3,ms 20 g_ 2 cS x_.1),(4,ms 21 1 3 aQ x1),(5,vI x_.2)] [(20,ar 204 g_ 2 cS x_.1),(21,ar 112 1 3 aQ x1)] [20,21]) 1 (lS) ?_))))
 rintro again5 ⟨x2,x3⟩ g4 h
 refine qs (rq hC [oN aQ x1] (fr 12 4) [(15,vB (decide (x3<(x1.length:Int))))] [] [] (aS h (fun c1 h=> ?_) (fun c1 h=> ?_)))
 ·refine qk (qs (qb (qs ?_)))
  obtain⟨x6,hx6,x7,hx7,x8,hx8,h⟩:=kT h
  obtain⟨x9,hx9,h⟩:=bd h
  refine dk hC bP [oQ (iJ aQ hx6),oX aQ hx6,oR aC hx7,oQ (iJ aQ hx6),oX aQ hx6,oR aK hx8,oQ (iJ aQ hx6),oX aQ hx6,oC [] [22] (zN G hx9)] [6,7,8,18,19,20,21,22,23,24,25,26,27,28,29,30,31,32,33,34,35,36,37,38,39,40,41,42,43,44,45,46] [(6,ms 22 1 1 rI x9.1),(7,vI x9.2.1)] [(22,some (ar 3 1 1 rI x9.1))] [(22,true)] ?_
  obtain⟨x10,hx10,h⟩:=bd h
  exact rk hC [.z (.at 4),.z (.fz 22 [6,48] []),.z (.int 0),oA (aP cS hx10),oQ (b6 (r:=cS) 2 F5 x2),oQ (b6 (r:=cS) 2 F5 [(⟨x9.1,x9.2.1⟩:L6Use)])] [3,6,47,48,49,50,51,52] [(3,ms 20 (g4+1) 2 cS x10)] [(22,none),(20,some (ar 204 (g4+1) 2 cS x10))] [] (rk hC [] [5,16,17] [(5,vI (wr (x3+1)))] [] [] ⟨(x10,wr (x3+1)),(g4+1),h,lS⟩)
 ·obtain rfl:=so h
  exact cR (rq hC [] [2,53] [(2,ms 20 g4 2 cS x2)] [] [] (qw (lk hC [.ren 2 20 0] [2] [(2,ms 0 1 2 cS x2)] [(0,some (ar 204 1 2 cS x2)),(20,none)] [(0,true)]) (qr eW)))
theorem O8{list}{r}(h:jI n list=some r):VQ G 190 [] [vM rB list] (ms 0 1 1 rI r) [ar 3 1 1 rI r]:=by
 unfold jI at h
 refine vq aN Tryz.func190 rfl fun w X β0 hC hg=> ?_
 refine rq hC [] [2] [] [] [] (rq hC [.z (.nat 20)] [3,5] [(3,ms 20 1 1 rI [])] [(20,some (ar 3 1 1 rI []))] [(20,true)] (qs (rq hC [] [4] [(4,vI 0)] [] [] (qb (bA (γ:=Nat) h (fun x_ g_=>aX [(0,vM rB list),(3,ms 20 g_ 1 rI x_.1),(4,vI x_.2)] [(20,ar 3 g_ 1 rI x_.1)] [20]) 1 (lS) ?_)))))
 rintro again4 ⟨x1,x2⟩ g3 h
 refine qs (rq hC [oN rB list] (fr 6 4) [(9,vB (decide (x2<(list.length:Int))))] [] [] (aS h (fun c1 h=> ?_) (fun c1 h=> ?_)))
 ·refine qk ?_
  obtain⟨j5,hj5,h⟩:=yQ h
  refine jU (γ:=Nat) (j:=j5) (r:=r) (fun x_ g_=>aX [(0,vM rB list),(3,ms 20 g_ 1 rI x_),(4,vI x2)] [(20,ar 3 g_ 1 rI x_)] [20]) ?_ ?_
  ·
   refine qb ?_
   obtain⟨x6,hx6,h⟩:=bd h
   refine rq hC [oR rB hx6] (fr 12 4) [(15,vB x6)] [] [] (aS h (fun c2 h=> ?_) (fun c2 h=> ?_))
   ·obtain⟨x7,hx7,h⟩:=bd h
    exact rk hC [.z (.int 0),oA (aP rI hx7),oQ (b6 (r:=rI) 1 (fun _=>rfl) x1),oQ (b6 (r:=rI) 1 (fun _=>rfl) [x2])] [3,16,17,18,19] [(3,ms 20 (g3+1) 1 rI x7)] [(20,some (ar 3 (g3+1) 1 rI x7))] [] ⟨x7,(g3+1),h,lS⟩
   ·exact qk ⟨x1,g3,h,lS⟩
  ·rintro x8 g9 h
   subst hj5
   exact rk hC [] [4,10,11] [(4,vI (wr (x2+1)))] [] [] ⟨(x8,wr (x2+1)),g9,h,lS⟩
 ·obtain rfl:=so h
  exact cR (rq hC [] [2,20] [(2,ms 20 g3 1 rI x1)] [] [] (qw (lk hC [.ren 2 20 0] [2] [(2,ms 0 1 1 rI x1)] [(0,some (ar 3 1 1 rI x1)),(20,none)] [(0,true)]) (qr eW)))
theorem aBn{p}{r}(h:pE n p=some r):PQ G 223 [V.agg (bD p)] (vI r):=by
 unfold pE at h
 refine pq aN Tryz.func223 rfl fun w X hC=> ?_
 refine rq hC [.z (.b (true))] [1,2] [(1,V.tp (bO p))] [] [] (rq hC [] [3] [(3,vI 0)] [] [] (qs (rq hC [] [4] [(4,vI 0)] [] [] (qb (jT h (fun x_=>aX [(1,V.tp (bO p)),(3,vI x_.1),(4,vI x_.2)] [] []) lS ?_)))))
 rintro again3 ⟨x1,x2⟩ h
 refine qs (rq hC [oN aI p.arrays] (fr 5 5) [(9,vB (decide (x2<(p.arrays.length:Int))))] [] [] (aS h (fun c1 h=> ?_) (fun c1 h=> ?_)))
 ·refine qk (qs (qb ?_))
  obtain⟨x4,hx4,x5,hx5,h⟩:=dI h
  exact rk hC [oR aI hx4,oV (L0 G hx5)] [3,12,13,14,15,16,17,18,19] [(3,vI (wr (x1+x5)))] [] [] (rk hC [] [4,10,11] [(4,vI (wr (x2+1)))] [] [] (lE h))
 ·obtain rfl:=so h
  exact cR (rq hC [] [2,20] [(2,vI x1)] [] [] (qr eR))
theorem kN{p}{part}{writes}{r}(h:gQ n p part writes=some r):VQ G 183 [] [V.agg (bD p),vI part,vB writes] (ms 0 1 1 rI r) [ar 3 1 1 rI r]:=by
 unfold gQ at h
 refine vq aN Tryz.func183 rfl fun w X β0 hC hg=> ?_
 refine rq hC [.z (.b (true))] [3,6] [(3,V.tp (bO p))] [] [] ?_
 obtain⟨x1,hx1,x2,hx2,h⟩:=dI h
 refine rq hC [oV (aBn G hx1),.z (.nat 20),oA (X4 rB hx2),oQ (t6 hx2).1] [7,12,13,14] [(7,ms 20 1 1 rB x2)] [(20,some (ar 4 1 1 rB x2))] [(20,true)] ?_
 obtain⟨x3,hx3,h⟩:=bd h
 refine rq hC [oC [] [21] (rP G hx3)] [8,15,16] [(8,ms 21 1 3 aQ x3)] [(21,some (ar 112 1 3 aQ x3))] [(21,true)] ?_
 obtain⟨x4,hx4,h⟩:=bd h
 refine rq hC [oC [] [22] (aCW G hx4)] [9,17,18] [(9,ms 22 1 2 cS x4)] [(22,some (ar 204 1 2 cS x4))] [(22,true)] (qs (rq hC [] [10] [(10,vI 0)] [] [] (qb (bA (γ:=Nat) h (fun x_ g_=>aX [(1,vI part),(2,vB writes),(7,ms 20 g_ 1 rB x_.1),(8,ms 21 1 3 aQ x3),(9,ms 22 1 2 cS x4),(10,vI x_.2)] [(20,ar 4 g_ 1 rB x_.1),(21,ar 112 1 3 aQ x3),(22,ar 204 1 2 cS x4)] [20,21,22]) 1 (lS) ?_))))
 rintro again8 ⟨x5,x6⟩ g7 h
 refine qs (rq hC [oN aQ x3] (fr 19 4) [(22,vB (decide (x6<(x3.length:Int))))] [] [] (aS h (fun c1 h=> ?_) (fun c1 h=> ?_)))
 ·refine qk ?_
  obtain⟨j9,hj9,h⟩:=yQ h
  refine jU (γ:=Nat) (j:=j9) (r:=r) (fun x_ g_=>aX [(1,vI part),(2,vB writes),(7,ms 20 g_ 1 rB x_),(8,ms 21 1 3 aQ x3),(9,ms 22 1 2 cS x4),(10,vI x6)] [(20,ar 4 g_ 1 rB x_),(21,ar 112 1 3 aQ x3),(22,ar 204 1 2 cS x4)] [20,21,22]) ?_ ?_
  ·
   refine qb (qs ?_)
   obtain⟨x10,hx10,h⟩:=bd h
   refine rq hC [oQ (iJ aQ hx10),oX aQ hx10] (fr 25 7) [(31,vB (!decide (x10.part=part)))] [] [] (aS h (fun c2 h=> ?_) (fun c2 h=> ?_))
   ·exact cR ⟨x5,g7,h,lS⟩
   ·refine qk (qs (rq hC [] [32] [(32,vB writes)] [] [] (aS h (fun c3 h=> ?_) (fun c3 h=> ?_))))
    ·obtain⟨x11,hx11,x12,hx12,x13,hx13,h⟩:=kT h
     exact rq hC [oQ (iJ cS hx11),oX cS hx11,oQ (iJ rB hx12),oX rB hx12,.z (.rows (List.map rB x13)),.z (.len 7 (List.map rB x13).length),oQ (str rB hx13),oQ (nR rB hx13)] [7,33,34,35,36,37,38,39] [(7,ms 20 g7 1 rB x13)] [(20,some (ar 4 g7 1 rB x13))] [] (cR ⟨x13,g7,h,lS⟩)
    ·refine qk (rq hC [] [11] [(11,vI 0)] [] [] (qb (bA (γ:=Nat) h (fun x_ g_=>aX [(1,vI part),(2,vB writes),(7,ms 20 g_ 1 rB x_.1),(8,ms 21 1 3 aQ x3),(9,ms 22 1 2 cS x4),(10,vI x6),(11,vI x_.2)] [(20,ar 4 g_ 1 rB x_.1),(21,ar 112 1 3 aQ x3),(22,ar 204 1 2 cS x4)] [20,21,22]) g7 (lS) ?_)))
     rintro again17 ⟨x14,x15⟩ g16 h
     refine qs ?_
     obtain⟨x18,hx18,h⟩:=bd h
     refine rq hC [oQ (iJ cS hx18),oX cS hx18,oN rI x18.reads] (fr 40 8) [(47,vB (decide (x15<(x18.reads.length:Int))))] [] [] (aS h (fun c4 h=> ?_) (fun c4 h=> ?_))
     ·refine qk (qs (qb ?_))
      obtain⟨x19,hx19,x20,hx20,x21,hx21,h⟩:=kT h
      exact rk hC [oQ (iJ cS hx18),oX cS hx18,oR rI hx19,oQ (iJ rB hx20),oX rB hx20,.z (.rows (List.map rB x21)),.z (.len 7 (List.map rB x21).length),oQ (str rB hx21),oQ (nR rB hx21)] [7,50,51,52,53,54,55,56,57,58,59] [(7,ms 20 g16 1 rB x21)] [(20,some (ar 4 g16 1 rB x21))] [] (rk hC [] [11,48,49] [(11,vI (wr (x15+1)))] [] [] ⟨(x21,wr (x15+1)),g16,h,lS⟩)
     ·exact cR ⟨x14,g16,h,lS⟩
  ·rintro x22 g23 h
   subst hj9
   exact rk hC [] [10,23,24] [(10,vI (wr (x6+1)))] [] [] ⟨(x22,wr (x6+1)),g23,h,lS⟩
 ·refine cR ?_
  obtain⟨x24,hx24,h⟩:=bd h
  obtain rfl:=so h
  exact rq hC [.z (.at 2),.z (.fz 20 [7,60] []),oC [] [23] (O8 G hx24)] [6,7,60,61] [(6,ms 23 1 1 rI x24)] [(20,none),(23,some (ar 3 1 1 rI x24))] [(23,true)] (qw (lk hC [.ren 6 23 0] [6] [(6,ms 0 1 1 rI x24)] [(0,some (ar 3 1 1 rI x24)),(23,none)] [(0,true)]) (qr eW))
theorem tF{p}{a}{b}{r}(h:eA n p a b=some r):PQ G 84 [V.agg (bD p),vI a,vI b] (vB r):=by
 unfold eA at h
 refine pq aN Tryz.func84 rfl fun w X hC=> ?_
 refine rq hC [.z (.b (true))] [3,6] [(3,V.tp (bO p))] [] [] (qs (vj h (fun x_=>aX [(1,vI a),(2,vI b),(3,V.tp (bO p)),(38,vB x_)] [] []) (fun j1 h=> ?_) (fun x3 h=> ?_)))
 ·
  obtain⟨x2,hx2,h⟩:=bd h
  refine aR h (fun c1 h=> ?_) (fun c1 h=> ?_)
  ·refine aR h (fun c2 h=> ?_) (fun c2 h=> ?_)
   ·refine aR h (fun c3 h=> ?_) (fun c3 h=> ?_)
    ·refine aR h (fun c4 h=> ?_) (fun c4 h=> ?_)
     ·refine aR h (fun c5 h=> ?_) (fun c5 h=> ?_)
      ·exact rk hC ([oV (cB G hx2)]++rF 3 c1++rF 3 c2++rF 4 c3++[oN aC p.parts,oF c3,oF c3]++rF 4 c4++[oN aC p.parts,oF c4,oF c4]++rF 4 c5) (fr 9 30) [(38,vB (decide (a=b)))] [] [] (lE h)
      ·exact rk hC ([oV (cB G hx2)]++rF 3 c1++rF 3 c2++rF 4 c3++[oN aC p.parts,oF c3,oF c3]++rF 4 c4++[oN aC p.parts,oF c4,oF c4]++rT 4 c5) (fr 9 30) [(38,vB true)] [] [] (lE h)
     ·exact rk hC ([oV (cB G hx2)]++rF 3 c1++rF 3 c2++rF 4 c3++[oN aC p.parts,oF c3,oF c3]++rT 6 c4++sT 4) (fr 9 30) [(38,vB true)] [] [] (lE h)
    ·exact rk hC ([oV (cB G hx2)]++rF 3 c1++rF 3 c2++rT 6 c3++sT 10) (fr 9 30) [(38,vB true)] [] [] (lE h)
   ·exact rk hC ([oV (cB G hx2)]++rF 3 c1++rT 3 c2++sT 16) (fr 9 30) [(38,vB true)] [] [] (lE h)
  ·exact rk hC ([oV (cB G hx2)]++rT 3 c1++sT 19) (fr 9 30) [(38,vB true)] [] [] (lE h)
 ·refine aS h (fun c6 h=> ?_) (fun c6 h=> ?_)
  ·obtain rfl:=so h
   exact rq hC [] [6] [(6,vB false)] [] [] (qr eR)
  ·refine qk ?_
   obtain⟨x4,hx4,h⟩:=bd h
   refine rq hC [oC [] [20] (kN G hx4)] [7,39,40,41] [(7,ms 20 1 1 rI x4)] [(20,some (ar 3 1 1 rI x4))] [(20,true)] ?_
   obtain⟨x5,hx5,h⟩:=bd h
   refine rq hC [oC [] [21] (kN G hx5)] [8,42,43,44] [(8,ms 21 1 1 rI x5)] [(21,some (ar 3 1 1 rI x5))] [(21,true)] (vj h (fun x_=>aX [(6,vB x_)] [(20,ar 3 1 1 rI x4),(21,ar 3 1 1 rI x5)] [20,21]) (fun j6 h=> ?_) (fun x12 h=> ?_))
   ·
    obtain⟨x7,hx7,h⟩:=bd h
    refine aR h (fun c7 h=> ?_) (fun c7 h=> ?_)
    ·exact rk hC ([.z (.b (true)),oV (jR G hx7)]++rF 7 c7++sF 7) [6,45,46,47,48,49,50,51,52,53,54,55,56,57,58,59,60,61,62,63,64] [(6,vB false)] [] [] (lE h)
    ·obtain⟨x8,hx8,x9,hx9,h⟩:=dI h
     refine aR h (fun c8 h=> ?_) (fun c8 h=> ?_)
     ·exact rk hC ([.z (.b (true)),oV (jR G hx7)]++rT 4 c7++[oC [] [22] (kN G hx8),oT c7,.z (.b (true)),oV (jR G hx9),oT c7,oT c7]++rF 7 c8) [6,45,46,47,48,49,50,51,52,53,54,55,56,57,58,59,60,61,62,63,64] [(6,vB false)] [(22,some (ar 3 1 1 rI x8))] [(22,true)] (lE h)
     ·obtain⟨x10,hx10,x11,hx11,h⟩:=dI h
      exact rk hC ([.z (.b (true)),oV (jR G hx7)]++rT 4 c7++[oC [] [22] (kN G hx8),oT c7,.z (.b (true)),oV (jR G hx9),oT c7,oT c7]++rT 4 c8++[oC [] [23] (kN G hx10),oT c8,.z (.b (true)),oV (jR G hx11),oT c8,oT c8]) [6,45,46,47,48,49,50,51,52,53,54,55,56,57,58,59,60,61,62,63,64] [(6,vB (!x11))] [(22,some (ar 3 1 1 rI x8)),(23,some (ar 3 1 1 rI x10))] [(22,true),(23,true)] (lE h)
   ·obtain rfl:=so h
    exact qr eR
theorem aCU{p}{part}{many}{parts}{r}(h:wG n p part many parts=some r):PQ G 85 [V.agg (bD p),vI part,vI many,vM aC parts] (V.tup [V.agg (bD r.1),vB r.2]):=by
 unfold wG at h
 refine pq aN Tryz.func85 rfl fun w X hC=> ?_
 refine rq hC [.z (.b (true)),.z (.nat 20)] [4,8,9] [(4,V.tp (bO p)),(8,V.ref 20 0)] [(20,sc [V.t T.nilS,V.t T.nilS])] [(20,true)] ?_
 obtain⟨x1,hx1,h⟩:=bd h
 refine rq hC [oC [] [21,22] (vH G hx1),.z (.nat 23)] [10,12,13] [(10,V.ref 23 0)] [(21,some (ar 90 1 2 aI x1.arrays)),(22,some (E.tree mE 2 1 (List.map aC x1.parts) [])),(23,sc [ms 21 1 2 aI x1.arrays,ms 22 1 2 aC x1.parts])] [(21,true),(22,true),(23,true)] (rq hC [.z (.nat 24)] [11,14,15,16] [(11,V.ref 24 0)] [(24,sc [ms 21 1 2 aI x1.arrays,V.t T.nilS])] [(24,true)] (qs (qw (lk hC [.shd 22,.fz 22 [] [23]] [] [] [(22,none),(23,sc [ms 21 1 2 aI x1.arrays,vM aC x1.parts])] []) ?_)))
 obtain⟨x2,hx2,x3,hx3,x4,hx4,h⟩:=kT h
 obtain⟨x5,hx5,x6,hx6,h⟩:=dI h
 refine dk hC bP [.z (.nat 25),oA (A5 aC hx2),oQ (b6 (r:=aC) 2 b8 x1.parts),oA (aP aC hx3),oQ (b6 (r:=aC) 2 b8 []),oQ (b6 (r:=aC) 2 b8 x2),oA (aP aC hx4),oQ (b6 (r:=aC) 2 b8 x3),oQ (b6 (r:=aC) 2 b8 parts),oA (aFf aC hx5),oQ (b6 (r:=aC) 2 b8 x1.parts),oA (aP aC hx6),oQ (b6 (r:=aC) 2 b8 x4),oQ (b6 (r:=aC) 2 b8 x5)] (fr 17 16) [] [(25,some (ar 46 4 2 aC x6)),(24,sc [ms 21 1 2 aI x1.arrays,ms 25 4 2 aC x6])] [(25,true)] (qs ?_)
 obtain⟨x7,hx7,h⟩:=bd h
 refine rq hC [.z (.at 3),.z (.fz 21 [] [23,24]),.z (.at 3),.z (.fz 25 [] [24]),oV (cB G hx7)] [33,34,35] [(35,vB (!x7))] [(23,some (E.cells (bD x1))),(24,sc [vM aI x1.arrays,vM aC x6]),(21,none),(25,none)] [] (aS h (fun c1 h=> ?_) (fun c1 h=> ?_))
 ·obtain rfl:=so h
  exact rq hC [] [9,36] [(9,vB false)] [(20,sc [V.t T.nilS,V.t T.nilS])] [] (qr eR)
 ·refine qk ?_
  obtain⟨x8,hx8,h⟩:=bd h
  obtain rfl:=so h
  exact rq hC [oC [] [26,27] (vH G hx8)] [9,37,38] [(9,vB true)] [(26,some (ar 90 1 2 aI x8.arrays)),(27,some (E.tree mE 2 1 (List.map aC x8.parts) [])),(20,sc [ms 26 1 2 aI x8.arrays,ms 27 1 2 aC x8.parts])] [(26,true),(27,true)] (qw (lk hC [.fz 26 [] [20]] [] [] [(20,sc [vM aI x8.arrays,ms 27 1 2 aC x8.parts]),(26,none)] []) (qw (lk hC [.shd 27,.fz 27 [] [20]] [] [] [(27,none),(20,some (E.cells (bD x8)))] []) (qr eR)))
theorem O9{p}{part}{r}(h:lX n p part=some r):PQ G 23 [V.agg (bD p),vI part] (V.tup [V.agg (bD r.1),vB r.2]):=by
 unfold lX at h
 refine pq aN Tryz.func23 rfl fun w X hC=> ?_
 refine rq hC [.z (.nat 20),.z (.nat 21)] [2,4,5] [(2,V.ref 20 0),(4,V.ref 21 0)] [(20,some (E.cells (bD p))),(21,sc [V.t T.nilS,V.t T.nilS])] [(20,true),(21,true)] ?_
 obtain⟨x1,hx1,h⟩:=bd h
 refine rq hC [oV (xI G hx1)] [6,7] [] [(20,some (E.cells (bD x1)))] [] (qs ?_)
 obtain⟨x2,hx2,h⟩:=bd h
 refine rq hC [oV (tF G hx2)] (fr 8 6) [(13,vB (!x2))] [] [] (aS h (fun c1 h=> ?_) (fun c1 h=> ?_))
 ·obtain rfl:=so h
  exact rq hC [] [5,14] [(5,vB false)] [(21,sc [V.t T.nilS,V.t T.nilS])] [] (qr eR)
 ·refine qk (qs ?_)
  obtain⟨x3,hx3,x4,hx4,x5,hx5,h⟩:=kT h
  obtain rfl:=so h
  exact dk hC bP [oR aC hx3,oR aC hx4,.z (.int 0),oV (aCU G hx5)] [5,15,16,17,18,19,20,21,22,23,24,25,26,27,28,29,30,31] [(5,vB x5.2)] [(21,some (E.cells (bD x5.1)))] [] (qr eR)
theorem z7(G:GS)(n:Nat)(code:List UInt8)(more:List UInt8){r:Bool}(h:lO n code more=some r):PQ G 4 [vM rY code,vM rY more] (vB r):=by
 unfold lO at h
 refine pq aN Tryz.func4 rfl fun w X hC=> ?_
 refine rq hC [] [4] [] [] [] (qs (vj h (fun x_=>aX [(0,vM rY code),(1,vM rY more),(20,vB x_)] [] []) (fun j1 h=> ?_) (fun x2 h=> ?_)))
 ·
  refine aR h (fun c1 h=> ?_) (fun c1 h=> ?_)
  ·exact rk hC [oN rY code,oF c1,oF c1,oN rY more,oF c1,oF c1] (fr 13 8) [(20,vB (decide ((1048576:Int)<(more.length:Int))))] [] [] (lE h)
  ·exact rk hC ([oN rY code]++rT 4 c1) (fr 13 8) [(20,vB true)] [] [] (lE h)
 ·refine aS h (fun c2 h=> ?_) (fun c2 h=> ?_)
  ·obtain rfl:=so h
   exact rq hC [] [4] [(4,vB true)] [] [] (qr eR)
  ·refine qk ?_
   obtain⟨x3,hx3,h⟩:=bd h
   refine rq hC [oV (xK G hx3),.z (.nat 20)] [5,6,21,22,23,24,25] [(5,V.ref 20 0),(6,vI x3.2)] [(20,some (E.cells (bD x3.1)))] [(20,true)] ?_
   obtain⟨x4,hx4,h⟩:=bd h
   refine rq hC [oV (uR G hx4),.z (.nat 21)] [7,8,26,27,28,29,30,31] [(7,V.ref 21 0),(8,vB x4.2)] [(21,some (E.cells (bD x4.1)))] [(21,true)] ?_
   obtain⟨x5,hx5,h⟩:=bd h
   refine rq hC [oV (O9 G hx5),.z (.nat 22)] [9,10,32,33,34,35,36,37] [(9,V.ref 22 0),(10,vB x5.2)] [(22,some (E.cells (bD x5.1)))] [(22,true)] (qs (vj h (fun x_=>aX [(1,vM rY more),(5,V.ref 20 0),(6,vI x3.2),(7,V.ref 21 0),(8,vB x4.2),(9,V.ref 22 0),(10,vB x5.2),(50,vB x_)] [(20,E.cells (bD x3.1)),(21,E.cells (bD x4.1)),(22,E.cells (bD x5.1))] [20,21,22]) (fun j6 h=> ?_) (fun x8 h=> ?_)))
   ·
    refine aR h (fun c3 h=> ?_) (fun c3 h=> ?_)
    ·obtain⟨x7,hx7,h⟩:=bd h
     refine aR h (fun c4 h=> ?_) (fun c4 h=> ?_)
     ·exact rk hC (rF 3 c3++[oV (jB G hx7),oF c3,oF c3]++rF 3 c4) (fr 38 13) [(50,vB (!x4.2))] [] [] (lE h)
     ·exact rk hC (rF 3 c3++[oV (jB G hx7),oF c3,oF c3]++rT 3 c4) (fr 38 13) [(50,vB true)] [] [] (lE h)
    ·exact rk hC (rT 5 c3++[eT,eT,eT]) (fr 38 13) [(50,vB true)] [] [] (lE h)
   ·refine aS h (fun c5 h=> ?_) (fun c5 h=> ?_)
    ·refine vj h (fun x_=>aX [(4,vB x_)] [(20,E.cells (bD x3.1)),(21,E.cells (bD x4.1)),(22,E.cells (bD x5.1))] [20,21,22]) (fun j9 h=> ?_) (fun x11 h=> ?_)
     ·
      refine aR h (fun c6 h=> ?_) (fun c6 h=> ?_)
      ·exact rk hC (rF 4 c6) [4,51,52,53,54,55,56,57,58] [(4,vB false)] [] [] (lE h)
      ·obtain⟨x10,hx10,h⟩:=bd h
       exact rk hC (rT 3 c6++[oV (jB G hx10),oT c6]) [4,51,52,53,54,55,56,57,58] [(4,vB x10)] [] [] (lE h)
     ·obtain rfl:=so h
      exact qr eR
    ·refine qk ?_
     obtain⟨x12,hx12,h⟩:=bd h
     refine rq hC [oV (uR G hx12),.z (.nat 23)] [11,12,59,60,61,62,63,64] [(11,V.ref 23 0),(12,vB x12.2)] [(23,some (E.cells (bD x12.1)))] [(23,true)] (vj h (fun x_=>aX [(4,vB x_)] [(20,E.cells (bD x3.1)),(21,E.cells (bD x4.1)),(22,E.cells (bD x5.1)),(23,E.cells (bD x12.1))] [20,21,22,23]) (fun j13 h=> ?_) (fun x16 h=> ?_))
     ·
      obtain⟨x14,hx14,h⟩:=bd h
      refine aR h (fun c7 h=> ?_) (fun c7 h=> ?_)
      ·exact rk hC ([oN rY more,oV (tD G hx14),oF c7,oF c7]++sF 4) [4,65,66,67,68,69,70,71,72,73,74,75,76,77] [(4,vB false)] [] [] (lE h)
      ·refine aR h (fun c8 h=> ?_) (fun c8 h=> ?_)
       ·exact rk hC ([oN rY more,oV (tD G hx14),oT c7,oT c7]++rF 4 c8) [4,65,66,67,68,69,70,71,72,73,74,75,76,77] [(4,vB false)] [] [] (lE h)
       ·obtain⟨x15,hx15,h⟩:=bd h
        exact rk hC ([oN rY more,oV (tD G hx14),oT c7,oT c7]++rT 3 c8++[oV (jB G hx15),oT c8]) [4,65,66,67,68,69,70,71,72,73,74,75,76,77] [(4,vB x15)] [] [] (lE h)
     ·obtain rfl:=so h
      exact qr eR
end Go.Lift
