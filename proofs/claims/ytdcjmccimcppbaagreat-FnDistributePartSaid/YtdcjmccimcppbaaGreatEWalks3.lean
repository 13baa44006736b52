/- The walks: the code computes what the plain functions say. -/
import Derived.Test.YtdcjmccimcppbaaGreatEModels
import Derived.Test.YtdcjmccimcppbaaGreatEWalks2
set_option maxRecDepth 10000
set_option linter.unusedVariables false
namespace Go.Lift
open Go Go.Proofs
variable (G:GS) {n:Nat}
theorem pD{s1}{s2}{r}(h:jS n s1 s2=some r):PQ G 72 [vM rI s1,vM rI s2] (vB r):=by
 unfold jS at h
 refine pq aN Tryz.func72 rfl fun w X hC=> ?_
 refine rq hC [] [4] [] [] [] (qs (rq hC [oN rI s1,oN rI s2] (fr 6 5) [(10,vB (!decide ((s1.length:Int)=(s2.length:Int))))] [] [] (aS h (fun c1 h=> ?_) (fun c1 h=> ?_))))
 ·obtain rfl:=so h
  exact rq hC [] [4] [(4,vB false)] [] [] (qr eR)
 ·refine qk (qs (rq hC [oN rI s1] [11,12,13] [(12,vI (s1.length:Int)),(13,vI 0)] [] [] (qb (jZ h (fun x_=>aX [(0,vM rI s1),(1,vM rI s2),(12,vI (s1.length:Int)),(13,vI x_)] [] []) lS ?_))))
  rintro again2 x1 h
  refine rq hC [] [14] [(14,vB (decide (x1<(s1.length:Int))))] [] [] (qs (aS h (fun c2 h=> ?_) (fun c2 h=> ?_)))
  ·refine qk (qs (qb (rq hC [] [5,15] [(5,vI x1)] [] [] (qs ?_))))
   obtain⟨x3,hx3,x4,hx4,h⟩:=dG h
   refine dk hC bL [oR rI hx3,oR rI hx4] (fr 16 9) [(24,vB (!decide (x3=x4)))] [] [] (aS h (fun c3 h=> ?_) (fun c3 h=> ?_))
   ·obtain rfl:=so h
    exact rq hC [] [4] [(4,vB false)] [] [] (qr eR)
   ·exact qk (rk hC [] [13,25] [(13,vI (wr (x1+1)))] [] [] (lE h))
  ·obtain rfl:=so h
   exact cU (rq hC [] [4] [(4,vB true)] [] [] (qr eR))
theorem eO(G:GS)(n:Nat)(a:Affine)(b:Affine){r:Bool}(h:cE n a b=some r):PQ G 171 [V.agg (aT a),V.agg (aT b)] (vB r):=by
 unfold cE at h
 refine pq aN Tryz.func171 rfl fun w X hC=> ?_
 refine rq hC [.z (.b (true)),.z (.b (true))] [2,3,4] [(2,V.tp (bQ a)),(3,V.tp (bQ b))] [] [] (vj h (fun x_=>aX [(4,vB x_)] [] []) (fun j1 h=> ?_) (fun x3 h=> ?_))
 ·
  obtain⟨x2,hx2,h⟩:=bd h
  refine aR h (fun c1 h=> ?_) (fun c1 h=> ?_)
  ·exact rk hC ([oV (pD G hx2)]++rF 6 c1) (fr 4 13) [(4,vB false)] [] [] (lE h)
  ·exact rk hC ([oV (pD G hx2)]++rT 6 c1) (fr 4 13) [(4,vB (decide (a.const=b.const)))] [] [] (lE h)
 ·obtain rfl:=so h
  exact qr eR
theorem P7(G:GS)(n:Nat)(x:Loop)(y:Loop){r:Bool}(h:kP n x y=some r):PQ G 169 [V.agg (lB x),V.agg (lB y)] (vB r):=by
 unfold kP at h
 refine pq aN Tryz.func169 rfl fun w X hC=> ?_
 refine rq hC [.z (.b (true)),.z (.b (true))] [2,3,4] [(2,V.tp (wV x)),(3,V.tp (wV y))] [] [] (vj h (fun x_=>aX [(4,vB x_)] [] []) (fun j1 h=> ?_) (fun x4 h=> ?_))
 ·
  obtain⟨x2,hx2,h⟩:=bd h
  refine aR h (fun c1 h=> ?_) (fun c1 h=> ?_)
  ·exact rk hC ([oV (fH G n x.lo y.lo 171 (fun q0 q1=>cE n q0 q1) (fun q0 q1 r h=>eO G n q0 q1 h) hx2)]++rF 6 c1) (fr 4 13) [(4,vB false)] [] [] (lE h)
  ·obtain⟨x3,hx3,h⟩:=bd h
   exact rk hC ([oV (fH G n x.lo y.lo 171 (fun q0 q1=>cE n q0 q1) (fun q0 q1 r h=>eO G n q0 q1 h) hx2)]++rT 5 c1++[oV (fH G n x.hi y.hi 171 (fun q0 q1=>cE n q0 q1) (fun q0 q1 r h=>eO G n q0 q1 h) hx3),oT c1]) (fr 4 13) [(4,vB x3)] [] [] (lE h)
 ·obtain rfl:=so h
  exact qr eR
theorem yH{a}{b}{r}(h:n8 n a b=some r):PQ G 74 [vM aD a,vM aD b] (vB r):=by
 unfold n8 at h
 refine pq aN Tryz.func74 rfl fun w X hC=> ?_
 refine rq hC [] [4] [] [] [] ?_
 obtain⟨x1,hx1,h⟩:=bd h
 obtain rfl:=so h
 exact rq hC [oV (wI G n a b 169 (fun q0 q1=>kP n q0 q1) (fun q0 q1 r h=>P7 G n q0 q1 h) hx1)] (fr 4 4) [(4,vB x1)] [] [] (qr eR)
theorem wG(G:GS)(n:Nat)(s1:List Stmt)(s2:List Stmt)(eqF:FuncId)(eq:Stmt→Stmt→Option Bool)(heq: ∀(q0:Stmt) (q1:Stmt) r,eq q0 q1=some r→PQ G eqF [V.agg (cV q0),V.agg (cV q1)] (vB r)){r:Bool}(h:iN n s1 s2 eq=some r):PQ G 75 [vM aI s1,vM aI s2,V.fn eqF []] (vB r):=by
 unfold iN at h
 refine pq aN Tryz.func75 rfl fun w X hC=> ?_
 refine rq hC [] [6] [] [] [] (qs (rq hC [oN aI s1,oN aI s2] (fr 10 5) [(14,vB (!decide ((s1.length:Int)=(s2.length:Int))))] [] [] (aS h (fun c1 h=> ?_) (fun c1 h=> ?_))))
 ·obtain rfl:=so h
  exact rq hC [] [6] [(6,vB false)] [] [] (qr eR)
 ·refine qk (qs (rq hC [oN aI s1] [15,16,17] [(15,vM aI s1),(16,vI (s1.length:Int)),(17,vI 0)] [] [] (qb (jZ h (fun x_=>aX [(1,vM aI s2),(2,V.fn eqF []),(15,vM aI s1),(16,vI (s1.length:Int)),(17,vI x_)] [] []) lS ?_))))
  rintro again2 x1 h
  refine rq hC [] [18] [(18,vB (decide (x1<(s1.length:Int))))] [] [] (qs (aS h (fun c2 h=> ?_) (fun c2 h=> ?_)))
  ·refine qk (qs (qb ?_))
   obtain⟨x3,hx3,h⟩:=bd h
   refine rq hC [oR aI hx3,.z (.nat 20)] [7,8,19,20,21] [(7,vI x1),(8,V.ref 20 0)] [(20,some (E.cells (cV x3)))] [(20,true)] ?_
   obtain⟨x4,hx4,h⟩:=bd h
   refine rq hC [oR aI hx4,.z (.nat 21)] [9,22,23,24,25] [(9,V.ref 21 0)] [(21,some (E.cells (cV x4)))] [(21,true)] ?_
   obtain⟨x5,hx5,h⟩:=bd h
   refine rq hC [oV (heq x3 x4 _ hx5)] (fr 26 5) [(30,vB (!x5))] [] [] (aS h (fun c3 h=> ?_) (fun c3 h=> ?_))
   ·obtain rfl:=so h
    exact rq hC [] [6] [(6,vB false)] [] [] (qr eR)
   ·exact qk (rk hC [] [17,31] [(17,vI (wr (x1+1)))] [] [] (lE h))
  ·obtain rfl:=so h
   exact cU (rq hC [] [6] [(6,vB true)] [] [] (qr eR))
theorem kW{a}{b}{r}(h:iR n a b=some r):PQ G 172 [V.agg (cT a),V.agg (cT b)] (vB r):=by
 unfold iR at h
 refine pq aN Tryz.func172 rfl fun w X hC=> ?_
 refine rq hC [.z (.b (true)),.z (.b (true))] [2,3,4] [(2,V.tp (d6 a)),(3,V.tp (d6 b))] [] [] (vj h (fun x_=>aX [(4,vB x_)] [] []) (fun j1 h=> ?_) (fun x3 h=> ?_))
 ·
  refine aR h (fun c1 h=> ?_) (fun c1 h=> ?_)
  ·exact rk hC (rF 6 c1) (fr 4 13) [(4,vB false)] [] [] (lE h)
  ·obtain⟨x2,hx2,h⟩:=bd h
   exact rk hC (rT 5 c1++[oV (fH G n a.subs b.subs 171 (fun q0 q1=>cE n q0 q1) (fun q0 q1 r h=>eO G n q0 q1 h) hx2),oT c1]) (fr 4 13) [(4,vB x2)] [] [] (lE h)
 ·obtain rfl:=so h
  exact qr eR
theorem wJ(G:GS)(n:Nat)(s1:List Expr)(s2:List Expr)(eqF:FuncId)(eq:Expr→Expr→Option Bool)(heq: ∀(q0:Expr) (q1:Expr) r,eq q0 q1=some r→PQ G eqF [V.agg (dJ q0),V.agg (dJ q1)] (vB r)){r:Bool}(h:iQ n s1 s2 eq=some r):PQ G 249 [vM aK s1,vM aK s2,V.fn eqF []] (vB r):=by
 unfold iQ at h
 refine pq aN Tryz.func249 rfl fun w X hC=> ?_
 refine rq hC [] [6] [] [] [] (qs (rq hC [oN aK s1,oN aK s2] (fr 10 5) [(14,vB (!decide ((s1.length:Int)=(s2.length:Int))))] [] [] (aS h (fun c1 h=> ?_) (fun c1 h=> ?_))))
 ·obtain rfl:=so h
  exact rq hC [] [6] [(6,vB false)] [] [] (qr eR)
 ·refine qk (qs (rq hC [oN aK s1] [15,16,17] [(15,vM aK s1),(16,vI (s1.length:Int)),(17,vI 0)] [] [] (qb (jZ h (fun x_=>aX [(1,vM aK s2),(2,V.fn eqF []),(15,vM aK s1),(16,vI (s1.length:Int)),(17,vI x_)] [] []) lS ?_))))
  rintro again2 x1 h
  refine rq hC [] [18] [(18,vB (decide (x1<(s1.length:Int))))] [] [] (qs (aS h (fun c2 h=> ?_) (fun c2 h=> ?_)))
  ·refine qk (qs (qb ?_))
   obtain⟨x3,hx3,h⟩:=bd h
   refine rq hC [.z (.row (eJ x3)),.z (.nat 20),oQ (fL aK hx3 (cY x3))] [7,8,19,20,21] [(7,vI x1),(8,V.ref 20 0)] [(20,some (E.cells (dJ x3)))] [(20,true)] ?_
   obtain⟨x4,hx4,h⟩:=bd h
   refine rq hC [.z (.row (eJ x4)),.z (.nat 21),oQ (fL aK hx4 (cY x4))] [9,22,23,24,25] [(9,V.ref 21 0)] [(21,some (E.cells (dJ x4)))] [(21,true)] ?_
   obtain⟨x5,hx5,h⟩:=bd h
   refine rq hC [oV (heq x3 x4 _ hx5)] (fr 26 5) [(30,vB (!x5))] [] [] (aS h (fun c3 h=> ?_) (fun c3 h=> ?_))
   ·obtain rfl:=so h
    exact rq hC [] [6] [(6,vB false)] [] [] (qr eR)
   ·exact qk (rk hC [] [17,31] [(17,vI (wr (x1+1)))] [] [] (lE h))
  ·obtain rfl:=so h
   exact cU (rq hC [] [6] [(6,vB true)] [] [] (qr eR))
theorem aAF(G:GS): ∀(n:Nat) (a:Expr) (b:Expr) {r:Bool} (h:i_exprSame n a b=some r),PQ G 173 [V.agg (dJ a),V.agg (dJ b)] (vB r):=by
 intro n
 induction n with
 |zero=>intro a b r h;rw [i_exprSame.eq_def] at h;cases h
 |succ n ih=>
  intro a b r h
  rw [i_exprSame.eq_def] at h;dsimp only at h
  refine pq aN Tryz.func173 rfl fun w X hC=> ?_
  refine rq hC [.z (.b (true)),.z (.b (true))] [2,3,4] [(2,V.tp (gW a)),(3,V.tp (gW b))] [] [] (vj h (fun x_=>aX [(4,vB x_)] [] []) (fun j1 h=> ?_) (fun x5 h=> ?_))
  ·
   refine aR h (fun c1 h=> ?_) (fun c1 h=> ?_)
   ·exact rk hC (rF 6 c1++sF 18) (fr 4 34) [(4,vB false)] [] [] (lE h)
   ·refine aR h (fun c2 h=> ?_) (fun c2 h=> ?_)
    ·exact rk hC (rT 6 c1++rF 6 c2++sF 12) (fr 4 34) [(4,vB false)] [] [] (lE h)
    ·obtain⟨x2,hx2,h⟩:=bd h
     refine aR h (fun c3 h=> ?_) (fun c3 h=> ?_)
     ·exact rk hC (rT 6 c1++rT 5 c2++[oV (eO G n a.index b.index hx2),oT c2]++rF 6 c3++sF 6) (fr 4 34) [(4,vB false)] [] [] (lE h)
     ·obtain⟨x3,hx3,h⟩:=bd h
      refine aR h (fun c4 h=> ?_) (fun c4 h=> ?_)
      ·exact rk hC (rT 6 c1++rT 5 c2++[oV (eO G n a.index b.index hx2),oT c2]++rT 5 c3++[oV (kW G hx3),oT c3]++rF 6 c4) (fr 4 34) [(4,vB false)] [] [] (lE h)
      ·obtain⟨x4,hx4,h⟩:=bd h
       exact rk hC (rT 6 c1++rT 5 c2++[oV (eO G n a.index b.index hx2),oT c2]++rT 5 c3++[oV (kW G hx3),oT c3]++rT 5 c4++[oV (wJ G n a.kids b.kids 173 (fun q0 q1=>i_exprSame n q0 q1) (fun q0 q1 r h=>ih q0 q1 h) hx4),oT c4]) (fr 4 34) [(4,vB x4)] [] [] (lE h)
  ·obtain rfl:=so h
   exact qr eR
theorem aAG(G:GS)(n:Nat)(a:Stmt)(b:Stmt){r:Bool}(h:lU n a b=some r):PQ G 76 [V.agg (cV a),V.agg (cV b)] (vB r):=by
 unfold lU at h
 refine pq aN Tryz.func76 rfl fun w X hC=> ?_
 refine rq hC [.z (.b (true)),.z (.b (true))] [2,3,4] [(2,V.tp (oP a)),(3,V.tp (oP b))] [] [] (vj h (fun x_=>aX [(4,vB x_)] [] []) (fun j1 h=> ?_) (fun x4 h=> ?_))
 ·
  obtain⟨x2,hx2,h⟩:=bd h
  refine aR h (fun c1 h=> ?_) (fun c1 h=> ?_)
  ·exact rk hC ([oV (kW G hx2)]++rF 6 c1) (fr 4 13) [(4,vB false)] [] [] (lE h)
  ·obtain⟨x3,hx3,h⟩:=bd h
   exact rk hC ([oV (kW G hx2)]++rT 5 c1++[oV (aAF G n a.value b.value hx3),oT c1]) (fr 4 13) [(4,vB x3)] [] [] (lE h)
 ·obtain rfl:=so h
  exact qr eR
theorem yG(G:GS)(n:Nat)(x:Part)(y:Part){r:Bool}(h:eS n x y=some r):PQ G 73 [V.agg (mL x),V.agg (mL y)] (vB r):=by
 unfold eS at h
 refine pq aN Tryz.func73 rfl fun w X hC=> ?_
 refine rq hC [.z (.b (true)),.z (.b (true))] [2,3,4] [(2,V.tp (nN x)),(3,V.tp (nN y))] [] [] (vj h (fun x_=>aX [(4,vB x_)] [] []) (fun j1 h=> ?_) (fun x4 h=> ?_))
 ·
  obtain⟨x2,hx2,h⟩:=bd h
  refine aR h (fun c1 h=> ?_) (fun c1 h=> ?_)
  ·exact rk hC ([oV (yH G hx2)]++rF 6 c1) (fr 4 13) [(4,vB false)] [] [] (lE h)
  ·obtain⟨x3,hx3,h⟩:=bd h
   exact rk hC ([oV (yH G hx2)]++rT 5 c1++[oV (wG G n x.body y.body 76 (fun q0 q1=>lU n q0 q1) (fun q0 q1 r h=>aAG G n q0 q1 h) hx3),oT c1]) (fr 4 13) [(4,vB x3)] [] [] (lE h)
 ·obtain rfl:=so h
  exact qr eR
theorem mT(G:GS)(n:Nat)(s1:List Arr)(s2:List Arr)(eqF:FuncId)(eq:Arr→Arr→Option Bool)(heq: ∀(q0:Arr) (q1:Arr) r,eq q0 q1=some r→PQ G eqF [V.agg [vS q0.name,vM rI q0.dims],V.agg [vS q1.name,vM rI q1.dims]] (vB r)){r:Bool}(h:gR n s1 s2 eq=some r):PQ G 77 [vM aH s1,vM aH s2,V.fn eqF []] (vB r):=by
 unfold gR at h
 refine pq aN Tryz.func77 rfl fun w X hC=> ?_
 refine rq hC [] [6] [] [] [] (qs (rq hC [oN aH s1,oN aH s2] (fr 10 5) [(14,vB (!decide ((s1.length:Int)=(s2.length:Int))))] [] [] (aS h (fun c1 h=> ?_) (fun c1 h=> ?_))))
 ·obtain rfl:=so h
  exact rq hC [] [6] [(6,vB false)] [] [] (qr eR)
 ·refine qk (qs (rq hC [oN aH s1] [15,16,17] [(15,vM aH s1),(16,vI (s1.length:Int)),(17,vI 0)] [] [] (qb (jZ h (fun x_=>aX [(1,vM aH s2),(2,V.fn eqF []),(15,vM aH s1),(16,vI (s1.length:Int)),(17,vI x_)] [] []) lS ?_))))
  rintro again2 x1 h
  refine rq hC [] [18] [(18,vB (decide (x1<(s1.length:Int))))] [] [] (qs (aS h (fun c2 h=> ?_) (fun c2 h=> ?_)))
  ·refine qk (qs (qb ?_))
   obtain⟨x3,hx3,h⟩:=bd h
   refine rq hC [oR aH hx3,.z (.nat 20)] [7,8,19,20,21] [(7,vI x1),(8,V.ref 20 0)] [(20,sc [vS x3.name,vM rI x3.dims])] [(20,true)] ?_
   obtain⟨x4,hx4,h⟩:=bd h
   refine rq hC [oR aH hx4,.z (.nat 21)] [9,22,23,24,25] [(9,V.ref 21 0)] [(21,sc [vS x4.name,vM rI x4.dims])] [(21,true)] ?_
   obtain⟨x5,hx5,h⟩:=bd h
   refine rq hC [oV (heq x3 x4 _ hx5)] (fr 26 5) [(30,vB (!x5))] [] [] (aS h (fun c3 h=> ?_) (fun c3 h=> ?_))
   ·obtain rfl:=so h
    exact rq hC [] [6] [(6,vB false)] [] [] (qr eR)
   ·exact qk (rk hC [] [17,31] [(17,vI (wr (x1+1)))] [] [] (lE h))
  ·obtain rfl:=so h
   exact cU (rq hC [] [6] [(6,vB true)] [] [] (qr eR))
theorem wH(G:GS)(n:Nat)(s1:List Part)(s2:List Part)(eqF:FuncId)(eq:Part→Part→Option Bool)(heq: ∀(q0:Part) (q1:Part) r,eq q0 q1=some r→PQ G eqF [V.agg (mL q0),V.agg (mL q1)] (vB r)){r:Bool}(h:iO n s1 s2 eq=some r):PQ G 78 [vM aC s1,vM aC s2,V.fn eqF []] (vB r):=by
 unfold iO at h
 refine pq aN Tryz.func78 rfl fun w X hC=> ?_
 refine rq hC [] [6] [] [] [] (qs (rq hC [oN aC s1,oN aC s2] (fr 10 5) [(14,vB (!decide ((s1.length:Int)=(s2.length:Int))))] [] [] (aS h (fun c1 h=> ?_) (fun c1 h=> ?_))))
 ·obtain rfl:=so h
  exact rq hC [] [6] [(6,vB false)] [] [] (qr eR)
 ·refine qk (qs (rq hC [oN aC s1] [15,16,17] [(15,vM aC s1),(16,vI (s1.length:Int)),(17,vI 0)] [] [] (qb (jZ h (fun x_=>aX [(1,vM aC s2),(2,V.fn eqF []),(15,vM aC s1),(16,vI (s1.length:Int)),(17,vI x_)] [] []) lS ?_))))
  rintro again2 x1 h
  refine rq hC [] [18] [(18,vB (decide (x1<(s1.length:Int))))] [] [] (qs (aS h (fun c2 h=> ?_) (fun c2 h=> ?_)))
  ·refine qk (qs (qb ?_))
   obtain⟨x3,hx3,h⟩:=bd h
   refine rq hC [oR aC hx3,.z (.nat 20)] [7,8,19,20,21] [(7,vI x1),(8,V.ref 20 0)] [(20,some (E.cells (mL x3)))] [(20,true)] ?_
   obtain⟨x4,hx4,h⟩:=bd h
   refine rq hC [oR aC hx4,.z (.nat 21)] [9,22,23,24,25] [(9,V.ref 21 0)] [(21,some (E.cells (mL x4)))] [(21,true)] ?_
   obtain⟨x5,hx5,h⟩:=bd h
   refine rq hC [oV (heq x3 x4 _ hx5)] (fr 26 5) [(30,vB (!x5))] [] [] (aS h (fun c3 h=> ?_) (fun c3 h=> ?_))
   ·obtain rfl:=so h
    exact rq hC [] [6] [(6,vB false)] [] [] (qr eR)
   ·exact qk (rk hC [] [17,31] [(17,vI (wr (x1+1)))] [] [] (lE h))
  ·obtain rfl:=so h
   exact cU (rq hC [] [6] [(6,vB true)] [] [] (qr eR))
theorem o7(G:GS)(n:Nat)(x:Arr)(y:Arr){r:Bool}(h:eU n x y=some r):PQ G 71 [V.agg [vS x.name,vM rI x.dims],V.agg [vS y.name,vM rI y.dims]] (vB r):=by
 unfold eU at h
 refine pq aN Tryz.func71 rfl fun w X hC=> ?_
 refine rq hC [.z (.b (true)),.z (.b (true))] [2,3,4] [(2,V.tp [T.str x.name,T.sl (List.map rI x.dims)]),(3,V.tp [T.str y.name,T.sl (List.map rI y.dims)])] [] [] (vj h (fun x_=>aX [(4,vB x_)] [] []) (fun j1 h=> ?_) (fun x3 h=> ?_))
 ·
  refine aR h (fun c1 h=> ?_) (fun c1 h=> ?_)
  ·exact rk hC (rF 6 c1) (fr 4 13) [(4,vB false)] [] [] (lE h)
  ·obtain⟨x2,hx2,h⟩:=bd h
   exact rk hC (rT 5 c1++[oV (pD G hx2),oT c1]) (fr 4 13) [(4,vB x2)] [] [] (lE h)
 ·obtain rfl:=so h
  exact qr eR
theorem mR{a}{b}{r}(h:eA n a b=some r):PQ G 18 [V.agg (bD a),V.agg (bD b)] (vB r):=by
 unfold eA at h
 refine pq aN Tryz.func18 rfl fun w X hC=> ?_
 refine rq hC [.z (.b (true)),.z (.b (true))] [2,3,4] [(2,V.tp (bM a)),(3,V.tp (bM b))] [] [] (rq hC [] [5] [(5,V.fn 71 [])] [] [] (rq hC [] [6] [(6,V.fn 73 [])] [] [] (vj h (fun x_=>aX [(4,vB x_)] [] []) (fun j1 h=> ?_) (fun x4 h=> ?_))))
 ·
  obtain⟨x2,hx2,h⟩:=bd h
  refine aR h (fun c1 h=> ?_) (fun c1 h=> ?_)
  ·exact rk hC ([oV (mT G n a.arrays b.arrays 71 (fun q0 q1=>eU n q0 q1) (fun q0 q1 r h=>o7 G n q0 q1 h) hx2)]++rF 7 c1) [4,7,8,9,10,11,12,13,14,15,16,17,18,19,20] [(4,vB false)] [] [] (lE h)
  ·obtain⟨x3,hx3,h⟩:=bd h
   exact rk hC ([oV (mT G n a.arrays b.arrays 71 (fun q0 q1=>eU n q0 q1) (fun q0 q1 r h=>o7 G n q0 q1 h) hx2)]++rT 6 c1++[oV (wH G n a.parts b.parts 73 (fun q0 q1=>eS n q0 q1) (fun q0 q1 r h=>yG G n q0 q1 h) hx3),oT c1]) [4,7,8,9,10,11,12,13,14,15,16,17,18,19,20] [(4,vB x3)] [] [] (lE h)
 ·obtain rfl:=so h
  exact qr eR
theorem kX{p}{r}(h:dY n p=some r):PQ G 181 [V.agg (bD p)] (vI r):=by
 unfold dY at h
 refine pq aN Tryz.func181 rfl fun w X hC=> ?_
 refine rq hC [.z (.b (true))] [1,2] [(1,V.tp (bM p))] [] [] (rq hC [] [3] [(3,vI 0)] [] [] (qs (rq hC [oN aH p.arrays] (fr 6 4) [(7,vM aH p.arrays),(8,vI (p.arrays.length:Int)),(9,vI 0)] [] [] (qb (jZ h (fun x_=>aX [(3,vI x_.1),(7,vM aH p.arrays),(8,vI (p.arrays.length:Int)),(9,vI x_.2)] [] []) lS ?_)))))
 rintro again3 ⟨x1,x2⟩ h
 refine rq hC [] [10] [(10,vB (decide (x2<(p.arrays.length:Int))))] [] [] (qs (aS h (fun c1 h=> ?_) (fun c1 h=> ?_)))
 ·refine qk (qs (qb ?_))
  obtain⟨x4,hx4,h⟩:=bd h
  refine rq hC [oR aH hx4,.z (.nat 20)] [5,11,12] [(5,V.ref 20 0)] [(20,sc [vS x4.name,vM rI x4.dims])] [(20,true)] ?_
  obtain⟨x5,hx5,h⟩:=bd h
  exact rk hC [oV (tU G hx5)] [3,13,14,15,16] [(3,vI (wr (x1+x5)))] [] [] (rk hC [] [9,17] [(9,vI (wr (x2+1)))] [] [] (lE h))
 ·obtain rfl:=so h
  exact cU (rq hC [] [2,18] [(2,vI x1)] [] [] (qr eR))
theorem P9{p}{r}(h:kR n p=some r):PQ G 80 [V.agg (bD p)] (vI r):=by
 unfold kR at h
 refine pq aN Tryz.func80 rfl fun w X hC=> ?_
 refine rq hC [.z (.b (true))] [1,2] [(1,V.tp (bM p))] [] [] (qs ?_)
 obtain⟨x1,hx1,h⟩:=bd h
 refine rq hC [oV (bF G hx1)] [3,4,5] [(5,vB (!x1))] [] [] (aS h (fun c1 h=> ?_) (fun c1 h=> ?_))
 ·obtain rfl:=so h
  exact rq hC [] [2] [(2,vI 0)] [] [] (qr eR)
 ·refine qk ?_
  obtain⟨x2,hx2,h⟩:=bd h
  obtain rfl:=so h
  exact rq hC [oV (kX G hx2)] [2,6,7] [(2,vI x2)] [] [] (qr eR)
theorem aDk{a}{b}{r}(h:pH n a b=some r):PQ G 81 [vM rI a,vM rI b] (vB r):=by
 unfold pH at h
 refine pq aN Tryz.func81 rfl fun w X hC=> ?_
 refine rq hC [] [4] [] [] [] (qs (rq hC [oN rI a,oN rI b] (fr 6 5) [(10,vB (!decide ((a.length:Int)=(b.length:Int))))] [] [] (aS h (fun c1 h=> ?_) (fun c1 h=> ?_))))
 ·obtain rfl:=so h
  exact rq hC [] [4] [(4,vB false)] [] [] (qr eR)
 ·refine qk (qs (rq hC [] [5] [(5,vI 0)] [] [] (qb (jZ h (fun x_=>aX [(0,vM rI a),(1,vM rI b),(5,vI x_)] [] []) lS ?_))))
  rintro again2 x1 h
  refine qs (rq hC [oN rI a] (fr 11 4) [(14,vB (decide (x1<(a.length:Int))))] [] [] (aS h (fun c2 h=> ?_) (fun c2 h=> ?_)))
  ·refine qk (qs (qb (qs ?_)))
   obtain⟨x3,hx3,x4,hx4,h⟩:=dG h
   refine dk hC bL [oR rI hx3,oR rI hx4] (fr 17 9) [(25,vB (!decide (x3=x4)))] [] [] (aS h (fun c3 h=> ?_) (fun c3 h=> ?_))
   ·obtain rfl:=so h
    exact rq hC [] [4] [(4,vB false)] [] [] (qr eR)
   ·exact qk (rk hC [] [5,15,16] [(5,vI (wr (x1+1)))] [] [] (lE h))
  ·obtain rfl:=so h
   exact cU (rq hC [] [4] [(4,vB true)] [] [] (qr eR))
theorem yI(G:GS)(n:Nat)(n_a0:Int){r:Bool}(h:eV n n_a0=some r):PQ G 227 [vI n_a0] (vB r):=by
 unfold eV at h
 refine pq aN Tryz.func227 rfl fun w X hC=> ?_
 refine rq hC [] [2] [] [] [] ?_
 obtain⟨x1,hx1,h⟩:=bd h
 obtain rfl:=so h
 exact rq hC [oV (bJ G hx1)] (fr 2 4) [(2,vB (!x1))] [] [] (qr eR)
theorem C7{p}{m}{r}(h:jD n p m=some r):PQ G 147 [V.agg (bD p),vM rI m] (vB r):=by
 unfold jD at h
 refine pq aN Tryz.func147 rfl fun w X hC=> ?_
 refine rq hC [.z (.b (true))] [2,4] [(2,V.tp (bM p))] [] [] (vj h (fun x_=>aX [(4,vB x_)] [] []) (fun j1 h=> ?_) (fun x5 h=> ?_))
 ·
  obtain⟨x2,hx2,h⟩:=bd h
  refine aR h (fun c1 h=> ?_) (fun c1 h=> ?_)
  ·exact rk hC ([oV (bF G hx2)]++rF 6 c1++sF 4) (fr 4 15) [(4,vB false)] [] [] (lE h)
  ·obtain⟨x3,hx3,h⟩:=bd h
   refine aR h (fun c2 h=> ?_) (fun c2 h=> ?_)
   ·exact rk hC ([oV (bF G hx2),oT c1,oT c1,oN rI m,oT c1,oT c1,oV (kX G hx3),oT c1,oT c1]++rF 4 c2) (fr 4 15) [(4,vB false)] [] [] (lE h)
   ·obtain⟨x4,hx4,h⟩:=bd h
    exact rk hC [oV (bF G hx2),oT c1,oT c1,oN rI m,oT c1,oT c1,oV (kX G hx3),oT c1,oT c1,oT c2,oT c2,oV (dV G n m 227 (fun q0=>eV n q0) (fun q0 r h=>yI G n q0 h) hx4),oT c2,oT c2] (fr 4 15) [(4,vB (!x4))] [] [] (lE h)
 ·obtain rfl:=so h
  exact qr eR
theorem tT{p}{r}(h:eM n p=some r):VQ G 101 [] [V.agg (bD p)] (ms 0 1 3 aP r) [ar 112 1 3 aP r]:=by
 unfold eM at h
 refine vq aN Tryz.func101 rfl fun w X β0 hC hg=> ?_
 refine rq hC [.z (.b (true))] [1,2] [(1,V.tp (bM p))] [] [] ?_
 obtain⟨x1,hx1,h⟩:=bd h
 refine rq hC [oC [] [20] (gO G hx1)] (fr 3 7) [(3,ms 20 1 3 aP x1.1),(4,vB x1.2)] [(20,some (ar 112 1 3 aP x1.1))] [(20,true)] (qs (rq hC [] [10,11] [(11,vB (!x1.2))] [] [] (aS h (fun c1 h=> ?_) (fun c1 h=> ?_))))
 ·obtain rfl:=so h
  exact rq hC [] [2] [(2,V.t T.nilS)] [] [] (qw (lk hC [.grow 2 0 112] [2] [(2,ms 0 1 3 aP [])] [(0,some (ar 112 1 3 aP []))] [(0,true)]) (qr eW))
 ·obtain rfl:=so h
  exact qk (rq hC [] [2,12] [(2,ms 20 1 3 aP x1.1)] [] [] (qw (lk hC [.ren 2 20 0] [2] [(2,ms 0 1 3 aP x1.1)] [(0,some (ar 112 1 3 aP x1.1)),(20,none)] [(0,true)]) (qr eW)))
theorem qM{p}{x}{r}(h:dU n p x=some r):PQ G 228 [V.agg (bD p),V.agg (qO x)] (V.agg (cV r)):=by
 unfold dU at h
 refine pq aN Tryz.func228 rfl fun w X hC=> ?_
 refine rq hC [.z (.b (true)),.z (.b (true)),.z (.nat 20)] [2,3,4] [(2,V.tp (bM p)),(3,V.tp (aDT x)),(4,V.ref 20 0)] [(20,sc [vS [],V.t T.nilS,vI 0,vI 0,V.t T.nilS,vI 0,vS [],V.t T.nilS,V.t T.nilS])] [(20,true)] (qs ?_)
 obtain⟨x1,hx1,x2,hx2,h⟩:=dG h
 obtain rfl:=so h
 exact dk hC bL [oR aC hx1,oR aI hx2] (fr 5 11) [] [(20,some (E.cells (cV x2)))] [] (qr eR)
theorem rM{n_a0}{r}(h:mE n n_a0=some r):PQ G 293 [vI n_a0] (vI r):=by
 unfold mE at h
 refine pq aN Tryz.func293 rfl fun w X hC=> ?_
 obtain rfl:=so h
 exact rq hC [] [2] [] [] [] (rq hC [oQ (show(1000:Int)≠0 by decide),oQ (show(1000:Int)≠0 by decide)] (fr 2 6) [(2,vI (Int.tmod (wr ((wr ((Int.tmod n_a0 1000)+999))+1)) 1000))] [] [] (qr eR))
theorem yE(G:GS): ∀(n:Nat) (p:Prog) (m:List Int) (e:Expr) (point:List Int) {r:Int} (h:i_Program_value n p m e point=some r),PQ G 229 [V.agg (bD p),vM rI m,V.agg (dJ e),vM rI point] (vI r):=by
 intro n
 induction n with
 |zero=>intro p m e point r h;rw [i_Program_value.eq_def] at h;cases h
 |succ n ih=>
  intro p m e point r h
  rw [i_Program_value.eq_def] at h;dsimp only at h
  refine pq aN Tryz.func229 rfl fun w X hC=> ?_
  refine rq hC [.z (.b (true)),.z (.b (true))] [4,6,8] [(4,V.tp (bM p)),(6,V.tp (gW e))] [] [] (qs (rq hC [] [11,12] [(12,vI e.kind)] [] [] (qb (rq hC [] [13,14] [(13,vB (decide (e.kind=1)))] [] [] (aS h (fun c1 h=> ?_) (fun c1 h=> ?_))))))
  ·obtain rfl:=so h
   exact rq hC [] [8,15,16] [(8,vI e.num)] [] [] (qr eR)
  ·refine rq hC [] [17,18] [(17,vB (decide (e.kind=2)))] [] [] (aS h (fun c2 h=> ?_) (fun c2 h=> ?_))
   ·obtain⟨x1,hx1,x2,hx2,h⟩:=dG h
    obtain rfl:=so h
    exact rq hC [oV (eY G hx1),oV (rM G hx2)] [8,19,20,21,22,23] [(8,vI x2)] [] [] (qr eR)
   ·refine rq hC [] [24,25] [(24,vB (decide (e.kind=3)))] [] [] (aS h (fun c3 h=> ?_) (fun c3 h=> ?_))
    ·obtain⟨x3,hx3,x4,hx4,h⟩:=dG h
     obtain rfl:=so h
     exact rq hC [oV (dP G hx3),oR rI hx4] [8,26,27,28,29,30,31,32,33] [(8,vI x4)] [] [] (qr eR)
    ·refine qk (qs ?_)
     obtain⟨x5,hx5,x6,hx6,x7,hx7,h⟩:=lC h
     obtain⟨x8,hx8,h⟩:=bd h
     refine dk hC bL [.z (.row (eJ x5)),oQ (fL aK hx5 (cY x5)),oV (ih p m x5 point hx6),.z (.row (eJ x7)),oQ (fL aK hx7 (cY x7)),oV (ih p m x7 point hx8)] [9,10,34,35,36,37,38,39,40,41,42,43,44,45,46,47,48,49] [(9,vI x6),(10,vI x8)] [] [] (qs (rq hC [] [50,51] [(51,vI e.kind)] [] [] (qb (rq hC [] [52,53] [(52,vB (decide (e.kind=4)))] [] [] (aS h (fun c4 h=> ?_) (fun c4 h=> ?_))))))
     ·obtain⟨x9,hx9,h⟩:=bd h
      obtain rfl:=so h
      exact rq hC [oV (rM G hx9)] [8,54,55,56,57] [(8,vI x9)] [] [] (qr eR)
     ·refine rq hC [] [58,59] [(58,vB (decide (e.kind=5)))] [] [] (aS h (fun c5 h=> ?_) (fun c5 h=> ?_))
      ·obtain⟨x10,hx10,h⟩:=bd h
       obtain rfl:=so h
       exact rq hC [oV (rM G hx10)] [8,60,61,62,63] [(8,vI x10)] [] [] (qr eR)
      ·refine qk ?_
       obtain⟨x11,hx11,h⟩:=bd h
       obtain rfl:=so h
       exact rq hC [oV (rM G hx11)] [8,64,65,66,67] [(8,vI x11)] [] [] (qr eR)
theorem P6{p}{m}(mG:Nat){x}{r}(h:kO n p m x=some r):VQ G 149 [ar 3 mG 1 rI m] [V.agg (bD p),ms 0 mG 1 rI m,V.agg (qO x)] (V.tup []) [ar 3 mG 1 rI r]:=by
 unfold kO at h
 refine vq aN Tryz.func149 rfl fun w X β0 hC hg=> ?_
 refine rq hC [.z (.b (true)),.z (.b (true))] [3,5] [(3,V.tp (bM p)),(5,V.tp (aDT x))] [] [] ?_
 obtain⟨x1,hx1,h⟩:=bd h
 refine rq hC [oV (qM G hx1),.z (.nat 20)] (fr 6 4) [(6,V.ref 20 0)] [(20,some (E.cells (cV x1)))] [(20,true)] ?_
 obtain⟨x2,hx2,x3,hx3,x4,hx4,h⟩:=lC h
 obtain⟨x5,hx5,h⟩:=bd h
 obtain rfl:=so h
 exact dk hC bL [oV (dP G hx2),.z (.b (true)),oV (yE G n p m x1.value x.point hx3),oQ (mP rI hx4),oX rI hx4,.z (.rows (List.map rI x5)),oQ (str rI hx5)] [1,10,11,12,13,14,15,16,17,18,19,20,21,22,23,24] [] [(0,some (ar 3 mG 1 rI x5))] [] eW
theorem tR{p}{m}{r}(h:fC n p m=some r):VQ G 58 [] [V.agg (bD p),vM rI m] (V.tup [ms 0 1 1 rI r.1,vB r.2]) [ar 3 1 1 rI r.1]:=by
 unfold fC at h
 refine vq aN Tryz.func58 rfl fun w X β0 hC hg=> ?_
 refine rq hC [.z (.b (true))] [2,4,5] [(2,V.tp (bM p))] [] [] (qs ?_)
 obtain⟨x1,hx1,h⟩:=bd h
 refine rq hC [oV (C7 G hx1)] (fr 9 4) [(12,vB (!x1))] [] [] (aS h (fun c1 h=> ?_) (fun c1 h=> ?_))
 ·obtain rfl:=so h
  exact rq hC [] [4,5] [(4,V.t T.nilS),(5,vB false)] [] [] (qw (lk hC [.grow 4 0 3] [4] [(4,ms 0 1 1 rI [])] [(0,some (ar 3 1 1 rI []))] [(0,true)]) (qr eW))
 ·refine qk ?_
  obtain⟨x2,hx2,h⟩:=bd h
  refine rq hC [oC [] [20] (G.clone m hx2)] [6,13,14] [(6,ms 20 1 1 rI x2)] [(20,some (ar 3 1 1 rI x2))] [(20,true)] (qs ?_)
  obtain⟨x3,hx3,h⟩:=bd h
  refine rq hC [oC [] [21] (tT G hx3),oN aP x3] (fr 15 4) [(16,ms 21 1 3 aP x3),(17,vI (x3.length:Int)),(18,vI 0)] [(21,some (ar 112 1 3 aP x3))] [(21,true)] (qb (bA (γ:=Nat) h (fun x_ g_=>aX [(2,V.tp (bM p)),(6,ms 20 g_ 1 rI x_.1),(16,ms 21 1 3 aP x3),(17,vI (x3.length:Int)),(18,vI x_.2)] [(20,ar 3 g_ 1 rI x_.1),(21,ar 112 1 3 aP x3)] [20,21]) 1 (lS) ?_))
  rintro again7 ⟨x4,x5⟩ g6 h
  refine rq hC [] [19] [(19,vB (decide (x5<(x3.length:Int))))] [] [] (qs (aS h (fun c2 h=> ?_) (fun c2 h=> ?_)))
  ·refine qk (qs (qb ?_))
   obtain⟨x8,hx8,h⟩:=bd h
   refine rq hC [oQ (mP aP hx8),oX aP hx8,.z (.nat 22)] [8,20,21] [(8,V.ref 22 0)] [(22,some (E.cells (qO x8)))] [(22,true)] ?_
   obtain⟨x9,hx9,x10,hx10,h⟩:=dG h
   exact rk hC [oC [20] [] (P6 G g6 hx9),.z (.len 6 (List.map rI x9).length),oQ (aJy rI hx10)] [6,22,23,24,25] [(6,ms 20 g6 1 rI x9)] [(20,some (ar 3 g6 1 rI x9))] [(20,true)] (rk hC [] [18,26] [(18,vI (wr (x5+1)))] [] [] ⟨(x9,wr (x5+1)),g6,h,lS⟩)
  ·obtain rfl:=so h
   exact cU (rq hC [] [4,5,27] [(4,ms 20 g6 1 rI x4),(5,vB true)] [] [] (qw (lk hC [.ren 4 20 0] [4] [(4,ms 0 1 1 rI x4)] [(0,some (ar 3 1 1 rI x4)),(20,none)] [(0,true)]) (qr eW)))
theorem aBO{p}{q}{seed}{r}(h:pI n p q seed=some r):PQ G 20 [V.agg (bD p),V.agg (bD q),vI seed] (vB r):=by
 unfold pI at h
 refine pq aN Tryz.func20 rfl fun w X hC=> ?_
 refine rq hC [.z (.b (true)),.z (.b (true))] [3,4,6] [(3,V.tp (bM p)),(4,V.tp (bM q))] [] [] ?_
 obtain⟨x1,hx1,x2,hx2,h⟩:=dG h
 refine rq hC [oV (P9 G hx1),.z (.nat 20),oA (aJB rI hx2),oQ (aAd hx2).1] [7,13,14,15] [(7,ms 20 1 1 rI x2)] [(20,some (ar 3 1 1 rI x2))] [(20,true)] (qs (rq hC [] [8] [(8,vI 0)] [] [] (qb (bA (γ:=Nat) h (fun x_ g_=>aX [(2,vI seed),(3,V.tp (bM p)),(4,V.tp (bM q)),(7,ms 20 g_ 1 rI x_.1),(8,vI x_.2)] [(20,ar 3 g_ 1 rI x_.1)] [20]) 1 (lS) ?_))))
 rintro again6 ⟨x3,x4⟩ g5 h
 refine qs (rq hC [oN rI x3] (fr 16 4) [(19,vB (decide (x4<(x3.length:Int))))] [] [] (aS h (fun c1 h=> ?_) (fun c1 h=> ?_)))
 ·refine qk (qs (qb ?_))
  obtain⟨x7,hx7,x8,hx8,h⟩:=dG h
  exact rk hC [oQ (show(1000:Int)≠0 by decide),oQ (mP rI hx7),oX rI hx7,.z (.rows (List.map rI x8)),.z (.len 7 (List.map rI x8).length),oQ (str rI hx8),oQ (uO rI hx8)] [7,22,23,24,25,26,27,28,29,30,31] [(7,ms 20 g5 1 rI x8)] [(20,some (ar 3 g5 1 rI x8))] [] (rk hC [] [8,20,21] [(8,vI (wr (x4+1)))] [] [] ⟨(x8,wr (x4+1)),g5,h,lS⟩)
 ·refine cU ?_
  obtain⟨x9,hx9,h⟩:=bd h
  refine rq hC [.z (.at 6),.z (.fz 20 [7,34] []),oC [] [21] (tR G hx9)] [7,9,10,32,33,34,35,36,37] [(7,vM rI x3),(9,ms 21 1 1 rI x9.1),(10,vB x9.2)] [(20,none),(21,some (ar 3 1 1 rI x9.1))] [(21,true)] ?_
  obtain⟨x10,hx10,h⟩:=bd h
  refine rq hC [oC [] [22] (tR G hx10)] [11,12,38,39,40,41,42,43] [(11,ms 22 1 1 rI x10.1),(12,vB x10.2)] [(22,some (ar 3 1 1 rI x10.1))] [(22,true)] (vj h (fun x_=>aX [(6,vB x_)] [(21,ar 3 1 1 rI x9.1),(22,ar 3 1 1 rI x10.1)] [20,21,22]) (fun j11 h=> ?_) (fun x13 h=> ?_))
  ·
   refine aR h (fun c2 h=> ?_) (fun c2 h=> ?_)
   ·exact rk hC ([oF c2,oF c2]++sF 4) [6,44,45,46,47,48,49,50,51,52] [(6,vB false)] [] [] (lE h)
   ·refine aR h (fun c3 h=> ?_) (fun c3 h=> ?_)
    ·exact rk hC ([oT c2,oT c2]++rF 4 c3) [6,44,45,46,47,48,49,50,51,52] [(6,vB false)] [] [] (lE h)
    ·obtain⟨x12,hx12,h⟩:=bd h
     exact rk hC ([oT c2,oT c2]++rT 3 c3++[.z (.b (true)),oV (aDk G hx12),oT c3]) [6,44,45,46,47,48,49,50,51,52] [(6,vB x12)] [] [] (lE h)
  ·obtain rfl:=so h
   exact qr eR
theorem uQ{p}{x}{r}(h:fD n p x=some r):VQ G 185 [] [V.agg (bD p),V.agg (qO x)] (V.tup [ms 0 1 1 rI r.1,vI r.2]) [ar 3 1 1 rI r.1]:=by
 unfold fD at h
 refine vq aN Tryz.func185 rfl fun w X β0 hC hg=> ?_
 refine rq hC [.z (.b (true)),.z (.b (true))] (fr 2 4) [(2,V.tp (bM p)),(3,V.tp (aDT x))] [] [] ?_
 obtain⟨x1,hx1,h⟩:=bd h
 refine rq hC [oV (qM G hx1),.z (.nat 20)] [6,10,11,12] [(6,V.ref 20 0)] [(20,some (E.cells (cV x1)))] [(20,true)] (rq hC [] [7] [(7,V.t T.nilS)] [] [] (qs ?_))
 obtain⟨x2,hx2,h⟩:=bd h
 refine rq hC [oC [] [21] (X3 G n x1.value hx2),oN aU x2] (fr 13 5) [(15,ms 21 1 2 aU x2),(16,vI (x2.length:Int)),(17,vI 0)] [(21,some (ar 77 1 2 aU x2))] [(21,true)] (qb (qw (lk hC [.grow 7 22 3] [7] [(7,ms 22 1 1 rI [])] [(22,some (ar 3 1 1 rI []))] [(22,true)]) (bA (γ:=Nat) h (fun x_ g_=>aX [(2,V.tp (bM p)),(3,V.tp (aDT x)),(6,V.ref 20 0),(7,ms 22 g_ 1 rI x_.1),(15,ms 21 1 2 aU x2),(16,vI (x2.length:Int)),(17,vI x_.2)] [(20,E.cells (cV x1)),(21,ar 77 1 2 aU x2),(22,ar 3 g_ 1 rI x_.1)] [20,21,22]) 1 (lS) ?_)))
 rintro again6 ⟨x3,x4⟩ g5 h
 refine rq hC [] [18] [(18,vB (decide (x4<(x2.length:Int))))] [] [] (qs (aS h (fun c1 h=> ?_) (fun c1 h=> ?_)))
 ·refine qk (qs (qb ?_))
  obtain⟨x7,hx7,h⟩:=bd h
  refine rq hC [oQ (mP aU hx7),oX aU hx7,.z (.nat 23)] [9,19,20] [(9,V.ref 23 0)] [(23,some (E.cells (cT x7)))] [(23,true)] ?_
  obtain⟨x8,hx8,x9,hx9,h⟩:=dG h
  exact rk hC [oV (dP G hx8),.z (.int 0),oA (aO rI hx9),oQ (bW (r:=rI) 1 (fun _=>rfl) x3),oQ (bW (r:=rI) 1 (fun _=>rfl) [x8])] [7,21,22,23,24,25,26,27,28] [(7,ms 22 (g5+1) 1 rI x9)] [(22,some (ar 3 (g5+1) 1 rI x9))] [] (rk hC [] [17,29] [(17,vI (wr (x4+1)))] [] [] ⟨(x9,wr (x4+1)),(g5+1),h,lS⟩)
 ·refine cU ?_
  obtain⟨x10,hx10,h⟩:=bd h
  obtain rfl:=so h
  exact rq hC [oV (dP G hx10)] [4,5,30,31,32,33,34,35,36] [(4,ms 22 g5 1 rI x3),(5,vI x10)] [] [] (qw (lk hC [.ren 4 22 0] [4] [(4,ms 0 1 1 rI x3)] [(0,some (ar 3 1 1 rI x3)),(22,none)] [(0,true)]) (qr eW))
theorem X2{p}{r}(h:xL n p=some r):PQ G 86 [V.agg (bD p)] (V.tup [vP aH8 r.1,vB r.2]):=by
 unfold xL at h
 refine pmr aN Tryz.func86 rfl rfl rfl rfl rfl (aK3 _ _ _) rfl ?_
 intro w X hC
 refine rq hC [.z (.b (true))] [1,2,3] [(1,V.tp (bM p))] [] [] ?_
 obtain⟨x1,hx1,h⟩:=bd h
 refine rq hC [oC [] [20] (gO G hx1)] [4,5,11,12,13,14,15] [(4,ms 20 1 3 aP x1.1),(5,vB x1.2)] [(20,some (ar 112 1 3 aP x1.1))] [(20,true)] (qs (rq hC [] [16,17] [(17,vB (!x1.2))] [] [] (aS h (fun c1 h=> ?_) (fun c1 h=> ?_))))
 ·obtain rfl:=so h
  exact rq hC [] [2,3] [(2,V.t T.nilP),(3,vB false)] [] [] (qr eR)
 ·refine qk (rq hC [.z (.nat 21)] [6,18,19,20,21] [(6,V.ref 21 0)] [(21,sc [vM aH p.arrays,vM aC p.parts,ms 20 1 3 aP x1.1,V.t T.nilS,V.t T.nilS])] [(21,true)] (qs (rq hC [oN aP x1.1] [22,23,24] [(22,ms 20 1 3 aP x1.1),(23,vI (x1.1.length:Int)),(24,vI 0)] [] [] (qb (qw (lk hC [.growc 21 3 22 48] [] [] [(22,some (ar 48 1 1 (rL rI) [])),(21,sc [vM aH p.arrays,vM aC p.parts,ms 20 1 3 aP x1.1,ms 22 1 1 (rL rI) [],V.t T.nilS])] [(22,true)]) ?_)))))
  refine qw (lk hC [.growc 21 4 23 3] [] [] [(23,some (ar 3 1 1 rI [])),(21,sc [vM aH p.arrays,vM aC p.parts,ms 20 1 3 aP x1.1,ms 22 1 1 (rL rI) [],ms 23 1 1 rI []])] [(23,true)]) (bA (γ:=Nat×Nat) h (fun x_ g_=>aX [(1,V.tp (bM p)),(6,V.ref 21 0),(22,ms 20 1 3 aP x1.1),(23,vI (x1.1.length:Int)),(24,vI x_.2.2)] [(20,ar 112 1 3 aP x1.1),(21,E.cells [vM aH p.arrays,vM aC p.parts,ms 20 1 3 aP x1.1,ms 22 g_.1 1 (rL rI) x_.1,ms 23 g_.2 1 rI x_.2.1]),(22,ar 48 g_.1 1 (rL rI) x_.1),(23,ar 3 g_.2 1 rI x_.2.1)] [20,21,22,23]) (1,1) (lS) ?_)
  rintro again7 ⟨x2,x3,x4⟩ ⟨g5,g6⟩ h
  refine rq hC [] [25] [(25,vB (decide (x4<(x1.1.length:Int))))] [] [] (qs (aS h (fun c2 h=> ?_) (fun c2 h=> ?_)))
  ·refine qk (qs (qb ?_))
   obtain⟨x8,hx8,h⟩:=bd h
   refine rq hC [oQ (mP aP hx8),oX aP hx8,.z (.nat 24)] [8,26,27] [(8,V.ref 24 0)] [(24,some (E.cells (qO x8)))] [(24,true)] ?_
   obtain⟨x9,hx9,h⟩:=bd h
   refine rq hC [oC [] [25] (uQ G hx9)] [9,10,28,29,30,31,32,33] [(9,ms 25 1 1 rI x9.1),(10,vI x9.2)] [(25,some (ar 3 1 1 rI x9.1))] [(25,true)] ?_
   obtain⟨x10,hx10,x11,hx11,h⟩:=dG h
   exact dk hC bL [.z (.at 15),.z (.fz 25 [9,40] []),.z (.int 0),oA (aO (rL rI) hx10),.z (.int 0),oQ (bW (r:=(rL rI)) 1 (fun _=>rfl) x2),oQ (bW (r:=(rL rI)) 1 (fun _=>rfl) [x9.1]),oA (aO rI hx11),oQ (bW (r:=rI) 1 (fun _=>rfl) x3),oQ (bW (r:=rI) 1 (fun _=>rfl) [x9.2])] [9,34,35,36,37,38,39,40,41,42,43,44,45,46,47,48,49,50,51,52,53] [] [(25,none),(22,some (ar 48 (g5+1) 1 (rL rI) x10)),(23,some (ar 3 (g6+1) 1 rI x11)),(21,sc [vM aH p.arrays,vM aC p.parts,ms 20 1 3 aP x1.1,ms 22 (g5+1) 1 (rL rI) x10,ms 23 (g6+1) 1 rI x11])] [] (rk hC [] [24,54] [(24,vI (wr (x4+1)))] [] [] ⟨(x10,x11,wr (x4+1)),((g5+1),(g6+1)),h,lS⟩)
  ·obtain rfl:=so h
   exact cU (rq hC [] [2,3,55] [(2,V.ref 21 0),(3,vB true)] [] [] (qw (lk hC [.fz 20 [22] [21],.fz 22 [] [21],.fz 23 [] [21],.fp 21 [2,6]] [2,6,22] [(2,V.tp [T.sl (List.map aH p.arrays),T.sl (List.map aC p.parts),T.sl (List.map aP x1.1),T.sl (List.map (rL rI) x2),T.sl (List.map rI x3)]),(6,V.tp [T.sl (List.map aH p.arrays),T.sl (List.map aC p.parts),T.sl (List.map aP x1.1),T.sl (List.map (rL rI) x2),T.sl (List.map rI x3)]),(22,vM aP x1.1)] [(21,none),(20,none),(22,none),(23,none)] []) (qr eR)))
theorem cC{p}{part}{r}(h:eG n p part=some r):PQ G 87 [V.agg (bD p),vI part] (vB r):=by
 unfold eG at h
 refine pq aN Tryz.func87 rfl fun w X hC=> ?_
 refine rq hC [.z (.b (true))] [2,4] [(2,V.tp (bM p))] [] [] ?_
 obtain⟨x1,hx1,h⟩:=bd h
 obtain rfl:=so h
 exact rq hC [oN aC p.parts,oV (bJ G hx1)] (fr 4 7) [(4,vB x1)] [] [] (qr eR)
theorem X0{list}{n_a1}{r}(h:t2 n list n_a1=some r):PQ G 262 [vM rI list,vI n_a1] (vB r):=by
 unfold t2 at h
 refine pq aN Tryz.func262 rfl fun w X hC=> ?_
 refine rq hC [] [4] [] [] [] (qs (rq hC [] [5] [(5,vI 0)] [] [] (qb (jZ h (fun x_=>aX [(0,vM rI list),(1,vI n_a1),(5,vI x_)] [] []) lS ?_))))
 rintro again2 x1 h
 refine qs (rq hC [oN rI list] (fr 6 4) [(9,vB (decide (x1<(list.length:Int))))] [] [] (aS h (fun c1 h=> ?_) (fun c1 h=> ?_)))
 ·refine qk (qs (qb ?_))
  obtain⟨x3,hx3,h⟩:=bd h
  refine rq hC [oR rI hx3] (fr 12 6) [(17,vB (decide (x3=n_a1)))] [] [] (aS h (fun c2 h=> ?_) (fun c2 h=> ?_))
  ·obtain rfl:=so h
   exact rq hC [] [4] [(4,vB true)] [] [] (qr eR)
  ·exact qk (rk hC [] [5,10,11] [(5,vI (wr (x1+1)))] [] [] (lE h))
 ·obtain rfl:=so h
  exact cU (rq hC [] [4] [(4,vB false)] [] [] (qr eR))
theorem rX{p}{r}(h:gL n p=some r):VQ G 91 [] [V.agg (bD p)] (ms 0 1 3 aP r) [ar 112 1 3 aP r]:=by
 unfold gL at h
 refine vq aN Tryz.func91 rfl fun w X β0 hC hg=> ?_
 refine rq hC [.z (.b (true))] [1,2] [(1,V.tp (bM p))] [] [] (rq hC [.z (.nat 20)] [3,8] [(3,ms 20 1 3 aP [])] [(20,some (ar 112 1 3 aP []))] [(20,true)] (qs (rq hC [] [4] [(4,vI 0)] [] [] (qb (bA (γ:=Nat) h (fun x_ g_=>aX [(1,V.tp (bM p)),(3,ms 20 g_ 3 aP x_.1),(4,vI x_.2)] [(20,ar 112 g_ 3 aP x_.1)] [20]) 1 (lS) ?_)))))
 rintro again4 ⟨x1,x2⟩ g3 h
 refine qs (rq hC [oN aC p.parts] (fr 9 5) [(13,vB (decide (x2<(p.parts.length:Int))))] [] [] (aS h (fun c1 h=> ?_) (fun c1 h=> ?_)))
 ·refine qk (qs (qb ?_))
  obtain⟨x5,hx5,x6,hx6,h⟩:=dG h
  refine rq hC [.z (.nat 21),oR aC hx5,oC [21] [] (xX G n [] 1 x5.nest [] hx6)] [5,16,17,18,19,20,21,22,23] [(5,ms 21 2 1 (rL rI) x6)] [(21,some (ar 48 2 1 (rL rI) x6))] [(21,true),(21,true)] (rq hC [] [6] [(6,vI 0)] [] [] (qb (bA (γ:=Nat) h (fun x_ g_=>aX [(1,V.tp (bM p)),(3,ms 20 g_ 3 aP x_.1),(4,vI x2),(5,ms 21 2 1 (rL rI) x6),(6,vI x_.2)] [(20,ar 112 g_ 3 aP x_.1),(21,ar 48 2 1 (rL rI) x6)] [20,21]) g3 (lS) ?_)))
  rintro again10 ⟨x7,x8⟩ g9 h
  refine qs (rq hC [oN (rL rI) x6] (fr 24 4) [(27,vB (decide (x8<(x6.length:Int))))] [] [] (aS h (fun c2 h=> ?_) (fun c2 h=> ?_)))
  ·refine qk (qs (qb (rq hC [] [7] [(7,vI 0)] [] [] (qb (bA (γ:=Nat) h (fun x_ g_=>aX [(1,V.tp (bM p)),(3,ms 20 g_ 3 aP x_.1),(4,vI x2),(5,ms 21 2 1 (rL rI) x6),(6,vI x8),(7,vI x_.2)] [(20,ar 112 g_ 3 aP x_.1),(21,ar 48 2 1 (rL rI) x6)] [20,21]) g9 (lS) ?_)))))
   rintro again14 ⟨x11,x12⟩ g13 h
   refine qs (rq hC [oR aC hx5,oN aI x5.body] (fr 30 9) [(38,vB (decide (x12<(x5.body.length:Int))))] [] [] (aS h (fun c3 h=> ?_) (fun c3 h=> ?_)))
   ·refine qk (qs (qb ?_))
    obtain⟨x15,hx15,x16,hx16,x17,hx17,h⟩:=lC h
    exact rk hC [.z (.nat 22),oQ (mP (rL rI) hx15),oX (rL rI) hx15,oA (aO rI hx16),.z (.at 4),.z (.fz 22 [49] []),.z (.int 0),oQ (bW (r:=rI) 1 (fun _=>rfl) []),oQ (bW (r:=rI) 1 (fun _=>rfl) x15),oA (aO aP hx17),oQ (bW (r:=aP) 3 uE x11),oQ (bW (r:=aP) 3 uE [(⟨x2,x12,x16⟩:Inst)])] [3,41,42,43,44,45,46,47,48,49,50,51,52] [(3,ms 20 (g13+1) 3 aP x17)] [(22,none),(20,some (ar 112 (g13+1) 3 aP x17))] [(22,true)] (rk hC [] [7,39,40] [(7,vI (wr (x12+1)))] [] [] ⟨(x17,wr (x12+1)),(g13+1),h,lS⟩)
   ·exact cU (rk hC [] [6,28,29] [(6,vI (wr (x8+1)))] [] [] ⟨(x11,wr (x8+1)),g13,h,lS⟩)
  ·exact cU (rk hC [] [4,14,15] [(4,vI (wr (x2+1)))] [] [] ⟨(x7,wr (x2+1)),g9,h,lS⟩)
 ·obtain rfl:=so h
  exact cU (rq hC [] [2,53] [(2,ms 20 g3 3 aP x1)] [] [] (qw (lk hC [.ren 2 20 0] [2] [(2,ms 0 1 3 aP x1)] [(0,some (ar 112 1 3 aP x1)),(20,none)] [(0,true)]) (qr eW)))
theorem aDo{p}{r}(h:sS n p=some r):VQ G 188 [] [V.agg (bD p)] (ms 0 1 2 cX r) [ar 204 1 2 cX r]:=by
 unfold sS at h
 refine vq aN Tryz.func188 rfl fun w X β0 hC hg=> ?_
 refine rq hC [.z (.b (true))] [1,2] [(1,V.tp (bM p))] [] [] (rq hC [.z (.nat 20)] [3,9] [(3,ms 20 1 2 cX [])] [(20,some (ar 204 1 2 cX []))] [(20,true)] ?_)
 obtain⟨x1,hx1,h⟩:=bd h
 refine rq hC [oC [] [21] (rX G hx1)] [4,10,11] [(4,ms 21 1 3 aP x1)] [(21,some (ar 112 1 3 aP x1))] [(21,true)] (qs (rq hC [] [5] [(5,vI 0)] [] [] (qb (bA (γ:=Nat) h (fun x_ g_=>aX [(1,V.tp (bM p)),(3,ms 20 g_ 2 cX x_.1),(4,ms 21 1 3 aP x1),(5,vI x_.2)] [(20,ar 204 g_ 2 cX x_.1),(21,ar 112 1 3 aP x1)] [20,21]) 1 (lS) ?_))))
 rintro again5 ⟨x2,x3⟩ g4 h
 refine qs (rq hC [oN aP x1] (fr 12 4) [(15,vB (decide (x3<(x1.length:Int))))] [] [] (aS h (fun c1 h=> ?_) (fun c1 h=> ?_)))
 ·refine qk (qs (qb (qs ?_)))
  obtain⟨x6,hx6,x7,hx7,x8,hx8,h⟩:=lC h
  obtain⟨x9,hx9,h⟩:=bd h
  refine dk hC bL [oQ (mP aP hx6),oX aP hx6,oR aC hx7,oQ (mP aP hx6),oX aP hx6,oR aI hx8,oQ (mP aP hx6),oX aP hx6,oC [] [22] (A7 G hx9)] [6,7,8,18,19,20,21,22,23,24,25,26,27,28,29,30,31,32,33,34,35,36,37,38,39,40,41,42,43,44,45,46] [(6,ms 22 1 1 rI x9.1),(7,vI x9.2.1)] [(22,some (ar 3 1 1 rI x9.1))] [(22,true)] ?_
  obtain⟨x10,hx10,h⟩:=bd h
  exact rk hC [.z (.at 4),.z (.fz 22 [6,48] []),.z (.int 0),oA (aO cX hx10),oQ (bW (r:=cX) 2 H8 x2),oQ (bW (r:=cX) 2 H8 [(⟨x9.1,x9.2.1⟩:L6Use)])] [3,6,47,48,49,50,51,52] [(3,ms 20 (g4+1) 2 cX x10)] [(22,none),(20,some (ar 204 (g4+1) 2 cX x10))] [] (rk hC [] [5,16,17] [(5,vI (wr (x3+1)))] [] [] ⟨(x10,wr (x3+1)),(g4+1),h,lS⟩)
 ·obtain rfl:=so h
  exact cU (rq hC [] [2,53] [(2,ms 20 g4 2 cX x2)] [] [] (qw (lk hC [.ren 2 20 0] [2] [(2,ms 0 1 2 cX x2)] [(0,some (ar 204 1 2 cX x2)),(20,none)] [(0,true)]) (qr eW)))
theorem aDl{p}{part}{many}{parts}{r}(h:sP n p part many parts=some r):PQ G 85 [V.agg (bD p),vI part,vI many,vM aC parts] (V.tup [V.agg (bD r.1),vB r.2]):=by
 unfold sP at h
 refine pq aN Tryz.func85 rfl fun w X hC=> ?_
 refine rq hC [.z (.b (true)),.z (.nat 20)] [4,8,9] [(4,V.tp (bM p)),(8,V.ref 20 0)] [(20,sc [V.t T.nilS,V.t T.nilS])] [(20,true)] ?_
 obtain⟨x1,hx1,h⟩:=bd h
 refine rq hC [oC [] [21,22] (v6 G hx1),.z (.nat 23)] [10,12,13] [(10,V.ref 23 0)] [(21,some (ar 90 1 2 aH x1.arrays)),(22,some (E.tree mM 2 1 (List.map aC x1.parts) [])),(23,sc [ms 21 1 2 aH x1.arrays,ms 22 1 2 aC x1.parts])] [(21,true),(22,true),(23,true)] (rq hC [.z (.nat 24)] [11,14,15,16] [(11,V.ref 24 0)] [(24,sc [ms 21 1 2 aH x1.arrays,V.t T.nilS])] [(24,true)] (qs (qw (lk hC [.shd 22,.fz 22 [] [23]] [] [] [(22,none),(23,sc [ms 21 1 2 aH x1.arrays,vM aC x1.parts])] []) ?_)))
 obtain⟨x2,hx2,x3,hx3,x4,hx4,h⟩:=lC h
 obtain⟨x5,hx5,x6,hx6,h⟩:=dG h
 refine dk hC bL [.z (.nat 25),oA (tZ aC hx2),oQ (bW (r:=aC) 2 b6 x1.parts),oA (aO aC hx3),oQ (bW (r:=aC) 2 b6 []),oQ (bW (r:=aC) 2 b6 x2),oA (aO aC hx4),oQ (bW (r:=aC) 2 b6 x3),oQ (bW (r:=aC) 2 b6 parts),oA (G5 aC hx5),oQ (bW (r:=aC) 2 b6 x1.parts),oA (aO aC hx6),oQ (bW (r:=aC) 2 b6 x4),oQ (bW (r:=aC) 2 b6 x5)] (fr 17 16) [] [(25,some (ar 46 4 2 aC x6)),(24,sc [ms 21 1 2 aH x1.arrays,ms 25 4 2 aC x6])] [(25,true)] (qs ?_)
 obtain⟨x7,hx7,h⟩:=bd h
 refine rq hC [.z (.at 3),.z (.fz 21 [] [23,24]),.z (.at 3),.z (.fz 25 [] [24]),oV (cS G hx7)] [33,34,35] [(35,vB (!x7))] [(23,some (E.cells (bD x1))),(24,sc [vM aH x1.arrays,vM aC x6]),(21,none),(25,none)] [] (aS h (fun c1 h=> ?_) (fun c1 h=> ?_))
 ·obtain rfl:=so h
  exact rq hC [] [9,36] [(9,vB false)] [(20,sc [V.t T.nilS,V.t T.nilS])] [] (qr eR)
 ·refine qk ?_
  obtain⟨x8,hx8,h⟩:=bd h
  obtain rfl:=so h
  exact rq hC [oC [] [26,27] (v6 G hx8)] [9,37,38] [(9,vB true)] [(26,some (ar 90 1 2 aH x8.arrays)),(27,some (E.tree mM 2 1 (List.map aC x8.parts) [])),(20,sc [ms 26 1 2 aH x8.arrays,ms 27 1 2 aC x8.parts])] [(26,true),(27,true)] (qw (lk hC [.fz 26 [] [20]] [] [] [(20,sc [vM aH x8.arrays,ms 27 1 2 aC x8.parts]),(26,none)] []) (qw (lk hC [.shd 27,.fz 27 [] [20]] [] [] [(27,none),(20,some (E.cells (bD x8)))] []) (qr eR)))
theorem R8{s}{v}{r}(h:oW n s v=some r):PQ G 210 [vM rI s,vI v] (vI r):=by
 unfold oW at h
 refine pq aN Tryz.func210 rfl fun w X hC=> ?_
 refine rq hC [] [4] [] [] [] (qs (rq hC [oN rI s] [6,7,8] [(7,vI (s.length:Int)),(8,vI 0)] [] [] (qb (jZ h (fun x_=>aX [(0,vM rI s),(1,vI v),(7,vI (s.length:Int)),(8,vI x_)] [] []) lS ?_))))
 rintro again2 x1 h
 refine rq hC [] [9] [(9,vB (decide (x1<(s.length:Int))))] [] [] (qs (aS h (fun c1 h=> ?_) (fun c1 h=> ?_)))
 ·refine qk (qs (qb (rq hC [] [5,10] [(5,vI x1)] [] [] ?_)))
  obtain⟨x3,hx3,h⟩:=bd h
  refine rq hC [oR rI hx3] (fr 11 6) [(16,vB (decide (v=x3)))] [] [] (aS h (fun c2 h=> ?_) (fun c2 h=> ?_))
  ·obtain rfl:=so h
   exact rq hC [] [4,17] [(4,vI x1)] [] [] (qr eR)
  ·exact qk (rk hC [] [8,18] [(8,vI (wr (x1+1)))] [] [] (lE h))
 ·obtain rfl:=so h
  exact cU (rq hC [] [4] [(4,vI (-1))] [] [] (qr eR))
theorem qL{s}{v}{r}(h:fU n s v=some r):PQ G 186 [vM rI s,vI v] (vB r):=by
 unfold fU at h
 refine pq aN Tryz.func186 rfl fun w X hC=> ?_
 refine rq hC [] [4] [] [] [] ?_
 obtain⟨x1,hx1,h⟩:=bd h
 obtain rfl:=so h
 exact rq hC [oV (R8 G hx1)] (fr 4 5) [(4,vB (decide ((0:Int)≤x1)))] [] [] (qr eR)
theorem aDn{r_a0}{r}(h:wX n r_a0=some r):VQ G 103 [eL r_a0] [V.ref 0 0] (V.tup [V.agg (bD r.1),vI r.2.1,vI r.2.2.1,vI r.2.2.2.1]) [eL r.2.2.2.2]:=by
 unfold wX at h
 refine vq aN Tryz.func103 rfl fun w X β0 hC hg=> ?_
 refine rq hC [.z (.nat 20)] (fr 2 4) [(2,V.ref 20 0)] [(20,sc [V.t T.nilS,V.t T.nilS])] [(20,true)] ?_
 obtain⟨x1,hx1,x2,hx2,h⟩:=dG h
 refine rq hC [oC [0] [] (aDm G hx1),oC [0] [] (aAC G hx2),.z (.nat 21)] [6,8,9,10,11] [(6,V.ref 21 0)] [(0,sR x2.2),(21,some (E.cells (bD x2.1)))] [(0,true),(0,true),(21,true)] ?_
 obtain⟨x3,hx3,h⟩:=bd h
 refine rq hC [.z (.int 0),oC [0] [] (aZ G hx3)] [7,12,13,14] [(7,vI x3.1)] [(0,sR x3.2)] [(0,true)] (qs ?_)
 obtain⟨x4,hx4,x5,hx5,h⟩:=dG h
 obtain rfl:=so h
 exact dk hC bL [.z (.int 0),oC [0] [] (aZ G hx4),.z (.int 0),oC [0] [] (aZ G hx5)] [3,4,5,15,16,17,18,19,20,21,22] [(3,vI x3.1),(4,vI x4.1),(5,vI x5.1)] [(0,sR x5.2),(20,some (E.cells (bD x2.1)))] [(0,true),(0,true)] (qr eW)
theorem rK{code}{r}(h:dS n code=some r):PQ G 34 [vM rY code] (V.tup [V.agg (bD r.1),vI r.2.1,vI r.2.2]):=by
 unfold dS at h
 refine pq aN Tryz.func34 rfl fun w X hC=> ?_
 refine rq hC [.z (.nat 20)] [2,3,4] [(2,V.ref 20 0)] [(20,sc [V.t T.nilS,V.t T.nilS])] [(20,true)] ?_
 obtain⟨x1,hx1,x2,hx2,h⟩:=dG h
 obtain rfl:=so h
 exact rq hC [oC [] [21] (aBZ G hx1),oC [21] [] (aDn G hx2),.z (.nat 22)] (fr 5 12) [(5,V.ref 22 0),(6,vI x2.2.1),(8,vI x2.2.2.2.1)] [(21,sR x2.2.2.2.2),(22,some (E.cells (bD x2.1)))] [(21,true),(21,true),(22,true)] (rq hC [] [3,4,17,18,19] [(3,vI x2.2.1),(4,vI x2.2.2.2.1)] [(20,some (E.cells (bD x2.1)))] [] (qr eR))
open Go.RowKit Go.Lib in
set_option maxHeartbeats 4000000 in
set_option maxRecDepth 100000 in
theorem Q9(b n c i vb m vc:Nat)(cs vs:List Value)(w:World)(hi:i<n)(hm:0<m)(hroom:n+m≤c)(hc63:c≤9223372036854775807)(hvb:vb≠b)
  (hcl:cs.length=n*2) (hvl:vs.length=m*2)
  (hcs: ∀j v,cs[j]? =some v→w.cell? ⟨b,j,none⟩=some v) (hsp: ∀j,j<(n+m)*2→(w.cell? ⟨b,j,none⟩).isSome=true) (hfz: ∀j,w.frozen? ⟨b,j,none⟩=false)
  (hvs: ∀j v,vs[j]? =some v→w.cell? ⟨vb,j,none⟩=some v) (h1c: ∀v∈cs,v.oneCell'=true) (h1v: ∀v∈vs,v.oneCell'=true)
  (tA tB:TypeId) (kA kB:Nat) (hsa:w.shape? vb=some (tA,kA)) (hsb:w.shape? b=some (tB,kB)) (hkB:kB≠0) (hfa: ∀j,w.frozen? ⟨vb,j,none⟩=false):
  Calls Tryz.prog 96 #[.slice (some ⟨b,0,none⟩) n c,.int .i64 i,.slice (some ⟨vb,0,none⟩) m vc] w fun e w'=>
   e= .returned (.slice (some ⟨b,0,none⟩) (n+m) c)∧w'=(w.drew.setCells b ((i+m)*2) (cs.drop (i*2))).setCells b (i*2) vs:=by
 have hz1: ¬((m:Int)=0):=by omega
 have hz2: ¬((i:Int)=(n:Int)):=by omega
 have hw1:IntKind.i64.wrap ((i:Int)+(m:Int))=(i:Int)+(m:Int):=by rw [IntKind.wrap_i64];omega
 have hb1:(0:Int)≤(i:Int)+(m:Int):=by omega
 have hin:i≤n:=by omega
 have htn:((i:Int)+(m:Int)).toNat=i+m:=by omega
 have hb2: ¬(c=i+m):=by omega
 have hb3:(i:Int)≤(n:Int)+(m:Int):=by omega
 have hb4: ¬(c=i):=by omega
 have hov: ∀lb cb,(callFunc 194 #[.slice (some ⟨vb,0,none⟩) m vc,.slice (some ⟨b,(i+m)*2,none⟩) lb cb]).run Tryz.prog w= .ok (.value (.bool false)) w:=fun lb cb=>by
  rw [run_callFunc_extern Tryz.func194 (by kernel_rfl) (by kernel_rfl) (by kernel_rfl) (e:=Extern.SlicesOverlaps.overlaps #[24,24] #[4]) (by kernel_rfl),
   Lib.run_overlaps_apart w 24 4 46 Tryz.underlying24 2 Tryz.sizeOf46 ⟨vb,0,none⟩ ⟨b,(i+m)*2,none⟩ m vc lb cb hvb tA tB kA kB hsa hsb hkB (hfa 0) (hfa kA)]
  rfl
 have hdl:(cs.drop (i*2)).length=(n-i)*2:=by rw [List.length_drop,hcl];omega
 have hsz:(Tryz.prog.info? 46).map (·.size)=some 2:=by kernel_rfl
 have hcp1: ∀ty dc sc,(Builtin.copy_ #[24,24] ty #[.slice (some ⟨b,(i+m)*2,none⟩) (n+m-(i+m)) dc,.slice (some ⟨b,i*2,none⟩) (n+m-i) sc]).run Tryz.prog w.drew= .ok (goInt ((n-i:Nat):Int)) (w.drew.setCells b ((i+m)*2) (cs.drop (i*2))):=fun ty dc sc=>
  t8 w.drew 24 24 ty 46 2 b ((i+m)*2) (n+m-(i+m)) dc ⟨b,i*2,none⟩ (n+m-i) sc (n-i) (cs.drop (i*2)) Tryz.underlying24 hsz (by simp only [Nat.min_def];split<;>omega) hdl
   (fun j v hj=>by rw [Addr.add_lit];exact hcs (i*2+j) v (by rwa [List.getElem?_drop] at hj))
   (fun j hj=>hsp _ (by omega)) (fun j hj=>hfz _) (fun v hv=>h1c v (List.mem_of_mem_drop hv))
 obtain⟨W1,hW1⟩: ∃W1,W1=w.drew.setCells b ((i+m)*2) (cs.drop (i*2)):=⟨_,rfl⟩
 have hsp1: ∀k,k<(n+m)*2→(W1.cell? ⟨b,k,none⟩).isSome=true:=fun k hk=>by
  rw [hW1]
  exact pV b (cs.drop (i*2)) ((i+m)*2) w.drew (fun j hj=>hsp _ (by rw [hdl] at hj;omega)) k (hsp k hk)
 have hcp2: ∀(W:World),(∀x,W.cell? x=W1.cell? x)→(∀x,W.frozen? x=W1.frozen? x)→ ∀ty dc,(Builtin.copy_ #[24,24] ty #[.slice (some ⟨b,i*2,none⟩) (n+m-i) dc,.slice (some ⟨vb,0,none⟩) m vc]).run Tryz.prog W= .ok (goInt m) (W.setCells b (i*2) vs):=fun W hWc hWf ty dc=>
  t8 W 24 24 ty 46 2 b (i*2) (n+m-i) dc ⟨vb,0,none⟩ m vc m vs Tryz.underlying24 hsz (by simp only [Nat.min_def];split<;>omega) hvl
   (fun j v hj=>by
    rw [Addr.add_lit,Nat.zero_add,hWc,hW1,World.cell?_setCells_out b _ _ _ _ (fun h _=>absurd h hvb)]
    exact hvs j v hj)
   (fun j hj=>by rw [hWc];exact hsp1 _ (by omega)) (fun j hj=>by rw [hWf,hW1,World.frozen?_setCells];exact hfz _) h1v
 rw [←hW1] at hcp1
 go_enter Tryz.func96,Tryz.ntmps96
 go_wp2_with (simp only [hov])
 go_region_law (refine sJ rfl _ _ 24 24 rfl _ _ (by simp [Act.eval,Act.put]) (by simp [Act.eval,Act.put]) (hcp1 _ _ _) ?_)
 go_wp2_with (at_builtin;refine lD _ rfl _ _ 24 24 rfl _ _ rfl rfl (hcp2 _ (fun _=>rfl) (fun _=>rfl) _ _) ?_)
 go_ret
 first|exact⟨rfl,rfl⟩|exact⟨rfl,by rw [hW1]⟩
open Go.RowKit Go.Lib in
set_option maxHeartbeats 4000000 in
set_option maxRecDepth 100000 in
theorem R1(b n c i vb m vc:Nat)(cs vs:List Value)(w:World)(hi:i<n)(hm:0<m)(hnc:n≤c)(hroom:c<n+m)(i0:TypeInfo)(z:Value)(hi0:Tryz.prog.info? 46=some i0)(hz0:i0.zero=some z)(hzs:i0.size=2)(hzc:z.cells.size=2)(hle:n+m≤1000000000)(hbig:(n+m)*i0.bytes≤140737488355328)
  (hcl:cs.length=n*2) (hvl:vs.length=m*2)
  (hcs: ∀j v,cs[j]? =some v→w.cell? ⟨b,j,none⟩=some v)
  (hvs: ∀j v,vs[j]? =some v→w.cell? ⟨vb,j,none⟩=some v) (h1c: ∀v∈cs,v.oneCell'=true) (h1v: ∀v∈vs,v.oneCell'=true):
  Calls Tryz.prog 96 #[.slice (some ⟨b,0,none⟩) n c,.int .i64 i,.slice (some ⟨vb,0,none⟩) m vc] w fun e w'=>
   e= .returned (.slice (some ⟨w.heap.size,0,none⟩) (n+m) (grownCap w (n+m) c 46))∧
   w'=(((w.alloc (.cells ((cs.take (i*2)).toArray++Builtin.zeroCells z.cells (n+m-i)++Builtin.zeroCells z.cells (grownCap w (n+m) c 46-(n+m))) 46)).drew.setCells w.heap.size (i*2) vs).drew).setCells w.heap.size ((i+m)*2) (cs.drop (i*2)):=by
 have hz1: ¬((m:Int)=0):=by omega
 have hz2: ¬((i:Int)=(n:Int)):=by omega
 have hz3:(c:Int)<(n:Int)+(m:Int):=by omega
 have hsz:(Tryz.prog.info? 46).map (·.size)=some 2:=by rw [hi0];simp [hzs]
 have hbw:b<w.heap.size:=block_lt_of_cell (hcs 0 _ (List.getElem?_eq_getElem (by omega)))
 have hvw:vb<w.heap.size:=block_lt_of_cell (hvs 0 _ (List.getElem?_eq_getElem (by omega)))
 have hkk:(n:Int)+(m:Int)-(i:Int)=((n+m-i:Nat):Int):=by omega
 have hik:i+(n+m-i)=n+m:=by omega
 have hold:(Builtin.firstCells i0.size i (.slice (some ⟨b,0,none⟩) i c)).run Tryz.prog w.drew= .ok (cs.take (i*2)).toArray w.drew:=by
  rw [hzs]
  exact run_firstCells_some w.drew 2 i ⟨b,0,none⟩ i c (cs.take (i*2)) (by rw [List.length_take];omega) (fun j v hj=>by
   rw [Addr.add_lit,Nat.zero_add]
   rw [List.getElem?_take] at hj
   split at hj
   ·exact hcs j v hj
   ·cases hj)
 have hrz: ∀ty,(Builtin.append_ #[24,3] ty #[.slice (some ⟨b,0,none⟩) i c,.int .i64 ((n:Int)+(m:Int)-(i:Int))]).run Tryz.prog w=
   .ok (.slice (some ⟨w.heap.size,0,none⟩) (n+m) (grownCap w (n+m) c 46)) (w.drew.alloc (.cells ((cs.take (i*2)).toArray++Builtin.zeroCells z.cells (n+m-i)++Builtin.zeroCells z.cells (grownCap w (n+m) c 46-(n+m))) 46)):=fun ty=>by
  have h:=Lib.run_append_grow_zeros w 24 3 ty 46 i0 z .i64 .i64 Tryz.underlying24 Tryz.underlying3 hi0 hz0 (some ⟨b,0,none⟩) i c (cs.take (i*2)) hold (n+m-i) (by omega) (by omega) (by omega) (by omega) (by
   have:=Nat.mul_le_mul_right i0.bytes (show n+m-i≤n+m by omega)
   omega) (by rw [hik];exact growslice_fits hroom hbig)
  rw [hik] at h
  rw [hkk]
  exact h
 obtain⟨G,hG⟩: ∃G,G=grownCap w (n+m) c 46:=⟨_,rfl⟩
 obtain⟨ROW,hROW⟩: ∃ROW:Array Value,ROW=(cs.take (i*2)).toArray++Builtin.zeroCells z.cells (n+m-i)++Builtin.zeroCells z.cells (G-(n+m)):=⟨_,rfl⟩
 rw [←hG] at hrz⊢
 rw [←hROW] at hrz⊢
 have hRl:(n+m)*2≤ROW.size:=by
  rw [hROW]
  simp [Builtin.zeroCells,hzc]
  omega
 obtain⟨W1,hW1⟩: ∃W1,W1=w.drew.alloc (.cells ROW 46):=⟨_,rfl⟩
 rw [←hW1] at hrz
 have hN: ∀j,j<(n+m)*2→(W1.cell? ⟨w.heap.size,j,none⟩).isSome=true:=fun j hj=>by
  rw [hW1,World.cell?_alloc_at (w:=w.drew) ROW _ w.heap.size j rfl,Array.getElem?_eq_getElem (by omega)];rfl
 have hNf: ∀j,W1.frozen? ⟨w.heap.size,j,none⟩=false:=fun j=>by rw [hW1];exact World.frozen?_alloc_at (w:=w.drew) ROW _ w.heap.size j rfl
 have hOb: ∀j v,w.cell? ⟨b,j,none⟩=some v→W1.cell? ⟨b,j,none⟩=some v:=fun j v h=>by rw [hW1,World.cell?_alloc_past (w:=w.drew) _ b j hbw];exact h
 have hOv: ∀j v,w.cell? ⟨vb,j,none⟩=some v→W1.cell? ⟨vb,j,none⟩=some v:=fun j v h=>by rw [hW1,World.cell?_alloc_past (w:=w.drew) _ vb j hvw];exact h
 have hcpA: ∀(W:World),(∀x,W.cell? x=W1.cell? x)→(∀x,W.frozen? x=W1.frozen? x)→ ∀ty dc,(Builtin.copy_ #[24,24] ty #[.slice (some ⟨w.heap.size,i*2,none⟩) (n+m-i) dc,.slice (some ⟨vb,0,none⟩) m vc]).run Tryz.prog W= .ok (goInt m) (W.setCells w.heap.size (i*2) vs):=fun W hWc hWf ty dc=>
  t8 W 24 24 ty 46 2 w.heap.size (i*2) (n+m-i) dc ⟨vb,0,none⟩ m vc m vs Tryz.underlying24 hsz (by simp only [Nat.min_def];split<;>omega) hvl
   (fun j v hj=>by rw [Addr.add_lit,Nat.zero_add,hWc];exact hOv _ v (hvs j v hj))
   (fun j hj=>by rw [hWc];exact hN _ (by omega)) (fun j hj=>by rw [hWf];exact hNf _) h1v
 have hGn:n+m≤G:=by rw [hG];exact grownCap_ge w _ _ _
 have hG63:G≤9223372036854775807:=by
  have:=grownCap_le_maxLen w (n+m) c 46 (by unfold maxLen;omega)
  rw [←hG] at this
  unfold maxLen at this
  omega
 have hGi: ¬(G=i):=by omega
 have hGim: ¬(G=i+m):=by omega
 have hci: ¬(c=i):=by omega
 have hbN:b≠w.heap.size:=by omega
 have hdl:(cs.drop (i*2)).length=(n-i)*2:=by rw [List.length_drop,hcl];omega
 have hcpB: ∀(W:World),(∀x,W.cell? x=(W1.setCells w.heap.size (i*2) vs).cell? x)→(∀x,W.frozen? x=(W1.setCells w.heap.size (i*2) vs).frozen? x)→ ∀ty dc sc,(Builtin.copy_ #[24,24] ty #[.slice (some ⟨w.heap.size,(i+m)*2,none⟩) (n+m-(i+m)) dc,.slice (some ⟨b,i*2,none⟩) (n-i) sc]).run Tryz.prog W= .ok (goInt ((n-i:Nat):Int)) (W.setCells w.heap.size ((i+m)*2) (cs.drop (i*2))):=fun W hWc hWf ty dc sc=>
  t8 W 24 24 ty 46 2 w.heap.size ((i+m)*2) (n+m-(i+m)) dc ⟨b,i*2,none⟩ (n-i) sc (n-i) (cs.drop (i*2)) Tryz.underlying24 hsz (by simp only [Nat.min_def];split<;>omega) hdl
   (fun j v hj=>by
    rw [Addr.add_lit,hWc,World.cell?_setCells_out _ _ _ _ _ (fun h _=>absurd h hbN)]
    exact hOb _ v (hcs (i*2+j) v (by rwa [List.getElem?_drop] at hj)))
   (fun j hj=>by rw [hWc];exact pV w.heap.size vs (i*2) W1 (fun t ht=>hN _ (by rw [hvl] at ht;omega)) _ (hN _ (by rw [hdl] at hj;omega)))
   (fun j hj=>by rw [hWf,World.frozen?_setCells];exact hNf _) (fun v hv=>h1c v (List.mem_of_mem_drop hv))
 subst hW1
 have hE1: ∀x,((w.alloc (.cells ROW 46)).drew).cell? x=(w.drew.alloc (.cells ROW 46)).cell? x:=fun x=>rfl
 have hE2: ∀x,((w.alloc (.cells ROW 46)).drew).frozen? x=(w.drew.alloc (.cells ROW 46)).frozen? x:=fun x=>rfl
 have hF1: ∀x,(((w.alloc (.cells ROW 46)).drew.setCells w.heap.size (i*2) vs).drew).cell? x=((w.drew.alloc (.cells ROW 46)).setCells w.heap.size (i*2) vs).cell? x:=fun x=>rfl
 have hF2: ∀x,(((w.alloc (.cells ROW 46)).drew.setCells w.heap.size (i*2) vs).drew).frozen? x=((w.drew.alloc (.cells ROW 46)).setCells w.heap.size (i*2) vs).frozen? x:=fun x=>rfl
 have hw1:IntKind.i64.wrap ((i:Int)+(m:Int))=(i:Int)+(m:Int):=by rw [IntKind.wrap_i64];omega
 have hb1:(0:Int)≤(i:Int)+(m:Int):=by omega
 have hin:i≤n:=by omega
 have htn:((i:Int)+(m:Int)).toNat=i+m:=by omega
 have hb3:(i:Int)≤(n:Int):=by omega
 clear hkk hik hold hROW hG hRl
 go_enter Tryz.func96,Tryz.ntmps96
 go_wp2_with (first
  |(at_builtin;refine Lib.wpList_append_run _ rfl _ _ _ _ rfl _ _ rfl rfl _ _ (hrz _) ?_)
  |(at_builtin;refine lD _ rfl _ _ 24 24 rfl _ _ rfl rfl (hcpA _ hE1 hE2 _ _) ?_)
  |(at_builtin;refine lD _ rfl _ _ 24 24 rfl _ _ rfl rfl (hcpB _ (fun _=>rfl) (fun _=>rfl) _ _ _) ?_))
 go_region_law (refine sJ rfl _ _ 24 24 rfl (.slice (some ⟨w.heap.size,(i+m)*2,none⟩) (n+m-(i+m)) (G-(i+m))) (.slice (some ⟨b,i*2,none⟩) (n-i) (c-i)) (by simp [Act.eval,Act.put]) (by simp [Act.eval,Act.put]) (hcpB _ hF1 hF2 3 (G-(i+m)) (c-i)) ?_)
 go_wp2
 go_ret
 exact⟨rfl,rfl⟩
open Go.RowKit Go.Lib in
set_option maxHeartbeats 4000000 in
set_option maxRecDepth 100000 in
theorem R0(base vbase:Option Addr)(n c i vc:Nat)(w:World)(hi:i≤n)(hn:n≤c)(hc:c≤9223372036854775807):Calls Tryz.prog 96 #[.slice base n c,.int .i64 i,.slice vbase 0 vc] w fun e w'=>e= .returned (.slice base n c)∧w'=w:=by
 have hin:(i:Int)≤(n:Int):=by omega
 go_enter Tryz.func96,Tryz.ntmps96
 cases base with
 |none=>
  go_wp2
  go_ret
  exact⟨rfl,rfl⟩
 |some a=>
  obtain⟨ab,ao,asp⟩:=a
  by_cases hci:c=i
  ·go_wp2
   go_ret
   exact⟨rfl,rfl⟩
  ·go_wp2
   go_ret
   exact⟨rfl,rfl⟩
open Go.RowKit Go.Lib in
set_option maxHeartbeats 4000000 in
set_option maxRecDepth 100000 in
theorem Q8(base vbase:Option Addr)(n c m vc:Nat)(w:World)(v':Value)(w':World)(hm:0<m)(hn:n≤c)(hc:c≤9223372036854775807)(hrun:(Builtin.append_ #[24,24] 24 #[.slice base n c,.slice vbase m vc]).run Tryz.prog w= .ok v' w'):
  Calls Tryz.prog 96 #[.slice base n c,.int .i64 n,.slice vbase m vc] w fun e w1=>e= .returned v'∧w1=w':=by
 have hz1: ¬((m:Int)=0):=by omega
 go_enter Tryz.func96,Tryz.ntmps96
 cases base with
 |none=>
  go_wp2_with (at_builtin;refine Lib.wpList_append_run _ rfl _ _ _ _ rfl _ _ rfl rfl _ _ hrun ?_)
  go_ret
  exact⟨rfl,rfl⟩
 |some a=>
  obtain⟨ab,ao,asp⟩:=a
  by_cases hci:c=n
  ·go_wp2_with (at_builtin;refine Lib.wpList_append_run _ rfl _ _ _ _ rfl _ _ rfl rfl _ _ hrun ?_)
   go_ret
   exact⟨rfl,rfl⟩
  ·go_wp2_with (at_builtin;refine Lib.wpList_append_run _ rfl _ _ _ _ rfl _ _ rfl rfl _ _ hrun ?_)
   go_ret
   exact⟨rfl,rfl⟩
theorem aBv{i0:TypeInfo}{z:Value}(hi0:Tryz.prog.info? 46=some i0)(hz0:i0.zero=some z)(hzs:i0.size=2)(hzc:z.cells.size=2):InsRaw Tryz.prog 96 24 46 2 i0 z where
 nothing:=R0
 tail:=Q8
 room:=fun b n c i vb m vc cs vs w hi hm hroom hc63 hvb hcl hvl hcs hsp hfz hvs h1c h1v tA tB kA kB hsa hsb hkB hfa=>Q9 b n c i vb m vc cs vs w hi hm hroom hc63 hvb hcl hvl hcs hsp hfz hvs h1c h1v tA tB kA kB hsa hsb hkB hfa
 grow:=fun b n c i vb m vc cs vs w hi hm hnc hroom hle hbig hcl hvl hcs hvs h1c h1v=>R1 b n c i vb m vc cs vs w hi hm hnc hroom i0 z hi0 hz0 hzs hzc hle hbig hcl hvl hcs hvs h1c h1v
theorem C4(G:GS)(n:Nat)(s:List Part)(i:Int)(v:List Part)(gs gv:Nat){r:List Part}(h:jA n s i v=some r):
  VQ G 96 [ar 46 gs 2 aC s,ar 46 gv 2 aC v] [ms 0 gs 2 aC s,vI i,ms 1 gv 2 aC v] (ms 0 (gs+1) 2 aC r) [ar 46 (gs+1) 2 aC r,ar 46 gv 2 aC v]:=by
 unfold jA at h
 refine D0 (decide ((0:Int)≤i)) (fun c1=> ?_) (fun c1=> ?_)
 ·have h:=bf c1 h
  exact nof h
 have h:=bt c1 h
 refine D0 (decide (i≤(s.length:Int))) (fun c2=> ?_) (fun c2=> ?_)
 ·have h:=bf c2 h
  exact nof h
 have h:=bt c2 h
 have g0:=of_decide_eq_true c1
 have g1:=of_decide_eq_true c2
 obtain⟨k,rfl⟩: ∃k:Nat,i=(k:Int):=⟨i.toNat,by omega⟩
 simp only [Int.toNat_natCast] at h
 have hif:(Tryz.prog.info? 46).map (fun i=>(i.zero.map (fun z=>z.cells.size),i.size,Nat.ble i.bytes 140000))=some (some 2,2,true):=by kernel_rfl
 cases hq:Tryz.prog.info? 46 with
 |none=>rw [hq] at hif;cases hif
 |some i0=>
  rw [hq] at hif
  simp only [Option.map_some,Option.some.injEq,Prod.mk.injEq] at hif
  obtain⟨h1,h2,h3⟩:=hif
  cases hz:i0.zero with
  |none=>rw [hz] at h1;cases h1
  |some z=>
   rw [hz] at h1
   simp only [Option.map_some,Option.some.injEq] at h1
   refine aIq ⟨_,Tryz.func96,by kernel_rfl,by kernel_rfl⟩ (aBv hq hz h2 h1) Tryz.underlying24 hq hz h1 h2 Tryz.underlying46 (by decide) (Nat.le_of_ble_eq_true h3) aC (fun _=>rfl) s v r k gs gv (by omega) h
theorem aAD{p}{r}(h:lQ n p=some r):PQ G 97 [V.agg (bD p)] (V.tup [V.agg (bD r.1),vB r.2]):=by
 unfold lQ at h
 refine pq aN Tryz.func97 rfl fun w X hC=> ?_
 refine rq hC [.z (.b (true)),.z (.nat 20)] [1,2,3] [(1,V.tp (bM p)),(2,V.ref 20 0)] [(20,sc [V.t T.nilS,V.t T.nilS])] [(20,true)] (qs ?_)
 obtain⟨x1,hx1,h⟩:=bd h
 refine rq hC [oV (bF G hx1)] [4,5,6] [(6,vB (!x1))] [] [] (aS h (fun c1 h=> ?_) (fun c1 h=> ?_))
 ·obtain rfl:=so h
  exact rq hC [] [3,7] [(3,vB false)] [(20,sc [V.t T.nilS,V.t T.nilS])] [] (qr eR)
 ·refine qk ?_
  obtain⟨x2,hx2,h⟩:=bd h
  obtain rfl:=so h
  exact rq hC [oC [] [21,22] (C6 G hx2)] [3,8,9] [(3,vB true)] [(21,some (ar 90 1 2 aH x2.arrays)),(22,some (ar 46 1 2 aC x2.parts)),(20,sc [ms 21 1 2 aH x2.arrays,ms 22 1 2 aC x2.parts])] [(21,true),(22,true)] (qw (lk hC [.fz 21 [] [20]] [] [] [(20,sc [vM aH x2.arrays,ms 22 1 2 aC x2.parts]),(21,none)] []) (qw (lk hC [.fz 22 [] [20]] [] [] [(20,some (E.cells (bD x2))),(22,none)] []) (qr eR)))
theorem oJ{p}{part}{loop}{r}(h:lV n p part loop=some r):PQ G 192 [V.agg (bD p),vI part,vI loop] (vB r):=by
 unfold lV at h
 refine pq aN Tryz.func192 rfl fun w X hC=> ?_
 refine rq hC [.z (.b (true))] [3,6] [(3,V.tp (bM p))] [] [] (vj h (fun x_=>aX [(6,vB x_)] [] []) (fun j1 h=> ?_) (fun x5 h=> ?_))
 ·
  obtain⟨x2,hx2,h⟩:=bd h
  refine aR h (fun c1 h=> ?_) (fun c1 h=> ?_)
  ·exact rk hC ([oV (cC G hx2)]++rF 11 c1) (fr 6 16) [(6,vB false)] [] [] (lE h)
  ·obtain⟨x3,hx3,x4,hx4,h⟩:=dG h
   exact rk hC ([oV (cC G hx2)]++rT 5 c1++[oR aC hx3]++rT 3 c1++[oN aD x3.nest,oT c1,oT c1,oV (bJ G hx4),oT c1]) (fr 6 16) [(6,vB x4)] [] [] (lE h)
 ·obtain rfl:=so h
  exact qr eR
theorem aB6(G:GS)(n:Nat)(p:Prog)(part:Int)(loop:Int){r:Prog×Bool}(h:q7 n p part loop=some r)(hr:r.2=true):VQ G 92 [] [V.agg (bD p),vI part,vI loop] (V.tup [V.agg [ms 0 1 2 aH r.1.arrays,ms 1 1 2 aC r.1.parts],V.eref 1 1 2 (0+Int.toNat part) 0,vB true]) [ar 90 1 2 aH r.1.arrays,E.tree sG 0 1 (List.map aC r.1.parts) []]:=by
 unfold q7 at h
 refine vq aN Tryz.func92 rfl fun w X β0 hC hg=> ?_
 refine rq hC [.z (.b (true)),.z (.nat 20)] [3,6,7,8] [(3,V.tp (bM p)),(6,V.ref 20 0)] [(20,sc [V.t T.nilS,V.t T.nilS])] [(20,true)] (qs (vj h (fun x_=>aX [(1,vI part),(3,V.tp (bM p)),(6,V.ref 20 0),(29,vB x_)] [(20,E.cells [V.t T.nilS,V.t T.nilS])] [20]) (fun j1 h=> ?_) (fun x5 h=> ?_)))
 ·
  obtain⟨x2,hx2,h⟩:=bd h
  refine aR h (fun c1 h=> ?_) (fun c1 h=> ?_)
  ·obtain⟨x3,hx3,h⟩:=bd h
   refine aR h (fun c2 h=> ?_) (fun c2 h=> ?_)
   ·refine aR h (fun c3 h=> ?_) (fun c3 h=> ?_)
    ·exact rk hC ([oV (bF G hx2)]++rF 3 c1++[oV (cC G hx3),oF c1,oF c1]++rF 3 c2++rF 5 c3++[oF c2,oF c3,oF c2]) (fr 10 20) [(29,vB false)] [] [] (lE h)
    ·obtain⟨x4,hx4,h⟩:=bd h
     exact rk hC ([oV (bF G hx2)]++rF 3 c1++[oV (cC G hx3),oF c1,oF c1]++rF 3 c2++rT 4 c3++[oV (oJ G hx4),oT c3,oF c2,oT c3,oF c2]) (fr 10 20) [(29,vB (!x4))] [] [] (lE h)
   ·exact rk hC ([oV (bF G hx2)]++rF 3 c1++[oV (cC G hx3),oF c1,oF c1]++rT 5 c2) (fr 10 20) [(29,vB true)] [] [] (lE h)
  ·exact rk hC ([oV (bF G hx2)]++rT 5 c1++sT 5) (fr 10 20) [(29,vB true)] [] [] (lE h)
 ·refine aS h (fun c4 h=> ?_) (fun c4 h=> ?_)
  ·obtain rfl:=so h
   cases hr
  ·refine qk ?_
   obtain⟨x6,hx6,x7,hx7,h⟩:=dG h
   obtain rfl:=so h
   exact rq hC [oC [] [21,22] (yF G hx6),.z (.nat 23)] [9,31,32] [(9,V.ref 23 0)] [(21,some (ar 90 1 2 aH x6.arrays)),(22,some (E.tree sG 0 1 (List.map aC x6.parts) [])),(23,sc [ms 21 1 2 aH x6.arrays,ms 22 1 2 aC x6.parts])] [(21,true),(22,true),(23,true)] (qw (lk hC [.rn 21 0 [] [23]] [] [] [(23,sc [ms 0 1 2 aH x6.arrays,ms 22 1 2 aC x6.parts]),(21,none),(0,some (ar 90 1 2 aH x6.arrays))] [(0,true)]) (qw (lk hC [.rn 22 1 [] [23]] [] [] [(23,sc [ms 0 1 2 aH x6.arrays,ms 1 1 2 aC x6.parts]),(22,none),(1,some (E.tree sG 0 1 (List.map aC x6.parts) []))] [(1,true)]) (qs (dk hC bL [oQ (mP aC hx7)] [7,8,33,34,35,36,37] [(7,V.eref 1 1 2 (0+Int.toNat part) 0),(8,vB true)] [(20,sc [ms 0 1 2 aH x6.arrays,ms 1 1 2 aC x6.parts])] [] (qr eW)))))
theorem aB7(G:GS)(n:Nat)(p:Prog)(part:Int)(loop:Int){r:Prog×Bool}(h:q7 n p part loop=some r)(hr:r.2=false):PQ G 92 [V.agg (bD p),vI part,vI loop] (V.tup [V.agg [vM aH [],vM aC []],V.t T.nilP,vB false]):=by
 unfold q7 at h
 refine pq aN Tryz.func92 rfl fun w X hC=> ?_
 refine rq hC [.z (.b (true)),.z (.nat 20)] [3,6,7,8] [(3,V.tp (bM p)),(6,V.ref 20 0)] [(20,sc [V.t T.nilS,V.t T.nilS])] [(20,true)] (qs (vj h (fun x_=>aX [(1,vI part),(3,V.tp (bM p)),(6,V.ref 20 0),(29,vB x_)] [(20,E.cells [V.t T.nilS,V.t T.nilS])] [20]) (fun j1 h=> ?_) (fun x5 h=> ?_)))
 ·
  obtain⟨x2,hx2,h⟩:=bd h
  refine aR h (fun c1 h=> ?_) (fun c1 h=> ?_)
  ·obtain⟨x3,hx3,h⟩:=bd h
   refine aR h (fun c2 h=> ?_) (fun c2 h=> ?_)
   ·refine aR h (fun c3 h=> ?_) (fun c3 h=> ?_)
    ·exact rk hC ([oV (bF G hx2)]++rF 3 c1++[oV (cC G hx3),oF c1,oF c1]++rF 3 c2++rF 5 c3++[oF c2,oF c3,oF c2]) (fr 10 20) [(29,vB false)] [] [] (lE h)
    ·obtain⟨x4,hx4,h⟩:=bd h
     exact rk hC ([oV (bF G hx2)]++rF 3 c1++[oV (cC G hx3),oF c1,oF c1]++rF 3 c2++rT 4 c3++[oV (oJ G hx4),oT c3,oF c2,oT c3,oF c2]) (fr 10 20) [(29,vB (!x4))] [] [] (lE h)
   ·exact rk hC ([oV (bF G hx2)]++rF 3 c1++[oV (cC G hx3),oF c1,oF c1]++rT 5 c2) (fr 10 20) [(29,vB true)] [] [] (lE h)
  ·exact rk hC ([oV (bF G hx2)]++rT 5 c1++sT 5) (fr 10 20) [(29,vB true)] [] [] (lE h)
 ·refine aS h (fun c4 h=> ?_) (fun c4 h=> ?_)
  ·obtain rfl:=so h
   exact rq hC [] [7,8,30] [(7,V.t T.nilP),(8,vB false)] [(20,sc [V.t T.nilS,V.t T.nilS])] [] (qr eR)
  ·obtain⟨x6,hx6,x7,hx7,h⟩:=dG h
   obtain rfl:=so h
   cases hr
theorem wK{t}{from_a1}{to_a2}{r}(h:fV n t from_a1 to_a2=some r):PQ G 198 [V.tp [T.sl (List.map aH t.program.arrays),T.sl (List.map aC t.program.parts),T.sl (List.map aP t.list),T.sl (List.map (rL rI) t.reads),T.sl (List.map rI t.writes)],vI from_a1,vI to_a2] (vI r):=by
 unfold fV at h
 refine pq aN Tryz.func198 rfl fun w X hC=> ?_
 refine rq hC [] [6] [] [] [] (rq hC [] [7] [(7,vI 0)] [] [] (vj h (fun x_=>aX [(0,V.tp [T.sl (List.map aH t.program.arrays),T.sl (List.map aC t.program.parts),T.sl (List.map aP t.list),T.sl (List.map (rL rI) t.reads),T.sl (List.map rI t.writes)]),(1,vI from_a1),(2,vI to_a2),(7,vI x_)] [] []) (fun j1 h=> ?_) (fun x5 h=> ?_)))
 ·
  refine qs ?_
  obtain⟨x2,hx2,x3,hx3,x4,hx4,h⟩:=lC h
  refine dk hC bL [oR (rL rI) hx2,oR rI hx3,oV (qL G hx4)] (fr 8 15) [(22,vB x4)] [] [] (aS h (fun c1 h=> ?_) (fun c1 h=> ?_))
  ·exact rk hC [] [7,23,24] [(7,vI (wr (0+1)))] [] [] (lE h)
  ·exact qk (lE h)
 ·refine vj h (fun x_=>aX [(0,V.tp [T.sl (List.map aH t.program.arrays),T.sl (List.map aC t.program.parts),T.sl (List.map aP t.list),T.sl (List.map (rL rI) t.reads),T.sl (List.map rI t.writes)]),(1,vI from_a1),(2,vI to_a2),(7,vI x_)] [] []) (fun j6 h=> ?_) (fun x10 h=> ?_)
  ·
   refine qs ?_
   obtain⟨x7,hx7,x8,hx8,x9,hx9,h⟩:=lC h
   refine dk hC bL [oR (rL rI) hx7,oR rI hx8,oV (qL G hx9)] (fr 25 15) [(39,vB x9)] [] [] (aS h (fun c2 h=> ?_) (fun c2 h=> ?_))
   ·exact rk hC [] [7,40,41] [(7,vI (wr (x5+2)))] [] [] (lE h)
   ·exact qk (lE h)
  ·refine vj h (fun x_=>aX [(7,vI x_)] [] []) (fun j11 h=> ?_) (fun x14 h=> ?_)
   ·
    refine qs ?_
    obtain⟨x12,hx12,x13,hx13,h⟩:=dG h
    refine dk hC bL [oR rI hx12,oR rI hx13] (fr 42 15) [(56,vB (decide (x12=x13)))] [] [] (aS h (fun c3 h=> ?_) (fun c3 h=> ?_))
    ·exact rk hC [] [7,57,58] [(7,vI (wr (x10+4)))] [] [] (lE h)
    ·exact qk (lE h)
   ·obtain rfl:=so h
    exact rq hC [] [6,59] [(6,vI x14)] [] [] (qr eR)
theorem C5{t}{r}(h:jC n t=some r):VQ G 104 [] [V.tp [T.sl (List.map aH t.program.arrays),T.sl (List.map aC t.program.parts),T.sl (List.map aP t.list),T.sl (List.map (rL rI) t.reads),T.sl (List.map rI t.writes)]] (ms 0 1 3 dC r) [ar 136 1 3 dC r]:=by
 unfold jC at h
 refine vq aN Tryz.func104 rfl fun w X β0 hC hg=> ?_
 refine rq hC [] [2] [] [] [] (rq hC [] [3] [(3,V.t T.nilS)] [] [] (qs (rq hC [oN aP t.list] (fr 7 6) [(11,vI (t.list.length:Int)),(12,vI 0)] [] [] (qb (qw (lk hC [.grow 3 20 136] [3] [(3,ms 20 1 3 dC [])] [(20,some (ar 136 1 3 dC []))] [(20,true)]) ?_)))))
 refine bA (γ:=Nat) h (fun x_ g_=>aX [(0,V.tp [T.sl (List.map aH t.program.arrays),T.sl (List.map aC t.program.parts),T.sl (List.map aP t.list),T.sl (List.map (rL rI) t.reads),T.sl (List.map rI t.writes)]),(3,ms 20 g_ 3 dC x_.1),(11,vI (t.list.length:Int)),(12,vI x_.2)] [(20,ar 136 g_ 3 dC x_.1)] [20]) 1 (lS) ?_
 rintro again4 ⟨x1,x2⟩ g3 h
 refine rq hC [] [13] [(13,vB (decide (x2<(t.list.length:Int))))] [] [] (qs (aS h (fun c1 h=> ?_) (fun c1 h=> ?_)))
 ·refine qk (qs (qb (rq hC [] [4,14] [(4,vI x2)] [] [] (rq hC [] [5,15,16] [(5,vI (wr (x2+1)))] [] [] (qb (bA (γ:=Nat) h (fun x_ g_=>aX [(0,V.tp [T.sl (List.map aH t.program.arrays),T.sl (List.map aC t.program.parts),T.sl (List.map aP t.list),T.sl (List.map (rL rI) t.reads),T.sl (List.map rI t.writes)]),(3,ms 20 g_ 3 dC x_.1),(4,vI x2),(5,vI x_.2),(11,vI (t.list.length:Int)),(12,vI x2)] [(20,ar 136 g_ 3 dC x_.1)] [20]) g3 (lS) ?_))))))
  rintro again8 ⟨x5,x6⟩ g7 h
  refine qs (rq hC [oN aP t.list] (fr 17 7) [(23,vB (decide (x6<(t.list.length:Int))))] [] [] (aS h (fun c2 h=> ?_) (fun c2 h=> ?_)))
  ·refine qk ?_
   obtain⟨j9,hj9,h⟩:=C0 h
   refine lF (γ:=Nat) (j:=j9) (r:=r) (fun x_ g_=>aX [(0,V.tp [T.sl (List.map aH t.program.arrays),T.sl (List.map aC t.program.parts),T.sl (List.map aP t.list),T.sl (List.map (rL rI) t.reads),T.sl (List.map rI t.writes)]),(3,ms 20 g_ 3 dC x_),(4,vI x2),(5,vI x6),(11,vI (t.list.length:Int)),(12,vI x2)] [(20,ar 136 g_ 3 dC x_)] [20]) ?_ ?_
   ·
    refine qb ?_
    obtain⟨x10,hx10,h⟩:=bd h
    refine rq hC [oV (wK G hx10)] [6,26,27,28,29] [(6,vI x10)] [] [] (rq hC [] [30,31] [(31,vB (decide ((0:Int)<x10)))] [] [] (aS h (fun c3 h=> ?_) (fun c3 h=> ?_)))
    ·obtain⟨x11,hx11,h⟩:=bd h
     exact rk hC [.z (.int 0),oA (aO dC hx11),oQ (bW (r:=dC) 3 w8 x5),oQ (bW (r:=dC) 3 w8 [(⟨x2,x6,x10⟩:Dep)])] [3,32,33,34,35,36,37,38] [(3,ms 20 (g7+1) 3 dC x11)] [(20,some (ar 136 (g7+1) 3 dC x11))] [] ⟨x11,(g7+1),h,lS⟩
    ·exact qk ⟨x5,g7,h,lS⟩
   ·rintro x12 g13 h
    subst hj9
    exact rk hC [] [5,24,25] [(5,vI (wr (x6+1)))] [] [] ⟨(x12,wr (x6+1)),g13,h,lS⟩
  ·exact cU (rk hC [] [12,39] [(12,vI (wr (x2+1)))] [] [] ⟨(x5,wr (x2+1)),g7,h,lS⟩)
 ·obtain rfl:=so h
  exact cU (rq hC [] [2,40] [(2,ms 20 g3 3 dC x1)] [] [] (qw (lk hC [.ren 2 20 0] [2] [(2,ms 0 1 3 dC x1)] [(0,some (ar 136 1 3 dC x1)),(20,none)] [(0,true)]) (qr eW)))
theorem aBP{a}{b}{r}(h:pL n a b=some r):PQ G 201 [V.agg [vM rI a.reads,vI a.write],V.agg [vM rI b.reads,vI b.write]] (vI r):=by
 unfold pL at h
 refine pq aN Tryz.func201 rfl fun w X hC=> ?_
 refine rq hC [.z (.b (true)),.z (.b (true))] [2,3,4] [(2,V.tp [T.sl (List.map rI a.reads),T.int .i64 a.write]),(3,V.tp [T.sl (List.map rI b.reads),T.int .i64 b.write])] [] [] (rq hC [] [5] [(5,vI 0)] [] [] (vj h (fun x_=>aX [(2,V.tp [T.sl (List.map rI a.reads),T.int .i64 a.write]),(3,V.tp [T.sl (List.map rI b.reads),T.int .i64 b.write]),(5,vI x_)] [] []) (fun j1 h=> ?_) (fun x3 h=> ?_)))
 ·
  obtain⟨x2,hx2,h⟩:=bd h
  refine rq hC [oV (X0 G hx2)] (fr 6 5) [(10,vB x2)] [] [] (aS h (fun c1 h=> ?_) (fun c1 h=> ?_))
  ·exact rk hC [] [5,11,12] [(5,vI (wr (0+1)))] [] [] (lE h)
  ·exact qk (lE h)
 ·refine vj h (fun x_=>aX [(2,V.tp [T.sl (List.map rI a.reads),T.int .i64 a.write]),(3,V.tp [T.sl (List.map rI b.reads),T.int .i64 b.write]),(5,vI x_)] [] []) (fun j4 h=> ?_) (fun x6 h=> ?_)
  ·
   obtain⟨x5,hx5,h⟩:=bd h
   refine rq hC [oV (X0 G hx5)] (fr 13 5) [(17,vB x5)] [] [] (aS h (fun c2 h=> ?_) (fun c2 h=> ?_))
   ·exact rk hC [] [5,18,19] [(5,vI (wr (x3+2)))] [] [] (lE h)
   ·exact qk (lE h)
  ·refine vj h (fun x_=>aX [(5,vI x_)] [] []) (fun j7 h=> ?_) (fun x8 h=> ?_)
   ·
    refine rq hC [] (fr 20 5) [(24,vB (decide (a.write=b.write)))] [] [] (aS h (fun c3 h=> ?_) (fun c3 h=> ?_))
    ·exact rk hC [] [5,25,26] [(5,vI (wr (x6+4)))] [] [] (lE h)
    ·exact qk (lE h)
   ·obtain rfl:=so h
    exact rq hC [] [4,27] [(4,vI x8)] [] [] (qr eR)
theorem aDp{p}{r}(h:sU n p=some r):VQ G 107 [] [V.agg (bD p)] (ms 0 1 3 dC r) [ar 136 1 3 dC r]:=by
 unfold sU at h
 refine vq aN Tryz.func107 rfl fun w X β0 hC hg=> ?_
 refine rq hC [.z (.b (true))] [1,2] [(1,V.tp (bM p))] [] [] (rq hC [.z (.nat 20)] [3,8] [(3,ms 20 1 3 dC [])] [(20,some (ar 136 1 3 dC []))] [(20,true)] ?_)
 obtain⟨x1,hx1,h⟩:=bd h
 refine rq hC [oC [] [21] (aDo G hx1)] [4,9,10] [(4,ms 21 1 2 cX x1)] [(21,some (ar 204 1 2 cX x1))] [(21,true)] (qs (rq hC [] [5] [(5,vI 0)] [] [] (qb (bA (γ:=Nat) h (fun x_ g_=>aX [(3,ms 20 g_ 3 dC x_.1),(4,ms 21 1 2 cX x1),(5,vI x_.2)] [(20,ar 136 g_ 3 dC x_.1),(21,ar 204 1 2 cX x1)] [20,21]) 1 (lS) ?_))))
 rintro again5 ⟨x2,x3⟩ g4 h
 refine qs (rq hC [oN cX x1] (fr 11 4) [(14,vB (decide (x3<(x1.length:Int))))] [] [] (aS h (fun c1 h=> ?_) (fun c1 h=> ?_)))
 ·refine qk (qs (qb (rq hC [] [6,17,18] [(6,vI (wr (x3+1)))] [] [] (qb (bA (γ:=Nat) h (fun x_ g_=>aX [(3,ms 20 g_ 3 dC x_.1),(4,ms 21 1 2 cX x1),(5,vI x3),(6,vI x_.2)] [(20,ar 136 g_ 3 dC x_.1),(21,ar 204 1 2 cX x1)] [20,21]) g4 (lS) ?_)))))
  rintro again9 ⟨x6,x7⟩ g8 h
  refine qs (rq hC [oN cX x1] (fr 19 4) [(22,vB (decide (x7<(x1.length:Int))))] [] [] (aS h (fun c2 h=> ?_) (fun c2 h=> ?_)))
  ·refine qk ?_
   obtain⟨j10,hj10,h⟩:=C0 h
   refine lF (γ:=Nat) (j:=j10) (r:=r) (fun x_ g_=>aX [(3,ms 20 g_ 3 dC x_),(4,ms 21 1 2 cX x1),(5,vI x3),(6,vI x7)] [(20,ar 136 g_ 3 dC x_),(21,ar 204 1 2 cX x1)] [20,21]) ?_ ?_
   ·
    refine qb (qs ?_)
    obtain⟨x11,hx11,x12,hx12,x13,hx13,h⟩:=lC h
    refine dk hC bL [oQ (mP cX hx11),oX cX hx11,oQ (mP cX hx12),oX cX hx12,oV (aBP G hx13)] [7,25,26,27,28,29,30,31,32,33] [(7,vI x13)] [] [] (rq hC [] [34,35] [(35,vB (!decide (x13=0)))] [] [] (aS h (fun c3 h=> ?_) (fun c3 h=> ?_)))
    ·obtain⟨x14,hx14,h⟩:=bd h
     exact rk hC [.z (.int 0),oA (aO dC hx14),oQ (bW (r:=dC) 3 w8 x6),oQ (bW (r:=dC) 3 w8 [(⟨x3,x7,x13⟩:Dep)])] [3,36,37,38,39,40,41,42] [(3,ms 20 (g8+1) 3 dC x14)] [(20,some (ar 136 (g8+1) 3 dC x14))] [] ⟨x14,(g8+1),h,lS⟩
    ·exact qk ⟨x6,g8,h,lS⟩
   ·rintro x15 g16 h
    subst hj10
    exact rk hC [] [6,23,24] [(6,vI (wr (x7+1)))] [] [] ⟨(x15,wr (x7+1)),g16,h,lS⟩
  ·exact cU (rk hC [] [5,15,16] [(5,vI (wr (x3+1)))] [] [] ⟨(x6,wr (x3+1)),g8,h,lS⟩)
 ·obtain rfl:=so h
  exact cU (rq hC [] [2,43] [(2,ms 20 g4 3 dC x2)] [] [] (qw (lk hC [.ren 2 20 0] [2] [(2,ms 0 1 3 dC x2)] [(0,some (ar 136 1 3 dC x2)),(20,none)] [(0,true)]) (qr eW)))
theorem P3{s}{r}(h:m4 n s=some r):VQ G 110 [] [vM aI s] (ms 0 1 9 aI r) [ar 84 1 9 aI r]:=by
 unfold m4 at h
 refine vq aN Tryz.func110 rfl fun w X β0 hC hg=> ?_
 refine rq hC [] [2] [] [] [] (qs (qs (aR h (fun c1 h=> ?_) (fun c1 h=> ?_))))
 ·refine rk hC [.z (.b false),oQ (neE aI c1)] [3,4] [(4,vB false)] [] [] (wS (b:=false) (by kernel_rfl) (fun hb=>absurd (hb.symm.trans (Eq.refl false)) (by decide)) (fun _=>(qk ?_)))
  obtain⟨x1,hx1,h⟩:=bd h
  obtain rfl:=so h
  exact rq hC [.z (.nat 20),oA (aO aI hx1),oQ (bW (r:=aI) 9 cJ []),oQ (bW (r:=aI) 9 cJ s)] [2,5,6,7] [(2,ms 20 2 9 aI x1)] [(20,some (ar 84 2 9 aI x1))] [(20,true)] (qw (lk hC [.ren 2 20 0] [2] [(2,ms 0 1 9 aI x1)] [(0,some (ar 84 1 9 aI x1)),(20,none)] [(0,true)]) (qr eW))
 ·exact nof h
theorem wM{p}{part}{stmts}{r}(h:fX n p part stmts=some r):PQ G 35 [V.agg (bD p),vI part,vI stmts] (V.tup [V.agg (bD r.1),vB r.2]):=by
 unfold fX at h
 refine pq aN Tryz.func35 rfl fun w X hC=> ?_
 refine rq hC [.z (.b (true)),.z (.nat 20)] [3,6,7] [(3,V.tp (bM p)),(6,V.ref 20 0)] [(20,sc [V.t T.nilS,V.t T.nilS])] [(20,true)] (qs ?_)
 obtain⟨x1,hx1,h⟩:=bd h
 refine D0 x1.2 (fun c1=> ?_) (fun c1=> ?_)
 ·have h:=bf c1 h
  refine rk hC [oV (aB7 G n p part (-1) hx1 c1),.z (.nat 21)] [8,9,10,18,19,20,21,22,23,24] [(8,V.ref 21 0),(9,V.t T.nilP),(10,vB false)] [(21,sc [vM aH [],vM aC []])] [(21,true)] (qs (rq hC (sT 10) (fr 25 13) [(37,vB true)] [] [] (wS (b:=true) (by kernel_rfl) (fun c2=> ?_) (fun c2=>by cases c2))))
  obtain rfl:=so h
  exact rq hC [] [7,38] [(7,vB false)] [(20,sc [V.t T.nilS,V.t T.nilS])] [] (qr eR)
 have h:=bt c1 h
 obtain⟨x18,hx18,h⟩:=bd h
 refine rk hC [oC [] [21,22] (aB6 G n p part (-1) hx1 c1),.z (.nat 23)] [8,9,10,18,19,20,21,22,23,24] [(8,V.ref 23 0),(9,V.eref 22 1 2 (0+Int.toNat part) 0),(10,vB true)] [(21,some (ar 90 1 2 aH x1.1.arrays)),(22,some (E.tree sG 0 1 (List.map aC x1.1.parts) [])),(23,sc [ms 21 1 2 aH x1.1.arrays,ms 22 1 2 aC x1.1.parts])] [(21,true),(22,true),(23,true)] (qw (lk hC [.shd 22] [] [] [(22,some (ar 46 1 2 aC x1.1.parts))] []) (qs (vj h (fun x_=>aX [(1,vI part),(2,vI stmts),(3,V.tp (bM p)),(6,V.ref 20 0),(8,V.ref 23 0),(9,V.eref 22 1 2 (0+Int.toNat part) 0),(37,vB x_)] [(20,E.cells [V.t T.nilS,V.t T.nilS]),(21,ar 90 1 2 aH x1.1.arrays),(22,ar 46 1 2 aC x1.1.parts),(23,E.cells [ms 21 1 2 aH x1.1.arrays,ms 22 1 2 aC x1.1.parts])] [20,21,22,23]) (fun j2 h=> ?_) (fun x4 h=> ?_))))
 ·
  obtain⟨x3,hx3,h⟩:=bd h
  exact rk hC (sF 5++[oX aC hx18,eF,oN aI x18.body,eF,eF,oV (bJ G hx3),eF,eF]) (fr 25 13) [(37,vB (!x3))] [] [] (lE h)
 ·refine aS h (fun c2 h=> ?_) (fun c2 h=> ?_)
  ·obtain rfl:=so h
   exact rq hC [] [7,38] [(7,vB false)] [(20,sc [V.t T.nilS,V.t T.nilS])] [] (qr eR)
  ·refine qk (qs ?_)
   obtain⟨x5,hx5,h⟩:=bd h
   refine aR h (fun c3 h=> ?_) (fun c3 h=> ?_)
   ·exact rk hC [.z (.v (V.tup [V.t T.nilP,vB x5.2])),oQ (vPn c3 (X2 G hx5))] [11,12,39,40,41,42,43] [(11,V.t T.nilP)] [] [] (qs (qs (nof h)))
   ·refine rk hC [.z (.v (V.tup [V.tp [T.sl (List.map aH (((x5.1.getD default).program).arrays)),T.sl (List.map aC (((x5.1.getD default).program).parts)),T.sl (List.map aP ((x5.1.getD default).list)),T.sl (List.map (rL rI) ((x5.1.getD default).reads)),T.sl (List.map rI ((x5.1.getD default).writes))],vB x5.2])),oQ (vPs c3 (X2 G hx5))] [11,12,39,40,41,42,43] [(11,V.tp [T.sl (List.map aH (((x5.1.getD default).program).arrays)),T.sl (List.map aC (((x5.1.getD default).program).parts)),T.sl (List.map aP ((x5.1.getD default).list)),T.sl (List.map (rL rI) ((x5.1.getD default).reads)),T.sl (List.map rI ((x5.1.getD default).writes))])] [] [] (qs ?_)
    obtain⟨x6,hx6,h⟩:=bd h
    refine rq hC [oC [] [24] (C5 G hx6),oN dC x6] (fr 44 4) [(45,ms 24 1 3 dC x6),(46,vI (x6.length:Int)),(47,vI 0)] [(24,some (ar 136 1 3 dC x6))] [(24,true)] (qb (jZ h (fun x_=>aX [(1,vI part),(2,vI stmts),(6,V.ref 20 0),(8,V.ref 23 0),(9,V.eref 22 1 2 (0+Int.toNat part) 0),(11,V.tp [T.sl (List.map aH (((x5.1.getD default).program).arrays)),T.sl (List.map aC (((x5.1.getD default).program).parts)),T.sl (List.map aP ((x5.1.getD default).list)),T.sl (List.map (rL rI) ((x5.1.getD default).reads)),T.sl (List.map rI ((x5.1.getD default).writes))]),(45,ms 24 1 3 dC x6),(46,vI (x6.length:Int)),(47,vI x_)] [(20,E.cells [V.t T.nilS,V.t T.nilS]),(21,ar 90 1 2 aH x1.1.arrays),(22,ar 46 1 2 aC x1.1.parts),(23,E.cells [ms 21 1 2 aH x1.1.arrays,ms 22 1 2 aC x1.1.parts]),(24,ar 136 1 3 dC x6)] [20,21,22,23,24]) lS ?_))
    rintro again8 x7 h
    refine rq hC [] [48] [(48,vB (decide (x7<(x6.length:Int))))] [] [] (qs (aS h (fun c4 h=> ?_) (fun c4 h=> ?_)))
    ·refine qk (qs (qb ?_))
     obtain⟨x9,hx9,h⟩:=bd h
     refine rq hC [oQ (mP dC hx9),oX dC hx9,.z (.nat 25)] [14,49,50] [(14,V.ref 25 0)] [(25,sc [vI x9.fromF,vI x9.toF,vI x9.kinds])] [(25,true)] (qs ?_)
     obtain⟨x10,hx10,x11,hx11,h⟩:=dG h
     refine dk hC bL [oR aP hx10,oR aP hx11,.z (.nat 26),.z (.nat 27)] [15,16,51,52,53,54,55,56,57,58,59,60,61,62,63,64,65,66] [(15,V.ref 26 0),(16,V.ref 27 0)] [(26,some (E.cells (qO x10))),(27,some (E.cells (qO x11)))] [(26,true),(27,true)] (vj h (fun x_=>aX [(1,vI part),(2,vI stmts),(6,V.ref 20 0),(8,V.ref 23 0),(9,V.eref 22 1 2 (0+Int.toNat part) 0),(11,V.tp [T.sl (List.map aH (((x5.1.getD default).program).arrays)),T.sl (List.map aC (((x5.1.getD default).program).parts)),T.sl (List.map aP ((x5.1.getD default).list)),T.sl (List.map (rL rI) ((x5.1.getD default).reads)),T.sl (List.map rI ((x5.1.getD default).writes))]),(45,ms 24 1 3 dC x6),(46,vI (x6.length:Int)),(47,vI x7),(88,vB x_)] [(20,E.cells [V.t T.nilS,V.t T.nilS]),(21,ar 90 1 2 aH x1.1.arrays),(22,ar 46 1 2 aC x1.1.parts),(23,E.cells [ms 21 1 2 aH x1.1.arrays,ms 22 1 2 aC x1.1.parts]),(24,ar 136 1 3 dC x6),(25,E.cells [vI x9.fromF,vI x9.toF,vI x9.kinds]),(26,E.cells (qO x10)),(27,E.cells (qO x11))] [20,21,22,23,24,25,26,27]) (fun j12 h=> ?_) (fun x13 h=> ?_))
     ·
      refine aR h (fun c5 h=> ?_) (fun c5 h=> ?_)
      ·exact rk hC (rF 5 c5++sF 10) (fr 67 22) [(88,vB false)] [] [] (lE h)
      ·refine aR h (fun c6 h=> ?_) (fun c6 h=> ?_)
       ·exact rk hC (rT 5 c5++rF 5 c6++sF 5) (fr 67 22) [(88,vB false)] [] [] (lE h)
       ·refine aR h (fun c7 h=> ?_) (fun c7 h=> ?_)
        ·exact rk hC (rT 5 c5++rT 5 c6++rF 5 c7) (fr 67 22) [(88,vB false)] [] [] (lE h)
        ·exact rk hC (rT 5 c5++rT 5 c6++rT 5 c7) (fr 67 22) [(88,vB (decide (stmts≤x10.stmt)))] [] [] (lE h)
     ·refine aS h (fun c8 h=> ?_) (fun c8 h=> ?_)
      ·obtain rfl:=so h
       exact rq hC [] [7,89] [(7,vB false)] [(20,sc [V.t T.nilS,V.t T.nilS])] [] (qr eR)
      ·exact qk (rk hC [] [47,90] [(47,vI (wr (x7+1)))] [] [] (lE h))
    ·refine cU (qs ?_)
     obtain⟨x14,hx14,x15,hx15,x16,hx16,h⟩:=lC h
     refine dk hC bL [oX aC hx18,oC [] [25] (B1 G hx14),oX aC hx18,oA (G5 aI hx15),oQ (bW (r:=aI) 9 cJ x18.body),oC [] [26] (P3 G hx16),.z (.nat 27)] [17,91,92,93,94,95,96,97,98,99,100,101,102,103] [(17,V.ref 27 0)] [(25,some (ar 123 1 2 aD x14)),(26,some (ar 84 1 9 aI x16)),(27,sc [ms 25 1 2 aD x14,ms 26 1 9 aI x16])] [(25,true),(26,true),(27,true)] (qw (lk hC [.fz 25 [] [27],.fz 26 [] [27]] [] [] [(25,none),(26,none),(27,sc [vM aD x14,vM aI x16])] []) ?_)
     obtain⟨x17,hx17,x19,hx19,h⟩:=dG h
     refine rq hC [oX aC hx18,oA (tZ aI hx17),oQ (bW (r:=aI) 9 cJ x18.body),oX aC hx18,.z (.rows (List.map aC x19)),.z (.lenc 23 1 (List.map aC x19).length),oQ (str aC hx19),oQ (uO aC hx19)] (fr 104 9) [] [(22,some (ar 46 1 2 aC x19)),(23,sc [ms 21 1 2 aH x1.1.arrays,ms 22 1 2 aC x19])] [] ?_
     obtain⟨x20,hx20,x21,hx21,h⟩:=dG h
     obtain rfl:=so h
     exact rq hC [.z (.int 1),.z (.nat 28),oC [22,28] [] (C4 G n x19 (wr (part+1)) [(⟨x14,x16⟩:Part)] 1 1 hx20)] (fr 113 8) [] [(28,some (ar 46 1 2 aC [(⟨x14,x16⟩:Part)])),(22,some (ar 46 (1+1) 2 aC x20)),(23,sc [ms 21 1 2 aH x1.1.arrays,ms 22 (1+1) 2 aC x20])] [(28,true),(22,true),(28,true)] (qw (lk hC [.fz 21 [] [23],.fz 22 [] [23]] [] [] [(21,none),(22,none),(23,sc [vM aH x1.1.arrays,vM aC x20])] []) (rq hC [oV (aAD G hx21)] [7,121,122,123,124] [(7,vB x21.2)] [(20,some (E.cells (bD x21.1)))] [] (qr eR)))
theorem wF{p}{part}{stmts}{r}(h:fS n p part stmts=some r):PQ G 36 [V.agg (bD p),vI part,vI stmts] (V.tup [V.agg (bD r.1),vB r.2]):=by
 unfold fS at h
 refine pq aN Tryz.func36 rfl fun w X hC=> ?_
 refine rq hC [.z (.nat 20),.z (.nat 21)] [3,6,7] [(3,V.ref 20 0),(6,V.ref 21 0)] [(20,some (E.cells (bD p))),(21,sc [V.t T.nilS,V.t T.nilS])] [(20,true),(21,true)] ?_
 obtain⟨x1,hx1,h⟩:=bd h
 refine rq hC [oV (yA G hx1)] [14,15] [] [(20,some (E.cells (bD x1)))] [] (qs (vj h (fun x_=>aX [(1,vI part),(2,vI stmts),(3,V.ref 20 0),(6,V.ref 21 0),(44,vB x_)] [(20,E.cells (bD x1)),(21,E.cells [V.t T.nilS,V.t T.nilS])] [20,21]) (fun j2 h=> ?_) (fun x5 h=> ?_)))
 ·
  obtain⟨x3,hx3,h⟩:=bd h
  refine aR h (fun c1 h=> ?_) (fun c1 h=> ?_)
  ·refine aR h (fun c2 h=> ?_) (fun c2 h=> ?_)
   ·refine aR h (fun c3 h=> ?_) (fun c3 h=> ?_)
    ·refine aR h (fun c4 h=> ?_) (fun c4 h=> ?_)
     ·obtain⟨x4,hx4,h⟩:=bd h
      exact rk hC ([oV (cS G hx3)]++rF 3 c1++rF 4 c2++[oN aC x1.parts,oF c2,oF c2]++rF 3 c3++rF 5 c4++[oR aC hx4]++rF 3 c4++[oN aI x4.body,oF c4,oF c4]) (fr 16 29) [(44,vB (decide ((x4.body.length:Int)≤stmts)))] [] [] (lE h)
     ·exact rk hC ([oV (cS G hx3)]++rF 3 c1++rF 4 c2++[oN aC x1.parts,oF c2,oF c2]++rF 3 c3++rT 10 c4) (fr 16 29) [(44,vB true)] [] [] (lE h)
    ·exact rk hC ([oV (cS G hx3)]++rF 3 c1++rF 4 c2++[oN aC x1.parts,oF c2,oF c2]++rT 3 c3++sT 10) (fr 16 29) [(44,vB true)] [] [] (lE h)
   ·exact rk hC ([oV (cS G hx3)]++rF 3 c1++rT 6 c2++sT 13) (fr 16 29) [(44,vB true)] [] [] (lE h)
  ·exact rk hC ([oV (cS G hx3)]++rT 3 c1++sT 19) (fr 16 29) [(44,vB true)] [] [] (lE h)
 ·refine aS h (fun c5 h=> ?_) (fun c5 h=> ?_)
  ·obtain rfl:=so h
   exact rq hC [] [7,45] [(7,vB false)] [(21,sc [V.t T.nilS,V.t T.nilS])] [] (qr eR)
  ·refine qk ?_
   obtain⟨x6,hx6,h⟩:=bd h
   refine rq hC [oC [] [22] (rX G hx6)] [8,46,47] [(8,ms 22 1 3 aP x6)] [(22,some (ar 112 1 3 aP x6))] [(22,true)] ?_
   obtain⟨x7,hx7,h⟩:=bd h
   refine rq hC [oC [] [23] (aDp G hx7)] [9,48,49] [(9,ms 23 1 3 dC x7)] [(23,some (ar 136 1 3 dC x7))] [(23,true)] (qs (rq hC [] [10] [(10,vI 0)] [] [] (qb (jZ h (fun x_=>aX [(1,vI part),(2,vI stmts),(3,V.ref 20 0),(6,V.ref 21 0),(8,ms 22 1 3 aP x6),(9,ms 23 1 3 dC x7),(10,vI x_)] [(20,E.cells (bD x1)),(21,E.cells [V.t T.nilS,V.t T.nilS]),(22,ar 112 1 3 aP x6),(23,ar 136 1 3 dC x7)] [20,21,22,23]) lS ?_))))
   rintro again9 x8 h
   refine qs (rq hC [oN dC x7] (fr 50 4) [(53,vB (decide (x8<(x7.length:Int))))] [] [] (aS h (fun c6 h=> ?_) (fun c6 h=> ?_)))
   ·refine qk (qs (qb ?_))
    obtain⟨x10,hx10,x11,hx11,h⟩:=dG h
    refine rq hC [oQ (mP dC hx10),oX dC hx10,oQ (mP aP hx11),oX aP hx11,.z (.nat 24)] [11,56,57,58,59,60,61,62,63] [(11,V.ref 24 0)] [(24,some (E.cells (qO x11)))] [(24,true)] ?_
    obtain⟨x12,hx12,h⟩:=bd h
    refine rq hC [oQ (mP dC hx10),oX dC hx10,oQ (mP aP hx12),oX aP hx12,.z (.nat 25)] [12,64,65,66,67,68,69,70,71] [(12,V.ref 25 0)] [(25,some (E.cells (qO x12)))] [(25,true)] (vj h (fun x_=>aX [(1,vI part),(2,vI stmts),(3,V.ref 20 0),(6,V.ref 21 0),(8,ms 22 1 3 aP x6),(9,ms 23 1 3 dC x7),(10,vI x8),(93,vB x_)] [(20,E.cells (bD x1)),(21,E.cells [V.t T.nilS,V.t T.nilS]),(22,ar 112 1 3 aP x6),(23,ar 136 1 3 dC x7),(24,E.cells (qO x11)),(25,E.cells (qO x12))] [20,21,22,23,24,25]) (fun j13 h=> ?_) (fun x14 h=> ?_))
    ·
     refine aR h (fun c7 h=> ?_) (fun c7 h=> ?_)
     ·exact rk hC (rF 5 c7++sF 10) (fr 72 22) [(93,vB false)] [] [] (lE h)
     ·refine aR h (fun c8 h=> ?_) (fun c8 h=> ?_)
      ·exact rk hC (rT 5 c7++rF 5 c8++sF 5) (fr 72 22) [(93,vB false)] [] [] (lE h)
      ·refine aR h (fun c9 h=> ?_) (fun c9 h=> ?_)
       ·exact rk hC (rT 5 c7++rT 5 c8++rF 5 c9) (fr 72 22) [(93,vB false)] [] [] (lE h)
       ·exact rk hC (rT 5 c7++rT 5 c8++rT 5 c9) (fr 72 22) [(93,vB (decide (x12.stmt<stmts)))] [] [] (lE h)
    ·refine aS h (fun c10 h=> ?_) (fun c10 h=> ?_)
     ·obtain rfl:=so h
      exact rq hC [] [7,94] [(7,vB false)] [(21,sc [V.t T.nilS,V.t T.nilS])] [] (qr eR)
     ·exact qk (rk hC [] [10,54,55] [(10,vI (wr (x8+1)))] [] [] (lE h))
   ·refine cU ?_
    obtain⟨x15,hx15,h⟩:=bd h
    refine rq hC [oR aC hx15,.z (.nat 24)] [13,95,96,97,98,99] [(13,V.ref 24 0)] [(24,some (E.cells (mL x15)))] [(24,true)] (qs ?_)
    obtain⟨x16,hx16,x17,hx17,x18,hx18,h⟩:=lC h
    obtain rfl:=so h
    exact dk hC bL [oA (tZ aI hx16),oQ (bW (r:=aI) 9 cJ x15.body),oA (G5 aI hx17),.z (.int 0),oQ (bW (r:=aI) 9 cJ x15.body),oV (aDl G hx18)] [7,100,101,102,103,104,105,106,107,108,109,110,111,112,113,114,115,116,117,118,119] [(7,vB x18.2)] [(21,some (E.cells (bD x18.1)))] [] (qr eR)
theorem tO(G:GS)(n:Nat)(code:List UInt8)(more:List UInt8){r:Bool}(h:fZ n code more=some r):PQ G 8 [vM rY code,vM rY more] (vB r):=by
 unfold fZ at h
 refine pq aN Tryz.func8 rfl fun w X hC=> ?_
 refine rq hC [] [4] [] [] [] (qs (vj h (fun x_=>aX [(0,vM rY code),(1,vM rY more),(19,vB x_)] [] []) (fun j1 h=> ?_) (fun x2 h=> ?_)))
 ·
  refine aR h (fun c1 h=> ?_) (fun c1 h=> ?_)
  ·exact rk hC [oN rY code,oF c1,oF c1,oN rY more,oF c1,oF c1] (fr 12 8) [(19,vB (decide ((1048576:Int)<(more.length:Int))))] [] [] (lE h)
  ·exact rk hC ([oN rY code]++rT 4 c1) (fr 12 8) [(19,vB true)] [] [] (lE h)
 ·refine aS h (fun c2 h=> ?_) (fun c2 h=> ?_)
  ·obtain rfl:=so h
   exact rq hC [] [4] [(4,vB true)] [] [] (qr eR)
  ·refine qk ?_
   obtain⟨x3,hx3,h⟩:=bd h
   refine rq hC [oV (rK G hx3),.z (.nat 20)] [5,6,7,20,21,22,23,24,25] [(5,V.ref 20 0),(6,vI x3.2.1),(7,vI x3.2.2)] [(20,some (E.cells (bD x3.1)))] [(20,true)] ?_
   obtain⟨x4,hx4,h⟩:=bd h
   refine rq hC [oV (wM G hx4),.z (.nat 21)] [8,9,26,27,28,29,30,31,32] [(8,V.ref 21 0),(9,vB x4.2)] [(21,some (E.cells (bD x4.1)))] [(21,true)] ?_
   obtain⟨x5,hx5,h⟩:=bd h
   refine rq hC [oV (wF G hx5),.z (.nat 22)] [10,11,33,34,35,36,37,38,39] [(10,V.ref 22 0),(11,vB x5.2)] [(22,some (E.cells (bD x5.1)))] [(22,true)] (qs (vj h (fun x_=>aX [(1,vM rY more),(5,V.ref 20 0),(8,V.ref 21 0),(9,vB x4.2),(10,V.ref 22 0),(11,vB x5.2),(52,vB x_)] [(20,E.cells (bD x3.1)),(21,E.cells (bD x4.1)),(22,E.cells (bD x5.1))] [20,21,22]) (fun j6 h=> ?_) (fun x8 h=> ?_)))
   ·
    refine aR h (fun c3 h=> ?_) (fun c3 h=> ?_)
    ·obtain⟨x7,hx7,h⟩:=bd h
     refine aR h (fun c4 h=> ?_) (fun c4 h=> ?_)
     ·exact rk hC (rF 3 c3++[oV (mR G hx7),oF c3,oF c3]++rF 3 c4) (fr 40 13) [(52,vB (!x4.2))] [] [] (lE h)
     ·exact rk hC (rF 3 c3++[oV (mR G hx7),oF c3,oF c3]++rT 3 c4) (fr 40 13) [(52,vB true)] [] [] (lE h)
    ·exact rk hC (rT 5 c3++[eT,eT,eT]) (fr 40 13) [(52,vB true)] [] [] (lE h)
   ·refine aS h (fun c5 h=> ?_) (fun c5 h=> ?_)
    ·refine vj h (fun x_=>aX [(4,vB x_)] [(20,E.cells (bD x3.1)),(21,E.cells (bD x4.1)),(22,E.cells (bD x5.1))] [20,21,22]) (fun j9 h=> ?_) (fun x11 h=> ?_)
     ·
      refine aR h (fun c6 h=> ?_) (fun c6 h=> ?_)
      ·exact rk hC (rF 4 c6) [4,53,54,55,56,57,58,59,60] [(4,vB false)] [] [] (lE h)
      ·obtain⟨x10,hx10,h⟩:=bd h
       exact rk hC (rT 3 c6++[oV (mR G hx10),oT c6]) [4,53,54,55,56,57,58,59,60] [(4,vB x10)] [] [] (lE h)
     ·obtain rfl:=so h
      exact qr eR
    ·refine qk (vj h (fun x_=>aX [(4,vB x_)] [(20,E.cells (bD x3.1)),(21,E.cells (bD x4.1)),(22,E.cells (bD x5.1))] [20,21,22]) (fun j12 h=> ?_) (fun x15 h=> ?_))
     ·
      obtain⟨x13,hx13,h⟩:=bd h
      refine aR h (fun c7 h=> ?_) (fun c7 h=> ?_)
      ·exact rk hC ([oV (bF G hx13)]++rF 6 c7) [4,61,62,63,64,65,66,67,68,69] [(4,vB false)] [] [] (lE h)
      ·obtain⟨x14,hx14,h⟩:=bd h
       exact rk hC ([oV (bF G hx13)]++rT 4 c7++[oN rY more,oT c7,oV (aBO G hx14),oT c7]) [4,61,62,63,64,65,66,67,68,69] [(4,vB x14)] [] [] (lE h)
     ·obtain rfl:=so h
      exact qr eR
end Go.Lift
