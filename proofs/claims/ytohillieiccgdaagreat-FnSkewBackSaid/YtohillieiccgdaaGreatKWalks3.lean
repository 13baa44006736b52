/- The walks: the code computes what the plain functions say. -/
import Derived.Test.YtohillieiccgdaaGreatKModels
import Derived.Test.YtohillieiccgdaaGreatKWalks2
set_option maxRecDepth 10000
set_option linter.unusedVariables false
namespace Go.Lift
open Go Go.Proofs
variable (G:GS) {n:Nat}
theorem uL{list}{r}(h:eY n list=some r):VQ G 203 [] [vM aD list] (ms 0 1 2 aD r) [ar 128 1 2 aD r]:=by
 unfold eY at h
 refine vq aN Tryz.func203 rfl fun w X β0 hC hg=> ?_
 refine rq hC [] [2] [] [] [] (rq hC [.z (.nat 20)] [3,6] [(3,ms 20 1 2 aD [])] [(20,some (ar 128 1 2 aD []))] [(20,true)] (qs (rq hC [oN aD list] [7,8,9] [(7,vM aD list),(8,vI (list.length:Int)),(9,vI 0)] [] [] (qb (bC (γ:=Nat) h (fun x_ g_=>bA [(3,ms 20 g_ 2 aD x_.1),(7,vM aD list),(8,vI (list.length:Int)),(9,vI x_.2)] [(20,ar 128 g_ 2 aD x_.1)] [20]) 1 (lS) ?_)))))
 rintro again4 ⟨x1,x2⟩ g3 h
 refine rq hC [] [10] [(10,vB (decide (x2<(list.length:Int))))] [] [] (qs (aT h (fun c1 h=> ?_) (fun c1 h=> ?_)))
 ·refine qk (qs (qb ?_))
  obtain⟨x5,hx5,h⟩:=bd h
  refine rq hC [oR aD hx5,.z (.nat 21)] [5,11,12] [(5,V.ref 21 0)] [(21,some (E.cells (kH x5)))] [(21,true)] ?_
  obtain⟨x6,hx6,x7,hx7,h⟩:=cT h
  exact rk hC [oV (H6 G hx6),.z (.int 0),oA (aO aD hx7),oQ (bO (r:=aD) 2 bU x1),oQ (bO (r:=aD) 2 bU [x6])] [3,13,14,15,16,17] [(3,ms 20 (g3+1) 2 aD x7)] [(20,some (ar 128 (g3+1) 2 aD x7))] [] (rk hC [] [9,18] [(9,vI (wr (x2+1)))] [] [] ⟨(x7,wr (x2+1)),(g3+1),h,lS⟩)
 ·obtain rfl:=so h
  exact cQ (rq hC [] [2,19] [(2,ms 20 g3 2 aD x1)] [] [] (qw (lk hC [.ren 2 20 0] [2] [(2,ms 0 1 2 aD x1)] [(0,some (ar 128 1 2 aD x1)),(20,none)] [(0,true)]) (qr eW)))
theorem wC{x}{r}(h:fT n x=some r):PQ G 114 [V.agg (bL x)] (V.agg (bL r)):=by
 unfold fT at h
 refine pq aN Tryz.func114 rfl fun w X hC=> ?_
 refine rq hC [.z (.nat 20),.z (.nat 21)] [1,2] [(1,V.ref 20 0),(2,V.ref 21 0)] [(20,some (E.cells (bL x))),(21,sc [V.t T.nilS,V.t T.nilS])] [(20,true),(21,true)] ?_
 obtain⟨x1,hx1,h⟩:=bd h
 refine rq hC [oC [] [22] (tE G hx1)] (fr 3 4) [] [(22,some (ar 134 1 2 aJ x1)),(20,sc [ms 22 1 2 aJ x1,vM aD x.parts])] [(22,true)] ?_
 obtain⟨x2,hx2,h⟩:=bd h
 obtain rfl:=so h
 exact rq hC [oC [] [23] (uL G hx2)] (fr 7 4) [] [(23,some (ar 128 1 2 aD x2)),(20,sc [ms 22 1 2 aJ x1,ms 23 1 2 aD x2])] [(23,true)] (rq hC [.z (.at 2),.z (.fz 22 [] [20]),.z (.at 2),.z (.fz 23 [] [20])] [11] [] [(20,sc [vM aJ x1,vM aD x2]),(22,none),(23,none),(21,sc [vM aJ x1,vM aD x2])] [] (qr eR))
theorem mA(G:GS)(n:Nat)(s1:List Arr)(s2:List Arr)(eqF:FuncId)(eq:Arr→Arr→Option Bool)(heq: ∀(q0:Arr) (q1:Arr) r,eq q0 q1=some r→PQ G eqF [V.agg [vS q0.name,vM rI q0.dims],V.agg [vS q1.name,vM rI q1.dims]] (vB r)){r:Bool}(h:gD n s1 s2 eq=some r):PQ G 123 [vM aJ s1,vM aJ s2,V.fn eqF []] (vB r):=by
 unfold gD at h
 refine pq aN Tryz.func123 rfl fun w X hC=> ?_
 refine rq hC [] [6] [] [] [] (qs (rq hC [oN aJ s1,oN aJ s2] (fr 10 5) [(14,vB (!decide ((s1.length:Int)=(s2.length:Int))))] [] [] (aT h (fun c1 h=> ?_) (fun c1 h=> ?_))))
 ·obtain rfl:=so h
  exact rq hC [] [6] [(6,vB false)] [] [] (qr eR)
 ·refine qk (qs (rq hC [oN aJ s1] [15,16,17] [(15,vM aJ s1),(16,vI (s1.length:Int)),(17,vI 0)] [] [] (qb (jI h (fun x_=>bA [(1,vM aJ s2),(2,V.fn eqF []),(15,vM aJ s1),(16,vI (s1.length:Int)),(17,vI x_)] [] []) lS ?_))))
  rintro again2 x1 h
  refine rq hC [] [18] [(18,vB (decide (x1<(s1.length:Int))))] [] [] (qs (aT h (fun c2 h=> ?_) (fun c2 h=> ?_)))
  ·refine qk (qs (qb ?_))
   obtain⟨x3,hx3,h⟩:=bd h
   refine rq hC [oR aJ hx3,.z (.nat 20)] [7,8,19,20,21] [(7,vI x1),(8,V.ref 20 0)] [(20,sc [vS x3.name,vM rI x3.dims])] [(20,true)] ?_
   obtain⟨x4,hx4,h⟩:=bd h
   refine rq hC [oR aJ hx4,.z (.nat 21)] [9,22,23,24,25] [(9,V.ref 21 0)] [(21,sc [vS x4.name,vM rI x4.dims])] [(21,true)] ?_
   obtain⟨x5,hx5,h⟩:=bd h
   refine rq hC [oV (heq x3 x4 _ hx5)] (fr 26 5) [(30,vB (!x5))] [] [] (aT h (fun c3 h=> ?_) (fun c3 h=> ?_))
   ·obtain rfl:=so h
    exact rq hC [] [6] [(6,vB false)] [] [] (qr eR)
   ·exact qk (rk hC [] [17,31] [(17,vI (wr (x1+1)))] [] [] (lE h))
  ·obtain rfl:=so h
   exact cQ (rq hC [] [6] [(6,vB true)] [] [] (qr eR))
theorem uQ(G:GS)(n:Nat)(s1:List Part)(s2:List Part)(eqF:FuncId)(eq:Part→Part→Option Bool)(heq: ∀(q0:Part) (q1:Part) r,eq q0 q1=some r→PQ G eqF [V.agg (kH q0),V.agg (kH q1)] (vB r)){r:Bool}(h:gZ n s1 s2 eq=some r):PQ G 124 [vM aD s1,vM aD s2,V.fn eqF []] (vB r):=by
 unfold gZ at h
 refine pq aN Tryz.func124 rfl fun w X hC=> ?_
 refine rq hC [] [6] [] [] [] (qs (rq hC [oN aD s1,oN aD s2] (fr 10 5) [(14,vB (!decide ((s1.length:Int)=(s2.length:Int))))] [] [] (aT h (fun c1 h=> ?_) (fun c1 h=> ?_))))
 ·obtain rfl:=so h
  exact rq hC [] [6] [(6,vB false)] [] [] (qr eR)
 ·refine qk (qs (rq hC [oN aD s1] [15,16,17] [(15,vM aD s1),(16,vI (s1.length:Int)),(17,vI 0)] [] [] (qb (jI h (fun x_=>bA [(1,vM aD s2),(2,V.fn eqF []),(15,vM aD s1),(16,vI (s1.length:Int)),(17,vI x_)] [] []) lS ?_))))
  rintro again2 x1 h
  refine rq hC [] [18] [(18,vB (decide (x1<(s1.length:Int))))] [] [] (qs (aT h (fun c2 h=> ?_) (fun c2 h=> ?_)))
  ·refine qk (qs (qb ?_))
   obtain⟨x3,hx3,h⟩:=bd h
   refine rq hC [oR aD hx3,.z (.nat 20)] [7,8,19,20,21] [(7,vI x1),(8,V.ref 20 0)] [(20,some (E.cells (kH x3)))] [(20,true)] ?_
   obtain⟨x4,hx4,h⟩:=bd h
   refine rq hC [oR aD hx4,.z (.nat 21)] [9,22,23,24,25] [(9,V.ref 21 0)] [(21,some (E.cells (kH x4)))] [(21,true)] ?_
   obtain⟨x5,hx5,h⟩:=bd h
   refine rq hC [oV (heq x3 x4 _ hx5)] (fr 26 5) [(30,vB (!x5))] [] [] (aT h (fun c3 h=> ?_) (fun c3 h=> ?_))
   ·obtain rfl:=so h
    exact rq hC [] [6] [(6,vB false)] [] [] (qr eR)
   ·exact qk (rk hC [] [17,31] [(17,vI (wr (x1+1)))] [] [] (lE h))
  ·obtain rfl:=so h
   exact cQ (rq hC [] [6] [(6,vB true)] [] [] (qr eR))
theorem oE(G:GS)(n:Nat)(x:Arr)(y:Arr){r:Bool}(h:eD n x y=some r):PQ G 117 [V.agg [vS x.name,vM rI x.dims],V.agg [vS y.name,vM rI y.dims]] (vB r):=by
 unfold eD at h
 refine pq aN Tryz.func117 rfl fun w X hC=> ?_
 refine rq hC [.z (.b (true)),.z (.b (true))] [2,3,4] [(2,V.tp [T.str x.name,T.sl (List.map rI x.dims)]),(3,V.tp [T.str y.name,T.sl (List.map rI y.dims)])] [] [] (vj h (fun x_=>bA [(4,vB x_)] [] []) (fun j1 h=> ?_) (fun x3 h=> ?_))
 ·
  refine aR h (fun c1 h=> ?_) (fun c1 h=> ?_)
  ·exact rk hC (rF 6 c1) (fr 4 13) [(4,vB false)] [] [] (lE h)
  ·obtain⟨x2,hx2,h⟩:=bd h
   exact rk hC (rT 5 c1++[oV (oJ G hx2),oT c1]) (fr 4 13) [(4,vB x2)] [] [] (lE h)
 ·obtain rfl:=so h
  exact qr eR
theorem uR(G:GS)(n:Nat)(s1:List Loop)(s2:List Loop)(eqF:FuncId)(eq:Loop→Loop→Option Bool)(heq: ∀(q0:Loop) (q1:Loop) r,eq q0 q1=some r→PQ G eqF [V.agg (jF q0),V.agg (jF q1)] (vB r)){r:Bool}(h:hA n s1 s2 eq=some r):PQ G 209 [vM aC s1,vM aC s2,V.fn eqF []] (vB r):=by
 unfold hA at h
 refine pq aN Tryz.func209 rfl fun w X hC=> ?_
 refine rq hC [] [6] [] [] [] (qs (rq hC [oN aC s1,oN aC s2] (fr 10 5) [(14,vB (!decide ((s1.length:Int)=(s2.length:Int))))] [] [] (aT h (fun c1 h=> ?_) (fun c1 h=> ?_))))
 ·obtain rfl:=so h
  exact rq hC [] [6] [(6,vB false)] [] [] (qr eR)
 ·refine qk (qs (rq hC [oN aC s1] [15,16,17] [(15,vM aC s1),(16,vI (s1.length:Int)),(17,vI 0)] [] [] (qb (jI h (fun x_=>bA [(1,vM aC s2),(2,V.fn eqF []),(15,vM aC s1),(16,vI (s1.length:Int)),(17,vI x_)] [] []) lS ?_))))
  rintro again2 x1 h
  refine rq hC [] [18] [(18,vB (decide (x1<(s1.length:Int))))] [] [] (qs (aT h (fun c2 h=> ?_) (fun c2 h=> ?_)))
  ·refine qk (qs (qb ?_))
   obtain⟨x3,hx3,h⟩:=bd h
   refine rq hC [oR aC hx3,.z (.nat 20)] [7,8,19,20,21] [(7,vI x1),(8,V.ref 20 0)] [(20,some (E.cells (jF x3)))] [(20,true)] ?_
   obtain⟨x4,hx4,h⟩:=bd h
   refine rq hC [oR aC hx4,.z (.nat 21)] [9,22,23,24,25] [(9,V.ref 21 0)] [(21,some (E.cells (jF x4)))] [(21,true)] ?_
   obtain⟨x5,hx5,h⟩:=bd h
   refine rq hC [oV (heq x3 x4 _ hx5)] (fr 26 5) [(30,vB (!x5))] [] [] (aT h (fun c3 h=> ?_) (fun c3 h=> ?_))
   ·obtain rfl:=so h
    exact rq hC [] [6] [(6,vB false)] [] [] (qr eR)
   ·exact qk (rk hC [] [17,31] [(17,vI (wr (x1+1)))] [] [] (lE h))
  ·obtain rfl:=so h
   exact cQ (rq hC [] [6] [(6,vB true)] [] [] (qr eR))
theorem I8(G:GS)(n:Nat)(x:Loop)(y:Loop){r:Bool}(h:jZ n x y=some r):PQ G 210 [V.agg (jF x),V.agg (jF y)] (vB r):=by
 unfold jZ at h
 refine pq aN Tryz.func210 rfl fun w X hC=> ?_
 refine rq hC [.z (.b (true)),.z (.b (true))] [2,3,4] [(2,V.tp (tG x)),(3,V.tp (tG y))] [] [] (vj h (fun x_=>bA [(4,vB x_)] [] []) (fun j1 h=> ?_) (fun x4 h=> ?_))
 ·
  obtain⟨x2,hx2,h⟩:=bd h
  refine aR h (fun c1 h=> ?_) (fun c1 h=> ?_)
  ·exact rk hC ([oV (eN G n x.lo y.lo 212 (fun q0 q1=>b6 n q0 q1) (fun q0 q1 r h=>d9 G n q0 q1 h) hx2)]++rF 6 c1) (fr 4 13) [(4,vB false)] [] [] (lE h)
  ·obtain⟨x3,hx3,h⟩:=bd h
   exact rk hC ([oV (eN G n x.lo y.lo 212 (fun q0 q1=>b6 n q0 q1) (fun q0 q1 r h=>d9 G n q0 q1 h) hx2)]++rT 5 c1++[oV (eN G n x.hi y.hi 212 (fun q0 q1=>b6 n q0 q1) (fun q0 q1 r h=>d9 G n q0 q1 h) hx3),oT c1]) (fr 4 13) [(4,vB x3)] [] [] (lE h)
 ·obtain rfl:=so h
  exact qr eR
theorem wJ{a}{b}{r}(h:nM n a b=some r):PQ G 120 [vM aC a,vM aC b] (vB r):=by
 unfold nM at h
 refine pq aN Tryz.func120 rfl fun w X hC=> ?_
 refine rq hC [] [4] [] [] [] ?_
 obtain⟨x1,hx1,h⟩:=bd h
 obtain rfl:=so h
 exact rq hC [oV (uR G n a b 210 (fun q0 q1=>jZ n q0 q1) (fun q0 q1 r h=>I8 G n q0 q1 h) hx1)] (fr 4 4) [(4,vB x1)] [] [] (qr eR)
theorem uP(G:GS)(n:Nat)(s1:List Stmt)(s2:List Stmt)(eqF:FuncId)(eq:Stmt→Stmt→Option Bool)(heq: ∀(q0:Stmt) (q1:Stmt) r,eq q0 q1=some r→PQ G eqF [V.agg (cV q0),V.agg (cV q1)] (vB r)){r:Bool}(h:gY n s1 s2 eq=some r):PQ G 121 [vM aG s1,vM aG s2,V.fn eqF []] (vB r):=by
 unfold gY at h
 refine pq aN Tryz.func121 rfl fun w X hC=> ?_
 refine rq hC [] [6] [] [] [] (qs (rq hC [oN aG s1,oN aG s2] (fr 10 5) [(14,vB (!decide ((s1.length:Int)=(s2.length:Int))))] [] [] (aT h (fun c1 h=> ?_) (fun c1 h=> ?_))))
 ·obtain rfl:=so h
  exact rq hC [] [6] [(6,vB false)] [] [] (qr eR)
 ·refine qk (qs (rq hC [oN aG s1] [15,16,17] [(15,vM aG s1),(16,vI (s1.length:Int)),(17,vI 0)] [] [] (qb (jI h (fun x_=>bA [(1,vM aG s2),(2,V.fn eqF []),(15,vM aG s1),(16,vI (s1.length:Int)),(17,vI x_)] [] []) lS ?_))))
  rintro again2 x1 h
  refine rq hC [] [18] [(18,vB (decide (x1<(s1.length:Int))))] [] [] (qs (aT h (fun c2 h=> ?_) (fun c2 h=> ?_)))
  ·refine qk (qs (qb ?_))
   obtain⟨x3,hx3,h⟩:=bd h
   refine rq hC [oR aG hx3,.z (.nat 20)] [7,8,19,20,21] [(7,vI x1),(8,V.ref 20 0)] [(20,some (E.cells (cV x3)))] [(20,true)] ?_
   obtain⟨x4,hx4,h⟩:=bd h
   refine rq hC [oR aG hx4,.z (.nat 21)] [9,22,23,24,25] [(9,V.ref 21 0)] [(21,some (E.cells (cV x4)))] [(21,true)] ?_
   obtain⟨x5,hx5,h⟩:=bd h
   refine rq hC [oV (heq x3 x4 _ hx5)] (fr 26 5) [(30,vB (!x5))] [] [] (aT h (fun c3 h=> ?_) (fun c3 h=> ?_))
   ·obtain rfl:=so h
    exact rq hC [] [6] [(6,vB false)] [] [] (qr eR)
   ·exact qk (rk hC [] [17,31] [(17,vI (wr (x1+1)))] [] [] (lE h))
  ·obtain rfl:=so h
   exact cQ (rq hC [] [6] [(6,vB true)] [] [] (qr eR))
theorem uS(G:GS)(n:Nat)(s1:List Expr)(s2:List Expr)(eqF:FuncId)(eq:Expr→Expr→Option Bool)(heq: ∀(q0:Expr) (q1:Expr) r,eq q0 q1=some r→PQ G eqF [V.agg (cN q0),V.agg (cN q1)] (vB r)){r:Bool}(h:hD n s1 s2 eq=some r):PQ G 266 [vM aH s1,vM aH s2,V.fn eqF []] (vB r):=by
 unfold hD at h
 refine pq aN Tryz.func266 rfl fun w X hC=> ?_
 refine rq hC [] [6] [] [] [] (qs (rq hC [oN aH s1,oN aH s2] (fr 10 5) [(14,vB (!decide ((s1.length:Int)=(s2.length:Int))))] [] [] (aT h (fun c1 h=> ?_) (fun c1 h=> ?_))))
 ·obtain rfl:=so h
  exact rq hC [] [6] [(6,vB false)] [] [] (qr eR)
 ·refine qk (qs (rq hC [oN aH s1] [15,16,17] [(15,vM aH s1),(16,vI (s1.length:Int)),(17,vI 0)] [] [] (qb (jI h (fun x_=>bA [(1,vM aH s2),(2,V.fn eqF []),(15,vM aH s1),(16,vI (s1.length:Int)),(17,vI x_)] [] []) lS ?_))))
  rintro again2 x1 h
  refine rq hC [] [18] [(18,vB (decide (x1<(s1.length:Int))))] [] [] (qs (aT h (fun c2 h=> ?_) (fun c2 h=> ?_)))
  ·refine qk (qs (qb ?_))
   obtain⟨x3,hx3,h⟩:=bd h
   refine rq hC [.z (.row (d6 x3)),.z (.nat 20),oQ (eV aH hx3 (cS x3))] [7,8,19,20,21] [(7,vI x1),(8,V.ref 20 0)] [(20,some (E.cells (cN x3)))] [(20,true)] ?_
   obtain⟨x4,hx4,h⟩:=bd h
   refine rq hC [.z (.row (d6 x4)),.z (.nat 21),oQ (eV aH hx4 (cS x4))] [9,22,23,24,25] [(9,V.ref 21 0)] [(21,some (E.cells (cN x4)))] [(21,true)] ?_
   obtain⟨x5,hx5,h⟩:=bd h
   refine rq hC [oV (heq x3 x4 _ hx5)] (fr 26 5) [(30,vB (!x5))] [] [] (aT h (fun c3 h=> ?_) (fun c3 h=> ?_))
   ·obtain rfl:=so h
    exact rq hC [] [6] [(6,vB false)] [] [] (qr eR)
   ·exact qk (rk hC [] [17,31] [(17,vI (wr (x1+1)))] [] [] (lE h))
  ·obtain rfl:=so h
   exact cQ (rq hC [] [6] [(6,vB true)] [] [] (qr eR))
theorem V1(G:GS): ∀(n:Nat) (a:Expr) (b:Expr) {r:Bool} (h:i_exprSame n a b=some r),PQ G 213 [V.agg (cN a),V.agg (cN b)] (vB r):=by
 intro n
 induction n with
 |zero=>intro a b r h;rw [i_exprSame.eq_def] at h;cases h
 |succ n ih=>
  intro a b r h
  rw [i_exprSame.eq_def] at h;dsimp only at h
  refine pq aN Tryz.func213 rfl fun w X hC=> ?_
  refine rq hC [.z (.b (true)),.z (.b (true))] [2,3,4] [(2,V.tp (eU a)),(3,V.tp (eU b))] [] [] (vj h (fun x_=>bA [(4,vB x_)] [] []) (fun j1 h=> ?_) (fun x5 h=> ?_))
  ·
   refine aR h (fun c1 h=> ?_) (fun c1 h=> ?_)
   ·exact rk hC (rF 6 c1++sF 18) (fr 4 34) [(4,vB false)] [] [] (lE h)
   ·refine aR h (fun c2 h=> ?_) (fun c2 h=> ?_)
    ·exact rk hC (rT 6 c1++rF 6 c2++sF 12) (fr 4 34) [(4,vB false)] [] [] (lE h)
    ·obtain⟨x2,hx2,h⟩:=bd h
     refine aR h (fun c3 h=> ?_) (fun c3 h=> ?_)
     ·exact rk hC (rT 6 c1++rT 5 c2++[oV (d9 G n a.index b.index hx2),oT c2]++rF 6 c3++sF 6) (fr 4 34) [(4,vB false)] [] [] (lE h)
     ·obtain⟨x3,hx3,h⟩:=bd h
      refine aR h (fun c4 h=> ?_) (fun c4 h=> ?_)
      ·exact rk hC (rT 6 c1++rT 5 c2++[oV (d9 G n a.index b.index hx2),oT c2]++rT 5 c3++[oV (kG G hx3),oT c3]++rF 6 c4) (fr 4 34) [(4,vB false)] [] [] (lE h)
      ·obtain⟨x4,hx4,h⟩:=bd h
       exact rk hC (rT 6 c1++rT 5 c2++[oV (d9 G n a.index b.index hx2),oT c2]++rT 5 c3++[oV (kG G hx3),oT c3]++rT 5 c4++[oV (uS G n a.kids b.kids 213 (fun q0 q1=>i_exprSame n q0 q1) (fun q0 q1 r h=>ih q0 q1 h) hx4),oT c4]) (fr 4 34) [(4,vB x4)] [] [] (lE h)
  ·obtain rfl:=so h
   exact qr eR
theorem V3(G:GS)(n:Nat)(a:Stmt)(b:Stmt){r:Bool}(h:kY n a b=some r):PQ G 122 [V.agg (cV a),V.agg (cV b)] (vB r):=by
 unfold kY at h
 refine pq aN Tryz.func122 rfl fun w X hC=> ?_
 refine rq hC [.z (.b (true)),.z (.b (true))] [2,3,4] [(2,V.tp (m5 a)),(3,V.tp (m5 b))] [] [] (vj h (fun x_=>bA [(4,vB x_)] [] []) (fun j1 h=> ?_) (fun x4 h=> ?_))
 ·
  obtain⟨x2,hx2,h⟩:=bd h
  refine aR h (fun c1 h=> ?_) (fun c1 h=> ?_)
  ·exact rk hC ([oV (kG G hx2)]++rF 6 c1) (fr 4 13) [(4,vB false)] [] [] (lE h)
  ·obtain⟨x3,hx3,h⟩:=bd h
   exact rk hC ([oV (kG G hx2)]++rT 5 c1++[oV (V1 G n a.value b.value hx3),oT c1]) (fr 4 13) [(4,vB x3)] [] [] (lE h)
 ·obtain rfl:=so h
  exact qr eR
theorem wI(G:GS)(n:Nat)(x:Part)(y:Part){r:Bool}(h:eC n x y=some r):PQ G 119 [V.agg (kH x),V.agg (kH y)] (vB r):=by
 unfold eC at h
 refine pq aN Tryz.func119 rfl fun w X hC=> ?_
 refine rq hC [.z (.b (true)),.z (.b (true))] [2,3,4] [(2,V.tp (iZ x)),(3,V.tp (iZ y))] [] [] (vj h (fun x_=>bA [(4,vB x_)] [] []) (fun j1 h=> ?_) (fun x4 h=> ?_))
 ·
  obtain⟨x2,hx2,h⟩:=bd h
  refine aR h (fun c1 h=> ?_) (fun c1 h=> ?_)
  ·exact rk hC ([oV (wJ G hx2)]++rF 6 c1) (fr 4 13) [(4,vB false)] [] [] (lE h)
  ·obtain⟨x3,hx3,h⟩:=bd h
   exact rk hC ([oV (wJ G hx2)]++rT 5 c1++[oV (uP G n x.body y.body 122 (fun q0 q1=>kY n q0 q1) (fun q0 q1 r h=>V3 G n q0 q1 h) hx3),oT c1]) (fr 4 13) [(4,vB x3)] [] [] (lE h)
 ·obtain rfl:=so h
  exact qr eR
theorem iP{a}{b}{r}(h:cR n a b=some r):PQ G 50 [V.agg (bL a),V.agg (bL b)] (vB r):=by
 unfold cR at h
 refine pq aN Tryz.func50 rfl fun w X hC=> ?_
 refine rq hC [.z (.b (true)),.z (.b (true))] [2,3,4] [(2,V.tp (cP a)),(3,V.tp (cP b))] [] [] (rq hC [] [5] [(5,V.fn 117 [])] [] [] (rq hC [] [6] [(6,V.fn 119 [])] [] [] (vj h (fun x_=>bA [(4,vB x_)] [] []) (fun j1 h=> ?_) (fun x4 h=> ?_))))
 ·
  obtain⟨x2,hx2,h⟩:=bd h
  refine aR h (fun c1 h=> ?_) (fun c1 h=> ?_)
  ·exact rk hC ([oV (mA G n a.arrays b.arrays 117 (fun q0 q1=>eD n q0 q1) (fun q0 q1 r h=>oE G n q0 q1 h) hx2)]++rF 7 c1) [4,7,8,9,10,11,12,13,14,15,16,17,18,19,20] [(4,vB false)] [] [] (lE h)
  ·obtain⟨x3,hx3,h⟩:=bd h
   exact rk hC ([oV (mA G n a.arrays b.arrays 117 (fun q0 q1=>eD n q0 q1) (fun q0 q1 r h=>oE G n q0 q1 h) hx2)]++rT 6 c1++[oV (uQ G n a.parts b.parts 119 (fun q0 q1=>eC n q0 q1) (fun q0 q1 r h=>wI G n q0 q1 h) hx3),oT c1]) [4,7,8,9,10,11,12,13,14,15,16,17,18,19,20] [(4,vB x3)] [] [] (lE h)
 ·obtain rfl:=so h
  exact qr eR
theorem aB1{r_a0}{r}(h:rJ n r_a0=some r):VQ G 125 [eL r_a0] [V.ref 0 0] (V.tup [V.agg (bL r.1),vI r.2.1,vI r.2.2.1,vI r.2.2.2.1]) [eL r.2.2.2.2]:=by
 unfold rJ at h
 refine vq aN Tryz.func125 rfl fun w X β0 hC hg=> ?_
 refine rq hC [.z (.nat 20)] (fr 2 4) [(2,V.ref 20 0)] [(20,sc [V.t T.nilS,V.t T.nilS])] [(20,true)] ?_
 obtain⟨x1,hx1,x2,hx2,h⟩:=cT h
 refine rq hC [oC [0] [] (aBZ G hx1),oC [0] [] (U5 G hx2),.z (.nat 21)] [6,8,9,10,11] [(6,V.ref 21 0)] [(0,sR x2.2),(21,some (E.cells (bL x2.1)))] [(0,true),(0,true),(21,true)] ?_
 obtain⟨x3,hx3,h⟩:=bd h
 refine rq hC [.z (.int 0),oC [0] [] (aZ G hx3)] [7,12,13,14] [(7,vI x3.1)] [(0,sR x3.2)] [(0,true)] (qs ?_)
 obtain⟨x4,hx4,x5,hx5,h⟩:=cT h
 obtain rfl:=so h
 exact dk hC bD [.z (.int 0),oC [0] [] (aZ G hx4),.z (.int 0),oC [0] [] (aZ G hx5)] [3,4,5,15,16,17,18,19,20,21,22] [(3,vI x3.1),(4,vI x4.1),(5,vI x5.1)] [(0,sR x5.2),(20,some (E.cells (bL x2.1)))] [(0,true),(0,true)] (qr eW)
theorem lZ(G:GS)(n:Nat)(rows:List Loop)(i:Int)(l:Loop)(hl:ix rows i=some l)(g:Nat)(fF:FuncId)(fC0:List T)(fC1:List T)(f:Affine→Option Affine)(hf: ∀(q0:Affine) r,f q0=some r→PQ G fF [V.agg (aK q0),V.tp fC0,V.tp fC1] (V.agg (aK r))){l':Loop}{rows':List Loop}(h:gA n l f=some l')(hr:dE rows i l'=some rows'):
  VQ G 128 [E.tree fJ 1 g (List.map aC rows) []] [V.eref 0 g 2 (0+Int.toNat i) 0,V.fn fF [V.tp fC0,V.tp fC1]] (V.tup []) [E.tree fJ 1 g (List.map aC rows') []]:=by
 unfold gA at h
 refine vq aN Tryz.func128 rfl fun w X β0 hC hg=> ?_
 refine qs (dk hC bD [.z (.foc 0 21 (0+Int.toNat i) 0 (aC l)),.z (.foc 0 22 (0+Int.toNat i) 1 (aC l)),oX aC hl,oX aC hl,.z (.lt 23 fJ 4),.z (.nat 2),oQ (uB aC hl),oQ (uB aC hl),oQ (Eq.refl 2)] (fr 8 11) [(16,V.msl 23 1 1 0 2),(17,vI 2),(18,vI 0)] [(0,some (E.tree fJ 1 g (List.map aC rows) [((0+Int.toNat i),1,ms 22 1 2 aA l.hi),((0+Int.toNat i),0,ms 21 1 2 aA l.lo)])),(21,some (E.tree fJ 3 1 (List.map aA l.lo) [])),(22,some (E.tree fJ 3 1 (List.map aA l.hi) [])),(23,some (E.tree fJ 4 1 (List.replicate 2 [T.sl []]) [(0,0,ms 21 1 2 aA l.lo),(1,0,ms 22 1 2 aA l.hi)]))] [(21,true),(22,true),(23,true)] (qw (lk hC [.shd 21,.shd 22] [] [] [(21,some (ar 109 1 2 aA l.lo)),(22,some (ar 109 1 2 aA l.hi))] []) (qb (jI h (fun x_=>bA [(1,V.fn fF [V.tp fC0,V.tp fC1]),(16,V.msl 23 1 1 0 2),(17,vI 2),(18,vI x_.2)] [(0,E.tree fJ 1 g (List.map aC rows) [((0+Int.toNat i),1,ms 22 1 2 aA l.hi),((0+Int.toNat i),0,ms 21 1 2 aA l.lo)]),(23,E.tree fJ 4 1 (List.replicate 2 [T.sl []]) [(0,0,ms 21 1 2 aA l.lo),(1,0,ms 22 1 2 aA l.hi)]),(21,ar 109 1 2 aA x_.1.lo),(22,ar 109 1 2 aA x_.1.hi)] [0,21,22,23]) lS ?_))))
 rintro again1 ⟨x,q⟩ h
 obtain⟨s1,hs1,h⟩:=bd h
 obtain⟨s2,hs2,h⟩:=bd h
 refine rq hC [] [19] [(19,vB (decide (q<2)))] [] [] (qs (aT h (fun c1 h=> ?_) (fun c1 h=> ?_)))
 ·refine qk (qs (qb (qs (aR h (fun c2 h=> ?_) (fun c2 h=> ?_)))))
  ·refine aR h (fun c3 h=> ?_) (fun c3 h=> ?_)
   ·exact nof h
   ·have e:=of_decide_eq_true c3
    subst e
    refine rk hC [.z (.int 1),.z (.row [T.sl []]),oQ (And.intro (by decide) (by decide):(0:Int)≤1∧(1:Int)<((2:Nat):Int)),oQ (Eq.refl (some [T.sl []]))] [5,20,21] [(5,ms 22 1 2 aA l.hi)] [] [] (qw (xC hC [.len 5 (List.map aA x.hi).length] [5] [(5,ms 22 1 2 aA x.hi)] [] [] (a1 (rB aA hs2)) (by kernel_rfl)) (rq hC [oN aA x.hi] [22,23,24] [(22,ms 22 1 2 aA x.hi),(23,vI (x.hi.length:Int)),(24,vI 0)] [] [] (qb (jI h (fun x_=>bA [(1,V.fn fF [V.tp fC0,V.tp fC1]),(16,V.msl 23 1 1 0 2),(17,vI 2),(18,vI 1),(5,ms 22 1 2 aA x_.1),(22,ms 22 1 2 aA x_.1),(23,vI (x.hi.length:Int)),(24,vI x_.2)] [(0,E.tree fJ 1 g (List.map aC rows) [((0+Int.toNat i),1,ms 22 1 2 aA l.hi),((0+Int.toNat i),0,ms 21 1 2 aA l.lo)]),(23,E.tree fJ 4 1 (List.replicate 2 [T.sl []]) [(0,0,ms 21 1 2 aA l.lo),(1,0,ms 22 1 2 aA l.hi)]),(21,ar 109 1 2 aA x.lo),(22,ar 109 1 2 aA x_.1)] [0,21,22,23]) lS ?_))))
    rintro again2 ⟨y,k⟩ h
    refine rq hC [] [25] [(25,vB (decide (k<(x.hi.length:Int))))] [] [] (qs (aT h (fun c4 h=> ?_) (fun c4 h=> ?_)))
    ·refine qk (qs (qb ?_))
     obtain⟨x3,hx3,h⟩:=bd h
     refine rq hC [oQ (l7 aA hx3),oX aA hx3,.z (.nat 24)] [6,7,26,27,28] [(6,vI k),(7,V.ref 24 0)] [(24,some (E.cells (aK x3)))] [(24,true)] ?_
     obtain⟨x4,hx4,x5,hx5,h⟩:=cT h
     exact rk hC [oV (hf x3 _ hx4),oQ (l7 aA hx3),oX aA hx3,.z (.rows (List.map aA x5)),.z (.len 5 (List.map aA x5).length),.z (.len 22 (List.map aA x5).length),oQ (str aA hx5),oQ (jV aA hx5),oQ (jV aA hx5)] [5,22,29,30,31,32,33,34] [(5,ms 22 1 2 aA x5),(22,ms 22 1 2 aA x5)] [(22,some (ar 109 1 2 aA x5))] [] (rk hC [] [24,35] [(24,vI (wr (k+1)))] [] [] (lE h))
    ·exact cQ (rk hC [] [18,36] [(18,vI (wr (1+1)))] [] [] (lE h))
  ·have e:=of_decide_eq_true c2
   subst e
   refine rk hC [.z (.int 0),.z (.row [T.sl []]),oQ (And.intro (by decide) (by decide):(0:Int)≤0∧(0:Int)<((2:Nat):Int)),oQ (Eq.refl (some [T.sl []]))] [5,20,21] [(5,ms 21 1 2 aA l.lo)] [] [] (qw (xC hC [.len 5 (List.map aA x.lo).length] [5] [(5,ms 21 1 2 aA x.lo)] [] [] (a1 (rB aA hs1)) (by kernel_rfl)) (rq hC [oN aA x.lo] [22,23,24] [(22,ms 21 1 2 aA x.lo),(23,vI (x.lo.length:Int)),(24,vI 0)] [] [] (qb (jI h (fun x_=>bA [(1,V.fn fF [V.tp fC0,V.tp fC1]),(16,V.msl 23 1 1 0 2),(17,vI 2),(18,vI 0),(5,ms 21 1 2 aA x_.1),(22,ms 21 1 2 aA x_.1),(23,vI (x.lo.length:Int)),(24,vI x_.2)] [(0,E.tree fJ 1 g (List.map aC rows) [((0+Int.toNat i),1,ms 22 1 2 aA l.hi),((0+Int.toNat i),0,ms 21 1 2 aA l.lo)]),(23,E.tree fJ 4 1 (List.replicate 2 [T.sl []]) [(0,0,ms 21 1 2 aA l.lo),(1,0,ms 22 1 2 aA l.hi)]),(21,ar 109 1 2 aA x_.1),(22,ar 109 1 2 aA x.hi)] [0,21,22,23]) lS ?_))))
   rintro again2 ⟨y,k⟩ h
   refine rq hC [] [25] [(25,vB (decide (k<(x.lo.length:Int))))] [] [] (qs (aT h (fun c4 h=> ?_) (fun c4 h=> ?_)))
   ·refine qk (qs (qb ?_))
    obtain⟨x3,hx3,h⟩:=bd h
    refine rq hC [oQ (l7 aA hx3),oX aA hx3,.z (.nat 24)] [6,7,26,27,28] [(6,vI k),(7,V.ref 24 0)] [(24,some (E.cells (aK x3)))] [(24,true)] ?_
    obtain⟨x4,hx4,x5,hx5,h⟩:=cT h
    exact rk hC [oV (hf x3 _ hx4),oQ (l7 aA hx3),oX aA hx3,.z (.rows (List.map aA x5)),.z (.len 5 (List.map aA x5).length),.z (.len 22 (List.map aA x5).length),oQ (str aA hx5),oQ (jV aA hx5),oQ (jV aA hx5)] [5,22,29,30,31,32,33,34] [(5,ms 21 1 2 aA x5),(22,ms 21 1 2 aA x5)] [(21,some (ar 109 1 2 aA x5))] [] (rk hC [] [24,35] [(24,vI (wr (k+1)))] [] [] (lE h))
   ·exact cQ (rk hC [] [18,36] [(18,vI (wr (0+1)))] [] [] (lE h))
 ·obtain rfl:=so h
  exact qw (xC hC [.tre 21 fJ 3,.tre 22 fJ 3,.unf 0 22 (aC l) (List.map aC (rows.set i.toNat (⟨l.lo,x.hi⟩:Loop))),.unf 0 21 (aC (⟨l.lo,x.hi⟩:Loop)) (List.map aC rows')] [] [] [(21,none),(22,none),(0,some (E.tree fJ 1 g (List.map aC rows') []))] [] (a8 (rB aA hs2) (Eq.refl fJ) (uB aC hl) (J6 aC (Y3 hr (⟨l.lo,x.hi⟩:Loop)) rfl) (rB aA hs1) (Eq.refl fJ) (uB aC (aEQ hr (⟨l.lo,x.hi⟩:Loop))) (J6 aC (Y2 hr (⟨l.lo,x.hi⟩:Loop)) rfl)) (by kernel_rfl)) (cQ eW)
theorem U8{a}{k}{b}{r}(h:D5 n a k b=some r):VQ G 130 [] [V.agg (aK a),vI k,V.agg (aK b)] (V.agg [ms 0 1 1 rI r.coefs,vI r.const]) [ar 3 1 1 rI r.coefs]:=by
 unfold D5 at h
 refine vq aN Tryz.func130 rfl fun w X β0 hC hg=> ?_
 refine rq hC [.z (.b (true)),.z (.b (true)),.z (.nat 20)] [3,5,6] [(3,V.tp (aQ a)),(5,V.tp (aQ b)),(6,V.ref 20 0)] [(20,sc [V.t T.nilS,vI 0])] [(20,true)] ?_
 obtain⟨x1,hx1,h⟩:=bd h
 refine rq hC [oC [] [21] (qX G hx1),.z (.nat 22)] [7,10,11] [(7,V.ref 22 0)] [(21,some (ar 3 1 1 rI x1.coefs)),(22,sc [ms 21 1 1 rI x1.coefs,vI x1.const])] [(21,true),(22,true)] (qs (rq hC [oN rI b.coefs] (fr 12 4) [(13,vM rI b.coefs),(14,vI (b.coefs.length:Int)),(15,vI 0)] [] [] (qb (bC (γ:=Nat) h (fun x_ g_=>bA [(1,vI k),(5,V.tp (aQ b)),(6,V.ref 20 0),(7,V.ref 22 0),(13,vM rI b.coefs),(14,vI (b.coefs.length:Int)),(15,vI x_.2)] [(20,E.cells [V.t T.nilS,vI 0]),(21,ar 3 g_ 1 rI x_.1),(22,E.cells [ms 21 g_ 1 rI x_.1,vI x1.const])] [20,21,22]) 1 (lS) ?_))))
 rintro again5 ⟨x2,x3⟩ g4 h
 refine rq hC [] [16] [(16,vB (decide (x3<(b.coefs.length:Int))))] [] [] (qs (aT h (fun c1 h=> ?_) (fun c1 h=> ?_)))
 ·refine qk (qs (qb ?_))
  obtain⟨x6,hx6,h⟩:=bd h
  refine rq hC [oR rI hx6] [8,9,17,18,19] [(8,vI x3),(9,vI x6)] [] [] ?_
  obtain⟨x7,hx7,x8,hx8,h⟩:=cT h
  exact rk hC [oQ (l7 rI hx7),oX rI hx7,oQ (l7 rI hx7),oX rI hx7,.z (.rows (List.map rI x8)),.z (.lenc 22 0 (List.map rI x8).length),oQ (str rI hx8),oQ (jV rI hx8)] (fr 20 10) [] [(21,some (ar 3 g4 1 rI x8)),(22,sc [ms 21 g4 1 rI x8,vI x1.const])] [] (rk hC [] [15,30] [(15,vI (wr (x3+1)))] [] [] ⟨(x8,wr (x3+1)),g4,h,lS⟩)
 ·obtain rfl:=so h
  exact cQ (rq hC [] (fr 31 8) [] [(22,sc [ms 21 g4 1 rI x2,vI (wr (x1.const+(wr (k*b.const))))])] [] (rq hC [] [39] [] [(20,sc [ms 21 g4 1 rI x2,vI (wr (x1.const+(wr (k*b.const))))])] [] (qw (lk hC [.rn 21 0 [] [20,22]] [] [] [(20,sc [ms 0 1 1 rI x2,vI (wr (x1.const+(wr (k*b.const))))]),(22,sc [ms 0 1 1 rI x2,vI (wr (x1.const+(wr (k*b.const))))]),(21,none),(0,some (ar 3 1 1 rI x2))] [(0,true)]) (qr eW))))
theorem V2{n_a0}{r}(h:uC n n_a0=some r):VQ G 131 [] [vI n_a0] (V.agg [ms 0 1 1 rI r.coefs,vI r.const]) [ar 3 1 1 rI r.coefs]:=by
 unfold uC at h
 refine vq aN Tryz.func131 rfl fun w X β0 hC hg=> ?_
 refine rq hC [.z (.nat 20)] [2] [(2,V.ref 20 0)] [(20,sc [V.t T.nilS,vI 0])] [(20,true)] ?_
 obtain⟨x1,hx1,h⟩:=bd h
 obtain rfl:=so h
 exact rq hC [.z (.nat 21),oA (aHL rI hx1),oQ (S3 hx1).1] [3,4,5] [] [(21,some (ar 3 1 1 rI x1)),(20,sc [ms 21 1 1 rI x1,vI n_a0])] [(21,true)] (qw (lk hC [.rn 21 0 [] [20]] [] [] [(20,sc [ms 0 1 1 rI x1,vI n_a0]),(21,none),(0,some (ar 3 1 1 rI x1))] [(0,true)]) (qr eW))
theorem qQ{v}{k}{r}(h:kT n v k=some r):VQ G 132 [] [vI v,vI k] (V.agg [ms 0 1 1 rI r.coefs,vI r.const]) [ar 3 1 1 rI r.coefs]:=by
 unfold kT at h
 refine vq aN Tryz.func132 rfl fun w X β0 hC hg=> ?_
 refine rq hC [.z (.nat 20)] [4] [(4,V.ref 20 0)] [(20,sc [V.t T.nilS,vI 0])] [(20,true)] ?_
 obtain⟨x1,hx1,h⟩:=bd h
 refine rq hC [oC [] [21] (V2 G hx1),.z (.nat 22)] [5,6] [(5,V.ref 22 0)] [(21,some (ar 3 1 1 rI x1.coefs)),(22,sc [ms 21 1 1 rI x1.coefs,vI x1.const])] [(21,true),(22,true)] ?_
 obtain⟨x2,hx2,x3,hx3,h⟩:=cT h
 obtain rfl:=so h
 exact rq hC [oQ (l7 rI hx2),oX rI hx2,.z (.rows (List.map rI x3)),.z (.lenc 22 0 (List.map rI x3).length),oQ (str rI hx3),oQ (jV rI hx3)] (fr 7 5) [] [(21,some (ar 3 1 1 rI x3)),(22,sc [ms 21 1 1 rI x3,vI x1.const])] [] (rq hC [] [12] [] [(20,sc [ms 21 1 1 rI x3,vI x1.const])] [] (qw (lk hC [.rn 21 0 [] [20,22]] [] [] [(20,sc [ms 0 1 1 rI x3,vI x1.const]),(22,sc [ms 0 1 1 rI x3,vI x1.const]),(21,none),(0,some (ar 3 1 1 rI x3))] [(0,true)]) (qr eW)))
theorem pL(G:GS)(n:Nat)(a:Access)(changeF:FuncId)(changeC0:List T)(changeC1:List T)(change:Affine→Option Affine)(hchange: ∀(q0:Affine) r,change q0=some r→PQ G changeF [V.agg (aK q0),V.tp changeC0,V.tp changeC1] (V.agg (aK r))){r:Access}(h:fH n a change=some r):PQ G 267 [V.agg (b8 a),V.fn changeF [V.tp changeC0,V.tp changeC1]] (V.agg (b8 r)):=by
 unfold fH at h
 refine pq aN Tryz.func267 rfl fun w X hC=> ?_
 refine rq hC [.z (.b (true)),.z (.nat 20)] [2,4] [(2,V.tp (dC a)),(4,V.ref 20 0)] [(20,sc [vS [],V.t T.nilS])] [(20,true)] (rq hC [.z (.nat 21)] [5,8,9,10] [(5,V.ref 21 0)] [(21,sc [vS a.array,V.t T.nilS])] [(21,true)] (qs (rq hC [oN aA a.subs] (fr 11 4) [(12,vM aA a.subs),(13,vI (a.subs.length:Int)),(14,vI 0)] [] [] (qb (qw (lk hC [.growc 21 1 22 109] [] [] [(22,some (ar 109 1 2 aA [])),(21,sc [vS a.array,ms 22 1 2 aA []])] [(22,true)]) ?_)))))
 refine bC (γ:=Nat) h (fun x_ g_=>bA [(1,V.fn changeF [V.tp changeC0,V.tp changeC1]),(4,V.ref 20 0),(5,V.ref 21 0),(12,vM aA a.subs),(13,vI (a.subs.length:Int)),(14,vI x_.2)] [(20,E.cells [vS [],V.t T.nilS]),(21,E.cells [vS a.array,ms 22 g_ 2 aA x_.1]),(22,ar 109 g_ 2 aA x_.1)] [20,21,22]) 1 (lS) ?_
 rintro again4 ⟨x1,x2⟩ g3 h
 refine rq hC [] [15] [(15,vB (decide (x2<(a.subs.length:Int))))] [] [] (qs (aT h (fun c1 h=> ?_) (fun c1 h=> ?_)))
 ·refine qk (qs (qb ?_))
  obtain⟨x5,hx5,h⟩:=bd h
  refine rq hC [oR aA hx5,.z (.nat 23)] [7,16,17] [(7,V.ref 23 0)] [(23,some (E.cells (aK x5)))] [(23,true)] ?_
  obtain⟨x6,hx6,x7,hx7,h⟩:=cT h
  exact dk hC bD [oV (hchange x5 _ hx6),.z (.int 0),oA (aO aA hx7),oQ (bO (r:=aA) 2 aS x1),oQ (bO (r:=aA) 2 aS [x6])] (fr 18 8) [] [(22,some (ar 109 (g3+1) 2 aA x7)),(21,sc [vS a.array,ms 22 (g3+1) 2 aA x7])] [] (rk hC [] [14,26] [(14,vI (wr (x2+1)))] [] [] ⟨(x7,wr (x2+1)),(g3+1),h,lS⟩)
 ·obtain rfl:=so h
  exact cQ (rq hC [.z (.at 2),.z (.fz 22 [] [21])] [27] [] [(21,sc [vS a.array,vM aA x1]),(22,none),(20,sc [vS a.array,vM aA x1])] [] (qr eR))
theorem I3(G:GS): ∀(n:Nat) (e:Expr) (changeF:FuncId) (changeC0:List T) (changeC1:List T) (change:Affine→Option Affine) (hchange: ∀(q0:Affine) r,change q0=some r→PQ G changeF [V.agg (aK q0),V.tp changeC0,V.tp changeC1] (V.agg (aK r))) {r:Expr} (h:i_exprMap n e change=some r),PQ G 268 [V.agg (cN e),V.fn changeF [V.tp changeC0,V.tp changeC1]] (V.agg (cN r)):=by
 intro n
 induction n with
 |zero=>intro e changeF changeC0 changeC1 change hchange r h;rw [i_exprMap.eq_def] at h;cases h
 |succ n ih=>
  intro e changeF changeC0 changeC1 change hchange r h
  rw [i_exprMap.eq_def] at h;dsimp only at h
  refine pq aN Tryz.func268 rfl fun w X hC=> ?_
  refine rq hC [.z (.b (true)),.z (.nat 20)] [2,4] [(2,V.tp (eU e)),(4,V.ref 20 0)] [(20,sc [vI 0,vI 0,V.t T.nilS,vI 0,vS [],V.t T.nilS,V.t T.nilS])] [(20,true)] (rq hC [.z (.nat 21)] [5,8,9,10,11,12] [(5,V.ref 21 0)] [(21,sc [vI e.kind,vI e.num,V.t T.nilS,vI 0,vS [],V.t T.nilS,V.t T.nilS])] [(21,true)] (vj h (fun x_=>bA [(1,V.fn changeF [V.tp changeC0,V.tp changeC1]),(2,V.tp (eU e)),(4,V.ref 20 0),(5,V.ref 21 0)] [(20,E.cells [vI 0,vI 0,V.t T.nilS,vI 0,vS [],V.t T.nilS,V.t T.nilS]),(21,E.cells [vI e.kind,vI e.num,vM rI x_.1,vI x_.2.1,vS x_.2.2.1,vM aA x_.2.2.2,V.t T.nilS])] [20,21]) (fun j1 h=> ?_) ?_))
  ·
   refine rq hC [] [13,14] [(14,vI e.kind)] [] [] (qb (rq hC [] [15,16] [(15,vB (decide (e.kind=2)))] [] [] (aT h (fun c1 h=> ?_) (fun c1 h=> ?_))))
   ·obtain⟨x2,hx2,h⟩:=bd h
    exact rk hC [oV (hchange e.index _ hx2)] (fr 17 5) [] [(21,sc [vI e.kind,vI e.num,vM rI x2.coefs,vI x2.const,vS [],V.t T.nilS,V.t T.nilS])] [] (lE h)
   ·refine rq hC [] [22,23] [(22,vB (decide (e.kind=3)))] [] [] (aT h (fun c2 h=> ?_) (fun c2 h=> ?_))
    ·obtain⟨x3,hx3,h⟩:=bd h
     exact rk hC [oV (pL G n e.read changeF changeC0 changeC1 change hchange hx3)] (fr 24 5) [] [(21,sc [vI e.kind,vI e.num,V.t T.nilS,vI 0,vS x3.array,vM aA x3.subs,V.t T.nilS])] [] (lE h)
    ·exact qk (lE h)
  ·rintro⟨x4,x5,x6,x7⟩ h
   refine qs (rq hC [oN aH e.kids] (fr 29 4) [(30,vM aH e.kids),(31,vI (e.kids.length:Int)),(32,vI 0)] [] [] (qb (qw (lk hC [.growc 21 6 22 112] [] [] [(22,some (ar 112 1 7 aH [])),(21,sc [vI e.kind,vI e.num,vM rI x4,vI x5,vS x6,vM aA x7,ms 22 1 7 aH []])] [(22,true)]) (bC (γ:=Nat) h (fun x_ g_=>bA [(1,V.fn changeF [V.tp changeC0,V.tp changeC1]),(4,V.ref 20 0),(5,V.ref 21 0),(30,vM aH e.kids),(31,vI (e.kids.length:Int)),(32,vI x_.2)] [(20,E.cells [vI 0,vI 0,V.t T.nilS,vI 0,vS [],V.t T.nilS,V.t T.nilS]),(21,E.cells [vI e.kind,vI e.num,vM rI x4,vI x5,vS x6,vM aA x7,ms 22 g_ 7 aH x_.1]),(22,ar 112 g_ 7 aH x_.1)] [20,21,22]) 1 (lS) ?_))))
   rintro again11 ⟨x8,x9⟩ g10 h
   refine rq hC [] [33] [(33,vB (decide (x9<(e.kids.length:Int))))] [] [] (qs (aT h (fun c3 h=> ?_) (fun c3 h=> ?_)))
   ·refine qk (qs (qb ?_))
    obtain⟨x12,hx12,h⟩:=bd h
    refine rq hC [.z (.row (d6 x12)),.z (.nat 23),oQ (eV aH hx12 (cS x12))] [7,34,35] [(7,V.ref 23 0)] [(23,some (E.cells (cN x12)))] [(23,true)] ?_
    obtain⟨x13,hx13,x14,hx14,h⟩:=cT h
    exact dk hC bD [oV (ih x12 changeF changeC0 changeC1 change hchange hx13),.z (.int 2),.z (.rows (List.map aH [x13])),oQ (qK x13),oA (aO aH hx14),oQ (bO (r:=aH) 7 dJ x8),oQ (bO (r:=aH) 7 dJ [x13])] (fr 36 8) [] [(22,some (ar 112 (g10+1) 7 aH x14)),(21,sc [vI e.kind,vI e.num,vM rI x4,vI x5,vS x6,vM aA x7,ms 22 (g10+1) 7 aH x14])] [] (rk hC [] [32,44] [(32,vI (wr (x9+1)))] [] [] ⟨(x14,wr (x9+1)),(g10+1),h,lS⟩)
   ·obtain rfl:=so h
    exact cQ (rq hC [.z (.at 2),.z (.fz 22 [] [21])] [45] [] [(21,sc [vI e.kind,vI e.num,vM rI x4,vI x5,vS x6,vM aA x7,vM aH x8]),(22,none),(20,sc [vI e.kind,vI e.num,vM rI x4,vI x5,vS x6,vM aA x7,vM aH x8])] [] (qr eR))
theorem I2(G:GS)(n:Nat)(s:Stmt)(changeF:FuncId)(changeC0:List T)(changeC1:List T)(change:Affine→Option Affine)(hchange: ∀(q0:Affine) r,change q0=some r→PQ G changeF [V.agg (aK q0),V.tp changeC0,V.tp changeC1] (V.agg (aK r))){r:Stmt}(h:f9 n s change=some r):PQ G 217 [V.agg (cV s),V.fn changeF [V.tp changeC0,V.tp changeC1]] (V.agg (cV r)):=by
 unfold f9 at h
 refine pq aN Tryz.func217 rfl fun w X hC=> ?_
 refine rq hC [.z (.b (true)),.z (.nat 20)] [2,4] [(2,V.tp (m5 s)),(4,V.ref 20 0)] [(20,sc [vS [],V.t T.nilS,vI 0,vI 0,V.t T.nilS,vI 0,vS [],V.t T.nilS,V.t T.nilS])] [(20,true)] (qs ?_)
 obtain⟨x1,hx1,x2,hx2,h⟩:=cT h
 obtain rfl:=so h
 exact dk hC bD [oV (pL G n s.write changeF changeC0 changeC1 change hchange hx1),oV (I3 G n s.value changeF changeC0 changeC1 change hchange hx2)] (fr 5 9) [] [(20,sc [vS x1.array,vM aA x1.subs,vI x2.kind,vI x2.num,vM rI x2.index.coefs,vI x2.index.const,vS x2.read.array,vM aA x2.read.subs,vM aH x2.kids])] [] (qr eR)
theorem sQ(G:GS)(n:Nat)(rows:List Part)(i:Int)(p:Part)(hp:ix rows i=some p)(g:Nat)(from_:Int)(fF:FuncId)(fC0:List T)(fC1:List T)(f:Affine→Option Affine)(hf: ∀(q0:Affine) r,f q0=some r→PQ G fF [V.agg (aK q0),V.tp fC0,V.tp fC1] (V.agg (aK r))){p':Part}{rows':List Part}(h:iK n p from_ f=some p')(hr:dE rows i p'=some rows'):
  VQ G 133 [E.tree fJ 0 g (List.map aD rows) []] [V.eref 0 g 2 (0+Int.toNat i) 0,vI from_,V.fn fF [V.tp fC0,V.tp fC1]] (V.tup []) [E.tree fJ 0 g (List.map aD rows') []]:=by
 unfold iK at h
 refine vq aN Tryz.func133 rfl fun w X β0 hC hg=> ?_
 refine qs (rq hC [] [6,9] [(6,vI from_)] [] [] (qw (xC hC [.foc 0 21 (0+Int.toNat i) 0 (aD p),.foc 0 22 (0+Int.toNat i) 1 (aD p),.shd 22] [] [] [(0,some (E.tree fJ 0 g (List.map aD rows) [((0+Int.toNat i),1,ms 22 1 9 aG p.body),((0+Int.toNat i),0,ms 21 1 2 aC p.nest)])),(21,some (E.tree fJ 1 1 (List.map aC p.nest) [])),(22,some (ar 114 1 9 aG p.body))] [(21,true),(22,true)] (a2 (uB aD hp) (uB aD hp)) (by kernel_rfl)) (qb (jI h (fun x_=>bA [(0,V.eref 0 g 2 (0+Int.toNat i) 0),(2,V.fn fF [V.tp fC0,V.tp fC1]),(6,vI x_.2)] [(0,E.tree fJ 0 g (List.map aD rows) [((0+Int.toNat i),1,ms 22 1 9 aG p.body),((0+Int.toNat i),0,ms 21 1 2 aC p.nest)]),(21,E.tree fJ 1 1 (List.map aC x_.1) []),(22,ar 114 1 9 aG p.body)] [0,21,22]) lS ?_))))
 rintro again1 ⟨x,k⟩ h
 obtain⟨s1,hs1,h⟩:=bd h
 refine qs (rq hC [oX aD hp,.z (.nat x.length),oQ (aJd aC hs1)] (fr 10 7) [(16,vB (decide (k<(x.length:Int))))] [] [] (aT h (fun c1 h=> ?_) (fun c1 h=> ?_)))
 ·refine qk (qs (qb ?_))
  obtain⟨x2,hx2,x3,hx3,x4,hx4,h⟩:=jH h
  exact rk hC [oX aD hp,oQ (aIO aC hs1 hx2),oC [21] [] (lZ G n x k x2 hx2 1 fF fC0 fC1 f hf hx3 hx4)] (fr 19 8) [] [(21,some (E.tree fJ 1 1 (List.map aC x4) []))] [(21,true)] (rk hC [] [6,17,18] [(6,vI (wr (k+1)))] [] [] (lE h))
 ·refine cQ (rq hC [oX aD hp,oN aG p.body] (fr 27 6) [(30,ms 22 1 9 aG p.body),(31,vI (p.body.length:Int)),(32,vI 0)] [] [] (qb (jI h (fun x_=>bA [(0,V.eref 0 g 2 (0+Int.toNat i) 0),(2,V.fn fF [V.tp fC0,V.tp fC1]),(30,ms 22 1 9 aG x_.1),(31,vI (p.body.length:Int)),(32,vI x_.2)] [(0,E.tree fJ 0 g (List.map aD rows) [((0+Int.toNat i),1,ms 22 1 9 aG p.body),((0+Int.toNat i),0,ms 21 1 2 aC p.nest)]),(21,E.tree fJ 1 1 (List.map aC x) []),(22,ar 114 1 9 aG x_.1)] [0,21,22]) lS ?_)))
  rintro again2 ⟨y,j⟩ h
  obtain⟨s2,hs2,h⟩:=bd h
  refine rq hC [] [33] [(33,vB (decide (j<(p.body.length:Int))))] [] [] (qs (aT h (fun c2 h=> ?_) (fun c2 h=> ?_)))
  ·refine qk (qs (qb ?_))
   obtain⟨x6,hx6,h⟩:=bd h
   refine rq hC [oQ (l7 aG hx6),oX aG hx6,.z (.nat 24)] [7,8,34,35,36] [(7,vI j),(8,V.ref 24 0)] [(24,some (E.cells (cV x6)))] [(24,true)] ?_
   obtain⟨x7,hx7,x8,hx8,h⟩:=cT h
   exact dk hC bD [oX aD hp,oV (I2 G n x6 fF fC0 fC1 f hf hx7),oQ (aIO aG hs2 hx6),oX aG hx6,.z (.rows (List.map aG x8)),oQ (str aG hx8)] (fr 37 9) [] [(22,some (ar 114 1 9 aG x8))] [] (qw (xC hC [.len 30 (List.map aG x8).length] [30] [(30,ms 22 1 9 aG x8)] [] [] (a1 (jV aG hx8)) (by kernel_rfl)) (rk hC [] [32,46] [(32,vI (wr (j+1)))] [] [] (lE h)))
  ·obtain rfl:=so h
   exact qw (xC hC [.tre 22 fJ 2,.unf 0 22 (aD p) (List.map aD (rows.set i.toNat (⟨p.nest,y⟩:Part))),.unf 0 21 (aD (⟨p.nest,y⟩:Part)) (List.map aD rows')] [] [] [(22,none),(21,none),(0,some (E.tree fJ 0 g (List.map aD rows') []))] [] (a8 (rB aG hs2) (Eq.refl fJ) (uB aD hp) (J6 aD (Y3 hr (⟨p.nest,y⟩:Part)) rfl) (rB aC hs1) (Eq.refl fJ) (uB aD (aEQ hr (⟨p.nest,y⟩:Part))) (J6 aD (Y2 hr (⟨p.nest,y⟩:Part)) rfl)) (by kernel_rfl)) (cQ eW)
theorem aDD{a}{v}{b}{r}(h:vQ n a v b=some r):VQ G 135 [] [V.agg (aK a),vI v,V.agg (aK b)] (V.agg [ms 0 1 1 rI r.coefs,vI r.const]) [ar 3 1 1 rI r.coefs]:=by
 unfold vQ at h
 refine vq aN Tryz.func135 rfl fun w X β0 hC hg=> ?_
 refine rq hC [.z (.b (true)),.z (.b (true)),.z (.nat 20)] [3,5,6] [(3,V.tp (aQ a)),(5,V.tp (aQ b)),(6,V.ref 20 0)] [(20,sc [V.t T.nilS,vI 0])] [(20,true)] ?_
 obtain⟨x1,hx1,h⟩:=bd h
 refine rq hC [oC [] [21] (qX G hx1),.z (.nat 22)] [7,9,10] [(7,V.ref 22 0)] [(21,some (ar 3 1 1 rI x1.coefs)),(22,sc [ms 21 1 1 rI x1.coefs,vI x1.const])] [(21,true),(22,true)] ?_
 obtain⟨x2,hx2,h⟩:=bd h
 refine rq hC [oQ (l7 rI hx2),oX rI hx2] [8,11,12,13,14,15] [(8,vI x2)] [] [] ?_
 obtain⟨x3,hx3,h⟩:=bd h
 refine rq hC [oQ (l7 rI hx2),oX rI hx2,.z (.rows (List.map rI x3)),.z (.lenc 22 0 (List.map rI x3).length),oQ (str rI hx3),oQ (jV rI hx3)] (fr 16 4) [] [(21,some (ar 3 1 1 rI x3)),(22,sc [ms 21 1 1 rI x3,vI x1.const])] [] ?_
 obtain⟨x4,hx4,h⟩:=bd h
 obtain rfl:=so h
 exact rq hC [.z (.at 5),.z (.fz 21 [] [22]),oC [] [23] (U8 G hx4)] (fr 20 4) [] [(22,sc [vM rI x3,vI x1.const]),(21,none),(23,some (ar 3 1 1 rI x4.coefs)),(20,sc [ms 23 1 1 rI x4.coefs,vI x4.const])] [(23,true)] (qw (lk hC [.rn 23 0 [] [20]] [] [] [(20,sc [ms 0 1 1 rI x4.coefs,vI x4.const]),(23,none),(0,some (ar 3 1 1 rI x4.coefs))] [(0,true)]) (qr eW))
theorem U9{p}{r}(h:nK n p=some r):PQ G 136 [V.agg (bL p)] (V.tup [V.agg (bL r.1),vB r.2]):=by
 unfold nK at h
 refine pq aN Tryz.func136 rfl fun w X hC=> ?_
 refine rq hC [.z (.b (true)),.z (.nat 20)] [1,2,3] [(1,V.tp (cP p)),(2,V.ref 20 0)] [(20,sc [V.t T.nilS,V.t T.nilS])] [(20,true)] (qs ?_)
 obtain⟨x1,hx1,h⟩:=bd h
 refine rq hC [oV (b7 G hx1)] [4,5,6] [(6,vB (!x1))] [] [] (aT h (fun c1 h=> ?_) (fun c1 h=> ?_))
 ·obtain rfl:=so h
  exact rq hC [] [3,7] [(3,vB false)] [(20,sc [V.t T.nilS,V.t T.nilS])] [] (qr eR)
 ·refine qk ?_
  obtain⟨x2,hx2,h⟩:=bd h
  obtain rfl:=so h
  exact rq hC [oC [] [21,22] (y5 G hx2)] [3,8,9] [(3,vB true)] [(21,some (ar 134 1 2 aJ x2.arrays)),(22,some (ar 128 1 2 aD x2.parts)),(20,sc [ms 21 1 2 aJ x2.arrays,ms 22 1 2 aD x2.parts])] [(21,true),(22,true)] (qw (lk hC [.fz 21 [] [20]] [] [] [(20,sc [vM aJ x2.arrays,ms 22 1 2 aD x2.parts]),(21,none)] []) (qw (lk hC [.fz 22 [] [20]] [] [] [(20,some (E.cells (bL x2))),(22,none)] []) (qr eR)))
theorem bY{p}{part}{r}(h:dX n p part=some r):PQ G 214 [V.agg (bL p),vI part] (vB r):=by
 unfold dX at h
 refine pq aN Tryz.func214 rfl fun w X hC=> ?_
 refine rq hC [.z (.b (true))] [2,4] [(2,V.tp (cP p))] [] [] ?_
 obtain⟨x1,hx1,h⟩:=bd h
 obtain rfl:=so h
 exact rq hC [oN aD p.parts,oV (bH G hx1)] (fr 4 7) [(4,vB x1)] [] [] (qr eR)
theorem nV{p}{part}{loop}{r}(h:iB n p part loop=some r):PQ G 215 [V.agg (bL p),vI part,vI loop] (vB r):=by
 unfold iB at h
 refine pq aN Tryz.func215 rfl fun w X hC=> ?_
 refine rq hC [.z (.b (true))] [3,6] [(3,V.tp (cP p))] [] [] (vj h (fun x_=>bA [(6,vB x_)] [] []) (fun j1 h=> ?_) (fun x5 h=> ?_))
 ·
  obtain⟨x2,hx2,h⟩:=bd h
  refine aR h (fun c1 h=> ?_) (fun c1 h=> ?_)
  ·exact rk hC ([oV (bY G hx2)]++rF 11 c1) (fr 6 16) [(6,vB false)] [] [] (lE h)
  ·obtain⟨x3,hx3,x4,hx4,h⟩:=cT h
   exact rk hC ([oV (bY G hx2)]++rT 5 c1++[oR aD hx3]++rT 3 c1++[oN aC x3.nest,oT c1,oT c1,oV (bH G hx4),oT c1]) (fr 6 16) [(6,vB x4)] [] [] (lE h)
 ·obtain rfl:=so h
  exact qr eR
theorem aAN(G:GS)(n:Nat)(p:Prog)(part:Int)(loop:Int){r:Prog×Bool}(h:mH n p part loop=some r)(hr:r.2=true):VQ G 126 [] [V.agg (bL p),vI part,vI loop] (V.tup [V.agg [ms 0 1 2 aJ r.1.arrays,ms 1 1 2 aD r.1.parts],V.eref 1 1 2 (0+Int.toNat part) 0,vB true]) [ar 134 1 2 aJ r.1.arrays,E.tree fJ 0 1 (List.map aD r.1.parts) []]:=by
 unfold mH at h
 refine vq aN Tryz.func126 rfl fun w X β0 hC hg=> ?_
 refine rq hC [.z (.b (true)),.z (.nat 20)] [3,6,7,8] [(3,V.tp (cP p)),(6,V.ref 20 0)] [(20,sc [V.t T.nilS,V.t T.nilS])] [(20,true)] (qs (vj h (fun x_=>bA [(1,vI part),(3,V.tp (cP p)),(6,V.ref 20 0),(29,vB x_)] [(20,E.cells [V.t T.nilS,V.t T.nilS])] [20]) (fun j1 h=> ?_) (fun x5 h=> ?_)))
 ·
  obtain⟨x2,hx2,h⟩:=bd h
  refine aR h (fun c1 h=> ?_) (fun c1 h=> ?_)
  ·obtain⟨x3,hx3,h⟩:=bd h
   refine aR h (fun c2 h=> ?_) (fun c2 h=> ?_)
   ·refine aR h (fun c3 h=> ?_) (fun c3 h=> ?_)
    ·exact rk hC ([oV (b7 G hx2)]++rF 3 c1++[oV (bY G hx3),oF c1,oF c1]++rF 3 c2++rF 5 c3++[oF c2,oF c3,oF c2]) (fr 10 20) [(29,vB false)] [] [] (lE h)
    ·obtain⟨x4,hx4,h⟩:=bd h
     exact rk hC ([oV (b7 G hx2)]++rF 3 c1++[oV (bY G hx3),oF c1,oF c1]++rF 3 c2++rT 4 c3++[oV (nV G hx4),oT c3,oF c2,oT c3,oF c2]) (fr 10 20) [(29,vB (!x4))] [] [] (lE h)
   ·exact rk hC ([oV (b7 G hx2)]++rF 3 c1++[oV (bY G hx3),oF c1,oF c1]++rT 5 c2) (fr 10 20) [(29,vB true)] [] [] (lE h)
  ·exact rk hC ([oV (b7 G hx2)]++rT 5 c1++sT 5) (fr 10 20) [(29,vB true)] [] [] (lE h)
 ·refine aT h (fun c4 h=> ?_) (fun c4 h=> ?_)
  ·obtain rfl:=so h
   cases hr
  ·refine qk ?_
   obtain⟨x6,hx6,x7,hx7,h⟩:=cT h
   obtain rfl:=so h
   exact rq hC [oC [] [21,22] (wH G hx6),.z (.nat 23)] [9,31,32] [(9,V.ref 23 0)] [(21,some (ar 134 1 2 aJ x6.arrays)),(22,some (E.tree fJ 0 1 (List.map aD x6.parts) [])),(23,sc [ms 21 1 2 aJ x6.arrays,ms 22 1 2 aD x6.parts])] [(21,true),(22,true),(23,true)] (qw (lk hC [.rn 21 0 [] [23]] [] [] [(23,sc [ms 0 1 2 aJ x6.arrays,ms 22 1 2 aD x6.parts]),(21,none),(0,some (ar 134 1 2 aJ x6.arrays))] [(0,true)]) (qw (lk hC [.rn 22 1 [] [23]] [] [] [(23,sc [ms 0 1 2 aJ x6.arrays,ms 1 1 2 aD x6.parts]),(22,none),(1,some (E.tree fJ 0 1 (List.map aD x6.parts) []))] [(1,true)]) (qs (dk hC bD [oQ (l7 aD hx7)] [7,8,33,34,35,36,37] [(7,V.eref 1 1 2 (0+Int.toNat part) 0),(8,vB true)] [(20,sc [ms 0 1 2 aJ x6.arrays,ms 1 1 2 aD x6.parts])] [] (qr eW)))))
theorem aAO(G:GS)(n:Nat)(p:Prog)(part:Int)(loop:Int){r:Prog×Bool}(h:mH n p part loop=some r)(hr:r.2=false):PQ G 126 [V.agg (bL p),vI part,vI loop] (V.tup [V.agg [vM aJ [],vM aD []],V.t T.nilP,vB false]):=by
 unfold mH at h
 refine pq aN Tryz.func126 rfl fun w X hC=> ?_
 refine rq hC [.z (.b (true)),.z (.nat 20)] [3,6,7,8] [(3,V.tp (cP p)),(6,V.ref 20 0)] [(20,sc [V.t T.nilS,V.t T.nilS])] [(20,true)] (qs (vj h (fun x_=>bA [(1,vI part),(3,V.tp (cP p)),(6,V.ref 20 0),(29,vB x_)] [(20,E.cells [V.t T.nilS,V.t T.nilS])] [20]) (fun j1 h=> ?_) (fun x5 h=> ?_)))
 ·
  obtain⟨x2,hx2,h⟩:=bd h
  refine aR h (fun c1 h=> ?_) (fun c1 h=> ?_)
  ·obtain⟨x3,hx3,h⟩:=bd h
   refine aR h (fun c2 h=> ?_) (fun c2 h=> ?_)
   ·refine aR h (fun c3 h=> ?_) (fun c3 h=> ?_)
    ·exact rk hC ([oV (b7 G hx2)]++rF 3 c1++[oV (bY G hx3),oF c1,oF c1]++rF 3 c2++rF 5 c3++[oF c2,oF c3,oF c2]) (fr 10 20) [(29,vB false)] [] [] (lE h)
    ·obtain⟨x4,hx4,h⟩:=bd h
     exact rk hC ([oV (b7 G hx2)]++rF 3 c1++[oV (bY G hx3),oF c1,oF c1]++rF 3 c2++rT 4 c3++[oV (nV G hx4),oT c3,oF c2,oT c3,oF c2]) (fr 10 20) [(29,vB (!x4))] [] [] (lE h)
   ·exact rk hC ([oV (b7 G hx2)]++rF 3 c1++[oV (bY G hx3),oF c1,oF c1]++rT 5 c2) (fr 10 20) [(29,vB true)] [] [] (lE h)
  ·exact rk hC ([oV (b7 G hx2)]++rT 5 c1++sT 5) (fr 10 20) [(29,vB true)] [] [] (lE h)
 ·refine aT h (fun c4 h=> ?_) (fun c4 h=> ?_)
  ·obtain rfl:=so h
   exact rq hC [] [7,8,30] [(7,V.t T.nilP),(8,vB false)] [(20,sc [V.t T.nilS,V.t T.nilS])] [] (qr eR)
  ·obtain⟨x6,hx6,x7,hx7,h⟩:=cT h
   obtain rfl:=so h
   cases hr
theorem aCe{n_a0}{r}(h:sJ n n_a0=some r):PQ G 127 [vI n_a0] (vB r):=by
 unfold sJ at h
 refine pq aN Tryz.func127 rfl fun w X hC=> ?_
 refine rq hC [] [2] [] [] [] ?_
 obtain⟨x1,hx1,h⟩:=bd h
 obtain rfl:=so h
 exact rq hC [oV (bH G hx1)] [2,3,4] [(2,vB x1)] [] [] (qr eR)
theorem pG{p}{part}{loop}{r}(h:sX n p part loop=some r):PQ G 137 [V.agg (bL p),vI part,vI loop] (vB r):=by
 unfold sX at h
 refine pq aN Tryz.func137 rfl fun w X hC=> ?_
 refine rq hC [.z (.b (true))] [3,6] [(3,V.tp (cP p))] [] [] (vj h (fun x_=>bA [(6,vB x_)] [] []) (fun j1 h=> ?_) (fun x4 h=> ?_))
 ·
  obtain⟨x2,hx2,h⟩:=bd h
  refine aR h (fun c1 h=> ?_) (fun c1 h=> ?_)
  ·exact rk hC ([oV (cM G hx2)]++rF 3 c1++sF 19) (fr 6 29) [(6,vB false)] [] [] (lE h)
  ·refine aR h (fun c2 h=> ?_) (fun c2 h=> ?_)
   ·exact rk hC ([oV (cM G hx2)]++rT 3 c1++rF 6 c2++sF 13) (fr 6 29) [(6,vB false)] [] [] (lE h)
   ·refine aR h (fun c3 h=> ?_) (fun c3 h=> ?_)
    ·exact rk hC ([oV (cM G hx2)]++rT 3 c1++rT 4 c2++[oN aD p.parts,oT c2,oT c2]++rF 3 c3++sF 10) (fr 6 29) [(6,vB false)] [] [] (lE h)
    ·refine aR h (fun c4 h=> ?_) (fun c4 h=> ?_)
     ·exact rk hC ([oV (cM G hx2)]++rT 3 c1++rT 4 c2++[oN aD p.parts,oT c2,oT c2]++rT 3 c3++rF 10 c4) (fr 6 29) [(6,vB false)] [] [] (lE h)
     ·obtain⟨x3,hx3,h⟩:=bd h
      exact rk hC ([oV (cM G hx2)]++rT 3 c1++rT 4 c2++[oN aD p.parts,oT c2,oT c2]++rT 3 c3++rT 5 c4++[oR aD hx3]++rT 3 c4++[oN aC x3.nest,oT c4,oT c4]) (fr 6 29) [(6,vB (decide (loop<(x3.nest.length:Int))))] [] [] (lE h)
 ·obtain rfl:=so h
  exact qr eR
theorem aBU{p}{part}{many}{parts}{r}(h:rD n p part many parts=some r):PQ G 139 [V.agg (bL p),vI part,vI many,vM aD parts] (V.tup [V.agg (bL r.1),vB r.2]):=by
 unfold rD at h
 refine pq aN Tryz.func139 rfl fun w X hC=> ?_
 refine rq hC [.z (.b (true)),.z (.nat 20)] [4,8,9] [(4,V.tp (cP p)),(8,V.ref 20 0)] [(20,sc [V.t T.nilS,V.t T.nilS])] [(20,true)] ?_
 obtain⟨x1,hx1,h⟩:=bd h
 refine rq hC [oC [] [21,22] (uH G hx1),.z (.nat 23)] [10,12,13] [(10,V.ref 23 0)] [(21,some (ar 134 1 2 aJ x1.arrays)),(22,some (E.tree l3 2 1 (List.map aD x1.parts) [])),(23,sc [ms 21 1 2 aJ x1.arrays,ms 22 1 2 aD x1.parts])] [(21,true),(22,true),(23,true)] (rq hC [.z (.nat 24)] [11,14,15,16] [(11,V.ref 24 0)] [(24,sc [ms 21 1 2 aJ x1.arrays,V.t T.nilS])] [(24,true)] (qs (qw (lk hC [.shd 22,.fz 22 [] [23]] [] [] [(22,none),(23,sc [ms 21 1 2 aJ x1.arrays,vM aD x1.parts])] []) ?_)))
 obtain⟨x2,hx2,x3,hx3,x4,hx4,h⟩:=jH h
 obtain⟨x5,hx5,x6,hx6,h⟩:=cT h
 refine dk hC bD [.z (.nat 25),oA (u5 aD hx2),oQ (bO (r:=aD) 2 bU x1.parts),oA (aO aD hx3),oQ (bO (r:=aD) 2 bU []),oQ (bO (r:=aD) 2 bU x2),oA (aO aD hx4),oQ (bO (r:=aD) 2 bU x3),oQ (bO (r:=aD) 2 bU parts),oA (aEo aD hx5),oQ (bO (r:=aD) 2 bU x1.parts),oA (aO aD hx6),oQ (bO (r:=aD) 2 bU x4),oQ (bO (r:=aD) 2 bU x5)] (fr 17 16) [] [(25,some (ar 128 4 2 aD x6)),(24,sc [ms 21 1 2 aJ x1.arrays,ms 25 4 2 aD x6])] [(25,true)] (qs ?_)
 obtain⟨x7,hx7,h⟩:=bd h
 refine rq hC [.z (.at 3),.z (.fz 21 [] [23,24]),.z (.at 3),.z (.fz 25 [] [24]),oV (cM G hx7)] [33,34,35] [(35,vB (!x7))] [(23,some (E.cells (bL x1))),(24,sc [vM aJ x1.arrays,vM aD x6]),(21,none),(25,none)] [] (aT h (fun c1 h=> ?_) (fun c1 h=> ?_))
 ·obtain rfl:=so h
  exact rq hC [] [9,36] [(9,vB false)] [(20,sc [V.t T.nilS,V.t T.nilS])] [] (qr eR)
 ·refine qk ?_
  obtain⟨x8,hx8,h⟩:=bd h
  obtain rfl:=so h
  exact rq hC [oC [] [26,27] (uH G hx8)] [9,37,38] [(9,vB true)] [(26,some (ar 134 1 2 aJ x8.arrays)),(27,some (E.tree l3 2 1 (List.map aD x8.parts) [])),(20,sc [ms 26 1 2 aJ x8.arrays,ms 27 1 2 aD x8.parts])] [(26,true),(27,true)] (qw (lk hC [.fz 26 [] [20]] [] [] [(20,sc [vM aJ x8.arrays,ms 27 1 2 aD x8.parts]),(26,none)] []) (qw (lk hC [.shd 27,.fz 27 [] [20]] [] [] [(27,none),(20,some (E.cells (bL x8)))] []) (qr eR)))
theorem aBV{a}{v}{r}(h:zX n a v=some r):PQ G 334 [V.agg (aK a),vI v] (V.agg (aK r)):=by
 unfold zX at h
 refine pq aN Tryz.func334 rfl fun w X hC=> ?_
 refine rq hC [.z (.b (true)),.z (.nat 20)] [2,4] [(2,V.tp (aQ a)),(4,V.ref 20 0)] [(20,sc [V.t T.nilS,vI 0])] [(20,true)] ?_
 obtain⟨x1,hx1,h⟩:=bd h
 refine rq hC [oC [] [21] (lA G hx1),.z (.nat 22)] [5,6,7] [(5,V.ref 22 0)] [(21,some (ar 3 1 1 rI x1.coefs)),(22,sc [ms 21 1 1 rI x1.coefs,vI x1.const])] [(21,true),(22,true)] (qs ?_)
 obtain⟨x2,hx2,x3,hx3,x4,hx4,h⟩:=jH h
 refine dk hC bD [oR rI hx2,oQ (l7 rI hx3),oX rI hx3,.z (.rows (List.map rI x4)),oQ (str rI hx4)] (fr 8 10) [] [(21,some (ar 3 1 1 rI x4))] [] (qw (xC hC [.lenc 22 0 (List.map rI x4).length] [] [] [(22,sc [ms 21 1 1 rI x4,vI x1.const])] [] (a1 (jV rI hx4)) (by kernel_rfl)) (qs ?_))
 obtain⟨x5,hx5,x6,hx6,x7,hx7,h⟩:=jH h
 obtain rfl:=so h
 exact dk hC bD [oR rI hx5,oQ (l7 rI hx6),oX rI hx6,.z (.rows (List.map rI x7)),oQ (str rI hx7)] (fr 18 10) [] [(21,some (ar 3 1 1 rI x7))] [] (qw (xC hC [.lenc 22 0 (List.map rI x7).length] [] [] [(22,sc [ms 21 1 1 rI x7,vI x1.const])] [] (a1 (jV rI hx7)) (by kernel_rfl)) (rq hC [.z (.at 2),.z (.fz 21 [] [22])] [28] [] [(22,sc [vM rI x7,vI x1.const]),(21,none),(20,sc [vM rI x7,vI x1.const])] [] (qr eR)))
theorem aAC{a}{v}{b}{r}(h:o4 n a v b=some r):PQ G 335 [V.agg (aK a),vI v,V.agg (aK b)] (V.agg (aK r)):=by
 unfold o4 at h
 refine pq aN Tryz.func335 rfl fun w X hC=> ?_
 refine rq hC [.z (.b (true)),.z (.b (true)),.z (.nat 20)] [3,5,6] [(3,V.tp (aQ a)),(5,V.tp (aQ b)),(6,V.ref 20 0)] [(20,sc [V.t T.nilS,vI 0])] [(20,true)] (qs ?_)
 obtain⟨x1,hx1,h⟩:=bd h
 refine dk hC bD [.z (.nat 21),oA (aO rI hx1),.z (.nat 22),oQ (bO (r:=rI) 1 (fun _=>rfl) []),oQ (bO (r:=rI) 1 (fun _=>rfl) a.coefs)] (fr 7 8) [(7,V.ref 22 0)] [(21,some (ar 3 2 1 rI x1)),(22,sc [ms 21 2 1 rI x1,vI a.const])] [(21,true),(22,true)] ?_
 obtain⟨x2,hx2,x3,hx3,h⟩:=cT h
 refine rq hC [oQ (l7 rI hx2),oX rI hx2,.z (.rows (List.map rI x3)),.z (.lenc 22 0 (List.map rI x3).length),oQ (str rI hx3),oQ (jV rI hx3)] (fr 15 4) [] [(21,some (ar 3 2 1 rI x3)),(22,sc [ms 21 2 1 rI x3,vI a.const])] [] (qs ?_)
 obtain⟨x4,hx4,x5,hx5,h⟩:=cT h
 obtain rfl:=so h
 exact dk hC bD [.z (.at 9),.z (.fz 21 [] [22]),oR rI hx4,oC [] [23] (eS G hx5)] (fr 19 8) [] [(22,sc [vM rI x3,vI a.const]),(21,none),(23,some (ar 3 1 1 rI x5.coefs)),(20,sc [ms 23 1 1 rI x5.coefs,vI x5.const])] [(23,true)] (qw (lk hC [.fz 23 [] [20]] [] [] [(20,some (E.cells (aK x5))),(23,none)] []) (qr eR))
theorem G6{a}{way}{v}{b}{r}(h:fS n a way v b=some r):PQ G 325 [V.agg (aK a),vI way,vI v,V.agg (aK b)] (V.agg (aK r)):=by
 unfold fS at h
 refine pq aN Tryz.func325 rfl fun w X hC=> ?_
 refine rq hC [.z (.b (true)),.z (.b (true)),.z (.nat 20)] [4,7,8] [(4,V.tp (aQ a)),(7,V.tp (aQ b)),(8,V.ref 20 0)] [(20,sc [V.t T.nilS,vI 0])] [(20,true)] (qs (rq hC [] [11] [(11,vI way)] [] [] (qb (rq hC [] [12,13] [(12,vB (decide (way=0)))] [] [] (aT h (fun c1 h=> ?_) (fun c1 h=> ?_))))))
 ·obtain⟨x1,hx1,h⟩:=bd h
  obtain rfl:=so h
  exact rq hC [oV (aBV G hx1)] [14,15,16] [] [(20,some (E.cells (aK x1)))] [] (qr eR)
 ·refine rq hC [] [17,18] [(17,vB (decide (way=1)))] [] [] (aT h (fun c2 h=> ?_) (fun c2 h=> ?_))
  ·obtain⟨x2,hx2,h⟩:=bd h
   obtain rfl:=so h
   exact rq hC [oV (aAC G hx2)] (fr 19 4) [] [(20,some (E.cells (aK x2)))] [] (qr eR)
  ·refine qk (rq hC [.z (.nat 21)] [9,23,24,25] [(9,V.ref 21 0)] [(21,sc [V.t T.nilS,vI a.const])] [(21,true)] (qs (rq hC [] [10] [(10,vI 0)] [] [] (qb (qw (lk hC [.growc 21 0 22 3] [] [] [(22,some (ar 3 1 1 rI [])),(21,sc [ms 22 1 1 rI [],vI a.const])] [(22,true)]) ?_)))))
   refine bC (γ:=Nat) h (fun x_ g_=>bA [(2,vI v),(4,V.tp (aQ a)),(8,V.ref 20 0),(9,V.ref 21 0),(10,vI x_.2)] [(20,E.cells [V.t T.nilS,vI 0]),(21,E.cells [ms 22 g_ 1 rI x_.1,vI a.const]),(22,ar 3 g_ 1 rI x_.1)] [20,21,22]) 1 (lS) ?_
   rintro again6 ⟨x3,x4⟩ g5 h
   refine qs (rq hC [] [26,27] [(27,vB (decide (x4<4)))] [] [] (aT h (fun c3 h=> ?_) (fun c3 h=> ?_)))
   ·refine qk (vj h (fun x_=>bA [(2,vI v),(4,V.tp (aQ a)),(8,V.ref 20 0),(9,V.ref 21 0),(10,vI x4)] [(20,E.cells [V.t T.nilS,vI 0]),(21,E.cells [ms 22 (g5+1) 1 rI x_,vI a.const]),(22,ar 3 (g5+1) 1 rI x_)] [20,21,22]) (fun j7 h=> ?_) (fun x13 h=> ?_))
    ·
     refine qb (qb (rq hC [] (fr 41 4) [(41,vB (decide (x4<v)))] [] [] (aT h (fun c4 h=> ?_) (fun c4 h=> ?_))))
     ·obtain⟨x8,hx8,x9,hx9,h⟩:=cT h
      exact dk hC bD [oR rI hx8,.z (.int 0),oA (aO rI hx9),oQ (bO (r:=rI) 1 (fun _=>rfl) x3),oQ (bO (r:=rI) 1 (fun _=>rfl) [x8])] (fr 45 10) [] [(22,some (ar 3 (g5+1) 1 rI x9)),(21,sc [ms 22 (g5+1) 1 rI x9,vI a.const])] [] (lE h)
     ·refine rq hC [] (fr 55 4) [(55,vB (decide (x4=v)))] [] [] (aT h (fun c5 h=> ?_) (fun c5 h=> ?_))
      ·obtain⟨x10,hx10,h⟩:=bd h
       exact rk hC [.z (.int 0),oA (aO rI hx10),oQ (bO (r:=rI) 1 (fun _=>rfl) x3),oQ (bO (r:=rI) 1 (fun _=>rfl) [0])] (fr 59 5) [] [(22,some (ar 3 (g5+1) 1 rI x10)),(21,sc [ms 22 (g5+1) 1 rI x10,vI a.const])] [] (lE h)
      ·obtain⟨x11,hx11,x12,hx12,h⟩:=cT h
       exact dk hC bD [oR rI hx11,.z (.int 0),oA (aO rI hx12),oQ (bO (r:=rI) 1 (fun _=>rfl) x3),oQ (bO (r:=rI) 1 (fun _=>rfl) [x11])] (fr 30 11) [] [(22,some (ar 3 (g5+1) 1 rI x12)),(21,sc [ms 22 (g5+1) 1 rI x12,vI a.const])] [] (lE h)
    ·exact rk hC [] [10,28,29] [(10,vI (wr (x4+1)))] [] [] ⟨(x13,wr (x4+1)),(g5+1),h,lS⟩
   ·obtain rfl:=so h
    exact cQ (rq hC [.z (.at 2),.z (.fz 22 [] [21])] [64] [] [(21,sc [vM rI x3,vI a.const]),(22,none),(20,sc [vM rI x3,vI a.const])] [] (qr eR))
theorem uF{list}{way}{v}{b}{r}(h:m7 n list way v b=some r):VQ G 304 [] [vM aA list,vI way,vI v,V.agg (aK b)] (ms 0 1 2 aA r) [ar 109 1 2 aA r]:=by
 unfold m7 at h
 refine vq aN Tryz.func304 rfl fun w X β0 hC hg=> ?_
 refine rq hC [.z (.b (true))] [7,8] [(7,V.tp (aQ b))] [] [] (rq hC [.z (.nat 20)] [9,11] [(9,ms 20 1 2 aA [])] [(20,some (ar 109 1 2 aA []))] [(20,true)] (qs (rq hC [] [10] [(10,vI 0)] [] [] (qb (bC (γ:=Nat) h (fun x_ g_=>bA [(0,vM aA list),(1,vI way),(2,vI v),(7,V.tp (aQ b)),(9,ms 20 g_ 2 aA x_.1),(10,vI x_.2)] [(20,ar 109 g_ 2 aA x_.1)] [20]) 1 (lS) ?_)))))
 rintro again4 ⟨x1,x2⟩ g3 h
 refine qs (rq hC [oN aA list] (fr 12 4) [(15,vB (decide (x2<(list.length:Int))))] [] [] (aT h (fun c1 h=> ?_) (fun c1 h=> ?_)))
 ·refine qk (qs (qb ?_))
  obtain⟨x5,hx5,x6,hx6,x7,hx7,h⟩:=jH h
  exact dk hC bD [oR aA hx5,oV (G6 G hx6),.z (.int 0),oA (aO aA hx7),oQ (bO (r:=aA) 2 aS x1),oQ (bO (r:=aA) 2 aS [x6])] [9,18,19,20,21,22,23,24,25,26,27,28] [(9,ms 20 (g3+1) 2 aA x7)] [(20,some (ar 109 (g3+1) 2 aA x7))] [] (rk hC [] [10,16,17] [(10,vI (wr (x2+1)))] [] [] ⟨(x7,wr (x2+1)),(g3+1),h,lS⟩)
 ·obtain rfl:=so h
  exact cQ (rq hC [] [8,29] [(8,ms 20 g3 2 aA x1)] [] [] (qw (lk hC [.ren 8 20 0] [8] [(8,ms 0 1 2 aA x1)] [(0,some (ar 109 1 2 aA x1)),(20,none)] [(0,true)]) (qr eW)))
theorem v7{a}{way}{v}{b}{r}(h:iS n a way v b=some r):PQ G 302 [V.agg (b8 a),vI way,vI v,V.agg (aK b)] (V.agg (b8 r)):=by
 unfold iS at h
 refine pq aN Tryz.func302 rfl fun w X hC=> ?_
 refine rq hC [.z (.b (true)),.z (.b (true)),.z (.nat 20)] [4,7,8] [(4,V.tp (dC a)),(7,V.tp (aQ b)),(8,V.ref 20 0)] [(20,sc [vS [],V.t T.nilS])] [(20,true)] (qs ?_)
 obtain⟨x1,hx1,h⟩:=bd h
 obtain rfl:=so h
 exact dk hC bD [oC [] [21] (uF G hx1)] (fr 9 9) [] [(21,some (ar 109 1 2 aA x1)),(20,sc [vS a.array,ms 21 1 2 aA x1])] [(21,true)] (qw (lk hC [.fz 21 [] [20]] [] [] [(20,sc [vS a.array,vM aA x1]),(21,none)] []) (qr eR))
theorem aBY(G:GS): ∀(n:Nat) (e:Expr) (way:Int) (v:Int) (b:Affine) {r:Expr} (h:s_l8Expr n e way v b=some r),PQ G 303 [V.agg (cN e),vI way,vI v,V.agg (aK b)] (V.agg (cN r)):=by
 intro n
 induction n with
 |zero=>intro e way v b r h;rw [s_l8Expr.eq_def] at h;cases h
 |succ n ih=>
  intro e way v b r h
  rw [s_l8Expr.eq_def] at h;dsimp only at h
  refine pq aN Tryz.func303 rfl fun w X hC=> ?_
  refine rq hC [.z (.b (true)),.z (.b (true)),.z (.nat 20)] [4,7,8] [(4,V.tp (eU e)),(7,V.tp (aQ b)),(8,V.ref 20 0)] [(20,sc [vI 0,vI 0,V.t T.nilS,vI 0,vS [],V.t T.nilS,V.t T.nilS])] [(20,true)] (rq hC [.z (.nat 21)] [9,11,12,13,14,15] [(9,V.ref 21 0)] [(21,sc [vI e.kind,vI e.num,V.t T.nilS,vI 0,vS [],V.t T.nilS,V.t T.nilS])] [(21,true)] (vj h (fun x_=>bA [(1,vI way),(2,vI v),(4,V.tp (eU e)),(7,V.tp (aQ b)),(8,V.ref 20 0),(9,V.ref 21 0)] [(20,E.cells [vI 0,vI 0,V.t T.nilS,vI 0,vS [],V.t T.nilS,V.t T.nilS]),(21,E.cells [vI e.kind,vI e.num,vM rI x_.1,vI x_.2,vS [],V.t T.nilS,V.t T.nilS])] [20,21]) (fun j1 h=> ?_) ?_))
  ·
   refine rq hC [] [16,17,18] [(18,vB (decide (e.kind=2)))] [] [] (aT h (fun c1 h=> ?_) (fun c1 h=> ?_))
   ·obtain⟨x2,hx2,h⟩:=bd h
    exact rk hC [oV (G6 G hx2)] (fr 19 7) [] [(21,sc [vI e.kind,vI e.num,vM rI x2.coefs,vI x2.const,vS [],V.t T.nilS,V.t T.nilS])] [] (lE h)
   ·exact qk (lE h)
  ·rintro⟨x3,x4⟩ h
   refine vj h (fun x_=>bA [(1,vI way),(2,vI v),(4,V.tp (eU e)),(7,V.tp (aQ b)),(8,V.ref 20 0),(9,V.ref 21 0)] [(20,E.cells [vI 0,vI 0,V.t T.nilS,vI 0,vS [],V.t T.nilS,V.t T.nilS]),(21,E.cells [vI e.kind,vI e.num,vM rI x3,vI x4,vS x_.1,vM aA x_.2,V.t T.nilS])] [20,21]) (fun j5 h=> ?_) ?_
   ·
    refine rq hC [] [26,27,28] [(28,vB (decide (e.kind=3)))] [] [] (aT h (fun c2 h=> ?_) (fun c2 h=> ?_))
    ·obtain⟨x6,hx6,h⟩:=bd h
     exact rk hC [oV (v7 G hx6)] (fr 29 7) [] [(21,sc [vI e.kind,vI e.num,vM rI x3,vI x4,vS x6.array,vM aA x6.subs,V.t T.nilS])] [] (lE h)
    ·exact qk (lE h)
   ·rintro⟨x7,x8⟩ h
    refine qs (rq hC [] [10] [(10,vI 0)] [] [] (qb (qw (lk hC [.growc 21 6 22 112] [] [] [(22,some (ar 112 1 7 aH [])),(21,sc [vI e.kind,vI e.num,vM rI x3,vI x4,vS x7,vM aA x8,ms 22 1 7 aH []])] [(22,true)]) (bC (γ:=Nat) h (fun x_ g_=>bA [(1,vI way),(2,vI v),(4,V.tp (eU e)),(7,V.tp (aQ b)),(8,V.ref 20 0),(9,V.ref 21 0),(10,vI x_.2)] [(20,E.cells [vI 0,vI 0,V.t T.nilS,vI 0,vS [],V.t T.nilS,V.t T.nilS]),(21,E.cells [vI e.kind,vI e.num,vM rI x3,vI x4,vS x7,vM aA x8,ms 22 g_ 7 aH x_.1]),(22,ar 112 g_ 7 aH x_.1)] [20,21,22]) 1 (lS) ?_))))
    rintro again12 ⟨x9,x10⟩ g11 h
    refine qs (rq hC [oN aH e.kids] (fr 36 5) [(40,vB (decide (x10<(e.kids.length:Int))))] [] [] (aT h (fun c3 h=> ?_) (fun c3 h=> ?_)))
    ·refine qk (qs (qb ?_))
     obtain⟨x13,hx13,x14,hx14,x15,hx15,h⟩:=jH h
     exact dk hC bD [.z (.row (d6 x13)),oQ (eV aH hx13 (cS x13)),oV (ih x13 way v b hx14),.z (.int 2),.z (.rows (List.map aH [x14])),oQ (qK x14),oA (aO aH hx15),oQ (bO (r:=aH) 7 dJ x9),oQ (bO (r:=aH) 7 dJ [x14])] (fr 43 14) [] [(22,some (ar 112 (g11+1) 7 aH x15)),(21,sc [vI e.kind,vI e.num,vM rI x3,vI x4,vS x7,vM aA x8,ms 22 (g11+1) 7 aH x15])] [] (rk hC [] [10,41,42] [(10,vI (wr (x10+1)))] [] [] ⟨(x15,wr (x10+1)),(g11+1),h,lS⟩)
    ·obtain rfl:=so h
     exact cQ (rq hC [.z (.at 2),.z (.fz 22 [] [21])] [57] [] [(21,sc [vI e.kind,vI e.num,vM rI x3,vI x4,vS x7,vM aA x8,vM aH x9]),(22,none),(20,sc [vI e.kind,vI e.num,vM rI x3,vI x4,vS x7,vM aA x8,vM aH x9])] [] (qr eR))
theorem aB0{list}{way}{v}{b}{r}(h:rH n list way v b=some r):VQ G 269 [] [vM aG list,vI way,vI v,V.agg (aK b)] (ms 0 1 9 aG r) [ar 114 1 9 aG r]:=by
 unfold rH at h
 refine vq aN Tryz.func269 rfl fun w X β0 hC hg=> ?_
 refine rq hC [.z (.b (true))] [7,8] [(7,V.tp (aQ b))] [] [] (rq hC [.z (.nat 20)] [9,11] [(9,ms 20 1 9 aG [])] [(20,some (ar 114 1 9 aG []))] [(20,true)] (qs (rq hC [] [10] [(10,vI 0)] [] [] (qb (bC (γ:=Nat) h (fun x_ g_=>bA [(0,vM aG list),(1,vI way),(2,vI v),(7,V.tp (aQ b)),(9,ms 20 g_ 9 aG x_.1),(10,vI x_.2)] [(20,ar 114 g_ 9 aG x_.1)] [20]) 1 (lS) ?_)))))
 rintro again4 ⟨x1,x2⟩ g3 h
 refine qs (rq hC [oN aG list] (fr 12 4) [(15,vB (decide (x2<(list.length:Int))))] [] [] (aT h (fun c1 h=> ?_) (fun c1 h=> ?_)))
 ·refine qk (qs (qb ?_))
  obtain⟨x5,hx5,x6,hx6,x7,hx7,h⟩:=jH h
  obtain⟨x8,hx8,h⟩:=bd h
  exact dk hC bD [oR aG hx5,oV (v7 G hx6),oR aG hx5,oV (aBY G n x5.value way v b hx7),.z (.int 0),oA (aO aG hx8),oQ (bO (r:=aG) 9 dI x1),oQ (bO (r:=aG) 9 dI [(⟨x6,x7⟩:Stmt)])] [9,18,19,20,21,22,23,24,25,26,27,28,29,30,31,32,33,34,35,36,37,38,39] [(9,ms 20 (g3+1) 9 aG x8)] [(20,some (ar 114 (g3+1) 9 aG x8))] [] (rk hC [] [10,16,17] [(10,vI (wr (x2+1)))] [] [] ⟨(x8,wr (x2+1)),(g3+1),h,lS⟩)
 ·obtain rfl:=so h
  exact cQ (rq hC [] [8,40] [(8,ms 20 g3 9 aG x1)] [] [] (qw (lk hC [.ren 8 20 0] [8] [(8,ms 0 1 9 aG x1)] [(0,some (ar 114 1 9 aG x1)),(20,none)] [(0,true)]) (qr eW)))
theorem aBX{x}{way}{v}{b}{r}(h:oU n x way v b=some r):PQ G 270 [V.agg (jF x),vI way,vI v,V.agg (aK b)] (V.agg (jF r)):=by
 unfold oU at h
 refine pq aN Tryz.func270 rfl fun w X hC=> ?_
 refine rq hC [.z (.b (true)),.z (.b (true)),.z (.nat 20)] [4,7,8] [(4,V.tp (tG x)),(7,V.tp (aQ b)),(8,V.ref 20 0)] [(20,sc [V.t T.nilS,V.t T.nilS])] [(20,true)] (qs ?_)
 obtain⟨x1,hx1,x2,hx2,h⟩:=cT h
 obtain rfl:=so h
 exact dk hC bD [oC [] [21] (uF G hx1),oC [] [22] (uF G hx2)] (fr 9 13) [] [(21,some (ar 109 1 2 aA x1)),(22,some (ar 109 1 2 aA x2)),(20,sc [ms 21 1 2 aA x1,ms 22 1 2 aA x2])] [(21,true),(22,true)] (qw (lk hC [.fz 21 [] [20]] [] [] [(20,sc [vM aA x1,ms 22 1 2 aA x2]),(21,none)] []) (qw (lk hC [.fz 22 [] [20]] [] [] [(20,sc [vM aA x1,vM aA x2]),(22,none)] []) (qr eR)))
theorem aAt{x}{after}{way}{v}{b}{r}(h:oW n x after way v b=some r):VQ G 218 [] [V.agg (kH x),vI after,vI way,vI v,V.agg (aK b)] (V.agg [ms 0 1 2 aC r.nest,ms 1 1 9 aG r.body]) [ar 147 1 2 aC r.nest,ar 114 1 9 aG r.body]:=by
 unfold oW at h
 refine vq aN Tryz.func218 rfl fun w X β0 hC hg=> ?_
 refine rq hC [.z (.b (true)),.z (.b (true)),.z (.nat 20)] [5,9,10] [(5,V.tp (iZ x)),(9,V.tp (aQ b)),(10,V.ref 20 0)] [(20,sc [V.t T.nilS,V.t T.nilS])] [(20,true)] (qs ?_)
 obtain⟨x1,hx1,x2,hx2,x3,hx3,h⟩:=jH h
 refine dk hC bD [.z (.nat 21),oA (u5 aC hx1),oQ (bO (r:=aC) 2 bV x.nest),oA (aO aC hx2),oQ (bO (r:=aC) 2 bV []),oQ (bO (r:=aC) 2 bV x1),oC [] [22] (aB0 G hx3),.z (.nat 23)] [11,13,14,15,16,17,18,19,20,21,22,23,24,25,26] [(11,V.ref 23 0)] [(21,some (ar 147 2 2 aC x2)),(22,some (ar 114 1 9 aG x3)),(23,sc [ms 21 2 2 aC x2,ms 22 1 9 aG x3])] [(21,true),(22,true),(23,true)] (qs (rq hC [] [12,27,28] [(12,vI (wr (after+1)))] [] [] (qb (bC (γ:=Nat) h (fun x_ g_=>bA [(2,vI way),(3,vI v),(5,V.tp (iZ x)),(9,V.tp (aQ b)),(10,V.ref 20 0),(11,V.ref 23 0),(12,vI x_.2)] [(20,E.cells [V.t T.nilS,V.t T.nilS]),(21,ar 147 g_ 2 aC x_.1),(22,ar 114 1 9 aG x3),(23,E.cells [ms 21 g_ 2 aC x_.1,ms 22 1 9 aG x3])] [20,21,22,23]) 2 (lS) ?_))))
 rintro again7 ⟨x4,x5⟩ g6 h
 refine qs (rq hC [oN aC x.nest] (fr 29 5) [(33,vB (decide (x5<(x.nest.length:Int))))] [] [] (aT h (fun c1 h=> ?_) (fun c1 h=> ?_)))
 ·refine qk (qs (qb ?_))
  obtain⟨x8,hx8,x9,hx9,x10,hx10,h⟩:=jH h
  exact dk hC bD [oR aC hx8,oV (aBX G hx9),.z (.int 0),oA (aO aC hx10),oQ (bO (r:=aC) 2 bV x4),oQ (bO (r:=aC) 2 bV [x9])] (fr 36 14) [] [(21,some (ar 147 (g6+1) 2 aC x10)),(23,sc [ms 21 (g6+1) 2 aC x10,ms 22 1 9 aG x3])] [] (rk hC [] [12,34,35] [(12,vI (wr (x5+1)))] [] [] ⟨(x10,wr (x5+1)),(g6+1),h,lS⟩)
 ·obtain rfl:=so h
  exact cQ (rq hC [] [50] [] [(20,sc [ms 21 g6 2 aC x4,ms 22 1 9 aG x3])] [] (qw (lk hC [.rn 21 0 [] [20,23]] [] [] [(20,sc [ms 0 1 2 aC x4,ms 22 1 9 aG x3]),(23,sc [ms 0 1 2 aC x4,ms 22 1 9 aG x3]),(21,none),(0,some (ar 147 1 2 aC x4))] [(0,true)]) (qw (lk hC [.rn 22 1 [] [20,23]] [] [] [(20,sc [ms 0 1 2 aC x4,ms 1 1 9 aG x3]),(23,sc [ms 0 1 2 aC x4,ms 1 1 9 aG x3]),(22,none),(1,some (ar 114 1 9 aG x3))] [(1,true)]) (qr eW))))
theorem aBW{x}{loop}{by_a2}{r}(h:rE n x loop by_a2=some r):PQ G 140 [V.agg (kH x),vI loop,V.agg (aK by_a2)] (V.agg (kH r)):=by
 unfold rE at h
 refine pq aN Tryz.func140 rfl fun w X hC=> ?_
 refine rq hC [.z (.b (true)),.z (.b (true)),.z (.nat 20)] [3,5,6] [(3,V.tp (iZ x)),(5,V.tp (aQ by_a2)),(6,V.ref 20 0)] [(20,sc [V.t T.nilS,V.t T.nilS])] [(20,true)] (qs ?_)
 obtain⟨x1,hx1,x2,hx2,h⟩:=cT h
 refine dk hC bD [oC [] [21] (lD G hx1),.z (.at 3),.z (.fz 21 [13] []),oC [] [22] (eS G hx2),.z (.nat 23)] [7,12,13,14,15] [(7,V.ref 23 0)] [(21,none),(22,some (ar 3 1 1 rI x2.coefs)),(23,sc [ms 22 1 1 rI x2.coefs,vI x2.const])] [(21,true),(22,true),(23,true)] ?_
 obtain⟨x3,hx3,h⟩:=bd h
 refine rq hC [.z (.at 4),.z (.fz 22 [] [23]),oC [] [24,25] (aAt G hx3),.z (.nat 26)] [8,16,17,18,19,20] [(8,V.ref 26 0)] [(23,some (E.cells (aK x2))),(22,none),(24,some (ar 147 1 2 aC x3.nest)),(25,some (ar 114 1 9 aG x3.body)),(26,sc [ms 24 1 2 aC x3.nest,ms 25 1 9 aG x3.body])] [(24,true),(25,true),(26,true)] (rq hC [.z (.nat 27)] [9,21] [(9,V.ref 27 0)] [(27,sc [V.t T.nilS,V.t T.nilS])] [(27,true)] (qs (rq hC [] [10] [(10,vI 0)] [] [] (qb (qw (lk hC [.growc 27 0 28 109] [] [] [(28,some (ar 109 1 2 aA [])),(27,sc [ms 28 1 2 aA [],V.t T.nilS])] [(28,true)]) ?_)))))
 refine bC (γ:=Nat) h (fun x_ g_=>bA [(1,vI loop),(3,V.tp (iZ x)),(5,V.tp (aQ by_a2)),(6,V.ref 20 0),(8,V.ref 26 0),(9,V.ref 27 0),(10,vI x_.2)] [(20,E.cells [V.t T.nilS,V.t T.nilS]),(23,E.cells (aK x2)),(24,ar 147 1 2 aC x3.nest),(25,ar 114 1 9 aG x3.body),(26,E.cells [ms 24 1 2 aC x3.nest,ms 25 1 9 aG x3.body]),(27,E.cells [ms 28 g_ 2 aA x_.1,V.t T.nilS]),(28,ar 109 g_ 2 aA x_.1)] [20,21,22,23,24,25,26,27,28]) 1 (lS) ?_
 rintro again7 ⟨x4,x5⟩ g6 h
 refine qs ?_
 obtain⟨x8,hx8,h⟩:=bd h
 refine rq hC [oR aC hx8,oN aA x8.lo] (fr 22 9) [(30,vB (decide (x5<(x8.lo.length:Int))))] [] [] (aT h (fun c1 h=> ?_) (fun c1 h=> ?_))
 ·refine qk (qs (qb ?_))
  obtain⟨x9,hx9,x10,hx10,x11,hx11,h⟩:=jH h
  exact dk hC bD [oR aC hx8,oR aA hx9,oC [] [29] (eS G hx10),.z (.at 4),.z (.fz 29 [45] []),.z (.int 0),oA (aO aA hx11),oQ (bO (r:=aA) 2 aS x4),oQ (bO (r:=aA) 2 aS [x10])] (fr 33 16) [] [(29,none),(28,some (ar 109 (g6+1) 2 aA x11)),(27,sc [ms 28 (g6+1) 2 aA x11,V.t T.nilS])] [(29,true)] (rk hC [] [10,31,32] [(10,vI (wr (x5+1)))] [] [] ⟨(x11,wr (x5+1)),(g6+1),h,lS⟩)
 ·refine cQ (qs (rq hC [] [11] [(11,vI 0)] [] [] (qb (qw (lk hC [.growc 27 1 29 109] [] [] [(29,some (ar 109 1 2 aA [])),(27,sc [ms 28 g6 2 aA x4,ms 29 1 2 aA []])] [(29,true)]) (bC (γ:=Nat) h (fun x_ g_=>bA [(1,vI loop),(3,V.tp (iZ x)),(5,V.tp (aQ by_a2)),(6,V.ref 20 0),(8,V.ref 26 0),(9,V.ref 27 0),(11,vI x_.2)] [(20,E.cells [V.t T.nilS,V.t T.nilS]),(23,E.cells (aK x2)),(24,ar 147 1 2 aC x3.nest),(25,ar 114 1 9 aG x3.body),(26,E.cells [ms 24 1 2 aC x3.nest,ms 25 1 9 aG x3.body]),(27,E.cells [ms 28 g6 2 aA x4,ms 29 g_ 2 aA x_.1]),(28,ar 109 g6 2 aA x4),(29,ar 109 g_ 2 aA x_.1)] [20,21,22,23,24,25,26,27,28,29]) 1 (lS) ?_)))))
  rintro again15 ⟨x12,x13⟩ g14 h
  refine qs (rq hC [oR aC hx8,oN aA x8.hi] (fr 49 9) [(57,vB (decide (x13<(x8.hi.length:Int))))] [] [] (aT h (fun c2 h=> ?_) (fun c2 h=> ?_)))
  ·refine qk (qs (qb ?_))
   obtain⟨x16,hx16,x17,hx17,x18,hx18,h⟩:=jH h
   exact dk hC bD [oR aC hx8,oR aA hx16,oC [] [30] (eS G hx17),.z (.at 4),.z (.fz 30 [72] []),.z (.int 0),oA (aO aA hx18),oQ (bO (r:=aA) 2 aS x12),oQ (bO (r:=aA) 2 aS [x17])] (fr 60 16) [] [(30,none),(29,some (ar 109 (g14+1) 2 aA x18)),(27,sc [ms 28 g6 2 aA x4,ms 29 (g14+1) 2 aA x18])] [(30,true)] (rk hC [] [11,58,59] [(11,vI (wr (x13+1)))] [] [] ⟨(x18,wr (x13+1)),(g14+1),h,lS⟩)
  ·refine cQ ?_
   obtain⟨x19,hx19,x20,hx20,h⟩:=cT h
   obtain rfl:=so h
   exact rq hC [.z (.at 3),.z (.fz 28 [] [27]),.z (.at 3),.z (.fz 29 [] [27]),oQ (l7 aC hx19),oX aC hx19,.z (.rows (List.map aC x20)),.z (.lenc 26 0 (List.map aC x20).length),oQ (str aC hx20),oQ (jV aC hx20)] (fr 76 5) [] [(27,sc [vM aA x4,vM aA x12]),(28,none),(29,none),(24,some (ar 147 1 2 aC x20)),(26,sc [ms 24 1 2 aC x20,ms 25 1 9 aG x3.body])] [] (rq hC [.z (.at 2),.z (.fz 24 [] [26]),.z (.at 2),.z (.fz 25 [] [26])] [81] [] [(26,sc [vM aC x20,vM aG x3.body]),(24,none),(25,none),(20,sc [vM aC x20,vM aG x3.body])] [] (qr eR))
theorem I7(G:GS)(n:Nat)(a:Affine)(c0__a1:Int)(c1__a2:Int){r:Affine}(h:iA n a c0__a1 c1__a2=some r):PQ G 142 [V.agg (aK a),V.tp [T.int .i64 c0__a1],V.tp [T.int .i64 c1__a2]] (V.agg (aK r)):=by
 unfold iA at h
 refine pq aN Tryz.func142 rfl fun w X hC=> ?_
 refine rq hC [.z (.b (true)),.z (.nat 20)] [3,4] [(3,V.tp (aQ a)),(4,V.ref 20 0)] [(20,sc [V.t T.nilS,vI 0])] [(20,true)] (qs ?_)
 obtain⟨x1,hx1,x2,hx2,h⟩:=cT h
 obtain rfl:=so h
 exact dk hC bD [oC [] [21] (qQ G hx1),.z (.at 2),.z (.fz 21 [8] []),oC [] [22] (U8 G hx2)] (fr 5 5) [] [(21,none),(22,some (ar 3 1 1 rI x2.coefs)),(20,sc [ms 22 1 1 rI x2.coefs,vI x2.const])] [(21,true),(22,true)] (qw (lk hC [.fz 22 [] [20]] [] [] [(20,some (E.cells (aK x2))),(22,none)] []) (qr eR))
theorem I6(G:GS)(n:Nat)(a:Affine)(c0__a1:Int)(c1__a2:Affine){r:Affine}(h:fN n a c0__a1 c1__a2=some r):PQ G 143 [V.agg (aK a),V.tp [T.int .i64 c0__a1],V.tp (aQ c1__a2)] (V.agg (aK r)):=by
 unfold fN at h
 refine pq aN Tryz.func143 rfl fun w X hC=> ?_
 refine rq hC [.z (.b (true)),.z (.nat 20)] [3,4] [(3,V.tp (aQ a)),(4,V.ref 20 0)] [(20,sc [V.t T.nilS,vI 0])] [(20,true)] ?_
 obtain⟨x1,hx1,h⟩:=bd h
 obtain rfl:=so h
 exact rq hC [oC [] [21] (aDD G hx1)] (fr 5 5) [] [(21,some (ar 3 1 1 rI x1.coefs)),(20,sc [ms 21 1 1 rI x1.coefs,vI x1.const])] [(21,true)] (qw (lk hC [.fz 21 [] [20]] [] [] [(20,some (E.cells (aK x1))),(21,none)] []) (qr eR))
theorem wG{p}{part}{loop}{by_}{r}(h:iV n p part loop by_=some r):PQ G 56 [V.agg (bL p),vI part,vI loop,vI by_] (V.tup [V.agg (bL r.1),vB r.2]):=by
 unfold iV at h
 refine pq aN Tryz.func56 rfl fun w X hC=> ?_
 refine rq hC [.z (.b (true)),.z (.b (true)),.z (.b (true)),.z (.nat 20)] [4,6,7,8,9] [(4,V.tp (cP p)),(6,V.tp [T.int .i64 loop]),(7,V.tp [T.int .i64 by_]),(8,V.ref 20 0)] [(20,sc [V.t T.nilS,V.t T.nilS])] [(20,true)] (qs ?_)
 obtain⟨x1,hx1,h⟩:=bd h
 refine aR h (fun c1 h=> ?_) (fun c1 h=> ?_)
 ·refine rk hC [oV (aAO G n p part loop hx1 c1),.z (.nat 21)] [10,11,12,14,15,16,17,18,19,20,21] [(10,V.ref 21 0),(11,V.t T.nilP),(12,vB false)] [(21,sc [vM aJ [],vM aD []])] [(21,true)] (qs (qs (dk hC bD (sT 16) (fr 22 21) [(42,vB true)] [] [] (zM (b:=true) (by kernel_rfl) (fun c2=> ?_) (fun c2=>by cases c2)))))
  obtain rfl:=so h
  exact rq hC [] [9,43] [(9,vB false)] [(20,sc [V.t T.nilS,V.t T.nilS])] [] (qr eR)
 ·refine rk hC [oC [] [21,22] (aAN G n p part loop hx1 c1),.z (.nat 23)] [10,11,12,14,15,16,17,18,19,20,21] [(10,V.ref 23 0),(11,V.eref 22 1 2 (0+Int.toNat part) 0),(12,vB true)] [(21,some (ar 134 1 2 aJ x1.1.arrays)),(22,some (E.tree fJ 0 1 (List.map aD x1.1.parts) [])),(23,sc [ms 21 1 2 aJ x1.1.arrays,ms 22 1 2 aD x1.1.parts])] [(21,true),(22,true),(23,true)] (qs (vj h (fun x_=>bA [(6,V.tp [T.int .i64 loop]),(7,V.tp [T.int .i64 by_]),(8,V.ref 20 0),(10,V.ref 23 0),(11,V.eref 22 1 2 (0+Int.toNat part) 0),(42,vB x_)] [(20,E.cells [V.t T.nilS,V.t T.nilS]),(21,ar 134 1 2 aJ x1.1.arrays),(22,E.tree fJ 0 1 (List.map aD x1.1.parts) []),(23,E.cells [ms 21 1 2 aJ x1.1.arrays,ms 22 1 2 aD x1.1.parts])] [20,21,22,23]) (fun j2 h=> ?_) (fun x4 h=> ?_)))
  ·
   refine aR h (fun c2 h=> ?_) (fun c2 h=> ?_)
   ·obtain⟨x5,hx5,h⟩:=bd h
    refine qw (xC hC [.foc 22 24 (0+Int.toNat part) 0 (aD x5)] [] [] [(22,some (E.tree fJ 0 1 (List.map aD x1.1.parts) [((0+Int.toNat part),0,ms 24 1 2 aC x5.nest)])),(24,some (E.tree fJ 1 1 (List.map aC x5.nest) []))] [(24,true)] (a1 (uB aD hx5)) (by kernel_rfl)) (aR h (fun c4 h=> ?_) (fun c4 h=> ?_))
    ·obtain⟨x3,hx3,h⟩:=bd h
     exact dk hC bD ([eF,eF,eF]++rF 6 c2++[oX aD hx5,oF c2,oN aC x5.nest,oF c2,oF c2,oF c4,oF c4,oV (aCe G hx3),oF c4,oF c4]) (fr 22 21) [(42,vB (!x3))] [] [] ⟨!x3,h,S.le.trans (xC hC [.unf 22 24 (aD x5) (List.map aD x1.1.parts)] [] [] [(24,none),(22,some (E.tree fJ 0 1 (List.map aD x1.1.parts) []))] [] (a4 (Eq.refl (List.map aC x5.nest).length) (Eq.refl fJ) (uB aD hx5) (Y5 aD hx5 rfl)) (by kernel_rfl)) (lS)⟩
    ·exact dk hC bD ([eF,eF,eF]++rF 6 c2++[oX aD hx5,oF c2,oN aC x5.nest,oF c2,oF c2]++rT 4 c4) (fr 22 21) [(42,vB true)] [] [] ⟨true,h,S.le.trans (xC hC [.unf 22 24 (aD x5) (List.map aD x1.1.parts)] [] [] [(24,none),(22,some (E.tree fJ 0 1 (List.map aD x1.1.parts) []))] [] (a4 (Eq.refl (List.map aC x5.nest).length) (Eq.refl fJ) (uB aD hx5) (Y5 aD hx5 rfl)) (by kernel_rfl)) (lS)⟩
   ·exact dk hC bD ([eF,eF,eF]++rT 9 c2++sT 4) (fr 22 21) [(42,vB true)] [] [] (lE h)
  ·refine aT h (fun c3 h=> ?_) (fun c3 h=> ?_)
   ·obtain rfl:=so h
    exact rq hC [] [9,43] [(9,vB false)] [(20,sc [V.t T.nilS,V.t T.nilS])] [] (qr eR)
   ·refine qk (qs ?_)
    obtain⟨x5,hx5,x6,hx6,x7,hx7,h⟩:=jH h
    obtain⟨x8,hx8,x10,hx10,h⟩:=cT h
    refine dk hC bD [.z (.foc 22 25 (0+Int.toNat part) 0 (aD x5)),oX aD hx5,oQ (uB aD hx5),oQ (l7 aC hx6),oC [25] [] (lZ G n x5.nest (wr (loop+1)) x6 hx6 1 142 [T.int .i64 by_] [T.int .i64 loop] (fun q0=>iA n q0 by_ loop) (fun q0 r h=>I7 G n q0 by_ loop h) hx7 hx8)] (fr 44 9) [] [(22,some (E.tree fJ 0 1 (List.map aD x1.1.parts) [((0+Int.toNat part),0,ms 25 1 2 aC x5.nest)])),(25,some (E.tree fJ 1 1 (List.map aC x8) []))] [(25,true),(25,true)] (qw (xC hC [.unf 22 25 (aD x5) (List.map aD x10)] [] [] [(25,none),(22,some (E.tree fJ 0 1 (List.map aD x10) []))] [] (a4 (jV aC hx8) (Eq.refl fJ) (uB aD hx5) (J6 aD hx10 rfl)) (by kernel_rfl)) (qs ?_))
    obtain⟨y1,hy1,h⟩:=bd h
    obtain⟨y2,hy2,h⟩:=bd h
    obtain⟨x9,hx9,h⟩:=bd h
    refine dk hC bD [oC [] [26] (qQ G hy1),oC [] [27] (qQ G hy2),.z (.at 3),.z (.fz 26 [55] []),.z (.at 3),.z (.fz 27 [59] []),oC [] [28] (U8 G hx9),.z (.nat 29)] [13,53,54,55,56,57,58,59,60] [(13,V.ref 29 0)] [(26,none),(27,none),(28,some (ar 3 1 1 rI x9.coefs)),(29,sc [ms 28 1 1 rI x9.coefs,vI x9.const])] [(26,true),(27,true),(28,true),(29,true)] (qw (lk hC [.fz 28 [] [29],.fp 29 [13]] [13] [(13,V.tp (aQ x9))] [(28,none),(29,none)] []) ?_)
    obtain⟨x11,hx11,x12,hx12,h⟩:=cT h
    refine rq hC [oC [22] [] (sQ G n x10 part (⟨x8,x5.body⟩:Part) (aHS hx10) 1 (wr (loop+2)) 143 [T.int .i64 loop] (aQ x9) (fun q0=>fN n q0 loop x9) (fun q0 r h=>I6 G n q0 loop x9 h) hx11 hx12)] (fr 61 5) [] [(22,some (E.tree fJ 0 1 (List.map aD x12) []))] [(22,true)] (qw (xC hC [.shd 22,.lenc 23 1 (List.map aD x12).length,.fz 21 [] [23],.fz 22 [] [23]] [] [] [(21,none),(22,none),(23,sc [vM aJ x1.1.arrays,vM aD x12])] [] (a1 ((jV aD hx10).trans (jV aD hx12))) (by kernel_rfl)) ?_)
    obtain⟨x13,hx13,h⟩:=bd h
    obtain rfl:=so h
    exact rq hC [oV (U9 G hx13)] [9,66,67,68,69] [(9,vB x13.2)] [(20,some (E.cells (bL x13.1)))] [] (qr eR)
theorem U7{p}{part}{loop}{factor}{r}(h:nF n p part loop factor=some r):PQ G 57 [V.agg (bL p),vI part,vI loop,vI factor] (V.tup [V.agg (bL r.1),vB r.2]):=by
 unfold nF at h
 refine pq aN Tryz.func57 rfl fun w X hC=> ?_
 refine rq hC [.z (.nat 20),.z (.nat 21)] [4,8,9] [(4,V.ref 20 0),(8,V.ref 21 0)] [(20,some (E.cells (bL p))),(21,sc [V.t T.nilS,V.t T.nilS])] [(20,true),(21,true)] ?_
 obtain⟨x1,hx1,h⟩:=bd h
 refine rq hC [oV (wC G hx1)] [11,12] [] [(20,some (E.cells (bL x1)))] [] (qs (vj h (fun x_=>bA [(1,vI part),(2,vI loop),(3,vI factor),(4,V.ref 20 0),(8,V.ref 21 0),(30,vB x_)] [(20,E.cells (bL x1)),(21,E.cells [V.t T.nilS,V.t T.nilS])] [20,21]) (fun j2 h=> ?_) (fun x6 h=> ?_)))
 ·
  obtain⟨x3,hx3,h⟩:=bd h
  refine aR h (fun c1 h=> ?_) (fun c1 h=> ?_)
  ·obtain⟨x4,hx4,h⟩:=bd h
   refine aR h (fun c2 h=> ?_) (fun c2 h=> ?_)
   ·obtain⟨x5,hx5,h⟩:=bd h
    exact rk hC ([oV (pG G hx3)]++rF 5 c1++[oV (pG G hx4),oF c1,oF c1,oF c2,oF c2,oV (mL G hx5),oF c2,oF c2]) (fr 13 18) [(30,vB (!x5))] [] [] (lE h)
   ·exact rk hC ([oV (pG G hx3)]++rF 5 c1++[oV (pG G hx4),oF c1,oF c1]++rT 4 c2) (fr 13 18) [(30,vB true)] [] [] (lE h)
  ·exact rk hC ([oV (pG G hx3)]++rT 7 c1++sT 4) (fr 13 18) [(30,vB true)] [] [] (lE h)
 ·refine aT h (fun c3 h=> ?_) (fun c3 h=> ?_)
  ·obtain rfl:=so h
   exact rq hC [] [9,31] [(9,vB false)] [(21,sc [V.t T.nilS,V.t T.nilS])] [] (qr eR)
  ·refine qk ?_
   obtain⟨x7,hx7,x8,hx8,x9,hx9,h⟩:=jH h
   refine rq hC [oC [] [22] (lD G hx7),oC [] [23] (iX G n hx8),.z (.at 3),.z (.fz 22 [33] []),.z (.at 3),.z (.fz 23 [35] []),oC [] [24] (eS G hx9),.z (.nat 25)] [10,32,33,34,35,36] [(10,V.ref 25 0)] [(22,none),(23,none),(24,some (ar 3 1 1 rI x9.coefs)),(25,sc [ms 24 1 1 rI x9.coefs,vI x9.const])] [(22,true),(23,true),(24,true),(25,true)] (qs ?_)
   obtain⟨x10,hx10,x11,hx11,x12,hx12,h⟩:=jH h
   obtain rfl:=so h
   exact dk hC bD [oR aD hx10,.z (.at 8),.z (.fz 24 [] [25]),oV (aBW G hx11),.z (.int 0),oV (aBU G hx12)] [9,37,38,39,40,41,42,43,44,45,46,47,48,49,50,51] [(9,vB x12.2)] [(25,some (E.cells (aK x9))),(24,none),(21,some (E.cells (bL x12.1)))] [] (qr eR)
theorem xS{code}{r}(h:jP n code=some r):PQ G 55 [vM rY code] (V.tup [V.agg (bL r.1),vI r.2.1,vI r.2.2.1,vI r.2.2.2]):=by
 unfold jP at h
 refine pq aN Tryz.func55 rfl fun w X hC=> ?_
 refine rq hC [.z (.nat 20)] (fr 2 4) [(2,V.ref 20 0)] [(20,sc [V.t T.nilS,V.t T.nilS])] [(20,true)] ?_
 obtain⟨x1,hx1,x2,hx2,h⟩:=cT h
 obtain rfl:=so h
 exact rq hC [oC [] [21] (aAF G hx1),oC [21] [] (aB1 G hx2)] (fr 3 10) [(3,vI x2.2.1),(4,vI x2.2.2.1),(5,vI x2.2.2.2.1)] [(21,sR x2.2.2.2.2),(20,some (E.cells (bL x2.1)))] [(21,true),(21,true)] (qr eR)
theorem G5(G:GS)(n:Nat)(code:List UInt8){r:Bool}(h:mB n code=some r):PQ G 13 [vM rY code] (vB r):=by
 unfold mB at h
 refine pq aN Tryz.func13 rfl fun w X hC=> ?_
 refine rq hC [] [2] [] [] [] (qs (rq hC [oN rY code] [13,14,15] [(15,vB (decide ((1048576:Int)<(code.length:Int))))] [] [] (aT h (fun c1 h=> ?_) (fun c1 h=> ?_))))
 ·obtain rfl:=so h
  exact rq hC [] [2] [(2,vB true)] [] [] (qr eR)
 ·refine qk ?_
  obtain⟨x1,hx1,h⟩:=bd h
  refine rq hC [oV (xS G hx1),.z (.nat 20)] [3,4,5,6,16,17,18,19,20,21,22] [(3,V.ref 20 0),(4,vI x1.2.1),(5,vI x1.2.2.1),(6,vI x1.2.2.2)] [(20,some (E.cells (bL x1.1)))] [(20,true)] ?_
  obtain⟨x2,hx2,h⟩:=bd h
  refine rq hC [oV (wG G hx2),.z (.nat 21)] [7,8,23,24,25,26,27,28,29,30] [(7,V.ref 21 0),(8,vB x2.2)] [(21,some (E.cells (bL x2.1)))] [(21,true)] ?_
  obtain⟨x3,hx3,h⟩:=bd h
  refine rq hC [oV (U7 G hx3),.z (.nat 22)] [9,10,31,32,33,34,35,36,37,38] [(9,V.ref 22 0),(10,vB x3.2)] [(22,some (E.cells (bL x3.1)))] [(22,true)] (qs (vj h (fun x_=>bA [(3,V.ref 20 0),(4,vI x1.2.1),(5,vI x1.2.2.1),(6,vI x1.2.2.2),(7,V.ref 21 0),(8,vB x2.2),(9,V.ref 22 0),(10,vB x3.2),(51,vB x_)] [(20,E.cells (bL x1.1)),(21,E.cells (bL x2.1)),(22,E.cells (bL x3.1))] [20,21,22]) (fun j4 h=> ?_) (fun x6 h=> ?_)))
  ·
   refine aR h (fun c2 h=> ?_) (fun c2 h=> ?_)
   ·obtain⟨x5,hx5,h⟩:=bd h
    refine aR h (fun c3 h=> ?_) (fun c3 h=> ?_)
    ·exact rk hC (rF 3 c2++[oV (iP G hx5),oF c2,oF c2]++rF 3 c3) (fr 39 13) [(51,vB (!x2.2))] [] [] (lE h)
    ·exact rk hC (rF 3 c2++[oV (iP G hx5),oF c2,oF c2]++rT 3 c3) (fr 39 13) [(51,vB true)] [] [] (lE h)
   ·exact rk hC (rT 5 c2++[eT,eT,eT]) (fr 39 13) [(51,vB true)] [] [] (lE h)
  ·refine aT h (fun c4 h=> ?_) (fun c4 h=> ?_)
   ·refine vj h (fun x_=>bA [(2,vB x_)] [(20,E.cells (bL x1.1)),(21,E.cells (bL x2.1)),(22,E.cells (bL x3.1))] [20,21,22]) (fun j7 h=> ?_) (fun x9 h=> ?_)
    ·
     refine aR h (fun c5 h=> ?_) (fun c5 h=> ?_)
     ·exact rk hC (rF 4 c5) [2,52,53,54,55,56,57,58,59] [(2,vB false)] [] [] (lE h)
     ·obtain⟨x8,hx8,h⟩:=bd h
      exact rk hC (rT 3 c5++[oV (iP G hx8),oT c5]) [2,52,53,54,55,56,57,58,59] [(2,vB x8)] [] [] (lE h)
    ·obtain rfl:=so h
     exact qr eR
   ·refine qk ?_
    obtain⟨x10,hx10,h⟩:=bd h
    refine rq hC [oV (wG G hx10),.z (.nat 23)] [11,12,60,61,62,63,64,65,66,67,68] [(11,V.ref 23 0),(12,vB x10.2)] [(23,some (E.cells (bL x10.1)))] [(23,true)] (vj h (fun x_=>bA [(2,vB x_)] [(20,E.cells (bL x1.1)),(21,E.cells (bL x2.1)),(22,E.cells (bL x3.1)),(23,E.cells (bL x10.1))] [20,21,22,23]) (fun j11 h=> ?_) (fun x13 h=> ?_))
    ·
     refine aR h (fun c6 h=> ?_) (fun c6 h=> ?_)
     ·exact rk hC (rF 4 c6) [2,69,70,71,72,73,74] [(2,vB false)] [] [] (lE h)
     ·obtain⟨x12,hx12,h⟩:=bd h
      exact rk hC (rT 3 c6++[oV (iP G hx12),oT c6]) [2,69,70,71,72,73,74] [(2,vB x12)] [] [] (lE h)
    ·obtain rfl:=so h
     exact qr eR
end Go.Lift
