/- The walks: the code computes what the plain functions say. -/
import Derived.Test.YtiplelpjhgnmoaaGreatUModels
import Derived.Test.YtiplelpjhgnmoaaGreatUWalks2
set_option maxRecDepth 10000
set_option linter.unusedVariables false
namespace Go.Lift
open Go Go.Proofs
variable (G:GS) {n:Nat}
theorem cE{p}{r}(h:fJ n p=some r):PQ G 23 [V.agg (bX p)] (vB r):=by
 unfold fJ at h
 refine pq aO Tryz.func23 rfl fun w X hC=> ?_
 refine rq hC [.z (.b (true))] [1,2] [(1,V.tp (bU p))] [] [] ?_
 obtain⟨x1,hx1,h⟩:=bd h
 obtain rfl:=so h
 exact rq hC [oC [] [20] (kX G hx1)] (fr 3 7) [(4,vB x1.2)] [(20,some (ar 135 1 3 aR x1.1))] [(20,true)] (rq hC [] [2,10] [(2,vB x1.2)] [] [] (qr eR))
theorem aA3{p}{r}(h:nU n p=some r):PQ G 38 [V.agg (bX p)] (V.tup [V.agg (bX r.1),vB r.2]):=by
 unfold nU at h
 refine pq aO Tryz.func38 rfl fun w X hC=> ?_
 refine rq hC [.z (.b (true)),.z (.nat 20)] [1,2,3] [(1,V.tp (bU p)),(2,V.ref 20 0)] [(20,sc [V.t T.nilS,V.t T.nilS])] [(20,true)] (qs ?_)
 obtain⟨x1,hx1,h⟩:=bd h
 refine rq hC [oV (cE G hx1)] [4,5,6] [(6,vB (!x1))] [] [] (aT h (fun c1 h=> ?_) (fun c1 h=> ?_))
 ·obtain rfl:=so h
  exact rq hC [] [3,7] [(3,vB false)] [(20,sc [V.t T.nilS,V.t T.nilS])] [] (qr eR)
 ·refine qk ?_
  obtain⟨x2,hx2,h⟩:=bd h
  obtain rfl:=so h
  exact rq hC [oC [] [21,22] (F9 G hx2)] [3,8,9] [(3,vB true)] [(21,some (ar 77 1 2 aH x2.arrays)),(22,some (ar 62 1 2 aD x2.parts)),(20,sc [ms 21 1 2 aH x2.arrays,ms 22 1 2 aD x2.parts])] [(21,true),(22,true)] (qw (lk hC [.fz 21 [] [20]] [] [] [(20,sc [vM aH x2.arrays,ms 22 1 2 aD x2.parts]),(21,none)] []) (qw (lk hC [.fz 22 [] [20]] [] [] [(20,some (E.cells (bX x2))),(22,none)] []) (qr eR)))
theorem cC{p}{part}{r}(h:d7 n p part=some r):PQ G 54 [V.agg (bX p),vI part] (vB r):=by
 unfold d7 at h
 refine pq aO Tryz.func54 rfl fun w X hC=> ?_
 refine rq hC [.z (.b (true))] [2,4] [(2,V.tp (bU p))] [] [] ?_
 obtain⟨x1,hx1,h⟩:=bd h
 obtain rfl:=so h
 exact rq hC [oN aD p.parts,oV (bI G hx1)] (fr 4 7) [(4,vB x1)] [] [] (qr eR)
theorem eE{p}{part}{loop}{r}(h:cP n p part loop=some r):PQ G 59 [V.agg (bX p),vI part,vI loop] (vB r):=by
 unfold cP at h
 refine pq aO Tryz.func59 rfl fun w X hC=> ?_
 refine rq hC [.z (.b (true))] [3,6] [(3,V.tp (bU p))] [] [] (vj h (fun x_=>aX [(6,vB x_)] [] []) (fun j1 h=> ?_) (fun x5 h=> ?_))
 ·
  obtain⟨x2,hx2,h⟩:=bd h
  refine aS h (fun c1 h=> ?_) (fun c1 h=> ?_)
  ·exact rk hC ([oV (cC G hx2)]++rF 11 c1) (fr 6 16) [(6,vB false)] [] [] (lE h)
  ·obtain⟨x3,hx3,x4,hx4,h⟩:=cS h
   exact rk hC ([oV (cC G hx2)]++rT 5 c1++[oR aD hx3]++rT 3 c1++[oN aC x3.nest,oT c1,oT c1,oV (bI G hx4),oT c1]) (fr 6 16) [(6,vB x4)] [] [] (lE h)
 ·obtain rfl:=so h
  exact qr eR
theorem aCF(G:GS)(n:Nat)(p:Prog)(part:Int)(loop:Int){r:Prog×Bool}(h:mS n p part loop=some r)(hr:r.2=true):VQ G 28 [] [V.agg (bX p),vI part,vI loop] (V.tup [V.agg [ms 0 1 2 aH r.1.arrays,ms 1 1 2 aD r.1.parts],V.eref 1 1 2 (0+Int.toNat part) 0,vB true]) [ar 77 1 2 aH r.1.arrays,E.tree fD 0 1 (List.map aD r.1.parts) []]:=by
 unfold mS at h
 refine vq aO Tryz.func28 rfl fun w X β0 hC hg=> ?_
 refine rq hC [.z (.b (true)),.z (.nat 20)] [3,6,7,8] [(3,V.tp (bU p)),(6,V.ref 20 0)] [(20,sc [V.t T.nilS,V.t T.nilS])] [(20,true)] (qs (vj h (fun x_=>aX [(1,vI part),(3,V.tp (bU p)),(6,V.ref 20 0),(29,vB x_)] [(20,E.cells [V.t T.nilS,V.t T.nilS])] [20]) (fun j1 h=> ?_) (fun x5 h=> ?_)))
 ·
  obtain⟨x2,hx2,h⟩:=bd h
  refine aS h (fun c1 h=> ?_) (fun c1 h=> ?_)
  ·obtain⟨x3,hx3,h⟩:=bd h
   refine aS h (fun c2 h=> ?_) (fun c2 h=> ?_)
   ·refine aS h (fun c3 h=> ?_) (fun c3 h=> ?_)
    ·exact rk hC ([oV (cE G hx2)]++rF 3 c1++[oV (cC G hx3),oF c1,oF c1]++rF 3 c2++rF 5 c3++[oF c2,oF c3,oF c2]) (fr 10 20) [(29,vB false)] [] [] (lE h)
    ·obtain⟨x4,hx4,h⟩:=bd h
     exact rk hC ([oV (cE G hx2)]++rF 3 c1++[oV (cC G hx3),oF c1,oF c1]++rF 3 c2++rT 4 c3++[oV (eE G hx4),oT c3,oF c2,oT c3,oF c2]) (fr 10 20) [(29,vB (!x4))] [] [] (lE h)
   ·exact rk hC ([oV (cE G hx2)]++rF 3 c1++[oV (cC G hx3),oF c1,oF c1]++rT 5 c2) (fr 10 20) [(29,vB true)] [] [] (lE h)
  ·exact rk hC ([oV (cE G hx2)]++rT 5 c1++sT 5) (fr 10 20) [(29,vB true)] [] [] (lE h)
 ·refine aT h (fun c4 h=> ?_) (fun c4 h=> ?_)
  ·obtain rfl:=so h
   cases hr
  ·refine qk ?_
   obtain⟨x6,hx6,x7,hx7,h⟩:=cS h
   obtain rfl:=so h
   exact rq hC [oC [] [21,22] (yL G hx6),.z (.nat 23)] [9,31,32] [(9,V.ref 23 0)] [(21,some (ar 77 1 2 aH x6.arrays)),(22,some (E.tree fD 0 1 (List.map aD x6.parts) [])),(23,sc [ms 21 1 2 aH x6.arrays,ms 22 1 2 aD x6.parts])] [(21,true),(22,true),(23,true)] (qw (lk hC [.rn 21 0 [] [23]] [] [] [(23,sc [ms 0 1 2 aH x6.arrays,ms 22 1 2 aD x6.parts]),(21,none),(0,some (ar 77 1 2 aH x6.arrays))] [(0,true)]) (qw (lk hC [.rn 22 1 [] [23]] [] [] [(23,sc [ms 0 1 2 aH x6.arrays,ms 1 1 2 aD x6.parts]),(22,none),(1,some (E.tree fD 0 1 (List.map aD x6.parts) []))] [(1,true)]) (qs (dk hC bD [oQ (iX aD hx7)] [7,8,33,34,35,36,37] [(7,V.eref 1 1 2 (0+Int.toNat part) 0),(8,vB true)] [(20,sc [ms 0 1 2 aH x6.arrays,ms 1 1 2 aD x6.parts])] [] (qr eW)))))
theorem aCG(G:GS)(n:Nat)(p:Prog)(part:Int)(loop:Int){r:Prog×Bool}(h:mS n p part loop=some r)(hr:r.2=false):PQ G 28 [V.agg (bX p),vI part,vI loop] (V.tup [V.agg [vM aH [],vM aD []],V.t T.nilP,vB false]):=by
 unfold mS at h
 refine pq aO Tryz.func28 rfl fun w X hC=> ?_
 refine rq hC [.z (.b (true)),.z (.nat 20)] [3,6,7,8] [(3,V.tp (bU p)),(6,V.ref 20 0)] [(20,sc [V.t T.nilS,V.t T.nilS])] [(20,true)] (qs (vj h (fun x_=>aX [(1,vI part),(3,V.tp (bU p)),(6,V.ref 20 0),(29,vB x_)] [(20,E.cells [V.t T.nilS,V.t T.nilS])] [20]) (fun j1 h=> ?_) (fun x5 h=> ?_)))
 ·
  obtain⟨x2,hx2,h⟩:=bd h
  refine aS h (fun c1 h=> ?_) (fun c1 h=> ?_)
  ·obtain⟨x3,hx3,h⟩:=bd h
   refine aS h (fun c2 h=> ?_) (fun c2 h=> ?_)
   ·refine aS h (fun c3 h=> ?_) (fun c3 h=> ?_)
    ·exact rk hC ([oV (cE G hx2)]++rF 3 c1++[oV (cC G hx3),oF c1,oF c1]++rF 3 c2++rF 5 c3++[oF c2,oF c3,oF c2]) (fr 10 20) [(29,vB false)] [] [] (lE h)
    ·obtain⟨x4,hx4,h⟩:=bd h
     exact rk hC ([oV (cE G hx2)]++rF 3 c1++[oV (cC G hx3),oF c1,oF c1]++rF 3 c2++rT 4 c3++[oV (eE G hx4),oT c3,oF c2,oT c3,oF c2]) (fr 10 20) [(29,vB (!x4))] [] [] (lE h)
   ·exact rk hC ([oV (cE G hx2)]++rF 3 c1++[oV (cC G hx3),oF c1,oF c1]++rT 5 c2) (fr 10 20) [(29,vB true)] [] [] (lE h)
  ·exact rk hC ([oV (cE G hx2)]++rT 5 c1++sT 5) (fr 10 20) [(29,vB true)] [] [] (lE h)
 ·refine aT h (fun c4 h=> ?_) (fun c4 h=> ?_)
  ·obtain rfl:=so h
   exact rq hC [] [7,8,30] [(7,V.t T.nilP),(8,vB false)] [(20,sc [V.t T.nilS,V.t T.nilS])] [] (qr eR)
  ·obtain⟨x6,hx6,x7,hx7,h⟩:=cS h
   obtain rfl:=so h
   cases hr
theorem Z2{p}{part}{loop}{r}(h:wW n p part loop=some r):PQ G 40 [V.agg (bX p),vI part,vI loop] (vB r):=by
 unfold wW at h
 refine pq aO Tryz.func40 rfl fun w X hC=> ?_
 refine rq hC [.z (.b (true))] [3,6] [(3,V.tp (bU p))] [] [] (vj h (fun x_=>aX [(6,vB x_)] [] []) (fun j1 h=> ?_) (fun x4 h=> ?_))
 ·
  obtain⟨x2,hx2,h⟩:=bd h
  refine aS h (fun c1 h=> ?_) (fun c1 h=> ?_)
  ·exact rk hC ([oV (cR G hx2)]++rF 3 c1++sF 19) (fr 6 29) [(6,vB false)] [] [] (lE h)
  ·refine aS h (fun c2 h=> ?_) (fun c2 h=> ?_)
   ·exact rk hC ([oV (cR G hx2)]++rT 3 c1++rF 6 c2++sF 13) (fr 6 29) [(6,vB false)] [] [] (lE h)
   ·refine aS h (fun c3 h=> ?_) (fun c3 h=> ?_)
    ·exact rk hC ([oV (cR G hx2)]++rT 3 c1++rT 4 c2++[oN aD p.parts,oT c2,oT c2]++rF 3 c3++sF 10) (fr 6 29) [(6,vB false)] [] [] (lE h)
    ·refine aS h (fun c4 h=> ?_) (fun c4 h=> ?_)
     ·exact rk hC ([oV (cR G hx2)]++rT 3 c1++rT 4 c2++[oN aD p.parts,oT c2,oT c2]++rT 3 c3++rF 10 c4) (fr 6 29) [(6,vB false)] [] [] (lE h)
     ·obtain⟨x3,hx3,h⟩:=bd h
      exact rk hC ([oV (cR G hx2)]++rT 3 c1++rT 4 c2++[oN aD p.parts,oT c2,oT c2]++rT 3 c3++rT 5 c4++[oR aD hx3]++rT 3 c4++[oN aC x3.nest,oT c4,oT c4]) (fr 6 29) [(6,vB (decide (loop<(x3.nest.length:Int))))] [] [] (lE h)
 ·obtain rfl:=so h
  exact qr eR
theorem U2(G:GS)(n:Nat)(s1:List Int)(s2:List Int){r:Bool}(h:jW n s1 s2=some r):PQ G 46 [vM rI s1,vM rI s2] (vB r):=by
 unfold jW at h
 refine pq aO Tryz.func46 rfl fun w X hC=> ?_
 refine rq hC [] [4] [] [] [] (qs (rq hC [oN rI s1,oN rI s2] (fr 6 5) [(10,vB (!decide ((s1.length:Int)=(s2.length:Int))))] [] [] (aT h (fun c1 h=> ?_) (fun c1 h=> ?_))))
 ·obtain rfl:=so h
  exact rq hC [] [4] [(4,vB false)] [] [] (qr eR)
 ·refine qk (qs (rq hC [oN rI s1] [11,12,13] [(12,vI (s1.length:Int)),(13,vI 0)] [] [] (qb (jP h (fun x_=>aX [(0,vM rI s1),(1,vM rI s2),(12,vI (s1.length:Int)),(13,vI x_)] [] []) lS ?_))))
  rintro again2 x1 h
  refine rq hC [] [14] [(14,vB (decide (x1<(s1.length:Int))))] [] [] (qs (aT h (fun c2 h=> ?_) (fun c2 h=> ?_)))
  ·refine qk (qs (qb (rq hC [] [5,15] [(5,vI x1)] [] [] (qs ?_))))
   obtain⟨x3,hx3,x4,hx4,h⟩:=cS h
   refine dk hC bD [oR rI hx3,oR rI hx4] (fr 16 9) [(24,vB (!decide (x3=x4)))] [] [] (aT h (fun c3 h=> ?_) (fun c3 h=> ?_))
   ·obtain rfl:=so h
    exact rq hC [] [4] [(4,vB false)] [] [] (qr eR)
   ·exact qk (rk hC [] [13,25] [(13,vI (wr (x1+1)))] [] [] (lE h))
  ·obtain rfl:=so h
   exact cM (rq hC [] [4] [(4,vB true)] [] [] (qr eR))
theorem B4{p}{x}{r}(h:hJ n p x=some r):PQ G 140 [V.agg (bX p),V.agg (qI x)] (V.agg (d4 r)):=by
 unfold hJ at h
 refine pq aO Tryz.func140 rfl fun w X hC=> ?_
 refine rq hC [.z (.b (true)),.z (.b (true)),.z (.nat 20)] [2,3,4] [(2,V.tp (bU p)),(3,V.tp (aGH x)),(4,V.ref 20 0)] [(20,sc [vS [],V.t T.nilS,vI 0,vI 0,V.t T.nilS,vI 0,vS [],V.t T.nilS,V.t T.nilS])] [(20,true)] (qs ?_)
 obtain⟨x1,hx1,x2,hx2,h⟩:=cS h
 obtain rfl:=so h
 exact dk hC bD [oR aD hx1,oR aJ hx2] (fr 5 11) [] [(20,some (E.cells (d4 x2)))] [] (qr eR)
theorem uY{p}{x}{r}(h:eQ n p x=some r):VQ G 96 [] [V.agg (bX p),V.agg (qI x)] (V.tup [ms 0 1 1 rI r.1,vI r.2]) [ar 3 1 1 rI r.1]:=by
 unfold eQ at h
 refine vq aO Tryz.func96 rfl fun w X β0 hC hg=> ?_
 refine rq hC [.z (.b (true)),.z (.b (true))] (fr 2 4) [(2,V.tp (bU p)),(3,V.tp (aGH x))] [] [] ?_
 obtain⟨x1,hx1,h⟩:=bd h
 refine rq hC [oV (B4 G hx1),.z (.nat 20)] [6,10,11,12] [(6,V.ref 20 0)] [(20,some (E.cells (d4 x1)))] [(20,true)] (rq hC [] [7] [(7,V.t T.nilS)] [] [] (qs ?_))
 obtain⟨x2,hx2,h⟩:=bd h
 refine rq hC [oC [] [21] (Z4 G n x1.value hx2),oN aU x2] (fr 13 5) [(15,ms 21 1 2 aU x2),(16,vI (x2.length:Int)),(17,vI 0)] [(21,some (ar 82 1 2 aU x2))] [(21,true)] (qb (qw (lk hC [.grow 7 22 3] [7] [(7,ms 22 1 1 rI [])] [(22,some (ar 3 1 1 rI []))] [(22,true)]) (bA (γ:=Nat) h (fun x_ g_=>aX [(2,V.tp (bU p)),(3,V.tp (aGH x)),(6,V.ref 20 0),(7,ms 22 g_ 1 rI x_.1),(15,ms 21 1 2 aU x2),(16,vI (x2.length:Int)),(17,vI x_.2)] [(20,E.cells (d4 x1)),(21,ar 82 1 2 aU x2),(22,ar 3 g_ 1 rI x_.1)] [20,21,22]) 1 (lS) ?_)))
 rintro again6 ⟨x3,x4⟩ g5 h
 refine rq hC [] [18] [(18,vB (decide (x4<(x2.length:Int))))] [] [] (qs (aT h (fun c1 h=> ?_) (fun c1 h=> ?_)))
 ·refine qk (qs (qb ?_))
  obtain⟨x7,hx7,h⟩:=bd h
  refine rq hC [oQ (iX aU hx7),oX aU hx7,.z (.nat 23)] [9,19,20] [(9,V.ref 23 0)] [(23,some (E.cells (dH x7)))] [(23,true)] ?_
  obtain⟨x8,hx8,x9,hx9,h⟩:=cS h
  exact rk hC [oV (fK G hx8),.z (.int 0),oA (aP rI hx9),oQ (bZ (r:=rI) 1 (fun _=>rfl) x3),oQ (bZ (r:=rI) 1 (fun _=>rfl) [x8])] [7,21,22,23,24,25,26,27,28] [(7,ms 22 (g5+1) 1 rI x9)] [(22,some (ar 3 (g5+1) 1 rI x9))] [] (rk hC [] [17,29] [(17,vI (wr (x4+1)))] [] [] ⟨(x9,wr (x4+1)),(g5+1),h,lS⟩)
 ·refine cM ?_
  obtain⟨x10,hx10,h⟩:=bd h
  obtain rfl:=so h
  exact rq hC [oV (fK G hx10)] [4,5,30,31,32,33,34,35,36] [(4,ms 22 g5 1 rI x3),(5,vI x10)] [] [] (qw (lk hC [.ren 4 22 0] [4] [(4,ms 0 1 1 rI x3)] [(0,some (ar 3 1 1 rI x3)),(22,none)] [(0,true)]) (qr eW))
theorem Z3{p}{r}(h:xN n p=some r):PQ G 53 [V.agg (bX p)] (V.tup [vP aI3 r.1,vB r.2]):=by
 unfold xN at h
 refine pmr aO Tryz.func53 rfl rfl rfl rfl rfl (aMa _ _ _) rfl ?_
 intro w X hC
 refine rq hC [.z (.b (true))] [1,2,3] [(1,V.tp (bU p))] [] [] ?_
 obtain⟨x1,hx1,h⟩:=bd h
 refine rq hC [oC [] [20] (kX G hx1)] [4,5,11,12,13,14,15] [(4,ms 20 1 3 aR x1.1),(5,vB x1.2)] [(20,some (ar 135 1 3 aR x1.1))] [(20,true)] (qs (rq hC [] [16,17] [(17,vB (!x1.2))] [] [] (aT h (fun c1 h=> ?_) (fun c1 h=> ?_))))
 ·obtain rfl:=so h
  exact rq hC [] [2,3] [(2,V.t T.nilP),(3,vB false)] [] [] (qr eR)
 ·refine qk (rq hC [.z (.nat 21)] [6,18,19,20,21] [(6,V.ref 21 0)] [(21,sc [vM aH p.arrays,vM aD p.parts,ms 20 1 3 aR x1.1,V.t T.nilS,V.t T.nilS])] [(21,true)] (qs (rq hC [oN aR x1.1] [22,23,24] [(22,ms 20 1 3 aR x1.1),(23,vI (x1.1.length:Int)),(24,vI 0)] [] [] (qb (qw (lk hC [.growc 21 3 22 33] [] [] [(22,some (ar 33 1 1 (rL rI) [])),(21,sc [vM aH p.arrays,vM aD p.parts,ms 20 1 3 aR x1.1,ms 22 1 1 (rL rI) [],V.t T.nilS])] [(22,true)]) ?_)))))
  refine qw (lk hC [.growc 21 4 23 3] [] [] [(23,some (ar 3 1 1 rI [])),(21,sc [vM aH p.arrays,vM aD p.parts,ms 20 1 3 aR x1.1,ms 22 1 1 (rL rI) [],ms 23 1 1 rI []])] [(23,true)]) (bA (γ:=Nat×Nat) h (fun x_ g_=>aX [(1,V.tp (bU p)),(6,V.ref 21 0),(22,ms 20 1 3 aR x1.1),(23,vI (x1.1.length:Int)),(24,vI x_.2.2)] [(20,ar 135 1 3 aR x1.1),(21,E.cells [vM aH p.arrays,vM aD p.parts,ms 20 1 3 aR x1.1,ms 22 g_.1 1 (rL rI) x_.1,ms 23 g_.2 1 rI x_.2.1]),(22,ar 33 g_.1 1 (rL rI) x_.1),(23,ar 3 g_.2 1 rI x_.2.1)] [20,21,22,23]) (1,1) (lS) ?_)
  rintro again7 ⟨x2,x3,x4⟩ ⟨g5,g6⟩ h
  refine rq hC [] [25] [(25,vB (decide (x4<(x1.1.length:Int))))] [] [] (qs (aT h (fun c2 h=> ?_) (fun c2 h=> ?_)))
  ·refine qk (qs (qb ?_))
   obtain⟨x8,hx8,h⟩:=bd h
   refine rq hC [oQ (iX aR hx8),oX aR hx8,.z (.nat 24)] [8,26,27] [(8,V.ref 24 0)] [(24,some (E.cells (qI x8)))] [(24,true)] ?_
   obtain⟨x9,hx9,h⟩:=bd h
   refine rq hC [oC [] [25] (uY G hx9)] [9,10,28,29,30,31,32,33] [(9,ms 25 1 1 rI x9.1),(10,vI x9.2)] [(25,some (ar 3 1 1 rI x9.1))] [(25,true)] ?_
   obtain⟨x10,hx10,x11,hx11,h⟩:=cS h
   exact dk hC bD [.z (.at 15),.z (.fz 25 [9,40] []),.z (.int 0),oA (aP (rL rI) hx10),.z (.int 0),oQ (bZ (r:=(rL rI)) 1 (fun _=>rfl) x2),oQ (bZ (r:=(rL rI)) 1 (fun _=>rfl) [x9.1]),oA (aP rI hx11),oQ (bZ (r:=rI) 1 (fun _=>rfl) x3),oQ (bZ (r:=rI) 1 (fun _=>rfl) [x9.2])] [9,34,35,36,37,38,39,40,41,42,43,44,45,46,47,48,49,50,51,52,53] [] [(25,none),(22,some (ar 33 (g5+1) 1 (rL rI) x10)),(23,some (ar 3 (g6+1) 1 rI x11)),(21,sc [vM aH p.arrays,vM aD p.parts,ms 20 1 3 aR x1.1,ms 22 (g5+1) 1 (rL rI) x10,ms 23 (g6+1) 1 rI x11])] [] (rk hC [] [24,54] [(24,vI (wr (x4+1)))] [] [] ⟨(x10,x11,wr (x4+1)),((g5+1),(g6+1)),h,lS⟩)
  ·obtain rfl:=so h
   exact cM (rq hC [] [2,3,55] [(2,V.ref 21 0),(3,vB true)] [] [] (qw (lk hC [.fz 20 [22] [21],.fz 22 [] [21],.fz 23 [] [21],.fp 21 [2,6]] [2,6,22] [(2,V.tp [T.sl (List.map aH p.arrays),T.sl (List.map aD p.parts),T.sl (List.map aR x1.1),T.sl (List.map (rL rI) x2),T.sl (List.map rI x3)]),(6,V.tp [T.sl (List.map aH p.arrays),T.sl (List.map aD p.parts),T.sl (List.map aR x1.1),T.sl (List.map (rL rI) x2),T.sl (List.map rI x3)]),(22,vM aR x1.1)] [(21,none),(20,none),(22,none),(23,none)] []) (qr eR)))
theorem U1{s}{v}{r}(h:oG n s v=some r):PQ G 115 [vM rI s,vI v] (vI r):=by
 unfold oG at h
 refine pq aO Tryz.func115 rfl fun w X hC=> ?_
 refine rq hC [] [4] [] [] [] (qs (rq hC [oN rI s] [6,7,8] [(7,vI (s.length:Int)),(8,vI 0)] [] [] (qb (jP h (fun x_=>aX [(0,vM rI s),(1,vI v),(7,vI (s.length:Int)),(8,vI x_)] [] []) lS ?_))))
 rintro again2 x1 h
 refine rq hC [] [9] [(9,vB (decide (x1<(s.length:Int))))] [] [] (qs (aT h (fun c1 h=> ?_) (fun c1 h=> ?_)))
 ·refine qk (qs (qb (rq hC [] [5,10] [(5,vI x1)] [] [] ?_)))
  obtain⟨x3,hx3,h⟩:=bd h
  refine rq hC [oR rI hx3] (fr 11 6) [(16,vB (decide (v=x3)))] [] [] (aT h (fun c2 h=> ?_) (fun c2 h=> ?_))
  ·obtain rfl:=so h
   exact rq hC [] [4,17] [(4,vI x1)] [] [] (qr eR)
  ·exact qk (rk hC [] [8,18] [(8,vI (wr (x1+1)))] [] [] (lE h))
 ·obtain rfl:=so h
  exact cM (rq hC [] [4] [(4,vI (-1))] [] [] (qr eR))
theorem qE{s}{v}{r}(h:fE n s v=some r):PQ G 186 [vM rI s,vI v] (vB r):=by
 unfold fE at h
 refine pq aO Tryz.func186 rfl fun w X hC=> ?_
 refine rq hC [] [4] [] [] [] ?_
 obtain⟨x1,hx1,h⟩:=bd h
 obtain rfl:=so h
 exact rq hC [oV (U1 G hx1)] (fr 4 5) [(4,vB (decide ((0:Int)≤x1)))] [] [] (qr eR)
theorem wK{t}{from_a1}{to_a2}{r}(h:fH n t from_a1 to_a2=some r):PQ G 145 [V.tp [T.sl (List.map aH t.program.arrays),T.sl (List.map aD t.program.parts),T.sl (List.map aR t.list),T.sl (List.map (rL rI) t.reads),T.sl (List.map rI t.writes)],vI from_a1,vI to_a2] (vI r):=by
 unfold fH at h
 refine pq aO Tryz.func145 rfl fun w X hC=> ?_
 refine rq hC [] [6] [] [] [] (rq hC [] [7] [(7,vI 0)] [] [] (vj h (fun x_=>aX [(0,V.tp [T.sl (List.map aH t.program.arrays),T.sl (List.map aD t.program.parts),T.sl (List.map aR t.list),T.sl (List.map (rL rI) t.reads),T.sl (List.map rI t.writes)]),(1,vI from_a1),(2,vI to_a2),(7,vI x_)] [] []) (fun j1 h=> ?_) (fun x5 h=> ?_)))
 ·
  refine qs ?_
  obtain⟨x2,hx2,x3,hx3,x4,hx4,h⟩:=kY h
  refine dk hC bD [oR (rL rI) hx2,oR rI hx3,oV (qE G hx4)] (fr 8 15) [(22,vB x4)] [] [] (aT h (fun c1 h=> ?_) (fun c1 h=> ?_))
  ·exact rk hC [] [7,23,24] [(7,vI (wr (0+1)))] [] [] (lE h)
  ·exact qk (lE h)
 ·refine vj h (fun x_=>aX [(0,V.tp [T.sl (List.map aH t.program.arrays),T.sl (List.map aD t.program.parts),T.sl (List.map aR t.list),T.sl (List.map (rL rI) t.reads),T.sl (List.map rI t.writes)]),(1,vI from_a1),(2,vI to_a2),(7,vI x_)] [] []) (fun j6 h=> ?_) (fun x10 h=> ?_)
  ·
   refine qs ?_
   obtain⟨x7,hx7,x8,hx8,x9,hx9,h⟩:=kY h
   refine dk hC bD [oR (rL rI) hx7,oR rI hx8,oV (qE G hx9)] (fr 25 15) [(39,vB x9)] [] [] (aT h (fun c2 h=> ?_) (fun c2 h=> ?_))
   ·exact rk hC [] [7,40,41] [(7,vI (wr (x5+2)))] [] [] (lE h)
   ·exact qk (lE h)
  ·refine vj h (fun x_=>aX [(7,vI x_)] [] []) (fun j11 h=> ?_) (fun x14 h=> ?_)
   ·
    refine qs ?_
    obtain⟨x12,hx12,x13,hx13,h⟩:=cS h
    refine dk hC bD [oR rI hx12,oR rI hx13] (fr 42 15) [(56,vB (decide (x12=x13)))] [] [] (aT h (fun c3 h=> ?_) (fun c3 h=> ?_))
    ·exact rk hC [] [7,57,58] [(7,vI (wr (x10+4)))] [] [] (lE h)
    ·exact qk (lE h)
   ·obtain rfl:=so h
    exact rq hC [] [6,59] [(6,vI x14)] [] [] (qr eR)
theorem F6{t}{r}(h:iY n t=some r):VQ G 98 [] [V.tp [T.sl (List.map aH t.program.arrays),T.sl (List.map aD t.program.parts),T.sl (List.map aR t.list),T.sl (List.map (rL rI) t.reads),T.sl (List.map rI t.writes)]] (ms 0 1 3 cL r) [ar 141 1 3 cL r]:=by
 unfold iY at h
 refine vq aO Tryz.func98 rfl fun w X β0 hC hg=> ?_
 refine rq hC [] [2] [] [] [] (rq hC [] [3] [(3,V.t T.nilS)] [] [] (qs (rq hC [oN aR t.list] (fr 7 6) [(11,vI (t.list.length:Int)),(12,vI 0)] [] [] (qb (qw (lk hC [.grow 3 20 141] [3] [(3,ms 20 1 3 cL [])] [(20,some (ar 141 1 3 cL []))] [(20,true)]) ?_)))))
 refine bA (γ:=Nat) h (fun x_ g_=>aX [(0,V.tp [T.sl (List.map aH t.program.arrays),T.sl (List.map aD t.program.parts),T.sl (List.map aR t.list),T.sl (List.map (rL rI) t.reads),T.sl (List.map rI t.writes)]),(3,ms 20 g_ 3 cL x_.1),(11,vI (t.list.length:Int)),(12,vI x_.2)] [(20,ar 141 g_ 3 cL x_.1)] [20]) 1 (lS) ?_
 rintro again4 ⟨x1,x2⟩ g3 h
 refine rq hC [] [13] [(13,vB (decide (x2<(t.list.length:Int))))] [] [] (qs (aT h (fun c1 h=> ?_) (fun c1 h=> ?_)))
 ·refine qk (qs (qb (rq hC [] [4,14] [(4,vI x2)] [] [] (rq hC [] [5,15,16] [(5,vI (wr (x2+1)))] [] [] (qb (bA (γ:=Nat) h (fun x_ g_=>aX [(0,V.tp [T.sl (List.map aH t.program.arrays),T.sl (List.map aD t.program.parts),T.sl (List.map aR t.list),T.sl (List.map (rL rI) t.reads),T.sl (List.map rI t.writes)]),(3,ms 20 g_ 3 cL x_.1),(4,vI x2),(5,vI x_.2),(11,vI (t.list.length:Int)),(12,vI x2)] [(20,ar 141 g_ 3 cL x_.1)] [20]) g3 (lS) ?_))))))
  rintro again8 ⟨x5,x6⟩ g7 h
  refine qs (rq hC [oN aR t.list] (fr 17 7) [(23,vB (decide (x6<(t.list.length:Int))))] [] [] (aT h (fun c2 h=> ?_) (fun c2 h=> ?_)))
  ·refine qk ?_
   obtain⟨j9,hj9,h⟩:=uW h
   refine gN (γ:=Nat) (j:=j9) (r:=r) (fun x_ g_=>aX [(0,V.tp [T.sl (List.map aH t.program.arrays),T.sl (List.map aD t.program.parts),T.sl (List.map aR t.list),T.sl (List.map (rL rI) t.reads),T.sl (List.map rI t.writes)]),(3,ms 20 g_ 3 cL x_),(4,vI x2),(5,vI x6),(11,vI (t.list.length:Int)),(12,vI x2)] [(20,ar 141 g_ 3 cL x_)] [20]) ?_ ?_
   ·
    refine qb ?_
    obtain⟨x10,hx10,h⟩:=bd h
    refine rq hC [oV (wK G hx10)] [6,26,27,28,29] [(6,vI x10)] [] [] (rq hC [] [30,31] [(31,vB (decide ((0:Int)<x10)))] [] [] (aT h (fun c3 h=> ?_) (fun c3 h=> ?_)))
    ·obtain⟨x11,hx11,h⟩:=bd h
     exact rk hC [.z (.int 0),oA (aP cL hx11),oQ (bZ (r:=cL) 3 w9 x5),oQ (bZ (r:=cL) 3 w9 [(⟨x2,x6,x10⟩:Dep)])] [3,32,33,34,35,36,37,38] [(3,ms 20 (g7+1) 3 cL x11)] [(20,some (ar 141 (g7+1) 3 cL x11))] [] ⟨x11,(g7+1),h,lS⟩
    ·exact qk ⟨x5,g7,h,lS⟩
   ·rintro x12 g13 h
    subst hj9
    exact rk hC [] [5,24,25] [(5,vI (wr (x6+1)))] [] [] ⟨(x12,wr (x6+1)),g13,h,lS⟩
  ·exact cM (rk hC [] [12,39] [(12,vI (wr (x2+1)))] [] [] ⟨(x5,wr (x2+1)),g7,h,lS⟩)
 ·obtain rfl:=so h
  exact cM (rq hC [] [2,40] [(2,ms 20 g3 3 cL x1)] [] [] (qw (lk hC [.ren 2 20 0] [2] [(2,ms 0 1 3 cL x1)] [(0,some (ar 141 1 3 cL x1)),(20,none)] [(0,true)]) (qr eW)))
theorem aKI{α:Type}{l:List α}{o m:Nat}{i:Int}{x:α}(h:ixv l o m i=some x):0≤i∧i<(m:Int):=by
 unfold ixv at h
 split at h
 ·assumption
 ·cases h
theorem aKH{α:Type}{l:List α}{o m:Nat}{i:Int}{x:α}(f:α→List T)(h:ixv l o m i=some x):(l.map f)[o+i.toNat]? =some (f x):=by
 unfold ixv at h
 split at h
 ·rw [List.getElem?_map,h];rfl
 ·cases h
theorem rZ(G:GS)(n:Nat)(s:List (List Int))(fF:FuncId)(f:List Int→List Int→Option Bool)(hf: ∀(x y:List Int) {r:Bool},f x y=some r→PQ G fF [vM rI x,vM rI y] (vB r))(gs:Nat){r:Nat×List (List Int)}(h:dV n s f=some r):
  VQ G 101 [ar 33 gs 1 (rL rI) s] [ms 0 gs 1 (rL rI) s,V.fn fF []] (ms 0 gs 1 (rL rI) (r.2.take r.1)) [ar 33 gs 1 (rL rI) r.2]:=by
 unfold dV at h
 refine vq aO Tryz.func101 rfl fun w X β0 hC hg=> ?_
 refine rq hC [] [4] [] [] [] (qs (rq hC [oN (rL rI) s] [8,9,10] [(10,vB (decide ((s.length:Int)<2)))] [] [] (aT h (fun c1 h=> ?_) (fun c1 h=> ?_))))
 ·obtain rfl:=so h
  exact rq hC [.z (.at 0),.z (.len 4 (List.map (rL rI) (s.take s.length)).length),oQ (aJR (rL rI) s)] [4,11] [(4,ms 0 gs 1 (rL rI) (s.take s.length))] [] [] (qr eW)
 ·refine qk (qs (rq hC [] [5] [(5,vI 1)] [] [] (qb (jP h (fun x_=>aX [(0,ms 0 gs 1 (rL rI) s),(1,V.fn fF []),(5,vI x_)] [(0,ar 33 gs 1 (rL rI) s)] [0]) lS ?_))))
  rintro again1 k h
  refine qs (rq hC [oN (rL rI) s] (fr 12 4) [(15,vB (decide (k<(s.length:Int))))] [] [] (aT h (fun c2 h=> ?_) (fun c2 h=> ?_)))
  ·refine qk (qs (qb (qs ?_)))
   obtain⟨x1,hx1,x2,hx2,x3,hx3,h⟩:=kY h
   refine dk hC bD [.z (.row (rL rI x1)),.z (.row (rL rI x2)),oQ (iX (rL rI) hx1),oQ (o0 (rL rI) hx1),oQ (iX (rL rI) hx2),oQ (o0 (rL rI) hx2),oV (hf x1 x2 hx3)] (fr 18 11) [(28,vB x3)] [] [] (aT h (fun c3 h=> ?_) (fun c3 h=> ?_))
   ·have k0:=(iX (rL rI) hx1).1
    refine rq hC [.z (.nat k.toNat),.z (.nat (s.length-k.toNat)),oQ (H8 (rL rI) s k0 (of_decide_eq_true c2))] [6,29,30,31] [(6,V.msl 0 gs 1 k.toNat (s.length-k.toNat))] [] [] (qs (rq hC [] [7] [(7,vI 1)] [] [] (qb (jP h (fun x_=>aX [(0,ms 0 gs 1 (rL rI) x_.1.1),(1,V.fn fF []),(5,vI x_.1.2),(6,V.msl 0 gs 1 k.toNat (s.length-k.toNat)),(7,vI x_.2)] [(0,ar 33 gs 1 (rL rI) x_.1.1)] [0]) lS ?_))))
    rintro again2 ⟨⟨l,i⟩,k2⟩ h
    refine qs (rq hC [.z (.nat (s.length-k.toNat)),oQ (Eq.refl (s.length-k.toNat))] (fr 32 4) [(35,vB (decide (k2<((s.length-k.toNat:Nat):Int))))] [] [] (aT h (fun c4 h=> ?_) (fun c4 h=> ?_)))
    ·refine qk (qs (qb (qs ?_)))
     obtain⟨y1,hy1,h⟩:=bd h
     obtain⟨y2,hy2,h⟩:=bd h
     obtain⟨y3,hy3,h⟩:=bd h
     refine dk hC bD [.z (.row (rL rI y1)),.z (.row (rL rI y2)),oQ (aKI hy1),oQ (aKH (rL rI) hy1),oQ (aKI hy2),oQ (aKH (rL rI) hy2),oV (hf y1 y2 hy3)] (fr 38 12) [(49,vB (!y3))] [] [] (aT h (fun c5 h=> ?_) (fun c5 h=> ?_))
     ·refine qs ?_
      obtain⟨y4,hy4,h⟩:=bd h
      obtain⟨y5,hy5,h⟩:=bd h
      exact rk hC [.z (.row (rL rI y1)),.z (.row (rL rI y4)),.z (.rows (List.map (rL rI) y5)),.z (.len 0 (List.map (rL rI) y5).length),oQ (aKI hy1),oQ (aKH (rL rI) hy1),oQ (iX (rL rI) hy4),oQ (o0 (rL rI) hy4),oQ (str (rL rI) hy5),oQ (lI (rL rI) hy5)] [0,50,51,52,53,54,55,56] [(0,ms 0 gs 1 (rL rI) y5)] [(0,some (ar 33 gs 1 (rL rI) y5))] [] (rk hC [] [5,57,58] [(5,vI (wr (i+1)))] [] [] (rk hC [] [7,36,37] [(7,vI (wr (k2+1)))] [] [] (lE h)))
     ·exact qk (rk hC [] [7,36,37] [(7,vI (wr (k2+1)))] [] [] (lE h))
    ·refine cM (aS h (fun c6 h=> ?_) (fun c6 h=> ?_))
     ·exact nof h
     ·refine aS h (fun c7 h=> ?_) (fun c7 h=> ?_)
      ·exact nof h
      ·obtain rfl:=so h
       exact rq hC [.z (.nat i.toNat),.z (.nat (l.length-i.toNat)),.z (.rows (List.map (rL rI) (l.take i.toNat++List.replicate (l.length-i.toNat) ([]:List Int)))),oQ (H8 (rL rI) l (of_decide_eq_true c6) (of_decide_eq_true c7)),oQ (aF0 (rL rI) l ([]:List Int) (of_decide_eq_true c6) (of_decide_eq_true c7))] [59,60,61] [] [(0,some (ar 33 gs 1 (rL rI) (l.take i.toNat++List.replicate (l.length-i.toNat) ([]:List Int))))] [] (rq hC [.z (.nat 0),.z (.nat (List.map (rL rI) ((l.take i.toNat++List.replicate (l.length-i.toNat) ([]:List Int)).take i.toNat)).length),oQ (aKj (rL rI) l ([]:List Int) (of_decide_eq_true c6) (of_decide_eq_true c7))] [4,62,63,64] [(4,ms 0 gs 1 (rL rI) ((l.take i.toNat++List.replicate (l.length-i.toNat) ([]:List Int)).take i.toNat))] [] [] (qr eW))
   ·exact qk (rk hC [] [5,16,17] [(5,vI (wr (k+1)))] [] [] (lE h))
  ·obtain rfl:=so h
   exact cM (rq hC [.z (.at 0),.z (.len 4 (List.map (rL rI) (s.take s.length)).length),oQ (aJR (rL rI) s)] [4,65] [(4,ms 0 gs 1 (rL rI) (s.take s.length))] [] [] (qr eW))
theorem aIY{x r:List (List Int)}(h:m_sortL x=some r):(List.map (rL rI) x).length=(List.map (rL rI) r).length:=by
 unfold m_sortL at h
 split at h
 ·cases h
  simp [jR]
 ·cases h
theorem tT{t}{part}{r}(h:eC n t part=some r):PQ G 57 [V.tp [T.sl (List.map aH t.program.arrays),T.sl (List.map aD t.program.parts),T.sl (List.map aR t.list),T.sl (List.map (rL rI) t.reads),T.sl (List.map rI t.writes)],vI part] (vM (rL rI) r):=by
 unfold eC at h
 refine pq aO Tryz.func57 rfl fun w X hC=> ?_
 refine rq hC [] [4] [] [] [] (rq hC [] [5] [(5,V.t T.nilS)] [] [] (qs ?_))
 obtain⟨x1,hx1,h⟩:=bd h
 refine rq hC [oC [] [20] (F6 G hx1),oN cL x1] (fr 12 4) [(13,ms 20 1 3 cL x1),(14,vI (x1.length:Int)),(15,vI 0)] [(20,some (ar 141 1 3 cL x1))] [(20,true)] (qb (qw (lk hC [.grow 5 21 33] [5] [(5,ms 21 1 1 (rL rI) [])] [(21,some (ar 33 1 1 (rL rI) []))] [(21,true)]) (bA (γ:=Nat) h (fun x_ g_=>aX [(0,V.tp [T.sl (List.map aH t.program.arrays),T.sl (List.map aD t.program.parts),T.sl (List.map aR t.list),T.sl (List.map (rL rI) t.reads),T.sl (List.map rI t.writes)]),(1,vI part),(5,ms 21 g_ 1 (rL rI) x_.1),(13,ms 20 1 3 cL x1),(14,vI (x1.length:Int)),(15,vI x_.2)] [(20,ar 141 1 3 cL x1),(21,ar 33 g_ 1 (rL rI) x_.1)] [20,21]) 1 (lS) ?_)))
 rintro again5 ⟨x2,x3⟩ g4 h
 refine rq hC [] [16] [(16,vB (decide (x3<(x1.length:Int))))] [] [] (qs (aT h (fun c1 h=> ?_) (fun c1 h=> ?_)))
 ·refine qk ?_
  obtain⟨j6,hj6,h⟩:=uW h
  refine gN (γ:=Nat) (j:=j6) (r:=r) (fun x_ g_=>aX [(0,V.tp [T.sl (List.map aH t.program.arrays),T.sl (List.map aD t.program.parts),T.sl (List.map aR t.list),T.sl (List.map (rL rI) t.reads),T.sl (List.map rI t.writes)]),(1,vI part),(5,ms 21 g_ 1 (rL rI) x_.1),(13,ms 20 1 3 cL x1),(14,vI (x1.length:Int)),(15,vI x3)] [(20,ar 141 1 3 cL x1),(21,ar 33 g_ 1 (rL rI) x_.1),(22,E.cells [vI x_.2.1,vI x_.2.2.1,vI x_.2.2.2.1]),(23,E.cells [vI x_.2.2.2.2.1,vI x_.2.2.2.2.2.1,vM rI x_.2.2.2.2.2.2.1]),(24,E.cells [vI x_.2.2.2.2.2.2.2.1,vI x_.2.2.2.2.2.2.2.2.1,vM rI x_.2.2.2.2.2.2.2.2.2])] [20,21,22,23,24]) ?_ ?_
  ·
   refine qb ?_
   obtain⟨x7,hx7,h⟩:=bd h
   refine rq hC [oQ (iX cL hx7),oX cL hx7,.z (.nat 22)] [7,17,18] [(7,V.ref 22 0)] [(22,sc [vI x7.fromF,vI x7.toF,vI x7.kinds])] [(22,true)] (qs ?_)
   obtain⟨x8,hx8,x9,hx9,h⟩:=cS h
   refine dk hC bD [oR aR hx8,oR aR hx9,.z (.nat 23),.z (.nat 24)] [8,9,19,20,21,22,23,24,25,26,27,28,29,30,31,32,33,34] [(8,V.ref 23 0),(9,V.ref 24 0)] [(23,some (E.cells (qI x8))),(24,some (E.cells (qI x9)))] [(23,true),(24,true)] (qs (vj h (fun x_=>aX [(0,V.tp [T.sl (List.map aH t.program.arrays),T.sl (List.map aD t.program.parts),T.sl (List.map aR t.list),T.sl (List.map (rL rI) t.reads),T.sl (List.map rI t.writes)]),(1,vI part),(5,ms 21 g4 1 (rL rI) x2),(8,V.ref 23 0),(9,V.ref 24 0),(13,ms 20 1 3 cL x1),(14,vI (x1.length:Int)),(15,vI x3),(44,vB x_)] [(20,ar 141 1 3 cL x1),(21,ar 33 g4 1 (rL rI) x2),(22,E.cells [vI x7.fromF,vI x7.toF,vI x7.kinds]),(23,E.cells (qI x8)),(24,E.cells (qI x9))] [20,21,22,23,24]) (fun j10 h=> ?_) (fun x11 h=> ?_)))
   ·
    refine aS h (fun c2 h=> ?_) (fun c2 h=> ?_)
    ·exact rk hC (rF 5 c2) (fr 35 10) [(44,vB (!decide (x9.part=part)))] [] [] (lE h)
    ·exact rk hC (rT 5 c2) (fr 35 10) [(44,vB true)] [] [] (lE h)
   ·refine aT h (fun c3 h=> ?_) (fun c3 h=> ?_)
    ·exact cM ⟨(x2,x7.fromF,x7.toF,x7.kinds,x8.part,x8.stmt,x8.point,x9.part,x9.stmt,x9.point),g4,h,lS⟩
    ·refine qk (rq hC [] [10] [(10,V.t T.nilS)] [] [] (qs (rq hC [oN rI x9.point] (fr 45 4) [(47,vI (x9.point.length:Int)),(48,vI 0)] [] [] (qb (qw (lk hC [.grow 10 25 3] [10] [(10,ms 25 1 1 rI [])] [(25,some (ar 3 1 1 rI []))] [(25,true)]) ?_)))))
     refine bA (γ:=Nat) h (fun x_ g_=>aX [(0,V.tp [T.sl (List.map aH t.program.arrays),T.sl (List.map aD t.program.parts),T.sl (List.map aR t.list),T.sl (List.map (rL rI) t.reads),T.sl (List.map rI t.writes)]),(1,vI part),(5,ms 21 g4 1 (rL rI) x2),(8,V.ref 23 0),(9,V.ref 24 0),(10,ms 25 g_ 1 rI x_.1),(13,ms 20 1 3 cL x1),(14,vI (x1.length:Int)),(15,vI x3),(47,vI (x9.point.length:Int)),(48,vI x_.2)] [(20,ar 141 1 3 cL x1),(21,ar 33 g4 1 (rL rI) x2),(22,E.cells [vI x7.fromF,vI x7.toF,vI x7.kinds]),(23,E.cells (qI x8)),(24,E.cells (qI x9)),(25,ar 3 g_ 1 rI x_.1)] [20,21,22,23,24,25]) 1 (lS) ?_
     rintro again15 ⟨x12,x13⟩ g14 h
     refine rq hC [] [49] [(49,vB (decide (x13<(x9.point.length:Int))))] [] [] (qs (aT h (fun c4 h=> ?_) (fun c4 h=> ?_)))
     ·refine qk (qs (qb (rq hC [] [11,50] [(11,vI x13)] [] [] ?_)))
      obtain⟨x16,hx16,x17,hx17,x18,hx18,h⟩:=kY h
      exact dk hC bD [oR rI hx16,oR rI hx17,.z (.int 0),oA (aP rI hx18),oQ (bZ (r:=rI) 1 (fun _=>rfl) x12),oQ (bZ (r:=rI) 1 (fun _=>rfl) [wr (x16-x17)])] [10,51,52,53,54,55,56,57,58,59,60,61,62,63,64] [(10,ms 25 (g14+1) 1 rI x18)] [(25,some (ar 3 (g14+1) 1 rI x18))] [] (rk hC [] [48,65] [(48,vI (wr (x13+1)))] [] [] ⟨(x18,wr (x13+1)),(g14+1),h,lS⟩)
     ·refine cM ?_
      obtain⟨x19,hx19,h⟩:=bd h
      exact rk hC [.z (.at 3),.z (.fz 25 [10,67] []),.z (.int 0),oA (aP (rL rI) hx19),oQ (bZ (r:=(rL rI)) 1 (fun _=>rfl) x2),oQ (bZ (r:=(rL rI)) 1 (fun _=>rfl) [x12])] [5,10,66,67,68,69] [(5,ms 21 (g4+1) 1 (rL rI) x19)] [(25,none),(21,some (ar 33 (g4+1) 1 (rL rI) x19))] [] ⟨(x19,x7.fromF,x7.toF,x7.kinds,x8.part,x8.stmt,x8.point,x9.part,x9.stmt,x9.point),(g4+1),h,lS⟩
  ·rintro⟨x20,x21,x22,x23,x24,x25,x26,x27,x28,x29⟩ g30 h
   subst hj6
   exact rk hC [] [15,70] [(15,vI (wr (x3+1)))] [] [] ⟨(x20,wr (x3+1)),g30,h,lS⟩
 ·refine cM ?_
  obtain⟨x31,hx31,h⟩:=bd h
  refine rq hC [oC [21] [] (G.sort x2 g4 hx31),.z (.len 5 (List.map (rL rI) x31).length),oQ (aIY hx31)] [5,71,72] [(5,ms 21 g4 1 (rL rI) x31)] [(21,some (ar 33 g4 1 (rL rI) x31))] [(21,true)] ?_
  obtain⟨x33,hx33,h⟩:=bd h
  obtain rfl:=so h
  exact rq hC [oC [21] [] (rZ G n x31 46 (fun q0 q1=>jW n q0 q1) (fun q0 q1 r h=>U2 G n q0 q1 h) g4 hx33),.z (.cut 21 x33.1 (List.map (rL rI) (x33.2.take x33.1))),oQ (aMl (rL rI) x33.2 x33.1)] [4,5,73,74] [(4,ms 21 g4 1 (rL rI) (x33.2.take x33.1))] [(21,some (ar 33 g4 1 (rL rI) (x33.2.take x33.1)))] [(21,true)] (qw (lk hC [.fz 21 [4] []] [4] [(4,vM (rL rI) (x33.2.take x33.1))] [(21,none)] []) (qr eR))
theorem B5(G:GS)(n:Nat)(n_a0:Int){r:Bool}(h:kR n n_a0=some r):PQ G 144 [vI n_a0] (vB r):=by
 unfold kR at h
 refine pq aO Tryz.func144 rfl fun w X hC=> ?_
 obtain rfl:=so h
 exact rq hC [] [2] [] [] [] (rq hC [] [2,3,4] [(2,vB (!decide (n_a0=0)))] [] [] (qr eR))
theorem R5{d}{r}(h:kS n d=some r):PQ G 97 [vM rI d] (vI r):=by
 unfold kS at h
 refine pq aO Tryz.func97 rfl fun w X hC=> ?_
 refine rq hC [] [2] [] [] [] ?_
 obtain⟨x1,hx1,h⟩:=bd h
 obtain rfl:=so h
 exact rq hC [oV (oO G n d 144 (fun q0=>kR n q0) (fun q0 r h=>B5 G n q0 h) hx1)] [2,3,4] [(2,vI x1)] [] [] (qr eR)
theorem wJ{t}{part}{r}(h:fG n t part=some r):VQ G 55 [] [V.tp [T.sl (List.map aH t.program.arrays),T.sl (List.map aD t.program.parts),T.sl (List.map aR t.list),T.sl (List.map (rL rI) t.reads),T.sl (List.map rI t.writes)],vI part] (ms 0 1 1 rB r) [ar 4 1 1 rB r]:=by
 unfold fG at h
 refine vq aO Tryz.func55 rfl fun w X β0 hC hg=> ?_
 refine rq hC [] [4] [] [] [] ?_
 obtain⟨x1,hx1,x2,hx2,h⟩:=cS h
 refine rq hC [oR aD hx1,oN aC x1.nest,.z (.nat 20),oA (aDu rB hx2),oQ (xF hx2).1] [5,9,10,11,12,13,14,15,16,17,18,19] [(5,ms 20 1 1 rB x2)] [(20,some (ar 4 1 1 rB x2))] [(20,true)] (qs ?_)
 obtain⟨x3,hx3,h⟩:=bd h
 refine rq hC [oV (tT G hx3),oN (rL rI) x3] (fr 20 5) [(22,vM (rL rI) x3),(23,vI (x3.length:Int)),(24,vI 0)] [] [] (qb (bA (γ:=Nat) h (fun x_ g_=>aX [(5,ms 20 g_ 1 rB x_.1),(22,vM (rL rI) x3),(23,vI (x3.length:Int)),(24,vI x_.2)] [(20,ar 4 g_ 1 rB x_.1)] [20]) 1 (lS) ?_))
 rintro again7 ⟨x4,x5⟩ g6 h
 refine rq hC [] [25] [(25,vB (decide (x5<(x3.length:Int))))] [] [] (qs (aT h (fun c1 h=> ?_) (fun c1 h=> ?_)))
 ·refine qk (vj h (fun x_=>aX [(5,ms 20 g6 1 rB x_),(22,vM (rL rI) x3),(23,vI (x3.length:Int)),(24,vI x5)] [(20,ar 4 g6 1 rB x_)] [20]) (fun j8 h=> ?_) (fun x13 h=> ?_))
  ·
   refine qb ?_
   obtain⟨x9,hx9,h⟩:=bd h
   refine rq hC [oR (rL rI) hx9] [7,26,27] [(7,vM rI x9)] [] [] ?_
   obtain⟨x10,hx10,h⟩:=bd h
   refine rq hC [oV (R5 G hx10)] [8,28,29] [(8,vI x10)] [] [] (rq hC [] [30,31] [(31,vB (decide ((0:Int)≤x10)))] [] [] (aT h (fun c2 h=> ?_) (fun c2 h=> ?_)))
   ·obtain⟨x11,hx11,x12,hx12,h⟩:=cS h
    exact rk hC [oQ (iX rB hx11),oX rB hx11,.z (.rows (List.map rB x12)),.z (.len 5 (List.map rB x12).length),oQ (str rB hx12),oQ (lI rB hx12)] [5,32,33,34] [(5,ms 20 g6 1 rB x12)] [(20,some (ar 4 g6 1 rB x12))] [] (lE h)
   ·exact qk (lE h)
  ·exact rk hC [] [24,35] [(24,vI (wr (x5+1)))] [] [] ⟨(x13,wr (x5+1)),g6,h,lS⟩
 ·obtain rfl:=so h
  exact cM (rq hC [] [4,36] [(4,ms 20 g6 1 rB x4)] [] [] (qw (lk hC [.ren 4 20 0] [4] [(4,ms 0 1 1 rB x4)] [(0,some (ar 4 1 1 rB x4)),(20,none)] [(0,true)]) (qr eW)))
theorem iI{p}{part}{loop}{r}(h:eD n p part loop=some r):PQ G 16 [V.agg (bX p),vI part,vI loop] (vB r):=by
 unfold eD at h
 refine pq aO Tryz.func16 rfl fun w X hC=> ?_
 refine rq hC [.z (.b (true))] [3,6] [(3,V.tp (bU p))] [] [] (qs ?_)
 obtain⟨x1,hx1,h⟩:=bd h
 refine aS h (fun c1 h=> ?_) (fun c1 h=> ?_)
 ·refine rk hC [.z (.v (V.tup [V.t T.nilP,vB x1.2])),oQ (vPn c1 (Z3 G hx1))] (fr 7 7) [(7,V.t T.nilP),(8,vB x1.2)] [] [] (vj h (fun x_=>aX [(6,vB false)] [] []) (fun j2 h=> ?_) ?_)
  ·
   refine aS h (fun c2 h=> ?_) (fun c2 h=> ?_)
   ·exact rk hC (rF 5 c2++sF 8) [6,14,15,16,17,18,19,20,21,22,23,24,25,26,27,28,29] [(6,vB false)] [] [] (lE h)
   ·obtain⟨x3,hx3,h⟩:=bd h
    refine aS h (fun c3 h=> ?_) (fun c3 h=> ?_)
    ·exact rk hC (rT 4 c2++[oV (eE G hx3),oT c2]++rF 8 c3) [6,14,15,16,17,18,19,20,21,22,23,24,25,26,27,28,29] [(6,vB false)] [] [] (lE h)
    ·exact nof h
  ·rintro⟨⟩ h
   obtain rfl:=so h
   exact qr eR
 ·refine rk hC [.z (.v (V.tup [V.tp [T.sl (List.map aH (((x1.1.getD default).program).arrays)),T.sl (List.map aD (((x1.1.getD default).program).parts)),T.sl (List.map aR ((x1.1.getD default).list)),T.sl (List.map (rL rI) ((x1.1.getD default).reads)),T.sl (List.map rI ((x1.1.getD default).writes))],vB x1.2])),oQ (vPs c1 (Z3 G hx1))] (fr 7 7) [(7,V.tp [T.sl (List.map aH (((x1.1.getD default).program).arrays)),T.sl (List.map aD (((x1.1.getD default).program).parts)),T.sl (List.map aR ((x1.1.getD default).list)),T.sl (List.map (rL rI) ((x1.1.getD default).reads)),T.sl (List.map rI ((x1.1.getD default).writes))]),(8,vB x1.2)] [] [] (vj h (fun x_=>aX [(6,vB x_)] [] []) (fun j4 h=> ?_) (fun x8 h=> ?_))
  ·
   refine aS h (fun c4 h=> ?_) (fun c4 h=> ?_)
   ·exact rk hC (rF 5 c4++sF 8) [6,14,15,16,17,18,19,20,21,22,23,24,25,26,27,28,29] [(6,vB false)] [] [] (lE h)
   ·obtain⟨x5,hx5,h⟩:=bd h
    refine aS h (fun c5 h=> ?_) (fun c5 h=> ?_)
    ·exact rk hC (rT 4 c4++[oV (eE G hx5),oT c4]++rF 8 c5) [6,14,15,16,17,18,19,20,21,22,23,24,25,26,27,28,29] [(6,vB false)] [] [] (lE h)
    ·obtain⟨x6,hx6,x7,hx7,h⟩:=cS h
     exact rk hC (rT 4 c4++[oV (eE G hx5),oT c4]++rT 3 c5++[oC [] [20] (wJ G hx6),oT c5,oT c5,oQ (iX rB hx7),oT c5,oX rB hx7,oT c5,oT c5]) [6,14,15,16,17,18,19,20,21,22,23,24,25,26,27,28,29] [(6,vB (!x7))] [(20,some (ar 4 1 1 rB x6))] [(20,true)] (lE h)
  ·obtain rfl:=so h
   exact qr eR
theorem A8{list}{n_a1}{r}(h:qL n list n_a1=some r):PQ G 60 [vM rI list,vI n_a1] (vB r):=by
 unfold qL at h
 refine pq aO Tryz.func60 rfl fun w X hC=> ?_
 refine rq hC [] [4] [] [] [] (qs (rq hC [] [5] [(5,vI 0)] [] [] (qb (jP h (fun x_=>aX [(0,vM rI list),(1,vI n_a1),(5,vI x_)] [] []) lS ?_))))
 rintro again2 x1 h
 refine qs (rq hC [oN rI list] (fr 6 4) [(9,vB (decide (x1<(list.length:Int))))] [] [] (aT h (fun c1 h=> ?_) (fun c1 h=> ?_)))
 ·refine qk (qs (qb ?_))
  obtain⟨x3,hx3,h⟩:=bd h
  refine rq hC [oR rI hx3] (fr 12 6) [(17,vB (decide (x3=n_a1)))] [] [] (aT h (fun c2 h=> ?_) (fun c2 h=> ?_))
  ·obtain rfl:=so h
   exact rq hC [] [4] [(4,vB true)] [] [] (qr eR)
  ·exact qk (rk hC [] [5,10,11] [(5,vI (wr (x1+1)))] [] [] (lE h))
 ·obtain rfl:=so h
  exact cM (rq hC [] [4] [(4,vB false)] [] [] (qr eR))
theorem T9{list}{r}(h:jS n list=some r):VQ G 104 [] [vM rB list] (ms 0 1 1 rI r) [ar 3 1 1 rI r]:=by
 unfold jS at h
 refine vq aO Tryz.func104 rfl fun w X β0 hC hg=> ?_
 refine rq hC [] [2] [] [] [] (rq hC [.z (.nat 20)] [3,5] [(3,ms 20 1 1 rI [])] [(20,some (ar 3 1 1 rI []))] [(20,true)] (qs (rq hC [] [4] [(4,vI 0)] [] [] (qb (bA (γ:=Nat) h (fun x_ g_=>aX [(0,vM rB list),(3,ms 20 g_ 1 rI x_.1),(4,vI x_.2)] [(20,ar 3 g_ 1 rI x_.1)] [20]) 1 (lS) ?_)))))
 rintro again4 ⟨x1,x2⟩ g3 h
 refine qs (rq hC [oN rB list] (fr 6 4) [(9,vB (decide (x2<(list.length:Int))))] [] [] (aT h (fun c1 h=> ?_) (fun c1 h=> ?_)))
 ·refine qk ?_
  obtain⟨j5,hj5,h⟩:=uW h
  refine gN (γ:=Nat) (j:=j5) (r:=r) (fun x_ g_=>aX [(0,vM rB list),(3,ms 20 g_ 1 rI x_),(4,vI x2)] [(20,ar 3 g_ 1 rI x_)] [20]) ?_ ?_
  ·
   refine qb ?_
   obtain⟨x6,hx6,h⟩:=bd h
   refine rq hC [oR rB hx6] (fr 12 4) [(15,vB x6)] [] [] (aT h (fun c2 h=> ?_) (fun c2 h=> ?_))
   ·obtain⟨x7,hx7,h⟩:=bd h
    exact rk hC [.z (.int 0),oA (aP rI hx7),oQ (bZ (r:=rI) 1 (fun _=>rfl) x1),oQ (bZ (r:=rI) 1 (fun _=>rfl) [x2])] [3,16,17,18,19] [(3,ms 20 (g3+1) 1 rI x7)] [(20,some (ar 3 (g3+1) 1 rI x7))] [] ⟨x7,(g3+1),h,lS⟩
   ·exact qk ⟨x1,g3,h,lS⟩
  ·rintro x8 g9 h
   subst hj5
   exact rk hC [] [4,10,11] [(4,vI (wr (x2+1)))] [] [] ⟨(x8,wr (x2+1)),g9,h,lS⟩
 ·obtain rfl:=so h
  exact cM (rq hC [] [2,20] [(2,ms 20 g3 1 rI x1)] [] [] (qw (lk hC [.ren 2 20 0] [2] [(2,ms 0 1 1 rI x1)] [(0,some (ar 3 1 1 rI x1)),(20,none)] [(0,true)]) (qr eW)))
theorem aCl{a}{b}{r}(h:pE n a b=some r):VQ G 200 [] [vM rI a,vM rI b] (ms 0 1 1 rI r) [ar 3 1 1 rI r]:=by
 unfold pE at h
 refine vq aO Tryz.func200 rfl fun w X β0 hC hg=> ?_
 refine rq hC [] [4] [] [] [] (rq hC [.z (.nat 20)] [5,7] [(5,ms 20 1 1 rI [])] [(20,some (ar 3 1 1 rI []))] [(20,true)] (qs (rq hC [] [6] [(6,vI 0)] [] [] (qb (bA (γ:=Nat) h (fun x_ g_=>aX [(0,vM rI a),(1,vM rI b),(5,ms 20 g_ 1 rI x_.1),(6,vI x_.2)] [(20,ar 3 g_ 1 rI x_.1)] [20]) 1 (lS) ?_)))))
 rintro again4 ⟨x1,x2⟩ g3 h
 refine qs (rq hC [oN rI a] (fr 8 4) [(11,vB (decide (x2<(a.length:Int))))] [] [] (aT h (fun c1 h=> ?_) (fun c1 h=> ?_)))
 ·refine qk (qs (qb ?_))
  obtain⟨x5,hx5,x6,hx6,x7,hx7,h⟩:=kY h
  exact dk hC bD [oR rI hx5,oR rI hx6,.z (.int 0),oA (aP rI hx7),oQ (bZ (r:=rI) 1 (fun _=>rfl) x1),oQ (bZ (r:=rI) 1 (fun _=>rfl) [wr (x5-x6)])] [5,14,15,16,17,18,19,20,21,22,23,24,25] [(5,ms 20 (g3+1) 1 rI x7)] [(20,some (ar 3 (g3+1) 1 rI x7))] [] (rk hC [] [6,12,13] [(6,vI (wr (x2+1)))] [] [] ⟨(x7,wr (x2+1)),(g3+1),h,lS⟩)
 ·obtain rfl:=so h
  exact cM (rq hC [] [4,26] [(4,ms 20 g3 1 rI x1)] [] [] (qw (lk hC [.ren 4 20 0] [4] [(4,ms 0 1 1 rI x1)] [(0,some (ar 3 1 1 rI x1)),(20,none)] [(0,true)]) (qr eW)))
theorem rQ{p}{r}(h:gE n p=some r):VQ G 161 [] [V.agg (bX p)] (ms 0 1 3 aR r) [ar 135 1 3 aR r]:=by
 unfold gE at h
 refine vq aO Tryz.func161 rfl fun w X β0 hC hg=> ?_
 refine rq hC [.z (.b (true))] [1,2] [(1,V.tp (bU p))] [] [] (rq hC [.z (.nat 20)] [3,8] [(3,ms 20 1 3 aR [])] [(20,some (ar 135 1 3 aR []))] [(20,true)] (qs (rq hC [] [4] [(4,vI 0)] [] [] (qb (bA (γ:=Nat) h (fun x_ g_=>aX [(1,V.tp (bU p)),(3,ms 20 g_ 3 aR x_.1),(4,vI x_.2)] [(20,ar 135 g_ 3 aR x_.1)] [20]) 1 (lS) ?_)))))
 rintro again4 ⟨x1,x2⟩ g3 h
 refine qs (rq hC [oN aD p.parts] (fr 9 5) [(13,vB (decide (x2<(p.parts.length:Int))))] [] [] (aT h (fun c1 h=> ?_) (fun c1 h=> ?_)))
 ·refine qk (qs (qb ?_))
  obtain⟨x5,hx5,x6,hx6,h⟩:=cS h
  refine rq hC [.z (.nat 21),oR aD hx5,oC [21] [] (yE G n [] 1 x5.nest [] hx6)] [5,16,17,18,19,20,21,22,23] [(5,ms 21 2 1 (rL rI) x6)] [(21,some (ar 33 2 1 (rL rI) x6))] [(21,true),(21,true)] (rq hC [] [6] [(6,vI 0)] [] [] (qb (bA (γ:=Nat) h (fun x_ g_=>aX [(1,V.tp (bU p)),(3,ms 20 g_ 3 aR x_.1),(4,vI x2),(5,ms 21 2 1 (rL rI) x6),(6,vI x_.2)] [(20,ar 135 g_ 3 aR x_.1),(21,ar 33 2 1 (rL rI) x6)] [20,21]) g3 (lS) ?_)))
  rintro again10 ⟨x7,x8⟩ g9 h
  refine qs (rq hC [oN (rL rI) x6] (fr 24 4) [(27,vB (decide (x8<(x6.length:Int))))] [] [] (aT h (fun c2 h=> ?_) (fun c2 h=> ?_)))
  ·refine qk (qs (qb (rq hC [] [7] [(7,vI 0)] [] [] (qb (bA (γ:=Nat) h (fun x_ g_=>aX [(1,V.tp (bU p)),(3,ms 20 g_ 3 aR x_.1),(4,vI x2),(5,ms 21 2 1 (rL rI) x6),(6,vI x8),(7,vI x_.2)] [(20,ar 135 g_ 3 aR x_.1),(21,ar 33 2 1 (rL rI) x6)] [20,21]) g9 (lS) ?_)))))
   rintro again14 ⟨x11,x12⟩ g13 h
   refine qs (rq hC [oR aD hx5,oN aJ x5.body] (fr 30 9) [(38,vB (decide (x12<(x5.body.length:Int))))] [] [] (aT h (fun c3 h=> ?_) (fun c3 h=> ?_)))
   ·refine qk (qs (qb ?_))
    obtain⟨x15,hx15,x16,hx16,x17,hx17,h⟩:=kY h
    exact rk hC [.z (.nat 22),oQ (iX (rL rI) hx15),oX (rL rI) hx15,oA (aP rI hx16),.z (.at 4),.z (.fz 22 [49] []),.z (.int 0),oQ (bZ (r:=rI) 1 (fun _=>rfl) []),oQ (bZ (r:=rI) 1 (fun _=>rfl) x15),oA (aP aR hx17),oQ (bZ (r:=aR) 3 uH x11),oQ (bZ (r:=aR) 3 uH [(⟨x2,x12,x16⟩:Inst)])] [3,41,42,43,44,45,46,47,48,49,50,51,52] [(3,ms 20 (g13+1) 3 aR x17)] [(22,none),(20,some (ar 135 (g13+1) 3 aR x17))] [(22,true)] (rk hC [] [7,39,40] [(7,vI (wr (x12+1)))] [] [] ⟨(x17,wr (x12+1)),(g13+1),h,lS⟩)
   ·exact cM (rk hC [] [6,28,29] [(6,vI (wr (x8+1)))] [] [] ⟨(x11,wr (x8+1)),g13,h,lS⟩)
  ·exact cM (rk hC [] [4,14,15] [(4,vI (wr (x2+1)))] [] [] ⟨(x7,wr (x2+1)),g9,h,lS⟩)
 ·obtain rfl:=so h
  exact cM (rq hC [] [2,53] [(2,ms 20 g3 3 aR x1)] [] [] (qw (lk hC [.ren 2 20 0] [2] [(2,ms 0 1 3 aR x1)] [(0,some (ar 135 1 3 aR x1)),(20,none)] [(0,true)]) (qr eW)))
theorem aD3{p}{r}(h:sL n p=some r):VQ G 121 [] [V.agg (bX p)] (ms 0 1 2 cT r) [ar 160 1 2 cT r]:=by
 unfold sL at h
 refine vq aO Tryz.func121 rfl fun w X β0 hC hg=> ?_
 refine rq hC [.z (.b (true))] [1,2] [(1,V.tp (bU p))] [] [] (rq hC [.z (.nat 20)] [3,9] [(3,ms 20 1 2 cT [])] [(20,some (ar 160 1 2 cT []))] [(20,true)] ?_)
 obtain⟨x1,hx1,h⟩:=bd h
 refine rq hC [oC [] [21] (rQ G hx1)] [4,10,11] [(4,ms 21 1 3 aR x1)] [(21,some (ar 135 1 3 aR x1))] [(21,true)] (qs (rq hC [] [5] [(5,vI 0)] [] [] (qb (bA (γ:=Nat) h (fun x_ g_=>aX [(1,V.tp (bU p)),(3,ms 20 g_ 2 cT x_.1),(4,ms 21 1 3 aR x1),(5,vI x_.2)] [(20,ar 160 g_ 2 cT x_.1),(21,ar 135 1 3 aR x1)] [20,21]) 1 (lS) ?_))))
 rintro again5 ⟨x2,x3⟩ g4 h
 refine qs (rq hC [oN aR x1] (fr 12 4) [(15,vB (decide (x3<(x1.length:Int))))] [] [] (aT h (fun c1 h=> ?_) (fun c1 h=> ?_)))
 ·refine qk (qs (qb (qs ?_)))
  obtain⟨x6,hx6,x7,hx7,x8,hx8,h⟩:=kY h
  obtain⟨x9,hx9,h⟩:=bd h
  refine dk hC bD [oQ (iX aR hx6),oX aR hx6,oR aD hx7,oQ (iX aR hx6),oX aR hx6,oR aJ hx8,oQ (iX aR hx6),oX aR hx6,oC [] [22] (D6 G hx9)] [6,7,8,18,19,20,21,22,23,24,25,26,27,28,29,30,31,32,33,34,35,36,37,38,39,40,41,42,43,44,45,46] [(6,ms 22 1 1 rI x9.1),(7,vI x9.2.1)] [(22,some (ar 3 1 1 rI x9.1))] [(22,true)] ?_
  obtain⟨x10,hx10,h⟩:=bd h
  exact rk hC [.z (.at 4),.z (.fz 22 [6,48] []),.z (.int 0),oA (aP cT hx10),oQ (bZ (r:=cT) 2 K1 x2),oQ (bZ (r:=cT) 2 K1 [(⟨x9.1,x9.2.1⟩:L6Use)])] [3,6,47,48,49,50,51,52] [(3,ms 20 (g4+1) 2 cT x10)] [(22,none),(20,some (ar 160 (g4+1) 2 cT x10))] [] (rk hC [] [5,16,17] [(5,vI (wr (x3+1)))] [] [] ⟨(x10,wr (x3+1)),(g4+1),h,lS⟩)
 ·obtain rfl:=so h
  exact cM (rq hC [] [2,53] [(2,ms 20 g4 2 cT x2)] [] [] (qw (lk hC [.ren 2 20 0] [2] [(2,ms 0 1 2 cT x2)] [(0,some (ar 160 1 2 cT x2)),(20,none)] [(0,true)]) (qr eW)))
theorem aCm{a}{b}{r}(h:pF n a b=some r):PQ G 241 [V.agg [vM rI a.reads,vI a.write],V.agg [vM rI b.reads,vI b.write]] (vI r):=by
 unfold pF at h
 refine pq aO Tryz.func241 rfl fun w X hC=> ?_
 refine rq hC [.z (.b (true)),.z (.b (true))] [2,3,4] [(2,V.tp [T.sl (List.map rI a.reads),T.int .i64 a.write]),(3,V.tp [T.sl (List.map rI b.reads),T.int .i64 b.write])] [] [] (rq hC [] [5] [(5,vI 0)] [] [] (vj h (fun x_=>aX [(2,V.tp [T.sl (List.map rI a.reads),T.int .i64 a.write]),(3,V.tp [T.sl (List.map rI b.reads),T.int .i64 b.write]),(5,vI x_)] [] []) (fun j1 h=> ?_) (fun x3 h=> ?_)))
 ·
  obtain⟨x2,hx2,h⟩:=bd h
  refine rq hC [oV (A8 G hx2)] (fr 6 5) [(10,vB x2)] [] [] (aT h (fun c1 h=> ?_) (fun c1 h=> ?_))
  ·exact rk hC [] [5,11,12] [(5,vI (wr (0+1)))] [] [] (lE h)
  ·exact qk (lE h)
 ·refine vj h (fun x_=>aX [(2,V.tp [T.sl (List.map rI a.reads),T.int .i64 a.write]),(3,V.tp [T.sl (List.map rI b.reads),T.int .i64 b.write]),(5,vI x_)] [] []) (fun j4 h=> ?_) (fun x6 h=> ?_)
  ·
   obtain⟨x5,hx5,h⟩:=bd h
   refine rq hC [oV (A8 G hx5)] (fr 13 5) [(17,vB x5)] [] [] (aT h (fun c2 h=> ?_) (fun c2 h=> ?_))
   ·exact rk hC [] [5,18,19] [(5,vI (wr (x3+2)))] [] [] (lE h)
   ·exact qk (lE h)
  ·refine vj h (fun x_=>aX [(5,vI x_)] [] []) (fun j7 h=> ?_) (fun x8 h=> ?_)
   ·
    refine rq hC [] (fr 20 5) [(24,vB (decide (a.write=b.write)))] [] [] (aT h (fun c3 h=> ?_) (fun c3 h=> ?_))
    ·exact rk hC [] [5,25,26] [(5,vI (wr (x6+4)))] [] [] (lE h)
    ·exact qk (lE h)
   ·obtain rfl:=so h
    exact rq hC [] [4,27] [(4,vI x8)] [] [] (qr eR)
theorem aD4{p}{r}(h:sM n p=some r):VQ G 198 [] [V.agg (bX p)] (ms 0 1 3 cL r) [ar 141 1 3 cL r]:=by
 unfold sM at h
 refine vq aO Tryz.func198 rfl fun w X β0 hC hg=> ?_
 refine rq hC [.z (.b (true))] [1,2] [(1,V.tp (bU p))] [] [] (rq hC [.z (.nat 20)] [3,8] [(3,ms 20 1 3 cL [])] [(20,some (ar 141 1 3 cL []))] [(20,true)] ?_)
 obtain⟨x1,hx1,h⟩:=bd h
 refine rq hC [oC [] [21] (aD3 G hx1)] [4,9,10] [(4,ms 21 1 2 cT x1)] [(21,some (ar 160 1 2 cT x1))] [(21,true)] (qs (rq hC [] [5] [(5,vI 0)] [] [] (qb (bA (γ:=Nat) h (fun x_ g_=>aX [(3,ms 20 g_ 3 cL x_.1),(4,ms 21 1 2 cT x1),(5,vI x_.2)] [(20,ar 141 g_ 3 cL x_.1),(21,ar 160 1 2 cT x1)] [20,21]) 1 (lS) ?_))))
 rintro again5 ⟨x2,x3⟩ g4 h
 refine qs (rq hC [oN cT x1] (fr 11 4) [(14,vB (decide (x3<(x1.length:Int))))] [] [] (aT h (fun c1 h=> ?_) (fun c1 h=> ?_)))
 ·refine qk (qs (qb (rq hC [] [6,17,18] [(6,vI (wr (x3+1)))] [] [] (qb (bA (γ:=Nat) h (fun x_ g_=>aX [(3,ms 20 g_ 3 cL x_.1),(4,ms 21 1 2 cT x1),(5,vI x3),(6,vI x_.2)] [(20,ar 141 g_ 3 cL x_.1),(21,ar 160 1 2 cT x1)] [20,21]) g4 (lS) ?_)))))
  rintro again9 ⟨x6,x7⟩ g8 h
  refine qs (rq hC [oN cT x1] (fr 19 4) [(22,vB (decide (x7<(x1.length:Int))))] [] [] (aT h (fun c2 h=> ?_) (fun c2 h=> ?_)))
  ·refine qk ?_
   obtain⟨j10,hj10,h⟩:=uW h
   refine gN (γ:=Nat) (j:=j10) (r:=r) (fun x_ g_=>aX [(3,ms 20 g_ 3 cL x_),(4,ms 21 1 2 cT x1),(5,vI x3),(6,vI x7)] [(20,ar 141 g_ 3 cL x_),(21,ar 160 1 2 cT x1)] [20,21]) ?_ ?_
   ·
    refine qb (qs ?_)
    obtain⟨x11,hx11,x12,hx12,x13,hx13,h⟩:=kY h
    refine dk hC bD [oQ (iX cT hx11),oX cT hx11,oQ (iX cT hx12),oX cT hx12,oV (aCm G hx13)] [7,25,26,27,28,29,30,31,32,33] [(7,vI x13)] [] [] (rq hC [] [34,35] [(35,vB (!decide (x13=0)))] [] [] (aT h (fun c3 h=> ?_) (fun c3 h=> ?_)))
    ·obtain⟨x14,hx14,h⟩:=bd h
     exact rk hC [.z (.int 0),oA (aP cL hx14),oQ (bZ (r:=cL) 3 w9 x6),oQ (bZ (r:=cL) 3 w9 [(⟨x3,x7,x13⟩:Dep)])] [3,36,37,38,39,40,41,42] [(3,ms 20 (g8+1) 3 cL x14)] [(20,some (ar 141 (g8+1) 3 cL x14))] [] ⟨x14,(g8+1),h,lS⟩
    ·exact qk ⟨x6,g8,h,lS⟩
   ·rintro x15 g16 h
    subst hj10
    exact rk hC [] [6,23,24] [(6,vI (wr (x7+1)))] [] [] ⟨(x15,wr (x7+1)),g16,h,lS⟩
  ·exact cM (rk hC [] [5,15,16] [(5,vI (wr (x3+1)))] [] [] ⟨(x6,wr (x3+1)),g8,h,lS⟩)
 ·obtain rfl:=so h
  exact cM (rq hC [] [2,43] [(2,ms 20 g4 3 cL x2)] [] [] (qw (lk hC [.ren 2 20 0] [2] [(2,ms 0 1 3 cL x2)] [(0,some (ar 141 1 3 cL x2)),(20,none)] [(0,true)]) (qr eW)))
theorem aEh{a}{b}{r}(h:sZ n a b=some r):PQ G 242 [vM rI a,vM rI b] (vB r):=by
 unfold sZ at h
 refine pq aO Tryz.func242 rfl fun w X hC=> ?_
 refine rq hC [] [4] [] [] [] (qs (rq hC [oN rI a,oN rI b] (fr 6 5) [(10,vB (!decide ((a.length:Int)=(b.length:Int))))] [] [] (aT h (fun c1 h=> ?_) (fun c1 h=> ?_))))
 ·obtain rfl:=so h
  exact rq hC [] [4] [(4,vB false)] [] [] (qr eR)
 ·refine qk (qs (rq hC [] [5] [(5,vI 0)] [] [] (qb (jP h (fun x_=>aX [(0,vM rI a),(1,vM rI b),(5,vI x_)] [] []) lS ?_))))
  rintro again2 x1 h
  refine qs (rq hC [oN rI a] (fr 11 4) [(14,vB (decide (x1<(a.length:Int))))] [] [] (aT h (fun c2 h=> ?_) (fun c2 h=> ?_)))
  ·refine qk (qs (qb (qs ?_)))
   obtain⟨x3,hx3,x4,hx4,h⟩:=cS h
   refine dk hC bD [oR rI hx3,oR rI hx4] (fr 17 9) [(25,vB (!decide (x3=x4)))] [] [] (aT h (fun c3 h=> ?_) (fun c3 h=> ?_))
   ·obtain rfl:=so h
    exact rq hC [] [4] [(4,vB false)] [] [] (qr eR)
   ·exact qk (rk hC [] [5,15,16] [(5,vI (wr (x1+1)))] [] [] (lE h))
  ·obtain rfl:=so h
   exact cM (rq hC [] [4] [(4,vB true)] [] [] (qr eR))
theorem aCx{p}{q}{r}(h:pL n p q=some r):PQ G 243 [vM rI p,vM rI q] (vB r):=by
 unfold pL at h
 refine pq aO Tryz.func243 rfl fun w X hC=> ?_
 refine rq hC [] [4] [] [] [] (qs (rq hC [] [5] [(5,vI 0)] [] [] (qb (jP h (fun x_=>aX [(0,vM rI p),(1,vM rI q),(5,vI x_)] [] []) lS ?_))))
 rintro again2 x1 h
 refine qs (vj h (fun x_=>aX [(0,vM rI p),(1,vM rI q),(5,vI x1),(15,vB x_)] [] []) (fun j3 h=> ?_) (fun x4 h=> ?_))
 ·
  refine aS h (fun c1 h=> ?_) (fun c1 h=> ?_)
  ·exact rk hC ([oN rI p]++rF 5 c1) (fr 6 10) [(15,vB false)] [] [] (lE h)
  ·exact rk hC ([oN rI p]++rT 3 c1++[oN rI q,oT c1,oT c1]) (fr 6 10) [(15,vB (decide (x1<(q.length:Int))))] [] [] (lE h)
 ·refine aT h (fun c2 h=> ?_) (fun c2 h=> ?_)
  ·refine qk (qs (qb (qs ?_)))
   obtain⟨x5,hx5,x6,hx6,h⟩:=cS h
   refine dk hC bD [oR rI hx5,oR rI hx6] (fr 18 9) [(26,vB (!decide (x5=x6)))] [] [] (aT h (fun c3 h=> ?_) (fun c3 h=> ?_))
   ·obtain rfl:=so h
    exact qs (dk hC bD [oR rI hx5,oR rI hx6] [4,27,28,29,30,31,32,33,34,35] [(4,vB (decide (x5<x6)))] [] [] (qr eR))
   ·exact qk (rk hC [] [5,16,17] [(5,vI (wr (x1+1)))] [] [] (lE h))
  ·obtain rfl:=so h
   exact cM (rq hC [oN rI p,oN rI q] [4,36,37,38,39,40] [(4,vB (decide ((p.length:Int)<(q.length:Int))))] [] [] (qr eR))
theorem aF1{list}{d}{r}(h:wY n list d=some r):PQ G 199 [vM (rL rI) list,vM rI d] (vM (rL rI) r):=by
 unfold wY at h
 refine pq aO Tryz.func199 rfl fun w X hC=> ?_
 refine rq hC [] [4] [] [] [] (rq hC [.z (.nat 20)] [5,8] [(5,ms 20 1 1 (rL rI) [])] [(20,some (ar 33 1 1 (rL rI) []))] [(20,true)] (rq hC [] [6] [(6,vB false)] [] [] (qs (rq hC [] [7] [(7,vI 0)] [] [] ?_))))
 refine qb (bA (γ:=Nat) h (fun x_ g_=>aX [(0,vM (rL rI) list),(1,vM rI d),(5,ms 20 g_ 1 (rL rI) x_.1),(6,vB x_.2.1),(7,vI x_.2.2)] [(20,ar 33 g_ 1 (rL rI) x_.1)] [20]) 1 (lS) ?_)
 rintro again5 ⟨x1,x2,x3⟩ g4 h
 refine qs (rq hC [oN (rL rI) list] (fr 9 4) [(12,vB (decide (x3<(list.length:Int))))] [] [] (aT h (fun c1 h=> ?_) (fun c1 h=> ?_)))
 ·refine qk (qs (qb (qs ?_)))
  obtain⟨x6,hx6,x7,hx7,h⟩:=cS h
  refine rq hC [oR (rL rI) hx6,oV (aEh G hx7)] (fr 15 6) [(20,vB x7)] [] [] (aT h (fun c2 h=> ?_) (fun c2 h=> ?_))
  ·obtain rfl:=so h
   exact rq hC [] [4,21] [(4,vM (rL rI) list)] [] [] (qr eR)
  ·refine qk ?_
   obtain⟨j8,hj8,h⟩:=uW h
   refine gN (γ:=Nat) (j:=j8) (r:=r) (fun x_ g_=>aX [(0,vM (rL rI) list),(1,vM rI d),(5,ms 20 g_ 1 (rL rI) x_.1),(6,vB x_.2),(7,vI x3)] [(20,ar 33 g_ 1 (rL rI) x_.1)] [20]) ?_ ?_
   ·
    refine vj h (fun x_=>aX [(0,vM (rL rI) list),(1,vM rI d),(5,ms 20 g4 1 (rL rI) x1),(6,vB x2),(7,vI x3),(31,vB x_)] [(20,ar 33 g4 1 (rL rI) x1)] [20]) (fun j9 h=> ?_) (fun x11 h=> ?_)
    ·
     refine aS h (fun c3 h=> ?_) (fun c3 h=> ?_)
     ·exact rk hC (rF 7 c3) (fr 22 10) [(31,vB false)] [] [] (lE h)
     ·obtain⟨x10,hx10,h⟩:=bd h
      exact rk hC (rT 4 c3++[oR (rL rI) hx6,oT c3,oT c3,oV (aCx G hx10),oT c3]) (fr 22 10) [(31,vB x10)] [] [] (lE h)
    ·refine aT h (fun c4 h=> ?_) (fun c4 h=> ?_)
     ·obtain⟨x12,hx12,h⟩:=bd h
      exact rq hC [.z (.int 0),oA (aP (rL rI) hx12),oQ (bZ (r:=(rL rI)) 1 (fun _=>rfl) x1),oQ (bZ (r:=(rL rI)) 1 (fun _=>rfl) [d])] [5,32,33,34,35] [(5,ms 20 (g4+1) 1 (rL rI) x12)] [(20,some (ar 33 (g4+1) 1 (rL rI) x12))] [] (rk hC [] [6] [(6,vB true)] [] [] ⟨(x12,true),(g4+1),h,lS⟩)
     ·exact qk ⟨(x1,x2),g4,h,lS⟩
   ·rintro⟨x13,x14⟩ g15 h
    subst hj8
    obtain⟨x16,hx16,h⟩:=bd h
    exact rk hC [oR (rL rI) hx6,.z (.int 0),oA (aP (rL rI) hx16),oQ (bZ (r:=(rL rI)) 1 (fun _=>rfl) x13),oQ (bZ (r:=(rL rI)) 1 (fun _=>rfl) [x6])] [5,36,37,38,39,40,41,42] [(5,ms 20 (g15+1) 1 (rL rI) x16)] [(20,some (ar 33 (g15+1) 1 (rL rI) x16))] [] (rk hC [] [7,13,14] [(7,vI (wr (x3+1)))] [] [] ⟨(x16,x14,wr (x3+1)),(g15+1),h,lS⟩)
 ·refine cM ?_
  obtain⟨j17,hj17,h⟩:=uW h
  refine gN (γ:=Nat) (j:=j17) (r:=r) (fun x_ g_=>aX [(5,ms 20 g_ 1 (rL rI) x_)] [(20,ar 33 g_ 1 (rL rI) x_)] [20]) ?_ ?_
  ·
   refine rq hC [] [43,44] [(44,vB (!x2))] [] [] (aT h (fun c5 h=> ?_) (fun c5 h=> ?_))
   ·obtain⟨x18,hx18,h⟩:=bd h
    exact rk hC [.z (.int 0),oA (aP (rL rI) hx18),oQ (bZ (r:=(rL rI)) 1 (fun _=>rfl) x1),oQ (bZ (r:=(rL rI)) 1 (fun _=>rfl) [d])] [5,45,46,47,48] [(5,ms 20 (g4+1) 1 (rL rI) x18)] [(20,some (ar 33 (g4+1) 1 (rL rI) x18))] [] ⟨x18,(g4+1),h,lS⟩
   ·exact qk ⟨x1,g4,h,lS⟩
  ·rintro x19 g20 h
   subst hj17
   obtain rfl:=so h
   exact rq hC [] [4,49] [(4,ms 20 g20 1 (rL rI) x19)] [] [] (qw (lk hC [.fz 20 [4,5] []] [4,5] [(4,vM (rL rI) x19),(5,vM (rL rI) x19)] [(20,none)] []) (qr eR))
theorem F0{p}{part}{r}(h:iQ n p part=some r):PQ G 149 [V.agg (bX p),vI part] (vM (rL rI) r):=by
 unfold iQ at h
 refine pq aO Tryz.func149 rfl fun w X hC=> ?_
 refine rq hC [.z (.b (true))] [2,4] [(2,V.tp (bU p))] [] [] (rq hC [.z (.nat 20)] [5,11] [(5,ms 20 1 1 (rL rI) [])] [(20,some (ar 33 1 1 (rL rI) []))] [(20,true)] ?_)
 obtain⟨x1,hx1,h⟩:=bd h
 refine rq hC [oC [] [21] (rQ G hx1)] [6,12,13] [(6,ms 21 1 3 aR x1)] [(21,some (ar 135 1 3 aR x1))] [(21,true)] ?_
 obtain⟨x2,hx2,h⟩:=bd h
 refine rq hC [oC [] [22] (aD4 G hx2)] [7,14,15] [(7,ms 22 1 3 cL x2)] [(22,some (ar 141 1 3 cL x2))] [(22,true)] (qs (rq hC [] [8] [(8,vI 0)] [] [] (qb (qw (lk hC [.fz 20 [5] []] [5] [(5,vM (rL rI) [])] [(20,none)] []) (jP h (fun x_=>aX [(1,vI part),(5,vM (rL rI) x_.1),(6,ms 21 1 3 aR x1),(7,ms 22 1 3 cL x2),(8,vI x_.2)] [(21,ar 135 1 3 aR x1),(22,ar 141 1 3 cL x2)] [20,21,22]) lS ?_)))))
 rintro again5 ⟨x3,x4⟩ h
 refine qs (rq hC [oN cL x2] (fr 16 4) [(19,vB (decide (x4<(x2.length:Int))))] [] [] (aT h (fun c1 h=> ?_) (fun c1 h=> ?_)))
 ·refine qk (vj h (fun x_=>aX [(1,vI part),(5,vM (rL rI) x_.2.2.2.2.2.2),(6,ms 21 1 3 aR x1),(7,ms 22 1 3 cL x2),(8,vI x4)] [(21,ar 135 1 3 aR x1),(22,ar 141 1 3 cL x2),(23,E.cells [vI x_.1,vI x_.2.1,vM rI x_.2.2.1]),(24,E.cells [vI x_.2.2.2.1,vI x_.2.2.2.2.1,vM rI x_.2.2.2.2.2.1])] [20,21,22,23,24]) (fun j6 h=> ?_) ?_)
  ·
   refine qb ?_
   obtain⟨x7,hx7,x8,hx8,h⟩:=cS h
   refine rq hC [oQ (iX cL hx7),oX cL hx7,oQ (iX aR hx8),oX aR hx8,.z (.nat 23)] [9,22,23,24,25,26,27,28,29] [(9,V.ref 23 0)] [(23,some (E.cells (qI x8)))] [(23,true)] ?_
   obtain⟨x9,hx9,h⟩:=bd h
   refine rq hC [oQ (iX cL hx7),oX cL hx7,oQ (iX aR hx9),oX aR hx9,.z (.nat 24)] [10,30,31,32,33,34,35,36,37] [(10,V.ref 24 0)] [(24,some (E.cells (qI x9)))] [(24,true)] (vj h (fun x_=>aX [(1,vI part),(5,vM (rL rI) x3),(6,ms 21 1 3 aR x1),(7,ms 22 1 3 cL x2),(8,vI x4),(9,V.ref 23 0),(10,V.ref 24 0),(47,vB x_)] [(21,ar 135 1 3 aR x1),(22,ar 141 1 3 cL x2),(23,E.cells (qI x8)),(24,E.cells (qI x9))] [20,21,22,23,24]) (fun j10 h=> ?_) (fun x11 h=> ?_))
   ·
    refine aS h (fun c2 h=> ?_) (fun c2 h=> ?_)
    ·exact rk hC (rF 5 c2) (fr 38 10) [(47,vB false)] [] [] (lE h)
    ·exact rk hC (rT 5 c2) (fr 38 10) [(47,vB (decide (x9.part=part)))] [] [] (lE h)
   ·refine aT h (fun c3 h=> ?_) (fun c3 h=> ?_)
    ·obtain⟨x12,hx12,x13,hx13,h⟩:=cS h
     exact rk hC [oC [] [25] (aCl G hx12),.z (.at 2),.z (.fz 25 [53] []),oV (aF1 G hx13)] [5,48,49,50,51,52,53,54] [(5,vM (rL rI) x13)] [(25,none)] [(25,true)] (lE h)
    ·exact qk (lE h)
  ·rintro⟨x14,x15,x16,x17,x18,x19,x20⟩ h
   exact rk hC [] [8,20,21] [(8,vI (wr (x4+1)))] [] [] (lE h)
 ·obtain rfl:=so h
  exact cM (rq hC [] [4,55] [(4,vM (rL rI) x3)] [] [] (qr eR))
theorem U0{p}{part}{r}(h:l6 n p part=some r):PQ G 102 [V.agg (bX p),vI part] (vM (rL rI) r):=by
 unfold l6 at h
 refine pq aO Tryz.func102 rfl fun w X hC=> ?_
 refine rq hC [.z (.b (true))] [2,4] [(2,V.tp (bU p))] [] [] (qs ?_)
 obtain⟨x1,hx1,h⟩:=bd h
 refine rq hC [oV (cR G hx1)] [5,6,7] [(7,vB (!x1))] [] [] (aT h (fun c1 h=> ?_) (fun c1 h=> ?_))
 ·obtain rfl:=so h
  exact rq hC [.z (.int 0)] [4,8] [(4,vM (rL rI) [])] [] [] (qr eR)
 ·refine qk ?_
  obtain⟨x2,hx2,h⟩:=bd h
  obtain rfl:=so h
  exact rq hC [oV (F0 G hx2)] [4,9,10,11] [(4,vM (rL rI) x2)] [] [] (qr eR)
theorem Q8{d}{r}(h:kG n d=some r):PQ G 103 [vM rI d] (vI r):=by
 unfold kG at h
 refine pq aO Tryz.func103 rfl fun w X hC=> ?_
 refine rq hC [] [2] [] [] [] (qs (rq hC [] [3] [(3,vI 0)] [] [] (qb (jP h (fun x_=>aX [(0,vM rI d),(3,vI x_)] [] []) lS ?_))))
 rintro again2 x1 h
 refine qs (rq hC [oN rI d] (fr 4 4) [(7,vB (decide (x1<(d.length:Int))))] [] [] (aT h (fun c1 h=> ?_) (fun c1 h=> ?_)))
 ·refine qk (qs (qb ?_))
  obtain⟨x3,hx3,h⟩:=bd h
  refine rq hC [oR rI hx3] (fr 10 5) [(14,vB (!decide (x3=0)))] [] [] (aT h (fun c2 h=> ?_) (fun c2 h=> ?_))
  ·obtain rfl:=so h
   exact rq hC [] [2,15] [(2,vI x1)] [] [] (qr eR)
  ·exact qk (rk hC [] [3,8,9] [(3,vI (wr (x1+1)))] [] [] (lE h))
 ·obtain rfl:=so h
  exact cM (rq hC [] [2] [(2,vI (-1))] [] [] (qr eR))
theorem yI{p}{part}{r}(h:jE n p part=some r):VQ G 61 [] [V.agg (bX p),vI part] (ms 0 1 1 rI r) [ar 3 1 1 rI r]:=by
 unfold jE at h
 refine vq aO Tryz.func61 rfl fun w X β0 hC hg=> ?_
 refine rq hC [.z (.b (true))] [2,4] [(2,V.tp (bU p))] [] [] ?_
 obtain⟨x1,hx1,h⟩:=bd h
 refine rq hC [.z (.nat 20),oA (aDu rB hx1),oQ (xF hx1).1] [5,9] [(5,ms 20 1 1 rB x1)] [(20,some (ar 4 1 1 rB x1))] [(20,true)] ?_
 obtain⟨x2,hx2,h⟩:=bd h
 refine rq hC [oV (U0 G hx2)] [6,10,11,12] [(6,vM (rL rI) x2)] [] [] (qs (rq hC [] [7] [(7,vI 0)] [] [] (qb (bA (γ:=Nat) h (fun x_ g_=>aX [(5,ms 20 g_ 1 rB x_.1),(6,vM (rL rI) x2),(7,vI x_.2)] [(20,ar 4 g_ 1 rB x_.1)] [20]) 1 (lS) ?_))))
 rintro again6 ⟨x3,x4⟩ g5 h
 refine qs (rq hC [oN (rL rI) x2] (fr 13 4) [(16,vB (decide (x4<(x2.length:Int))))] [] [] (aT h (fun c1 h=> ?_) (fun c1 h=> ?_)))
 ·refine qk (vj h (fun x_=>aX [(5,ms 20 g5 1 rB x_),(6,vM (rL rI) x2),(7,vI x4)] [(20,ar 4 g5 1 rB x_)] [20]) (fun j7 h=> ?_) (fun x12 h=> ?_))
  ·
   refine qb ?_
   obtain⟨x8,hx8,x9,hx9,h⟩:=cS h
   refine rq hC [oR (rL rI) hx8,oV (Q8 G hx9)] [8,19,20,21,22,23] [(8,vI x9)] [] [] (rq hC [] [24,25] [(25,vB (decide ((0:Int)≤x9)))] [] [] (aT h (fun c2 h=> ?_) (fun c2 h=> ?_)))
   ·obtain⟨x10,hx10,x11,hx11,h⟩:=cS h
    exact rk hC [oQ (iX rB hx10),oX rB hx10,.z (.rows (List.map rB x11)),.z (.len 5 (List.map rB x11).length),oQ (str rB hx11),oQ (lI rB hx11)] [5,26,27,28] [(5,ms 20 g5 1 rB x11)] [(20,some (ar 4 g5 1 rB x11))] [] (lE h)
   ·exact qk (lE h)
  ·exact rk hC [] [7,17,18] [(7,vI (wr (x4+1)))] [] [] ⟨(x12,wr (x4+1)),g5,h,lS⟩
 ·refine cM ?_
  obtain⟨x13,hx13,h⟩:=bd h
  obtain rfl:=so h
  exact rq hC [.z (.at 2),.z (.fz 20 [5,29] []),oC [] [21] (T9 G hx13)] [4,5,29,30] [(4,ms 21 1 1 rI x13)] [(20,none),(21,some (ar 3 1 1 rI x13))] [(21,true)] (qw (lk hC [.ren 4 21 0] [4] [(4,ms 0 1 1 rI x13)] [(0,some (ar 3 1 1 rI x13)),(21,none)] [(0,true)]) (qr eW))
theorem lU{p}{part}{loop}{r}(h:fB n p part loop=some r):PQ G 17 [V.agg (bX p),vI part,vI loop] (vB r):=by
 unfold fB at h
 refine pq aO Tryz.func17 rfl fun w X hC=> ?_
 refine rq hC [.z (.b (true))] [3,6] [(3,V.tp (bU p))] [] [] (vj h (fun x_=>aX [(6,vB x_)] [] []) (fun j1 h=> ?_) (fun x5 h=> ?_))
 ·
  obtain⟨x2,hx2,h⟩:=bd h
  refine aS h (fun c1 h=> ?_) (fun c1 h=> ?_)
  ·exact rk hC ([oV (Z2 G hx2)]++rF 7 c1) (fr 6 13) [(6,vB false)] [] [] (lE h)
  ·obtain⟨x3,hx3,x4,hx4,h⟩:=cS h
   exact rk hC ([oV (Z2 G hx2)]++rT 3 c1++[oC [] [20] (yI G hx3),oT c1,oT c1,.z (.b (true)),oV (A8 G hx4),oT c1,oT c1]) (fr 6 13) [(6,vB (!x4))] [(20,some (ar 3 1 1 rI x3))] [(20,true)] (lE h)
 ·obtain rfl:=so h
  exact qr eR
theorem aJu{α:Type}(f:α→List T){l x:List α}{o m:Nat}(ho:o<l.length)(hm:m=l.length-o):o+m≤(l.map f).length∧(aCf l o x).map f=(l.map f).take o++(x.map f).take (Nat.min (x.map f).length m)++(l.map f).drop (o+Nat.min (x.map f).length m):=by
 subst hm
 refine⟨by rw [List.length_map];omega,?_⟩
 unfold aCf
 rw [List.map_append,List.map_append,List.map_take,List.map_take,List.map_drop,List.length_map]
theorem aCe{α:Type}(f:α→List T){l x:List α}{o:Nat}(ho:o<l.length):(l.map f).length=((aCf l o x).map f).length:=by
 unfold aCf
 simp only [List.length_map,List.length_append,List.length_take,List.length_drop]
 have:Nat.min x.length (l.length-o)=min x.length (l.length-o):=rfl
 omega
theorem F8(G:GS)(n:Nat)(a:Affine)(loop:Int){r:Affine}(h:eZ n a loop=some r):PQ G 64 [V.agg (aQ a),V.tp [T.int .i64 loop]] (V.agg (aQ r)):=by
 unfold eZ at h
 refine pq aO Tryz.func64 rfl fun w X hC=> ?_
 refine rq hC [.z (.b (true)),.z (.nat 20)] [2,3] [(2,V.tp (bJ a)),(3,V.ref 20 0)] [(20,sc [V.t T.nilS,vI 0])] [(20,true)] ?_
 obtain⟨x1,hx1,h⟩:=bd h
 refine rq hC [oC [] [21] (F7 G hx1),.z (.nat 22)] [4,5,6] [(4,V.ref 22 0)] [(21,some (ar 3 1 1 rI x1.coefs)),(22,sc [ms 21 1 1 rI x1.coefs,vI x1.const])] [(21,true),(22,true)] (t8 (decide ((0:Int)≤wr (loop+1))) (fun c1=> ?_) (fun c1=> ?_))
 ·have h:=bf c1 h
  exact nof h
 have h:=bt c1 h
 refine t8 (decide (wr (loop+1)<(x1.coefs.length:Int))) (fun c2=> ?_) (fun c2=> ?_)
 ·have h:=bf c2 h
  exact nof h
 have h:=bt c2 h
 have g0:=of_decide_eq_true c1
 have g1:=of_decide_eq_true c2
 obtain⟨x2,hx2,x4,hx4,x3,hx3,h⟩:=kY h
 obtain rfl:=so h
 exact qs (dk hC bD [.z (.nat (wr (loop+1)).toNat),.z (.nat (x1.coefs.length-(wr (loop+1)).toNat)),oQ (H8 rI x1.coefs g0 g1),oA (aGJ rI hx2),.z (.rows (List.map rI (aCf x1.coefs (wr (loop+1)).toNat x2))),.z (.nat (Nat.min (List.map rI x2).length (x1.coefs.length-(wr (loop+1)).toNat))),oQ (bZ (r:=rI) 1 (fun _=>rfl) a.coefs),oQ (bZ (r:=rI) 1 (fun _=>rfl) x2),oQ (aJu rI (l:=x1.coefs) (x:=x2) (o:=(wr (loop+1)).toNat) (m:=x1.coefs.length-(wr (loop+1)).toNat) (by omega) rfl)] (fr 7 10) [] [(21,some (ar 3 1 1 rI (aCf x1.coefs (wr (loop+1)).toNat x2)))] [] (rq hC [oQ (aMe rI hx4 (aCe rI (l:=x1.coefs) (x:=x2) (o:=(wr (loop+1)).toNat) (by omega))),oX rI hx4,.z (.rows (List.map rI x3)),.z (.lenc 22 0 (List.map rI x3).length),oQ (str rI hx3),oQ ((aCe rI (l:=x1.coefs) (x:=x2) (o:=(wr (loop+1)).toNat) (by omega)).trans (lI rI hx3))] (fr 17 4) [] [(21,some (ar 3 1 1 rI x3)),(22,sc [ms 21 1 1 rI x3,vI x1.const])] [] (qw (lk hC [.fz 21 [] [22]] [] [] [(21,none),(22,sc [vM rI x3,vI x1.const])] []) (rq hC [] [21] [] [(20,sc [vM rI x3,vI x1.const])] [] (qr eR)))))
open Go.RowKit Go.Lib in
set_option maxHeartbeats 4000000 in
set_option maxRecDepth 100000 in
theorem T0(b n c i vb m vc:Nat)(cs vs:List Value)(w:World)(hi:i<n)(hm:0<m)(hroom:n+m≤c)(hc63:c≤9223372036854775807)(hvb:vb≠b)
  (hcl:cs.length=n*2) (hvl:vs.length=m*2)
  (hcs: ∀j v,cs[j]? =some v→w.cell? ⟨b,j,none⟩=some v) (hsp: ∀j,j<(n+m)*2→(w.cell? ⟨b,j,none⟩).isSome=true) (hfz: ∀j,w.frozen? ⟨b,j,none⟩=false)
  (hvs: ∀j v,vs[j]? =some v→w.cell? ⟨vb,j,none⟩=some v) (h1c: ∀v∈cs,v.oneCell'=true) (h1v: ∀v∈vs,v.oneCell'=true)
  (tA tB:TypeId) (kA kB:Nat) (hsa:w.shape? vb=some (tA,kA)) (hsb:w.shape? b=some (tB,kB)) (hkB:kB≠0) (hfa: ∀j,w.frozen? ⟨vb,j,none⟩=false):
  Calls Tryz.prog 66 #[.slice (some ⟨b,0,none⟩) n c,.int .i64 i,.slice (some ⟨vb,0,none⟩) m vc] w fun e w'=>
   e= .returned (.slice (some ⟨b,0,none⟩) (n+m) c)∧w'=(w.drew.setCells b ((i+m)*2) (cs.drop (i*2))).setCells b (i*2) vs:=by
 have hz1: ¬((m:Int)=0):=by omega
 have hz2: ¬((i:Int)=(n:Int)):=by omega
 have hw1:IntKind.i64.wrap ((i:Int)+(m:Int))=(i:Int)+(m:Int):=by rw [IntKind.wrap_i64];omega
 have hb1:(0:Int)≤(i:Int)+(m:Int):=by omega
 have hin:i≤n:=by omega
 have htn:((i:Int)+(m:Int)).toNat=i+m:=by omega
 have hb2: ¬(c=i+m):=by omega
 have hb3:(i:Int)≤(n:Int)+(m:Int):=by omega
 have hb4: ¬(c=i):=by omega
 have hov: ∀lb cb,(callFunc 107 #[.slice (some ⟨vb,0,none⟩) m vc,.slice (some ⟨b,(i+m)*2,none⟩) lb cb]).run Tryz.prog w= .ok (.value (.bool false)) w:=fun lb cb=>by
  rw [run_callFunc_extern Tryz.func107 (by kernel_rfl) (by kernel_rfl) (by kernel_rfl) (e:=Extern.SlicesOverlaps.overlaps #[59,59] #[4]) (by kernel_rfl),
   Lib.run_overlaps_apart w 59 4 58 Tryz.underlying59 2 Tryz.sizeOf58 ⟨vb,0,none⟩ ⟨b,(i+m)*2,none⟩ m vc lb cb hvb tA tB kA kB hsa hsb hkB (hfa 0) (hfa kA)]
  rfl
 have hdl:(cs.drop (i*2)).length=(n-i)*2:=by rw [List.length_drop,hcl];omega
 have hsz:(Tryz.prog.info? 58).map (·.size)=some 2:=by kernel_rfl
 have hcp1: ∀ty dc sc,(Builtin.copy_ #[59,59] ty #[.slice (some ⟨b,(i+m)*2,none⟩) (n+m-(i+m)) dc,.slice (some ⟨b,i*2,none⟩) (n+m-i) sc]).run Tryz.prog w.drew= .ok (goInt ((n-i:Nat):Int)) (w.drew.setCells b ((i+m)*2) (cs.drop (i*2))):=fun ty dc sc=>
  uD w.drew 59 59 ty 58 2 b ((i+m)*2) (n+m-(i+m)) dc ⟨b,i*2,none⟩ (n+m-i) sc (n-i) (cs.drop (i*2)) Tryz.underlying59 hsz (by simp only [Nat.min_def];split<;>omega) hdl
   (fun j v hj=>by rw [Addr.add_lit];exact hcs (i*2+j) v (by rwa [List.getElem?_drop] at hj))
   (fun j hj=>hsp _ (by omega)) (fun j hj=>hfz _) (fun v hv=>h1c v (List.mem_of_mem_drop hv))
 obtain⟨W1,hW1⟩: ∃W1,W1=w.drew.setCells b ((i+m)*2) (cs.drop (i*2)):=⟨_,rfl⟩
 have hsp1: ∀k,k<(n+m)*2→(W1.cell? ⟨b,k,none⟩).isSome=true:=fun k hk=>by
  rw [hW1]
  exact pQ b (cs.drop (i*2)) ((i+m)*2) w.drew (fun j hj=>hsp _ (by rw [hdl] at hj;omega)) k (hsp k hk)
 have hcp2: ∀(W:World),(∀x,W.cell? x=W1.cell? x)→(∀x,W.frozen? x=W1.frozen? x)→ ∀ty dc,(Builtin.copy_ #[59,59] ty #[.slice (some ⟨b,i*2,none⟩) (n+m-i) dc,.slice (some ⟨vb,0,none⟩) m vc]).run Tryz.prog W= .ok (goInt m) (W.setCells b (i*2) vs):=fun W hWc hWf ty dc=>
  uD W 59 59 ty 58 2 b (i*2) (n+m-i) dc ⟨vb,0,none⟩ m vc m vs Tryz.underlying59 hsz (by simp only [Nat.min_def];split<;>omega) hvl
   (fun j v hj=>by
    rw [Addr.add_lit,Nat.zero_add,hWc,hW1,World.cell?_setCells_out b _ _ _ _ (fun h _=>absurd h hvb)]
    exact hvs j v hj)
   (fun j hj=>by rw [hWc];exact hsp1 _ (by omega)) (fun j hj=>by rw [hWf,hW1,World.frozen?_setCells];exact hfz _) h1v
 rw [←hW1] at hcp1
 go_enter Tryz.func66,Tryz.ntmps66
 go_wp2_with (simp only [hov])
 go_region_law (refine sB rfl _ _ 59 59 rfl _ _ (by simp [Act.eval,Act.put]) (by simp [Act.eval,Act.put]) (hcp1 _ _ _) ?_)
 go_wp2_with (at_builtin;refine kZ _ rfl _ _ 59 59 rfl _ _ rfl rfl (hcp2 _ (fun _=>rfl) (fun _=>rfl) _ _) ?_)
 go_ret
 first|exact⟨rfl,rfl⟩|exact⟨rfl,by rw [hW1]⟩
open Go.RowKit Go.Lib in
set_option maxHeartbeats 4000000 in
set_option maxRecDepth 100000 in
theorem T2(b n c i vb m vc:Nat)(cs vs:List Value)(w:World)(hi:i<n)(hm:0<m)(hnc:n≤c)(hroom:c<n+m)(i0:TypeInfo)(z:Value)(hi0:Tryz.prog.info? 58=some i0)(hz0:i0.zero=some z)(hzs:i0.size=2)(hzc:z.cells.size=2)(hle:n+m≤1000000000)(hbig:(n+m)*i0.bytes≤140737488355328)
  (hcl:cs.length=n*2) (hvl:vs.length=m*2)
  (hcs: ∀j v,cs[j]? =some v→w.cell? ⟨b,j,none⟩=some v)
  (hvs: ∀j v,vs[j]? =some v→w.cell? ⟨vb,j,none⟩=some v) (h1c: ∀v∈cs,v.oneCell'=true) (h1v: ∀v∈vs,v.oneCell'=true):
  Calls Tryz.prog 66 #[.slice (some ⟨b,0,none⟩) n c,.int .i64 i,.slice (some ⟨vb,0,none⟩) m vc] w fun e w'=>
   e= .returned (.slice (some ⟨w.heap.size,0,none⟩) (n+m) (grownCap w (n+m) c 58))∧
   w'=(((w.alloc (.cells ((cs.take (i*2)).toArray++Builtin.zeroCells z.cells (n+m-i)++Builtin.zeroCells z.cells (grownCap w (n+m) c 58-(n+m))) 58)).drew.setCells w.heap.size (i*2) vs).drew).setCells w.heap.size ((i+m)*2) (cs.drop (i*2)):=by
 have hz1: ¬((m:Int)=0):=by omega
 have hz2: ¬((i:Int)=(n:Int)):=by omega
 have hz3:(c:Int)<(n:Int)+(m:Int):=by omega
 have hsz:(Tryz.prog.info? 58).map (·.size)=some 2:=by rw [hi0];simp [hzs]
 have hbw:b<w.heap.size:=block_lt_of_cell (hcs 0 _ (List.getElem?_eq_getElem (by omega)))
 have hvw:vb<w.heap.size:=block_lt_of_cell (hvs 0 _ (List.getElem?_eq_getElem (by omega)))
 have hkk:(n:Int)+(m:Int)-(i:Int)=((n+m-i:Nat):Int):=by omega
 have hik:i+(n+m-i)=n+m:=by omega
 have hold:(Builtin.firstCells i0.size i (.slice (some ⟨b,0,none⟩) i c)).run Tryz.prog w.drew= .ok (cs.take (i*2)).toArray w.drew:=by
  rw [hzs]
  exact run_firstCells_some w.drew 2 i ⟨b,0,none⟩ i c (cs.take (i*2)) (by rw [List.length_take];omega) (fun j v hj=>by
   rw [Addr.add_lit,Nat.zero_add]
   rw [List.getElem?_take] at hj
   split at hj
   ·exact hcs j v hj
   ·cases hj)
 have hrz: ∀ty,(Builtin.append_ #[59,3] ty #[.slice (some ⟨b,0,none⟩) i c,.int .i64 ((n:Int)+(m:Int)-(i:Int))]).run Tryz.prog w=
   .ok (.slice (some ⟨w.heap.size,0,none⟩) (n+m) (grownCap w (n+m) c 58)) (w.drew.alloc (.cells ((cs.take (i*2)).toArray++Builtin.zeroCells z.cells (n+m-i)++Builtin.zeroCells z.cells (grownCap w (n+m) c 58-(n+m))) 58)):=fun ty=>by
  have h:=Lib.run_append_grow_zeros w 59 3 ty 58 i0 z .i64 .i64 Tryz.underlying59 Tryz.underlying3 hi0 hz0 (some ⟨b,0,none⟩) i c (cs.take (i*2)) hold (n+m-i) (by omega) (by omega) (by omega) (by omega) (by
   have:=Nat.mul_le_mul_right i0.bytes (show n+m-i≤n+m by omega)
   omega) (by rw [hik];exact growslice_fits hroom hbig)
  rw [hik] at h
  rw [hkk]
  exact h
 obtain⟨G,hG⟩: ∃G,G=grownCap w (n+m) c 58:=⟨_,rfl⟩
 obtain⟨ROW,hROW⟩: ∃ROW:Array Value,ROW=(cs.take (i*2)).toArray++Builtin.zeroCells z.cells (n+m-i)++Builtin.zeroCells z.cells (G-(n+m)):=⟨_,rfl⟩
 rw [←hG] at hrz⊢
 rw [←hROW] at hrz⊢
 have hRl:(n+m)*2≤ROW.size:=by
  rw [hROW]
  simp [Builtin.zeroCells,hzc]
  omega
 obtain⟨W1,hW1⟩: ∃W1,W1=w.drew.alloc (.cells ROW 58):=⟨_,rfl⟩
 rw [←hW1] at hrz
 have hN: ∀j,j<(n+m)*2→(W1.cell? ⟨w.heap.size,j,none⟩).isSome=true:=fun j hj=>by
  rw [hW1,World.cell?_alloc_at (w:=w.drew) ROW _ w.heap.size j rfl,Array.getElem?_eq_getElem (by omega)];rfl
 have hNf: ∀j,W1.frozen? ⟨w.heap.size,j,none⟩=false:=fun j=>by rw [hW1];exact World.frozen?_alloc_at (w:=w.drew) ROW _ w.heap.size j rfl
 have hOb: ∀j v,w.cell? ⟨b,j,none⟩=some v→W1.cell? ⟨b,j,none⟩=some v:=fun j v h=>by rw [hW1,World.cell?_alloc_past (w:=w.drew) _ b j hbw];exact h
 have hOv: ∀j v,w.cell? ⟨vb,j,none⟩=some v→W1.cell? ⟨vb,j,none⟩=some v:=fun j v h=>by rw [hW1,World.cell?_alloc_past (w:=w.drew) _ vb j hvw];exact h
 have hcpA: ∀(W:World),(∀x,W.cell? x=W1.cell? x)→(∀x,W.frozen? x=W1.frozen? x)→ ∀ty dc,(Builtin.copy_ #[59,59] ty #[.slice (some ⟨w.heap.size,i*2,none⟩) (n+m-i) dc,.slice (some ⟨vb,0,none⟩) m vc]).run Tryz.prog W= .ok (goInt m) (W.setCells w.heap.size (i*2) vs):=fun W hWc hWf ty dc=>
  uD W 59 59 ty 58 2 w.heap.size (i*2) (n+m-i) dc ⟨vb,0,none⟩ m vc m vs Tryz.underlying59 hsz (by simp only [Nat.min_def];split<;>omega) hvl
   (fun j v hj=>by rw [Addr.add_lit,Nat.zero_add,hWc];exact hOv _ v (hvs j v hj))
   (fun j hj=>by rw [hWc];exact hN _ (by omega)) (fun j hj=>by rw [hWf];exact hNf _) h1v
 have hGn:n+m≤G:=by rw [hG];exact grownCap_ge w _ _ _
 have hG63:G≤9223372036854775807:=by
  have:=grownCap_le_maxLen w (n+m) c 58 (by unfold maxLen;omega)
  rw [←hG] at this
  unfold maxLen at this
  omega
 have hGi: ¬(G=i):=by omega
 have hGim: ¬(G=i+m):=by omega
 have hci: ¬(c=i):=by omega
 have hbN:b≠w.heap.size:=by omega
 have hdl:(cs.drop (i*2)).length=(n-i)*2:=by rw [List.length_drop,hcl];omega
 have hcpB: ∀(W:World),(∀x,W.cell? x=(W1.setCells w.heap.size (i*2) vs).cell? x)→(∀x,W.frozen? x=(W1.setCells w.heap.size (i*2) vs).frozen? x)→ ∀ty dc sc,(Builtin.copy_ #[59,59] ty #[.slice (some ⟨w.heap.size,(i+m)*2,none⟩) (n+m-(i+m)) dc,.slice (some ⟨b,i*2,none⟩) (n-i) sc]).run Tryz.prog W= .ok (goInt ((n-i:Nat):Int)) (W.setCells w.heap.size ((i+m)*2) (cs.drop (i*2))):=fun W hWc hWf ty dc sc=>
  uD W 59 59 ty 58 2 w.heap.size ((i+m)*2) (n+m-(i+m)) dc ⟨b,i*2,none⟩ (n-i) sc (n-i) (cs.drop (i*2)) Tryz.underlying59 hsz (by simp only [Nat.min_def];split<;>omega) hdl
   (fun j v hj=>by
    rw [Addr.add_lit,hWc,World.cell?_setCells_out _ _ _ _ _ (fun h _=>absurd h hbN)]
    exact hOb _ v (hcs (i*2+j) v (by rwa [List.getElem?_drop] at hj)))
   (fun j hj=>by rw [hWc];exact pQ w.heap.size vs (i*2) W1 (fun t ht=>hN _ (by rw [hvl] at ht;omega)) _ (hN _ (by rw [hdl] at hj;omega)))
   (fun j hj=>by rw [hWf,World.frozen?_setCells];exact hNf _) (fun v hv=>h1c v (List.mem_of_mem_drop hv))
 subst hW1
 have hE1: ∀x,((w.alloc (.cells ROW 58)).drew).cell? x=(w.drew.alloc (.cells ROW 58)).cell? x:=fun x=>rfl
 have hE2: ∀x,((w.alloc (.cells ROW 58)).drew).frozen? x=(w.drew.alloc (.cells ROW 58)).frozen? x:=fun x=>rfl
 have hF1: ∀x,(((w.alloc (.cells ROW 58)).drew.setCells w.heap.size (i*2) vs).drew).cell? x=((w.drew.alloc (.cells ROW 58)).setCells w.heap.size (i*2) vs).cell? x:=fun x=>rfl
 have hF2: ∀x,(((w.alloc (.cells ROW 58)).drew.setCells w.heap.size (i*2) vs).drew).frozen? x=((w.drew.alloc (.cells ROW 58)).setCells w.heap.size (i*2) vs).frozen? x:=fun x=>rfl
 have hw1:IntKind.i64.wrap ((i:Int)+(m:Int))=(i:Int)+(m:Int):=by rw [IntKind.wrap_i64];omega
 have hb1:(0:Int)≤(i:Int)+(m:Int):=by omega
 have hin:i≤n:=by omega
 have htn:((i:Int)+(m:Int)).toNat=i+m:=by omega
 have hb3:(i:Int)≤(n:Int):=by omega
 clear hkk hik hold hROW hG hRl
 go_enter Tryz.func66,Tryz.ntmps66
 go_wp2_with (first
  |(at_builtin;refine Lib.wpList_append_run _ rfl _ _ _ _ rfl _ _ rfl rfl _ _ (hrz _) ?_)
  |(at_builtin;refine kZ _ rfl _ _ 59 59 rfl _ _ rfl rfl (hcpA _ hE1 hE2 _ _) ?_)
  |(at_builtin;refine kZ _ rfl _ _ 59 59 rfl _ _ rfl rfl (hcpB _ (fun _=>rfl) (fun _=>rfl) _ _ _) ?_))
 go_region_law (refine sB rfl _ _ 59 59 rfl (.slice (some ⟨w.heap.size,(i+m)*2,none⟩) (n+m-(i+m)) (G-(i+m))) (.slice (some ⟨b,i*2,none⟩) (n-i) (c-i)) (by simp [Act.eval,Act.put]) (by simp [Act.eval,Act.put]) (hcpB _ hF1 hF2 3 (G-(i+m)) (c-i)) ?_)
 go_wp2
 go_ret
 exact⟨rfl,rfl⟩
open Go.RowKit Go.Lib in
set_option maxHeartbeats 4000000 in
set_option maxRecDepth 100000 in
theorem T1(base vbase:Option Addr)(n c i vc:Nat)(w:World)(hi:i≤n)(hn:n≤c)(hc:c≤9223372036854775807):Calls Tryz.prog 66 #[.slice base n c,.int .i64 i,.slice vbase 0 vc] w fun e w'=>e= .returned (.slice base n c)∧w'=w:=by
 have hin:(i:Int)≤(n:Int):=by omega
 go_enter Tryz.func66,Tryz.ntmps66
 cases base with
 |none=>
  go_wp2
  go_ret
  exact⟨rfl,rfl⟩
 |some a=>
  obtain⟨ab,ao,asp⟩:=a
  by_cases hci:c=i
  ·go_wp2
   go_ret
   exact⟨rfl,rfl⟩
  ·go_wp2
   go_ret
   exact⟨rfl,rfl⟩
open Go.RowKit Go.Lib in
set_option maxHeartbeats 4000000 in
set_option maxRecDepth 100000 in
theorem S9(base vbase:Option Addr)(n c m vc:Nat)(w:World)(v':Value)(w':World)(hm:0<m)(hn:n≤c)(hc:c≤9223372036854775807)(hrun:(Builtin.append_ #[59,59] 59 #[.slice base n c,.slice vbase m vc]).run Tryz.prog w= .ok v' w'):
  Calls Tryz.prog 66 #[.slice base n c,.int .i64 n,.slice vbase m vc] w fun e w1=>e= .returned v'∧w1=w':=by
 have hz1: ¬((m:Int)=0):=by omega
 go_enter Tryz.func66,Tryz.ntmps66
 cases base with
 |none=>
  go_wp2_with (at_builtin;refine Lib.wpList_append_run _ rfl _ _ _ _ rfl _ _ rfl rfl _ _ hrun ?_)
  go_ret
  exact⟨rfl,rfl⟩
 |some a=>
  obtain⟨ab,ao,asp⟩:=a
  by_cases hci:c=n
  ·go_wp2_with (at_builtin;refine Lib.wpList_append_run _ rfl _ _ _ _ rfl _ _ rfl rfl _ _ hrun ?_)
   go_ret
   exact⟨rfl,rfl⟩
  ·go_wp2_with (at_builtin;refine Lib.wpList_append_run _ rfl _ _ _ _ rfl _ _ rfl rfl _ _ hrun ?_)
   go_ret
   exact⟨rfl,rfl⟩
theorem aBU{i0:TypeInfo}{z:Value}(hi0:Tryz.prog.info? 58=some i0)(hz0:i0.zero=some z)(hzs:i0.size=2)(hzc:z.cells.size=2):InsRaw Tryz.prog 66 59 58 2 i0 z where
 nothing:=T1
 tail:=S9
 room:=fun b n c i vb m vc cs vs w hi hm hroom hc63 hvb hcl hvl hcs hsp hfz hvs h1c h1v tA tB kA kB hsa hsb hkB hfa=>T0 b n c i vb m vc cs vs w hi hm hroom hc63 hvb hcl hvl hcs hsp hfz hvs h1c h1v tA tB kA kB hsa hsb hkB hfa
 grow:=fun b n c i vb m vc cs vs w hi hm hnc hroom hle hbig hcl hvl hcs hvs h1c h1v=>T2 b n c i vb m vc cs vs w hi hm hnc hroom i0 z hi0 hz0 hzs hzc hle hbig hcl hvl hcs hvs h1c h1v
theorem F5(G:GS)(n:Nat)(s:List Loop)(i:Int)(v:List Loop)(gs gv:Nat){r:List Loop}(h:gI n s i v=some r):
  VQ G 66 [ar 58 gs 2 aC s,ar 58 gv 2 aC v] [ms 0 gs 2 aC s,vI i,ms 1 gv 2 aC v] (ms 0 (gs+1) 2 aC r) [ar 58 (gs+1) 2 aC r,ar 58 gv 2 aC v]:=by
 unfold gI at h
 refine t8 (decide ((0:Int)≤i)) (fun c1=> ?_) (fun c1=> ?_)
 ·have h:=bf c1 h
  exact nof h
 have h:=bt c1 h
 refine t8 (decide (i≤(s.length:Int))) (fun c2=> ?_) (fun c2=> ?_)
 ·have h:=bf c2 h
  exact nof h
 have h:=bt c2 h
 have g0:=of_decide_eq_true c1
 have g1:=of_decide_eq_true c2
 obtain⟨k,rfl⟩: ∃k:Nat,i=(k:Int):=⟨i.toNat,by omega⟩
 simp only [Int.toNat_natCast] at h
 have hif:(Tryz.prog.info? 58).map (fun i=>(i.zero.map (fun z=>z.cells.size),i.size,Nat.ble i.bytes 140000))=some (some 2,2,true):=by kernel_rfl
 cases hq:Tryz.prog.info? 58 with
 |none=>rw [hq] at hif;cases hif
 |some i0=>
  rw [hq] at hif
  simp only [Option.map_some,Option.some.injEq,Prod.mk.injEq] at hif
  obtain⟨h1,h2,h3⟩:=hif
  cases hz:i0.zero with
  |none=>rw [hz] at h1;cases h1
  |some z=>
   rw [hz] at h1
   simp only [Option.map_some,Option.some.injEq] at h1
   refine aJm ⟨_,Tryz.func66,by kernel_rfl,by kernel_rfl⟩ (aBU hq hz h2 h1) Tryz.underlying59 hq hz h1 h2 Tryz.underlying58 (by decide) (Nat.le_of_ble_eq_true h3) aC (fun _=>rfl) s v r k gs gv (by omega) h
theorem U6(G:GS)(n:Nat)(a:Affine){r:Bool}(h:l7 n a=some r):PQ G 151 [V.agg (aQ a)] (vB r):=by
 unfold l7 at h
 refine pq aO Tryz.func151 rfl fun w X hC=> ?_
 refine rq hC [.z (.b (true))] [1,2] [(1,V.tp (bJ a))] [] [] ?_
 obtain⟨x1,hx1,h⟩:=bd h
 obtain rfl:=so h
 exact rq hC [oV (fL G hx1)] (fr 2 4) [(2,vB (decide ((0:Int)<x1)))] [] [] (qr eR)
theorem tU{list}{r}(h:nE n list=some r):PQ G 105 [vM aB list] (vB r):=by
 unfold nE at h
 refine pq aO Tryz.func105 rfl fun w X hC=> ?_
 refine rq hC [] [2] [] [] [] ?_
 obtain⟨x1,hx1,h⟩:=bd h
 obtain rfl:=so h
 exact rq hC [oV (qF G n list 151 (fun q0=>l7 n q0) (fun q0 r h=>U6 G n q0 h) hx1)] (fr 2 4) [(2,vB (!x1))] [] [] (qr eR)
theorem R4{l}{r}(h:kQ n l=some r):PQ G 63 [V.agg (yN l)] (V.tup [vI r.1,vI r.2.1,vB r.2.2]):=by
 unfold kQ at h
 refine pq aO Tryz.func63 rfl fun w X hC=> ?_
 refine rq hC [.z (.b (true))] (fr 1 4) [(1,V.tp (wS l))] [] [] (qs (vj h (fun x_=>aX [(1,V.tp (wS l)),(26,vB x_)] [] []) (fun j1 h=> ?_) (fun x4 h=> ?_)))
 ·
  refine aS h (fun c1 h=> ?_) (fun c1 h=> ?_)
  ·refine aS h (fun c2 h=> ?_) (fun c2 h=> ?_)
   ·obtain⟨x2,hx2,h⟩:=bd h
    refine aS h (fun c3 h=> ?_) (fun c3 h=> ?_)
    ·obtain⟨x3,hx3,h⟩:=bd h
     exact rk hC ([oN aB l.lo]++rF 3 c1++[oN aB l.hi,oF c1,oF c1]++rF 3 c2++[oV (tU G hx2),oF c2,oF c2]++rF 3 c3++[oV (tU G hx3),oF c3,oF c3]) (fr 5 22) [(26,vB (!x3))] [] [] (lE h)
    ·exact rk hC ([oN aB l.lo]++rF 3 c1++[oN aB l.hi,oF c1,oF c1]++rF 3 c2++[oV (tU G hx2),oF c2,oF c2]++rT 5 c3) (fr 5 22) [(26,vB true)] [] [] (lE h)
   ·exact rk hC ([oN aB l.lo]++rF 3 c1++[oN aB l.hi,oF c1,oF c1]++rT 5 c2++sT 5) (fr 5 22) [(26,vB true)] [] [] (lE h)
  ·exact rk hC ([oN aB l.lo]++rT 5 c1++sT 10) (fr 5 22) [(26,vB true)] [] [] (lE h)
 ·refine aT h (fun c4 h=> ?_) (fun c4 h=> ?_)
  ·obtain rfl:=so h
   exact rq hC [] [2,3,4] [(2,vI 0),(3,vI 0),(4,vB false)] [] [] (qr eR)
  ·refine qk (qs ?_)
   obtain⟨x5,hx5,x6,hx6,h⟩:=cS h
   obtain rfl:=so h
   exact dk hC bD [oR aB hx5,oR aB hx6] [2,3,4,27,28,29,30,31,32,33,34,35,36] [(2,vI x5.const),(3,vI x6.const),(4,vB true)] [] [] (qr eR)
abbrev nd1:List Nd:=[⟨62,2,[]⟩]
theorem B1(G:GS)(n:Nat)(s0 s:List Loop)(i:Int)(v:List Loop)(gs gv:Nat){r:List Loop}(e:(s0.map aC).length=(s.map aC).length)(h:gI n s i v=some r):
  VQ G 66 [ar 58 gs 2 aC s,ar 58 gv 2 aC v] [ms 0 gs 2 aC s0,vI i,ms 1 gv 2 aC v] (ms 0 (gs+1) 2 aC r) [ar 58 (gs+1) 2 aC r,ar 58 gv 2 aC v]:=by
 have:=F5 G n s i v gs gv h
 show VCC _ _ _ _ [V.msl 0 gs 2 0 (s0.map aC).length,vI i,ms 1 gv 2 aC v] _ _
 rw [e]
 exact this
theorem U7{p}{part}{loop}{size}{r}(h:l8 n p part loop size=some r):PQ G 18 [V.agg (bX p),vI part,vI loop,vI size] (V.tup [V.agg (bX r.1),vB r.2]):=by
 unfold l8 at h
 refine pq aO Tryz.func18 rfl fun w X hC=> ?_
 refine rq hC [.z (.b (true)),.z (.b (true)),.z (.nat 20)] [4,6,8,9] [(4,V.tp (bU p)),(6,V.tp [T.int .i64 loop]),(8,V.ref 20 0)] [(20,sc [V.t T.nilS,V.t T.nilS])] [(20,true)] (qs ?_)
 obtain⟨x1,hx1,h⟩:=bd h
 refine t8 x1.2 (fun c1=> ?_) (fun c1=> ?_)
 ·have h:=bf c1 h
  refine rk hC [oV (aCG G n p part loop hx1 c1),.z (.nat 21)] [10,11,12,18,19,20,21,22,23,24,25] [(10,V.ref 21 0),(11,V.t T.nilP),(12,vB false)] [(21,sc [vM aH [],vM aD []])] [(21,true)] (qs (rq hC (sT 14) (fr 26 19) [(44,vB true)] [] [] (H7 (b:=true) (by kernel_rfl) (fun c2=> ?_) (fun c2=>by cases c2))))
  obtain rfl:=so h
  exact rq hC [] [9,45] [(9,vB false)] [(20,sc [V.t T.nilS,V.t T.nilS])] [] (qr eR)
 have h:=bt c1 h
 obtain⟨x5,hx5,h⟩:=bd h
 refine rk hC [oC [] [21,22] (aCF G n p part loop hx1 c1),.z (.nat 23)] [10,11,12,18,19,20,21,22,23,24,25] [(10,V.ref 23 0),(11,V.eref 22 1 2 (0+Int.toNat part) 0),(12,vB true)] [(21,some (ar 77 1 2 aH x1.1.arrays)),(22,some (E.tree fD 0 1 (List.map aD x1.1.parts) [])),(23,sc [ms 21 1 2 aH x1.1.arrays,ms 22 1 2 aD x1.1.parts])] [(21,true),(22,true),(23,true)] (qs (vj h (fun x_=>aX [(3,vI size),(6,V.tp [T.int .i64 loop]),(8,V.ref 20 0),(10,V.ref 23 0),(11,V.eref 22 1 2 (0+Int.toNat part) 0),(44,vB x_)] [(20,E.cells [V.t T.nilS,V.t T.nilS]),(21,ar 77 1 2 aH x1.1.arrays),(22,E.tree fD 0 1 (List.map aD x1.1.parts) []),(23,E.cells [ms 21 1 2 aH x1.1.arrays,ms 22 1 2 aD x1.1.parts])] [20,21,22,23]) (fun j2 h=> ?_) (fun x4 h=> ?_)))
 ·
  refine aS h (fun c2 h=> ?_) (fun c2 h=> ?_)
  ·refine qw (zQ hC [.foc 22 24 (0+Int.toNat part) 0 (aD x5)] [] [] [(22,some (E.tree fD 0 1 (List.map aD x1.1.parts) [((0+Int.toNat part),0,ms 24 1 2 aC x5.nest)])),(24,some (E.tree fD 1 1 (List.map aC x5.nest) []))] [(24,true)] (a1 (o0 aD hx5)) (by kernel_rfl)) (aS h (fun c4 h=> ?_) (fun c4 h=> ?_))
   ·obtain⟨x3,hx3,h⟩:=bd h
    exact rk hC ([eF,eF,eF]++rF 4 c2++[oX aD hx5,oF c2,oN aC x5.nest,oF c2,oF c2,oF c4,oF c4,oV (bI G hx3),oF c4,oF c4]) (fr 26 19) [(44,vB (!x3))] [] [] ⟨!x3,h,S.le.trans (zQ hC [.unf 22 24 (aD x5) (List.map aD x1.1.parts)] [] [] [(24,none),(22,some (E.tree fD 0 1 (List.map aD x1.1.parts) []))] [] (a4 (Eq.refl (List.map aC x5.nest).length) (Eq.refl fD) (o0 aD hx5) (B9 aD hx5 rfl)) (by kernel_rfl)) (lS)⟩
   ·exact rk hC ([eF,eF,eF]++rF 4 c2++[oX aD hx5,oF c2,oN aC x5.nest,oF c2,oF c2]++rT 4 c4) (fr 26 19) [(44,vB true)] [] [] ⟨true,h,S.le.trans (zQ hC [.unf 22 24 (aD x5) (List.map aD x1.1.parts)] [] [] [(24,none),(22,some (E.tree fD 0 1 (List.map aD x1.1.parts) []))] [] (a4 (Eq.refl (List.map aC x5.nest).length) (Eq.refl fD) (o0 aD hx5) (B9 aD hx5 rfl)) (by kernel_rfl)) (lS)⟩
  ·exact rk hC ([eF,eF,eF]++rT 7 c2++sT 4) (fr 26 19) [(44,vB true)] [] [] (lE h)
 ·refine aT h (fun c3 h=> ?_) (fun c3 h=> ?_)
  ·obtain rfl:=so h
   exact rq hC [] [9,45] [(9,vB false)] [(20,sc [V.t T.nilS,V.t T.nilS])] [] (qr eR)
  ·refine qk (qs ?_)
   obtain⟨x6,hx6,x7,hx7,h⟩:=cS h
   refine qw (zQ hC [.foc 22 24 (0+Int.toNat part) 0 (aD x5),.foc 24 25 (0+Int.toNat loop) 0 (aC x6),.foc 24 26 (0+Int.toNat loop) 1 (aC x6)] [] [] [(22,some (E.tree fD 0 1 (List.map aD x1.1.parts) [((0+Int.toNat part),0,ms 24 1 2 aC x5.nest)])),(24,some (E.tree fD 1 1 (List.map aC x5.nest) [((0+Int.toNat loop),1,ms 26 1 2 aB x6.hi),((0+Int.toNat loop),0,ms 25 1 2 aB x6.lo)])),(25,some (E.tree fD 3 1 (List.map aB x6.lo) [])),(26,some (E.tree fD 3 1 (List.map aB x6.hi) []))] [(24,true),(25,true),(26,true)] (a3 (o0 aD hx5) (o0 aC hx6) (o0 aC hx6)) (by kernel_rfl)) (dk hC bD [oX aD hx5,oQ (iX aC hx6),oX aC hx6,.z (.b true),.z (.nat 25),.z (.nat 26),oV (R4 G hx7)] [12,13,14,46,47,48,49,50,51,52,53,54,55,56,57] [(12,vB x7.2.2),(13,vI x7.1),(14,vI x7.2.1)] [] [] (qw (zQ hC [.unf 24 26 (aC x6) (List.map aC x5.nest),.unf 24 25 (aC x6) (List.map aC x5.nest),.unf 22 24 (aD x5) (List.map aD x1.1.parts)] [] [] [(26,none),(25,none),(24,none),(22,some (E.tree fD 0 1 (List.map aD x1.1.parts) []))] [] (a12 (Eq.refl (List.map aB x6.hi).length) (Eq.refl fD) (o0 aC hx6) (B9 aC hx6 rfl) (Eq.refl (List.map aB x6.lo).length) (Eq.refl fD) (o0 aC hx6) (B9 aC hx6 rfl) (Eq.refl (List.map aC x5.nest).length) (Eq.refl fD) (o0 aD hx5) (B9 aD hx5 rfl)) (by kernel_rfl)) (qs (rq hC [] [58,59] [(59,vB (!x7.2.2))] [] [] ?_))))
   refine vc (b:= !x7.2.2) (fun c5=> ?_) (fun c5=> ?_)
   ·have c5:x7.2.2=false:=by simpa using c5
    have h:=bf c5 h
    obtain rfl:=so h
    exact rq hC [] [9,60] [(9,vB false)] [(20,sc [V.t T.nilS,V.t T.nilS])] [] (qr eR)
   ·have c5:x7.2.2=true:=by simpa using c5
    have h:=bt c5 h
    refine qk ?_
    obtain⟨x8,hx8,x9,hx9,h⟩:=cS h
    refine rq hC [oC [22] [] (tX G n x1.1.parts part x5 hx5 1 loop 64 [T.int .i64 loop] (fun q0=>eZ n q0 loop) (fun q0 r h=>F8 G n q0 loop h) hx8 hx9)] (fr 61 4) [] [(22,some (E.tree fD 0 1 (List.map aD x9) []))] [(22,true)] ?_
    have hp8:=aKK hx9
    refine qw (zQ hC [.foc 22 36 (0+Int.toNat part) 0 (aD x8),.shd 36,.tre 22 nd1 0] [] [] [(22,some (E.tree nd1 0 1 (List.map aD x9) [((0+Int.toNat part),0,ms 36 1 2 aC x8.nest)])),(36,some (ar 58 1 2 aC x8.nest))] [(36,true)] (a1 (o0 aD hp8)) (by kernel_rfl)) (qs ?_)
    obtain⟨y0,hy0,h⟩:=bd h
    refine rk hC [oQ (zM hy0)] [15,65,66,67,68,69,70,71,72,73] [(15,vI (wr (Int.tdiv (wr ((wr ((max 0 (wr (x7.2.1-x7.1)))+size))-1)) size)))] [] [] (qs ?_)
    obtain⟨y1,hy1,h⟩:=bd h
    obtain⟨y2,hy2,h⟩:=bd h
    refine dk hC bD [oC [] [27] (yJ G hy1),oC [] [28] (yJ G hy2),.z (.nat 29),.z (.nat 30)] [16,17,74,75,76,77,78,79] [(16,V.ref 29 0),(17,V.ref 30 0)] [(27,some (ar 3 1 1 rI y1.coefs)),(28,some (ar 3 1 1 rI y2.coefs)),(29,sc [ms 27 1 1 rI y1.coefs,vI y1.const]),(30,sc [ms 28 1 1 rI y2.coefs,vI y2.const])] [(27,true),(28,true),(29,true),(30,true)] (rq hC [] (fr 80 6) [] [(29,sc [ms 27 1 1 rI y1.coefs,vI x7.1]),(30,sc [ms 28 1 1 rI y2.coefs,vI (wr (x7.1+size))])] [] (qw (lk hC [.fz 27 [] [29],.fz 28 [] [30]] [] [] [(27,none),(28,none),(29,sc [vM rI y1.coefs,vI x7.1]),(30,sc [vM rI y2.coefs,vI (wr (x7.1+size))])] []) (qs ?_)))
    obtain⟨z1,hz1,h⟩:=bd h
    obtain⟨z2,hz2,h⟩:=bd h
    obtain⟨y3,hy3,h⟩:=bd h
    obtain⟨x10,hx10,h⟩:=bd h
    refine dk hC bD [.z (.row (aD x8)),oQ (o0 aD hp8),oC [] [31] (kU G hz1),.z (.at 8),.z (.fz 31 [92] []),.z (.int 0),oC [] [32] (kU G hz2),.z (.at 4),.z (.fz 32 [96] []),.z (.int 0),oQ (iX aC hy3),oX aC hy3,.z (.rows (List.map aC x10)),oQ (str aC hx10)] (fr 86 15) [] [(31,none),(32,none),(36,some (ar 58 1 2 aC x10))] [(31,true),(32,true)] (qs ?_)
    obtain⟨z3,hz3,h⟩:=bd h
    obtain⟨z4,hz4,h⟩:=bd h
    obtain⟨x11,hx11,x12,hx12,h⟩:=cS h
    refine dk hC bD [.z (.row (aD x8)),oQ (o0 aD hp8),oC [] [33] (kU G hz3),.z (.at 10),.z (.fz 33 [107] []),.z (.int 0),oC [] [34] (kU G hz4),.z (.at 7),.z (.fz 34 [110] []),.z (.int 0),.z (.int 1),.z (.nat 35),oC [36,35] [] (B1 G n x8.nest x10 loop [(⟨[z3],[z4]⟩:Loop)] 1 1 (lI aC hx10) hx11),.z (.row (aD x8)),oQ (o0 aD hp8)] (fr 101 16) [] [(33,none),(34,none),(35,some (ar 58 1 2 aC [(⟨[z3],[z4]⟩:Loop)])),(36,some (ar 58 (1+1) 2 aC x11)),(22,some (E.tree nd1 0 1 (List.map aD x9) [((0+Int.toNat part),0,ms 36 (1+1) 2 aC x11)]))] [(33,true),(34,true),(35,true),(36,true),(35,true)] (qw (zQ hC [.frzc 22 0 36,.unt 22 (aD x8) (List.map aD x12),.shd 22,.lenc 23 1 (List.map aD x12).length,.fz 21 [] [23],.fz 22 [] [23]] [] [] [(36,none),(21,none),(22,none),(23,sc [vM aH x1.1.arrays,vM aD x12])] [] (a3 (o0 aD hp8) (S4 aD hx12 rfl) ((lI aD hx9).trans (lI aD hx12))) (by kernel_rfl)) ?_)
    obtain⟨x13,hx13,h⟩:=bd h
    obtain rfl:=so h
    exact rq hC [oV (aA3 G hx13)] [9,117,118,119,120] [(9,vB x13.2)] [(20,some (E.cells (bX x13.1)))] [] (qr eR)
theorem aD0{r_a0}{r}(h:sJ n r_a0=some r):VQ G 58 [eL r_a0] [V.ref 0 0] (V.tup [V.agg (bX r.1),vI r.2.1,vI r.2.2.1]) [eL r.2.2.2]:=by
 unfold sJ at h
 refine vq aO Tryz.func58 rfl fun w X β0 hC hg=> ?_
 refine rq hC [.z (.nat 20)] [2,3,4] [(2,V.ref 20 0)] [(20,sc [V.t T.nilS,V.t T.nilS])] [(20,true)] ?_
 obtain⟨x1,hx1,h⟩:=bd h
 obtain rfl:=so h
 exact rq hC [oC [0] [] (aD2 G hx1),.z (.nat 21)] (fr 5 11) [(5,V.ref 21 0),(6,vI x1.2.1),(7,vI x1.2.2.1)] [(0,sR x1.2.2.2.2),(21,some (E.cells (bX x1.1)))] [(0,true),(21,true)] (rq hC [] [3,4,16,17,18] [(3,vI x1.2.1),(4,vI x1.2.2.1)] [(20,some (E.cells (bX x1.1)))] [] (qr eW))
theorem tR{code}{r}(h:fT n code=some r):PQ G 15 [vM rY code] (V.tup [V.agg (bX r.1),vI r.2.1,vI r.2.2]):=by
 unfold fT at h
 refine pq aO Tryz.func15 rfl fun w X hC=> ?_
 refine rq hC [.z (.nat 20)] [2,3,4] [(2,V.ref 20 0)] [(20,sc [V.t T.nilS,V.t T.nilS])] [(20,true)] ?_
 obtain⟨x1,hx1,x2,hx2,h⟩:=cS h
 obtain rfl:=so h
 exact rq hC [oC [] [21] (aCw G hx1),oC [21] [] (aD0 G hx2)] (fr 3 8) [(3,vI x2.2.1),(4,vI x2.2.2.1)] [(21,sR x2.2.2.2),(20,some (E.cells (bX x2.1)))] [(21,true),(21,true)] (qr eR)
theorem uX(G:GS)(n:Nat)(code:List UInt8)(more:List UInt8){r:Bool}(h:gL n code more=some r):PQ G 4 [vM rY code,vM rY more] (vB r):=by
 unfold gL at h
 refine pq aO Tryz.func4 rfl fun w X hC=> ?_
 refine rq hC [] [4] [] [] [] (qs (vj h (fun x_=>aX [(0,vM rY code),(1,vM rY more),(18,vB x_)] [] []) (fun j1 h=> ?_) (fun x2 h=> ?_)))
 ·
  refine aS h (fun c1 h=> ?_) (fun c1 h=> ?_)
  ·exact rk hC [oN rY code,oF c1,oF c1,oN rY more,oF c1,oF c1] (fr 11 8) [(18,vB (decide ((1048576:Int)<(more.length:Int))))] [] [] (lE h)
  ·exact rk hC ([oN rY code]++rT 4 c1) (fr 11 8) [(18,vB true)] [] [] (lE h)
 ·refine aT h (fun c2 h=> ?_) (fun c2 h=> ?_)
  ·obtain rfl:=so h
   exact rq hC [] [4] [(4,vB true)] [] [] (qr eR)
  ·refine qk ?_
   obtain⟨x3,hx3,h⟩:=bd h
   refine rq hC [oV (tR G hx3),.z (.nat 20)] [5,6,7,19,20,21,22,23,24] [(5,V.ref 20 0),(6,vI x3.2.1),(7,vI x3.2.2)] [(20,some (E.cells (bX x3.1)))] [(20,true)] ?_
   obtain⟨x4,hx4,h⟩:=bd h
   refine rq hC [oV (iI G hx4)] [8,25,26,27,28] [(8,vB x4)] [] [] (qs (vj h (fun x_=>aX [(1,vM rY more),(5,V.ref 20 0),(6,vI x3.2.1),(7,vI x3.2.2),(8,vB x4),(38,vB x_)] [(20,E.cells (bX x3.1))] [20]) (fun j5 h=> ?_) (fun x7 h=> ?_)))
   ·
    obtain⟨x6,hx6,h⟩:=bd h
    refine aS h (fun c3 h=> ?_) (fun c3 h=> ?_)
    ·exact rk hC ([oV (lU G hx6)]++rF 3 c3) (fr 29 10) [(38,vB (!x4))] [] [] (lE h)
    ·exact rk hC ([oV (lU G hx6)]++rT 3 c3) (fr 29 10) [(38,vB true)] [] [] (lE h)
   ·refine aT h (fun c4 h=> ?_) (fun c4 h=> ?_)
    ·obtain⟨x8,hx8,h⟩:=bd h
     obtain rfl:=so h
     exact rq hC [oV (lU G hx8)] [4,39,40,41,42,43,44] [(4,vB (x4==x8))] [] [] (qr eR)
    ·refine qk ?_
     obtain⟨x9,hx9,h⟩:=bd h
     refine rq hC [oN rY more,oQ (show(6:Int)≠0 by decide),oV (U7 G hx9),.z (.nat 21)] [9,10,45,46,47,48,49,50,51,52,53,54,55] [(9,V.ref 21 0),(10,vB x9.2)] [(21,some (E.cells (bX x9.1)))] [(21,true)] (vj h (fun x_=>aX [(4,vB x_)] [(20,E.cells (bX x3.1)),(21,E.cells (bX x9.1))] [20,21]) (fun j10 h=> ?_) (fun x13 h=> ?_))
     ·
      refine aS h (fun c5 h=> ?_) (fun c5 h=> ?_)
      ·obtain⟨x11,hx11,h⟩:=bd h
       refine aS h (fun c6 h=> ?_) (fun c6 h=> ?_)
       ·exact rk hC (rF 4 c5++[oV (iI G hx11),oF c5]++rF 5 c6++[oF c5,oF c6,oF c5]) [4,56,57,58,59,60,61,62,63,64,65,66,67,68,69,70] [(4,vB false)] [] [] (lE h)
       ·obtain⟨x12,hx12,h⟩:=bd h
        exact rk hC (rF 4 c5++[oV (iI G hx11),oF c5]++rT 5 c6++[oV (iI G hx12),oF c5,oT c6,oF c5]) [4,56,57,58,59,60,61,62,63,64,65,66,67,68,69,70] [(4,vB x12)] [] [] (lE h)
      ·exact rk hC (rT 7 c5) [4,56,57,58,59,60,61,62,63,64,65,66,67,68,69,70] [(4,vB true)] [] [] (lE h)
     ·obtain rfl:=so h
      exact qr eR
end Go.Lift
