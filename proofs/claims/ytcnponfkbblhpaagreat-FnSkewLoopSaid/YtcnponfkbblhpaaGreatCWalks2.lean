/- The walks: the code computes what the plain functions say. -/
import Derived.Test.YtcnponfkbblhpaaGreatCModels
import Derived.Test.YtcnponfkbblhpaaGreatCWalks1
set_option maxRecDepth 10000
set_option linter.unusedVariables false
namespace Go.Lift
open Go Go.Proofs
variable (G:GS) {n:Nat}
theorem l6{a}{r}(h:oG n a=some r):PQ G 302 [V.agg (aK a)] (vB r):=by
 unfold oG at h
 refine pq aO Tryz.func302 rfl fun w X hC=> ?_
 refine rq hC [.z (.b (true))] [1,2] [(1,V.tp (aQ a))] [] [] (vj h (fun x_=>aY [(2,vB x_)] [] []) (fun j1 h=> ?_) (fun x2 h=> ?_))
 ·
  refine aR h (fun c1 h=> ?_) (fun c1 h=> ?_)
  ·exact rk hC ([oN rI a.coefs]++rF 4 c1) (fr 2 10) [(2,vB false)] [] [] (lE h)
  ·exact rk hC ([oN rI a.coefs]++rT 4 c1) (fr 2 10) [(2,vB (decide (a.const=0)))] [] [] (lE h)
 ·obtain rfl:=so h
  exact qr eR
theorem aFb{e}{depth}{r}(h:xB n e depth=some r):PQ G 279 [V.agg (cQ e),vI depth] (vB r):=by
 unfold xB at h
 refine pq aO Tryz.func279 rfl fun w X hC=> ?_
 refine rq hC [.z (.b (true))] [2,4] [(2,V.tp (fA e))] [] [] (qs (rq hC [] [5,6,7] [(7,vB (decide (e.kind=2)))] [] [] (aT h (fun c1 h=> ?_) (fun c1 h=> ?_))))
 ·refine vj h (fun x_=>aY [(4,vB x_)] [] []) (fun j1 h=> ?_) (fun x5 h=> ?_)
  ·
   refine aR h (fun c2 h=> ?_) (fun c2 h=> ?_)
   ·exact rk hC (rF 4 c2++sF 10) [4,8,9,10,11,12,13,14,15,16,17,18,19,20,21,22,23,24,25,26,27] [(4,vB false)] [] [] (lE h)
   ·obtain⟨x2,hx2,h⟩:=bd h
    refine aR h (fun c3 h=> ?_) (fun c3 h=> ?_)
    ·exact rk hC (rT 3 c2++[oV (mR G hx2),oT c2]++rF 4 c3++sF 6) [4,8,9,10,11,12,13,14,15,16,17,18,19,20,21,22,23,24,25,26,27] [(4,vB false)] [] [] (lE h)
    ·obtain⟨x3,hx3,h⟩:=bd h
     refine aR h (fun c4 h=> ?_) (fun c4 h=> ?_)
     ·exact rk hC (rT 3 c2++[oV (mR G hx2),oT c2]++rT 3 c3++[oV (d7 G hx3),oT c3]++rF 6 c4) [4,8,9,10,11,12,13,14,15,16,17,18,19,20,21,22,23,24,25,26,27] [(4,vB false)] [] [] (lE h)
     ·obtain⟨x4,hx4,h⟩:=bd h
      exact rk hC (rT 3 c2++[oV (mR G hx2),oT c2]++rT 3 c3++[oV (d7 G hx3),oT c3]++rT 3 c4++[oV (t2 G hx4)]++rT 3 c4) [4,8,9,10,11,12,13,14,15,16,17,18,19,20,21,22,23,24,25,26,27] [(4,vB (decide (x4≤depth)))] [] [] (lE h)
  ·obtain rfl:=so h
   exact qr eR
 ·refine qk (qs (rq hC [] [28,29,30] [(30,vB (decide (e.kind=3)))] [] [] (aT h (fun c5 h=> ?_) (fun c5 h=> ?_))))
  ·refine vj h (fun x_=>aY [(4,vB x_)] [] []) (fun j6 h=> ?_) (fun x9 h=> ?_)
   ·
    refine aR h (fun c6 h=> ?_) (fun c6 h=> ?_)
    ·exact rk hC (rF 4 c6++sF 5) [4,31,32,33,34,35,36,37,38,39,40,41,42,43,44] [(4,vB false)] [] [] (lE h)
    ·obtain⟨x7,hx7,h⟩:=bd h
     refine aR h (fun c7 h=> ?_) (fun c7 h=> ?_)
     ·exact rk hC (rT 3 c6++[oV (l6 G hx7),oT c6]++rF 5 c7) [4,31,32,33,34,35,36,37,38,39,40,41,42,43,44] [(4,vB false)] [] [] (lE h)
     ·obtain⟨x8,hx8,h⟩:=bd h
      exact rk hC (rT 3 c6++[oV (l6 G hx7),oT c6]++rT 4 c7++[oV (rZ G hx8),oT c7]) [4,31,32,33,34,35,36,37,38,39,40,41,42,43,44] [(4,vB x8)] [] [] (lE h)
   ·obtain rfl:=so h
    exact qr eR
  ·refine qk (qs (rq hC [] [45,46,47] [(47,vB (decide (e.kind=1)))] [] [] (aT h (fun c8 h=> ?_) (fun c8 h=> ?_))))
   ·refine vj h (fun x_=>aY [(4,vB x_)] [] []) (fun j10 h=> ?_) (fun x13 h=> ?_)
    ·
     refine aR h (fun c9 h=> ?_) (fun c9 h=> ?_)
     ·exact rk hC (rF 4 c9++sF 8) [4,48,49,50,51,52,53,54,55,56,57,58,59,60,61,62,63,64,65] [(4,vB false)] [] [] (lE h)
     ·refine aR h (fun c10 h=> ?_) (fun c10 h=> ?_)
      ·exact rk hC (rT 4 c9++rF 4 c10++sF 4) [4,48,49,50,51,52,53,54,55,56,57,58,59,60,61,62,63,64,65] [(4,vB false)] [] [] (lE h)
      ·obtain⟨x11,hx11,h⟩:=bd h
       refine aR h (fun c11 h=> ?_) (fun c11 h=> ?_)
       ·exact rk hC (rT 4 c9++rT 3 c10++[oV (l6 G hx11),oT c10]++rF 4 c11) [4,48,49,50,51,52,53,54,55,56,57,58,59,60,61,62,63,64,65] [(4,vB false)] [] [] (lE h)
       ·obtain⟨x12,hx12,h⟩:=bd h
        exact rk hC (rT 4 c9++rT 3 c10++[oV (l6 G hx11),oT c10]++rT 3 c11++[oV (mR G hx12),oT c11]) [4,48,49,50,51,52,53,54,55,56,57,58,59,60,61,62,63,64,65] [(4,vB x12)] [] [] (lE h)
    ·obtain rfl:=so h
     exact qr eR
   ·refine qk (vj h (fun x_=>aY [(4,vB x_)] [] []) (fun j14 h=> ?_) (fun x17 h=> ?_))
    ·
     refine aR h (fun c12 h=> ?_) (fun c12 h=> ?_)
     ·exact rk hC (rF 4 c12++sF 4) [4,66,67,68,69,70,71,72,73,74,75,76,77,78] [(4,vB false)] [] [] (lE h)
     ·obtain⟨x15,hx15,h⟩:=bd h
      refine aR h (fun c13 h=> ?_) (fun c13 h=> ?_)
      ·exact rk hC (rT 3 c12++[oV (l6 G hx15),oT c12]++rF 4 c13) [4,66,67,68,69,70,71,72,73,74,75,76,77,78] [(4,vB false)] [] [] (lE h)
      ·obtain⟨x16,hx16,h⟩:=bd h
       exact rk hC (rT 3 c12++[oV (l6 G hx15),oT c12]++rT 3 c13++[oV (mR G hx16),oT c13]) [4,66,67,68,69,70,71,72,73,74,75,76,77,78] [(4,vB x16)] [] [] (lE h)
    ·obtain rfl:=so h
     exact qr eR
theorem aBV(G:GS): ∀(n:Nat) (e:Expr) (depth:Int) (levels:Int) {r:Bool} (h:s_l3Shape n e depth levels=some r),PQ G 244 [V.agg (cQ e),vI depth,vI levels] (vB r):=by
 intro n
 induction n with
 |zero=>intro e depth levels r h;rw [s_l3Shape.eq_def] at h;cases h
 |succ n ih=>
  intro e depth levels r h
  rw [s_l3Shape.eq_def] at h;dsimp only at h
  refine pq aO Tryz.func244 rfl fun w X hC=> ?_
  refine rq hC [.z (.b (true))] [3,6] [(3,V.tp (fA e))] [] [] (qs (vj h (fun x_=>aY [(1,vI depth),(2,vI levels),(3,V.tp (fA e)),(24,vB x_)] [] []) (fun j1 h=> ?_) (fun x4 h=> ?_)))
  ·
   refine aR h (fun c1 h=> ?_) (fun c1 h=> ?_)
   ·obtain⟨x2,hx2,h⟩:=bd h
    refine aR h (fun c2 h=> ?_) (fun c2 h=> ?_)
    ·obtain⟨x3,hx3,h⟩:=bd h
     exact dk hC bC (rF 3 c1++[oV (O4 G hx2)]++rF 3 c1++[oN aI e.kids,oF c1,oF c1]++rF 3 c2++[oV (aFb G hx3),oF c2,oF c2]) (fr 8 17) [(24,vB (!x3))] [] [] (lE h)
    ·exact dk hC bC (rF 3 c1++[oV (O4 G hx2)]++rF 3 c1++[oN aI e.kids,oF c1,oF c1]++rT 5 c2) (fr 8 17) [(24,vB true)] [] [] (lE h)
   ·exact dk hC bC (rT 8 c1++sT 5) (fr 8 17) [(24,vB true)] [] [] (lE h)
  ·refine aT h (fun c3 h=> ?_) (fun c3 h=> ?_)
   ·obtain rfl:=so h
    exact rq hC [] [6] [(6,vB false)] [] [] (qr eR)
   ·refine qk (qs (rq hC [] [7] [(7,vI 0)] [] [] (qb (jP h (fun x_=>aY [(1,vI depth),(2,vI levels),(3,V.tp (fA e)),(7,vI x_)] [] []) lS ?_))))
    rintro again6 x5 h
    refine qs (rq hC [oN aI e.kids] (fr 25 5) [(29,vB (decide (x5<(e.kids.length:Int))))] [] [] (aT h (fun c4 h=> ?_) (fun c4 h=> ?_)))
    ·refine qk (qs (qb ?_))
     obtain⟨x7,hx7,x8,hx8,h⟩:=cP h
     refine rq hC [.z (.row (d5 x7)),oQ (eS aI hx7 (cM x7)),oV (ih x7 depth (wr (levels-1)) hx8)] (fr 32 10) [(41,vB (!x8))] [] [] (aT h (fun c5 h=> ?_) (fun c5 h=> ?_))
     ·obtain rfl:=so h
      exact rq hC [] [6] [(6,vB false)] [] [] (qr eR)
     ·exact qk (rk hC [] [7,30,31] [(7,vI (wr (x5+1)))] [] [] (lE h))
    ·obtain rfl:=so h
     exact cT (rq hC [] [6] [(6,vB true)] [] [] (qr eR))
theorem aBZ(G:GS): ∀(n:Nat) (e:Expr) (levels:Int) {r:Int} (h:s_l3Count n e levels=some r),PQ G 245 [V.agg (cQ e),vI levels] (vI r):=by
 intro n
 induction n with
 |zero=>intro e levels r h;rw [s_l3Count.eq_def] at h;cases h
 |succ n ih=>
  intro e levels r h
  rw [s_l3Count.eq_def] at h;dsimp only at h
  refine pq aO Tryz.func245 rfl fun w X hC=> ?_
  refine rq hC [.z (.b (true))] [2,4] [(2,V.tp (fA e))] [] [] (rq hC [] [5] [(5,vI 1)] [] [] (qs (rq hC [] [6] [(6,vI 0)] [] [] (qb (jP h (fun x_=>aY [(1,vI levels),(2,V.tp (fA e)),(5,vI x_.1),(6,vI x_.2)] [] []) lS ?_)))))
  rintro again3 ⟨x1,x2⟩ h
  refine qs (vj h (fun x_=>aY [(1,vI levels),(2,V.tp (fA e)),(5,vI x1),(6,vI x2),(15,vB x_)] [] []) (fun j4 h=> ?_) (fun x5 h=> ?_))
  ·
   refine aR h (fun c1 h=> ?_) (fun c1 h=> ?_)
   ·exact rk hC ([oN aI e.kids]++rF 3 c1) (fr 7 9) [(15,vB false)] [] [] (lE h)
   ·exact rk hC ([oN aI e.kids]++rT 3 c1) (fr 7 9) [(15,vB (decide ((0:Int)<levels)))] [] [] (lE h)
  ·refine aT h (fun c2 h=> ?_) (fun c2 h=> ?_)
   ·refine qk (qs (qb ?_))
    obtain⟨x6,hx6,x7,hx7,h⟩:=cP h
    exact rk hC [.z (.row (d5 x6)),oQ (eS aI hx6 (cM x6)),oV (ih x6 (wr (levels-1)) hx7)] [5,18,19,20,21,22,23,24,25,26,27] [(5,vI (wr (x1+x7)))] [] [] (rk hC [] [6,16,17] [(6,vI (wr (x2+1)))] [] [] (lE h))
   ·obtain rfl:=so h
    exact cT (rq hC [] [4,28] [(4,vI x1)] [] [] (qr eR))
theorem pT{s}{depth}{r}(h:iD n s depth=some r):PQ G 199 [V.agg (cO s),vI depth] (vB r):=by
 unfold iD at h
 refine pq aO Tryz.func199 rfl fun w X hC=> ?_
 refine rq hC [.z (.b (true))] [2,4] [(2,V.tp (n6 s))] [] [] (qs (vj h (fun x_=>aY [(2,V.tp (n6 s)),(24,vB x_)] [] []) (fun j1 h=> ?_) (fun x4 h=> ?_)))
 ·
  refine aR h (fun c1 h=> ?_) (fun c1 h=> ?_)
  ·refine aR h (fun c2 h=> ?_) (fun c2 h=> ?_)
   ·obtain⟨x2,hx2,h⟩:=bd h
    refine aR h (fun c3 h=> ?_) (fun c3 h=> ?_)
    ·obtain⟨x3,hx3,h⟩:=bd h
     exact rk hC (rF 3 c1++rF 4 c2++[oV (rZ G hx2),oF c2,oF c2]++rF 4 c3++[oV (aBV G n s.value depth 5 hx3),oF c3,oF c3]) (fr 5 20) [(24,vB (!x3))] [] [] (lE h)
    ·exact rk hC (rF 3 c1++rF 4 c2++[oV (rZ G hx2),oF c2,oF c2]++rT 6 c3) (fr 5 20) [(24,vB true)] [] [] (lE h)
   ·exact rk hC (rF 3 c1++rT 6 c2++sT 6) (fr 5 20) [(24,vB true)] [] [] (lE h)
  ·exact rk hC (rT 3 c1++sT 12) (fr 5 20) [(24,vB true)] [] [] (lE h)
 ·refine aT h (fun c4 h=> ?_) (fun c4 h=> ?_)
  ·obtain rfl:=so h
   exact rq hC [] [4] [(4,vB false)] [] [] (qr eR)
  ·refine qk ?_
   obtain⟨x5,hx5,h⟩:=bd h
   obtain rfl:=so h
   exact rq hC [oV (aBZ G n s.value 5 hx5)] [4,25,26,27,28] [(4,vB (decide (x5≤12)))] [] [] (qr eR)
theorem wL{list}{part}{r}(h:n9 n list part=some r):PQ G 143 [vM aJ list,V.agg (lG part)] (V.tup [vI r.1,vB r.2]):=by
 unfold n9 at h
 refine pq aO Tryz.func143 rfl fun w X hC=> ?_
 refine rq hC [.z (.b (true))] [3,4,5] [(3,V.tp (jW part))] [] [] ?_
 obtain⟨x1,hx1,h⟩:=bd h
 refine rq hC [oC [] [20] (P6 G hx1)] [6,7,13,14,15,16,17,18] [(6,ms 20 1 1 (rL rI) x1.1),(7,vB x1.2)] [(20,some (ar 45 1 1 (rL rI) x1.1))] [(20,true)] (qs (vj h (fun x_=>aY [(0,vM aJ list),(3,V.tp (jW part)),(6,ms 20 1 1 (rL rI) x1.1),(32,vB x_)] [(20,ar 45 1 1 (rL rI) x1.1)] [20]) (fun j2 h=> ?_) (fun x3 h=> ?_)))
 ·
  refine aR h (fun c1 h=> ?_) (fun c1 h=> ?_)
  ·refine aR h (fun c2 h=> ?_) (fun c2 h=> ?_)
   ·exact rk hC (rF 3 c1++[oN aG part.body,oF c1,oF c1]++rF 3 c2++[oN aG part.body,oF c2,oF c2]) (fr 19 14) [(32,vB (decide ((4:Int)<(part.body.length:Int))))] [] [] (lE h)
   ·exact rk hC (rF 3 c1++[oN aG part.body,oF c1,oF c1]++rT 5 c2) (fr 19 14) [(32,vB true)] [] [] (lE h)
  ·exact rk hC (rT 5 c1++sT 5) (fr 19 14) [(32,vB true)] [] [] (lE h)
 ·refine aT h (fun c3 h=> ?_) (fun c3 h=> ?_)
  ·obtain rfl:=so h
   exact rq hC [] [4,5] [(4,vI 0),(5,vB false)] [] [] (qr eR)
  ·refine qk (qs (rq hC [] [8] [(8,vI 0)] [] [] (qb (jP h (fun x_=>aY [(0,vM aJ list),(3,V.tp (jW part)),(6,ms 20 1 1 (rL rI) x1.1),(8,vI x_)] [(20,ar 45 1 1 (rL rI) x1.1)] [20]) lS ?_))))
   rintro again5 x4 h
   refine qs (rq hC [oN aG part.body] (fr 33 5) [(37,vB (decide (x4<(part.body.length:Int))))] [] [] (aT h (fun c4 h=> ?_) (fun c4 h=> ?_)))
   ·refine qk (qs (qb (qs (qs ?_))))
    obtain⟨x6,hx6,x7,hx7,h⟩:=cP h
    refine dk hC bC [oR aG hx6,oN aC part.nest,oV (pT G hx7)] (fr 40 10) [(49,vB (!x7))] [] [] (aT h (fun c5 h=> ?_) (fun c5 h=> ?_))
    ·obtain rfl:=so h
     exact rq hC [] [4,5] [(4,vI 0),(5,vB false)] [] [] (qr eR)
    ·refine qk (rq hC [] [9] [(9,vI 0)] [] [] (qb (jP h (fun x_=>aY [(0,vM aJ list),(3,V.tp (jW part)),(6,ms 20 1 1 (rL rI) x1.1),(8,vI x4),(9,vI x_)] [(20,ar 45 1 1 (rL rI) x1.1)] [20]) lS ?_)))
     rintro again9 x8 h
     refine qs (rq hC [oN (rL rI) x1.1] (fr 50 4) [(53,vB (decide (x8<(x1.1.length:Int))))] [] [] (aT h (fun c6 h=> ?_) (fun c6 h=> ?_)))
     ·refine qk (qs (qb (qs ?_)))
      obtain⟨x10,hx10,x11,hx11,h⟩:=cP h
      refine dk hC bC [oR aG hx6,oQ (lM (rL rI) hx10),oX (rL rI) hx10,oC [] [21] (aBS G hx11)] [10,11,12,56,57,58,59,60,61,62,63,64,65,66,67,68,69,70] [(12,vB x11.2.2)] [(21,some (ar 3 1 1 rI x11.1))] [(21,true)] (vj h (fun x_=>aY [(0,vM aJ list),(3,V.tp (jW part)),(6,ms 20 1 1 (rL rI) x1.1),(8,vI x4),(9,vI x8),(80,vB x_)] [(20,ar 45 1 1 (rL rI) x1.1),(21,ar 3 1 1 rI x11.1)] [20,21]) (fun j12 h=> ?_) (fun x14 h=> ?_))
      ·
       refine aR h (fun c7 h=> ?_) (fun c7 h=> ?_)
       ·obtain⟨x13,hx13,h⟩:=bd h
        exact rk hC (rF 3 c7++[oQ (lM (rL rI) hx10),oF c7,oX (rL rI) hx10,oF c7,oV (aB1 G hx13),oF c7,oF c7]) (fr 71 10) [(80,vB (!x13))] [] [] (lE h)
       ·exact rk hC (rT 7 c7) (fr 71 10) [(80,vB true)] [] [] (lE h)
      ·refine aT h (fun c8 h=> ?_) (fun c8 h=> ?_)
       ·obtain rfl:=so h
        exact rq hC [] [4,5] [(4,vI 0),(5,vB false)] [] [] (qr eR)
       ·exact qk (rk hC [] [9,54,55] [(9,vI (wr (x8+1)))] [] [] (lE h))
     ·exact cT (rk hC [] [8,38,39] [(8,vI (wr (x4+1)))] [] [] (lE h))
   ·obtain rfl:=so h
    exact cT (rq hC [oN (rL rI) x1.1,oN aG part.body] [4,5,81,82,83,84,85,86] [(4,vI (wr ((x1.1.length:Int)*(part.body.length:Int)))),(5,vB true)] [] [] (qr eR))
theorem cY{p}{r}(h:dR n p=some r):PQ G 89 [V.agg (bH p)] (vB r):=by
 unfold dR at h
 refine pq aO Tryz.func89 rfl fun w X hC=> ?_
 refine rq hC [.z (.b (true))] [1,2] [(1,V.tp (bL p))] [] [] (qs (vj h (fun x_=>aY [(1,V.tp (bL p)),(16,vB x_)] [] []) (fun j1 h=> ?_) (fun x3 h=> ?_)))
 ·
  obtain⟨x2,hx2,h⟩:=bd h
  refine aR h (fun c1 h=> ?_) (fun c1 h=> ?_)
  ·exact rk hC ([oV (yB G hx2)]++rF 3 c1++[oN aD p.parts,oF c1,oF c1]) (fr 7 10) [(16,vB (decide ((4:Int)<(p.parts.length:Int))))] [] [] (lE h)
  ·exact rk hC ([oV (yB G hx2)]++rT 5 c1) (fr 7 10) [(16,vB true)] [] [] (lE h)
 ·refine aT h (fun c2 h=> ?_) (fun c2 h=> ?_)
  ·obtain rfl:=so h
   exact rq hC [] [2] [(2,vB false)] [] [] (qr eR)
  ·refine qk (rq hC [] [3] [(3,vI 0)] [] [] (qs (rq hC [] [4] [(4,vI 0)] [] [] (qb (jP h (fun x_=>aY [(1,V.tp (bL p)),(3,vI x_.1),(4,vI x_.2)] [] []) lS ?_)))))
   rintro again6 ⟨x4,x5⟩ h
   refine qs (rq hC [oN aD p.parts] (fr 17 5) [(21,vB (decide (x5<(p.parts.length:Int))))] [] [] (aT h (fun c3 h=> ?_) (fun c3 h=> ?_)))
   ·refine qk (qs (qb (qs ?_)))
    obtain⟨x7,hx7,x8,hx8,h⟩:=cP h
    refine dk hC bC [oR aD hx7,oV (wL G hx8)] [5,6,24,25,26,27,28,29,30,31,32,33,34] [(5,vI x8.1),(6,vB x8.2)] [] [] (qs (rq hC [] [35,36] [(36,vB (!x8.2))] [] [] (aT h (fun c4 h=> ?_) (fun c4 h=> ?_))))
    ·obtain rfl:=so h
     exact rq hC [] [2] [(2,vB false)] [] [] (qr eR)
    ·exact qk (rk hC [] [3,37,38,39] [(3,vI (wr (x4+x8.1)))] [] [] (rk hC [] [4,22,23] [(4,vI (wr (x5+1)))] [] [] (lE h)))
   ·obtain rfl:=so h
    exact cT (rq hC [] [2,40,41] [(2,vB (decide (x4≤120)))] [] [] (qr eR))
theorem qS{p}{part}{loop}{r}(h:uI n p part loop=some r):PQ G 60 [V.agg (bH p),vI part,vI loop] (vB r):=by
 unfold uI at h
 refine pq aO Tryz.func60 rfl fun w X hC=> ?_
 refine rq hC [.z (.b (true))] [3,6] [(3,V.tp (bL p))] [] [] (vj h (fun x_=>aY [(6,vB x_)] [] []) (fun j1 h=> ?_) (fun x4 h=> ?_))
 ·
  obtain⟨x2,hx2,h⟩:=bd h
  refine aR h (fun c1 h=> ?_) (fun c1 h=> ?_)
  ·exact rk hC ([oV (cY G hx2)]++rF 3 c1++sF 19) (fr 6 29) [(6,vB false)] [] [] (lE h)
  ·refine aR h (fun c2 h=> ?_) (fun c2 h=> ?_)
   ·exact rk hC ([oV (cY G hx2)]++rT 3 c1++rF 6 c2++sF 13) (fr 6 29) [(6,vB false)] [] [] (lE h)
   ·refine aR h (fun c3 h=> ?_) (fun c3 h=> ?_)
    ·exact rk hC ([oV (cY G hx2)]++rT 3 c1++rT 4 c2++[oN aD p.parts,oT c2,oT c2]++rF 3 c3++sF 10) (fr 6 29) [(6,vB false)] [] [] (lE h)
    ·refine aR h (fun c4 h=> ?_) (fun c4 h=> ?_)
     ·exact rk hC ([oV (cY G hx2)]++rT 3 c1++rT 4 c2++[oN aD p.parts,oT c2,oT c2]++rT 3 c3++rF 10 c4) (fr 6 29) [(6,vB false)] [] [] (lE h)
     ·obtain⟨x3,hx3,h⟩:=bd h
      exact rk hC ([oV (cY G hx2)]++rT 3 c1++rT 4 c2++[oN aD p.parts,oT c2,oT c2]++rT 3 c3++rT 5 c4++[oR aD hx3]++rT 3 c4++[oN aC x3.nest,oT c4,oT c4]) (fr 6 29) [(6,vB (decide (loop<(x3.nest.length:Int))))] [] [] (lE h)
 ·obtain rfl:=so h
  exact qr eR
theorem O8{nest}{r}(h:oI n nest=some r):VQ G 188 [] [vM aC nest] (ms 0 1 2 aC r) [E.tree mT 0 1 (List.map aC r) []]:=by
 unfold oI at h
 refine vq aO Tryz.func188 rfl fun w X β0 hC hg=> ?_
 refine rq hC [] [2] [] [] [] (rq hC [.z (.nat 20),.z (.at 1),.z (.tre 20 mT 0)] [3,10] [(3,ms 20 1 2 aC [])] [(20,some (E.tree mT 0 1 (List.map aC []) []))] [(20,true)] (qs (rq hC [] [4] [(4,vI 0)] [] [] (qb (bD (γ:=Nat) h (fun x_ g_=>aY [(0,vM aC nest),(3,ms 20 g_ 2 aC x_.1),(4,vI x_.2)] [(20,E.tree mT 0 g_ (List.map aC x_.1) [])] [20]) 1 (lS) ?_)))))
 rintro again4 ⟨x1,x2⟩ g3 h
 refine qs (rq hC [oN aC nest] (fr 11 4) [(14,vB (decide (x2<(nest.length:Int))))] [] [] (aT h (fun c1 h=> ?_) (fun c1 h=> ?_)))
 ·refine qk (qs (qb (rq hC [.z (.nat 21)] [5,17] [(5,V.ref 21 0)] [(21,sc [V.t T.nilS,V.t T.nilS])] [(21,true)] (qs (rq hC [] [6] [(6,vI 0)] [] [] ?_)))))
  refine qb (qw (lk hC [.growc 21 0 22 63] [] [] [(22,some (ar 63 1 2 aA [])),(21,sc [ms 22 1 2 aA [],V.t T.nilS])] [(22,true)]) (bD (γ:=Nat) h (fun x_ g_=>aY [(0,vM aC nest),(3,ms 20 g3 2 aC x1),(4,vI x2),(5,V.ref 21 0),(6,vI x_.2)] [(20,E.tree mT 0 g3 (List.map aC x1) []),(21,E.cells [ms 22 g_ 2 aA x_.1,V.t T.nilS]),(22,ar 63 g_ 2 aA x_.1)] [20,21,22]) 1 (lS) ?_))
  rintro again8 ⟨x5,x6⟩ g7 h
  refine qs ?_
  obtain⟨x9,hx9,h⟩:=bd h
  refine rq hC [oR aC hx9,oN aA x9.lo] (fr 18 8) [(25,vB (decide (x6<(x9.lo.length:Int))))] [] [] (aT h (fun c2 h=> ?_) (fun c2 h=> ?_))
  ·refine qk (qs (qb ?_))
   obtain⟨x10,hx10,h⟩:=bd h
   refine rq hC [oR aC hx9,oR aA hx10,.z (.nat 23)] [7,28,29,30,31,32,33,34,35] [(7,V.ref 23 0)] [(23,some (E.cells (aK x10)))] [(23,true)] ?_
   obtain⟨x11,hx11,x12,hx12,h⟩:=cP h
   exact dk hC bC [.z (.nat 24),oA (aP rI hx11),.z (.at 5),.z (.fz 24 [41] []),.z (.int 0),oQ (bT (r:=rI) 1 (fun _=>rfl) []),oQ (bT (r:=rI) 1 (fun _=>rfl) x10.coefs),oA (aP aA hx12),oQ (bT (r:=aA) 2 aU x5),oQ (bT (r:=aA) 2 aU [(⟨x11,x10.const⟩:Affine)])] (fr 36 12) [] [(24,none),(22,some (ar 63 (g7+1) 2 aA x12)),(21,sc [ms 22 (g7+1) 2 aA x12,V.t T.nilS])] [(24,true)] (rk hC [] [6,26,27] [(6,vI (wr (x6+1)))] [] [] ⟨(x12,wr (x6+1)),(g7+1),h,lS⟩)
  ·refine cT (qs (rq hC [] [8] [(8,vI 0)] [] [] (qb (qw (lk hC [.growc 21 1 23 63] [] [] [(23,some (ar 63 1 2 aA [])),(21,sc [ms 22 g7 2 aA x5,ms 23 1 2 aA []])] [(23,true)]) (bD (γ:=Nat) h (fun x_ g_=>aY [(0,vM aC nest),(3,ms 20 g3 2 aC x1),(4,vI x2),(5,V.ref 21 0),(8,vI x_.2)] [(20,E.tree mT 0 g3 (List.map aC x1) []),(21,E.cells [ms 22 g7 2 aA x5,ms 23 g_ 2 aA x_.1]),(22,ar 63 g7 2 aA x5),(23,ar 63 g_ 2 aA x_.1)] [20,21,22,23]) 1 (lS) ?_)))))
   rintro again16 ⟨x13,x14⟩ g15 h
   refine qs (rq hC [oR aC hx9,oN aA x9.hi] (fr 48 8) [(55,vB (decide (x14<(x9.hi.length:Int))))] [] [] (aT h (fun c3 h=> ?_) (fun c3 h=> ?_)))
   ·refine qk (qs (qb ?_))
    obtain⟨x17,hx17,h⟩:=bd h
    refine rq hC [oR aC hx9,oR aA hx17,.z (.nat 24)] [9,58,59,60,61,62,63,64,65] [(9,V.ref 24 0)] [(24,some (E.cells (aK x17)))] [(24,true)] ?_
    obtain⟨x18,hx18,x19,hx19,h⟩:=cP h
    exact dk hC bC [.z (.nat 25),oA (aP rI hx18),.z (.at 5),.z (.fz 25 [71] []),.z (.int 0),oQ (bT (r:=rI) 1 (fun _=>rfl) []),oQ (bT (r:=rI) 1 (fun _=>rfl) x17.coefs),oA (aP aA hx19),oQ (bT (r:=aA) 2 aU x13),oQ (bT (r:=aA) 2 aU [(⟨x18,x17.const⟩:Affine)])] (fr 66 12) [] [(25,none),(23,some (ar 63 (g15+1) 2 aA x19)),(21,sc [ms 22 g7 2 aA x5,ms 23 (g15+1) 2 aA x19])] [(25,true)] (rk hC [] [8,56,57] [(8,vI (wr (x14+1)))] [] [] ⟨(x19,wr (x14+1)),(g15+1),h,lS⟩)
   ·refine cT ?_
    obtain⟨x20,hx20,h⟩:=bd h
    exact rk hC [.z (.lt 24 mT 0),.z (.rows (List.map aC (x1++[(⟨[],[]⟩:Loop)]))),.z (.at 1),.z (.tre 22 mT 1),.z (.unf 20 22 (aC (⟨[],[]⟩:Loop)) (List.map aC (x1++[(⟨x5,[]⟩:Loop)]))),.z (.tre 23 mT 1),.z (.unf 20 23 (aC (⟨x5,[]⟩:Loop)) (List.map aC x20)),.z (.len 81 (List.map aC x20).length),oQ (Eq.refl (ndOf mT 0)),oQ (aHf aC (⟨[],[]⟩:Loop) hx20),oQ (bT (r:=aC) 2 b9 x1),oQ (bT (r:=aC) 2 b9 [(⟨[],[]⟩:Loop)]),oQ (Eq.refl (List.map aA x5).length),oQ (Eq.refl mT),oQ (Z8 aC x1 (⟨[],[]⟩:Loop)),oQ (aFW aC x1 (ph:=(⟨[],[]⟩:Loop)) (y:=(⟨x5,[]⟩:Loop)) rfl),oQ (Eq.refl (List.map aA x13).length),oQ (Eq.refl mT),oQ (Z8 aC x1 (⟨x5,[]⟩:Loop)),oQ (aBh aC (ph:=(⟨x5,[]⟩:Loop)) hx20 rfl),oQ (aGf aC (⟨[],[]⟩:Loop) hx20)] [3,78,79,80,81] [(3,ms 20 (g3+1) 2 aC x20)] [(24,some (E.tree mT 0 1 (List.map aC [(⟨[],[]⟩:Loop)]) [(0,0,ms 22 g7 2 aA x5),(0,1,ms 23 g15 2 aA x13)])),(20,some (E.tree mT 0 (g3+1) (List.map aC x20) [])),(22,none),(23,none)] [(24,true)] (rk hC [] [4,15,16] [(4,vI (wr (x2+1)))] [] [] ⟨(x20,wr (x2+1)),(g3+1),h,lS⟩)
 ·obtain rfl:=so h
  exact cT (rq hC [] [2,82] [(2,ms 20 g3 2 aC x1)] [] [] (qw (lk hC [.rn 20 0 [2,3] []] [2,3] [(2,ms 0 1 2 aC x1),(3,ms 0 1 2 aC x1)] [(20,none),(0,some (E.tree mT 0 1 (List.map aC x1) []))] [(0,true)]) (qr eW)))
theorem O6(G:GS): ∀(n:Nat) (e:Expr) {r:Expr} (h:s_l3CopyExpr n e=some r),VQ G 237 [] [V.agg (cQ e)] (V.agg [vI r.kind,vI r.num,ms 0 1 1 rI r.index.coefs,vI r.index.const,vS r.read.array,ms 1 1 2 aA r.read.subs,ms 2 1 7 aI r.kids]) [ar 3 1 1 rI r.index.coefs,ar 63 1 2 aA r.read.subs,ar 84 1 7 aI r.kids]:=by
 intro n
 induction n with
 |zero=>intro e r h;rw [s_l3CopyExpr.eq_def] at h;cases h
 |succ n ih=>
  intro e r h
  rw [s_l3CopyExpr.eq_def] at h;dsimp only at h
  refine vq aO Tryz.func237 rfl fun w X β0 hC hg=> ?_
  refine rq hC [.z (.b (true)),.z (.nat 20)] [1,2] [(1,V.tp (fA e)),(2,V.ref 20 0)] [(20,sc [vI 0,vI 0,V.t T.nilS,vI 0,vS [],V.t T.nilS,V.t T.nilS])] [(20,true)] (qs ?_)
  obtain⟨x1,hx1,x2,hx2,h⟩:=cP h
  refine dk hC bC [oC [] [21] (l7 G hx1),oC [] [22] (l8 G hx2),.z (.nat 23)] [3,5,6,7,8,9,10,11,12,13,14,15] [(3,V.ref 23 0)] [(21,some (ar 3 1 1 rI x1.coefs)),(22,some (ar 63 1 2 aA x2.subs)),(23,sc [vI e.kind,vI e.num,ms 21 1 1 rI x1.coefs,vI x1.const,vS x2.array,ms 22 1 2 aA x2.subs,V.t T.nilS])] [(21,true),(22,true),(23,true)] (qs (rq hC [] [4] [(4,vI 0)] [] [] (qb (qw (lk hC [.growc 23 6 24 84] [] [] [(24,some (ar 84 1 7 aI [])),(23,sc [vI e.kind,vI e.num,ms 21 1 1 rI x1.coefs,vI x1.const,vS x2.array,ms 22 1 2 aA x2.subs,ms 24 1 7 aI []])] [(24,true)]) (bD (γ:=Nat) h (fun x_ g_=>aY [(1,V.tp (fA e)),(2,V.ref 20 0),(3,V.ref 23 0),(4,vI x_.2)] [(20,E.cells [vI 0,vI 0,V.t T.nilS,vI 0,vS [],V.t T.nilS,V.t T.nilS]),(21,ar 3 1 1 rI x1.coefs),(22,ar 63 1 2 aA x2.subs),(23,E.cells [vI e.kind,vI e.num,ms 21 1 1 rI x1.coefs,vI x1.const,vS x2.array,ms 22 1 2 aA x2.subs,ms 24 g_ 7 aI x_.1]),(24,ar 84 g_ 7 aI x_.1)] [20,21,22,23,24]) 1 (lS) ?_)))))
  rintro again6 ⟨x3,x4⟩ g5 h
  refine qs (rq hC [oN aI e.kids] (fr 16 5) [(20,vB (decide (x4<(e.kids.length:Int))))] [] [] (aT h (fun c1 h=> ?_) (fun c1 h=> ?_)))
  ·refine qk (qs (qb ?_))
   obtain⟨x7,hx7,x8,hx8,x9,hx9,h⟩:=kG h
   exact dk hC bC [.z (.row (d5 x7)),oQ (eS aI hx7 (cM x7)),oC [] [25,26,27] (ih x7 hx8),.z (.at 4),.z (.fz 25 [30] []),.z (.at 4),.z (.fz 26 [30] []),.z (.at 4),.z (.fz 27 [30] []),.z (.int 2),.z (.rows (List.map aI [x8])),oQ (rV x8),oA (aP aI hx9),oQ (bT (r:=aI) 7 dX x3),oQ (bT (r:=aI) 7 dX [x8])] (fr 23 11) [] [(25,none),(26,none),(27,none),(24,some (ar 84 (g5+1) 7 aI x9)),(23,sc [vI e.kind,vI e.num,ms 21 1 1 rI x1.coefs,vI x1.const,vS x2.array,ms 22 1 2 aA x2.subs,ms 24 (g5+1) 7 aI x9])] [(25,true),(26,true),(27,true)] (rk hC [] [4,21,22] [(4,vI (wr (x4+1)))] [] [] ⟨(x9,wr (x4+1)),(g5+1),h,lS⟩)
  ·obtain rfl:=so h
   exact cT (rq hC [] [34] [] [(20,sc [vI e.kind,vI e.num,ms 21 1 1 rI x1.coefs,vI x1.const,vS x2.array,ms 22 1 2 aA x2.subs,ms 24 g5 7 aI x3])] [] (qw (lk hC [.rn 21 0 [] [20,23]] [] [] [(20,sc [vI e.kind,vI e.num,ms 0 1 1 rI x1.coefs,vI x1.const,vS x2.array,ms 22 1 2 aA x2.subs,ms 24 g5 7 aI x3]),(23,sc [vI e.kind,vI e.num,ms 0 1 1 rI x1.coefs,vI x1.const,vS x2.array,ms 22 1 2 aA x2.subs,ms 24 g5 7 aI x3]),(21,none),(0,some (ar 3 1 1 rI x1.coefs))] [(0,true)]) (qw (lk hC [.rn 22 1 [] [20,23]] [] [] [(20,sc [vI e.kind,vI e.num,ms 0 1 1 rI x1.coefs,vI x1.const,vS x2.array,ms 1 1 2 aA x2.subs,ms 24 g5 7 aI x3]),(23,sc [vI e.kind,vI e.num,ms 0 1 1 rI x1.coefs,vI x1.const,vS x2.array,ms 1 1 2 aA x2.subs,ms 24 g5 7 aI x3]),(22,none),(1,some (ar 63 1 2 aA x2.subs))] [(1,true)]) (qw (lk hC [.rn 24 2 [] [20,23]] [] [] [(20,sc [vI e.kind,vI e.num,ms 0 1 1 rI x1.coefs,vI x1.const,vS x2.array,ms 1 1 2 aA x2.subs,ms 2 1 7 aI x3]),(23,sc [vI e.kind,vI e.num,ms 0 1 1 rI x1.coefs,vI x1.const,vS x2.array,ms 1 1 2 aA x2.subs,ms 2 1 7 aI x3]),(24,none),(2,some (ar 84 1 7 aI x3))] [(2,true)]) (qr eW)))))
theorem O7{s}{r}(h:mJ n s=some r):VQ G 189 [] [V.agg (cO s)] (V.agg [vS r.write.array,ms 0 1 2 aA r.write.subs,vI r.value.kind,vI r.value.num,ms 1 1 1 rI r.value.index.coefs,vI r.value.index.const,vS r.value.read.array,ms 2 1 2 aA r.value.read.subs,ms 3 1 7 aI r.value.kids]) [ar 63 1 2 aA r.write.subs,ar 3 1 1 rI r.value.index.coefs,ar 63 1 2 aA r.value.read.subs,ar 84 1 7 aI r.value.kids]:=by
 unfold mJ at h
 refine vq aO Tryz.func189 rfl fun w X β0 hC hg=> ?_
 refine rq hC [.z (.b (true)),.z (.nat 20)] [1,2] [(1,V.tp (n6 s)),(2,V.ref 20 0)] [(20,sc [vS [],V.t T.nilS,vI 0,vI 0,V.t T.nilS,vI 0,vS [],V.t T.nilS,V.t T.nilS])] [(20,true)] (qs ?_)
 obtain⟨x1,hx1,x2,hx2,h⟩:=cP h
 obtain rfl:=so h
 exact dk hC bC [oC [] [21] (l8 G hx1),oC [] [22,23,24] (O6 G n s.value hx2)] (fr 3 7) [] [(21,some (ar 63 1 2 aA x1.subs)),(22,some (ar 3 1 1 rI x2.index.coefs)),(23,some (ar 63 1 2 aA x2.read.subs)),(24,some (ar 84 1 7 aI x2.kids)),(20,sc [vS x1.array,ms 21 1 2 aA x1.subs,vI x2.kind,vI x2.num,ms 22 1 1 rI x2.index.coefs,vI x2.index.const,vS x2.read.array,ms 23 1 2 aA x2.read.subs,ms 24 1 7 aI x2.kids])] [(21,true),(22,true),(23,true),(24,true)] (qw (lk hC [.rn 21 0 [] [20]] [] [] [(20,sc [vS x1.array,ms 0 1 2 aA x1.subs,vI x2.kind,vI x2.num,ms 22 1 1 rI x2.index.coefs,vI x2.index.const,vS x2.read.array,ms 23 1 2 aA x2.read.subs,ms 24 1 7 aI x2.kids]),(21,none),(0,some (ar 63 1 2 aA x1.subs))] [(0,true)]) (qw (lk hC [.rn 22 1 [] [20]] [] [] [(20,sc [vS x1.array,ms 0 1 2 aA x1.subs,vI x2.kind,vI x2.num,ms 1 1 1 rI x2.index.coefs,vI x2.index.const,vS x2.read.array,ms 23 1 2 aA x2.read.subs,ms 24 1 7 aI x2.kids]),(22,none),(1,some (ar 3 1 1 rI x2.index.coefs))] [(1,true)]) (qw (lk hC [.rn 23 2 [] [20]] [] [] [(20,sc [vS x1.array,ms 0 1 2 aA x1.subs,vI x2.kind,vI x2.num,ms 1 1 1 rI x2.index.coefs,vI x2.index.const,vS x2.read.array,ms 2 1 2 aA x2.read.subs,ms 24 1 7 aI x2.kids]),(23,none),(2,some (ar 63 1 2 aA x2.read.subs))] [(2,true)]) (qw (lk hC [.rn 24 3 [] [20]] [] [] [(20,sc [vS x1.array,ms 0 1 2 aA x1.subs,vI x2.kind,vI x2.num,ms 1 1 1 rI x2.index.coefs,vI x2.index.const,vS x2.read.array,ms 2 1 2 aA x2.read.subs,ms 3 1 7 aI x2.kids]),(24,none),(3,some (ar 84 1 7 aI x2.kids))] [(3,true)]) (qr eW)))))
theorem wM{p}{r}(h:oD n p=some r):VQ G 125 [] [V.agg (bH p)] (V.agg [ms 0 1 2 aJ r.arrays,ms 1 1 2 aD r.parts]) [ar 76 1 2 aJ r.arrays,E.tree mT 2 1 (List.map aD r.parts) []]:=by
 unfold oD at h
 refine vq aO Tryz.func125 rfl fun w X β0 hC hg=> ?_
 refine rq hC [.z (.b (true)),.z (.nat 20)] [1,2] [(1,V.tp (bL p)),(2,V.ref 20 0)] [(20,sc [V.t T.nilS,V.t T.nilS])] [(20,true)] (rq hC [.z (.nat 21)] [3,8] [(3,V.ref 21 0)] [(21,sc [V.t T.nilS,V.t T.nilS])] [(21,true)] (qs (rq hC [] [4] [(4,vI 0)] [] [] (qb (qw (lk hC [.growc 21 0 22 76] [] [] [(22,some (ar 76 1 2 aJ [])),(21,sc [ms 22 1 2 aJ [],V.t T.nilS])] [(22,true)]) ?_)))))
 refine bD (γ:=Nat) h (fun x_ g_=>aY [(1,V.tp (bL p)),(2,V.ref 20 0),(3,V.ref 21 0),(4,vI x_.2)] [(20,E.cells [V.t T.nilS,V.t T.nilS]),(21,E.cells [ms 22 g_ 2 aJ x_.1,V.t T.nilS]),(22,ar 76 g_ 2 aJ x_.1)] [20,21,22]) 1 (lS) ?_
 rintro again4 ⟨x1,x2⟩ g3 h
 refine qs (rq hC [oN aJ p.arrays] (fr 9 5) [(13,vB (decide (x2<(p.arrays.length:Int))))] [] [] (aT h (fun c1 h=> ?_) (fun c1 h=> ?_)))
 ·refine qk (qs (qb ?_))
  obtain⟨x5,hx5,x6,hx6,x7,hx7,h⟩:=kG h
  exact dk hC bC [oR aJ hx5,.z (.nat 23),oR aJ hx5,oA (aP rI hx6),.z (.at 5),.z (.fz 23 [31] []),.z (.int 0),oQ (bT (r:=rI) 1 (fun _=>rfl) []),oQ (bT (r:=rI) 1 (fun _=>rfl) x5.dims),oA (aP aJ hx7),oQ (bT (r:=aJ) 2 gQ x1),oQ (bT (r:=aJ) 2 gQ [(⟨x5.name,x6⟩:Arr)])] (fr 16 20) [] [(23,none),(22,some (ar 76 (g3+1) 2 aJ x7)),(21,sc [ms 22 (g3+1) 2 aJ x7,V.t T.nilS])] [(23,true)] (rk hC [] [4,14,15] [(4,vI (wr (x2+1)))] [] [] ⟨(x7,wr (x2+1)),(g3+1),h,lS⟩)
 ·refine cT (qs (rq hC [] [5] [(5,vI 0)] [] [] (qb (qw (lk hC [.growc 21 1 23 60,.tre 23 mT 2] [] [] [(23,some (E.tree mT 2 1 (List.map aD []) [])),(21,sc [ms 22 g3 2 aJ x1,ms 23 1 2 aD []])] [(23,true)]) (bD (γ:=Nat) h (fun x_ g_=>aY [(1,V.tp (bL p)),(2,V.ref 20 0),(3,V.ref 21 0),(5,vI x_.2)] [(20,E.cells [V.t T.nilS,V.t T.nilS]),(21,E.cells [ms 22 g3 2 aJ x1,ms 23 g_ 2 aD x_.1]),(22,ar 76 g3 2 aJ x1),(23,E.tree mT 2 g_ (List.map aD x_.1) [])] [20,21,22,23]) 1 (lS) ?_)))))
  rintro again11 ⟨x8,x9⟩ g10 h
  refine qs (rq hC [oN aD p.parts] (fr 36 5) [(40,vB (decide (x9<(p.parts.length:Int))))] [] [] (aT h (fun c2 h=> ?_) (fun c2 h=> ?_)))
  ·refine qk (qs (qb ?_))
   obtain⟨x12,hx12,x13,hx13,h⟩:=cP h
   refine rq hC [oR aD hx12,oC [] [24] (O8 G hx13),.z (.nat 25)] [6,43,44,45,46,47,48,49,50] [(6,V.ref 25 0)] [(24,some (E.tree mT 0 1 (List.map aC x13) [])),(25,sc [ms 24 1 2 aC x13,V.t T.nilS])] [(24,true),(25,true)] (qs (rq hC [] [7] [(7,vI 0)] [] [] (qb (qw (lk hC [.growc 25 1 26 86] [] [] [(26,some (ar 86 1 9 aG [])),(25,sc [ms 24 1 2 aC x13,ms 26 1 9 aG []])] [(26,true)]) (bD (γ:=Nat) h (fun x_ g_=>aY [(1,V.tp (bL p)),(2,V.ref 20 0),(3,V.ref 21 0),(5,vI x9),(6,V.ref 25 0),(7,vI x_.2)] [(20,E.cells [V.t T.nilS,V.t T.nilS]),(21,E.cells [ms 22 g3 2 aJ x1,ms 23 g10 2 aD x8]),(22,ar 76 g3 2 aJ x1),(23,E.tree mT 2 g10 (List.map aD x8) []),(24,E.tree mT 0 1 (List.map aC x13) []),(25,E.cells [ms 24 1 2 aC x13,ms 26 g_ 9 aG x_.1]),(26,ar 86 g_ 9 aG x_.1)] [20,21,22,23,24,25,26]) 1 (lS) ?_)))))
   rintro again17 ⟨x14,x15⟩ g16 h
   refine qs (rq hC [oR aD hx12,oN aG x12.body] (fr 51 9) [(59,vB (decide (x15<(x12.body.length:Int))))] [] [] (aT h (fun c3 h=> ?_) (fun c3 h=> ?_)))
   ·refine qk (qs (qb ?_))
    obtain⟨x18,hx18,x19,hx19,x20,hx20,h⟩:=kG h
    exact dk hC bC [oR aD hx12,oR aG hx18,oC [] [27,28,29,30] (O7 G hx19),.z (.at 4),.z (.fz 27 [73] []),.z (.at 4),.z (.fz 28 [73] []),.z (.at 4),.z (.fz 29 [73] []),.z (.at 4),.z (.fz 30 [73] []),.z (.int 0),oA (aP aG hx20),oQ (bT (r:=aG) 9 dW x14),oQ (bT (r:=aG) 9 dW [x19])] (fr 62 15) [] [(27,none),(28,none),(29,none),(30,none),(26,some (ar 86 (g16+1) 9 aG x20)),(25,sc [ms 24 1 2 aC x13,ms 26 (g16+1) 9 aG x20])] [(27,true),(28,true),(29,true),(30,true)] (rk hC [] [7,60,61] [(7,vI (wr (x15+1)))] [] [] ⟨(x20,wr (x15+1)),(g16+1),h,lS⟩)
   ·refine cT ?_
    obtain⟨x21,hx21,h⟩:=bd h
    exact rk hC [.z (.at 5),.z (.shd 24),.z (.at 5),.z (.fz 24 [] [25]),.z (.lt 27 mT 2),.z (.rows (List.map aD (x8++[(⟨x13,[]⟩:Part)]))),.z (.at 2),.z (.tre 26 mT 3),.z (.unf 23 26 (aD (⟨x13,[]⟩:Part)) (List.map aD x21)),.z (.len 81 (List.map aD x21).length),oQ (Eq.refl (ndOf mT 2)),oQ (aHf aD (⟨x13,[]⟩:Part) hx21),oQ (bT (r:=aD) 2 b8 x8),oQ (bT (r:=aD) 2 b8 [(⟨x13,[]⟩:Part)]),oQ (Eq.refl (List.map aG x14).length),oQ (Eq.refl mT),oQ (Z8 aD x8 (⟨x13,[]⟩:Part)),oQ (aBh aD (ph:=(⟨x13,[]⟩:Part)) hx21 rfl),oQ (aGf aD (⟨x13,[]⟩:Part) hx21)] (fr 77 6) [] [(24,none),(25,sc [vM aC x13,ms 26 g16 9 aG x14]),(27,some (E.tree mT 2 1 (List.map aD [(⟨x13,[]⟩:Part)]) [(0,1,ms 26 g16 9 aG x14)])),(23,some (E.tree mT 2 (g10+1) (List.map aD x21) [])),(26,none),(21,sc [ms 22 g3 2 aJ x1,ms 23 (g10+1) 2 aD x21])] [(27,true)] (rk hC [] [5,41,42] [(5,vI (wr (x9+1)))] [] [] ⟨(x21,wr (x9+1)),(g10+1),h,lS⟩)
  ·obtain rfl:=so h
   exact cT (rq hC [] [83] [] [(20,sc [ms 22 g3 2 aJ x1,ms 23 g10 2 aD x8])] [] (qw (lk hC [.rn 22 0 [] [20,21]] [] [] [(20,sc [ms 0 1 2 aJ x1,ms 23 g10 2 aD x8]),(21,sc [ms 0 1 2 aJ x1,ms 23 g10 2 aD x8]),(22,none),(0,some (ar 76 1 2 aJ x1))] [(0,true)]) (qw (lk hC [.rn 23 1 [] [20,21]] [] [] [(20,sc [ms 0 1 2 aJ x1,ms 1 1 2 aD x8]),(21,sc [ms 0 1 2 aJ x1,ms 1 1 2 aD x8]),(23,none),(1,some (E.tree mT 2 1 (List.map aD x8) []))] [(1,true)]) (qr eW))))
theorem aDj{p}{part}{many}{parts}{r}(h:sZ n p part many parts=some r):PQ G 62 [V.agg (bH p),vI part,vI many,vM aD parts] (V.tup [V.agg (bH r.1),vB r.2]):=by
 unfold sZ at h
 refine pq aO Tryz.func62 rfl fun w X hC=> ?_
 refine rq hC [.z (.b (true)),.z (.nat 20)] [4,8,9] [(4,V.tp (bL p)),(8,V.ref 20 0)] [(20,sc [V.t T.nilS,V.t T.nilS])] [(20,true)] ?_
 obtain⟨x1,hx1,h⟩:=bd h
 refine rq hC [oC [] [21,22] (wM G hx1),.z (.nat 23)] [10,12,13] [(10,V.ref 23 0)] [(21,some (ar 76 1 2 aJ x1.arrays)),(22,some (E.tree mT 2 1 (List.map aD x1.parts) [])),(23,sc [ms 21 1 2 aJ x1.arrays,ms 22 1 2 aD x1.parts])] [(21,true),(22,true),(23,true)] (rq hC [.z (.nat 24)] [11,14,15,16] [(11,V.ref 24 0)] [(24,sc [ms 21 1 2 aJ x1.arrays,V.t T.nilS])] [(24,true)] (qs (qw (lk hC [.shd 22,.fz 22 [] [23]] [] [] [(22,none),(23,sc [ms 21 1 2 aJ x1.arrays,vM aD x1.parts])] []) ?_)))
 obtain⟨x2,hx2,x3,hx3,x4,hx4,h⟩:=kG h
 obtain⟨x5,hx5,x6,hx6,h⟩:=cP h
 refine dk hC bC [.z (.nat 25),oA (uG aD hx2),oQ (bT (r:=aD) 2 b8 x1.parts),oA (aP aD hx3),oQ (bT (r:=aD) 2 b8 []),oQ (bT (r:=aD) 2 b8 x2),oA (aP aD hx4),oQ (bT (r:=aD) 2 b8 x3),oQ (bT (r:=aD) 2 b8 parts),oA (aFP aD hx5),oQ (bT (r:=aD) 2 b8 x1.parts),oA (aP aD hx6),oQ (bT (r:=aD) 2 b8 x4),oQ (bT (r:=aD) 2 b8 x5)] (fr 17 16) [] [(25,some (ar 60 4 2 aD x6)),(24,sc [ms 21 1 2 aJ x1.arrays,ms 25 4 2 aD x6])] [(25,true)] (qs ?_)
 obtain⟨x7,hx7,h⟩:=bd h
 refine rq hC [.z (.at 3),.z (.fz 21 [] [23,24]),.z (.at 3),.z (.fz 25 [] [24]),oV (cY G hx7)] [33,34,35] [(35,vB (!x7))] [(23,some (E.cells (bH x1))),(24,sc [vM aJ x1.arrays,vM aD x6]),(21,none),(25,none)] [] (aT h (fun c1 h=> ?_) (fun c1 h=> ?_))
 ·obtain rfl:=so h
  exact rq hC [] [9,36] [(9,vB false)] [(20,sc [V.t T.nilS,V.t T.nilS])] [] (qr eR)
 ·refine qk ?_
  obtain⟨x8,hx8,h⟩:=bd h
  obtain rfl:=so h
  exact rq hC [oC [] [26,27] (wM G hx8)] [9,37,38] [(9,vB true)] [(26,some (ar 76 1 2 aJ x8.arrays)),(27,some (E.tree mT 2 1 (List.map aD x8.parts) [])),(20,sc [ms 26 1 2 aJ x8.arrays,ms 27 1 2 aD x8.parts])] [(26,true),(27,true)] (qw (lk hC [.fz 26 [] [20]] [] [] [(20,sc [vM aJ x8.arrays,ms 27 1 2 aD x8.parts]),(26,none)] []) (qw (lk hC [.shd 27,.fz 27 [] [20]] [] [] [(27,none),(20,some (E.cells (bH x8)))] []) (qr eR)))
theorem aDk{a}{v}{r}(h:H2 n a v=some r):PQ G 286 [V.agg (aK a),vI v] (V.agg (aK r)):=by
 unfold H2 at h
 refine pq aO Tryz.func286 rfl fun w X hC=> ?_
 refine rq hC [.z (.b (true)),.z (.nat 20)] [2,4] [(2,V.tp (aQ a)),(4,V.ref 20 0)] [(20,sc [V.t T.nilS,vI 0])] [(20,true)] ?_
 obtain⟨x1,hx1,h⟩:=bd h
 refine rq hC [oC [] [21] (l7 G hx1),.z (.nat 22)] [5,6,7] [(5,V.ref 22 0)] [(21,some (ar 3 1 1 rI x1.coefs)),(22,sc [ms 21 1 1 rI x1.coefs,vI x1.const])] [(21,true),(22,true)] (qs ?_)
 obtain⟨x2,hx2,x3,hx3,x4,hx4,h⟩:=kG h
 refine dk hC bC [oR rI hx2,oQ (lM rI hx3),oX rI hx3,.z (.rows (List.map rI x4)),oQ (str rI hx4)] (fr 8 10) [] [(21,some (ar 3 1 1 rI x4))] [] (qw (zG hC [.lenc 22 0 (List.map rI x4).length] [] [] [(22,sc [ms 21 1 1 rI x4,vI x1.const])] [] (a1 (kH rI hx4)) (by kernel_rfl)) (qs ?_))
 obtain⟨x5,hx5,x6,hx6,x7,hx7,h⟩:=kG h
 obtain rfl:=so h
 exact dk hC bC [oR rI hx5,oQ (lM rI hx6),oX rI hx6,.z (.rows (List.map rI x7)),oQ (str rI hx7)] (fr 18 10) [] [(21,some (ar 3 1 1 rI x7))] [] (qw (zG hC [.lenc 22 0 (List.map rI x7).length] [] [] [(22,sc [ms 21 1 1 rI x7,vI x1.const])] [] (a1 (kH rI hx7)) (by kernel_rfl)) (rq hC [.z (.at 2),.z (.fz 21 [] [22])] [28] [] [(22,sc [vM rI x7,vI x1.const]),(21,none),(20,sc [vM rI x7,vI x1.const])] [] (qr eR)))
theorem fP{a}{x}{b}{y}{r}(h:bY n a x b y=some r):VQ G 78 [] [V.agg (aK a),vI x,V.agg (aK b),vI y] (V.agg [ms 0 1 1 rI r.coefs,vI r.const]) [ar 3 1 1 rI r.coefs]:=by
 unfold bY at h
 refine vq aO Tryz.func78 rfl fun w X β0 hC hg=> ?_
 refine rq hC [.z (.b (true)),.z (.b (true)),.z (.nat 20)] [4,6,8] [(4,V.tp (aQ a)),(6,V.tp (aQ b)),(8,V.ref 20 0)] [(20,sc [V.t T.nilS,vI 0])] [(20,true)] (rq hC [.z (.nat 21)] [9,11,12,13,14,15,16,17,18,19,20] [(9,V.ref 21 0)] [(21,sc [V.t T.nilS,vI (wr ((wr (x*a.const))+(wr (y*b.const))))])] [(21,true)] (qs (rq hC [] [10] [(10,vI 0)] [] [] (qb (qw (lk hC [.growc 21 0 22 3] [] [] [(22,some (ar 3 1 1 rI [])),(21,sc [ms 22 1 1 rI [],vI (wr ((wr (x*a.const))+(wr (y*b.const))))])] [(22,true)]) ?_)))))
 refine bD (γ:=Nat) h (fun x_ g_=>aY [(1,vI x),(3,vI y),(4,V.tp (aQ a)),(6,V.tp (aQ b)),(8,V.ref 20 0),(9,V.ref 21 0),(10,vI x_.2)] [(20,E.cells [V.t T.nilS,vI 0]),(21,E.cells [ms 22 g_ 1 rI x_.1,vI (wr ((wr (x*a.const))+(wr (y*b.const))))]),(22,ar 3 g_ 1 rI x_.1)] [20,21,22]) 1 (lS) ?_
 rintro again4 ⟨x1,x2⟩ g3 h
 refine qs (rq hC [] [21,22] [(22,vB (decide (x2<4)))] [] [] (aT h (fun c1 h=> ?_) (fun c1 h=> ?_)))
 ·refine qk (qs (qb ?_))
  obtain⟨x5,hx5,x6,hx6,x7,hx7,h⟩:=kG h
  exact dk hC bC [oR rI hx5,oR rI hx6,.z (.int 0),oA (aP rI hx7),oQ (bT (r:=rI) 1 (fun _=>rfl) x1),oQ (bT (r:=rI) 1 (fun _=>rfl) [wr ((wr (x*x5))+(wr (y*x6)))])] (fr 25 20) [] [(22,some (ar 3 (g3+1) 1 rI x7)),(21,sc [ms 22 (g3+1) 1 rI x7,vI (wr ((wr (x*a.const))+(wr (y*b.const))))])] [] (rk hC [] [10,23,24] [(10,vI (wr (x2+1)))] [] [] ⟨(x7,wr (x2+1)),(g3+1),h,lS⟩)
 ·obtain rfl:=so h
  exact cT (rq hC [] [45] [] [(20,sc [ms 22 g3 1 rI x1,vI (wr ((wr (x*a.const))+(wr (y*b.const))))])] [] (qw (lk hC [.rn 22 0 [] [20,21]] [] [] [(20,sc [ms 0 1 1 rI x1,vI (wr ((wr (x*a.const))+(wr (y*b.const))))]),(21,sc [ms 0 1 1 rI x1,vI (wr ((wr (x*a.const))+(wr (y*b.const))))]),(22,none),(0,some (ar 3 1 1 rI x1))] [(0,true)]) (qr eW)))
theorem aB0{a}{v}{b}{r}(h:qG n a v b=some r):PQ G 287 [V.agg (aK a),vI v,V.agg (aK b)] (V.agg (aK r)):=by
 unfold qG at h
 refine pq aO Tryz.func287 rfl fun w X hC=> ?_
 refine rq hC [.z (.b (true)),.z (.b (true)),.z (.nat 20)] [3,5,6] [(3,V.tp (aQ a)),(5,V.tp (aQ b)),(6,V.ref 20 0)] [(20,sc [V.t T.nilS,vI 0])] [(20,true)] (qs ?_)
 obtain⟨x1,hx1,h⟩:=bd h
 refine dk hC bC [.z (.nat 21),oA (aP rI hx1),.z (.nat 22),oQ (bT (r:=rI) 1 (fun _=>rfl) []),oQ (bT (r:=rI) 1 (fun _=>rfl) a.coefs)] (fr 7 8) [(7,V.ref 22 0)] [(21,some (ar 3 2 1 rI x1)),(22,sc [ms 21 2 1 rI x1,vI a.const])] [(21,true),(22,true)] ?_
 obtain⟨x2,hx2,x3,hx3,h⟩:=cP h
 refine rq hC [oQ (lM rI hx2),oX rI hx2,.z (.rows (List.map rI x3)),.z (.lenc 22 0 (List.map rI x3).length),oQ (str rI hx3),oQ (kH rI hx3)] (fr 15 4) [] [(21,some (ar 3 2 1 rI x3)),(22,sc [ms 21 2 1 rI x3,vI a.const])] [] (qs ?_)
 obtain⟨x4,hx4,x5,hx5,h⟩:=cP h
 obtain rfl:=so h
 exact dk hC bC [.z (.at 9),.z (.fz 21 [] [22]),oR rI hx4,oC [] [23] (fP G hx5)] (fr 19 8) [] [(22,sc [vM rI x3,vI a.const]),(21,none),(23,some (ar 3 1 1 rI x5.coefs)),(20,sc [ms 23 1 1 rI x5.coefs,vI x5.const])] [(23,true)] (qw (lk hC [.fz 23 [] [20]] [] [] [(20,some (E.cells (aK x5))),(23,none)] []) (qr eR))
theorem O1{a}{way}{v}{b}{r}(h:gO n a way v b=some r):PQ G 261 [V.agg (aK a),vI way,vI v,V.agg (aK b)] (V.agg (aK r)):=by
 unfold gO at h
 refine pq aO Tryz.func261 rfl fun w X hC=> ?_
 refine rq hC [.z (.b (true)),.z (.b (true)),.z (.nat 20)] [4,7,8] [(4,V.tp (aQ a)),(7,V.tp (aQ b)),(8,V.ref 20 0)] [(20,sc [V.t T.nilS,vI 0])] [(20,true)] (qs (rq hC [] [11] [(11,vI way)] [] [] (qb (rq hC [] [12,13] [(12,vB (decide (way=0)))] [] [] (aT h (fun c1 h=> ?_) (fun c1 h=> ?_))))))
 ·obtain⟨x1,hx1,h⟩:=bd h
  obtain rfl:=so h
  exact rq hC [oV (aDk G hx1)] [14,15,16] [] [(20,some (E.cells (aK x1)))] [] (qr eR)
 ·refine rq hC [] [17,18] [(17,vB (decide (way=1)))] [] [] (aT h (fun c2 h=> ?_) (fun c2 h=> ?_))
  ·obtain⟨x2,hx2,h⟩:=bd h
   obtain rfl:=so h
   exact rq hC [oV (aB0 G hx2)] (fr 19 4) [] [(20,some (E.cells (aK x2)))] [] (qr eR)
  ·refine qk (rq hC [.z (.nat 21)] [9,23,24,25] [(9,V.ref 21 0)] [(21,sc [V.t T.nilS,vI a.const])] [(21,true)] (qs (rq hC [] [10] [(10,vI 0)] [] [] (qb (qw (lk hC [.growc 21 0 22 3] [] [] [(22,some (ar 3 1 1 rI [])),(21,sc [ms 22 1 1 rI [],vI a.const])] [(22,true)]) ?_)))))
   refine bD (γ:=Nat) h (fun x_ g_=>aY [(2,vI v),(4,V.tp (aQ a)),(8,V.ref 20 0),(9,V.ref 21 0),(10,vI x_.2)] [(20,E.cells [V.t T.nilS,vI 0]),(21,E.cells [ms 22 g_ 1 rI x_.1,vI a.const]),(22,ar 3 g_ 1 rI x_.1)] [20,21,22]) 1 (lS) ?_
   rintro again6 ⟨x3,x4⟩ g5 h
   refine qs (rq hC [] [26,27] [(27,vB (decide (x4<4)))] [] [] (aT h (fun c3 h=> ?_) (fun c3 h=> ?_)))
   ·refine qk (vj h (fun x_=>aY [(2,vI v),(4,V.tp (aQ a)),(8,V.ref 20 0),(9,V.ref 21 0),(10,vI x4)] [(20,E.cells [V.t T.nilS,vI 0]),(21,E.cells [ms 22 (g5+1) 1 rI x_,vI a.const]),(22,ar 3 (g5+1) 1 rI x_)] [20,21,22]) (fun j7 h=> ?_) (fun x13 h=> ?_))
    ·
     refine qb (qb (rq hC [] (fr 41 4) [(41,vB (decide (x4<v)))] [] [] (aT h (fun c4 h=> ?_) (fun c4 h=> ?_))))
     ·obtain⟨x8,hx8,x9,hx9,h⟩:=cP h
      exact dk hC bC [oR rI hx8,.z (.int 0),oA (aP rI hx9),oQ (bT (r:=rI) 1 (fun _=>rfl) x3),oQ (bT (r:=rI) 1 (fun _=>rfl) [x8])] (fr 45 10) [] [(22,some (ar 3 (g5+1) 1 rI x9)),(21,sc [ms 22 (g5+1) 1 rI x9,vI a.const])] [] (lE h)
     ·refine rq hC [] (fr 55 4) [(55,vB (decide (x4=v)))] [] [] (aT h (fun c5 h=> ?_) (fun c5 h=> ?_))
      ·obtain⟨x10,hx10,h⟩:=bd h
       exact rk hC [.z (.int 0),oA (aP rI hx10),oQ (bT (r:=rI) 1 (fun _=>rfl) x3),oQ (bT (r:=rI) 1 (fun _=>rfl) [0])] (fr 59 5) [] [(22,some (ar 3 (g5+1) 1 rI x10)),(21,sc [ms 22 (g5+1) 1 rI x10,vI a.const])] [] (lE h)
      ·obtain⟨x11,hx11,x12,hx12,h⟩:=cP h
       exact dk hC bC [oR rI hx11,.z (.int 0),oA (aP rI hx12),oQ (bT (r:=rI) 1 (fun _=>rfl) x3),oQ (bT (r:=rI) 1 (fun _=>rfl) [x11])] (fr 30 11) [] [(22,some (ar 3 (g5+1) 1 rI x12)),(21,sc [ms 22 (g5+1) 1 rI x12,vI a.const])] [] (lE h)
    ·exact rk hC [] [10,28,29] [(10,vI (wr (x4+1)))] [] [] ⟨(x13,wr (x4+1)),(g5+1),h,lS⟩
   ·obtain rfl:=so h
    exact cT (rq hC [.z (.at 2),.z (.fz 22 [] [21])] [64] [] [(21,sc [vM rI x3,vI a.const]),(22,none),(20,sc [vM rI x3,vI a.const])] [] (qr eR))
theorem wK{list}{way}{v}{b}{r}(h:n8 n list way v b=some r):VQ G 226 [] [vM aA list,vI way,vI v,V.agg (aK b)] (ms 0 1 2 aA r) [ar 63 1 2 aA r]:=by
 unfold n8 at h
 refine vq aO Tryz.func226 rfl fun w X β0 hC hg=> ?_
 refine rq hC [.z (.b (true))] [7,8] [(7,V.tp (aQ b))] [] [] (rq hC [.z (.nat 20)] [9,11] [(9,ms 20 1 2 aA [])] [(20,some (ar 63 1 2 aA []))] [(20,true)] (qs (rq hC [] [10] [(10,vI 0)] [] [] (qb (bD (γ:=Nat) h (fun x_ g_=>aY [(0,vM aA list),(1,vI way),(2,vI v),(7,V.tp (aQ b)),(9,ms 20 g_ 2 aA x_.1),(10,vI x_.2)] [(20,ar 63 g_ 2 aA x_.1)] [20]) 1 (lS) ?_)))))
 rintro again4 ⟨x1,x2⟩ g3 h
 refine qs (rq hC [oN aA list] (fr 12 4) [(15,vB (decide (x2<(list.length:Int))))] [] [] (aT h (fun c1 h=> ?_) (fun c1 h=> ?_)))
 ·refine qk (qs (qb ?_))
  obtain⟨x5,hx5,x6,hx6,x7,hx7,h⟩:=kG h
  exact dk hC bC [oR aA hx5,oV (O1 G hx6),.z (.int 0),oA (aP aA hx7),oQ (bT (r:=aA) 2 aU x1),oQ (bT (r:=aA) 2 aU [x6])] [9,18,19,20,21,22,23,24,25,26,27,28] [(9,ms 20 (g3+1) 2 aA x7)] [(20,some (ar 63 (g3+1) 2 aA x7))] [] (rk hC [] [10,16,17] [(10,vI (wr (x2+1)))] [] [] ⟨(x7,wr (x2+1)),(g3+1),h,lS⟩)
 ·obtain rfl:=so h
  exact cT (rq hC [] [8,29] [(8,ms 20 g3 2 aA x1)] [] [] (qw (lk hC [.ren 8 20 0] [8] [(8,ms 0 1 2 aA x1)] [(0,some (ar 63 1 2 aA x1)),(20,none)] [(0,true)]) (qr eW)))
theorem yA{a}{way}{v}{b}{r}(h:jR n a way v b=some r):PQ G 224 [V.agg (cB a),vI way,vI v,V.agg (aK b)] (V.agg (cB r)):=by
 unfold jR at h
 refine pq aO Tryz.func224 rfl fun w X hC=> ?_
 refine rq hC [.z (.b (true)),.z (.b (true)),.z (.nat 20)] [4,7,8] [(4,V.tp (dO a)),(7,V.tp (aQ b)),(8,V.ref 20 0)] [(20,sc [vS [],V.t T.nilS])] [(20,true)] (qs ?_)
 obtain⟨x1,hx1,h⟩:=bd h
 obtain rfl:=so h
 exact dk hC bC [oC [] [21] (wK G hx1)] (fr 9 9) [] [(21,some (ar 63 1 2 aA x1)),(20,sc [vS a.array,ms 21 1 2 aA x1])] [(21,true)] (qw (lk hC [.fz 21 [] [20]] [] [] [(20,sc [vS a.array,vM aA x1]),(21,none)] []) (qr eR))
theorem aDn(G:GS): ∀(n:Nat) (e:Expr) (way:Int) (v:Int) (b:Affine) {r:Expr} (h:s_l8Expr n e way v b=some r),PQ G 225 [V.agg (cQ e),vI way,vI v,V.agg (aK b)] (V.agg (cQ r)):=by
 intro n
 induction n with
 |zero=>intro e way v b r h;rw [s_l8Expr.eq_def] at h;cases h
 |succ n ih=>
  intro e way v b r h
  rw [s_l8Expr.eq_def] at h;dsimp only at h
  refine pq aO Tryz.func225 rfl fun w X hC=> ?_
  refine rq hC [.z (.b (true)),.z (.b (true)),.z (.nat 20)] [4,7,8] [(4,V.tp (fA e)),(7,V.tp (aQ b)),(8,V.ref 20 0)] [(20,sc [vI 0,vI 0,V.t T.nilS,vI 0,vS [],V.t T.nilS,V.t T.nilS])] [(20,true)] (rq hC [.z (.nat 21)] [9,11,12,13,14,15] [(9,V.ref 21 0)] [(21,sc [vI e.kind,vI e.num,V.t T.nilS,vI 0,vS [],V.t T.nilS,V.t T.nilS])] [(21,true)] (vj h (fun x_=>aY [(1,vI way),(2,vI v),(4,V.tp (fA e)),(7,V.tp (aQ b)),(8,V.ref 20 0),(9,V.ref 21 0)] [(20,E.cells [vI 0,vI 0,V.t T.nilS,vI 0,vS [],V.t T.nilS,V.t T.nilS]),(21,E.cells [vI e.kind,vI e.num,vM rI x_.1,vI x_.2,vS [],V.t T.nilS,V.t T.nilS])] [20,21]) (fun j1 h=> ?_) ?_))
  ·
   refine rq hC [] [16,17,18] [(18,vB (decide (e.kind=2)))] [] [] (aT h (fun c1 h=> ?_) (fun c1 h=> ?_))
   ·obtain⟨x2,hx2,h⟩:=bd h
    exact rk hC [oV (O1 G hx2)] (fr 19 7) [] [(21,sc [vI e.kind,vI e.num,vM rI x2.coefs,vI x2.const,vS [],V.t T.nilS,V.t T.nilS])] [] (lE h)
   ·exact qk (lE h)
  ·rintro⟨x3,x4⟩ h
   refine vj h (fun x_=>aY [(1,vI way),(2,vI v),(4,V.tp (fA e)),(7,V.tp (aQ b)),(8,V.ref 20 0),(9,V.ref 21 0)] [(20,E.cells [vI 0,vI 0,V.t T.nilS,vI 0,vS [],V.t T.nilS,V.t T.nilS]),(21,E.cells [vI e.kind,vI e.num,vM rI x3,vI x4,vS x_.1,vM aA x_.2,V.t T.nilS])] [20,21]) (fun j5 h=> ?_) ?_
   ·
    refine rq hC [] [26,27,28] [(28,vB (decide (e.kind=3)))] [] [] (aT h (fun c2 h=> ?_) (fun c2 h=> ?_))
    ·obtain⟨x6,hx6,h⟩:=bd h
     exact rk hC [oV (yA G hx6)] (fr 29 7) [] [(21,sc [vI e.kind,vI e.num,vM rI x3,vI x4,vS x6.array,vM aA x6.subs,V.t T.nilS])] [] (lE h)
    ·exact qk (lE h)
   ·rintro⟨x7,x8⟩ h
    refine qs (rq hC [] [10] [(10,vI 0)] [] [] (qb (qw (lk hC [.growc 21 6 22 84] [] [] [(22,some (ar 84 1 7 aI [])),(21,sc [vI e.kind,vI e.num,vM rI x3,vI x4,vS x7,vM aA x8,ms 22 1 7 aI []])] [(22,true)]) (bD (γ:=Nat) h (fun x_ g_=>aY [(1,vI way),(2,vI v),(4,V.tp (fA e)),(7,V.tp (aQ b)),(8,V.ref 20 0),(9,V.ref 21 0),(10,vI x_.2)] [(20,E.cells [vI 0,vI 0,V.t T.nilS,vI 0,vS [],V.t T.nilS,V.t T.nilS]),(21,E.cells [vI e.kind,vI e.num,vM rI x3,vI x4,vS x7,vM aA x8,ms 22 g_ 7 aI x_.1]),(22,ar 84 g_ 7 aI x_.1)] [20,21,22]) 1 (lS) ?_))))
    rintro again12 ⟨x9,x10⟩ g11 h
    refine qs (rq hC [oN aI e.kids] (fr 36 5) [(40,vB (decide (x10<(e.kids.length:Int))))] [] [] (aT h (fun c3 h=> ?_) (fun c3 h=> ?_)))
    ·refine qk (qs (qb ?_))
     obtain⟨x13,hx13,x14,hx14,x15,hx15,h⟩:=kG h
     exact dk hC bC [.z (.row (d5 x13)),oQ (eS aI hx13 (cM x13)),oV (ih x13 way v b hx14),.z (.int 2),.z (.rows (List.map aI [x14])),oQ (rV x14),oA (aP aI hx15),oQ (bT (r:=aI) 7 dX x9),oQ (bT (r:=aI) 7 dX [x14])] (fr 43 14) [] [(22,some (ar 84 (g11+1) 7 aI x15)),(21,sc [vI e.kind,vI e.num,vM rI x3,vI x4,vS x7,vM aA x8,ms 22 (g11+1) 7 aI x15])] [] (rk hC [] [10,41,42] [(10,vI (wr (x10+1)))] [] [] ⟨(x15,wr (x10+1)),(g11+1),h,lS⟩)
    ·obtain rfl:=so h
     exact cT (rq hC [.z (.at 2),.z (.fz 22 [] [21])] [57] [] [(21,sc [vI e.kind,vI e.num,vM rI x3,vI x4,vS x7,vM aA x8,vM aI x9]),(22,none),(20,sc [vI e.kind,vI e.num,vM rI x3,vI x4,vS x7,vM aA x8,vM aI x9])] [] (qr eR))
theorem aDp{list}{way}{v}{b}{r}(h:tA n list way v b=some r):VQ G 170 [] [vM aG list,vI way,vI v,V.agg (aK b)] (ms 0 1 9 aG r) [ar 86 1 9 aG r]:=by
 unfold tA at h
 refine vq aO Tryz.func170 rfl fun w X β0 hC hg=> ?_
 refine rq hC [.z (.b (true))] [7,8] [(7,V.tp (aQ b))] [] [] (rq hC [.z (.nat 20)] [9,11] [(9,ms 20 1 9 aG [])] [(20,some (ar 86 1 9 aG []))] [(20,true)] (qs (rq hC [] [10] [(10,vI 0)] [] [] (qb (bD (γ:=Nat) h (fun x_ g_=>aY [(0,vM aG list),(1,vI way),(2,vI v),(7,V.tp (aQ b)),(9,ms 20 g_ 9 aG x_.1),(10,vI x_.2)] [(20,ar 86 g_ 9 aG x_.1)] [20]) 1 (lS) ?_)))))
 rintro again4 ⟨x1,x2⟩ g3 h
 refine qs (rq hC [oN aG list] (fr 12 4) [(15,vB (decide (x2<(list.length:Int))))] [] [] (aT h (fun c1 h=> ?_) (fun c1 h=> ?_)))
 ·refine qk (qs (qb ?_))
  obtain⟨x5,hx5,x6,hx6,x7,hx7,h⟩:=kG h
  obtain⟨x8,hx8,h⟩:=bd h
  exact dk hC bC [oR aG hx5,oV (yA G hx6),oR aG hx5,oV (aDn G n x5.value way v b hx7),.z (.int 0),oA (aP aG hx8),oQ (bT (r:=aG) 9 dW x1),oQ (bT (r:=aG) 9 dW [(⟨x6,x7⟩:Stmt)])] [9,18,19,20,21,22,23,24,25,26,27,28,29,30,31,32,33,34,35,36,37,38,39] [(9,ms 20 (g3+1) 9 aG x8)] [(20,some (ar 86 (g3+1) 9 aG x8))] [] (rk hC [] [10,16,17] [(10,vI (wr (x2+1)))] [] [] ⟨(x8,wr (x2+1)),(g3+1),h,lS⟩)
 ·obtain rfl:=so h
  exact cT (rq hC [] [8,40] [(8,ms 20 g3 9 aG x1)] [] [] (qw (lk hC [.ren 8 20 0] [8] [(8,ms 0 1 9 aG x1)] [(0,some (ar 86 1 9 aG x1)),(20,none)] [(0,true)]) (qr eW)))
theorem aDm{x}{way}{v}{b}{r}(h:qA n x way v b=some r):PQ G 171 [V.agg (jD x),vI way,vI v,V.agg (aK b)] (V.agg (jD r)):=by
 unfold qA at h
 refine pq aO Tryz.func171 rfl fun w X hC=> ?_
 refine rq hC [.z (.b (true)),.z (.b (true)),.z (.nat 20)] [4,7,8] [(4,V.tp (u5 x)),(7,V.tp (aQ b)),(8,V.ref 20 0)] [(20,sc [V.t T.nilS,V.t T.nilS])] [(20,true)] (qs ?_)
 obtain⟨x1,hx1,x2,hx2,h⟩:=cP h
 obtain rfl:=so h
 exact dk hC bC [oC [] [21] (wK G hx1),oC [] [22] (wK G hx2)] (fr 9 13) [] [(21,some (ar 63 1 2 aA x1)),(22,some (ar 63 1 2 aA x2)),(20,sc [ms 21 1 2 aA x1,ms 22 1 2 aA x2])] [(21,true),(22,true)] (qw (lk hC [.fz 21 [] [20]] [] [] [(20,sc [vM aA x1,ms 22 1 2 aA x2]),(21,none)] []) (qw (lk hC [.fz 22 [] [20]] [] [] [(20,sc [vM aA x1,vM aA x2]),(22,none)] []) (qr eR)))
theorem aBR{x}{after}{way}{v}{b}{r}(h:qB n x after way v b=some r):VQ G 109 [] [V.agg (lG x),vI after,vI way,vI v,V.agg (aK b)] (V.agg [ms 0 1 2 aC r.nest,ms 1 1 9 aG r.body]) [ar 56 1 2 aC r.nest,ar 86 1 9 aG r.body]:=by
 unfold qB at h
 refine vq aO Tryz.func109 rfl fun w X β0 hC hg=> ?_
 refine rq hC [.z (.b (true)),.z (.b (true)),.z (.nat 20)] [5,9,10] [(5,V.tp (jW x)),(9,V.tp (aQ b)),(10,V.ref 20 0)] [(20,sc [V.t T.nilS,V.t T.nilS])] [(20,true)] (qs ?_)
 obtain⟨x1,hx1,x2,hx2,x3,hx3,h⟩:=kG h
 refine dk hC bC [.z (.nat 21),oA (uG aC hx1),oQ (bT (r:=aC) 2 b9 x.nest),oA (aP aC hx2),oQ (bT (r:=aC) 2 b9 []),oQ (bT (r:=aC) 2 b9 x1),oC [] [22] (aDp G hx3),.z (.nat 23)] [11,13,14,15,16,17,18,19,20,21,22,23,24,25,26] [(11,V.ref 23 0)] [(21,some (ar 56 2 2 aC x2)),(22,some (ar 86 1 9 aG x3)),(23,sc [ms 21 2 2 aC x2,ms 22 1 9 aG x3])] [(21,true),(22,true),(23,true)] (qs (rq hC [] [12,27,28] [(12,vI (wr (after+1)))] [] [] (qb (bD (γ:=Nat) h (fun x_ g_=>aY [(2,vI way),(3,vI v),(5,V.tp (jW x)),(9,V.tp (aQ b)),(10,V.ref 20 0),(11,V.ref 23 0),(12,vI x_.2)] [(20,E.cells [V.t T.nilS,V.t T.nilS]),(21,ar 56 g_ 2 aC x_.1),(22,ar 86 1 9 aG x3),(23,E.cells [ms 21 g_ 2 aC x_.1,ms 22 1 9 aG x3])] [20,21,22,23]) 2 (lS) ?_))))
 rintro again7 ⟨x4,x5⟩ g6 h
 refine qs (rq hC [oN aC x.nest] (fr 29 5) [(33,vB (decide (x5<(x.nest.length:Int))))] [] [] (aT h (fun c1 h=> ?_) (fun c1 h=> ?_)))
 ·refine qk (qs (qb ?_))
  obtain⟨x8,hx8,x9,hx9,x10,hx10,h⟩:=kG h
  exact dk hC bC [oR aC hx8,oV (aDm G hx9),.z (.int 0),oA (aP aC hx10),oQ (bT (r:=aC) 2 b9 x4),oQ (bT (r:=aC) 2 b9 [x9])] (fr 36 14) [] [(21,some (ar 56 (g6+1) 2 aC x10)),(23,sc [ms 21 (g6+1) 2 aC x10,ms 22 1 9 aG x3])] [] (rk hC [] [12,34,35] [(12,vI (wr (x5+1)))] [] [] ⟨(x10,wr (x5+1)),(g6+1),h,lS⟩)
 ·obtain rfl:=so h
  exact cT (rq hC [] [50] [] [(20,sc [ms 21 g6 2 aC x4,ms 22 1 9 aG x3])] [] (qw (lk hC [.rn 21 0 [] [20,23]] [] [] [(20,sc [ms 0 1 2 aC x4,ms 22 1 9 aG x3]),(23,sc [ms 0 1 2 aC x4,ms 22 1 9 aG x3]),(21,none),(0,some (ar 56 1 2 aC x4))] [(0,true)]) (qw (lk hC [.rn 22 1 [] [20,23]] [] [] [(20,sc [ms 0 1 2 aC x4,ms 1 1 9 aG x3]),(23,sc [ms 0 1 2 aC x4,ms 1 1 9 aG x3]),(22,none),(1,some (ar 86 1 9 aG x3))] [(1,true)]) (qr eW))))
theorem mA{v}{r}(h:jN n v=some r):VQ G 79 [] [vI v] (V.agg [ms 0 1 1 rI r.coefs,vI r.const]) [ar 3 1 1 rI r.coefs]:=by
 unfold jN at h
 refine vq aO Tryz.func79 rfl fun w X β0 hC hg=> ?_
 refine rq hC [.z (.nat 20)] [2] [(2,V.ref 20 0)] [(20,sc [V.t T.nilS,vI 0])] [(20,true)] ?_
 obtain⟨x1,hx1,h⟩:=bd h
 refine rq hC [oC [] [21] (jV G n hx1),.z (.nat 22)] [3,4] [(3,V.ref 22 0)] [(21,some (ar 3 1 1 rI x1.coefs)),(22,sc [ms 21 1 1 rI x1.coefs,vI x1.const])] [(21,true),(22,true)] ?_
 obtain⟨x2,hx2,x3,hx3,h⟩:=cP h
 obtain rfl:=so h
 exact rq hC [oQ (lM rI hx2),oX rI hx2,.z (.rows (List.map rI x3)),.z (.lenc 22 0 (List.map rI x3).length),oQ (str rI hx3),oQ (kH rI hx3)] (fr 5 4) [] [(21,some (ar 3 1 1 rI x3)),(22,sc [ms 21 1 1 rI x3,vI x1.const])] [] (rq hC [] [9] [] [(20,sc [ms 21 1 1 rI x3,vI x1.const])] [] (qw (lk hC [.rn 21 0 [] [20,22]] [] [] [(20,sc [ms 0 1 1 rI x3,vI x1.const]),(22,sc [ms 0 1 1 rI x3,vI x1.const]),(21,none),(0,some (ar 3 1 1 rI x3))] [(0,true)]) (qr eW)))
theorem aDl{x}{loop}{by_a2}{r}(h:s8 n x loop by_a2=some r):PQ G 63 [V.agg (lG x),vI loop,V.agg (aK by_a2)] (V.agg (lG r)):=by
 unfold s8 at h
 refine pq aO Tryz.func63 rfl fun w X hC=> ?_
 refine rq hC [.z (.b (true)),.z (.b (true)),.z (.nat 20)] [3,5,6] [(3,V.tp (jW x)),(5,V.tp (aQ by_a2)),(6,V.ref 20 0)] [(20,sc [V.t T.nilS,V.t T.nilS])] [(20,true)] (qs ?_)
 obtain⟨x1,hx1,x2,hx2,h⟩:=cP h
 refine dk hC bC [oC [] [21] (mA G hx1),.z (.at 3),.z (.fz 21 [13] []),oC [] [22] (fP G hx2),.z (.nat 23)] [7,12,13,14,15] [(7,V.ref 23 0)] [(21,none),(22,some (ar 3 1 1 rI x2.coefs)),(23,sc [ms 22 1 1 rI x2.coefs,vI x2.const])] [(21,true),(22,true),(23,true)] ?_
 obtain⟨x3,hx3,h⟩:=bd h
 refine rq hC [.z (.at 4),.z (.fz 22 [] [23]),oC [] [24,25] (aBR G hx3),.z (.nat 26)] [8,16,17,18,19,20] [(8,V.ref 26 0)] [(23,some (E.cells (aK x2))),(22,none),(24,some (ar 56 1 2 aC x3.nest)),(25,some (ar 86 1 9 aG x3.body)),(26,sc [ms 24 1 2 aC x3.nest,ms 25 1 9 aG x3.body])] [(24,true),(25,true),(26,true)] (rq hC [.z (.nat 27)] [9,21] [(9,V.ref 27 0)] [(27,sc [V.t T.nilS,V.t T.nilS])] [(27,true)] (qs (rq hC [] [10] [(10,vI 0)] [] [] (qb (qw (lk hC [.growc 27 0 28 63] [] [] [(28,some (ar 63 1 2 aA [])),(27,sc [ms 28 1 2 aA [],V.t T.nilS])] [(28,true)]) ?_)))))
 refine bD (γ:=Nat) h (fun x_ g_=>aY [(1,vI loop),(3,V.tp (jW x)),(5,V.tp (aQ by_a2)),(6,V.ref 20 0),(8,V.ref 26 0),(9,V.ref 27 0),(10,vI x_.2)] [(20,E.cells [V.t T.nilS,V.t T.nilS]),(23,E.cells (aK x2)),(24,ar 56 1 2 aC x3.nest),(25,ar 86 1 9 aG x3.body),(26,E.cells [ms 24 1 2 aC x3.nest,ms 25 1 9 aG x3.body]),(27,E.cells [ms 28 g_ 2 aA x_.1,V.t T.nilS]),(28,ar 63 g_ 2 aA x_.1)] [20,21,22,23,24,25,26,27,28]) 1 (lS) ?_
 rintro again7 ⟨x4,x5⟩ g6 h
 refine qs ?_
 obtain⟨x8,hx8,h⟩:=bd h
 refine rq hC [oR aC hx8,oN aA x8.lo] (fr 22 9) [(30,vB (decide (x5<(x8.lo.length:Int))))] [] [] (aT h (fun c1 h=> ?_) (fun c1 h=> ?_))
 ·refine qk (qs (qb ?_))
  obtain⟨x9,hx9,x10,hx10,x11,hx11,h⟩:=kG h
  exact dk hC bC [oR aC hx8,oR aA hx9,oC [] [29] (fP G hx10),.z (.at 4),.z (.fz 29 [45] []),.z (.int 0),oA (aP aA hx11),oQ (bT (r:=aA) 2 aU x4),oQ (bT (r:=aA) 2 aU [x10])] (fr 33 16) [] [(29,none),(28,some (ar 63 (g6+1) 2 aA x11)),(27,sc [ms 28 (g6+1) 2 aA x11,V.t T.nilS])] [(29,true)] (rk hC [] [10,31,32] [(10,vI (wr (x5+1)))] [] [] ⟨(x11,wr (x5+1)),(g6+1),h,lS⟩)
 ·refine cT (qs (rq hC [] [11] [(11,vI 0)] [] [] (qb (qw (lk hC [.growc 27 1 29 63] [] [] [(29,some (ar 63 1 2 aA [])),(27,sc [ms 28 g6 2 aA x4,ms 29 1 2 aA []])] [(29,true)]) (bD (γ:=Nat) h (fun x_ g_=>aY [(1,vI loop),(3,V.tp (jW x)),(5,V.tp (aQ by_a2)),(6,V.ref 20 0),(8,V.ref 26 0),(9,V.ref 27 0),(11,vI x_.2)] [(20,E.cells [V.t T.nilS,V.t T.nilS]),(23,E.cells (aK x2)),(24,ar 56 1 2 aC x3.nest),(25,ar 86 1 9 aG x3.body),(26,E.cells [ms 24 1 2 aC x3.nest,ms 25 1 9 aG x3.body]),(27,E.cells [ms 28 g6 2 aA x4,ms 29 g_ 2 aA x_.1]),(28,ar 63 g6 2 aA x4),(29,ar 63 g_ 2 aA x_.1)] [20,21,22,23,24,25,26,27,28,29]) 1 (lS) ?_)))))
  rintro again15 ⟨x12,x13⟩ g14 h
  refine qs (rq hC [oR aC hx8,oN aA x8.hi] (fr 49 9) [(57,vB (decide (x13<(x8.hi.length:Int))))] [] [] (aT h (fun c2 h=> ?_) (fun c2 h=> ?_)))
  ·refine qk (qs (qb ?_))
   obtain⟨x16,hx16,x17,hx17,x18,hx18,h⟩:=kG h
   exact dk hC bC [oR aC hx8,oR aA hx16,oC [] [30] (fP G hx17),.z (.at 4),.z (.fz 30 [72] []),.z (.int 0),oA (aP aA hx18),oQ (bT (r:=aA) 2 aU x12),oQ (bT (r:=aA) 2 aU [x17])] (fr 60 16) [] [(30,none),(29,some (ar 63 (g14+1) 2 aA x18)),(27,sc [ms 28 g6 2 aA x4,ms 29 (g14+1) 2 aA x18])] [(30,true)] (rk hC [] [11,58,59] [(11,vI (wr (x13+1)))] [] [] ⟨(x18,wr (x13+1)),(g14+1),h,lS⟩)
  ·refine cT ?_
   obtain⟨x19,hx19,x20,hx20,h⟩:=cP h
   obtain rfl:=so h
   exact rq hC [.z (.at 3),.z (.fz 28 [] [27]),.z (.at 3),.z (.fz 29 [] [27]),oQ (lM aC hx19),oX aC hx19,.z (.rows (List.map aC x20)),.z (.lenc 26 0 (List.map aC x20).length),oQ (str aC hx20),oQ (kH aC hx20)] (fr 76 5) [] [(27,sc [vM aA x4,vM aA x12]),(28,none),(29,none),(24,some (ar 56 1 2 aC x20)),(26,sc [ms 24 1 2 aC x20,ms 25 1 9 aG x3.body])] [] (rq hC [.z (.at 2),.z (.fz 24 [] [26]),.z (.at 2),.z (.fz 25 [] [26])] [81] [] [(26,sc [vM aC x20,vM aG x3.body]),(24,none),(25,none),(20,sc [vM aC x20,vM aG x3.body])] [] (qr eR))
theorem wV(G:GS)(n:Nat)(s1:List Part)(s2:List Part)(eqF:FuncId)(eq:Part→Part→Option Bool)(heq: ∀(q0:Part) (q1:Part) r,eq q0 q1=some r→PQ G eqF [V.agg (lG q0),V.agg (lG q1)] (vB r)){r:Bool}(h:iS n s1 s2 eq=some r):PQ G 72 [vM aD s1,vM aD s2,V.fn eqF []] (vB r):=by
 unfold iS at h
 refine pq aO Tryz.func72 rfl fun w X hC=> ?_
 refine rq hC [] [6] [] [] [] (qs (rq hC [oN aD s1,oN aD s2] (fr 10 5) [(14,vB (!decide ((s1.length:Int)=(s2.length:Int))))] [] [] (aT h (fun c1 h=> ?_) (fun c1 h=> ?_))))
 ·obtain rfl:=so h
  exact rq hC [] [6] [(6,vB false)] [] [] (qr eR)
 ·refine qk (qs (rq hC [oN aD s1] [15,16,17] [(15,vM aD s1),(16,vI (s1.length:Int)),(17,vI 0)] [] [] (qb (jP h (fun x_=>aY [(1,vM aD s2),(2,V.fn eqF []),(15,vM aD s1),(16,vI (s1.length:Int)),(17,vI x_)] [] []) lS ?_))))
  rintro again2 x1 h
  refine rq hC [] [18] [(18,vB (decide (x1<(s1.length:Int))))] [] [] (qs (aT h (fun c2 h=> ?_) (fun c2 h=> ?_)))
  ·refine qk (qs (qb ?_))
   obtain⟨x3,hx3,h⟩:=bd h
   refine rq hC [oR aD hx3,.z (.nat 20)] [7,8,19,20,21] [(7,vI x1),(8,V.ref 20 0)] [(20,some (E.cells (lG x3)))] [(20,true)] ?_
   obtain⟨x4,hx4,h⟩:=bd h
   refine rq hC [oR aD hx4,.z (.nat 21)] [9,22,23,24,25] [(9,V.ref 21 0)] [(21,some (E.cells (lG x4)))] [(21,true)] ?_
   obtain⟨x5,hx5,h⟩:=bd h
   refine rq hC [oV (heq x3 x4 _ hx5)] (fr 26 5) [(30,vB (!x5))] [] [] (aT h (fun c3 h=> ?_) (fun c3 h=> ?_))
   ·obtain rfl:=so h
    exact rq hC [] [6] [(6,vB false)] [] [] (qr eR)
   ·exact qk (rk hC [] [17,31] [(17,vI (wr (x1+1)))] [] [] (lE h))
  ·obtain rfl:=so h
   exact cT (rq hC [] [6] [(6,vB true)] [] [] (qr eR))
theorem pU{s1}{s2}{r}(h:jZ n s1 s2=some r):PQ G 66 [vM rI s1,vM rI s2] (vB r):=by
 unfold jZ at h
 refine pq aO Tryz.func66 rfl fun w X hC=> ?_
 refine rq hC [] [4] [] [] [] (qs (rq hC [oN rI s1,oN rI s2] (fr 6 5) [(10,vB (!decide ((s1.length:Int)=(s2.length:Int))))] [] [] (aT h (fun c1 h=> ?_) (fun c1 h=> ?_))))
 ·obtain rfl:=so h
  exact rq hC [] [4] [(4,vB false)] [] [] (qr eR)
 ·refine qk (qs (rq hC [oN rI s1] [11,12,13] [(12,vI (s1.length:Int)),(13,vI 0)] [] [] (qb (jP h (fun x_=>aY [(0,vM rI s1),(1,vM rI s2),(12,vI (s1.length:Int)),(13,vI x_)] [] []) lS ?_))))
  rintro again2 x1 h
  refine rq hC [] [14] [(14,vB (decide (x1<(s1.length:Int))))] [] [] (qs (aT h (fun c2 h=> ?_) (fun c2 h=> ?_)))
  ·refine qk (qs (qb (rq hC [] [5,15] [(5,vI x1)] [] [] (qs ?_))))
   obtain⟨x3,hx3,x4,hx4,h⟩:=cP h
   refine dk hC bC [oR rI hx3,oR rI hx4] (fr 16 9) [(24,vB (!decide (x3=x4)))] [] [] (aT h (fun c3 h=> ?_) (fun c3 h=> ?_))
   ·obtain rfl:=so h
    exact rq hC [] [4] [(4,vB false)] [] [] (qr eR)
   ·exact qk (rk hC [] [13,25] [(13,vI (wr (x1+1)))] [] [] (lE h))
  ·obtain rfl:=so h
   exact cT (rq hC [] [4] [(4,vB true)] [] [] (qr eR))
theorem pN(G:GS)(n:Nat)(x:Arr)(y:Arr){r:Bool}(h:eV n x y=some r):PQ G 65 [V.agg [vS x.name,vM rI x.dims],V.agg [vS y.name,vM rI y.dims]] (vB r):=by
 unfold eV at h
 refine pq aO Tryz.func65 rfl fun w X hC=> ?_
 refine rq hC [.z (.b (true)),.z (.b (true))] [2,3,4] [(2,V.tp [T.str x.name,T.sl (List.map rI x.dims)]),(3,V.tp [T.str y.name,T.sl (List.map rI y.dims)])] [] [] (vj h (fun x_=>aY [(4,vB x_)] [] []) (fun j1 h=> ?_) (fun x3 h=> ?_))
 ·
  refine aR h (fun c1 h=> ?_) (fun c1 h=> ?_)
  ·exact rk hC (rF 6 c1) (fr 4 13) [(4,vB false)] [] [] (lE h)
  ·obtain⟨x2,hx2,h⟩:=bd h
   exact rk hC (rT 5 c1++[oV (pU G hx2),oT c1]) (fr 4 13) [(4,vB x2)] [] [] (lE h)
 ·obtain rfl:=so h
  exact qr eR
theorem wW(G:GS)(n:Nat)(s1:List Loop)(s2:List Loop)(eqF:FuncId)(eq:Loop→Loop→Option Bool)(heq: ∀(q0:Loop) (q1:Loop) r,eq q0 q1=some r→PQ G eqF [V.agg (jD q0),V.agg (jD q1)] (vB r)){r:Bool}(h:iT n s1 s2 eq=some r):PQ G 126 [vM aC s1,vM aC s2,V.fn eqF []] (vB r):=by
 unfold iT at h
 refine pq aO Tryz.func126 rfl fun w X hC=> ?_
 refine rq hC [] [6] [] [] [] (qs (rq hC [oN aC s1,oN aC s2] (fr 10 5) [(14,vB (!decide ((s1.length:Int)=(s2.length:Int))))] [] [] (aT h (fun c1 h=> ?_) (fun c1 h=> ?_))))
 ·obtain rfl:=so h
  exact rq hC [] [6] [(6,vB false)] [] [] (qr eR)
 ·refine qk (qs (rq hC [oN aC s1] [15,16,17] [(15,vM aC s1),(16,vI (s1.length:Int)),(17,vI 0)] [] [] (qb (jP h (fun x_=>aY [(1,vM aC s2),(2,V.fn eqF []),(15,vM aC s1),(16,vI (s1.length:Int)),(17,vI x_)] [] []) lS ?_))))
  rintro again2 x1 h
  refine rq hC [] [18] [(18,vB (decide (x1<(s1.length:Int))))] [] [] (qs (aT h (fun c2 h=> ?_) (fun c2 h=> ?_)))
  ·refine qk (qs (qb ?_))
   obtain⟨x3,hx3,h⟩:=bd h
   refine rq hC [oR aC hx3,.z (.nat 20)] [7,8,19,20,21] [(7,vI x1),(8,V.ref 20 0)] [(20,some (E.cells (jD x3)))] [(20,true)] ?_
   obtain⟨x4,hx4,h⟩:=bd h
   refine rq hC [oR aC hx4,.z (.nat 21)] [9,22,23,24,25] [(9,V.ref 21 0)] [(21,some (E.cells (jD x4)))] [(21,true)] ?_
   obtain⟨x5,hx5,h⟩:=bd h
   refine rq hC [oV (heq x3 x4 _ hx5)] (fr 26 5) [(30,vB (!x5))] [] [] (aT h (fun c3 h=> ?_) (fun c3 h=> ?_))
   ·obtain rfl:=so h
    exact rq hC [] [6] [(6,vB false)] [] [] (qr eR)
   ·exact qk (rk hC [] [17,31] [(17,vI (wr (x1+1)))] [] [] (lE h))
  ·obtain rfl:=so h
   exact cT (rq hC [] [6] [(6,vB true)] [] [] (qr eR))
theorem fL(G:GS)(n:Nat)(s1:List Affine)(s2:List Affine)(eqF:FuncId)(eq:Affine→Affine→Option Bool)(heq: ∀(q0:Affine) (q1:Affine) r,eq q0 q1=some r→PQ G eqF [V.agg (aK q0),V.agg (aK q1)] (vB r)){r:Bool}(h:cU n s1 s2 eq=some r):PQ G 128 [vM aA s1,vM aA s2,V.fn eqF []] (vB r):=by
 unfold cU at h
 refine pq aO Tryz.func128 rfl fun w X hC=> ?_
 refine rq hC [] [6] [] [] [] (qs (rq hC [oN aA s1,oN aA s2] (fr 10 5) [(14,vB (!decide ((s1.length:Int)=(s2.length:Int))))] [] [] (aT h (fun c1 h=> ?_) (fun c1 h=> ?_))))
 ·obtain rfl:=so h
  exact rq hC [] [6] [(6,vB false)] [] [] (qr eR)
 ·refine qk (qs (rq hC [oN aA s1] [15,16,17] [(15,vM aA s1),(16,vI (s1.length:Int)),(17,vI 0)] [] [] (qb (jP h (fun x_=>aY [(1,vM aA s2),(2,V.fn eqF []),(15,vM aA s1),(16,vI (s1.length:Int)),(17,vI x_)] [] []) lS ?_))))
  rintro again2 x1 h
  refine rq hC [] [18] [(18,vB (decide (x1<(s1.length:Int))))] [] [] (qs (aT h (fun c2 h=> ?_) (fun c2 h=> ?_)))
  ·refine qk (qs (qb ?_))
   obtain⟨x3,hx3,h⟩:=bd h
   refine rq hC [oR aA hx3,.z (.nat 20)] [7,8,19,20,21] [(7,vI x1),(8,V.ref 20 0)] [(20,some (E.cells (aK x3)))] [(20,true)] ?_
   obtain⟨x4,hx4,h⟩:=bd h
   refine rq hC [oR aA hx4,.z (.nat 21)] [9,22,23,24,25] [(9,V.ref 21 0)] [(21,some (E.cells (aK x4)))] [(21,true)] ?_
   obtain⟨x5,hx5,h⟩:=bd h
   refine rq hC [oV (heq x3 x4 _ hx5)] (fr 26 5) [(30,vB (!x5))] [] [] (aT h (fun c3 h=> ?_) (fun c3 h=> ?_))
   ·obtain rfl:=so h
    exact rq hC [] [6] [(6,vB false)] [] [] (qr eR)
   ·exact qk (rk hC [] [17,31] [(17,vI (wr (x1+1)))] [] [] (lE h))
  ·obtain rfl:=so h
   exact cT (rq hC [] [6] [(6,vB true)] [] [] (qr eR))
theorem eP(G:GS)(n:Nat)(a:Affine)(b:Affine){r:Bool}(h:cG n a b=some r):PQ G 129 [V.agg (aK a),V.agg (aK b)] (vB r):=by
 unfold cG at h
 refine pq aO Tryz.func129 rfl fun w X hC=> ?_
 refine rq hC [.z (.b (true)),.z (.b (true))] [2,3,4] [(2,V.tp (aQ a)),(3,V.tp (aQ b))] [] [] (vj h (fun x_=>aY [(4,vB x_)] [] []) (fun j1 h=> ?_) (fun x3 h=> ?_))
 ·
  obtain⟨x2,hx2,h⟩:=bd h
  refine aR h (fun c1 h=> ?_) (fun c1 h=> ?_)
  ·exact rk hC ([oV (pU G hx2)]++rF 6 c1) (fr 4 13) [(4,vB false)] [] [] (lE h)
  ·exact rk hC ([oV (pU G hx2)]++rT 6 c1) (fr 4 13) [(4,vB (decide (a.const=b.const)))] [] [] (lE h)
 ·obtain rfl:=so h
  exact qr eR
theorem Q6(G:GS)(n:Nat)(x:Loop)(y:Loop){r:Bool}(h:kX n x y=some r):PQ G 127 [V.agg (jD x),V.agg (jD y)] (vB r):=by
 unfold kX at h
 refine pq aO Tryz.func127 rfl fun w X hC=> ?_
 refine rq hC [.z (.b (true)),.z (.b (true))] [2,3,4] [(2,V.tp (u5 x)),(3,V.tp (u5 y))] [] [] (vj h (fun x_=>aY [(4,vB x_)] [] []) (fun j1 h=> ?_) (fun x4 h=> ?_))
 ·
  obtain⟨x2,hx2,h⟩:=bd h
  refine aR h (fun c1 h=> ?_) (fun c1 h=> ?_)
  ·exact rk hC ([oV (fL G n x.lo y.lo 129 (fun q0 q1=>cG n q0 q1) (fun q0 q1 r h=>eP G n q0 q1 h) hx2)]++rF 6 c1) (fr 4 13) [(4,vB false)] [] [] (lE h)
  ·obtain⟨x3,hx3,h⟩:=bd h
   exact rk hC ([oV (fL G n x.lo y.lo 129 (fun q0 q1=>cG n q0 q1) (fun q0 q1 r h=>eP G n q0 q1 h) hx2)]++rT 5 c1++[oV (fL G n x.hi y.hi 129 (fun q0 q1=>cG n q0 q1) (fun q0 q1 r h=>eP G n q0 q1 h) hx3),oT c1]) (fr 4 13) [(4,vB x3)] [] [] (lE h)
 ·obtain rfl:=so h
  exact qr eR
theorem yL{a}{b}{r}(h:oZ n a b=some r):PQ G 68 [vM aC a,vM aC b] (vB r):=by
 unfold oZ at h
 refine pq aO Tryz.func68 rfl fun w X hC=> ?_
 refine rq hC [] [4] [] [] [] ?_
 obtain⟨x1,hx1,h⟩:=bd h
 obtain rfl:=so h
 exact rq hC [oV (wW G n a b 127 (fun q0 q1=>kX n q0 q1) (fun q0 q1 r h=>Q6 G n q0 q1 h) hx1)] (fr 4 4) [(4,vB x1)] [] [] (qr eR)
theorem wU(G:GS)(n:Nat)(s1:List Stmt)(s2:List Stmt)(eqF:FuncId)(eq:Stmt→Stmt→Option Bool)(heq: ∀(q0:Stmt) (q1:Stmt) r,eq q0 q1=some r→PQ G eqF [V.agg (cO q0),V.agg (cO q1)] (vB r)){r:Bool}(h:iR n s1 s2 eq=some r):PQ G 69 [vM aG s1,vM aG s2,V.fn eqF []] (vB r):=by
 unfold iR at h
 refine pq aO Tryz.func69 rfl fun w X hC=> ?_
 refine rq hC [] [6] [] [] [] (qs (rq hC [oN aG s1,oN aG s2] (fr 10 5) [(14,vB (!decide ((s1.length:Int)=(s2.length:Int))))] [] [] (aT h (fun c1 h=> ?_) (fun c1 h=> ?_))))
 ·obtain rfl:=so h
  exact rq hC [] [6] [(6,vB false)] [] [] (qr eR)
 ·refine qk (qs (rq hC [oN aG s1] [15,16,17] [(15,vM aG s1),(16,vI (s1.length:Int)),(17,vI 0)] [] [] (qb (jP h (fun x_=>aY [(1,vM aG s2),(2,V.fn eqF []),(15,vM aG s1),(16,vI (s1.length:Int)),(17,vI x_)] [] []) lS ?_))))
  rintro again2 x1 h
  refine rq hC [] [18] [(18,vB (decide (x1<(s1.length:Int))))] [] [] (qs (aT h (fun c2 h=> ?_) (fun c2 h=> ?_)))
  ·refine qk (qs (qb ?_))
   obtain⟨x3,hx3,h⟩:=bd h
   refine rq hC [oR aG hx3,.z (.nat 20)] [7,8,19,20,21] [(7,vI x1),(8,V.ref 20 0)] [(20,some (E.cells (cO x3)))] [(20,true)] ?_
   obtain⟨x4,hx4,h⟩:=bd h
   refine rq hC [oR aG hx4,.z (.nat 21)] [9,22,23,24,25] [(9,V.ref 21 0)] [(21,some (E.cells (cO x4)))] [(21,true)] ?_
   obtain⟨x5,hx5,h⟩:=bd h
   refine rq hC [oV (heq x3 x4 _ hx5)] (fr 26 5) [(30,vB (!x5))] [] [] (aT h (fun c3 h=> ?_) (fun c3 h=> ?_))
   ·obtain rfl:=so h
    exact rq hC [] [6] [(6,vB false)] [] [] (qr eR)
   ·exact qk (rk hC [] [17,31] [(17,vI (wr (x1+1)))] [] [] (lE h))
  ·obtain rfl:=so h
   exact cT (rq hC [] [6] [(6,vB true)] [] [] (qr eR))
theorem lD{a}{b}{r}(h:iV n a b=some r):PQ G 130 [V.agg (cB a),V.agg (cB b)] (vB r):=by
 unfold iV at h
 refine pq aO Tryz.func130 rfl fun w X hC=> ?_
 refine rq hC [.z (.b (true)),.z (.b (true))] [2,3,4] [(2,V.tp (dO a)),(3,V.tp (dO b))] [] [] (vj h (fun x_=>aY [(4,vB x_)] [] []) (fun j1 h=> ?_) (fun x3 h=> ?_))
 ·
  refine aR h (fun c1 h=> ?_) (fun c1 h=> ?_)
  ·exact rk hC (rF 6 c1) (fr 4 13) [(4,vB false)] [] [] (lE h)
  ·obtain⟨x2,hx2,h⟩:=bd h
   exact rk hC (rT 5 c1++[oV (fL G n a.subs b.subs 129 (fun q0 q1=>cG n q0 q1) (fun q0 q1 r h=>eP G n q0 q1 h) hx2),oT c1]) (fr 4 13) [(4,vB x2)] [] [] (lE h)
 ·obtain rfl:=so h
  exact qr eR
theorem wX(G:GS)(n:Nat)(s1:List Expr)(s2:List Expr)(eqF:FuncId)(eq:Expr→Expr→Option Bool)(heq: ∀(q0:Expr) (q1:Expr) r,eq q0 q1=some r→PQ G eqF [V.agg (cQ q0),V.agg (cQ q1)] (vB r)){r:Bool}(h:iU n s1 s2 eq=some r):PQ G 190 [vM aI s1,vM aI s2,V.fn eqF []] (vB r):=by
 unfold iU at h
 refine pq aO Tryz.func190 rfl fun w X hC=> ?_
 refine rq hC [] [6] [] [] [] (qs (rq hC [oN aI s1,oN aI s2] (fr 10 5) [(14,vB (!decide ((s1.length:Int)=(s2.length:Int))))] [] [] (aT h (fun c1 h=> ?_) (fun c1 h=> ?_))))
 ·obtain rfl:=so h
  exact rq hC [] [6] [(6,vB false)] [] [] (qr eR)
 ·refine qk (qs (rq hC [oN aI s1] [15,16,17] [(15,vM aI s1),(16,vI (s1.length:Int)),(17,vI 0)] [] [] (qb (jP h (fun x_=>aY [(1,vM aI s2),(2,V.fn eqF []),(15,vM aI s1),(16,vI (s1.length:Int)),(17,vI x_)] [] []) lS ?_))))
  rintro again2 x1 h
  refine rq hC [] [18] [(18,vB (decide (x1<(s1.length:Int))))] [] [] (qs (aT h (fun c2 h=> ?_) (fun c2 h=> ?_)))
  ·refine qk (qs (qb ?_))
   obtain⟨x3,hx3,h⟩:=bd h
   refine rq hC [.z (.row (d5 x3)),.z (.nat 20),oQ (eS aI hx3 (cM x3))] [7,8,19,20,21] [(7,vI x1),(8,V.ref 20 0)] [(20,some (E.cells (cQ x3)))] [(20,true)] ?_
   obtain⟨x4,hx4,h⟩:=bd h
   refine rq hC [.z (.row (d5 x4)),.z (.nat 21),oQ (eS aI hx4 (cM x4))] [9,22,23,24,25] [(9,V.ref 21 0)] [(21,some (E.cells (cQ x4)))] [(21,true)] ?_
   obtain⟨x5,hx5,h⟩:=bd h
   refine rq hC [oV (heq x3 x4 _ hx5)] (fr 26 5) [(30,vB (!x5))] [] [] (aT h (fun c3 h=> ?_) (fun c3 h=> ?_))
   ·obtain rfl:=so h
    exact rq hC [] [6] [(6,vB false)] [] [] (qr eR)
   ·exact qk (rk hC [] [17,31] [(17,vI (wr (x1+1)))] [] [] (lE h))
  ·obtain rfl:=so h
   exact cT (rq hC [] [6] [(6,vB true)] [] [] (qr eR))
theorem aAK(G:GS): ∀(n:Nat) (a:Expr) (b:Expr) {r:Bool} (h:i_exprSame n a b=some r),PQ G 131 [V.agg (cQ a),V.agg (cQ b)] (vB r):=by
 intro n
 induction n with
 |zero=>intro a b r h;rw [i_exprSame.eq_def] at h;cases h
 |succ n ih=>
  intro a b r h
  rw [i_exprSame.eq_def] at h;dsimp only at h
  refine pq aO Tryz.func131 rfl fun w X hC=> ?_
  refine rq hC [.z (.b (true)),.z (.b (true))] [2,3,4] [(2,V.tp (fA a)),(3,V.tp (fA b))] [] [] (vj h (fun x_=>aY [(4,vB x_)] [] []) (fun j1 h=> ?_) (fun x5 h=> ?_))
  ·
   refine aR h (fun c1 h=> ?_) (fun c1 h=> ?_)
   ·exact rk hC (rF 6 c1++sF 18) (fr 4 34) [(4,vB false)] [] [] (lE h)
   ·refine aR h (fun c2 h=> ?_) (fun c2 h=> ?_)
    ·exact rk hC (rT 6 c1++rF 6 c2++sF 12) (fr 4 34) [(4,vB false)] [] [] (lE h)
    ·obtain⟨x2,hx2,h⟩:=bd h
     refine aR h (fun c3 h=> ?_) (fun c3 h=> ?_)
     ·exact rk hC (rT 6 c1++rT 5 c2++[oV (eP G n a.index b.index hx2),oT c2]++rF 6 c3++sF 6) (fr 4 34) [(4,vB false)] [] [] (lE h)
     ·obtain⟨x3,hx3,h⟩:=bd h
      refine aR h (fun c4 h=> ?_) (fun c4 h=> ?_)
      ·exact rk hC (rT 6 c1++rT 5 c2++[oV (eP G n a.index b.index hx2),oT c2]++rT 5 c3++[oV (lD G hx3),oT c3]++rF 6 c4) (fr 4 34) [(4,vB false)] [] [] (lE h)
      ·obtain⟨x4,hx4,h⟩:=bd h
       exact rk hC (rT 6 c1++rT 5 c2++[oV (eP G n a.index b.index hx2),oT c2]++rT 5 c3++[oV (lD G hx3),oT c3]++rT 5 c4++[oV (wX G n a.kids b.kids 131 (fun q0 q1=>i_exprSame n q0 q1) (fun q0 q1 r h=>ih q0 q1 h) hx4),oT c4]) (fr 4 34) [(4,vB x4)] [] [] (lE h)
  ·obtain rfl:=so h
   exact qr eR
theorem aAM(G:GS)(n:Nat)(a:Stmt)(b:Stmt){r:Bool}(h:l5 n a b=some r):PQ G 70 [V.agg (cO a),V.agg (cO b)] (vB r):=by
 unfold l5 at h
 refine pq aO Tryz.func70 rfl fun w X hC=> ?_
 refine rq hC [.z (.b (true)),.z (.b (true))] [2,3,4] [(2,V.tp (n6 a)),(3,V.tp (n6 b))] [] [] (vj h (fun x_=>aY [(4,vB x_)] [] []) (fun j1 h=> ?_) (fun x4 h=> ?_))
 ·
  obtain⟨x2,hx2,h⟩:=bd h
  refine aR h (fun c1 h=> ?_) (fun c1 h=> ?_)
  ·exact rk hC ([oV (lD G hx2)]++rF 6 c1) (fr 4 13) [(4,vB false)] [] [] (lE h)
  ·obtain⟨x3,hx3,h⟩:=bd h
   exact rk hC ([oV (lD G hx2)]++rT 5 c1++[oV (aAK G n a.value b.value hx3),oT c1]) (fr 4 13) [(4,vB x3)] [] [] (lE h)
 ·obtain rfl:=so h
  exact qr eR
theorem yK(G:GS)(n:Nat)(x:Part)(y:Part){r:Bool}(h:eU n x y=some r):PQ G 67 [V.agg (lG x),V.agg (lG y)] (vB r):=by
 unfold eU at h
 refine pq aO Tryz.func67 rfl fun w X hC=> ?_
 refine rq hC [.z (.b (true)),.z (.b (true))] [2,3,4] [(2,V.tp (jW x)),(3,V.tp (jW y))] [] [] (vj h (fun x_=>aY [(4,vB x_)] [] []) (fun j1 h=> ?_) (fun x4 h=> ?_))
 ·
  obtain⟨x2,hx2,h⟩:=bd h
  refine aR h (fun c1 h=> ?_) (fun c1 h=> ?_)
  ·exact rk hC ([oV (yL G hx2)]++rF 6 c1) (fr 4 13) [(4,vB false)] [] [] (lE h)
  ·obtain⟨x3,hx3,h⟩:=bd h
   exact rk hC ([oV (yL G hx2)]++rT 5 c1++[oV (wU G n x.body y.body 70 (fun q0 q1=>l5 n q0 q1) (fun q0 q1 r h=>aAM G n q0 q1 h) hx3),oT c1]) (fr 4 13) [(4,vB x3)] [] [] (lE h)
 ·obtain rfl:=so h
  exact qr eR
theorem m4(G:GS)(n:Nat)(s1:List Arr)(s2:List Arr)(eqF:FuncId)(eq:Arr→Arr→Option Bool)(heq: ∀(q0:Arr) (q1:Arr) r,eq q0 q1=some r→PQ G eqF [V.agg [vS q0.name,vM rI q0.dims],V.agg [vS q1.name,vM rI q1.dims]] (vB r)){r:Bool}(h:hD n s1 s2 eq=some r):PQ G 71 [vM aJ s1,vM aJ s2,V.fn eqF []] (vB r):=by
 unfold hD at h
 refine pq aO Tryz.func71 rfl fun w X hC=> ?_
 refine rq hC [] [6] [] [] [] (qs (rq hC [oN aJ s1,oN aJ s2] (fr 10 5) [(14,vB (!decide ((s1.length:Int)=(s2.length:Int))))] [] [] (aT h (fun c1 h=> ?_) (fun c1 h=> ?_))))
 ·obtain rfl:=so h
  exact rq hC [] [6] [(6,vB false)] [] [] (qr eR)
 ·refine qk (qs (rq hC [oN aJ s1] [15,16,17] [(15,vM aJ s1),(16,vI (s1.length:Int)),(17,vI 0)] [] [] (qb (jP h (fun x_=>aY [(1,vM aJ s2),(2,V.fn eqF []),(15,vM aJ s1),(16,vI (s1.length:Int)),(17,vI x_)] [] []) lS ?_))))
  rintro again2 x1 h
  refine rq hC [] [18] [(18,vB (decide (x1<(s1.length:Int))))] [] [] (qs (aT h (fun c2 h=> ?_) (fun c2 h=> ?_)))
  ·refine qk (qs (qb ?_))
   obtain⟨x3,hx3,h⟩:=bd h
   refine rq hC [oR aJ hx3,.z (.nat 20)] [7,8,19,20,21] [(7,vI x1),(8,V.ref 20 0)] [(20,sc [vS x3.name,vM rI x3.dims])] [(20,true)] ?_
   obtain⟨x4,hx4,h⟩:=bd h
   refine rq hC [oR aJ hx4,.z (.nat 21)] [9,22,23,24,25] [(9,V.ref 21 0)] [(21,sc [vS x4.name,vM rI x4.dims])] [(21,true)] ?_
   obtain⟨x5,hx5,h⟩:=bd h
   refine rq hC [oV (heq x3 x4 _ hx5)] (fr 26 5) [(30,vB (!x5))] [] [] (aT h (fun c3 h=> ?_) (fun c3 h=> ?_))
   ·obtain rfl:=so h
    exact rq hC [] [6] [(6,vB false)] [] [] (qr eR)
   ·exact qk (rk hC [] [17,31] [(17,vI (wr (x1+1)))] [] [] (lE h))
  ·obtain rfl:=so h
   exact cT (rq hC [] [6] [(6,vB true)] [] [] (qr eR))
theorem mY{a}{b}{r}(h:eD n a b=some r):PQ G 18 [V.agg (bH a),V.agg (bH b)] (vB r):=by
 unfold eD at h
 refine pq aO Tryz.func18 rfl fun w X hC=> ?_
 refine rq hC [.z (.b (true)),.z (.b (true))] [2,3,4] [(2,V.tp (bL a)),(3,V.tp (bL b))] [] [] (rq hC [] [5] [(5,V.fn 65 [])] [] [] (rq hC [] [6] [(6,V.fn 67 [])] [] [] (vj h (fun x_=>aY [(4,vB x_)] [] []) (fun j1 h=> ?_) (fun x4 h=> ?_))))
 ·
  obtain⟨x2,hx2,h⟩:=bd h
  refine aR h (fun c1 h=> ?_) (fun c1 h=> ?_)
  ·exact rk hC ([oV (m4 G n a.arrays b.arrays 65 (fun q0 q1=>eV n q0 q1) (fun q0 q1 r h=>pN G n q0 q1 h) hx2)]++rF 7 c1) [4,7,8,9,10,11,12,13,14,15,16,17,18,19,20] [(4,vB false)] [] [] (lE h)
  ·obtain⟨x3,hx3,h⟩:=bd h
   exact rk hC ([oV (m4 G n a.arrays b.arrays 65 (fun q0 q1=>eV n q0 q1) (fun q0 q1 r h=>pN G n q0 q1 h) hx2)]++rT 6 c1++[oV (wV G n a.parts b.parts 67 (fun q0 q1=>eU n q0 q1) (fun q0 q1 r h=>yK G n q0 q1 h) hx3),oT c1]) [4,7,8,9,10,11,12,13,14,15,16,17,18,19,20] [(4,vB x3)] [] [] (lE h)
 ·obtain rfl:=so h
  exact qr eR
theorem bQ{r_a0}{n_a1}{r}(h:bJ n r_a0 n_a1=some r):VQ G 178 [eL r_a0] [V.ref 0 0,vI n_a1] (vI r.1) [eL r.2]:=by
 unfold bJ at h
 refine vq aO Tryz.func178 rfl fun w X β0 hC hg=> ?_
 refine rq hC [] [4] [] [] [] (rq hC [] (fr 7 8) [] [(0,sc [vM rY r_a0.b,vI (wr (r_a0.p+1))])] [] (qs (vj h (fun x_=>aY [(0,V.ref 0 0),(1,vI n_a1),(24,vB x_)] [(0,E.cells [vM rY r_a0.b,vI (wr (r_a0.p+1))])] [0]) (fun j1 h=> ?_) (fun x2 h=> ?_))))
 ·
  refine aR h (fun c1 h=> ?_) (fun c1 h=> ?_)
  ·exact rk hC (rF 5 c1++[oN rY r_a0.b,oF c1,oF c1]) (fr 15 10) [(24,vB (decide ((r_a0.b.length:Int)=0)))] [] [] (lE h)
  ·exact rk hC (rT 7 c1) (fr 15 10) [(24,vB true)] [] [] (lE h)
 ·refine aT h (fun c2 h=> ?_) (fun c2 h=> ?_)
  ·obtain rfl:=so h
   exact rq hC [] [4] [(4,vI 0)] [] [] (qr eW)
  ·refine qk (rq hC [] [5,25,26,27,28,29] [(5,vI (wr ((wr (r_a0.p+1))-1)))] [] [] (qs (rq hC [oN rY r_a0.b] (fr 30 7) [(36,vB (decide (wr ((wr (r_a0.p+1))-1)<(r_a0.b.length:Int))))] [] [] (aT h (fun c3 h=> ?_) (fun c3 h=> ?_)))))
   ·obtain⟨x3,hx3,x4,hx4,h⟩:=cP h
    obtain rfl:=so h
    exact rq hC [oR rY hx3,.z (.int (x3.toNat:Int)),oQ (u8i x3),oQ (J4 hx4)] [4,37,38,39,40,41,42,43,44,45,46] [(4,vI (Int.tmod (x3.toNat:Int) n_a1))] [] [] (qr eW)
   ·refine qk (qs ?_)
    obtain⟨x5,hx5,x6,hx6,x7,hx7,h⟩:=kG h
    obtain⟨x8,hx8,x9,hx9,h⟩:=cP h
    refine dk hC bC [oN rY r_a0.b,oQ (J4 hx5),oR rY hx6,.z (.int (x6.toNat:Int)),oQ (u8i x6),oN rY r_a0.b,oQ (J4 hx7),oR rY hx8,.z (.int (x8.toNat:Int)),oQ (u8i x8),oN rY r_a0.b,oQ (J4 hx9)] [6,47,48,49,50,51,52,53,54,55,56,57,58,59,60,61,62,63,64,65,66,67,68,69,70,71,72,73,74,75,76,77,78,79,80,81,82,83,84,85,86,87,88,89,90,91] [(6,vI (wr ((wr ((wr ((wr ((x6.toNat:Int)*131))+(wr ((x8.toNat:Int)*1117))))+(wr ((wr ((wr (r_a0.p+1))-1))*29))))+(wr ((wr (Int.tdiv (wr ((wr (r_a0.p+1))-1)) (r_a0.b.length:Int)))*53)))))] [] [] (rq hC [oQ (show(64:Int)≠0 by decide)] [6,92,93,94,95] [(6,vI (bits BinOp.xor IntKind.i64 (wr ((wr ((wr ((wr ((x6.toNat:Int)*131))+(wr ((x8.toNat:Int)*1117))))+(wr ((wr ((wr (r_a0.p+1))-1))*29))))+(wr ((wr (Int.tdiv (wr ((wr (r_a0.p+1))-1)) (r_a0.b.length:Int)))*53)))) (wr (Int.tdiv (wr ((wr ((wr ((wr ((x6.toNat:Int)*131))+(wr ((x8.toNat:Int)*1117))))+(wr ((wr ((wr (r_a0.p+1))-1))*29))))+(wr ((wr (Int.tdiv (wr ((wr (r_a0.p+1))-1)) (r_a0.b.length:Int)))*53)))) 64))))] [] [] ?_)
    obtain⟨x10,hx10,h⟩:=bd h
    obtain rfl:=so h
    exact rq hC [oQ (J4 hx10)] [4,96,97,98] [(4,vI (Int.tmod (bits BinOp.xor IntKind.i64 (wr ((wr ((wr ((wr ((x6.toNat:Int)*131))+(wr ((x8.toNat:Int)*1117))))+(wr ((wr ((wr (r_a0.p+1))-1))*29))))+(wr ((wr (Int.tdiv (wr ((wr (r_a0.p+1))-1)) (r_a0.b.length:Int)))*53)))) (wr (Int.tdiv (wr ((wr ((wr ((wr ((x6.toNat:Int)*131))+(wr ((x8.toNat:Int)*1117))))+(wr ((wr ((wr (r_a0.p+1))-1))*29))))+(wr ((wr (Int.tdiv (wr ((wr (r_a0.p+1))-1)) (r_a0.b.length:Int)))*53)))) 64))) n_a1))] [] [] (qr eW)
theorem bA{r_a0}{list}{r}(h:aZ n r_a0 list=some r):VQ G 120 [eL r_a0] [V.ref 0 0,vM rI list] (vI r.1) [eL r.2]:=by
 unfold aZ at h
 refine vq aO Tryz.func120 rfl fun w X β0 hC hg=> ?_
 refine rq hC [] [4] [] [] [] ?_
 obtain⟨x1,hx1,x2,hx2,h⟩:=cP h
 obtain rfl:=so h
 exact rq hC [oN rI list,oC [0] [] (bQ G hx1),oR rI hx2] (fr 4 8) [(4,vI x2)] [(0,sR x1.2)] [(0,true)] (qr eW)
theorem nG{r_a0}{list}{r}(h:gC n r_a0 list=some r):VQ G 179 [eL r_a0] [V.ref 0 0,vM rS list] (vS r.1) [eL r.2]:=by
 unfold gC at h
 refine vq aO Tryz.func179 rfl fun w X β0 hC hg=> ?_
 refine rq hC [] [4] [] [] [] ?_
 obtain⟨x1,hx1,x2,hx2,h⟩:=cP h
 obtain rfl:=so h
 exact rq hC [oN rS list,oC [0] [] (bQ G hx1),oR rS hx2] (fr 4 8) [(4,vS x2)] [(0,sR x1.2)] [(0,true)] (qr eW)
theorem sA{r_a0}{nest}{r}(h:jT n r_a0 nest=some r):VQ G 180 [eL r_a0] [V.ref 0 0,vM aC nest] (ms 1 1 2 aC r.1) [eL r.2,ar 56 1 2 aC r.1]:=by
 unfold jT at h
 refine vq aO Tryz.func180 rfl fun w X β0 hC hg=> ?_
 refine rq hC [] [4] [] [] [] ?_
 obtain⟨x1,hx1,h⟩:=bd h
 refine rq hC [oC [] [20] (O8 G hx1)] [5,7,8] [(5,ms 20 1 2 aC x1)] [(20,some (E.tree mT 0 1 (List.map aC x1) []))] [(20,true)] (rq hC [oN aC x1] [6,9,10] [(6,vI (x1.length:Int))] [] [] (qs (rq hC [] [11,12] [(12,vB (decide ((x1.length:Int)=0)))] [] [] (aT h (fun c1 h=> ?_) (fun c1 h=> ?_)))))
 ·obtain rfl:=so h
  exact rq hC [] [4,13] [(4,ms 20 1 2 aC x1)] [] [] (qw (lk hC [.shd 20,.ren 4 20 1] [4] [(4,ms 1 1 2 aC x1)] [(20,none),(1,some (ar 56 1 2 aC x1))] [(1,true)]) (qr eW))
 ·refine qk ?_
  obtain⟨j2,hj2,h⟩:=R7 h
  refine n4 (γ:=Nat) (j:=j2) (r:=r) (fun x_ g_=>aY [(5,ms 20 g_ 2 aC x_.2.2)] [(0,E.cells [vM rY x_.1,vI x_.2.1]),(20,ar 56 g_ 2 aC x_.2.2)] [0,20]) ?_ ?_
  ·
   obtain⟨x3,hx3,h⟩:=bd h
   refine rq hC [oC [0] [] (bQ G hx3)] [14,15] [(15,vI x3.1)] [(0,sR x3.2)] [(0,true)] (qb (rq hC [] [16,17] [(16,vB (decide (x3.1=0)))] [] [] (aT h (fun c2 h=> ?_) (fun c2 h=> ?_))))
   ·obtain⟨x4,hx4,h⟩:=bd h
    refine qw (zG hC [.foc 20 21 (0+Int.toNat 0) 0 (aC x4),.shd 21] [] [] [(20,some (E.tree mT 0 1 (List.map aC x1) [((0+Int.toNat 0),0,ms 21 1 2 aA x4.lo)])),(21,some (ar 63 1 2 aA x4.lo))] [(21,true)] (a1 (wE aC hx4)) (by kernel_rfl)) ?_
    obtain⟨x5,hx5,x6,hx6,x7,hx7,h⟩:=kG h
    refine dk hC bC [oQ (lM aC hx4),oX aC hx4,oC [0] [] (bQ G hx5),oC [] [22] (mA G hx6),.z (.at 5),.z (.fz 22 [25] []),.z (.int 0),oA (aP aA hx7),oQ (bT (r:=aA) 2 aU x4.lo),oQ (bT (r:=aA) 2 aU [x6]),oQ (lM aC hx4),oX aC hx4] (fr 18 12) [] [(0,sR x5.2),(22,none),(21,some (ar 63 2 2 aA x7)),(20,some (E.tree mT 0 1 (List.map aC x1) [((0+Int.toNat 0),0,ms 21 2 2 aA x7)]))] [(0,true),(22,true)] ?_
    obtain⟨x8,hx8,h⟩:=bd h
    exact⟨(x5.2.b,x5.2.p,x8),1,h,((zG hC [.tre 21 mT 1,.unf 20 21 (aC x4) (List.map aC x8),.len 5 (List.map aC x8).length] [5] [(5,ms 20 1 2 aC x8)] [(21,none),(20,some (E.tree mT 0 1 (List.map aC x8) []))] [] (a5 (Eq.refl (List.map aA x7).length) (Eq.refl mT) (wE aC hx4) (R4 aC hx8 rfl) (kH aC hx8)) (by kernel_rfl)).trans ((lk hC [.shd 20] [] [] [(20,some (ar 56 1 2 aC x8))] []).trans (lS)))⟩
   ·refine rq hC [] [30,31] [(30,vB (decide (x3.1=1)))] [] [] (aT h (fun c3 h=> ?_) (fun c3 h=> ?_))
    ·refine qw (lk hC [.shd 20] [] [] [(20,some (ar 56 1 2 aC x1))] []) ?_
     obtain⟨x9,hx9,x10,hx10,h⟩:=cP h
     exact rk hC [oQ (lM aC hx9),oX aC hx9,.z (.rows (List.map aC x10)),.z (.len 5 (List.map aC x10).length),oQ (str aC hx10),oQ (kH aC hx10)] [5,32,33,34,35,36] [(5,ms 20 1 2 aC x10)] [(20,some (ar 56 1 2 aC x10))] [] ⟨(x3.2.b,x3.2.p,x10),1,h,lS⟩
    ·refine rq hC [] [37,38] [(37,vB (decide (x3.1=2)))] [] [] (aT h (fun c4 h=> ?_) (fun c4 h=> ?_))
     ·obtain⟨x11,hx11,h⟩:=bd h
      refine qw (zG hC [.foc 20 21 (0+Int.toNat (wr ((x1.length:Int)-1))) 1 (aC x11),.shd 21] [] [] [(20,some (E.tree mT 0 1 (List.map aC x1) [((0+Int.toNat (wr ((x1.length:Int)-1))),1,ms 21 1 2 aA x11.hi)])),(21,some (ar 63 1 2 aA x11.hi))] [(21,true)] (a1 (wE aC hx11)) (by kernel_rfl)) ?_
      obtain⟨x12,hx12,x13,hx13,x14,hx14,h⟩:=kG h
      refine dk hC bC [oQ (lM aC hx11),oX aC hx11,oC [] [22] (dF G hx12),oC [] [23] (dF G hx13),.z (.at 5),.z (.fz 22 [48] []),.z (.at 5),.z (.fz 23 [49] []),.z (.int 0),oA (aP aA hx14),oQ (bT (r:=aA) 2 aU x11.hi),oQ (bT (r:=aA) 2 aU [x12,x13]),oQ (lM aC hx11),oX aC hx11] (fr 39 15) [] [(22,none),(23,none),(21,some (ar 63 2 2 aA x14)),(20,some (E.tree mT 0 1 (List.map aC x1) [((0+Int.toNat (wr ((x1.length:Int)-1))),1,ms 21 2 2 aA x14)]))] [(22,true),(23,true)] ?_
      obtain⟨x15,hx15,h⟩:=bd h
      exact⟨(x3.2.b,x3.2.p,x15),1,h,((zG hC [.tre 21 mT 1,.unf 20 21 (aC x11) (List.map aC x15),.len 5 (List.map aC x15).length] [5] [(5,ms 20 1 2 aC x15)] [(21,none),(20,some (E.tree mT 0 1 (List.map aC x15) []))] [] (a5 (Eq.refl (List.map aA x14).length) (Eq.refl mT) (wE aC hx11) (R4 aC hx15 rfl) (kH aC hx15)) (by kernel_rfl)).trans ((lk hC [.shd 20] [] [] [(20,some (ar 56 1 2 aC x15))] []).trans (lS)))⟩
     ·refine rq hC [] [54,55] [(54,vB (decide (x3.1=3)))] [] [] (aT h (fun c5 h=> ?_) (fun c5 h=> ?_))
      ·refine qw (lk hC [.shd 20] [] [] [(20,some (ar 56 1 2 aC x1))] []) ?_
       obtain⟨x16,hx16,x17,hx17,x18,hx18,h⟩:=kG h
       exact rk hC [oC [] [21] (dF G hx16),.z (.at 4),.z (.fz 21 [57] []),.z (.int 1),.z (.nat 22),.z (.at 1),.z (.fz 22 [58] []),oQ (lM aC hx17),oX aC hx17,.z (.rows (List.map aC x18)),.z (.len 5 (List.map aC x18).length),oQ (str aC hx18),oQ (kH aC hx18)] [5,56,57,58,59,60] [(5,ms 20 1 2 aC x18)] [(21,none),(22,none),(20,some (ar 56 1 2 aC x18))] [(21,true),(22,true)] ⟨(x3.2.b,x3.2.p,x18),1,h,lS⟩
      ·refine rq hC [] [61,62] [(61,vB (decide (x3.1=4)))] [] [] (aT h (fun c6 h=> ?_) (fun c6 h=> ?_))
       ·refine qb (qw (lk hC [.shd 20] [] [] [(20,some (ar 56 1 2 aC x1))] []) (bD (γ:=Nat) h (fun x_ g_=>aY [(5,ms 20 g_ 2 aC x_)] [(0,eL x3.2),(20,ar 56 g_ 2 aC x_)] [0,20]) 1 (lS) ?_))
        rintro again21 x19 g20 h
        refine qs (rq hC [oN aC x19] [63,64,65] [(65,vB (decide ((x19.length:Int)≤4)))] [] [] (aT h (fun c7 h=> ?_) (fun c7 h=> ?_)))
        ·refine qk (qb ?_)
         obtain⟨x22,hx22,x23,hx23,h⟩:=cP h
         exact rk hC [oQ (lM aC hx22),oX aC hx22,.z (.int 0),oA (aP aC hx23),oQ (bT (r:=aC) 2 b9 x19),oQ (bT (r:=aC) 2 b9 [x22])] [5,66,67,68,69,70,71] [(5,ms 20 (g20+1) 2 aC x23)] [(20,some (ar 56 (g20+1) 2 aC x23))] [] ⟨x23,(g20+1),h,lS⟩
        ·exact cT ⟨(x3.2.b,x3.2.p,x19),g20,h,lS⟩
       ·exact qk ⟨(x3.2.b,x3.2.p,x1),1,h,((lk hC [.shd 20] [] [] [(20,some (ar 56 1 2 aC x1))] []).trans (lS))⟩
  ·rintro⟨x24,x25,x26⟩ g27 h
   subst hj2
   obtain rfl:=so h
   exact rq hC [] [4,72] [(4,ms 20 g27 2 aC x26)] [] [] (qw (lk hC [.ren 4 20 1] [4] [(4,ms 1 1 2 aC x26)] [(1,some (ar 56 1 2 aC x26)),(20,none)] [(1,true)]) (qr eW))
theorem rX{r_a0}{s}{r}(h:jS n r_a0 s=some r):VQ G 181 [eL r_a0] [V.ref 0 0,V.agg (cO s)] (V.agg (cO r.1)) [eL r.2]:=by
 unfold jS at h
 refine vq aO Tryz.func181 rfl fun w X β0 hC hg=> ?_
 refine rq hC [.z (.b (true)),.z (.nat 20)] [3,4] [(3,V.tp (n6 s)),(4,V.ref 20 0)] [(20,sc [vS [],V.t T.nilS,vI 0,vI 0,V.t T.nilS,vI 0,vS [],V.t T.nilS,V.t T.nilS])] [(20,true)] ?_
 obtain⟨x1,hx1,h⟩:=bd h
 refine rq hC [oC [] [21,22,23,24] (O7 G hx1),.z (.nat 25)] [5,6,7] [(5,V.ref 25 0)] [(21,some (ar 63 1 2 aA x1.write.subs)),(22,some (ar 3 1 1 rI x1.value.index.coefs)),(23,some (ar 63 1 2 aA x1.value.read.subs)),(24,some (ar 84 1 7 aI x1.value.kids)),(25,sc [vS x1.write.array,ms 21 1 2 aA x1.write.subs,vI x1.value.kind,vI x1.value.num,ms 22 1 1 rI x1.value.index.coefs,vI x1.value.index.const,vS x1.value.read.array,ms 23 1 2 aA x1.value.read.subs,ms 24 1 7 aI x1.value.kids])] [(21,true),(22,true),(23,true),(24,true),(25,true)] ?_
 obtain⟨j2,hj2,h⟩:=R7 h
 refine n4 (γ:=Nat×Nat) (j:=j2) (r:=r) (fun x_ g_=>aY [(4,V.ref 20 0),(5,V.ref 25 0)] [(0,E.cells [vM rY x_.1,vI x_.2.1]),(20,E.cells [vS [],V.t T.nilS,vI 0,vI 0,V.t T.nilS,vI 0,vS [],V.t T.nilS,V.t T.nilS]),(21,ar 63 g_.1 2 aA x_.2.2.1),(22,ar 3 1 1 rI x1.value.index.coefs),(23,ar 63 1 2 aA x1.value.read.subs),(24,ar 84 g_.2 7 aI x_.2.2.2.1),(25,E.cells [vS x_.2.2.2.2.1,ms 21 g_.1 2 aA x_.2.2.1,vI x_.2.2.2.2.2.1,vI x_.2.2.2.2.2.2,ms 22 1 1 rI x1.value.index.coefs,vI x1.value.index.const,vS x1.value.read.array,ms 23 1 2 aA x1.value.read.subs,ms 24 g_.2 7 aI x_.2.2.2.1])] [0,20,21,22,23,24,25]) ?_ ?_
 ·
  obtain⟨x3,hx3,h⟩:=bd h
  refine rq hC [oC [0] [] (bQ G hx3)] [8,9] [(9,vI x3.1)] [(0,sR x3.2)] [(0,true)] (qb (rq hC [] [10,11] [(10,vB (decide (x3.1=0)))] [] [] (aT h (fun c1 h=> ?_) (fun c1 h=> ?_))))
  ·obtain⟨x4,hx4,h⟩:=bd h
   exact rk hC [.z (.int 0),oC [0] [] (nG G hx4)] (fr 12 5) [] [(0,sR x4.2),(25,sc [vS x4.1,ms 21 1 2 aA x1.write.subs,vI x1.value.kind,vI x1.value.num,ms 22 1 1 rI x1.value.index.coefs,vI x1.value.index.const,vS x1.value.read.array,ms 23 1 2 aA x1.value.read.subs,ms 24 1 7 aI x1.value.kids])] [(0,true)] ⟨(x4.2.b,x4.2.p,x1.write.subs,x1.value.kids,x4.1,x1.value.kind,x1.value.num),(1,1),h,lS⟩
  ·refine rq hC [] [17,18] [(17,vB (decide (x3.1=1)))] [] [] (aT h (fun c2 h=> ?_) (fun c2 h=> ?_))
   ·obtain⟨x5,hx5,x6,hx6,x7,hx7,h⟩:=kG h
    exact dk hC bC [oC [] [26] (mA G hx5),oC [] [27] (jV G n hx6),.z (.at 5),.z (.fz 26 [22] []),.z (.at 5),.z (.fz 27 [23] []),.z (.int 0),oA (aP aA hx7),oQ (bT (r:=aA) 2 aU x1.write.subs),oQ (bT (r:=aA) 2 aU [x5,x6])] (fr 19 9) [] [(26,none),(27,none),(21,some (ar 63 2 2 aA x7)),(25,sc [vS x1.write.array,ms 21 2 2 aA x7,vI x1.value.kind,vI x1.value.num,ms 22 1 1 rI x1.value.index.coefs,vI x1.value.index.const,vS x1.value.read.array,ms 23 1 2 aA x1.value.read.subs,ms 24 1 7 aI x1.value.kids])] [(26,true),(27,true)] ⟨(x3.2.b,x3.2.p,x7,x1.value.kids,x1.write.array,x1.value.kind,x1.value.num),(2,1),h,lS⟩
   ·refine rq hC [] [28,29] [(28,vB (decide (x3.1=2)))] [] [] (aT h (fun c3 h=> ?_) (fun c3 h=> ?_))
    ·obtain⟨x8,hx8,h⟩:=bd h
     exact rk hC [.z (.int 0),oC [0] [] (bA G hx8)] (fr 30 5) [] [(0,sR x8.2),(25,sc [vS x1.write.array,ms 21 1 2 aA x1.write.subs,vI x8.1,vI x1.value.num,ms 22 1 1 rI x1.value.index.coefs,vI x1.value.index.const,vS x1.value.read.array,ms 23 1 2 aA x1.value.read.subs,ms 24 1 7 aI x1.value.kids])] [(0,true)] ⟨(x8.2.b,x8.2.p,x1.write.subs,x1.value.kids,x1.write.array,x8.1,x1.value.num),(1,1),h,lS⟩
    ·refine rq hC [] [35,36] [(35,vB (decide (x3.1=3)))] [] [] (aT h (fun c4 h=> ?_) (fun c4 h=> ?_))
     ·obtain⟨x9,hx9,h⟩:=bd h
      exact rk hC [.z (.int 0),oC [0] [] (bA G hx9)] (fr 37 5) [] [(0,sR x9.2),(25,sc [vS x1.write.array,ms 21 1 2 aA x1.write.subs,vI x1.value.kind,vI x9.1,ms 22 1 1 rI x1.value.index.coefs,vI x1.value.index.const,vS x1.value.read.array,ms 23 1 2 aA x1.value.read.subs,ms 24 1 7 aI x1.value.kids])] [(0,true)] ⟨(x9.2.b,x9.2.p,x1.write.subs,x1.value.kids,x1.write.array,x1.value.kind,x9.1),(1,1),h,lS⟩
     ·refine rq hC [] [42,43] [(42,vB (decide (x3.1=4)))] [] [] (aT h (fun c5 h=> ?_) (fun c5 h=> ?_))
      ·obtain⟨x10,hx10,h⟩:=bd h
       exact rk hC [.z (.int 2),.z (.rows (List.map aI [(⟨1,0,(⟨[],0⟩:Affine),(⟨[],[]⟩:Access),[]⟩:Expr)])),oQ (rV (⟨1,0,(⟨[],0⟩:Affine),(⟨[],[]⟩:Access),[]⟩:Expr)),oA (aP aI hx10),oQ (bT (r:=aI) 7 dX x1.value.kids),oQ (bT (r:=aI) 7 dX [(⟨1,0,(⟨[],0⟩:Affine),(⟨[],[]⟩:Access),[]⟩:Expr)])] (fr 44 8) [] [(24,some (ar 84 2 7 aI x10)),(25,sc [vS x1.write.array,ms 21 1 2 aA x1.write.subs,vI x1.value.kind,vI x1.value.num,ms 22 1 1 rI x1.value.index.coefs,vI x1.value.index.const,vS x1.value.read.array,ms 23 1 2 aA x1.value.read.subs,ms 24 2 7 aI x10])] [] ⟨(x3.2.b,x3.2.p,x1.write.subs,x10,x1.write.array,x1.value.kind,x1.value.num),(1,2),h,lS⟩
      ·exact qk ⟨(x3.2.b,x3.2.p,x1.write.subs,x1.value.kids,x1.write.array,x1.value.kind,x1.value.num),(1,1),h,lS⟩
 ·rintro⟨x11,x12,x13,x14,x15,x16,x17⟩ ⟨g18,g19⟩ h
  subst hj2
  obtain rfl:=so h
  exact rq hC [.z (.at 2),.z (.fz 21 [] [25]),.z (.at 2),.z (.fz 22 [] [25]),.z (.at 2),.z (.fz 23 [] [25]),.z (.at 2),.z (.fz 24 [] [25])] [52] [] [(25,sc [vS x15,vM aA x13,vI x16,vI x17,vM rI x1.value.index.coefs,vI x1.value.index.const,vS x1.value.read.array,vM aA x1.value.read.subs,vM aI x14]),(21,none),(22,none),(23,none),(24,none),(20,sc [vS x15,vM aA x13,vI x16,vI x17,vM rI x1.value.index.coefs,vI x1.value.index.const,vS x1.value.read.array,vM aA x1.value.read.subs,vM aI x14])] [] (qr eW)
theorem aAE{r_a0}{p}{r}(h:oB n r_a0 p=some r):VQ G 118 [eL r_a0] [V.ref 0 0,V.agg (bH p)] (V.agg (bH r.1)) [eL r.2]:=by
 unfold oB at h
 refine vq aO Tryz.func118 rfl fun w X β0 hC hg=> ?_
 refine rq hC [.z (.b (true)),.z (.nat 20)] [3,4] [(3,V.tp (bL p)),(4,V.ref 20 0)] [(20,sc [V.t T.nilS,V.t T.nilS])] [(20,true)] ?_
 obtain⟨x1,hx1,h⟩:=bd h
 refine rq hC [oC [] [21,22] (wM G hx1),.z (.nat 23)] [5,7,8] [(5,V.ref 23 0)] [(21,some (ar 76 1 2 aJ x1.arrays)),(22,some (E.tree mT 2 1 (List.map aD x1.parts) [])),(23,sc [ms 21 1 2 aJ x1.arrays,ms 22 1 2 aD x1.parts])] [(21,true),(22,true),(23,true)] (rq hC [oN aD x1.parts] [6,9,10,11] [(6,vI (x1.parts.length:Int))] [] [] ?_)
 obtain⟨j2,hj2,h⟩:=R7 h
 refine n4 (γ:=Nat) (j:=j2) (r:=r) (fun x_ g_=>aY [(4,V.ref 20 0),(5,V.ref 23 0)] [(0,E.cells [vM rY x_.1,vI x_.2.1]),(20,E.cells [V.t T.nilS,V.t T.nilS]),(21,ar 76 g_ 2 aJ x_.2.2.1),(22,ar 60 1 2 aD x_.2.2.2),(23,E.cells [ms 21 g_ 2 aJ x_.2.2.1,ms 22 1 2 aD x_.2.2.2])] [0,20,21,22,23]) ?_ ?_
 ·
  obtain⟨x3,hx3,h⟩:=bd h
  refine rq hC [oC [0] [] (bQ G hx3)] [12,13] [(13,vI x3.1)] [(0,sR x3.2)] [(0,true)] (qb (rq hC [] [14,15] [(14,vB (decide (x3.1=0)))] [] [] (aT h (fun c1 h=> ?_) (fun c1 h=> ?_))))
  ·obtain⟨x4,hx4,x5,hx5,x6,hx6,h⟩:=kG h
   exact dk hC bC [.z (.int 0),oC [0] [] (nG G hx4),.z (.int 0),oC [0] [] (bA G hx5),.z (.int 0),.z (.int 0),oA (aP aJ hx6),oQ (bT (r:=aJ) 2 gQ x1.arrays),oQ (bT (r:=aJ) 2 gQ [(⟨x4.1,[x5.1]⟩:Arr)])] (fr 16 13) [] [(0,sR x5.2),(21,some (ar 76 2 2 aJ x6)),(23,sc [ms 21 2 2 aJ x6,ms 22 1 2 aD x1.parts])] [(0,true),(0,true)] ⟨(x5.2.b,x5.2.p,x6,x1.parts),2,h,((lk hC [.shd 22] [] [] [(22,some (ar 60 1 2 aD x1.parts))] []).trans (lS))⟩
  ·refine rq hC [] [29,30] [(29,vB (decide (x3.1=1)))] [] [] (aT h (fun c2 h=> ?_) (fun c2 h=> ?_))
   ·refine rq hC [oN aJ x1.arrays] (fr 31 4) [(34,vB (decide ((0:Int)<(x1.arrays.length:Int))))] [] [] (aT h (fun c3 h=> ?_) (fun c3 h=> ?_))
    ·obtain⟨x7,hx7,x8,hx8,x9,hx9,h⟩:=kG h
     exact dk hC bC [.z (.int 0),oC [0] [] (bA G hx7),.z (.int 0),oQ (lM aJ hx8),oX aJ hx8,.z (.rows (List.map aJ x9)),oQ (str aJ hx9)] (fr 35 8) [] [(0,sR x7.2),(21,some (ar 76 1 2 aJ x9))] [(0,true)] ⟨(x7.2.b,x7.2.p,x9,x1.parts),1,h,((zG hC [.lenc 23 0 (List.map aJ x9).length] [] [] [(23,sc [ms 21 1 2 aJ x9,ms 22 1 2 aD x1.parts])] [] (a1 (kH aJ hx9)) (by kernel_rfl)).trans ((lk hC [.shd 22] [] [] [(22,some (ar 60 1 2 aD x1.parts))] []).trans (lS)))⟩
    ·exact qk ⟨(x3.2.b,x3.2.p,x1.arrays,x1.parts),1,h,((lk hC [.shd 22] [] [] [(22,some (ar 60 1 2 aD x1.parts))] []).trans (lS))⟩
   ·refine rq hC [] [43,44] [(43,vB (decide (x3.1=2)))] [] [] (aT h (fun c4 h=> ?_) (fun c4 h=> ?_))
    ·refine rq hC [] [45,46] [(46,vB (decide ((0:Int)<(x1.parts.length:Int))))] [] [] (aT h (fun c5 h=> ?_) (fun c5 h=> ?_))
     ·refine qw (lk hC [.shd 22] [] [] [(22,some (ar 60 1 2 aD x1.parts))] []) ?_
      obtain⟨x10,hx10,x11,hx11,x12,hx12,h⟩:=kG h
      obtain⟨x13,hx13,x14,hx14,h⟩:=cP h
      exact dk hC bC [oQ (lM aD hx10),oX aD hx10,oC [0] [24] (sA G hx11),.z (.at 5),.z (.fz 24 [57] []),oC [0] [25] (sA G hx12),.z (.at 4),.z (.fz 25 [58] []),oC [0] [26] (sA G hx13),.z (.at 1),.z (.fz 26 [59] []),oQ (lM aD hx10),oX aD hx10,.z (.rows (List.map aD x14)),oQ (str aD hx14)] (fr 47 15) [] [(24,none),(0,sR x13.2),(25,none),(26,none),(22,some (ar 60 1 2 aD x14))] [(0,true),(24,true),(0,true),(25,true),(0,true),(26,true)] ⟨(x13.2.b,x13.2.p,x1.arrays,x14),1,h,((zG hC [.lenc 23 1 (List.map aD x14).length] [] [] [(23,sc [ms 21 1 2 aJ x1.arrays,ms 22 1 2 aD x14])] [] (a1 (kH aD hx14)) (by kernel_rfl)).trans (lS))⟩
     ·exact qk ⟨(x3.2.b,x3.2.p,x1.arrays,x1.parts),1,h,((lk hC [.shd 22] [] [] [(22,some (ar 60 1 2 aD x1.parts))] []).trans (lS))⟩
    ·refine rq hC [] [62,63] [(62,vB (decide (x3.1=3)))] [] [] (aT h (fun c6 h=> ?_) (fun c6 h=> ?_))
     ·refine vj h (fun x_=>aY [(0,V.ref 0 0),(4,V.ref 20 0),(5,V.ref 23 0),(6,vI (x1.parts.length:Int)),(76,vB x_)] [(0,eL x3.2),(20,E.cells [V.t T.nilS,V.t T.nilS]),(21,ar 76 1 2 aJ x1.arrays),(22,E.tree mT 2 1 (List.map aD x1.parts) []),(23,E.cells [ms 21 1 2 aJ x1.arrays,ms 22 1 2 aD x1.parts])] [0,20,21,22,23]) (fun j15 h=> ?_) (fun x17 h=> ?_)
      ·
       refine aR h (fun c7 h=> ?_) (fun c7 h=> ?_)
       ·exact rk hC (rF 10 c7) (fr 64 13) [(76,vB false)] [] [] (lE h)
       ·obtain⟨x16,hx16,h⟩:=bd h
        exact qw (zG hC [.foc 22 24 (0+Int.toNat (wr ((x1.parts.length:Int)-1))) 1 (aD x16),.shd 24] [] [] [(22,some (E.tree mT 2 1 (List.map aD x1.parts) [((0+Int.toNat (wr ((x1.parts.length:Int)-1))),1,ms 24 1 9 aG x16.body)])),(24,some (ar 86 1 9 aG x16.body))] [(24,true)] (a1 (wE aD hx16)) (by kernel_rfl)) (rk hC (rT 5 c7++[oQ (lM aD hx16),oT c7,oT c7,oX aD hx16,oT c7,oN aG x16.body,oT c7,oT c7]) (fr 64 13) [(76,vB (decide ((0:Int)<(x16.body.length:Int))))] [] [] ⟨decide ((0:Int)<(x16.body.length:Int)),h,((zG hC [.tre 24 mT 3,.unf 22 24 (aD x16) (List.map aD x1.parts)] [] [] [(24,none),(22,some (E.tree mT 2 1 (List.map aD x1.parts) []))] [] (a4 (Eq.refl (List.map aG x16.body).length) (Eq.refl mT) (wE aD hx16) (aBi aD hx16 rfl)) (by kernel_rfl)).trans (lS))⟩)
      ·refine aT h (fun c8 h=> ?_) (fun c8 h=> ?_)
       ·obtain⟨x18,hx18,h⟩:=bd h
        refine qw (zG hC [.foc 22 24 (0+Int.toNat (wr ((x1.parts.length:Int)-1))) 1 (aD x18),.shd 24] [] [] [(22,some (E.tree mT 2 1 (List.map aD x1.parts) [((0+Int.toNat (wr ((x1.parts.length:Int)-1))),1,ms 24 1 9 aG x18.body)])),(24,some (ar 86 1 9 aG x18.body))] [(24,true)] (a1 (wE aD hx18)) (by kernel_rfl)) ?_
        obtain⟨x19,hx19,x20,hx20,x21,hx21,h⟩:=kG h
        obtain⟨x22,hx22,x23,hx23,h⟩:=cP h
        refine dk hC bC [oQ (lM aD hx18),oX aD hx18,oQ (lM aD hx18),oX aD hx18,oQ (lM aG hx19),oX aG hx19,oC [0] [] (rX G hx20),oC [0] [] (rX G hx21),oC [0] [] (rX G hx22),oQ (lM aG hx19),oX aG hx19,.z (.rows (List.map aG x23)),oQ (str aG hx23)] (fr 77 23) [] [(0,sR x22.2),(24,some (ar 86 1 9 aG x23))] [(0,true),(0,true),(0,true)] ?_
        obtain⟨x24,hx24,h⟩:=bd h
        exact⟨(x22.2.b,x22.2.p,x1.arrays,x24),1,h,((zG hC [.tre 24 mT 3,.unf 22 24 (aD x18) (List.map aD x24),.lenc 23 1 (List.map aD x24).length] [] [] [(24,none),(22,some (E.tree mT 2 1 (List.map aD x24) [])),(23,sc [ms 21 1 2 aJ x1.arrays,ms 22 1 2 aD x24])] [] (a5 (kH aG hx23) (Eq.refl mT) (wE aD hx18) (R4 aD hx24 rfl) (kH aD hx24)) (by kernel_rfl)).trans ((lk hC [.shd 22] [] [] [(22,some (ar 60 1 2 aD x24))] []).trans (lS)))⟩
       ·exact qk ⟨(x3.2.b,x3.2.p,x1.arrays,x1.parts),1,h,((lk hC [.shd 22] [] [] [(22,some (ar 60 1 2 aD x1.parts))] []).trans (lS))⟩
     ·refine rq hC [] [100,101] [(100,vB (decide (x3.1=4)))] [] [] (aT h (fun c9 h=> ?_) (fun c9 h=> ?_))
      ·refine rq hC [] [102,103] [(103,vB (decide ((0:Int)<(x1.parts.length:Int))))] [] [] (aT h (fun c10 h=> ?_) (fun c10 h=> ?_))
       ·refine qw (lk hC [.shd 22] [] [] [(22,some (ar 60 1 2 aD x1.parts))] []) ?_
        obtain⟨x25,hx25,x26,hx26,h⟩:=cP h
        exact rk hC [oQ (lM aD hx25),oX aD hx25,.z (.rows (List.map aD x26)),.z (.lenc 23 1 (List.map aD x26).length),oQ (str aD hx26),oQ (kH aD hx26)] (fr 104 6) [] [(22,some (ar 60 1 2 aD x26)),(23,sc [ms 21 1 2 aJ x1.arrays,ms 22 1 2 aD x26])] [] ⟨(x3.2.b,x3.2.p,x1.arrays,x26),1,h,lS⟩
       ·exact qk ⟨(x3.2.b,x3.2.p,x1.arrays,x1.parts),1,h,((lk hC [.shd 22] [] [] [(22,some (ar 60 1 2 aD x1.parts))] []).trans (lS))⟩
      ·exact qk ⟨(x3.2.b,x3.2.p,x1.arrays,x1.parts),1,h,((lk hC [.shd 22] [] [] [(22,some (ar 60 1 2 aD x1.parts))] []).trans (lS))⟩
 ·rintro⟨x27,x28,x29,x30⟩ g31 h
  subst hj2
  obtain rfl:=so h
  exact rq hC [.z (.at 2),.z (.fz 21 [] [23]),.z (.at 2),.z (.fz 22 [] [23])] [110] [] [(23,sc [vM aJ x29,vM aD x30]),(21,none),(22,none),(20,sc [vM aJ x29,vM aD x30])] [] (qr eW)
theorem wT{s}{c}{r}(h:tM n s c=some r):VQ G 229 [] [vS s,vY c] (ms 0 1 1 rS r) [ar 9 1 1 rS r]:=by
 unfold tM at h
 refine vq aO Tryz.func229 rfl fun w X β0 hC hg=> ?_
 refine rq hC [] [4] [] [] [] (rq hC [.z (.nat 20)] [5,8] [(5,ms 20 1 1 rS [])] [(20,some (ar 9 1 1 rS []))] [(20,true)] (rq hC [] [6] [(6,vI 0)] [] [] (qs (rq hC [] [7] [(7,vI 0)] [] [] ?_))))
 refine qb (bD (γ:=Nat) h (fun x_ g_=>aY [(0,vS s),(1,vY c),(5,ms 20 g_ 1 rS x_.1),(6,vI x_.2.1),(7,vI x_.2.2)] [(20,ar 9 g_ 1 rS x_.1)] [20]) 1 (lS) ?_)
 rintro again5 ⟨x1,x2,x3⟩ g4 h
 refine qs (rq hC [] (fr 9 4) [(12,vB (decide (x3≤(s.length:Int))))] [] [] (aT h (fun c1 h=> ?_) (fun c1 h=> ?_)))
 ·refine qk ?_
  obtain⟨j6,hj6,h⟩:=R7 h
  refine n4 (γ:=Nat) (j:=j6) (r:=r) (fun x_ g_=>aY [(0,vS s),(1,vY c),(5,ms 20 g_ 1 rS x_.1),(6,vI x_.2),(7,vI x3)] [(20,ar 9 g_ 1 rS x_.1)] [20]) ?_ ?_
  ·
   refine qb (vj h (fun x_=>aY [(0,vS s),(1,vY c),(5,ms 20 g4 1 rS x1),(6,vI x2),(7,vI x3),(25,vB x_)] [(20,ar 9 g4 1 rS x1)] [20]) (fun j7 h=> ?_) (fun x9 h=> ?_))
   ·
    refine aR h (fun c2 h=> ?_) (fun c2 h=> ?_)
    ·obtain⟨x8,hx8,h⟩:=bd h
     exact rk hC (rF 3 c2++[oY hx8]++rF 3 c2) (fr 15 11) [(25,vB (decide ((x8.toNat:Int)=(c.toNat:Int))))] [] [] (lE h)
    ·exact rk hC (rT 6 c2) (fr 15 11) [(25,vB true)] [] [] (lE h)
   ·refine aT h (fun c3 h=> ?_) (fun c3 h=> ?_)
    ·obtain⟨x10,hx10,x11,hx11,h⟩:=cP h
     exact rq hC [oS hx10,.z (.int 0),oA (aP rS hx11),oQ (bT (r:=rS) 1 (fun _=>rfl) x1),oQ (bT (r:=rS) 1 (fun _=>rfl) [x10])] [5,26,27,28,29,30,31,32] [(5,ms 20 (g4+1) 1 rS x11)] [(20,some (ar 9 (g4+1) 1 rS x11))] [] (rk hC [] [6,33,34] [(6,vI (wr (x3+1)))] [] [] ⟨(x11,wr (x3+1)),(g4+1),h,lS⟩)
    ·exact qk ⟨(x1,x2),g4,h,lS⟩
  ·rintro⟨x12,x13⟩ g14 h
   subst hj6
   exact rk hC [] [7,13,14] [(7,vI (wr (x3+1)))] [] [] ⟨(x12,x13,wr (x3+1)),g14,h,lS⟩
 ·obtain rfl:=so h
  exact cT (rq hC [] [4,35] [(4,ms 20 g4 1 rS x1)] [] [] (qw (lk hC [.ren 4 20 0] [4] [(4,ms 0 1 1 rS x1)] [(0,some (ar 9 1 1 rS x1)),(20,none)] [(0,true)]) (qr eW)))
theorem aDB{s}{at_a1}{r}(h:H6 n s at_a1=some r):PQ G 336 [vS s,vI at_a1] (vI r):=by
 unfold H6 at h
 refine pq aO Tryz.func336 rfl fun w X hC=> ?_
 refine rq hC [] [4] [] [] [] (qs (vj h (fun x_=>aY [(0,vS s),(1,vI at_a1),(20,vB x_)] [] []) (fun j1 h=> ?_) (fun x3 h=> ?_)))
 ·
  refine aR h (fun c1 h=> ?_) (fun c1 h=> ?_)
  ·obtain⟨x2,hx2,h⟩:=bd h
   refine aR h (fun c2 h=> ?_) (fun c2 h=> ?_)
   ·exact rk hC (rF 3 c1++[oY hx2,oF c1,oF c1]++rF 3 c2++[oY hx2,oF c2,oF c2]) (fr 5 16) [(20,vB (decide ((108:Int)<(x2.toNat:Int))))] [] [] (lE h)
   ·exact rk hC (rF 3 c1++[oY hx2,oF c1,oF c1]++rT 5 c2) (fr 5 16) [(20,vB true)] [] [] (lE h)
  ·exact rk hC (rT 5 c1++sT 5) (fr 5 16) [(20,vB true)] [] [] (lE h)
 ·refine aT h (fun c3 h=> ?_) (fun c3 h=> ?_)
  ·obtain rfl:=so h
   exact rq hC [] [4] [(4,vI (-1))] [] [] (qr eR)
  ·refine qk ?_
   obtain⟨x4,hx4,h⟩:=bd h
   obtain rfl:=so h
   exact rq hC [oY hx4,.z (.int (x4.toNat:Int)),oQ (u8i x4)] [4,21,22,23,24,25] [(4,vI (wr ((x4.toNat:Int)-105)))] [] [] (qr eR)
theorem P5{s}{r}(h:xE n s=some r):PQ G 288 [vS s] (V.tup [vI r.1,vB r.2]):=by
 unfold xE at h
 refine pq aO Tryz.func288 rfl fun w X hC=> ?_
 refine rq hC [] [2,3] [] [] [] (vj h (fun x_=>aY [(0,vS s),(4,vB x_)] [] []) (fun j1 h=> ?_) (fun x3 h=> ?_))
 ·
  refine aR h (fun c1 h=> ?_) (fun c1 h=> ?_)
  ·exact rk hC (rF 4 c1) [4,7,8,9,10,11,12,13,14] [(4,vB false)] [] [] (lE h)
  ·obtain⟨x2,hx2,h⟩:=bd h
   exact rk hC [oT c1,oT c1,oY hx2,oT c1,oT c1] [4,7,8,9,10,11,12,13,14] [(4,vB (decide ((x2.toNat:Int)=45)))] [] [] (lE h)
 ·refine vj h (fun x_=>aY [(0,vS x_),(4,vB x3)] [] []) (fun j4 h=> ?_) (fun x6 h=> ?_)
  ·
   refine rq hC [] [15] [(15,vB x3)] [] [] (aT h (fun c2 h=> ?_) (fun c2 h=> ?_))
   ·obtain⟨x5,hx5,h⟩:=bd h
    exact rk hC [oS hx5] [0,16,17] [(0,vS x5)] [] [] (lE h)
   ·exact qk (lE h)
  ·refine qs (vj h (fun x_=>aY [(0,vS x6),(4,vB x3),(38,vB x_)] [] []) (fun j7 h=> ?_) (fun x9 h=> ?_))
   ·
    refine aR h (fun c3 h=> ?_) (fun c3 h=> ?_)
    ·refine aR h (fun c4 h=> ?_) (fun c4 h=> ?_)
     ·obtain⟨x8,hx8,h⟩:=bd h
      refine aR h (fun c5 h=> ?_) (fun c5 h=> ?_)
      ·exact rk hC (rF 4 c3++[oF c4,oF c4,oY hx8,oF c4,oF c4]++rF 5 c5++[oF c4,oF c5,oF c4]) (fr 18 21) [(38,vB false)] [] [] (lE h)
      ·refine aR h (fun c6 h=> ?_) (fun c6 h=> ?_)
       ·exact rk hC (rF 4 c3++[oF c4,oF c4,oY hx8,oF c4,oF c4]++rT 4 c5++[oF c6,oT c5,oF c6,oF c4,oT c5,oF c4]) (fr 18 21) [(38,vB x3)] [] [] (lE h)
       ·exact rk hC (rF 4 c3++[oF c4,oF c4,oY hx8,oF c4,oF c4]++rT 4 c5++[oT c6,oT c5,oT c6,oF c4,oT c5,oF c4]) (fr 18 21) [(38,vB true)] [] [] (lE h)
     ·exact rk hC (rF 4 c3++rT 6 c4) (fr 18 21) [(38,vB true)] [] [] (lE h)
    ·exact rk hC (rT 4 c3++sT 6) (fr 18 21) [(38,vB true)] [] [] (lE h)
   ·refine aT h (fun c7 h=> ?_) (fun c7 h=> ?_)
    ·obtain rfl:=so h
     exact rq hC [] [2,3] [(2,vI 0),(3,vB false)] [] [] (qr eR)
    ·refine qk (rq hC [] [5] [(5,vI 0)] [] [] (qs (rq hC [] [6] [(6,vI 0)] [] [] (qb (jP h (fun x_=>aY [(0,vS x6),(4,vB x3),(5,vI x_.1),(6,vI x_.2)] [] []) lS ?_)))))
     rintro again12 ⟨x10,x11⟩ h
     refine qs (rq hC [] (fr 39 4) [(42,vB (decide (x11<(x6.length:Int))))] [] [] (aT h (fun c8 h=> ?_) (fun c8 h=> ?_)))
     ·refine qk (qs (qb (qs (vj h (fun x_=>aY [(0,vS x6),(4,vB x3),(5,vI x10),(6,vI x11),(54,vB x_)] [] []) (fun j13 h=> ?_) (fun x15 h=> ?_)))))
      ·
       obtain⟨x14,hx14,h⟩:=bd h
       refine aR h (fun c9 h=> ?_) (fun c9 h=> ?_)
       ·exact rk hC ([oY hx14]++rF 3 c9++[oY hx14,oF c9,oF c9]) (fr 45 10) [(54,vB (decide ((57:Int)<(x14.toNat:Int))))] [] [] (lE h)
       ·exact rk hC ([oY hx14]++rT 5 c9) (fr 45 10) [(54,vB true)] [] [] (lE h)
      ·refine aT h (fun c10 h=> ?_) (fun c10 h=> ?_)
       ·obtain rfl:=so h
        exact rq hC [] [2,3] [(2,vI 0),(3,vB false)] [] [] (qr eR)
       ·refine qk ?_
        obtain⟨x16,hx16,h⟩:=bd h
        exact rk hC [oY hx16,.z (.int ((x16-(48:UInt8)).toNat:Int)),oQ (cvu (aJt x16 (48:UInt8)))] [5,55,56,57,58,59,60,61,62] [(5,vI (wr ((wr (x10*10))+((x16-(48:UInt8)).toNat:Int))))] [] [] (rk hC [] [6,43,44] [(6,vI (wr (x11+1)))] [] [] (lE h))
     ·refine cT (vj h (fun x_=>aY [(5,vI x_)] [] []) (fun j17 h=> ?_) (fun x18 h=> ?_))
      ·
       refine rq hC [] [63] [(63,vB x3)] [] [] (aT h (fun c11 h=> ?_) (fun c11 h=> ?_))
       ·exact rk hC [] [5,64,65] [(5,vI (wr (0-x10)))] [] [] (lE h)
       ·exact qk (lE h)
      ·obtain rfl:=so h
       exact rq hC [] [2,3,66] [(2,vI x18),(3,vB true)] [] [] (qr eR)
theorem yC{s}{at_a1}{r}(h:q8 n s at_a1=some r):PQ G 317 [vS s,vI at_a1] (V.tup [vI r.1,vI r.2]):=by
 unfold q8 at h
 refine pq aO Tryz.func317 rfl fun w X hC=> ?_
 refine rq hC [] [4,5] [] [] [] (rq hC [] [6,9] [(6,vI at_a1)] [] [] (qs (qb (jP h (fun x_=>aY [(0,vS s),(1,vI at_a1),(6,vI x_)] [] []) lS ?_))))
 rintro again2 x1 h
 refine qs (vj h (fun x_=>aY [(0,vS s),(1,vI at_a1),(6,vI x1),(31,vB x_)] [] []) (fun j3 h=> ?_) (fun x5 h=> ?_))
 ·
  refine aR h (fun c1 h=> ?_) (fun c1 h=> ?_)
  ·exact rk hC (rF 5 c1++sF 10) (fr 10 22) [(31,vB false)] [] [] (lE h)
  ·refine aR h (fun c2 h=> ?_) (fun c2 h=> ?_)
   ·exact rk hC (rT 5 c1++rF 5 c2++sF 5) (fr 10 22) [(31,vB false)] [] [] (lE h)
   ·obtain⟨x4,hx4,h⟩:=bd h
    refine aR h (fun c3 h=> ?_) (fun c3 h=> ?_)
    ·exact rk hC (rT 5 c1++rT 3 c2++[oY hx4,oT c2,oT c2]++rF 5 c3) (fr 10 22) [(31,vB false)] [] [] (lE h)
    ·exact rk hC (rT 5 c1++rT 3 c2++[oY hx4,oT c2,oT c2]++rT 3 c3++[oY hx4,oT c3,oT c3]) (fr 10 22) [(31,vB (decide ((x4.toNat:Int)≤57)))] [] [] (lE h)
 ·refine aT h (fun c4 h=> ?_) (fun c4 h=> ?_)
  ·exact qk (qb (rk hC [] [6,32,33] [(6,vI (wr (x1+1)))] [] [] (lE h)))
  ·refine cT ?_
   obtain⟨x6,hx6,x7,hx7,h⟩:=cP h
   refine rq hC [oS hx6,oV (P5 G hx7)] [7,8,34,35,36,37,38,39,40,41] [(7,vI x7.1),(8,vB x7.2)] [] [] (qs (rq hC [] [42,43] [(43,vB (!x7.2))] [] [] (aT h (fun c5 h=> ?_) (fun c5 h=> ?_))))
   ·obtain rfl:=so h
    exact rq hC [] [4,5,44] [(4,vI 1),(5,vI at_a1)] [] [] (qr eR)
   ·obtain rfl:=so h
    exact qk (rq hC [] [4,5,45,46] [(4,vI x7.1),(5,vI x1)] [] [] (qr eR))
theorem aB2{a}{s}{at_a2}{r}(h:y0 n a s at_a2=some r):PQ G 331 [V.agg (aK a),vS s,vI at_a2] (V.tup [V.agg (aK r.1),vI r.2]):=by
 unfold y0 at h
 refine pq aO Tryz.func331 rfl fun w X hC=> ?_
 refine rq hC [.z (.b (true)),.z (.nat 20)] [3,6,7] [(3,V.tp (aQ a)),(6,V.ref 20 0)] [(20,sc [V.t T.nilS,vI 0])] [(20,true)] (rq hC [] [8] [(8,vI 1)] [] [] (vj h (fun x_=>aY [(1,vS s),(2,vI at_a2),(3,V.tp (aQ a)),(6,V.ref 20 0),(8,vI x_)] [(20,E.cells [V.t T.nilS,vI 0])] [20]) (fun j1 h=> ?_) (fun x3 h=> ?_)))
 ·
  obtain⟨x2,hx2,h⟩:=bd h
  refine rq hC [oY hx2] (fr 14 4) [(17,vB (decide ((x2.toNat:Int)=45)))] [] [] (aT h (fun c1 h=> ?_) (fun c1 h=> ?_))
  ·exact rk hC [] [8] [(8,vI (-1))] [] [] (lE h)
  ·exact qk (lE h)
 ·refine vj h (fun x_=>aY [(1,vS s),(2,vI x_),(3,V.tp (aQ a)),(6,V.ref 20 0),(8,vI x3)] [(20,E.cells [V.t T.nilS,vI 0])] [20]) (fun j4 h=> ?_) (fun x8 h=> ?_)
  ·
   refine vj h (fun x_=>aY [(1,vS s),(2,vI at_a2),(3,V.tp (aQ a)),(6,V.ref 20 0),(8,vI x3),(27,vB x_)] [(20,E.cells [V.t T.nilS,vI 0])] [20]) (fun j5 h=> ?_) (fun x7 h=> ?_)
   ·
    obtain⟨x6,hx6,h⟩:=bd h
    refine aR h (fun c2 h=> ?_) (fun c2 h=> ?_)
    ·exact rk hC ([oY hx6]++rF 3 c2++[oY hx6,oF c2,oF c2]) (fr 18 10) [(27,vB (decide ((x6.toNat:Int)=43)))] [] [] (lE h)
    ·exact rk hC ([oY hx6]++rT 5 c2) (fr 18 10) [(27,vB true)] [] [] (lE h)
   ·refine aT h (fun c3 h=> ?_) (fun c3 h=> ?_)
    ·exact rk hC [] [2,28,29] [(2,vI (wr (at_a2+1)))] [] [] (lE h)
    ·exact qk (lE h)
  ·obtain⟨x9,hx9,h⟩:=bd h
   refine rq hC [oV (yC G hx9)] [9,10,30,31,32,33,34,35] [(9,vI x9.1),(10,vI x9.2)] [] [] (rq hC [] [11,36] [(11,vI x9.2)] [] [] (vj h (fun x_=>aY [(1,vS s),(2,vI x8),(3,V.tp (aQ a)),(6,V.ref 20 0),(8,vI x3),(9,vI x9.1),(10,vI x9.2),(11,vI x_)] [(20,E.cells [V.t T.nilS,vI 0])] [20]) (fun j10 h=> ?_) (fun x14 h=> ?_)))
   ·
    refine vj h (fun x_=>aY [(1,vS s),(2,vI x8),(3,V.tp (aQ a)),(6,V.ref 20 0),(8,vI x3),(9,vI x9.1),(10,vI x9.2),(11,vI x9.2),(51,vB x_)] [(20,E.cells [V.t T.nilS,vI 0])] [20]) (fun j11 h=> ?_) (fun x13 h=> ?_)
    ·
     refine aR h (fun c4 h=> ?_) (fun c4 h=> ?_)
     ·exact rk hC (rF 5 c4++sF 5) (fr 37 15) [(51,vB false)] [] [] (lE h)
     ·refine aR h (fun c5 h=> ?_) (fun c5 h=> ?_)
      ·exact rk hC (rT 5 c4++rF 5 c5) (fr 37 15) [(51,vB false)] [] [] (lE h)
      ·obtain⟨x12,hx12,h⟩:=bd h
       exact rk hC (rT 5 c4++rT 3 c5++[oY hx12,oT c5,oT c5]) (fr 37 15) [(51,vB (decide ((x12.toNat:Int)=42)))] [] [] (lE h)
    ·refine aT h (fun c6 h=> ?_) (fun c6 h=> ?_)
     ·exact rk hC [] [11,52,53] [(11,vI (wr (x9.2+1)))] [] [] (lE h)
     ·exact qk (lE h)
   ·obtain⟨x15,hx15,h⟩:=bd h
    refine rq hC [oV (aDB G hx15)] [12,54,55,56] [(12,vI x15)] [] [] (qs ?_)
    obtain⟨x16,hx16,h⟩:=bd h
    refine dk hC bC [.z (.nat 21),oA (aP rI hx16),.z (.nat 22),oQ (bT (r:=rI) 1 (fun _=>rfl) []),oQ (bT (r:=rI) 1 (fun _=>rfl) a.coefs)] [13,57,58,59,60,61,62,63] [(13,V.ref 22 0)] [(21,some (ar 3 2 1 rI x16)),(22,sc [ms 21 2 1 rI x16,vI a.const])] [(21,true),(22,true)] (qs (vj h (fun x_=>aY [(2,vI x8),(3,V.tp (aQ a)),(6,V.ref 20 0),(8,vI x3),(9,vI x9.1),(10,vI x9.2),(11,vI x14),(12,vI x15),(13,V.ref 22 0),(75,vB x_)] [(20,E.cells [V.t T.nilS,vI 0]),(21,ar 3 2 1 rI x16),(22,E.cells [ms 21 2 1 rI x16,vI a.const])] [20,21,22]) (fun j17 h=> ?_) (fun x18 h=> ?_)))
    ·
     refine aR h (fun c7 h=> ?_) (fun c7 h=> ?_)
     ·exact rk hC (rF 6 c7) (fr 64 12) [(75,vB false)] [] [] (lE h)
     ·refine aR h (fun c8 h=> ?_) (fun c8 h=> ?_)
      ·exact rk hC (rT 4 c7++rF 3 c8++[oT c7,oF c8,oT c7]) (fr 64 12) [(75,vB (decide (x9.2=x8)))] [] [] (lE h)
      ·exact rk hC (rT 4 c7++rT 3 c8++[oT c7,oT c8,oT c7]) (fr 64 12) [(75,vB true)] [] [] (lE h)
    ·refine aT h (fun c9 h=> ?_) (fun c9 h=> ?_)
     ·refine qs ?_
      obtain⟨x19,hx19,x20,hx20,h⟩:=cP h
      obtain rfl:=so h
      exact dk hC bC [oQ (lM rI hx19),oX rI hx19,oQ (lM rI hx19),oX rI hx19,.z (.rows (List.map rI x20)),oQ (str rI hx20)] (fr 76 13) [] [(21,some (ar 3 2 1 rI x20))] [] (qw (zG hC [.lenc 22 0 (List.map rI x20).length] [] [] [(22,sc [ms 21 2 1 rI x20,vI a.const])] [] (a1 (kH rI hx20)) (by kernel_rfl)) (rq hC [.z (.at 5),.z (.fz 21 [] [22])] [7,89,90,91] [(7,vI (wr (x14+1)))] [(22,sc [vM rI x20,vI a.const]),(21,none),(20,sc [vM rI x20,vI a.const])] [] (qr eR)))
     ·refine qk (qs (rq hC [] [92,93,94] [(94,vB (decide (x9.2=x8)))] [] [] (aT h (fun c10 h=> ?_) (fun c10 h=> ?_))))
      ·obtain rfl:=so h
       exact rq hC [] [7,95] [(7,vI (-1))] [(20,some (E.cells (aK a)))] [] (qr eR)
      ·obtain rfl:=so h
       exact qk (rq hC [] (fr 96 7) [] [(22,sc [ms 21 2 1 rI x16,vI (wr (a.const+(wr (x3*x9.1))))])] [] (rq hC [.z (.at 4),.z (.fz 21 [] [22])] [7,103,104] [(7,vI x9.2)] [(22,sc [vM rI x16,vI (wr (a.const+(wr (x3*x9.1))))]),(21,none),(20,sc [vM rI x16,vI (wr (a.const+(wr (x3*x9.1))))])] [] (qr eR)))
theorem sB(G:GS): ∀(n:Nat) (n_a0:Int) {r:(List UInt8)} (h:s_l16Dec n n_a0=some r),PQ G 266 [vI n_a0] (vS r):=by
 intro n
 induction n with
 |zero=>intro n_a0 r h;rw [s_l16Dec.eq_def] at h;cases h
 |succ n ih=>
  intro n_a0 r h
  rw [s_l16Dec.eq_def] at h;dsimp only at h
  refine pq aO Tryz.func266 rfl fun w X hC=> ?_
  refine rq hC [] [2] [] [] [] (qs (rq hC [] [4,5] [(5,vB (decide (n_a0<(-9223372036854775807))))] [] [] (aT h (fun c1 h=> ?_) (fun c1 h=> ?_))))
  ·obtain rfl:=so h
   exact rq hC [] [2] [(2,vS [45,57,50,50,51,51,55,50,48,51,54,56,53,52,55,55,53,56,48,56])] [] [] (qr eR)
  ·refine qk (qs (rq hC [] [6,7] [(7,vB (decide (n_a0<0)))] [] [] (aT h (fun c2 h=> ?_) (fun c2 h=> ?_))))
   ·obtain⟨x1,hx1,x2,hx2,h⟩:=cP h
    obtain rfl:=so h
    exact rq hC [oV (ih (wr (0-n_a0)) hx1),oS hx2] [2,8,9,10,11] [(2,vS x2)] [] [] (qr eR)
   ·refine qk (rq hC [] [3] [(3,vS [])] [] [] (qs (qb (jP h (fun x_=>aY [(0,vI x_.1),(3,vS x_.2)] [] []) lS ?_))))
    rintro again5 ⟨x3,x4⟩ h
    refine qs (rq hC [] [12,13] [(13,vB (decide ((9:Int)<x3)))] [] [] (aT h (fun c3 h=> ?_) (fun c3 h=> ?_)))
    ·refine qk (qb ?_)
     obtain⟨x6,hx6,h⟩:=bd h
     exact rq hC [.z (.y (UInt8.ofInt (wr (48+(Int.tmod x3 10))))),.z (.int 0),.z (.str [UInt8.ofInt (wr (48+(Int.tmod x3 10)))]),oQ (show(10:Int)≠0 by decide),oQ (Eq.refl (UInt8.ofInt (wr (48+(Int.tmod x3 10))))),oQ (Eq.refl (List.map lH [UInt8.ofInt (wr (48+(Int.tmod x3 10)))])),oS hx6] [3,14,15,16,17,18,19,20,21] [(3,vS x6)] [] [] (rk hC [oQ (show(10:Int)≠0 by decide)] [0,22,23] [(0,vI (wr (Int.tdiv x3 10)))] [] [] (lE h))
    ·refine cT ?_
     obtain⟨x7,hx7,h⟩:=bd h
     obtain rfl:=so h
     exact rq hC [.z (.y (UInt8.ofInt (wr (48+x3)))),.z (.int 0),.z (.str [UInt8.ofInt (wr (48+x3))]),oQ (Eq.refl (UInt8.ofInt (wr (48+x3)))),oQ (Eq.refl (List.map lH [UInt8.ofInt (wr (48+x3))])),oS hx7] [2,24,25,26,27,28,29,30] [(2,vS x7)] [] [] (qr eR)
theorem O9{n_a0}{name}{r}(h:xD n n_a0 name=some r):PQ G 318 [vI n_a0,vS name] (vS r):=by
 unfold xD at h
 refine pq aO Tryz.func318 rfl fun w X hC=> ?_
 refine rq hC [] [4] [] [] [] (rq hC [] [5] [(5,vS [43])] [] [] (vj h (fun x_=>aY [(0,vI x_.1),(1,vS name),(5,vS x_.2)] [] []) (fun j1 h=> ?_) ?_))
 ·
  refine rq hC [] [6,7] [(7,vB (decide (n_a0<0)))] [] [] (aT h (fun c1 h=> ?_) (fun c1 h=> ?_))
  ·exact rq hC [] [5] [(5,vS [45])] [] [] (rk hC [] [0,8,9] [(0,vI (wr (0-n_a0)))] [] [] (lE h))
  ·exact qk (lE h)
 ·rintro⟨x2,x3⟩ h
  refine qs (rq hC [] [10,11] [(11,vB (decide (name=[])))] [] [] (aT h (fun c2 h=> ?_) (fun c2 h=> ?_)))
  ·obtain⟨x4,hx4,x5,hx5,h⟩:=cP h
   obtain rfl:=so h
   exact rq hC [oV (sB G n x2 hx4),oS hx5] [4,12,13,14,15] [(4,vS x5)] [] [] (qr eR)
  ·refine qk (qs (rq hC [] [16,17] [(17,vB (decide (x2=1)))] [] [] (aT h (fun c3 h=> ?_) (fun c3 h=> ?_))))
   ·obtain⟨x6,hx6,h⟩:=bd h
    obtain rfl:=so h
    exact rq hC [oS hx6] [4,18,19,20] [(4,vS x6)] [] [] (qr eR)
   ·refine qk ?_
    obtain⟨x7,hx7,x8,hx8,x9,hx9,h⟩:=kG h
    obtain⟨x10,hx10,h⟩:=bd h
    obtain rfl:=so h
    exact rq hC [oV (sB G n x2 hx7),oS hx8,oS hx9,oS hx10] [4,21,22,23,24,25,26,27] [(4,vS x10)] [] [] (qr eR)
theorem wO{a}{r}(h:tL n a=some r):PQ G 294 [V.agg (aK a)] (vS r):=by
 unfold tL at h
 refine pq aO Tryz.func294 rfl fun w X hC=> ?_
 refine rq hC [.z (.b (true))] [1,2] [(1,V.tp (aQ a))] [] [] (rq hC [] [3] [(3,vS [])] [] [] (qs (rq hC [] [4] [(4,vI 0)] [] [] (qb (jP h (fun x_=>aY [(1,V.tp (aQ a)),(3,vS x_.1),(4,vI x_.2)] [] []) lS ?_)))))
 rintro again3 ⟨x1,x2⟩ h
 refine qs (rq hC [oN rI a.coefs] (fr 5 5) [(9,vB (decide (x2<(a.coefs.length:Int))))] [] [] (aT h (fun c1 h=> ?_) (fun c1 h=> ?_)))
 ·refine qk (vj h (fun x_=>aY [(1,V.tp (aQ a)),(3,vS x_),(4,vI x2)] [] []) (fun j4 h=> ?_) (fun x9 h=> ?_))
  ·
   refine qb ?_
   obtain⟨x5,hx5,h⟩:=bd h
   refine rq hC [oR rI hx5] (fr 12 6) [(17,vB (!decide (x5=0)))] [] [] (aT h (fun c2 h=> ?_) (fun c2 h=> ?_))
   ·obtain⟨x6,hx6,x7,hx7,x8,hx8,h⟩:=kG h
    exact dk hC bC [oR rI hx5,oS hx6,oV (O9 G hx7),oS hx8] [3,18,19,20,21,22,23,24,25,26,27,28,29] [(3,vS x8)] [] [] (lE h)
   ·exact qk (lE h)
  ·exact rk hC [] [4,10,11] [(4,vI (wr (x2+1)))] [] [] (lE h)
 ·refine cT (vj h (fun x_=>aY [(3,vS x_)] [] []) (fun j10 h=> ?_) (fun x13 h=> ?_))
  ·
   refine rq hC [] [30,31,32] [(32,vB (!decide (a.const=0)))] [] [] (aT h (fun c3 h=> ?_) (fun c3 h=> ?_))
   ·obtain⟨x11,hx11,x12,hx12,h⟩:=cP h
    exact rk hC [oV (O9 G hx11),oS hx12] [3,33,34,35,36,37] [(3,vS x12)] [] [] (lE h)
   ·exact qk (lE h)
  ·refine qs (rq hC [] [38,39] [(39,vB (decide (x13=[])))] [] [] (aT h (fun c4 h=> ?_) (fun c4 h=> ?_)))
   ·obtain rfl:=so h
    exact rq hC [] [2] [(2,vS [48])] [] [] (qr eR)
   ·refine qk (qs ?_)
    obtain⟨x14,hx14,h⟩:=bd h
    refine rq hC [oS hx14] [40,41,42] [(42,vB (decide (x14=[43])))] [] [] (aT h (fun c5 h=> ?_) (fun c5 h=> ?_))
    ·obtain⟨x15,hx15,h⟩:=bd h
     obtain rfl:=so h
     exact rq hC [oS hx15] [2,43,44] [(2,vS x15)] [] [] (qr eR)
    ·obtain rfl:=so h
     exact qk (rq hC [] [2,45] [(2,vS x13)] [] [] (qr eR))
end Go.Lift
