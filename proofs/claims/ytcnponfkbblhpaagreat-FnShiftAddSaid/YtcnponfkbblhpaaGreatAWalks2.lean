/- The walks: the code computes what the plain functions say. -/
import Derived.Test.YtcnponfkbblhpaaGreatAModels
import Derived.Test.YtcnponfkbblhpaaGreatAWalks1
set_option maxRecDepth 10000
set_option linter.unusedVariables false
namespace Go.Lift
open Go Go.Proofs
variable (G:GS) {n:Nat}
theorem sN{a}{r}(h:kM n a=some r):PQ G 219 [V.agg (aJ a)] (vI r):=by
 unfold kM at h
 refine pq aN Tryz.func219 rfl fun w X hC=> ?_
 refine rq hC [.z (.b (true))] [1,2] [(1,V.tp (aQ a))] [] [] (rq hC [] [3] [(3,vI 0)] [] [] (qs (rq hC [] [4] [(4,vI 0)] [] [] (qb (jA h (fun x_=>aY [(1,V.tp (aQ a)),(3,vI x_.1),(4,vI x_.2)] [] []) lS ?_)))))
 rintro again3 ⟨x1,x2⟩ h
 refine qs (rq hC [oN rI a.coefs] (fr 5 5) [(9,vB (decide (x2<(a.coefs.length:Int))))] [] [] (aT h (fun c1 h=> ?_) (fun c1 h=> ?_)))
 ·refine qk (vj h (fun x_=>aY [(1,V.tp (aQ a)),(3,vI x_),(4,vI x2)] [] []) (fun j4 h=> ?_) (fun x6 h=> ?_))
  ·
   refine qb ?_
   obtain⟨x5,hx5,h⟩:=bd h
   refine rq hC [oR rI hx5] (fr 12 6) [(17,vB (!decide (x5=0)))] [] [] (aT h (fun c2 h=> ?_) (fun c2 h=> ?_))
   ·exact rk hC [] [3,18,19] [(3,vI (wr (x2+1)))] [] [] (lE h)
   ·exact qk (lE h)
  ·exact rk hC [] [4,10,11] [(4,vI (wr (x2+1)))] [] [] (lE h)
 ·obtain rfl:=so h
  exact cQ (rq hC [] [2,20] [(2,vI x1)] [] [] (qr eR))
theorem dM{a}{r}(h:dR n a=some r):PQ G 277 [V.agg (aJ a)] (vB r):=by
 unfold dR at h
 refine pq aN Tryz.func277 rfl fun w X hC=> ?_
 refine rq hC [.z (.b (true))] [1,2] [(1,V.tp (aQ a))] [] [] (qs (rq hC [] [3] [(3,vI 0)] [] [] (qb (jA h (fun x_=>aY [(1,V.tp (aQ a)),(3,vI x_)] [] []) lS ?_))))
 rintro again2 x1 h
 refine qs (rq hC [oN rI a.coefs] (fr 4 5) [(8,vB (decide (x1<(a.coefs.length:Int))))] [] [] (aT h (fun c1 h=> ?_) (fun c1 h=> ?_)))
 ·refine qk (qs (qb ?_))
  obtain⟨x3,hx3,x4,hx4,h⟩:=cT h
  refine rq hC [oR rI hx3,oV (mL G hx4)] (fr 11 7) [(17,vB (!x4))] [] [] (aT h (fun c2 h=> ?_) (fun c2 h=> ?_))
  ·obtain rfl:=so h
   exact rq hC [] [2] [(2,vB false)] [] [] (qr eR)
  ·exact qk (rk hC [] [3,9,10] [(3,vI (wr (x1+1)))] [] [] (lE h))
 ·refine cQ (vj h (fun x_=>aY [(2,vB x_)] [] []) (fun j5 h=> ?_) (fun x7 h=> ?_))
  ·
   refine aR h (fun c3 h=> ?_) (fun c3 h=> ?_)
   ·exact rk hC ([oN rI a.coefs]++rF 4 c3) [2,18,19,20,21,22,23,24,25,26] [(2,vB false)] [] [] (lE h)
   ·obtain⟨x6,hx6,h⟩:=bd h
    exact rk hC ([oN rI a.coefs]++rT 3 c3++[oV (mL G hx6),oT c3]) [2,18,19,20,21,22,23,24,25,26] [(2,vB x6)] [] [] (lE h)
  ·obtain rfl:=so h
   exact qr eR
theorem uI{list}{depth}{r}(h:o4 n list depth=some r):PQ G 276 [vM aA list,vI depth] (vB r):=by
 unfold o4 at h
 refine pq aN Tryz.func276 rfl fun w X hC=> ?_
 refine rq hC [] [4] [] [] [] (qs (rq hC [] [5] [(5,vI 0)] [] [] (qb (jA h (fun x_=>aY [(0,vM aA list),(1,vI depth),(5,vI x_)] [] []) lS ?_))))
 rintro again2 x1 h
 refine qs (rq hC [oN aA list] (fr 6 4) [(9,vB (decide (x1<(list.length:Int))))] [] [] (aT h (fun c1 h=> ?_) (fun c1 h=> ?_)))
 ·refine qk (qs (qb (vj h (fun x_=>aY [(0,vM aA list),(1,vI depth),(5,vI x1),(26,vB x_)] [] []) (fun j3 h=> ?_) (fun x7 h=> ?_))))
  ·
   obtain⟨x4,hx4,x5,hx5,h⟩:=cT h
   refine aR h (fun c2 h=> ?_) (fun c2 h=> ?_)
   ·obtain⟨x6,hx6,h⟩:=bd h
    exact rk hC ([oR aA hx4,oV (dM G hx5)]++rF 3 c2++[oR aA hx4,oF c2,oF c2,oV (sN G hx6)]++rF 3 c2) (fr 12 15) [(26,vB (decide (depth<x6)))] [] [] (lE h)
   ·exact rk hC ([oR aA hx4,oV (dM G hx5)]++rT 8 c2) (fr 12 15) [(26,vB true)] [] [] (lE h)
  ·refine aT h (fun c3 h=> ?_) (fun c3 h=> ?_)
   ·obtain rfl:=so h
    exact rq hC [] [4] [(4,vB false)] [] [] (qr eR)
   ·exact qk (rk hC [] [5,10,11] [(5,vI (wr (x1+1)))] [] [] (lE h))
 ·refine cQ (vj h (fun x_=>aY [(4,vB x_)] [] []) (fun j8 h=> ?_) (fun x9 h=> ?_))
  ·
   refine aR h (fun c4 h=> ?_) (fun c4 h=> ?_)
   ·exact rk hC ([oN aA list]++rF 4 c4) [4,27,28,29,30,31,32,33,34] [(4,vB false)] [] [] (lE h)
   ·exact rk hC [oN aA list,oT c4,oT c4,oN aA list,oT c4,oT c4] [4,27,28,29,30,31,32,33,34] [(4,vB (decide ((list.length:Int)≤2)))] [] [] (lE h)
  ·obtain rfl:=so h
   exact qr eR
theorem tR{nest}{r}(h:lP n nest=some r):PQ G 241 [vM aC nest] (vB r):=by
 unfold lP at h
 refine pq aN Tryz.func241 rfl fun w X hC=> ?_
 refine rq hC [] [2] [] [] [] (qs (rq hC [] [3] [(3,vI 0)] [] [] (qb (jA h (fun x_=>aY [(0,vM aC nest),(3,vI x_)] [] []) lS ?_))))
 rintro again2 x1 h
 refine qs (vj h (fun x_=>aY [(0,vM aC nest),(3,vI x1),(12,vB x_)] [] []) (fun j3 h=> ?_) (fun x4 h=> ?_))
 ·
  refine aR h (fun c1 h=> ?_) (fun c1 h=> ?_)
  ·exact rk hC ([oN aC nest]++rF 4 c1) (fr 4 9) [(12,vB false)] [] [] (lE h)
  ·exact rk hC [oN aC nest,oT c1,oT c1,oN aC nest,oT c1,oT c1] (fr 4 9) [(12,vB (decide ((nest.length:Int)≤4)))] [] [] (lE h)
 ·refine aT h (fun c2 h=> ?_) (fun c2 h=> ?_)
  ·refine qk (qs (qb (vj h (fun x_=>aY [(0,vM aC nest),(3,vI x1),(32,vB x_)] [] []) (fun j5 h=> ?_) (fun x9 h=> ?_))))
   ·
    obtain⟨x6,hx6,x7,hx7,h⟩:=cT h
    refine aR h (fun c3 h=> ?_) (fun c3 h=> ?_)
    ·obtain⟨x8,hx8,h⟩:=bd h
     exact rk hC ([oR aC hx6,oV (uI G hx7)]++rF 3 c3++[oR aC hx6]++rF 4 c3++[oV (uI G hx8),oF c3,oF c3]) (fr 15 18) [(32,vB (!x8))] [] [] (lE h)
    ·exact rk hC ([oR aC hx6,oV (uI G hx7)]++rT 9 c3) (fr 15 18) [(32,vB true)] [] [] (lE h)
   ·refine aT h (fun c4 h=> ?_) (fun c4 h=> ?_)
    ·obtain rfl:=so h
     exact rq hC [] [2] [(2,vB false)] [] [] (qr eR)
    ·exact qk (rk hC [] [3,13,14] [(3,vI (wr (x1+1)))] [] [] (lE h))
  ·obtain rfl:=so h
   exact cQ (rq hC [oN aC nest] [2,33,34,35] [(2,vB (decide ((nest.length:Int)≤4)))] [] [] (qr eR))
theorem yK{loop}{p}{r}(h:mU n loop p=some r):PQ G 202 [V.agg (jI loop),vM rI p] (V.tup [vI r.1,vI r.2]):=by
 unfold mU at h
 refine pq aN Tryz.func202 rfl fun w X hC=> ?_
 refine rq hC [.z (.b (true))] [2,4,5] [(2,V.tp (tI loop))] [] [] ?_
 obtain⟨x1,hx1,x2,hx2,h⟩:=cT h
 refine rq hC [oR aA hx1,oV (nU G hx2)] [6,12,13,14,15,16,17] [(6,vI x2)] [] [] ?_
 obtain⟨x3,hx3,x4,hx4,h⟩:=cT h
 refine rq hC [oR aA hx3,oV (nU G hx4)] [7,18,19,20,21,22,23] [(7,vI x4)] [] [] (qs (rq hC [] [8] [(8,vI 1)] [] [] (qb (jA h (fun x_=>aY [(1,vM rI p),(2,V.tp (tI loop)),(6,vI x_.1),(7,vI x4),(8,vI x_.2)] [] []) lS ?_))))
 rintro again7 ⟨x5,x6⟩ h
 refine qs (rq hC [oN aA loop.lo] (fr 24 5) [(28,vB (decide (x6<(loop.lo.length:Int))))] [] [] (aT h (fun c1 h=> ?_) (fun c1 h=> ?_)))
 ·refine qk (vj h (fun x_=>aY [(1,vM rI p),(2,V.tp (tI loop)),(6,vI x_),(7,vI x4),(8,vI x6)] [] []) (fun j8 h=> ?_) (fun x11 h=> ?_))
  ·
   refine qb ?_
   obtain⟨x9,hx9,x10,hx10,h⟩:=cT h
   refine rq hC [oR aA hx9,oV (nU G hx10)] [9,31,32,33,34,35,36,37] [(9,vI x10)] [] [] (rq hC [] [38,39,40] [(40,vB (decide (x5<x10)))] [] [] (aT h (fun c2 h=> ?_) (fun c2 h=> ?_)))
   ·exact rk hC [] [6,41] [(6,vI x10)] [] [] (lE h)
   ·exact qk (lE h)
  ·exact rk hC [] [8,29,30] [(8,vI (wr (x6+1)))] [] [] (lE h)
 ·refine cQ (qs (rq hC [] [10] [(10,vI 1)] [] [] (qb (jA h (fun x_=>aY [(1,vM rI p),(2,V.tp (tI loop)),(6,vI x5),(7,vI x_.1),(10,vI x_.2)] [] []) lS ?_))))
  rintro again14 ⟨x12,x13⟩ h
  refine qs (rq hC [oN aA loop.hi] (fr 42 5) [(46,vB (decide (x13<(loop.hi.length:Int))))] [] [] (aT h (fun c3 h=> ?_) (fun c3 h=> ?_)))
  ·refine qk (vj h (fun x_=>aY [(1,vM rI p),(2,V.tp (tI loop)),(6,vI x5),(7,vI x_),(10,vI x13)] [] []) (fun j15 h=> ?_) (fun x18 h=> ?_))
   ·
    refine qb ?_
    obtain⟨x16,hx16,x17,hx17,h⟩:=cT h
    refine rq hC [oR aA hx16,oV (nU G hx17)] [11,49,50,51,52,53,54,55] [(11,vI x17)] [] [] (rq hC [] [56,57,58] [(58,vB (decide (x17<x12)))] [] [] (aT h (fun c4 h=> ?_) (fun c4 h=> ?_)))
    ·exact rk hC [] [7,59] [(7,vI x17)] [] [] (lE h)
    ·exact qk (lE h)
   ·exact rk hC [] [10,47,48] [(10,vI (wr (x13+1)))] [] [] (lE h)
  ·obtain rfl:=so h
   exact cQ (rq hC [] [4,5,60,61] [(4,vI x5),(5,vI x12)] [] [] (qr eR))
theorem aB6(G:GS): ∀(n:Nat) (nest:List Loop) (p:List Int) (most:Int) {r:Int} (h:s_l2Work n nest p most=some r),PQ G 242 [vM aC nest,vM rI p,vI most] (vI r):=by
 intro n
 induction n with
 |zero=>intro nest p most r h;rw [s_l2Work.eq_def] at h;cases h
 |succ n ih=>
  intro nest p most r h
  rw [s_l2Work.eq_def] at h;dsimp only at h
  refine pq aN Tryz.func242 rfl fun w X hC=> ?_
  refine rq hC [] [6] [] [] [] (rq hC [] [7] [(7,vI 1)] [] [] (qs (rq hC [oN rI p,oN aC nest] (fr 11 5) [(15,vB (decide ((p.length:Int)=(nest.length:Int))))] [] [] (aT h (fun c1 h=> ?_) (fun c1 h=> ?_)))))
  ·obtain rfl:=so h
   exact rq hC [] [6,16] [(6,vI 1)] [] [] (qr eR)
  ·refine qk ?_
   obtain⟨x1,hx1,x2,hx2,h⟩:=cT h
   refine rq hC [oN rI p,oR aC hx1,oV (yK G hx2)] [8,9,17,18,19,20,21,22,23,24,25,26] [(8,vI x2.1),(9,vI x2.2)] [] [] (qs (rq hC [] [10,27] [(10,vI x2.1)] [] [] (qb (jA h (fun x_=>aY [(0,vM aC nest),(1,vM rI p),(2,vI most),(7,vI x_.1),(9,vI x2.2),(10,vI x_.2)] [] []) lS ?_))))
   rintro again5 ⟨x3,x4⟩ h
   refine qs (vj h (fun x_=>aY [(0,vM aC nest),(1,vM rI p),(2,vI most),(7,vI x3),(9,vI x2.2),(10,vI x4),(35,vB x_)] [] []) (fun j6 h=> ?_) (fun x7 h=> ?_))
   ·
    refine aR h (fun c2 h=> ?_) (fun c2 h=> ?_)
    ·exact rk hC (rF 4 c2) (fr 28 8) [(35,vB false)] [] [] (lE h)
    ·exact rk hC (rT 4 c2) (fr 28 8) [(35,vB (decide (x3≤most)))] [] [] (lE h)
   ·refine aT h (fun c3 h=> ?_) (fun c3 h=> ?_)
    ·refine qk (qs (qb ?_))
     obtain⟨x8,hx8,x9,hx9,x10,hx10,h⟩:=kH h
     exact rk hC [.z (.nat 20),oA (aO rI hx8),.z (.int 0),oQ (bO (r:=rI) 1 (fun _=>rfl) []),oQ (bO (r:=rI) 1 (fun _=>rfl) p),oA (aO rI hx9),.z (.b (true)),oQ (bO (r:=rI) 1 (fun _=>rfl) x8),oQ (bO (r:=rI) 1 (fun _=>rfl) [x4]),oV (ih nest x9 (wr (most-x3)) hx10)] [7,38,39,40,41,42,43,44,45,46,47,48,49,50] [(7,vI (wr (x3+x10)))] [(20,some (ar 3 3 1 rI x9))] [(20,true)] (rk hC [] [10,36,37] [(10,vI (wr (x4+1)))] [] [] (lE h))
    ·obtain rfl:=so h
     exact cQ (rq hC [] [6,51] [(6,vI x3)] [] [] (qr eR))
theorem U9(G:GS): ∀(n:Nat) (out:List (List Int)) (outG:Nat) (nest:List Loop) (p:List Int) {r:(List (List Int))} (h:s_l2Points n out nest p=some r),VQ G 147 [ar 45 outG 1 (rL rI) out] [ms 0 outG 1 (rL rI) out,vM aC nest,vM rI p] (ms 0 (outG+1) 1 (rL rI) r) [ar 45 (outG+1) 1 (rL rI) r]:=by
 intro n
 induction n with
 |zero=>intro out outG nest p r h;rw [s_l2Points.eq_def] at h;cases h
 |succ n ih=>
  intro out outG nest p r h
  rw [s_l2Points.eq_def] at h;dsimp only at h
  refine vq aN Tryz.func147 rfl fun w X β0 hC hg=> ?_
  refine rq hC [] [6] [] [] [] (qs (rq hC [oN rI p,oN aC nest] (fr 10 5) [(14,vB (decide ((p.length:Int)=(nest.length:Int))))] [] [] (aT h (fun c1 h=> ?_) (fun c1 h=> ?_))))
  ·obtain⟨x1,hx1,x2,hx2,h⟩:=cT h
   obtain rfl:=so h
   exact rq hC [.z (.nat 20),oA (aO rI hx1),.z (.at 3),.z (.fz 20 [18] []),.z (.int 0),oQ (bO (r:=rI) 1 (fun _=>rfl) []),oQ (bO (r:=rI) 1 (fun _=>rfl) p),oA (aO (rL rI) hx2),oQ (bO (r:=(rL rI)) 1 (fun _=>rfl) out),oQ (bO (r:=(rL rI)) 1 (fun _=>rfl) [x1])] [0,6,15,16,17,18,19,20] [(6,ms 0 (outG+1) 1 (rL rI) x2)] [(20,none),(0,some (ar 45 (outG+1) 1 (rL rI) x2))] [(20,true)] (qw (sY 6 0 outG (outG+1) 1 0 (List.map (rL rI) x2).length (e:= .arr 45 (outG+1) 1 (List.map (rL rI) x2)) rfl (by kernel_rfl) (by kernel_rfl) rfl rfl hg.1) (qr eW))
  ·refine qk ?_
   obtain⟨x3,hx3,x4,hx4,h⟩:=cT h
   refine rq hC [oN rI p,oR aC hx3,oV (yK G hx4)] [7,8,21,22,23,24,25,26,27,28,29,30] [(7,vI x4.1),(8,vI x4.2)] [] [] (qs (rq hC [] [9,31] [(9,vI x4.1)] [] [] (qb (bC (γ:=Nat) h (fun x_ g_=>aY [(0,ms 0 g_ 1 (rL rI) x_.1),(1,vM aC nest),(2,vM rI p),(8,vI x4.2),(9,vI x_.2)] [(0,ar 45 g_ 1 (rL rI) x_.1)] [0]) outG (lS) ?_))))
   rintro again8 ⟨x5,x6⟩ g7 h
   refine qs (vj h (fun x_=>aY [(0,ms 0 g7 1 (rL rI) x5),(1,vM aC nest),(2,vM rI p),(8,vI x4.2),(9,vI x6),(39,vB x_)] [(0,ar 45 g7 1 (rL rI) x5)] [0]) (fun j9 h=> ?_) (fun x10 h=> ?_))
   ·
    refine aR h (fun c2 h=> ?_) (fun c2 h=> ?_)
    ·exact rk hC (rF 4 c2) (fr 32 8) [(39,vB false)] [] [] (lE h)
    ·exact rk hC [oT c2,oT c2,oN (rL rI) x5,oT c2,oT c2] (fr 32 8) [(39,vB (decide ((x5.length:Int)≤120)))] [] [] (lE h)
   ·refine aT h (fun c3 h=> ?_) (fun c3 h=> ?_)
    ·refine qk (qs (qb ?_))
     obtain⟨x11,hx11,x12,hx12,x13,hx13,h⟩:=kH h
     exact rk hC [.z (.nat 20),oA (aO rI hx11),.z (.int 0),oQ (bO (r:=rI) 1 (fun _=>rfl) []),oQ (bO (r:=rI) 1 (fun _=>rfl) p),oA (aO rI hx12),.z (.at 2),.z (.fz 20 [49] []),oQ (bO (r:=rI) 1 (fun _=>rfl) x11),oQ (bO (r:=rI) 1 (fun _=>rfl) [x6]),oC [0] [] (ih x5 g7 nest x12 hx13)] [0,42,43,44,45,46,47,48,49,50] [(0,ms 0 (g7+1) 1 (rL rI) x13)] [(20,none),(0,some (ar 45 (g7+1) 1 (rL rI) x13))] [(20,true),(0,true)] (rk hC [] [9,40,41] [(9,vI (wr (x6+1)))] [] [] ⟨(x13,wr (x6+1)),(g7+1),h,lS⟩)
    ·obtain rfl:=so h
     exact cQ (rq hC [] [6,51] [(6,ms 0 g7 1 (rL rI) x5)] [] [] (qw (sY 6 0 outG g7 1 0 (List.map (rL rI) x5).length (e:= .arr 45 g7 1 (List.map (rL rI) x5)) rfl (by kernel_rfl) (by kernel_rfl) rfl rfl hg.1) (qr eW)))
theorem I0{nest}{r}(h:jQ n nest=some r):VQ G 198 [] [vM aC nest] (V.tup [ms 0 1 1 (rL rI) r.1,vB r.2]) [ar 45 1 1 (rL rI) r.1]:=by
 unfold jQ at h
 refine vq aN Tryz.func198 rfl fun w X β0 hC hg=> ?_
 refine rq hC [] [2,3] [] [] [] (qs (vj h (fun x_=>aY [(0,vM aC nest),(12,vB x_)] [] []) (fun j1 h=> ?_) (fun x4 h=> ?_)))
 ·
  obtain⟨x2,hx2,h⟩:=bd h
  refine aR h (fun c1 h=> ?_) (fun c1 h=> ?_)
  ·obtain⟨x3,hx3,h⟩:=bd h
   exact rk hC [oV (tR G hx2),oF c1,oF c1,oV (aB6 G n nest [] 1200 hx3),oF c1,oF c1] (fr 5 8) [(12,vB (decide ((1200:Int)<x3)))] [] [] (lE h)
  ·exact rk hC ([oV (tR G hx2)]++rT 4 c1) (fr 5 8) [(12,vB true)] [] [] (lE h)
 ·refine aT h (fun c2 h=> ?_) (fun c2 h=> ?_)
  ·obtain rfl:=so h
   exact rq hC [.z (.nat 20)] [2,3,13] [(2,ms 20 1 1 (rL rI) []),(3,vB false)] [(20,some (ar 45 1 1 (rL rI) []))] [(20,true)] (qw (lk hC [.ren 2 20 0] [2] [(2,ms 0 1 1 (rL rI) [])] [(0,some (ar 45 1 1 (rL rI) [])),(20,none)] [(0,true)]) (qr eW))
  ·refine qk ?_
   obtain⟨x5,hx5,h⟩:=bd h
   refine rq hC [.z (.nat 20),oC [20] [] (U9 G n [] 1 nest [] hx5)] [4,14,15,16] [(4,ms 20 2 1 (rL rI) x5)] [(20,some (ar 45 2 1 (rL rI) x5))] [(20,true),(20,true)] (qs (rq hC [oN (rL rI) x5] [17,18,19] [(19,vB (decide ((120:Int)<(x5.length:Int))))] [] [] (aT h (fun c3 h=> ?_) (fun c3 h=> ?_))))
   ·obtain rfl:=so h
    exact rq hC [.z (.nat 21)] [2,3,20] [(2,ms 21 1 1 (rL rI) []),(3,vB false)] [(21,some (ar 45 1 1 (rL rI) []))] [(21,true)] (qw (lk hC [.ren 2 21 0] [2] [(2,ms 0 1 1 (rL rI) [])] [(0,some (ar 45 1 1 (rL rI) [])),(21,none)] [(0,true)]) (qr eW))
   ·obtain rfl:=so h
    exact qk (rq hC [] [2,3,21] [(2,ms 20 2 1 (rL rI) x5),(3,vB true)] [] [] (qw (lk hC [.ren 2 20 0] [2] [(2,ms 0 1 1 (rL rI) x5)] [(0,some (ar 45 1 1 (rL rI) x5)),(20,none)] [(0,true)]) (qr eW)))
theorem qP{a}{depth}{r}(h:kL n a depth=some r):PQ G 243 [V.agg (b8 a),vI depth] (vB r):=by
 unfold kL at h
 refine pq aN Tryz.func243 rfl fun w X hC=> ?_
 refine rq hC [.z (.b (true))] [2,4] [(2,V.tp (dB a))] [] [] (qs (rq hC [] [5] [(5,vI 0)] [] [] (qb (jA h (fun x_=>aY [(1,vI depth),(2,V.tp (dB a)),(5,vI x_)] [] []) lS ?_))))
 rintro again2 x1 h
 refine qs (rq hC [oN aA a.subs] (fr 6 5) [(10,vB (decide (x1<(a.subs.length:Int))))] [] [] (aT h (fun c1 h=> ?_) (fun c1 h=> ?_)))
 ·refine qk (qs (qb (vj h (fun x_=>aY [(1,vI depth),(2,V.tp (dB a)),(5,vI x1),(29,vB x_)] [] []) (fun j3 h=> ?_) (fun x7 h=> ?_))))
  ·
   obtain⟨x4,hx4,x5,hx5,h⟩:=cT h
   refine aR h (fun c2 h=> ?_) (fun c2 h=> ?_)
   ·obtain⟨x6,hx6,h⟩:=bd h
    exact rk hC ([oR aA hx4,oV (dM G hx5)]++rF 4 c2++[oR aA hx4,oF c2,oF c2,oV (sN G hx6)]++rF 3 c2) (fr 13 17) [(29,vB (decide (depth<x6)))] [] [] (lE h)
   ·exact rk hC ([oR aA hx4,oV (dM G hx5)]++rT 9 c2) (fr 13 17) [(29,vB true)] [] [] (lE h)
  ·refine aT h (fun c3 h=> ?_) (fun c3 h=> ?_)
   ·obtain rfl:=so h
    exact rq hC [] [4] [(4,vB false)] [] [] (qr eR)
   ·exact qk (rk hC [] [5,11,12] [(5,vI (wr (x1+1)))] [] [] (lE h))
 ·refine cQ (vj h (fun x_=>aY [(4,vB x_)] [] []) (fun j8 h=> ?_) (fun x9 h=> ?_))
  ·
   refine aR h (fun c4 h=> ?_) (fun c4 h=> ?_)
   ·exact rk hC (rF 4 c4++sF 14) [4,30,31,32,33,34,35,36,37,38,39,40,41,42,43,44,45,46,47,48,49,50,51,52,53,54,55] [(4,vB false)] [] [] (lE h)
   ·refine aR h (fun c5 h=> ?_) (fun c5 h=> ?_)
    ·exact rk hC (rT 4 c4++rF 4 c5++sF 10) [4,30,31,32,33,34,35,36,37,38,39,40,41,42,43,44,45,46,47,48,49,50,51,52,53,54,55] [(4,vB false)] [] [] (lE h)
    ·refine aR h (fun c6 h=> ?_) (fun c6 h=> ?_)
     ·exact rk hC (rT 4 c4++rT 4 c5++rF 5 c6++sF 5) [4,30,31,32,33,34,35,36,37,38,39,40,41,42,43,44,45,46,47,48,49,50,51,52,53,54,55] [(4,vB false)] [] [] (lE h)
     ·refine aR h (fun c7 h=> ?_) (fun c7 h=> ?_)
      ·exact rk hC (rT 4 c4++rT 4 c5++rT 3 c6++[oN aA a.subs,oT c6,oT c6]++rF 5 c7) [4,30,31,32,33,34,35,36,37,38,39,40,41,42,43,44,45,46,47,48,49,50,51,52,53,54,55] [(4,vB false)] [] [] (lE h)
      ·exact rk hC (rT 4 c4++rT 4 c5++rT 3 c6++[oN aA a.subs,oT c6,oT c6]++rT 3 c7++[oN aA a.subs,oT c7,oT c7]) [4,30,31,32,33,34,35,36,37,38,39,40,41,42,43,44,45,46,47,48,49,50,51,52,53,54,55] [(4,vB (decide ((a.subs.length:Int)≤2)))] [] [] (lE h)
  ·obtain rfl:=so h
   exact qr eR
theorem G9{kind}{r}(h:rU n kind=some r):PQ G 278 [vI kind] (vI r):=by
 unfold rU at h
 refine pq aN Tryz.func278 rfl fun w X hC=> ?_
 refine rq hC [] [2] [] [] [] (qs (rq hC [] [3] [(3,vI kind)] [] [] (qb (vj h (fun x_=>aY [(3,vI kind),(4,vB x_)] [] []) (fun j1 h=> ?_) (fun x2 h=> ?_)))))
 ·
  refine rq hC [] [4,5] [(4,vB (decide (kind=1)))] [] [] (aT h (fun c1 h=> ?_) (fun c1 h=> ?_))
  ·exact qk (lE h)
  ·refine rq hC [] [4,6] [(4,vB (decide (kind=2)))] [] [] (aT h (fun c2 h=> ?_) (fun c2 h=> ?_))
   ·exact qk (lE h)
   ·exact rk hC [] [4,7] [(4,vB (decide (kind=3)))] [] [] (lE h)
 ·refine aT h (fun c3 h=> ?_) (fun c3 h=> ?_)
  ·obtain rfl:=so h
   exact rq hC [] [2] [(2,vI 0)] [] [] (qr eR)
  ·refine vj h (fun x_=>aY [(8,vB x_)] [] []) (fun j3 h=> ?_) (fun x4 h=> ?_)
   ·
    refine rq hC [] [8,9] [(8,vB (decide (kind=4)))] [] [] (aT h (fun c4 h=> ?_) (fun c4 h=> ?_))
    ·exact qk (lE h)
    ·refine rq hC [] [8,10] [(8,vB (decide (kind=5)))] [] [] (aT h (fun c5 h=> ?_) (fun c5 h=> ?_))
     ·exact qk (lE h)
     ·exact rk hC [] [8,11] [(8,vB (decide (kind=6)))] [] [] (lE h)
   ·refine aT h (fun c6 h=> ?_) (fun c6 h=> ?_)
    ·obtain rfl:=so h
     exact rq hC [] [2] [(2,vI 2)] [] [] (qr eR)
    ·obtain rfl:=so h
     exact qk (rq hC [] [2] [(2,vI (-1))] [] [] (qr eR))
theorem l3{a}{r}(h:kK n a=some r):PQ G 301 [V.agg (b8 a)] (vB r):=by
 unfold kK at h
 refine pq aN Tryz.func301 rfl fun w X hC=> ?_
 refine rq hC [.z (.b (true))] [1,2] [(1,V.tp (dB a))] [] [] (vj h (fun x_=>aY [(2,vB x_)] [] []) (fun j1 h=> ?_) (fun x2 h=> ?_))
 ·
  refine aR h (fun c1 h=> ?_) (fun c1 h=> ?_)
  ·exact rk hC (rF 5 c1) (fr 2 10) [(2,vB false)] [] [] (lE h)
  ·exact rk hC (rT 3 c1++[oN aA a.subs,oT c1,oT c1]) (fr 2 10) [(2,vB (decide ((a.subs.length:Int)=0)))] [] [] (lE h)
 ·obtain rfl:=so h
  exact qr eR
theorem kY{a}{r}(h:nD n a=some r):PQ G 302 [V.agg (aJ a)] (vB r):=by
 unfold nD at h
 refine pq aN Tryz.func302 rfl fun w X hC=> ?_
 refine rq hC [.z (.b (true))] [1,2] [(1,V.tp (aQ a))] [] [] (vj h (fun x_=>aY [(2,vB x_)] [] []) (fun j1 h=> ?_) (fun x2 h=> ?_))
 ·
  refine aR h (fun c1 h=> ?_) (fun c1 h=> ?_)
  ·exact rk hC ([oN rI a.coefs]++rF 4 c1) (fr 2 10) [(2,vB false)] [] [] (lE h)
  ·exact rk hC ([oN rI a.coefs]++rT 4 c1) (fr 2 10) [(2,vB (decide (a.const=0)))] [] [] (lE h)
 ·obtain rfl:=so h
  exact qr eR
theorem aDE{e}{depth}{r}(h:vA n e depth=some r):PQ G 279 [V.agg (cO e),vI depth] (vB r):=by
 unfold vA at h
 refine pq aN Tryz.func279 rfl fun w X hC=> ?_
 refine rq hC [.z (.b (true))] [2,4] [(2,V.tp (eX e))] [] [] (qs (rq hC [] [5,6,7] [(7,vB (decide (e.kind=2)))] [] [] (aT h (fun c1 h=> ?_) (fun c1 h=> ?_))))
 ·refine vj h (fun x_=>aY [(4,vB x_)] [] []) (fun j1 h=> ?_) (fun x5 h=> ?_)
  ·
   refine aR h (fun c2 h=> ?_) (fun c2 h=> ?_)
   ·exact rk hC (rF 4 c2++sF 10) [4,8,9,10,11,12,13,14,15,16,17,18,19,20,21,22,23,24,25,26,27] [(4,vB false)] [] [] (lE h)
   ·obtain⟨x2,hx2,h⟩:=bd h
    refine aR h (fun c3 h=> ?_) (fun c3 h=> ?_)
    ·exact rk hC (rT 3 c2++[oV (l3 G hx2),oT c2]++rF 4 c3++sF 6) [4,8,9,10,11,12,13,14,15,16,17,18,19,20,21,22,23,24,25,26,27] [(4,vB false)] [] [] (lE h)
    ·obtain⟨x3,hx3,h⟩:=bd h
     refine aR h (fun c4 h=> ?_) (fun c4 h=> ?_)
     ·exact rk hC (rT 3 c2++[oV (l3 G hx2),oT c2]++rT 3 c3++[oV (dM G hx3),oT c3]++rF 6 c4) [4,8,9,10,11,12,13,14,15,16,17,18,19,20,21,22,23,24,25,26,27] [(4,vB false)] [] [] (lE h)
     ·obtain⟨x4,hx4,h⟩:=bd h
      exact rk hC (rT 3 c2++[oV (l3 G hx2),oT c2]++rT 3 c3++[oV (dM G hx3),oT c3]++rT 3 c4++[oV (sN G hx4)]++rT 3 c4) [4,8,9,10,11,12,13,14,15,16,17,18,19,20,21,22,23,24,25,26,27] [(4,vB (decide (x4≤depth)))] [] [] (lE h)
  ·obtain rfl:=so h
   exact qr eR
 ·refine qk (qs (rq hC [] [28,29,30] [(30,vB (decide (e.kind=3)))] [] [] (aT h (fun c5 h=> ?_) (fun c5 h=> ?_))))
  ·refine vj h (fun x_=>aY [(4,vB x_)] [] []) (fun j6 h=> ?_) (fun x9 h=> ?_)
   ·
    refine aR h (fun c6 h=> ?_) (fun c6 h=> ?_)
    ·exact rk hC (rF 4 c6++sF 5) [4,31,32,33,34,35,36,37,38,39,40,41,42,43,44] [(4,vB false)] [] [] (lE h)
    ·obtain⟨x7,hx7,h⟩:=bd h
     refine aR h (fun c7 h=> ?_) (fun c7 h=> ?_)
     ·exact rk hC (rT 3 c6++[oV (kY G hx7),oT c6]++rF 5 c7) [4,31,32,33,34,35,36,37,38,39,40,41,42,43,44] [(4,vB false)] [] [] (lE h)
     ·obtain⟨x8,hx8,h⟩:=bd h
      exact rk hC (rT 3 c6++[oV (kY G hx7),oT c6]++rT 4 c7++[oV (qP G hx8),oT c7]) [4,31,32,33,34,35,36,37,38,39,40,41,42,43,44] [(4,vB x8)] [] [] (lE h)
   ·obtain rfl:=so h
    exact qr eR
  ·refine qk (qs (rq hC [] [45,46,47] [(47,vB (decide (e.kind=1)))] [] [] (aT h (fun c8 h=> ?_) (fun c8 h=> ?_))))
   ·refine vj h (fun x_=>aY [(4,vB x_)] [] []) (fun j10 h=> ?_) (fun x13 h=> ?_)
    ·
     refine aR h (fun c9 h=> ?_) (fun c9 h=> ?_)
     ·exact rk hC (rF 4 c9++sF 8) [4,48,49,50,51,52,53,54,55,56,57,58,59,60,61,62,63,64,65] [(4,vB false)] [] [] (lE h)
     ·refine aR h (fun c10 h=> ?_) (fun c10 h=> ?_)
      ·exact rk hC (rT 4 c9++rF 4 c10++sF 4) [4,48,49,50,51,52,53,54,55,56,57,58,59,60,61,62,63,64,65] [(4,vB false)] [] [] (lE h)
      ·obtain⟨x11,hx11,h⟩:=bd h
       refine aR h (fun c11 h=> ?_) (fun c11 h=> ?_)
       ·exact rk hC (rT 4 c9++rT 3 c10++[oV (kY G hx11),oT c10]++rF 4 c11) [4,48,49,50,51,52,53,54,55,56,57,58,59,60,61,62,63,64,65] [(4,vB false)] [] [] (lE h)
       ·obtain⟨x12,hx12,h⟩:=bd h
        exact rk hC (rT 4 c9++rT 3 c10++[oV (kY G hx11),oT c10]++rT 3 c11++[oV (l3 G hx12),oT c11]) [4,48,49,50,51,52,53,54,55,56,57,58,59,60,61,62,63,64,65] [(4,vB x12)] [] [] (lE h)
    ·obtain rfl:=so h
     exact qr eR
   ·refine qk (vj h (fun x_=>aY [(4,vB x_)] [] []) (fun j14 h=> ?_) (fun x17 h=> ?_))
    ·
     refine aR h (fun c12 h=> ?_) (fun c12 h=> ?_)
     ·exact rk hC (rF 4 c12++sF 4) [4,66,67,68,69,70,71,72,73,74,75,76,77,78] [(4,vB false)] [] [] (lE h)
     ·obtain⟨x15,hx15,h⟩:=bd h
      refine aR h (fun c13 h=> ?_) (fun c13 h=> ?_)
      ·exact rk hC (rT 3 c12++[oV (kY G hx15),oT c12]++rF 4 c13) [4,66,67,68,69,70,71,72,73,74,75,76,77,78] [(4,vB false)] [] [] (lE h)
      ·obtain⟨x16,hx16,h⟩:=bd h
       exact rk hC (rT 3 c12++[oV (kY G hx15),oT c12]++rT 3 c13++[oV (l3 G hx16),oT c13]) [4,66,67,68,69,70,71,72,73,74,75,76,77,78] [(4,vB x16)] [] [] (lE h)
    ·obtain rfl:=so h
     exact qr eR
theorem aAv(G:GS): ∀(n:Nat) (e:Expr) (depth:Int) (levels:Int) {r:Bool} (h:s_l3Shape n e depth levels=some r),PQ G 244 [V.agg (cO e),vI depth,vI levels] (vB r):=by
 intro n
 induction n with
 |zero=>intro e depth levels r h;rw [s_l3Shape.eq_def] at h;cases h
 |succ n ih=>
  intro e depth levels r h
  rw [s_l3Shape.eq_def] at h;dsimp only at h
  refine pq aN Tryz.func244 rfl fun w X hC=> ?_
  refine rq hC [.z (.b (true))] [3,6] [(3,V.tp (eX e))] [] [] (qs (vj h (fun x_=>aY [(1,vI depth),(2,vI levels),(3,V.tp (eX e)),(24,vB x_)] [] []) (fun j1 h=> ?_) (fun x4 h=> ?_)))
  ·
   refine aR h (fun c1 h=> ?_) (fun c1 h=> ?_)
   ·obtain⟨x2,hx2,h⟩:=bd h
    refine aR h (fun c2 h=> ?_) (fun c2 h=> ?_)
    ·obtain⟨x3,hx3,h⟩:=bd h
     exact dk hC bD (rF 3 c1++[oV (G9 G hx2)]++rF 3 c1++[oN aH e.kids,oF c1,oF c1]++rF 3 c2++[oV (aDE G hx3),oF c2,oF c2]) (fr 8 17) [(24,vB (!x3))] [] [] (lE h)
    ·exact dk hC bD (rF 3 c1++[oV (G9 G hx2)]++rF 3 c1++[oN aH e.kids,oF c1,oF c1]++rT 5 c2) (fr 8 17) [(24,vB true)] [] [] (lE h)
   ·exact dk hC bD (rT 8 c1++sT 5) (fr 8 17) [(24,vB true)] [] [] (lE h)
  ·refine aT h (fun c3 h=> ?_) (fun c3 h=> ?_)
   ·obtain rfl:=so h
    exact rq hC [] [6] [(6,vB false)] [] [] (qr eR)
   ·refine qk (qs (rq hC [] [7] [(7,vI 0)] [] [] (qb (jA h (fun x_=>aY [(1,vI depth),(2,vI levels),(3,V.tp (eX e)),(7,vI x_)] [] []) lS ?_))))
    rintro again6 x5 h
    refine qs (rq hC [oN aH e.kids] (fr 25 5) [(29,vB (decide (x5<(e.kids.length:Int))))] [] [] (aT h (fun c4 h=> ?_) (fun c4 h=> ?_)))
    ·refine qk (qs (qb ?_))
     obtain⟨x7,hx7,x8,hx8,h⟩:=cT h
     refine rq hC [.z (.row (d7 x7)),oQ (eY aH hx7 (cS x7)),oV (ih x7 depth (wr (levels-1)) hx8)] (fr 32 10) [(41,vB (!x8))] [] [] (aT h (fun c5 h=> ?_) (fun c5 h=> ?_))
     ·obtain rfl:=so h
      exact rq hC [] [6] [(6,vB false)] [] [] (qr eR)
     ·exact qk (rk hC [] [7,30,31] [(7,vI (wr (x5+1)))] [] [] (lE h))
    ·obtain rfl:=so h
     exact cQ (rq hC [] [6] [(6,vB true)] [] [] (qr eR))
theorem aAz(G:GS): ∀(n:Nat) (e:Expr) (levels:Int) {r:Int} (h:s_l3Count n e levels=some r),PQ G 245 [V.agg (cO e),vI levels] (vI r):=by
 intro n
 induction n with
 |zero=>intro e levels r h;rw [s_l3Count.eq_def] at h;cases h
 |succ n ih=>
  intro e levels r h
  rw [s_l3Count.eq_def] at h;dsimp only at h
  refine pq aN Tryz.func245 rfl fun w X hC=> ?_
  refine rq hC [.z (.b (true))] [2,4] [(2,V.tp (eX e))] [] [] (rq hC [] [5] [(5,vI 1)] [] [] (qs (rq hC [] [6] [(6,vI 0)] [] [] (qb (jA h (fun x_=>aY [(1,vI levels),(2,V.tp (eX e)),(5,vI x_.1),(6,vI x_.2)] [] []) lS ?_)))))
  rintro again3 ⟨x1,x2⟩ h
  refine qs (vj h (fun x_=>aY [(1,vI levels),(2,V.tp (eX e)),(5,vI x1),(6,vI x2),(15,vB x_)] [] []) (fun j4 h=> ?_) (fun x5 h=> ?_))
  ·
   refine aR h (fun c1 h=> ?_) (fun c1 h=> ?_)
   ·exact rk hC ([oN aH e.kids]++rF 3 c1) (fr 7 9) [(15,vB false)] [] [] (lE h)
   ·exact rk hC ([oN aH e.kids]++rT 3 c1) (fr 7 9) [(15,vB (decide ((0:Int)<levels)))] [] [] (lE h)
  ·refine aT h (fun c2 h=> ?_) (fun c2 h=> ?_)
   ·refine qk (qs (qb ?_))
    obtain⟨x6,hx6,x7,hx7,h⟩:=cT h
    exact rk hC [.z (.row (d7 x6)),oQ (eY aH hx6 (cS x6)),oV (ih x6 (wr (levels-1)) hx7)] [5,18,19,20,21,22,23,24,25,26,27] [(5,vI (wr (x1+x7)))] [] [] (rk hC [] [6,16,17] [(6,vI (wr (x2+1)))] [] [] (lE h))
   ·obtain rfl:=so h
    exact cQ (rq hC [] [4,28] [(4,vI x1)] [] [] (qr eR))
theorem oH{s}{depth}{r}(h:gK n s depth=some r):PQ G 199 [V.agg (cV s),vI depth] (vB r):=by
 unfold gK at h
 refine pq aN Tryz.func199 rfl fun w X hC=> ?_
 refine rq hC [.z (.b (true))] [2,4] [(2,V.tp (m7 s))] [] [] (qs (vj h (fun x_=>aY [(2,V.tp (m7 s)),(24,vB x_)] [] []) (fun j1 h=> ?_) (fun x4 h=> ?_)))
 ·
  refine aR h (fun c1 h=> ?_) (fun c1 h=> ?_)
  ·refine aR h (fun c2 h=> ?_) (fun c2 h=> ?_)
   ·obtain⟨x2,hx2,h⟩:=bd h
    refine aR h (fun c3 h=> ?_) (fun c3 h=> ?_)
    ·obtain⟨x3,hx3,h⟩:=bd h
     exact rk hC (rF 3 c1++rF 4 c2++[oV (qP G hx2),oF c2,oF c2]++rF 4 c3++[oV (aAv G n s.value depth 5 hx3),oF c3,oF c3]) (fr 5 20) [(24,vB (!x3))] [] [] (lE h)
    ·exact rk hC (rF 3 c1++rF 4 c2++[oV (qP G hx2),oF c2,oF c2]++rT 6 c3) (fr 5 20) [(24,vB true)] [] [] (lE h)
   ·exact rk hC (rF 3 c1++rT 6 c2++sT 6) (fr 5 20) [(24,vB true)] [] [] (lE h)
  ·exact rk hC (rT 3 c1++sT 12) (fr 5 20) [(24,vB true)] [] [] (lE h)
 ·refine aT h (fun c4 h=> ?_) (fun c4 h=> ?_)
  ·obtain rfl:=so h
   exact rq hC [] [4] [(4,vB false)] [] [] (qr eR)
  ·refine qk ?_
   obtain⟨x5,hx5,h⟩:=bd h
   obtain rfl:=so h
   exact rq hC [oV (aAz G n s.value 5 hx5)] [4,25,26,27,28] [(4,vB (decide (x5≤12)))] [] [] (qr eR)
theorem uG{list}{part}{r}(h:m9 n list part=some r):PQ G 143 [vM aK list,V.agg (kF part)] (V.tup [vI r.1,vB r.2]):=by
 unfold m9 at h
 refine pq aN Tryz.func143 rfl fun w X hC=> ?_
 refine rq hC [.z (.b (true))] [3,4,5] [(3,V.tp (jB part))] [] [] ?_
 obtain⟨x1,hx1,h⟩:=bd h
 refine rq hC [oC [] [20] (I0 G hx1)] [6,7,13,14,15,16,17,18] [(6,ms 20 1 1 (rL rI) x1.1),(7,vB x1.2)] [(20,some (ar 45 1 1 (rL rI) x1.1))] [(20,true)] (qs (vj h (fun x_=>aY [(0,vM aK list),(3,V.tp (jB part)),(6,ms 20 1 1 (rL rI) x1.1),(32,vB x_)] [(20,ar 45 1 1 (rL rI) x1.1)] [20]) (fun j2 h=> ?_) (fun x3 h=> ?_)))
 ·
  refine aR h (fun c1 h=> ?_) (fun c1 h=> ?_)
  ·refine aR h (fun c2 h=> ?_) (fun c2 h=> ?_)
   ·exact rk hC (rF 3 c1++[oN aG part.body,oF c1,oF c1]++rF 3 c2++[oN aG part.body,oF c2,oF c2]) (fr 19 14) [(32,vB (decide ((4:Int)<(part.body.length:Int))))] [] [] (lE h)
   ·exact rk hC (rF 3 c1++[oN aG part.body,oF c1,oF c1]++rT 5 c2) (fr 19 14) [(32,vB true)] [] [] (lE h)
  ·exact rk hC (rT 5 c1++sT 5) (fr 19 14) [(32,vB true)] [] [] (lE h)
 ·refine aT h (fun c3 h=> ?_) (fun c3 h=> ?_)
  ·obtain rfl:=so h
   exact rq hC [] [4,5] [(4,vI 0),(5,vB false)] [] [] (qr eR)
  ·refine qk (qs (rq hC [] [8] [(8,vI 0)] [] [] (qb (jA h (fun x_=>aY [(0,vM aK list),(3,V.tp (jB part)),(6,ms 20 1 1 (rL rI) x1.1),(8,vI x_)] [(20,ar 45 1 1 (rL rI) x1.1)] [20]) lS ?_))))
   rintro again5 x4 h
   refine qs (rq hC [oN aG part.body] (fr 33 5) [(37,vB (decide (x4<(part.body.length:Int))))] [] [] (aT h (fun c4 h=> ?_) (fun c4 h=> ?_)))
   ·refine qk (qs (qb (qs (qs ?_))))
    obtain⟨x6,hx6,x7,hx7,h⟩:=cT h
    refine dk hC bD [oR aG hx6,oN aC part.nest,oV (oH G hx7)] (fr 40 10) [(49,vB (!x7))] [] [] (aT h (fun c5 h=> ?_) (fun c5 h=> ?_))
    ·obtain rfl:=so h
     exact rq hC [] [4,5] [(4,vI 0),(5,vB false)] [] [] (qr eR)
    ·refine qk (rq hC [] [9] [(9,vI 0)] [] [] (qb (jA h (fun x_=>aY [(0,vM aK list),(3,V.tp (jB part)),(6,ms 20 1 1 (rL rI) x1.1),(8,vI x4),(9,vI x_)] [(20,ar 45 1 1 (rL rI) x1.1)] [20]) lS ?_)))
     rintro again9 x8 h
     refine qs (rq hC [oN (rL rI) x1.1] (fr 50 4) [(53,vB (decide (x8<(x1.1.length:Int))))] [] [] (aT h (fun c6 h=> ?_) (fun c6 h=> ?_)))
     ·refine qk (qs (qb (qs ?_)))
      obtain⟨x10,hx10,x11,hx11,h⟩:=cT h
      refine dk hC bD [oR aG hx6,oQ (kS (rL rI) hx10),oX (rL rI) hx10,oC [] [21] (aAs G hx11)] [10,11,12,56,57,58,59,60,61,62,63,64,65,66,67,68,69,70] [(12,vB x11.2.2)] [(21,some (ar 3 1 1 rI x11.1))] [(21,true)] (vj h (fun x_=>aY [(0,vM aK list),(3,V.tp (jB part)),(6,ms 20 1 1 (rL rI) x1.1),(8,vI x4),(9,vI x8),(80,vB x_)] [(20,ar 45 1 1 (rL rI) x1.1),(21,ar 3 1 1 rI x11.1)] [20,21]) (fun j12 h=> ?_) (fun x14 h=> ?_))
      ·
       refine aR h (fun c7 h=> ?_) (fun c7 h=> ?_)
       ·obtain⟨x13,hx13,h⟩:=bd h
        exact rk hC (rF 3 c7++[oQ (kS (rL rI) hx10),oF c7,oX (rL rI) hx10,oF c7,oV (aAB G hx13),oF c7,oF c7]) (fr 71 10) [(80,vB (!x13))] [] [] (lE h)
       ·exact rk hC (rT 7 c7) (fr 71 10) [(80,vB true)] [] [] (lE h)
      ·refine aT h (fun c8 h=> ?_) (fun c8 h=> ?_)
       ·obtain rfl:=so h
        exact rq hC [] [4,5] [(4,vI 0),(5,vB false)] [] [] (qr eR)
       ·exact qk (rk hC [] [9,54,55] [(9,vI (wr (x8+1)))] [] [] (lE h))
     ·exact cQ (rk hC [] [8,38,39] [(8,vI (wr (x4+1)))] [] [] (lE h))
   ·obtain rfl:=so h
    exact cQ (rq hC [oN (rL rI) x1.1,oN aG part.body] [4,5,81,82,83,84,85,86] [(4,vI (wr ((x1.1.length:Int)*(part.body.length:Int)))),(5,vB true)] [] [] (qr eR))
theorem cN{p}{r}(h:dG n p=some r):PQ G 89 [V.agg (bJ p)] (vB r):=by
 unfold dG at h
 refine pq aN Tryz.func89 rfl fun w X hC=> ?_
 refine rq hC [.z (.b (true))] [1,2] [(1,V.tp (cR p))] [] [] (qs (vj h (fun x_=>aY [(1,V.tp (cR p)),(16,vB x_)] [] []) (fun j1 h=> ?_) (fun x3 h=> ?_)))
 ·
  obtain⟨x2,hx2,h⟩:=bd h
  refine aR h (fun c1 h=> ?_) (fun c1 h=> ?_)
  ·exact rk hC ([oV (v8 G hx2)]++rF 3 c1++[oN aD p.parts,oF c1,oF c1]) (fr 7 10) [(16,vB (decide ((4:Int)<(p.parts.length:Int))))] [] [] (lE h)
  ·exact rk hC ([oV (v8 G hx2)]++rT 5 c1) (fr 7 10) [(16,vB true)] [] [] (lE h)
 ·refine aT h (fun c2 h=> ?_) (fun c2 h=> ?_)
  ·obtain rfl:=so h
   exact rq hC [] [2] [(2,vB false)] [] [] (qr eR)
  ·refine qk (rq hC [] [3] [(3,vI 0)] [] [] (qs (rq hC [] [4] [(4,vI 0)] [] [] (qb (jA h (fun x_=>aY [(1,V.tp (cR p)),(3,vI x_.1),(4,vI x_.2)] [] []) lS ?_)))))
   rintro again6 ⟨x4,x5⟩ h
   refine qs (rq hC [oN aD p.parts] (fr 17 5) [(21,vB (decide (x5<(p.parts.length:Int))))] [] [] (aT h (fun c3 h=> ?_) (fun c3 h=> ?_)))
   ·refine qk (qs (qb (qs ?_)))
    obtain⟨x7,hx7,x8,hx8,h⟩:=cT h
    refine dk hC bD [oR aD hx7,oV (uG G hx8)] [5,6,24,25,26,27,28,29,30,31,32,33,34] [(5,vI x8.1),(6,vB x8.2)] [] [] (qs (rq hC [] [35,36] [(36,vB (!x8.2))] [] [] (aT h (fun c4 h=> ?_) (fun c4 h=> ?_))))
    ·obtain rfl:=so h
     exact rq hC [] [2] [(2,vB false)] [] [] (qr eR)
    ·exact qk (rk hC [] [3,37,38,39] [(3,vI (wr (x4+x8.1)))] [] [] (rk hC [] [4,22,23] [(4,vI (wr (x5+1)))] [] [] (lE h)))
   ·obtain rfl:=so h
    exact cQ (rq hC [] [2,40,41] [(2,vB (decide (x4≤120)))] [] [] (qr eR))
theorem P8{p}{part}{loop}{r}(h:u7 n p part loop=some r):PQ G 60 [V.agg (bJ p),vI part,vI loop] (vB r):=by
 unfold u7 at h
 refine pq aN Tryz.func60 rfl fun w X hC=> ?_
 refine rq hC [.z (.b (true))] [3,6] [(3,V.tp (cR p))] [] [] (vj h (fun x_=>aY [(6,vB x_)] [] []) (fun j1 h=> ?_) (fun x4 h=> ?_))
 ·
  obtain⟨x2,hx2,h⟩:=bd h
  refine aR h (fun c1 h=> ?_) (fun c1 h=> ?_)
  ·exact rk hC ([oV (cN G hx2)]++rF 3 c1++sF 19) (fr 6 29) [(6,vB false)] [] [] (lE h)
  ·refine aR h (fun c2 h=> ?_) (fun c2 h=> ?_)
   ·exact rk hC ([oV (cN G hx2)]++rT 3 c1++rF 6 c2++sF 13) (fr 6 29) [(6,vB false)] [] [] (lE h)
   ·refine aR h (fun c3 h=> ?_) (fun c3 h=> ?_)
    ·exact rk hC ([oV (cN G hx2)]++rT 3 c1++rT 4 c2++[oN aD p.parts,oT c2,oT c2]++rF 3 c3++sF 10) (fr 6 29) [(6,vB false)] [] [] (lE h)
    ·refine aR h (fun c4 h=> ?_) (fun c4 h=> ?_)
     ·exact rk hC ([oV (cN G hx2)]++rT 3 c1++rT 4 c2++[oN aD p.parts,oT c2,oT c2]++rT 3 c3++rF 10 c4) (fr 6 29) [(6,vB false)] [] [] (lE h)
     ·obtain⟨x3,hx3,h⟩:=bd h
      exact rk hC ([oV (cN G hx2)]++rT 3 c1++rT 4 c2++[oN aD p.parts,oT c2,oT c2]++rT 3 c3++rT 5 c4++[oR aD hx3]++rT 3 c4++[oN aC x3.nest,oT c4,oT c4]) (fr 6 29) [(6,vB (decide (loop<(x3.nest.length:Int))))] [] [] (lE h)
 ·obtain rfl:=so h
  exact qr eR
theorem H3{nest}{r}(h:nF n nest=some r):VQ G 188 [] [vM aC nest] (ms 0 1 2 aC r) [E.tree l4 0 1 (List.map aC r) []]:=by
 unfold nF at h
 refine vq aN Tryz.func188 rfl fun w X β0 hC hg=> ?_
 refine rq hC [] [2] [] [] [] (rq hC [.z (.nat 20),.z (.at 1),.z (.tre 20 l4 0)] [3,10] [(3,ms 20 1 2 aC [])] [(20,some (E.tree l4 0 1 (List.map aC []) []))] [(20,true)] (qs (rq hC [] [4] [(4,vI 0)] [] [] (qb (bC (γ:=Nat) h (fun x_ g_=>aY [(0,vM aC nest),(3,ms 20 g_ 2 aC x_.1),(4,vI x_.2)] [(20,E.tree l4 0 g_ (List.map aC x_.1) [])] [20]) 1 (lS) ?_)))))
 rintro again4 ⟨x1,x2⟩ g3 h
 refine qs (rq hC [oN aC nest] (fr 11 4) [(14,vB (decide (x2<(nest.length:Int))))] [] [] (aT h (fun c1 h=> ?_) (fun c1 h=> ?_)))
 ·refine qk (qs (qb (rq hC [.z (.nat 21)] [5,17] [(5,V.ref 21 0)] [(21,sc [V.t T.nilS,V.t T.nilS])] [(21,true)] (qs (rq hC [] [6] [(6,vI 0)] [] [] ?_)))))
  refine qb (qw (lk hC [.growc 21 0 22 63] [] [] [(22,some (ar 63 1 2 aA [])),(21,sc [ms 22 1 2 aA [],V.t T.nilS])] [(22,true)]) (bC (γ:=Nat) h (fun x_ g_=>aY [(0,vM aC nest),(3,ms 20 g3 2 aC x1),(4,vI x2),(5,V.ref 21 0),(6,vI x_.2)] [(20,E.tree l4 0 g3 (List.map aC x1) []),(21,E.cells [ms 22 g_ 2 aA x_.1,V.t T.nilS]),(22,ar 63 g_ 2 aA x_.1)] [20,21,22]) 1 (lS) ?_))
  rintro again8 ⟨x5,x6⟩ g7 h
  refine qs ?_
  obtain⟨x9,hx9,h⟩:=bd h
  refine rq hC [oR aC hx9,oN aA x9.lo] (fr 18 8) [(25,vB (decide (x6<(x9.lo.length:Int))))] [] [] (aT h (fun c2 h=> ?_) (fun c2 h=> ?_))
  ·refine qk (qs (qb ?_))
   obtain⟨x10,hx10,h⟩:=bd h
   refine rq hC [oR aC hx9,oR aA hx10,.z (.nat 23)] [7,28,29,30,31,32,33,34,35] [(7,V.ref 23 0)] [(23,some (E.cells (aJ x10)))] [(23,true)] ?_
   obtain⟨x11,hx11,x12,hx12,h⟩:=cT h
   exact dk hC bD [.z (.nat 24),oA (aO rI hx11),.z (.at 5),.z (.fz 24 [41] []),.z (.int 0),oQ (bO (r:=rI) 1 (fun _=>rfl) []),oQ (bO (r:=rI) 1 (fun _=>rfl) x10.coefs),oA (aO aA hx12),oQ (bO (r:=aA) 2 aS x5),oQ (bO (r:=aA) 2 aS [(⟨x11,x10.const⟩:Affine)])] (fr 36 12) [] [(24,none),(22,some (ar 63 (g7+1) 2 aA x12)),(21,sc [ms 22 (g7+1) 2 aA x12,V.t T.nilS])] [(24,true)] (rk hC [] [6,26,27] [(6,vI (wr (x6+1)))] [] [] ⟨(x12,wr (x6+1)),(g7+1),h,lS⟩)
  ·refine cQ (qs (rq hC [] [8] [(8,vI 0)] [] [] (qb (qw (lk hC [.growc 21 1 23 63] [] [] [(23,some (ar 63 1 2 aA [])),(21,sc [ms 22 g7 2 aA x5,ms 23 1 2 aA []])] [(23,true)]) (bC (γ:=Nat) h (fun x_ g_=>aY [(0,vM aC nest),(3,ms 20 g3 2 aC x1),(4,vI x2),(5,V.ref 21 0),(8,vI x_.2)] [(20,E.tree l4 0 g3 (List.map aC x1) []),(21,E.cells [ms 22 g7 2 aA x5,ms 23 g_ 2 aA x_.1]),(22,ar 63 g7 2 aA x5),(23,ar 63 g_ 2 aA x_.1)] [20,21,22,23]) 1 (lS) ?_)))))
   rintro again16 ⟨x13,x14⟩ g15 h
   refine qs (rq hC [oR aC hx9,oN aA x9.hi] (fr 48 8) [(55,vB (decide (x14<(x9.hi.length:Int))))] [] [] (aT h (fun c3 h=> ?_) (fun c3 h=> ?_)))
   ·refine qk (qs (qb ?_))
    obtain⟨x17,hx17,h⟩:=bd h
    refine rq hC [oR aC hx9,oR aA hx17,.z (.nat 24)] [9,58,59,60,61,62,63,64,65] [(9,V.ref 24 0)] [(24,some (E.cells (aJ x17)))] [(24,true)] ?_
    obtain⟨x18,hx18,x19,hx19,h⟩:=cT h
    exact dk hC bD [.z (.nat 25),oA (aO rI hx18),.z (.at 5),.z (.fz 25 [71] []),.z (.int 0),oQ (bO (r:=rI) 1 (fun _=>rfl) []),oQ (bO (r:=rI) 1 (fun _=>rfl) x17.coefs),oA (aO aA hx19),oQ (bO (r:=aA) 2 aS x13),oQ (bO (r:=aA) 2 aS [(⟨x18,x17.const⟩:Affine)])] (fr 66 12) [] [(25,none),(23,some (ar 63 (g15+1) 2 aA x19)),(21,sc [ms 22 g7 2 aA x5,ms 23 (g15+1) 2 aA x19])] [(25,true)] (rk hC [] [8,56,57] [(8,vI (wr (x14+1)))] [] [] ⟨(x19,wr (x14+1)),(g15+1),h,lS⟩)
   ·refine cQ ?_
    obtain⟨x20,hx20,h⟩:=bd h
    exact rk hC [.z (.lt 24 l4 0),.z (.rows (List.map aC (x1++[(⟨[],[]⟩:Loop)]))),.z (.at 1),.z (.tre 22 l4 1),.z (.unf 20 22 (aC (⟨[],[]⟩:Loop)) (List.map aC (x1++[(⟨x5,[]⟩:Loop)]))),.z (.tre 23 l4 1),.z (.unf 20 23 (aC (⟨x5,[]⟩:Loop)) (List.map aC x20)),.z (.len 81 (List.map aC x20).length),oQ (Eq.refl (ndOf l4 0)),oQ (aFz aC (⟨[],[]⟩:Loop) hx20),oQ (bO (r:=aC) 2 bU x1),oQ (bO (r:=aC) 2 bU [(⟨[],[]⟩:Loop)]),oQ (Eq.refl (List.map aA x5).length),oQ (Eq.refl l4),oQ (S0 aC x1 (⟨[],[]⟩:Loop)),oQ (aEk aC x1 (ph:=(⟨[],[]⟩:Loop)) (y:=(⟨x5,[]⟩:Loop)) rfl),oQ (Eq.refl (List.map aA x13).length),oQ (Eq.refl l4),oQ (S0 aC x1 (⟨x5,[]⟩:Loop)),oQ (Y2 aC (ph:=(⟨x5,[]⟩:Loop)) hx20 rfl),oQ (aED aC (⟨[],[]⟩:Loop) hx20)] [3,78,79,80,81] [(3,ms 20 (g3+1) 2 aC x20)] [(24,some (E.tree l4 0 1 (List.map aC [(⟨[],[]⟩:Loop)]) [(0,0,ms 22 g7 2 aA x5),(0,1,ms 23 g15 2 aA x13)])),(20,some (E.tree l4 0 (g3+1) (List.map aC x20) [])),(22,none),(23,none)] [(24,true)] (rk hC [] [4,15,16] [(4,vI (wr (x2+1)))] [] [] ⟨(x20,wr (x2+1)),(g3+1),h,lS⟩)
 ·obtain rfl:=so h
  exact cQ (rq hC [] [2,82] [(2,ms 20 g3 2 aC x1)] [] [] (qw (lk hC [.rn 20 0 [2,3] []] [2,3] [(2,ms 0 1 2 aC x1),(3,ms 0 1 2 aC x1)] [(20,none),(0,some (E.tree l4 0 1 (List.map aC x1) []))] [(0,true)]) (qr eW)))
theorem H1(G:GS): ∀(n:Nat) (e:Expr) {r:Expr} (h:s_l3CopyExpr n e=some r),VQ G 237 [] [V.agg (cO e)] (V.agg [vI r.kind,vI r.num,ms 0 1 1 rI r.index.coefs,vI r.index.const,vS r.read.array,ms 1 1 2 aA r.read.subs,ms 2 1 7 aH r.kids]) [ar 3 1 1 rI r.index.coefs,ar 63 1 2 aA r.read.subs,ar 84 1 7 aH r.kids]:=by
 intro n
 induction n with
 |zero=>intro e r h;rw [s_l3CopyExpr.eq_def] at h;cases h
 |succ n ih=>
  intro e r h
  rw [s_l3CopyExpr.eq_def] at h;dsimp only at h
  refine vq aN Tryz.func237 rfl fun w X β0 hC hg=> ?_
  refine rq hC [.z (.b (true)),.z (.nat 20)] [1,2] [(1,V.tp (eX e)),(2,V.ref 20 0)] [(20,sc [vI 0,vI 0,V.t T.nilS,vI 0,vS [],V.t T.nilS,V.t T.nilS])] [(20,true)] (qs ?_)
  obtain⟨x1,hx1,x2,hx2,h⟩:=cT h
  refine dk hC bD [oC [] [21] (kZ G hx1),oC [] [22] (lA G hx2),.z (.nat 23)] [3,5,6,7,8,9,10,11,12,13,14,15] [(3,V.ref 23 0)] [(21,some (ar 3 1 1 rI x1.coefs)),(22,some (ar 63 1 2 aA x2.subs)),(23,sc [vI e.kind,vI e.num,ms 21 1 1 rI x1.coefs,vI x1.const,vS x2.array,ms 22 1 2 aA x2.subs,V.t T.nilS])] [(21,true),(22,true),(23,true)] (qs (rq hC [] [4] [(4,vI 0)] [] [] (qb (qw (lk hC [.growc 23 6 24 84] [] [] [(24,some (ar 84 1 7 aH [])),(23,sc [vI e.kind,vI e.num,ms 21 1 1 rI x1.coefs,vI x1.const,vS x2.array,ms 22 1 2 aA x2.subs,ms 24 1 7 aH []])] [(24,true)]) (bC (γ:=Nat) h (fun x_ g_=>aY [(1,V.tp (eX e)),(2,V.ref 20 0),(3,V.ref 23 0),(4,vI x_.2)] [(20,E.cells [vI 0,vI 0,V.t T.nilS,vI 0,vS [],V.t T.nilS,V.t T.nilS]),(21,ar 3 1 1 rI x1.coefs),(22,ar 63 1 2 aA x2.subs),(23,E.cells [vI e.kind,vI e.num,ms 21 1 1 rI x1.coefs,vI x1.const,vS x2.array,ms 22 1 2 aA x2.subs,ms 24 g_ 7 aH x_.1]),(24,ar 84 g_ 7 aH x_.1)] [20,21,22,23,24]) 1 (lS) ?_)))))
  rintro again6 ⟨x3,x4⟩ g5 h
  refine qs (rq hC [oN aH e.kids] (fr 16 5) [(20,vB (decide (x4<(e.kids.length:Int))))] [] [] (aT h (fun c1 h=> ?_) (fun c1 h=> ?_)))
  ·refine qk (qs (qb ?_))
   obtain⟨x7,hx7,x8,hx8,x9,hx9,h⟩:=kH h
   exact dk hC bD [.z (.row (d7 x7)),oQ (eY aH hx7 (cS x7)),oC [] [25,26,27] (ih x7 hx8),.z (.at 4),.z (.fz 25 [30] []),.z (.at 4),.z (.fz 26 [30] []),.z (.at 4),.z (.fz 27 [30] []),.z (.int 2),.z (.rows (List.map aH [x8])),oQ (qM x8),oA (aO aH hx9),oQ (bO (r:=aH) 7 dJ x3),oQ (bO (r:=aH) 7 dJ [x8])] (fr 23 11) [] [(25,none),(26,none),(27,none),(24,some (ar 84 (g5+1) 7 aH x9)),(23,sc [vI e.kind,vI e.num,ms 21 1 1 rI x1.coefs,vI x1.const,vS x2.array,ms 22 1 2 aA x2.subs,ms 24 (g5+1) 7 aH x9])] [(25,true),(26,true),(27,true)] (rk hC [] [4,21,22] [(4,vI (wr (x4+1)))] [] [] ⟨(x9,wr (x4+1)),(g5+1),h,lS⟩)
  ·obtain rfl:=so h
   exact cQ (rq hC [] [34] [] [(20,sc [vI e.kind,vI e.num,ms 21 1 1 rI x1.coefs,vI x1.const,vS x2.array,ms 22 1 2 aA x2.subs,ms 24 g5 7 aH x3])] [] (qw (lk hC [.rn 21 0 [] [20,23]] [] [] [(20,sc [vI e.kind,vI e.num,ms 0 1 1 rI x1.coefs,vI x1.const,vS x2.array,ms 22 1 2 aA x2.subs,ms 24 g5 7 aH x3]),(23,sc [vI e.kind,vI e.num,ms 0 1 1 rI x1.coefs,vI x1.const,vS x2.array,ms 22 1 2 aA x2.subs,ms 24 g5 7 aH x3]),(21,none),(0,some (ar 3 1 1 rI x1.coefs))] [(0,true)]) (qw (lk hC [.rn 22 1 [] [20,23]] [] [] [(20,sc [vI e.kind,vI e.num,ms 0 1 1 rI x1.coefs,vI x1.const,vS x2.array,ms 1 1 2 aA x2.subs,ms 24 g5 7 aH x3]),(23,sc [vI e.kind,vI e.num,ms 0 1 1 rI x1.coefs,vI x1.const,vS x2.array,ms 1 1 2 aA x2.subs,ms 24 g5 7 aH x3]),(22,none),(1,some (ar 63 1 2 aA x2.subs))] [(1,true)]) (qw (lk hC [.rn 24 2 [] [20,23]] [] [] [(20,sc [vI e.kind,vI e.num,ms 0 1 1 rI x1.coefs,vI x1.const,vS x2.array,ms 1 1 2 aA x2.subs,ms 2 1 7 aH x3]),(23,sc [vI e.kind,vI e.num,ms 0 1 1 rI x1.coefs,vI x1.const,vS x2.array,ms 1 1 2 aA x2.subs,ms 2 1 7 aH x3]),(24,none),(2,some (ar 84 1 7 aH x3))] [(2,true)]) (qr eW)))))
theorem H2{s}{r}(h:lL n s=some r):VQ G 189 [] [V.agg (cV s)] (V.agg [vS r.write.array,ms 0 1 2 aA r.write.subs,vI r.value.kind,vI r.value.num,ms 1 1 1 rI r.value.index.coefs,vI r.value.index.const,vS r.value.read.array,ms 2 1 2 aA r.value.read.subs,ms 3 1 7 aH r.value.kids]) [ar 63 1 2 aA r.write.subs,ar 3 1 1 rI r.value.index.coefs,ar 63 1 2 aA r.value.read.subs,ar 84 1 7 aH r.value.kids]:=by
 unfold lL at h
 refine vq aN Tryz.func189 rfl fun w X β0 hC hg=> ?_
 refine rq hC [.z (.b (true)),.z (.nat 20)] [1,2] [(1,V.tp (m7 s)),(2,V.ref 20 0)] [(20,sc [vS [],V.t T.nilS,vI 0,vI 0,V.t T.nilS,vI 0,vS [],V.t T.nilS,V.t T.nilS])] [(20,true)] (qs ?_)
 obtain⟨x1,hx1,x2,hx2,h⟩:=cT h
 obtain rfl:=so h
 exact dk hC bD [oC [] [21] (lA G hx1),oC [] [22,23,24] (H1 G n s.value hx2)] (fr 3 7) [] [(21,some (ar 63 1 2 aA x1.subs)),(22,some (ar 3 1 1 rI x2.index.coefs)),(23,some (ar 63 1 2 aA x2.read.subs)),(24,some (ar 84 1 7 aH x2.kids)),(20,sc [vS x1.array,ms 21 1 2 aA x1.subs,vI x2.kind,vI x2.num,ms 22 1 1 rI x2.index.coefs,vI x2.index.const,vS x2.read.array,ms 23 1 2 aA x2.read.subs,ms 24 1 7 aH x2.kids])] [(21,true),(22,true),(23,true),(24,true)] (qw (lk hC [.rn 21 0 [] [20]] [] [] [(20,sc [vS x1.array,ms 0 1 2 aA x1.subs,vI x2.kind,vI x2.num,ms 22 1 1 rI x2.index.coefs,vI x2.index.const,vS x2.read.array,ms 23 1 2 aA x2.read.subs,ms 24 1 7 aH x2.kids]),(21,none),(0,some (ar 63 1 2 aA x1.subs))] [(0,true)]) (qw (lk hC [.rn 22 1 [] [20]] [] [] [(20,sc [vS x1.array,ms 0 1 2 aA x1.subs,vI x2.kind,vI x2.num,ms 1 1 1 rI x2.index.coefs,vI x2.index.const,vS x2.read.array,ms 23 1 2 aA x2.read.subs,ms 24 1 7 aH x2.kids]),(22,none),(1,some (ar 3 1 1 rI x2.index.coefs))] [(1,true)]) (qw (lk hC [.rn 23 2 [] [20]] [] [] [(20,sc [vS x1.array,ms 0 1 2 aA x1.subs,vI x2.kind,vI x2.num,ms 1 1 1 rI x2.index.coefs,vI x2.index.const,vS x2.read.array,ms 2 1 2 aA x2.read.subs,ms 24 1 7 aH x2.kids]),(23,none),(2,some (ar 63 1 2 aA x2.read.subs))] [(2,true)]) (qw (lk hC [.rn 24 3 [] [20]] [] [] [(20,sc [vS x1.array,ms 0 1 2 aA x1.subs,vI x2.kind,vI x2.num,ms 1 1 1 rI x2.index.coefs,vI x2.index.const,vS x2.read.array,ms 2 1 2 aA x2.read.subs,ms 3 1 7 aH x2.kids]),(24,none),(3,some (ar 84 1 7 aH x2.kids))] [(3,true)]) (qr eW)))))
theorem uH{p}{r}(h:nB n p=some r):VQ G 125 [] [V.agg (bJ p)] (V.agg [ms 0 1 2 aK r.arrays,ms 1 1 2 aD r.parts]) [ar 76 1 2 aK r.arrays,E.tree l4 2 1 (List.map aD r.parts) []]:=by
 unfold nB at h
 refine vq aN Tryz.func125 rfl fun w X β0 hC hg=> ?_
 refine rq hC [.z (.b (true)),.z (.nat 20)] [1,2] [(1,V.tp (cR p)),(2,V.ref 20 0)] [(20,sc [V.t T.nilS,V.t T.nilS])] [(20,true)] (rq hC [.z (.nat 21)] [3,8] [(3,V.ref 21 0)] [(21,sc [V.t T.nilS,V.t T.nilS])] [(21,true)] (qs (rq hC [] [4] [(4,vI 0)] [] [] (qb (qw (lk hC [.growc 21 0 22 76] [] [] [(22,some (ar 76 1 2 aK [])),(21,sc [ms 22 1 2 aK [],V.t T.nilS])] [(22,true)]) ?_)))))
 refine bC (γ:=Nat) h (fun x_ g_=>aY [(1,V.tp (cR p)),(2,V.ref 20 0),(3,V.ref 21 0),(4,vI x_.2)] [(20,E.cells [V.t T.nilS,V.t T.nilS]),(21,E.cells [ms 22 g_ 2 aK x_.1,V.t T.nilS]),(22,ar 76 g_ 2 aK x_.1)] [20,21,22]) 1 (lS) ?_
 rintro again4 ⟨x1,x2⟩ g3 h
 refine qs (rq hC [oN aK p.arrays] (fr 9 5) [(13,vB (decide (x2<(p.arrays.length:Int))))] [] [] (aT h (fun c1 h=> ?_) (fun c1 h=> ?_)))
 ·refine qk (qs (qb ?_))
  obtain⟨x5,hx5,x6,hx6,x7,hx7,h⟩:=kH h
  exact dk hC bD [oR aK hx5,.z (.nat 23),oR aK hx5,oA (aO rI hx6),.z (.at 5),.z (.fz 23 [31] []),.z (.int 0),oQ (bO (r:=rI) 1 (fun _=>rfl) []),oQ (bO (r:=rI) 1 (fun _=>rfl) x5.dims),oA (aO aK hx7),oQ (bO (r:=aK) 2 fU x1),oQ (bO (r:=aK) 2 fU [(⟨x5.name,x6⟩:Arr)])] (fr 16 20) [] [(23,none),(22,some (ar 76 (g3+1) 2 aK x7)),(21,sc [ms 22 (g3+1) 2 aK x7,V.t T.nilS])] [(23,true)] (rk hC [] [4,14,15] [(4,vI (wr (x2+1)))] [] [] ⟨(x7,wr (x2+1)),(g3+1),h,lS⟩)
 ·refine cQ (qs (rq hC [] [5] [(5,vI 0)] [] [] (qb (qw (lk hC [.growc 21 1 23 60,.tre 23 l4 2] [] [] [(23,some (E.tree l4 2 1 (List.map aD []) [])),(21,sc [ms 22 g3 2 aK x1,ms 23 1 2 aD []])] [(23,true)]) (bC (γ:=Nat) h (fun x_ g_=>aY [(1,V.tp (cR p)),(2,V.ref 20 0),(3,V.ref 21 0),(5,vI x_.2)] [(20,E.cells [V.t T.nilS,V.t T.nilS]),(21,E.cells [ms 22 g3 2 aK x1,ms 23 g_ 2 aD x_.1]),(22,ar 76 g3 2 aK x1),(23,E.tree l4 2 g_ (List.map aD x_.1) [])] [20,21,22,23]) 1 (lS) ?_)))))
  rintro again11 ⟨x8,x9⟩ g10 h
  refine qs (rq hC [oN aD p.parts] (fr 36 5) [(40,vB (decide (x9<(p.parts.length:Int))))] [] [] (aT h (fun c2 h=> ?_) (fun c2 h=> ?_)))
  ·refine qk (qs (qb ?_))
   obtain⟨x12,hx12,x13,hx13,h⟩:=cT h
   refine rq hC [oR aD hx12,oC [] [24] (H3 G hx13),.z (.nat 25)] [6,43,44,45,46,47,48,49,50] [(6,V.ref 25 0)] [(24,some (E.tree l4 0 1 (List.map aC x13) [])),(25,sc [ms 24 1 2 aC x13,V.t T.nilS])] [(24,true),(25,true)] (qs (rq hC [] [7] [(7,vI 0)] [] [] (qb (qw (lk hC [.growc 25 1 26 86] [] [] [(26,some (ar 86 1 9 aG [])),(25,sc [ms 24 1 2 aC x13,ms 26 1 9 aG []])] [(26,true)]) (bC (γ:=Nat) h (fun x_ g_=>aY [(1,V.tp (cR p)),(2,V.ref 20 0),(3,V.ref 21 0),(5,vI x9),(6,V.ref 25 0),(7,vI x_.2)] [(20,E.cells [V.t T.nilS,V.t T.nilS]),(21,E.cells [ms 22 g3 2 aK x1,ms 23 g10 2 aD x8]),(22,ar 76 g3 2 aK x1),(23,E.tree l4 2 g10 (List.map aD x8) []),(24,E.tree l4 0 1 (List.map aC x13) []),(25,E.cells [ms 24 1 2 aC x13,ms 26 g_ 9 aG x_.1]),(26,ar 86 g_ 9 aG x_.1)] [20,21,22,23,24,25,26]) 1 (lS) ?_)))))
   rintro again17 ⟨x14,x15⟩ g16 h
   refine qs (rq hC [oR aD hx12,oN aG x12.body] (fr 51 9) [(59,vB (decide (x15<(x12.body.length:Int))))] [] [] (aT h (fun c3 h=> ?_) (fun c3 h=> ?_)))
   ·refine qk (qs (qb ?_))
    obtain⟨x18,hx18,x19,hx19,x20,hx20,h⟩:=kH h
    exact dk hC bD [oR aD hx12,oR aG hx18,oC [] [27,28,29,30] (H2 G hx19),.z (.at 4),.z (.fz 27 [73] []),.z (.at 4),.z (.fz 28 [73] []),.z (.at 4),.z (.fz 29 [73] []),.z (.at 4),.z (.fz 30 [73] []),.z (.int 0),oA (aO aG hx20),oQ (bO (r:=aG) 9 dI x14),oQ (bO (r:=aG) 9 dI [x19])] (fr 62 15) [] [(27,none),(28,none),(29,none),(30,none),(26,some (ar 86 (g16+1) 9 aG x20)),(25,sc [ms 24 1 2 aC x13,ms 26 (g16+1) 9 aG x20])] [(27,true),(28,true),(29,true),(30,true)] (rk hC [] [7,60,61] [(7,vI (wr (x15+1)))] [] [] ⟨(x20,wr (x15+1)),(g16+1),h,lS⟩)
   ·refine cQ ?_
    obtain⟨x21,hx21,h⟩:=bd h
    exact rk hC [.z (.at 5),.z (.shd 24),.z (.at 5),.z (.fz 24 [] [25]),.z (.lt 27 l4 2),.z (.rows (List.map aD (x8++[(⟨x13,[]⟩:Part)]))),.z (.at 2),.z (.tre 26 l4 3),.z (.unf 23 26 (aD (⟨x13,[]⟩:Part)) (List.map aD x21)),.z (.len 81 (List.map aD x21).length),oQ (Eq.refl (ndOf l4 2)),oQ (aFz aD (⟨x13,[]⟩:Part) hx21),oQ (bO (r:=aD) 2 bT x8),oQ (bO (r:=aD) 2 bT [(⟨x13,[]⟩:Part)]),oQ (Eq.refl (List.map aG x14).length),oQ (Eq.refl l4),oQ (S0 aD x8 (⟨x13,[]⟩:Part)),oQ (Y2 aD (ph:=(⟨x13,[]⟩:Part)) hx21 rfl),oQ (aED aD (⟨x13,[]⟩:Part) hx21)] (fr 77 6) [] [(24,none),(25,sc [vM aC x13,ms 26 g16 9 aG x14]),(27,some (E.tree l4 2 1 (List.map aD [(⟨x13,[]⟩:Part)]) [(0,1,ms 26 g16 9 aG x14)])),(23,some (E.tree l4 2 (g10+1) (List.map aD x21) [])),(26,none),(21,sc [ms 22 g3 2 aK x1,ms 23 (g10+1) 2 aD x21])] [(27,true)] (rk hC [] [5,41,42] [(5,vI (wr (x9+1)))] [] [] ⟨(x21,wr (x9+1)),(g10+1),h,lS⟩)
  ·obtain rfl:=so h
   exact cQ (rq hC [] [83] [] [(20,sc [ms 22 g3 2 aK x1,ms 23 g10 2 aD x8])] [] (qw (lk hC [.rn 22 0 [] [20,21]] [] [] [(20,sc [ms 0 1 2 aK x1,ms 23 g10 2 aD x8]),(21,sc [ms 0 1 2 aK x1,ms 23 g10 2 aD x8]),(22,none),(0,some (ar 76 1 2 aK x1))] [(0,true)]) (qw (lk hC [.rn 23 1 [] [20,21]] [] [] [(20,sc [ms 0 1 2 aK x1,ms 1 1 2 aD x8]),(21,sc [ms 0 1 2 aK x1,ms 1 1 2 aD x8]),(23,none),(1,some (E.tree l4 2 1 (List.map aD x8) []))] [(1,true)]) (qr eW))))
theorem aBT{p}{part}{many}{parts}{r}(h:rG n p part many parts=some r):PQ G 62 [V.agg (bJ p),vI part,vI many,vM aD parts] (V.tup [V.agg (bJ r.1),vB r.2]):=by
 unfold rG at h
 refine pq aN Tryz.func62 rfl fun w X hC=> ?_
 refine rq hC [.z (.b (true)),.z (.nat 20)] [4,8,9] [(4,V.tp (cR p)),(8,V.ref 20 0)] [(20,sc [V.t T.nilS,V.t T.nilS])] [(20,true)] ?_
 obtain⟨x1,hx1,h⟩:=bd h
 refine rq hC [oC [] [21,22] (uH G hx1),.z (.nat 23)] [10,12,13] [(10,V.ref 23 0)] [(21,some (ar 76 1 2 aK x1.arrays)),(22,some (E.tree l4 2 1 (List.map aD x1.parts) [])),(23,sc [ms 21 1 2 aK x1.arrays,ms 22 1 2 aD x1.parts])] [(21,true),(22,true),(23,true)] (rq hC [.z (.nat 24)] [11,14,15,16] [(11,V.ref 24 0)] [(24,sc [ms 21 1 2 aK x1.arrays,V.t T.nilS])] [(24,true)] (qs (qw (lk hC [.shd 22,.fz 22 [] [23]] [] [] [(22,none),(23,sc [ms 21 1 2 aK x1.arrays,vM aD x1.parts])] []) ?_)))
 obtain⟨x2,hx2,x3,hx3,x4,hx4,h⟩:=kH h
 obtain⟨x5,hx5,x6,hx6,h⟩:=cT h
 refine dk hC bD [.z (.nat 25),oA (u4 aD hx2),oQ (bO (r:=aD) 2 bT x1.parts),oA (aO aD hx3),oQ (bO (r:=aD) 2 bT []),oQ (bO (r:=aD) 2 bT x2),oA (aO aD hx4),oQ (bO (r:=aD) 2 bT x3),oQ (bO (r:=aD) 2 bT parts),oA (aEg aD hx5),oQ (bO (r:=aD) 2 bT x1.parts),oA (aO aD hx6),oQ (bO (r:=aD) 2 bT x4),oQ (bO (r:=aD) 2 bT x5)] (fr 17 16) [] [(25,some (ar 60 4 2 aD x6)),(24,sc [ms 21 1 2 aK x1.arrays,ms 25 4 2 aD x6])] [(25,true)] (qs ?_)
 obtain⟨x7,hx7,h⟩:=bd h
 refine rq hC [.z (.at 3),.z (.fz 21 [] [23,24]),.z (.at 3),.z (.fz 25 [] [24]),oV (cN G hx7)] [33,34,35] [(35,vB (!x7))] [(23,some (E.cells (bJ x1))),(24,sc [vM aK x1.arrays,vM aD x6]),(21,none),(25,none)] [] (aT h (fun c1 h=> ?_) (fun c1 h=> ?_))
 ·obtain rfl:=so h
  exact rq hC [] [9,36] [(9,vB false)] [(20,sc [V.t T.nilS,V.t T.nilS])] [] (qr eR)
 ·refine qk ?_
  obtain⟨x8,hx8,h⟩:=bd h
  obtain rfl:=so h
  exact rq hC [oC [] [26,27] (uH G hx8)] [9,37,38] [(9,vB true)] [(26,some (ar 76 1 2 aK x8.arrays)),(27,some (E.tree l4 2 1 (List.map aD x8.parts) [])),(20,sc [ms 26 1 2 aK x8.arrays,ms 27 1 2 aD x8.parts])] [(26,true),(27,true)] (qw (lk hC [.fz 26 [] [20]] [] [] [(20,sc [vM aK x8.arrays,ms 27 1 2 aD x8.parts]),(26,none)] []) (qw (lk hC [.shd 27,.fz 27 [] [20]] [] [] [(27,none),(20,some (E.cells (bJ x8)))] []) (qr eR)))
theorem aBU{a}{v}{r}(h:zY n a v=some r):PQ G 286 [V.agg (aJ a),vI v] (V.agg (aJ r)):=by
 unfold zY at h
 refine pq aN Tryz.func286 rfl fun w X hC=> ?_
 refine rq hC [.z (.b (true)),.z (.nat 20)] [2,4] [(2,V.tp (aQ a)),(4,V.ref 20 0)] [(20,sc [V.t T.nilS,vI 0])] [(20,true)] ?_
 obtain⟨x1,hx1,h⟩:=bd h
 refine rq hC [oC [] [21] (kZ G hx1),.z (.nat 22)] [5,6,7] [(5,V.ref 22 0)] [(21,some (ar 3 1 1 rI x1.coefs)),(22,sc [ms 21 1 1 rI x1.coefs,vI x1.const])] [(21,true),(22,true)] (qs ?_)
 obtain⟨x2,hx2,x3,hx3,x4,hx4,h⟩:=kH h
 refine dk hC bD [oR rI hx2,oQ (kS rI hx3),oX rI hx3,.z (.rows (List.map rI x4)),oQ (str rI hx4)] (fr 8 10) [] [(21,some (ar 3 1 1 rI x4))] [] (qw (xA hC [.lenc 22 0 (List.map rI x4).length] [] [] [(22,sc [ms 21 1 1 rI x4,vI x1.const])] [] (a1 (iH rI hx4)) (by kernel_rfl)) (qs ?_))
 obtain⟨x5,hx5,x6,hx6,x7,hx7,h⟩:=kH h
 obtain rfl:=so h
 exact dk hC bD [oR rI hx5,oQ (kS rI hx6),oX rI hx6,.z (.rows (List.map rI x7)),oQ (str rI hx7)] (fr 18 10) [] [(21,some (ar 3 1 1 rI x7))] [] (qw (xA hC [.lenc 22 0 (List.map rI x7).length] [] [] [(22,sc [ms 21 1 1 rI x7,vI x1.const])] [] (a1 (iH rI hx7)) (by kernel_rfl)) (rq hC [.z (.at 2),.z (.fz 21 [] [22])] [28] [] [(22,sc [vM rI x7,vI x1.const]),(21,none),(20,sc [vM rI x7,vI x1.const])] [] (qr eR)))
theorem gD{a}{x}{b}{y}{r}(h:bV n a x b y=some r):VQ G 78 [] [V.agg (aJ a),vI x,V.agg (aJ b),vI y] (V.agg [ms 0 1 1 rI r.coefs,vI r.const]) [ar 3 1 1 rI r.coefs]:=by
 unfold bV at h
 refine vq aN Tryz.func78 rfl fun w X β0 hC hg=> ?_
 refine rq hC [.z (.b (true)),.z (.b (true)),.z (.nat 20)] [4,6,8] [(4,V.tp (aQ a)),(6,V.tp (aQ b)),(8,V.ref 20 0)] [(20,sc [V.t T.nilS,vI 0])] [(20,true)] (rq hC [.z (.nat 21)] [9,11,12,13,14,15,16,17,18,19,20] [(9,V.ref 21 0)] [(21,sc [V.t T.nilS,vI (wr ((wr (x*a.const))+(wr (y*b.const))))])] [(21,true)] (qs (rq hC [] [10] [(10,vI 0)] [] [] (qb (qw (lk hC [.growc 21 0 22 3] [] [] [(22,some (ar 3 1 1 rI [])),(21,sc [ms 22 1 1 rI [],vI (wr ((wr (x*a.const))+(wr (y*b.const))))])] [(22,true)]) ?_)))))
 refine bC (γ:=Nat) h (fun x_ g_=>aY [(1,vI x),(3,vI y),(4,V.tp (aQ a)),(6,V.tp (aQ b)),(8,V.ref 20 0),(9,V.ref 21 0),(10,vI x_.2)] [(20,E.cells [V.t T.nilS,vI 0]),(21,E.cells [ms 22 g_ 1 rI x_.1,vI (wr ((wr (x*a.const))+(wr (y*b.const))))]),(22,ar 3 g_ 1 rI x_.1)] [20,21,22]) 1 (lS) ?_
 rintro again4 ⟨x1,x2⟩ g3 h
 refine qs (rq hC [] [21,22] [(22,vB (decide (x2<4)))] [] [] (aT h (fun c1 h=> ?_) (fun c1 h=> ?_)))
 ·refine qk (qs (qb ?_))
  obtain⟨x5,hx5,x6,hx6,x7,hx7,h⟩:=kH h
  exact dk hC bD [oR rI hx5,oR rI hx6,.z (.int 0),oA (aO rI hx7),oQ (bO (r:=rI) 1 (fun _=>rfl) x1),oQ (bO (r:=rI) 1 (fun _=>rfl) [wr ((wr (x*x5))+(wr (y*x6)))])] (fr 25 20) [] [(22,some (ar 3 (g3+1) 1 rI x7)),(21,sc [ms 22 (g3+1) 1 rI x7,vI (wr ((wr (x*a.const))+(wr (y*b.const))))])] [] (rk hC [] [10,23,24] [(10,vI (wr (x2+1)))] [] [] ⟨(x7,wr (x2+1)),(g3+1),h,lS⟩)
 ·obtain rfl:=so h
  exact cQ (rq hC [] [45] [] [(20,sc [ms 22 g3 1 rI x1,vI (wr ((wr (x*a.const))+(wr (y*b.const))))])] [] (qw (lk hC [.rn 22 0 [] [20,21]] [] [] [(20,sc [ms 0 1 1 rI x1,vI (wr ((wr (x*a.const))+(wr (y*b.const))))]),(21,sc [ms 0 1 1 rI x1,vI (wr ((wr (x*a.const))+(wr (y*b.const))))]),(22,none),(0,some (ar 3 1 1 rI x1))] [(0,true)]) (qr eW)))
theorem aAA{a}{v}{b}{r}(h:o5 n a v b=some r):PQ G 287 [V.agg (aJ a),vI v,V.agg (aJ b)] (V.agg (aJ r)):=by
 unfold o5 at h
 refine pq aN Tryz.func287 rfl fun w X hC=> ?_
 refine rq hC [.z (.b (true)),.z (.b (true)),.z (.nat 20)] [3,5,6] [(3,V.tp (aQ a)),(5,V.tp (aQ b)),(6,V.ref 20 0)] [(20,sc [V.t T.nilS,vI 0])] [(20,true)] (qs ?_)
 obtain⟨x1,hx1,h⟩:=bd h
 refine dk hC bD [.z (.nat 21),oA (aO rI hx1),.z (.nat 22),oQ (bO (r:=rI) 1 (fun _=>rfl) []),oQ (bO (r:=rI) 1 (fun _=>rfl) a.coefs)] (fr 7 8) [(7,V.ref 22 0)] [(21,some (ar 3 2 1 rI x1)),(22,sc [ms 21 2 1 rI x1,vI a.const])] [(21,true),(22,true)] ?_
 obtain⟨x2,hx2,x3,hx3,h⟩:=cT h
 refine rq hC [oQ (kS rI hx2),oX rI hx2,.z (.rows (List.map rI x3)),.z (.lenc 22 0 (List.map rI x3).length),oQ (str rI hx3),oQ (iH rI hx3)] (fr 15 4) [] [(21,some (ar 3 2 1 rI x3)),(22,sc [ms 21 2 1 rI x3,vI a.const])] [] (qs ?_)
 obtain⟨x4,hx4,x5,hx5,h⟩:=cT h
 obtain rfl:=so h
 exact dk hC bD [.z (.at 9),.z (.fz 21 [] [22]),oR rI hx4,oC [] [23] (gD G hx5)] (fr 19 8) [] [(22,sc [vM rI x3,vI a.const]),(21,none),(23,some (ar 3 1 1 rI x5.coefs)),(20,sc [ms 23 1 1 rI x5.coefs,vI x5.const])] [(23,true)] (qw (lk hC [.fz 23 [] [20]] [] [] [(20,some (E.cells (aJ x5))),(23,none)] []) (qr eR))
theorem G6{a}{way}{v}{b}{r}(h:fS n a way v b=some r):PQ G 261 [V.agg (aJ a),vI way,vI v,V.agg (aJ b)] (V.agg (aJ r)):=by
 unfold fS at h
 refine pq aN Tryz.func261 rfl fun w X hC=> ?_
 refine rq hC [.z (.b (true)),.z (.b (true)),.z (.nat 20)] [4,7,8] [(4,V.tp (aQ a)),(7,V.tp (aQ b)),(8,V.ref 20 0)] [(20,sc [V.t T.nilS,vI 0])] [(20,true)] (qs (rq hC [] [11] [(11,vI way)] [] [] (qb (rq hC [] [12,13] [(12,vB (decide (way=0)))] [] [] (aT h (fun c1 h=> ?_) (fun c1 h=> ?_))))))
 ·obtain⟨x1,hx1,h⟩:=bd h
  obtain rfl:=so h
  exact rq hC [oV (aBU G hx1)] [14,15,16] [] [(20,some (E.cells (aJ x1)))] [] (qr eR)
 ·refine rq hC [] [17,18] [(17,vB (decide (way=1)))] [] [] (aT h (fun c2 h=> ?_) (fun c2 h=> ?_))
  ·obtain⟨x2,hx2,h⟩:=bd h
   obtain rfl:=so h
   exact rq hC [oV (aAA G hx2)] (fr 19 4) [] [(20,some (E.cells (aJ x2)))] [] (qr eR)
  ·refine qk (rq hC [.z (.nat 21)] [9,23,24,25] [(9,V.ref 21 0)] [(21,sc [V.t T.nilS,vI a.const])] [(21,true)] (qs (rq hC [] [10] [(10,vI 0)] [] [] (qb (qw (lk hC [.growc 21 0 22 3] [] [] [(22,some (ar 3 1 1 rI [])),(21,sc [ms 22 1 1 rI [],vI a.const])] [(22,true)]) ?_)))))
   refine bC (γ:=Nat) h (fun x_ g_=>aY [(2,vI v),(4,V.tp (aQ a)),(8,V.ref 20 0),(9,V.ref 21 0),(10,vI x_.2)] [(20,E.cells [V.t T.nilS,vI 0]),(21,E.cells [ms 22 g_ 1 rI x_.1,vI a.const]),(22,ar 3 g_ 1 rI x_.1)] [20,21,22]) 1 (lS) ?_
   rintro again6 ⟨x3,x4⟩ g5 h
   refine qs (rq hC [] [26,27] [(27,vB (decide (x4<4)))] [] [] (aT h (fun c3 h=> ?_) (fun c3 h=> ?_)))
   ·refine qk (vj h (fun x_=>aY [(2,vI v),(4,V.tp (aQ a)),(8,V.ref 20 0),(9,V.ref 21 0),(10,vI x4)] [(20,E.cells [V.t T.nilS,vI 0]),(21,E.cells [ms 22 (g5+1) 1 rI x_,vI a.const]),(22,ar 3 (g5+1) 1 rI x_)] [20,21,22]) (fun j7 h=> ?_) (fun x13 h=> ?_))
    ·
     refine qb (qb (rq hC [] (fr 41 4) [(41,vB (decide (x4<v)))] [] [] (aT h (fun c4 h=> ?_) (fun c4 h=> ?_))))
     ·obtain⟨x8,hx8,x9,hx9,h⟩:=cT h
      exact dk hC bD [oR rI hx8,.z (.int 0),oA (aO rI hx9),oQ (bO (r:=rI) 1 (fun _=>rfl) x3),oQ (bO (r:=rI) 1 (fun _=>rfl) [x8])] (fr 45 10) [] [(22,some (ar 3 (g5+1) 1 rI x9)),(21,sc [ms 22 (g5+1) 1 rI x9,vI a.const])] [] (lE h)
     ·refine rq hC [] (fr 55 4) [(55,vB (decide (x4=v)))] [] [] (aT h (fun c5 h=> ?_) (fun c5 h=> ?_))
      ·obtain⟨x10,hx10,h⟩:=bd h
       exact rk hC [.z (.int 0),oA (aO rI hx10),oQ (bO (r:=rI) 1 (fun _=>rfl) x3),oQ (bO (r:=rI) 1 (fun _=>rfl) [0])] (fr 59 5) [] [(22,some (ar 3 (g5+1) 1 rI x10)),(21,sc [ms 22 (g5+1) 1 rI x10,vI a.const])] [] (lE h)
      ·obtain⟨x11,hx11,x12,hx12,h⟩:=cT h
       exact dk hC bD [oR rI hx11,.z (.int 0),oA (aO rI hx12),oQ (bO (r:=rI) 1 (fun _=>rfl) x3),oQ (bO (r:=rI) 1 (fun _=>rfl) [x11])] (fr 30 11) [] [(22,some (ar 3 (g5+1) 1 rI x12)),(21,sc [ms 22 (g5+1) 1 rI x12,vI a.const])] [] (lE h)
    ·exact rk hC [] [10,28,29] [(10,vI (wr (x4+1)))] [] [] ⟨(x13,wr (x4+1)),(g5+1),h,lS⟩
   ·obtain rfl:=so h
    exact cQ (rq hC [.z (.at 2),.z (.fz 22 [] [21])] [64] [] [(21,sc [vM rI x3,vI a.const]),(22,none),(20,sc [vM rI x3,vI a.const])] [] (qr eR))
theorem uF{list}{way}{v}{b}{r}(h:m8 n list way v b=some r):VQ G 226 [] [vM aA list,vI way,vI v,V.agg (aJ b)] (ms 0 1 2 aA r) [ar 63 1 2 aA r]:=by
 unfold m8 at h
 refine vq aN Tryz.func226 rfl fun w X β0 hC hg=> ?_
 refine rq hC [.z (.b (true))] [7,8] [(7,V.tp (aQ b))] [] [] (rq hC [.z (.nat 20)] [9,11] [(9,ms 20 1 2 aA [])] [(20,some (ar 63 1 2 aA []))] [(20,true)] (qs (rq hC [] [10] [(10,vI 0)] [] [] (qb (bC (γ:=Nat) h (fun x_ g_=>aY [(0,vM aA list),(1,vI way),(2,vI v),(7,V.tp (aQ b)),(9,ms 20 g_ 2 aA x_.1),(10,vI x_.2)] [(20,ar 63 g_ 2 aA x_.1)] [20]) 1 (lS) ?_)))))
 rintro again4 ⟨x1,x2⟩ g3 h
 refine qs (rq hC [oN aA list] (fr 12 4) [(15,vB (decide (x2<(list.length:Int))))] [] [] (aT h (fun c1 h=> ?_) (fun c1 h=> ?_)))
 ·refine qk (qs (qb ?_))
  obtain⟨x5,hx5,x6,hx6,x7,hx7,h⟩:=kH h
  exact dk hC bD [oR aA hx5,oV (G6 G hx6),.z (.int 0),oA (aO aA hx7),oQ (bO (r:=aA) 2 aS x1),oQ (bO (r:=aA) 2 aS [x6])] [9,18,19,20,21,22,23,24,25,26,27,28] [(9,ms 20 (g3+1) 2 aA x7)] [(20,some (ar 63 (g3+1) 2 aA x7))] [] (rk hC [] [10,16,17] [(10,vI (wr (x2+1)))] [] [] ⟨(x7,wr (x2+1)),(g3+1),h,lS⟩)
 ·obtain rfl:=so h
  exact cQ (rq hC [] [8,29] [(8,ms 20 g3 2 aA x1)] [] [] (qw (lk hC [.ren 8 20 0] [8] [(8,ms 0 1 2 aA x1)] [(0,some (ar 63 1 2 aA x1)),(20,none)] [(0,true)]) (qr eW)))
theorem v7{a}{way}{v}{b}{r}(h:iX n a way v b=some r):PQ G 224 [V.agg (b8 a),vI way,vI v,V.agg (aJ b)] (V.agg (b8 r)):=by
 unfold iX at h
 refine pq aN Tryz.func224 rfl fun w X hC=> ?_
 refine rq hC [.z (.b (true)),.z (.b (true)),.z (.nat 20)] [4,7,8] [(4,V.tp (dB a)),(7,V.tp (aQ b)),(8,V.ref 20 0)] [(20,sc [vS [],V.t T.nilS])] [(20,true)] (qs ?_)
 obtain⟨x1,hx1,h⟩:=bd h
 obtain rfl:=so h
 exact dk hC bD [oC [] [21] (uF G hx1)] (fr 9 9) [] [(21,some (ar 63 1 2 aA x1)),(20,sc [vS a.array,ms 21 1 2 aA x1])] [(21,true)] (qw (lk hC [.fz 21 [] [20]] [] [] [(20,sc [vS a.array,vM aA x1]),(21,none)] []) (qr eR))
theorem aBX(G:GS): ∀(n:Nat) (e:Expr) (way:Int) (v:Int) (b:Affine) {r:Expr} (h:s_l8Expr n e way v b=some r),PQ G 225 [V.agg (cO e),vI way,vI v,V.agg (aJ b)] (V.agg (cO r)):=by
 intro n
 induction n with
 |zero=>intro e way v b r h;rw [s_l8Expr.eq_def] at h;cases h
 |succ n ih=>
  intro e way v b r h
  rw [s_l8Expr.eq_def] at h;dsimp only at h
  refine pq aN Tryz.func225 rfl fun w X hC=> ?_
  refine rq hC [.z (.b (true)),.z (.b (true)),.z (.nat 20)] [4,7,8] [(4,V.tp (eX e)),(7,V.tp (aQ b)),(8,V.ref 20 0)] [(20,sc [vI 0,vI 0,V.t T.nilS,vI 0,vS [],V.t T.nilS,V.t T.nilS])] [(20,true)] (rq hC [.z (.nat 21)] [9,11,12,13,14,15] [(9,V.ref 21 0)] [(21,sc [vI e.kind,vI e.num,V.t T.nilS,vI 0,vS [],V.t T.nilS,V.t T.nilS])] [(21,true)] (vj h (fun x_=>aY [(1,vI way),(2,vI v),(4,V.tp (eX e)),(7,V.tp (aQ b)),(8,V.ref 20 0),(9,V.ref 21 0)] [(20,E.cells [vI 0,vI 0,V.t T.nilS,vI 0,vS [],V.t T.nilS,V.t T.nilS]),(21,E.cells [vI e.kind,vI e.num,vM rI x_.1,vI x_.2,vS [],V.t T.nilS,V.t T.nilS])] [20,21]) (fun j1 h=> ?_) ?_))
  ·
   refine rq hC [] [16,17,18] [(18,vB (decide (e.kind=2)))] [] [] (aT h (fun c1 h=> ?_) (fun c1 h=> ?_))
   ·obtain⟨x2,hx2,h⟩:=bd h
    exact rk hC [oV (G6 G hx2)] (fr 19 7) [] [(21,sc [vI e.kind,vI e.num,vM rI x2.coefs,vI x2.const,vS [],V.t T.nilS,V.t T.nilS])] [] (lE h)
   ·exact qk (lE h)
  ·rintro⟨x3,x4⟩ h
   refine vj h (fun x_=>aY [(1,vI way),(2,vI v),(4,V.tp (eX e)),(7,V.tp (aQ b)),(8,V.ref 20 0),(9,V.ref 21 0)] [(20,E.cells [vI 0,vI 0,V.t T.nilS,vI 0,vS [],V.t T.nilS,V.t T.nilS]),(21,E.cells [vI e.kind,vI e.num,vM rI x3,vI x4,vS x_.1,vM aA x_.2,V.t T.nilS])] [20,21]) (fun j5 h=> ?_) ?_
   ·
    refine rq hC [] [26,27,28] [(28,vB (decide (e.kind=3)))] [] [] (aT h (fun c2 h=> ?_) (fun c2 h=> ?_))
    ·obtain⟨x6,hx6,h⟩:=bd h
     exact rk hC [oV (v7 G hx6)] (fr 29 7) [] [(21,sc [vI e.kind,vI e.num,vM rI x3,vI x4,vS x6.array,vM aA x6.subs,V.t T.nilS])] [] (lE h)
    ·exact qk (lE h)
   ·rintro⟨x7,x8⟩ h
    refine qs (rq hC [] [10] [(10,vI 0)] [] [] (qb (qw (lk hC [.growc 21 6 22 84] [] [] [(22,some (ar 84 1 7 aH [])),(21,sc [vI e.kind,vI e.num,vM rI x3,vI x4,vS x7,vM aA x8,ms 22 1 7 aH []])] [(22,true)]) (bC (γ:=Nat) h (fun x_ g_=>aY [(1,vI way),(2,vI v),(4,V.tp (eX e)),(7,V.tp (aQ b)),(8,V.ref 20 0),(9,V.ref 21 0),(10,vI x_.2)] [(20,E.cells [vI 0,vI 0,V.t T.nilS,vI 0,vS [],V.t T.nilS,V.t T.nilS]),(21,E.cells [vI e.kind,vI e.num,vM rI x3,vI x4,vS x7,vM aA x8,ms 22 g_ 7 aH x_.1]),(22,ar 84 g_ 7 aH x_.1)] [20,21,22]) 1 (lS) ?_))))
    rintro again12 ⟨x9,x10⟩ g11 h
    refine qs (rq hC [oN aH e.kids] (fr 36 5) [(40,vB (decide (x10<(e.kids.length:Int))))] [] [] (aT h (fun c3 h=> ?_) (fun c3 h=> ?_)))
    ·refine qk (qs (qb ?_))
     obtain⟨x13,hx13,x14,hx14,x15,hx15,h⟩:=kH h
     exact dk hC bD [.z (.row (d7 x13)),oQ (eY aH hx13 (cS x13)),oV (ih x13 way v b hx14),.z (.int 2),.z (.rows (List.map aH [x14])),oQ (qM x14),oA (aO aH hx15),oQ (bO (r:=aH) 7 dJ x9),oQ (bO (r:=aH) 7 dJ [x14])] (fr 43 14) [] [(22,some (ar 84 (g11+1) 7 aH x15)),(21,sc [vI e.kind,vI e.num,vM rI x3,vI x4,vS x7,vM aA x8,ms 22 (g11+1) 7 aH x15])] [] (rk hC [] [10,41,42] [(10,vI (wr (x10+1)))] [] [] ⟨(x15,wr (x10+1)),(g11+1),h,lS⟩)
    ·obtain rfl:=so h
     exact cQ (rq hC [.z (.at 2),.z (.fz 22 [] [21])] [57] [] [(21,sc [vI e.kind,vI e.num,vM rI x3,vI x4,vS x7,vM aA x8,vM aH x9]),(22,none),(20,sc [vI e.kind,vI e.num,vM rI x3,vI x4,vS x7,vM aA x8,vM aH x9])] [] (qr eR))
theorem aBZ{list}{way}{v}{b}{r}(h:rK n list way v b=some r):VQ G 170 [] [vM aG list,vI way,vI v,V.agg (aJ b)] (ms 0 1 9 aG r) [ar 86 1 9 aG r]:=by
 unfold rK at h
 refine vq aN Tryz.func170 rfl fun w X β0 hC hg=> ?_
 refine rq hC [.z (.b (true))] [7,8] [(7,V.tp (aQ b))] [] [] (rq hC [.z (.nat 20)] [9,11] [(9,ms 20 1 9 aG [])] [(20,some (ar 86 1 9 aG []))] [(20,true)] (qs (rq hC [] [10] [(10,vI 0)] [] [] (qb (bC (γ:=Nat) h (fun x_ g_=>aY [(0,vM aG list),(1,vI way),(2,vI v),(7,V.tp (aQ b)),(9,ms 20 g_ 9 aG x_.1),(10,vI x_.2)] [(20,ar 86 g_ 9 aG x_.1)] [20]) 1 (lS) ?_)))))
 rintro again4 ⟨x1,x2⟩ g3 h
 refine qs (rq hC [oN aG list] (fr 12 4) [(15,vB (decide (x2<(list.length:Int))))] [] [] (aT h (fun c1 h=> ?_) (fun c1 h=> ?_)))
 ·refine qk (qs (qb ?_))
  obtain⟨x5,hx5,x6,hx6,x7,hx7,h⟩:=kH h
  obtain⟨x8,hx8,h⟩:=bd h
  exact dk hC bD [oR aG hx5,oV (v7 G hx6),oR aG hx5,oV (aBX G n x5.value way v b hx7),.z (.int 0),oA (aO aG hx8),oQ (bO (r:=aG) 9 dI x1),oQ (bO (r:=aG) 9 dI [(⟨x6,x7⟩:Stmt)])] [9,18,19,20,21,22,23,24,25,26,27,28,29,30,31,32,33,34,35,36,37,38,39] [(9,ms 20 (g3+1) 9 aG x8)] [(20,some (ar 86 (g3+1) 9 aG x8))] [] (rk hC [] [10,16,17] [(10,vI (wr (x2+1)))] [] [] ⟨(x8,wr (x2+1)),(g3+1),h,lS⟩)
 ·obtain rfl:=so h
  exact cQ (rq hC [] [8,40] [(8,ms 20 g3 9 aG x1)] [] [] (qw (lk hC [.ren 8 20 0] [8] [(8,ms 0 1 9 aG x1)] [(0,some (ar 86 1 9 aG x1)),(20,none)] [(0,true)]) (qr eW)))
theorem aBW{x}{way}{v}{b}{r}(h:oW n x way v b=some r):PQ G 171 [V.agg (jI x),vI way,vI v,V.agg (aJ b)] (V.agg (jI r)):=by
 unfold oW at h
 refine pq aN Tryz.func171 rfl fun w X hC=> ?_
 refine rq hC [.z (.b (true)),.z (.b (true)),.z (.nat 20)] [4,7,8] [(4,V.tp (tI x)),(7,V.tp (aQ b)),(8,V.ref 20 0)] [(20,sc [V.t T.nilS,V.t T.nilS])] [(20,true)] (qs ?_)
 obtain⟨x1,hx1,x2,hx2,h⟩:=cT h
 obtain rfl:=so h
 exact dk hC bD [oC [] [21] (uF G hx1),oC [] [22] (uF G hx2)] (fr 9 13) [] [(21,some (ar 63 1 2 aA x1)),(22,some (ar 63 1 2 aA x2)),(20,sc [ms 21 1 2 aA x1,ms 22 1 2 aA x2])] [(21,true),(22,true)] (qw (lk hC [.fz 21 [] [20]] [] [] [(20,sc [vM aA x1,ms 22 1 2 aA x2]),(21,none)] []) (qw (lk hC [.fz 22 [] [20]] [] [] [(20,sc [vM aA x1,vM aA x2]),(22,none)] []) (qr eR)))
theorem aAr{x}{after}{way}{v}{b}{r}(h:oZ n x after way v b=some r):VQ G 109 [] [V.agg (kF x),vI after,vI way,vI v,V.agg (aJ b)] (V.agg [ms 0 1 2 aC r.nest,ms 1 1 9 aG r.body]) [ar 56 1 2 aC r.nest,ar 86 1 9 aG r.body]:=by
 unfold oZ at h
 refine vq aN Tryz.func109 rfl fun w X β0 hC hg=> ?_
 refine rq hC [.z (.b (true)),.z (.b (true)),.z (.nat 20)] [5,9,10] [(5,V.tp (jB x)),(9,V.tp (aQ b)),(10,V.ref 20 0)] [(20,sc [V.t T.nilS,V.t T.nilS])] [(20,true)] (qs ?_)
 obtain⟨x1,hx1,x2,hx2,x3,hx3,h⟩:=kH h
 refine dk hC bD [.z (.nat 21),oA (u4 aC hx1),oQ (bO (r:=aC) 2 bU x.nest),oA (aO aC hx2),oQ (bO (r:=aC) 2 bU []),oQ (bO (r:=aC) 2 bU x1),oC [] [22] (aBZ G hx3),.z (.nat 23)] [11,13,14,15,16,17,18,19,20,21,22,23,24,25,26] [(11,V.ref 23 0)] [(21,some (ar 56 2 2 aC x2)),(22,some (ar 86 1 9 aG x3)),(23,sc [ms 21 2 2 aC x2,ms 22 1 9 aG x3])] [(21,true),(22,true),(23,true)] (qs (rq hC [] [12,27,28] [(12,vI (wr (after+1)))] [] [] (qb (bC (γ:=Nat) h (fun x_ g_=>aY [(2,vI way),(3,vI v),(5,V.tp (jB x)),(9,V.tp (aQ b)),(10,V.ref 20 0),(11,V.ref 23 0),(12,vI x_.2)] [(20,E.cells [V.t T.nilS,V.t T.nilS]),(21,ar 56 g_ 2 aC x_.1),(22,ar 86 1 9 aG x3),(23,E.cells [ms 21 g_ 2 aC x_.1,ms 22 1 9 aG x3])] [20,21,22,23]) 2 (lS) ?_))))
 rintro again7 ⟨x4,x5⟩ g6 h
 refine qs (rq hC [oN aC x.nest] (fr 29 5) [(33,vB (decide (x5<(x.nest.length:Int))))] [] [] (aT h (fun c1 h=> ?_) (fun c1 h=> ?_)))
 ·refine qk (qs (qb ?_))
  obtain⟨x8,hx8,x9,hx9,x10,hx10,h⟩:=kH h
  exact dk hC bD [oR aC hx8,oV (aBW G hx9),.z (.int 0),oA (aO aC hx10),oQ (bO (r:=aC) 2 bU x4),oQ (bO (r:=aC) 2 bU [x9])] (fr 36 14) [] [(21,some (ar 56 (g6+1) 2 aC x10)),(23,sc [ms 21 (g6+1) 2 aC x10,ms 22 1 9 aG x3])] [] (rk hC [] [12,34,35] [(12,vI (wr (x5+1)))] [] [] ⟨(x10,wr (x5+1)),(g6+1),h,lS⟩)
 ·obtain rfl:=so h
  exact cQ (rq hC [] [50] [] [(20,sc [ms 21 g6 2 aC x4,ms 22 1 9 aG x3])] [] (qw (lk hC [.rn 21 0 [] [20,23]] [] [] [(20,sc [ms 0 1 2 aC x4,ms 22 1 9 aG x3]),(23,sc [ms 0 1 2 aC x4,ms 22 1 9 aG x3]),(21,none),(0,some (ar 56 1 2 aC x4))] [(0,true)]) (qw (lk hC [.rn 22 1 [] [20,23]] [] [] [(20,sc [ms 0 1 2 aC x4,ms 1 1 9 aG x3]),(23,sc [ms 0 1 2 aC x4,ms 1 1 9 aG x3]),(22,none),(1,some (ar 86 1 9 aG x3))] [(1,true)]) (qr eW))))
theorem mZ{v}{r}(h:jM n v=some r):VQ G 79 [] [vI v] (V.agg [ms 0 1 1 rI r.coefs,vI r.const]) [ar 3 1 1 rI r.coefs]:=by
 unfold jM at h
 refine vq aN Tryz.func79 rfl fun w X β0 hC hg=> ?_
 refine rq hC [.z (.nat 20)] [2] [(2,V.ref 20 0)] [(20,sc [V.t T.nilS,vI 0])] [(20,true)] ?_
 obtain⟨x1,hx1,h⟩:=bd h
 refine rq hC [oC [] [21] (lC G n hx1),.z (.nat 22)] [3,4] [(3,V.ref 22 0)] [(21,some (ar 3 1 1 rI x1.coefs)),(22,sc [ms 21 1 1 rI x1.coefs,vI x1.const])] [(21,true),(22,true)] ?_
 obtain⟨x2,hx2,x3,hx3,h⟩:=cT h
 obtain rfl:=so h
 exact rq hC [oQ (kS rI hx2),oX rI hx2,.z (.rows (List.map rI x3)),.z (.lenc 22 0 (List.map rI x3).length),oQ (str rI hx3),oQ (iH rI hx3)] (fr 5 4) [] [(21,some (ar 3 1 1 rI x3)),(22,sc [ms 21 1 1 rI x3,vI x1.const])] [] (rq hC [] [9] [] [(20,sc [ms 21 1 1 rI x3,vI x1.const])] [] (qw (lk hC [.rn 21 0 [] [20,22]] [] [] [(20,sc [ms 0 1 1 rI x3,vI x1.const]),(22,sc [ms 0 1 1 rI x3,vI x1.const]),(21,none),(0,some (ar 3 1 1 rI x3))] [(0,true)]) (qr eW)))
theorem aBV{x}{loop}{by_a2}{r}(h:rH n x loop by_a2=some r):PQ G 63 [V.agg (kF x),vI loop,V.agg (aJ by_a2)] (V.agg (kF r)):=by
 unfold rH at h
 refine pq aN Tryz.func63 rfl fun w X hC=> ?_
 refine rq hC [.z (.b (true)),.z (.b (true)),.z (.nat 20)] [3,5,6] [(3,V.tp (jB x)),(5,V.tp (aQ by_a2)),(6,V.ref 20 0)] [(20,sc [V.t T.nilS,V.t T.nilS])] [(20,true)] (qs ?_)
 obtain⟨x1,hx1,x2,hx2,h⟩:=cT h
 refine dk hC bD [oC [] [21] (mZ G hx1),.z (.at 3),.z (.fz 21 [13] []),oC [] [22] (gD G hx2),.z (.nat 23)] [7,12,13,14,15] [(7,V.ref 23 0)] [(21,none),(22,some (ar 3 1 1 rI x2.coefs)),(23,sc [ms 22 1 1 rI x2.coefs,vI x2.const])] [(21,true),(22,true),(23,true)] ?_
 obtain⟨x3,hx3,h⟩:=bd h
 refine rq hC [.z (.at 4),.z (.fz 22 [] [23]),oC [] [24,25] (aAr G hx3),.z (.nat 26)] [8,16,17,18,19,20] [(8,V.ref 26 0)] [(23,some (E.cells (aJ x2))),(22,none),(24,some (ar 56 1 2 aC x3.nest)),(25,some (ar 86 1 9 aG x3.body)),(26,sc [ms 24 1 2 aC x3.nest,ms 25 1 9 aG x3.body])] [(24,true),(25,true),(26,true)] (rq hC [.z (.nat 27)] [9,21] [(9,V.ref 27 0)] [(27,sc [V.t T.nilS,V.t T.nilS])] [(27,true)] (qs (rq hC [] [10] [(10,vI 0)] [] [] (qb (qw (lk hC [.growc 27 0 28 63] [] [] [(28,some (ar 63 1 2 aA [])),(27,sc [ms 28 1 2 aA [],V.t T.nilS])] [(28,true)]) ?_)))))
 refine bC (γ:=Nat) h (fun x_ g_=>aY [(1,vI loop),(3,V.tp (jB x)),(5,V.tp (aQ by_a2)),(6,V.ref 20 0),(8,V.ref 26 0),(9,V.ref 27 0),(10,vI x_.2)] [(20,E.cells [V.t T.nilS,V.t T.nilS]),(23,E.cells (aJ x2)),(24,ar 56 1 2 aC x3.nest),(25,ar 86 1 9 aG x3.body),(26,E.cells [ms 24 1 2 aC x3.nest,ms 25 1 9 aG x3.body]),(27,E.cells [ms 28 g_ 2 aA x_.1,V.t T.nilS]),(28,ar 63 g_ 2 aA x_.1)] [20,21,22,23,24,25,26,27,28]) 1 (lS) ?_
 rintro again7 ⟨x4,x5⟩ g6 h
 refine qs ?_
 obtain⟨x8,hx8,h⟩:=bd h
 refine rq hC [oR aC hx8,oN aA x8.lo] (fr 22 9) [(30,vB (decide (x5<(x8.lo.length:Int))))] [] [] (aT h (fun c1 h=> ?_) (fun c1 h=> ?_))
 ·refine qk (qs (qb ?_))
  obtain⟨x9,hx9,x10,hx10,x11,hx11,h⟩:=kH h
  exact dk hC bD [oR aC hx8,oR aA hx9,oC [] [29] (gD G hx10),.z (.at 4),.z (.fz 29 [45] []),.z (.int 0),oA (aO aA hx11),oQ (bO (r:=aA) 2 aS x4),oQ (bO (r:=aA) 2 aS [x10])] (fr 33 16) [] [(29,none),(28,some (ar 63 (g6+1) 2 aA x11)),(27,sc [ms 28 (g6+1) 2 aA x11,V.t T.nilS])] [(29,true)] (rk hC [] [10,31,32] [(10,vI (wr (x5+1)))] [] [] ⟨(x11,wr (x5+1)),(g6+1),h,lS⟩)
 ·refine cQ (qs (rq hC [] [11] [(11,vI 0)] [] [] (qb (qw (lk hC [.growc 27 1 29 63] [] [] [(29,some (ar 63 1 2 aA [])),(27,sc [ms 28 g6 2 aA x4,ms 29 1 2 aA []])] [(29,true)]) (bC (γ:=Nat) h (fun x_ g_=>aY [(1,vI loop),(3,V.tp (jB x)),(5,V.tp (aQ by_a2)),(6,V.ref 20 0),(8,V.ref 26 0),(9,V.ref 27 0),(11,vI x_.2)] [(20,E.cells [V.t T.nilS,V.t T.nilS]),(23,E.cells (aJ x2)),(24,ar 56 1 2 aC x3.nest),(25,ar 86 1 9 aG x3.body),(26,E.cells [ms 24 1 2 aC x3.nest,ms 25 1 9 aG x3.body]),(27,E.cells [ms 28 g6 2 aA x4,ms 29 g_ 2 aA x_.1]),(28,ar 63 g6 2 aA x4),(29,ar 63 g_ 2 aA x_.1)] [20,21,22,23,24,25,26,27,28,29]) 1 (lS) ?_)))))
  rintro again15 ⟨x12,x13⟩ g14 h
  refine qs (rq hC [oR aC hx8,oN aA x8.hi] (fr 49 9) [(57,vB (decide (x13<(x8.hi.length:Int))))] [] [] (aT h (fun c2 h=> ?_) (fun c2 h=> ?_)))
  ·refine qk (qs (qb ?_))
   obtain⟨x16,hx16,x17,hx17,x18,hx18,h⟩:=kH h
   exact dk hC bD [oR aC hx8,oR aA hx16,oC [] [30] (gD G hx17),.z (.at 4),.z (.fz 30 [72] []),.z (.int 0),oA (aO aA hx18),oQ (bO (r:=aA) 2 aS x12),oQ (bO (r:=aA) 2 aS [x17])] (fr 60 16) [] [(30,none),(29,some (ar 63 (g14+1) 2 aA x18)),(27,sc [ms 28 g6 2 aA x4,ms 29 (g14+1) 2 aA x18])] [(30,true)] (rk hC [] [11,58,59] [(11,vI (wr (x13+1)))] [] [] ⟨(x18,wr (x13+1)),(g14+1),h,lS⟩)
  ·refine cQ ?_
   obtain⟨x19,hx19,x20,hx20,h⟩:=cT h
   obtain rfl:=so h
   exact rq hC [.z (.at 3),.z (.fz 28 [] [27]),.z (.at 3),.z (.fz 29 [] [27]),oQ (kS aC hx19),oX aC hx19,.z (.rows (List.map aC x20)),.z (.lenc 26 0 (List.map aC x20).length),oQ (str aC hx20),oQ (iH aC hx20)] (fr 76 5) [] [(27,sc [vM aA x4,vM aA x12]),(28,none),(29,none),(24,some (ar 56 1 2 aC x20)),(26,sc [ms 24 1 2 aC x20,ms 25 1 9 aG x3.body])] [] (rq hC [.z (.at 2),.z (.fz 24 [] [26]),.z (.at 2),.z (.fz 25 [] [26])] [81] [] [(26,sc [vM aC x20,vM aG x3.body]),(24,none),(25,none),(20,sc [vM aC x20,vM aG x3.body])] [] (qr eR))
theorem K5{p}{part}{loop}{by_a3}{r}(h:lN n p part loop by_a3=some r):PQ G 17 [V.agg (bJ p),vI part,vI loop,vI by_a3] (V.tup [V.agg (bJ r.1),vB r.2]):=by
 unfold lN at h
 refine pq aN Tryz.func17 rfl fun w X hC=> ?_
 refine rq hC [.z (.nat 20),.z (.nat 21)] [4,8,9] [(4,V.ref 20 0),(8,V.ref 21 0)] [(20,some (E.cells (bJ p))),(21,sc [V.t T.nilS,V.t T.nilS])] [(20,true),(21,true)] ?_
 obtain⟨x1,hx1,h⟩:=bd h
 refine rq hC [oV (wC G hx1)] [10,11] [] [(20,some (E.cells (bJ x1)))] [] (qs (vj h (fun x_=>aY [(1,vI part),(2,vI loop),(3,vI by_a3),(4,V.ref 20 0),(8,V.ref 21 0),(21,vB x_)] [(20,E.cells (bJ x1)),(21,E.cells [V.t T.nilS,V.t T.nilS])] [20,21]) (fun j2 h=> ?_) (fun x5 h=> ?_)))
 ·
  obtain⟨x3,hx3,h⟩:=bd h
  refine aR h (fun c1 h=> ?_) (fun c1 h=> ?_)
  ·obtain⟨x4,hx4,h⟩:=bd h
   exact rk hC [oV (P8 G hx3),oF c1,oF c1,oV (mL G hx4),oF c1,oF c1] (fr 12 10) [(21,vB (!x4))] [] [] (lE h)
  ·exact rk hC ([oV (P8 G hx3)]++rT 4 c1) (fr 12 10) [(21,vB true)] [] [] (lE h)
 ·refine aT h (fun c2 h=> ?_) (fun c2 h=> ?_)
  ·obtain rfl:=so h
   exact rq hC [] [9,22] [(9,vB false)] [(21,sc [V.t T.nilS,V.t T.nilS])] [] (qr eR)
  ·refine qk (qs ?_)
   obtain⟨x6,hx6,x7,hx7,x8,hx8,h⟩:=kH h
   obtain⟨x9,hx9,h⟩:=bd h
   obtain rfl:=so h
   exact dk hC bD [oR aD hx6,oC [] [22] (cM G hx7),.z (.at 7),.z (.fz 22 [32] []),oV (aBV G hx8),.z (.int 0),oV (aBT G hx9)] [9,23,24,25,26,27,28,29,30,31,32,33,34,35,36,37] [(9,vB x9.2)] [(22,none),(21,some (E.cells (bJ x9.1)))] [(22,true)] (qr eR)
theorem uQ(G:GS)(n:Nat)(s1:List Part)(s2:List Part)(eqF:FuncId)(eq:Part→Part→Option Bool)(heq: ∀(q0:Part) (q1:Part) r,eq q0 q1=some r→PQ G eqF [V.agg (kF q0),V.agg (kF q1)] (vB r)){r:Bool}(h:hD n s1 s2 eq=some r):PQ G 72 [vM aD s1,vM aD s2,V.fn eqF []] (vB r):=by
 unfold hD at h
 refine pq aN Tryz.func72 rfl fun w X hC=> ?_
 refine rq hC [] [6] [] [] [] (qs (rq hC [oN aD s1,oN aD s2] (fr 10 5) [(14,vB (!decide ((s1.length:Int)=(s2.length:Int))))] [] [] (aT h (fun c1 h=> ?_) (fun c1 h=> ?_))))
 ·obtain rfl:=so h
  exact rq hC [] [6] [(6,vB false)] [] [] (qr eR)
 ·refine qk (qs (rq hC [oN aD s1] [15,16,17] [(15,vM aD s1),(16,vI (s1.length:Int)),(17,vI 0)] [] [] (qb (jA h (fun x_=>aY [(1,vM aD s2),(2,V.fn eqF []),(15,vM aD s1),(16,vI (s1.length:Int)),(17,vI x_)] [] []) lS ?_))))
  rintro again2 x1 h
  refine rq hC [] [18] [(18,vB (decide (x1<(s1.length:Int))))] [] [] (qs (aT h (fun c2 h=> ?_) (fun c2 h=> ?_)))
  ·refine qk (qs (qb ?_))
   obtain⟨x3,hx3,h⟩:=bd h
   refine rq hC [oR aD hx3,.z (.nat 20)] [7,8,19,20,21] [(7,vI x1),(8,V.ref 20 0)] [(20,some (E.cells (kF x3)))] [(20,true)] ?_
   obtain⟨x4,hx4,h⟩:=bd h
   refine rq hC [oR aD hx4,.z (.nat 21)] [9,22,23,24,25] [(9,V.ref 21 0)] [(21,some (E.cells (kF x4)))] [(21,true)] ?_
   obtain⟨x5,hx5,h⟩:=bd h
   refine rq hC [oV (heq x3 x4 _ hx5)] (fr 26 5) [(30,vB (!x5))] [] [] (aT h (fun c3 h=> ?_) (fun c3 h=> ?_))
   ·obtain rfl:=so h
    exact rq hC [] [6] [(6,vB false)] [] [] (qr eR)
   ·exact qk (rk hC [] [17,31] [(17,vI (wr (x1+1)))] [] [] (lE h))
  ·obtain rfl:=so h
   exact cQ (rq hC [] [6] [(6,vB true)] [] [] (qr eR))
theorem oI{s1}{s2}{r}(h:jE n s1 s2=some r):PQ G 66 [vM rI s1,vM rI s2] (vB r):=by
 unfold jE at h
 refine pq aN Tryz.func66 rfl fun w X hC=> ?_
 refine rq hC [] [4] [] [] [] (qs (rq hC [oN rI s1,oN rI s2] (fr 6 5) [(10,vB (!decide ((s1.length:Int)=(s2.length:Int))))] [] [] (aT h (fun c1 h=> ?_) (fun c1 h=> ?_))))
 ·obtain rfl:=so h
  exact rq hC [] [4] [(4,vB false)] [] [] (qr eR)
 ·refine qk (qs (rq hC [oN rI s1] [11,12,13] [(12,vI (s1.length:Int)),(13,vI 0)] [] [] (qb (jA h (fun x_=>aY [(0,vM rI s1),(1,vM rI s2),(12,vI (s1.length:Int)),(13,vI x_)] [] []) lS ?_))))
  rintro again2 x1 h
  refine rq hC [] [14] [(14,vB (decide (x1<(s1.length:Int))))] [] [] (qs (aT h (fun c2 h=> ?_) (fun c2 h=> ?_)))
  ·refine qk (qs (qb (rq hC [] [5,15] [(5,vI x1)] [] [] (qs ?_))))
   obtain⟨x3,hx3,x4,hx4,h⟩:=cT h
   refine dk hC bD [oR rI hx3,oR rI hx4] (fr 16 9) [(24,vB (!decide (x3=x4)))] [] [] (aT h (fun c3 h=> ?_) (fun c3 h=> ?_))
   ·obtain rfl:=so h
    exact rq hC [] [4] [(4,vB false)] [] [] (qr eR)
   ·exact qk (rk hC [] [13,25] [(13,vI (wr (x1+1)))] [] [] (lE h))
  ·obtain rfl:=so h
   exact cQ (rq hC [] [4] [(4,vB true)] [] [] (qr eR))
theorem oD(G:GS)(n:Nat)(x:Arr)(y:Arr){r:Bool}(h:eH n x y=some r):PQ G 65 [V.agg [vS x.name,vM rI x.dims],V.agg [vS y.name,vM rI y.dims]] (vB r):=by
 unfold eH at h
 refine pq aN Tryz.func65 rfl fun w X hC=> ?_
 refine rq hC [.z (.b (true)),.z (.b (true))] [2,3,4] [(2,V.tp [T.str x.name,T.sl (List.map rI x.dims)]),(3,V.tp [T.str y.name,T.sl (List.map rI y.dims)])] [] [] (vj h (fun x_=>aY [(4,vB x_)] [] []) (fun j1 h=> ?_) (fun x3 h=> ?_))
 ·
  refine aR h (fun c1 h=> ?_) (fun c1 h=> ?_)
  ·exact rk hC (rF 6 c1) (fr 4 13) [(4,vB false)] [] [] (lE h)
  ·obtain⟨x2,hx2,h⟩:=bd h
   exact rk hC (rT 5 c1++[oV (oI G hx2),oT c1]) (fr 4 13) [(4,vB x2)] [] [] (lE h)
 ·obtain rfl:=so h
  exact qr eR
theorem uR(G:GS)(n:Nat)(s1:List Loop)(s2:List Loop)(eqF:FuncId)(eq:Loop→Loop→Option Bool)(heq: ∀(q0:Loop) (q1:Loop) r,eq q0 q1=some r→PQ G eqF [V.agg (jI q0),V.agg (jI q1)] (vB r)){r:Bool}(h:hJ n s1 s2 eq=some r):PQ G 126 [vM aC s1,vM aC s2,V.fn eqF []] (vB r):=by
 unfold hJ at h
 refine pq aN Tryz.func126 rfl fun w X hC=> ?_
 refine rq hC [] [6] [] [] [] (qs (rq hC [oN aC s1,oN aC s2] (fr 10 5) [(14,vB (!decide ((s1.length:Int)=(s2.length:Int))))] [] [] (aT h (fun c1 h=> ?_) (fun c1 h=> ?_))))
 ·obtain rfl:=so h
  exact rq hC [] [6] [(6,vB false)] [] [] (qr eR)
 ·refine qk (qs (rq hC [oN aC s1] [15,16,17] [(15,vM aC s1),(16,vI (s1.length:Int)),(17,vI 0)] [] [] (qb (jA h (fun x_=>aY [(1,vM aC s2),(2,V.fn eqF []),(15,vM aC s1),(16,vI (s1.length:Int)),(17,vI x_)] [] []) lS ?_))))
  rintro again2 x1 h
  refine rq hC [] [18] [(18,vB (decide (x1<(s1.length:Int))))] [] [] (qs (aT h (fun c2 h=> ?_) (fun c2 h=> ?_)))
  ·refine qk (qs (qb ?_))
   obtain⟨x3,hx3,h⟩:=bd h
   refine rq hC [oR aC hx3,.z (.nat 20)] [7,8,19,20,21] [(7,vI x1),(8,V.ref 20 0)] [(20,some (E.cells (jI x3)))] [(20,true)] ?_
   obtain⟨x4,hx4,h⟩:=bd h
   refine rq hC [oR aC hx4,.z (.nat 21)] [9,22,23,24,25] [(9,V.ref 21 0)] [(21,some (E.cells (jI x4)))] [(21,true)] ?_
   obtain⟨x5,hx5,h⟩:=bd h
   refine rq hC [oV (heq x3 x4 _ hx5)] (fr 26 5) [(30,vB (!x5))] [] [] (aT h (fun c3 h=> ?_) (fun c3 h=> ?_))
   ·obtain rfl:=so h
    exact rq hC [] [6] [(6,vB false)] [] [] (qr eR)
   ·exact qk (rk hC [] [17,31] [(17,vI (wr (x1+1)))] [] [] (lE h))
  ·obtain rfl:=so h
   exact cQ (rq hC [] [6] [(6,vB true)] [] [] (qr eR))
theorem eP(G:GS)(n:Nat)(s1:List Affine)(s2:List Affine)(eqF:FuncId)(eq:Affine→Affine→Option Bool)(heq: ∀(q0:Affine) (q1:Affine) r,eq q0 q1=some r→PQ G eqF [V.agg (aJ q0),V.agg (aJ q1)] (vB r)){r:Bool}(h:cJ n s1 s2 eq=some r):PQ G 128 [vM aA s1,vM aA s2,V.fn eqF []] (vB r):=by
 unfold cJ at h
 refine pq aN Tryz.func128 rfl fun w X hC=> ?_
 refine rq hC [] [6] [] [] [] (qs (rq hC [oN aA s1,oN aA s2] (fr 10 5) [(14,vB (!decide ((s1.length:Int)=(s2.length:Int))))] [] [] (aT h (fun c1 h=> ?_) (fun c1 h=> ?_))))
 ·obtain rfl:=so h
  exact rq hC [] [6] [(6,vB false)] [] [] (qr eR)
 ·refine qk (qs (rq hC [oN aA s1] [15,16,17] [(15,vM aA s1),(16,vI (s1.length:Int)),(17,vI 0)] [] [] (qb (jA h (fun x_=>aY [(1,vM aA s2),(2,V.fn eqF []),(15,vM aA s1),(16,vI (s1.length:Int)),(17,vI x_)] [] []) lS ?_))))
  rintro again2 x1 h
  refine rq hC [] [18] [(18,vB (decide (x1<(s1.length:Int))))] [] [] (qs (aT h (fun c2 h=> ?_) (fun c2 h=> ?_)))
  ·refine qk (qs (qb ?_))
   obtain⟨x3,hx3,h⟩:=bd h
   refine rq hC [oR aA hx3,.z (.nat 20)] [7,8,19,20,21] [(7,vI x1),(8,V.ref 20 0)] [(20,some (E.cells (aJ x3)))] [(20,true)] ?_
   obtain⟨x4,hx4,h⟩:=bd h
   refine rq hC [oR aA hx4,.z (.nat 21)] [9,22,23,24,25] [(9,V.ref 21 0)] [(21,some (E.cells (aJ x4)))] [(21,true)] ?_
   obtain⟨x5,hx5,h⟩:=bd h
   refine rq hC [oV (heq x3 x4 _ hx5)] (fr 26 5) [(30,vB (!x5))] [] [] (aT h (fun c3 h=> ?_) (fun c3 h=> ?_))
   ·obtain rfl:=so h
    exact rq hC [] [6] [(6,vB false)] [] [] (qr eR)
   ·exact qk (rk hC [] [17,31] [(17,vI (wr (x1+1)))] [] [] (lE h))
  ·obtain rfl:=so h
   exact cQ (rq hC [] [6] [(6,vB true)] [] [] (qr eR))
theorem eA(G:GS)(n:Nat)(a:Affine)(b:Affine){r:Bool}(h:b6 n a b=some r):PQ G 129 [V.agg (aJ a),V.agg (aJ b)] (vB r):=by
 unfold b6 at h
 refine pq aN Tryz.func129 rfl fun w X hC=> ?_
 refine rq hC [.z (.b (true)),.z (.b (true))] [2,3,4] [(2,V.tp (aQ a)),(3,V.tp (aQ b))] [] [] (vj h (fun x_=>aY [(4,vB x_)] [] []) (fun j1 h=> ?_) (fun x3 h=> ?_))
 ·
  obtain⟨x2,hx2,h⟩:=bd h
  refine aR h (fun c1 h=> ?_) (fun c1 h=> ?_)
  ·exact rk hC ([oV (oI G hx2)]++rF 6 c1) (fr 4 13) [(4,vB false)] [] [] (lE h)
  ·exact rk hC ([oV (oI G hx2)]++rT 6 c1) (fr 4 13) [(4,vB (decide (a.const=b.const)))] [] [] (lE h)
 ·obtain rfl:=so h
  exact qr eR
theorem I6(G:GS)(n:Nat)(x:Loop)(y:Loop){r:Bool}(h:jZ n x y=some r):PQ G 127 [V.agg (jI x),V.agg (jI y)] (vB r):=by
 unfold jZ at h
 refine pq aN Tryz.func127 rfl fun w X hC=> ?_
 refine rq hC [.z (.b (true)),.z (.b (true))] [2,3,4] [(2,V.tp (tI x)),(3,V.tp (tI y))] [] [] (vj h (fun x_=>aY [(4,vB x_)] [] []) (fun j1 h=> ?_) (fun x4 h=> ?_))
 ·
  obtain⟨x2,hx2,h⟩:=bd h
  refine aR h (fun c1 h=> ?_) (fun c1 h=> ?_)
  ·exact rk hC ([oV (eP G n x.lo y.lo 129 (fun q0 q1=>b6 n q0 q1) (fun q0 q1 r h=>eA G n q0 q1 h) hx2)]++rF 6 c1) (fr 4 13) [(4,vB false)] [] [] (lE h)
  ·obtain⟨x3,hx3,h⟩:=bd h
   exact rk hC ([oV (eP G n x.lo y.lo 129 (fun q0 q1=>b6 n q0 q1) (fun q0 q1 r h=>eA G n q0 q1 h) hx2)]++rT 5 c1++[oV (eP G n x.hi y.hi 129 (fun q0 q1=>b6 n q0 q1) (fun q0 q1 r h=>eA G n q0 q1 h) hx3),oT c1]) (fr 4 13) [(4,vB x3)] [] [] (lE h)
 ·obtain rfl:=so h
  exact qr eR
theorem wK{a}{b}{r}(h:nN n a b=some r):PQ G 68 [vM aC a,vM aC b] (vB r):=by
 unfold nN at h
 refine pq aN Tryz.func68 rfl fun w X hC=> ?_
 refine rq hC [] [4] [] [] [] ?_
 obtain⟨x1,hx1,h⟩:=bd h
 obtain rfl:=so h
 exact rq hC [oV (uR G n a b 127 (fun q0 q1=>jZ n q0 q1) (fun q0 q1 r h=>I6 G n q0 q1 h) hx1)] (fr 4 4) [(4,vB x1)] [] [] (qr eR)
theorem uP(G:GS)(n:Nat)(s1:List Stmt)(s2:List Stmt)(eqF:FuncId)(eq:Stmt→Stmt→Option Bool)(heq: ∀(q0:Stmt) (q1:Stmt) r,eq q0 q1=some r→PQ G eqF [V.agg (cV q0),V.agg (cV q1)] (vB r)){r:Bool}(h:hA n s1 s2 eq=some r):PQ G 69 [vM aG s1,vM aG s2,V.fn eqF []] (vB r):=by
 unfold hA at h
 refine pq aN Tryz.func69 rfl fun w X hC=> ?_
 refine rq hC [] [6] [] [] [] (qs (rq hC [oN aG s1,oN aG s2] (fr 10 5) [(14,vB (!decide ((s1.length:Int)=(s2.length:Int))))] [] [] (aT h (fun c1 h=> ?_) (fun c1 h=> ?_))))
 ·obtain rfl:=so h
  exact rq hC [] [6] [(6,vB false)] [] [] (qr eR)
 ·refine qk (qs (rq hC [oN aG s1] [15,16,17] [(15,vM aG s1),(16,vI (s1.length:Int)),(17,vI 0)] [] [] (qb (jA h (fun x_=>aY [(1,vM aG s2),(2,V.fn eqF []),(15,vM aG s1),(16,vI (s1.length:Int)),(17,vI x_)] [] []) lS ?_))))
  rintro again2 x1 h
  refine rq hC [] [18] [(18,vB (decide (x1<(s1.length:Int))))] [] [] (qs (aT h (fun c2 h=> ?_) (fun c2 h=> ?_)))
  ·refine qk (qs (qb ?_))
   obtain⟨x3,hx3,h⟩:=bd h
   refine rq hC [oR aG hx3,.z (.nat 20)] [7,8,19,20,21] [(7,vI x1),(8,V.ref 20 0)] [(20,some (E.cells (cV x3)))] [(20,true)] ?_
   obtain⟨x4,hx4,h⟩:=bd h
   refine rq hC [oR aG hx4,.z (.nat 21)] [9,22,23,24,25] [(9,V.ref 21 0)] [(21,some (E.cells (cV x4)))] [(21,true)] ?_
   obtain⟨x5,hx5,h⟩:=bd h
   refine rq hC [oV (heq x3 x4 _ hx5)] (fr 26 5) [(30,vB (!x5))] [] [] (aT h (fun c3 h=> ?_) (fun c3 h=> ?_))
   ·obtain rfl:=so h
    exact rq hC [] [6] [(6,vB false)] [] [] (qr eR)
   ·exact qk (rk hC [] [17,31] [(17,vI (wr (x1+1)))] [] [] (lE h))
  ·obtain rfl:=so h
   exact cQ (rq hC [] [6] [(6,vB true)] [] [] (qr eR))
theorem kE{a}{b}{r}(h:iA n a b=some r):PQ G 130 [V.agg (b8 a),V.agg (b8 b)] (vB r):=by
 unfold iA at h
 refine pq aN Tryz.func130 rfl fun w X hC=> ?_
 refine rq hC [.z (.b (true)),.z (.b (true))] [2,3,4] [(2,V.tp (dB a)),(3,V.tp (dB b))] [] [] (vj h (fun x_=>aY [(4,vB x_)] [] []) (fun j1 h=> ?_) (fun x3 h=> ?_))
 ·
  refine aR h (fun c1 h=> ?_) (fun c1 h=> ?_)
  ·exact rk hC (rF 6 c1) (fr 4 13) [(4,vB false)] [] [] (lE h)
  ·obtain⟨x2,hx2,h⟩:=bd h
   exact rk hC (rT 5 c1++[oV (eP G n a.subs b.subs 129 (fun q0 q1=>b6 n q0 q1) (fun q0 q1 r h=>eA G n q0 q1 h) hx2),oT c1]) (fr 4 13) [(4,vB x2)] [] [] (lE h)
 ·obtain rfl:=so h
  exact qr eR
theorem uS(G:GS)(n:Nat)(s1:List Expr)(s2:List Expr)(eqF:FuncId)(eq:Expr→Expr→Option Bool)(heq: ∀(q0:Expr) (q1:Expr) r,eq q0 q1=some r→PQ G eqF [V.agg (cO q0),V.agg (cO q1)] (vB r)){r:Bool}(h:hS n s1 s2 eq=some r):PQ G 190 [vM aH s1,vM aH s2,V.fn eqF []] (vB r):=by
 unfold hS at h
 refine pq aN Tryz.func190 rfl fun w X hC=> ?_
 refine rq hC [] [6] [] [] [] (qs (rq hC [oN aH s1,oN aH s2] (fr 10 5) [(14,vB (!decide ((s1.length:Int)=(s2.length:Int))))] [] [] (aT h (fun c1 h=> ?_) (fun c1 h=> ?_))))
 ·obtain rfl:=so h
  exact rq hC [] [6] [(6,vB false)] [] [] (qr eR)
 ·refine qk (qs (rq hC [oN aH s1] [15,16,17] [(15,vM aH s1),(16,vI (s1.length:Int)),(17,vI 0)] [] [] (qb (jA h (fun x_=>aY [(1,vM aH s2),(2,V.fn eqF []),(15,vM aH s1),(16,vI (s1.length:Int)),(17,vI x_)] [] []) lS ?_))))
  rintro again2 x1 h
  refine rq hC [] [18] [(18,vB (decide (x1<(s1.length:Int))))] [] [] (qs (aT h (fun c2 h=> ?_) (fun c2 h=> ?_)))
  ·refine qk (qs (qb ?_))
   obtain⟨x3,hx3,h⟩:=bd h
   refine rq hC [.z (.row (d7 x3)),.z (.nat 20),oQ (eY aH hx3 (cS x3))] [7,8,19,20,21] [(7,vI x1),(8,V.ref 20 0)] [(20,some (E.cells (cO x3)))] [(20,true)] ?_
   obtain⟨x4,hx4,h⟩:=bd h
   refine rq hC [.z (.row (d7 x4)),.z (.nat 21),oQ (eY aH hx4 (cS x4))] [9,22,23,24,25] [(9,V.ref 21 0)] [(21,some (E.cells (cO x4)))] [(21,true)] ?_
   obtain⟨x5,hx5,h⟩:=bd h
   refine rq hC [oV (heq x3 x4 _ hx5)] (fr 26 5) [(30,vB (!x5))] [] [] (aT h (fun c3 h=> ?_) (fun c3 h=> ?_))
   ·obtain rfl:=so h
    exact rq hC [] [6] [(6,vB false)] [] [] (qr eR)
   ·exact qk (rk hC [] [17,31] [(17,vI (wr (x1+1)))] [] [] (lE h))
  ·obtain rfl:=so h
   exact cQ (rq hC [] [6] [(6,vB true)] [] [] (qr eR))
theorem V3(G:GS): ∀(n:Nat) (a:Expr) (b:Expr) {r:Bool} (h:i_exprSame n a b=some r),PQ G 131 [V.agg (cO a),V.agg (cO b)] (vB r):=by
 intro n
 induction n with
 |zero=>intro a b r h;rw [i_exprSame.eq_def] at h;cases h
 |succ n ih=>
  intro a b r h
  rw [i_exprSame.eq_def] at h;dsimp only at h
  refine pq aN Tryz.func131 rfl fun w X hC=> ?_
  refine rq hC [.z (.b (true)),.z (.b (true))] [2,3,4] [(2,V.tp (eX a)),(3,V.tp (eX b))] [] [] (vj h (fun x_=>aY [(4,vB x_)] [] []) (fun j1 h=> ?_) (fun x5 h=> ?_))
  ·
   refine aR h (fun c1 h=> ?_) (fun c1 h=> ?_)
   ·exact rk hC (rF 6 c1++sF 18) (fr 4 34) [(4,vB false)] [] [] (lE h)
   ·refine aR h (fun c2 h=> ?_) (fun c2 h=> ?_)
    ·exact rk hC (rT 6 c1++rF 6 c2++sF 12) (fr 4 34) [(4,vB false)] [] [] (lE h)
    ·obtain⟨x2,hx2,h⟩:=bd h
     refine aR h (fun c3 h=> ?_) (fun c3 h=> ?_)
     ·exact rk hC (rT 6 c1++rT 5 c2++[oV (eA G n a.index b.index hx2),oT c2]++rF 6 c3++sF 6) (fr 4 34) [(4,vB false)] [] [] (lE h)
     ·obtain⟨x3,hx3,h⟩:=bd h
      refine aR h (fun c4 h=> ?_) (fun c4 h=> ?_)
      ·exact rk hC (rT 6 c1++rT 5 c2++[oV (eA G n a.index b.index hx2),oT c2]++rT 5 c3++[oV (kE G hx3),oT c3]++rF 6 c4) (fr 4 34) [(4,vB false)] [] [] (lE h)
      ·obtain⟨x4,hx4,h⟩:=bd h
       exact rk hC (rT 6 c1++rT 5 c2++[oV (eA G n a.index b.index hx2),oT c2]++rT 5 c3++[oV (kE G hx3),oT c3]++rT 5 c4++[oV (uS G n a.kids b.kids 131 (fun q0 q1=>i_exprSame n q0 q1) (fun q0 q1 r h=>ih q0 q1 h) hx4),oT c4]) (fr 4 34) [(4,vB x4)] [] [] (lE h)
  ·obtain rfl:=so h
   exact qr eR
theorem V4(G:GS)(n:Nat)(a:Stmt)(b:Stmt){r:Bool}(h:kX n a b=some r):PQ G 70 [V.agg (cV a),V.agg (cV b)] (vB r):=by
 unfold kX at h
 refine pq aN Tryz.func70 rfl fun w X hC=> ?_
 refine rq hC [.z (.b (true)),.z (.b (true))] [2,3,4] [(2,V.tp (m7 a)),(3,V.tp (m7 b))] [] [] (vj h (fun x_=>aY [(4,vB x_)] [] []) (fun j1 h=> ?_) (fun x4 h=> ?_))
 ·
  obtain⟨x2,hx2,h⟩:=bd h
  refine aR h (fun c1 h=> ?_) (fun c1 h=> ?_)
  ·exact rk hC ([oV (kE G hx2)]++rF 6 c1) (fr 4 13) [(4,vB false)] [] [] (lE h)
  ·obtain⟨x3,hx3,h⟩:=bd h
   exact rk hC ([oV (kE G hx2)]++rT 5 c1++[oV (V3 G n a.value b.value hx3),oT c1]) (fr 4 13) [(4,vB x3)] [] [] (lE h)
 ·obtain rfl:=so h
  exact qr eR
theorem wJ(G:GS)(n:Nat)(x:Part)(y:Part){r:Bool}(h:eG n x y=some r):PQ G 67 [V.agg (kF x),V.agg (kF y)] (vB r):=by
 unfold eG at h
 refine pq aN Tryz.func67 rfl fun w X hC=> ?_
 refine rq hC [.z (.b (true)),.z (.b (true))] [2,3,4] [(2,V.tp (jB x)),(3,V.tp (jB y))] [] [] (vj h (fun x_=>aY [(4,vB x_)] [] []) (fun j1 h=> ?_) (fun x4 h=> ?_))
 ·
  obtain⟨x2,hx2,h⟩:=bd h
  refine aR h (fun c1 h=> ?_) (fun c1 h=> ?_)
  ·exact rk hC ([oV (wK G hx2)]++rF 6 c1) (fr 4 13) [(4,vB false)] [] [] (lE h)
  ·obtain⟨x3,hx3,h⟩:=bd h
   exact rk hC ([oV (wK G hx2)]++rT 5 c1++[oV (uP G n x.body y.body 70 (fun q0 q1=>kX n q0 q1) (fun q0 q1 r h=>V4 G n q0 q1 h) hx3),oT c1]) (fr 4 13) [(4,vB x3)] [] [] (lE h)
 ·obtain rfl:=so h
  exact qr eR
end Go.Lift
