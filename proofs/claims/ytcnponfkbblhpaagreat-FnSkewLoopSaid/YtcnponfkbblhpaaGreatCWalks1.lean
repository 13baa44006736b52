/- The walks: the code computes what the plain functions say. -/
import Derived.Test.YtcnponfkbblhpaaGreatCModels
import Derived.Test.YtcnponfkbblhpaaGreatCWalks0
set_option maxRecDepth 10000
set_option linter.unusedVariables false
namespace Go.Lift
open Go Go.Proofs
variable (G:GS) {n:Nat}
theorem D4{p}{r}(h:eC n p=some r):VQ G 83 [] [V.agg (bH p)] (V.agg [ms 0 1 2 aJ r.arrays,ms 1 1 2 aD r.parts]) [ar 76 1 2 aJ r.arrays,ar 60 1 2 aD r.parts]:=by
 unfold eC at h
 refine vq aO Tryz.func83 rfl fun w X β0 hC hg=> ?_
 refine rq hC [.z (.b (true)),.z (.nat 20)] [1,2] [(1,V.tp (bL p)),(2,V.ref 20 0)] [(20,sc [V.t T.nilS,V.t T.nilS])] [(20,true)] (rq hC [.z (.nat 21)] [3] [(3,V.ref 21 0)] [(21,sc [V.t T.nilS,V.t T.nilS])] [(21,true)] (qs (rq hC [oN aJ p.arrays] (fr 8 4) [(9,vM aJ p.arrays),(10,vI (p.arrays.length:Int)),(11,vI 0)] [] [] (qb (qw (lk hC [.growc 21 0 22 76] [] [] [(22,some (ar 76 1 2 aJ [])),(21,sc [ms 22 1 2 aJ [],V.t T.nilS])] [(22,true)]) ?_)))))
 refine bD (γ:=Nat) h (fun x_ g_=>aY [(1,V.tp (bL p)),(2,V.ref 20 0),(3,V.ref 21 0),(9,vM aJ p.arrays),(10,vI (p.arrays.length:Int)),(11,vI x_.2)] [(20,E.cells [V.t T.nilS,V.t T.nilS]),(21,E.cells [ms 22 g_ 2 aJ x_.1,V.t T.nilS]),(22,ar 76 g_ 2 aJ x_.1)] [20,21,22]) 1 (lS) ?_
 rintro again4 ⟨x1,x2⟩ g3 h
 refine rq hC [] [12] [(12,vB (decide (x2<(p.arrays.length:Int))))] [] [] (qs (aT h (fun c1 h=> ?_) (fun c1 h=> ?_)))
 ·refine qk (qs (qb ?_))
  obtain⟨x5,hx5,h⟩:=bd h
  refine rq hC [oR aJ hx5,.z (.nat 23)] [5,13,14] [(5,V.ref 23 0)] [(23,sc [vS x5.name,vM rI x5.dims])] [(23,true)] ?_
  obtain⟨x6,hx6,x7,hx7,h⟩:=cP h
  exact dk hC bC [oC [] [24] (G.clone x5.dims hx6),.z (.at 5),.z (.fz 24 [21] []),.z (.int 0),oA (aP aJ hx7),oQ (bT (r:=aJ) 2 gQ x1),oQ (bT (r:=aJ) 2 gQ [(⟨x5.name,x6⟩:Arr)])] (fr 15 11) [] [(24,none),(22,some (ar 76 (g3+1) 2 aJ x7)),(21,sc [ms 22 (g3+1) 2 aJ x7,V.t T.nilS])] [(24,true)] (rk hC [] [11,26] [(11,vI (wr (x2+1)))] [] [] ⟨(x7,wr (x2+1)),(g3+1),h,lS⟩)
 ·refine cT (qs (rq hC [oN aD p.parts] (fr 27 4) [(28,vM aD p.parts),(29,vI (p.parts.length:Int)),(30,vI 0)] [] [] (qb (qw (lk hC [.growc 21 1 23 60] [] [] [(23,some (ar 60 1 2 aD [])),(21,sc [ms 22 g3 2 aJ x1,ms 23 1 2 aD []])] [(23,true)]) (bD (γ:=Nat) h (fun x_ g_=>aY [(2,V.ref 20 0),(3,V.ref 21 0),(28,vM aD p.parts),(29,vI (p.parts.length:Int)),(30,vI x_.2)] [(20,E.cells [V.t T.nilS,V.t T.nilS]),(21,E.cells [ms 22 g3 2 aJ x1,ms 23 g_ 2 aD x_.1]),(22,ar 76 g3 2 aJ x1),(23,ar 60 g_ 2 aD x_.1)] [20,21,22,23]) 1 (lS) ?_)))))
  rintro again11 ⟨x8,x9⟩ g10 h
  refine rq hC [] [31] [(31,vB (decide (x9<(p.parts.length:Int))))] [] [] (qs (aT h (fun c2 h=> ?_) (fun c2 h=> ?_)))
  ·refine qk (qs (qb ?_))
   obtain⟨x12,hx12,h⟩:=bd h
   refine rq hC [oR aD hx12,.z (.nat 24)] [7,32,33] [(7,V.ref 24 0)] [(24,some (E.cells (lG x12)))] [(24,true)] ?_
   obtain⟨x13,hx13,x14,hx14,h⟩:=cP h
   exact dk hC bC [oC [] [25,26] (aB6 G hx13),.z (.at 4),.z (.fz 25 [37] []),.z (.at 4),.z (.fz 26 [37] []),.z (.int 0),oA (aP aD hx14),oQ (bT (r:=aD) 2 b8 x8),oQ (bT (r:=aD) 2 b8 [x13])] (fr 34 7) [] [(25,none),(26,none),(23,some (ar 60 (g10+1) 2 aD x14)),(21,sc [ms 22 g3 2 aJ x1,ms 23 (g10+1) 2 aD x14])] [(25,true),(26,true)] (rk hC [] [30,41] [(30,vI (wr (x9+1)))] [] [] ⟨(x14,wr (x9+1)),(g10+1),h,lS⟩)
  ·obtain rfl:=so h
   exact cT (rq hC [] [42] [] [(20,sc [ms 22 g3 2 aJ x1,ms 23 g10 2 aD x8])] [] (qw (lk hC [.rn 22 0 [] [20,21]] [] [] [(20,sc [ms 0 1 2 aJ x1,ms 23 g10 2 aD x8]),(21,sc [ms 0 1 2 aJ x1,ms 23 g10 2 aD x8]),(22,none),(0,some (ar 76 1 2 aJ x1))] [(0,true)]) (qw (lk hC [.rn 23 1 [] [20,21]] [] [] [(20,sc [ms 0 1 2 aJ x1,ms 1 1 2 aD x8]),(21,sc [ms 0 1 2 aJ x1,ms 1 1 2 aD x8]),(23,none),(1,some (ar 60 1 2 aD x8))] [(1,true)]) (qr eW))))
def gE:List Nd:=[⟨60,2,[(0,1),(1,2)]⟩,⟨56,2,[(0,3),(1,3)]⟩,⟨86,9,[]⟩,⟨63,2,[]⟩,⟨54,1,[(0,3)]⟩]
theorem S6{nest}{r}(h:lY n nest=some r):VQ G 160 [] [vM aC nest] (ms 0 1 2 aC r) [E.tree gE 1 1 (List.map aC r) []]:=by
 unfold lY at h
 refine vq aO Tryz.func160 rfl fun w X β0 hC hg=> ?_
 refine rq hC [] [2] [] [] [] (rq hC [] [3] [(3,V.t T.nilS)] [] [] (qs (rq hC [oN aC nest] [6,7,8] [(6,vM aC nest),(7,vI (nest.length:Int)),(8,vI 0)] [] [] (qb (qw (lk hC [.grow 3 20 56,.tre 20 gE 1] [3] [(3,ms 20 1 2 aC [])] [(20,some (E.tree gE 1 1 (List.map aC []) []))] [(20,true)]) ?_)))))
 refine bD (γ:=Nat) h (fun x_ g_=>aY [(3,ms 20 g_ 2 aC x_.1),(6,vM aC nest),(7,vI (nest.length:Int)),(8,vI x_.2)] [(20,E.tree gE 1 g_ (List.map aC x_.1) [])] [20]) 1 (lS) ?_
 rintro again4 ⟨x1,x2⟩ g3 h
 refine rq hC [] [9] [(9,vB (decide (x2<(nest.length:Int))))] [] [] (qs (aT h (fun c1 h=> ?_) (fun c1 h=> ?_)))
 ·refine qk (qs (qb ?_))
  obtain⟨x5,hx5,h⟩:=bd h
  refine rq hC [oR aC hx5,.z (.nat 21)] [5,10,11] [(5,V.ref 21 0)] [(21,some (E.cells (jD x5)))] [(21,true)] ?_
  obtain⟨x6,hx6,x7,hx7,x8,hx8,h⟩:=kG h
  exact dk hC bC [oC [] [22] (lC G hx6),oC [] [23] (lC G hx7),.z (.lt 24 gE 1),.z (.rows (List.map aC (x1++[(⟨[],[]⟩:Loop)]))),oQ (Eq.refl (ndOf gE 1)),oQ (aHf aC (⟨[],[]⟩:Loop) hx8),oQ (bT (r:=aC) 2 b9 x1),oQ (bT (r:=aC) 2 b9 [(⟨[],[]⟩:Loop)])] [3,12,13,14,15,16,17,18,19,20,21] [(3,ms 20 (g3+1) 2 aC (x1++[(⟨[],[]⟩:Loop)]))] [(22,some (ar 63 1 2 aA x6)),(23,some (ar 63 1 2 aA x7)),(24,some (E.tree gE 1 1 (List.map aC [(⟨[],[]⟩:Loop)]) [(0,0,ms 22 1 2 aA x6),(0,1,ms 23 1 2 aA x7)])),(20,some (E.tree gE 1 (g3+1) (List.map aC (x1++[(⟨[],[]⟩:Loop)])) (o1 (List.map aC x1).length [(0,0,ms 22 1 2 aA x6),(0,1,ms 23 1 2 aA x7)])))] [(22,true),(23,true),(24,true)] (qw (zG hC [.tre 22 gE 3,.unf 20 22 (aC (⟨[],[]⟩:Loop)) (List.map aC (x1++[(⟨x6,[]⟩:Loop)])),.tre 23 gE 3,.unf 20 23 (aC (⟨x6,[]⟩:Loop)) (List.map aC x8),.len 3 (List.map aC x8).length] [3] [(3,ms 20 (g3+1) 2 aC x8)] [(22,none),(23,none),(20,some (E.tree gE 1 (g3+1) (List.map aC x8) []))] [] (a9 (Eq.refl (List.map aA x6).length) (Eq.refl gE) (Z8 aC x1 (⟨[],[]⟩:Loop)) (aFW aC x1 (ph:=(⟨[],[]⟩:Loop)) (y:=(⟨x6,[]⟩:Loop)) rfl) (Eq.refl (List.map aA x7).length) (Eq.refl gE) (Z8 aC x1 (⟨x6,[]⟩:Loop)) (aBh aC (ph:=(⟨x6,[]⟩:Loop)) hx8 rfl) (aGf aC (⟨[],[]⟩:Loop) hx8)) (by kernel_rfl)) (rk hC [] [8,22] [(8,vI (wr (x2+1)))] [] [] ⟨(x8,wr (x2+1)),(g3+1),h,lS⟩))
 ·obtain rfl:=so h
  exact cT (rq hC [] [2,23] [(2,ms 20 g3 2 aC x1)] [] [] (qw (lk hC [.rn 20 0 [2,3] []] [2,3] [(2,ms 0 1 2 aC x1),(3,ms 0 1 2 aC x1)] [(20,none),(0,some (E.tree gE 1 1 (List.map aC x1) []))] [(0,true)]) (qr eW)))
theorem S5{p}{r}(h:kB n p=some r):VQ G 101 [] [V.agg (lG p)] (V.agg [ms 0 1 2 aC r.nest,ms 1 1 9 aG r.body]) [E.tree gE 1 1 (List.map aC r.nest) [],ar 86 1 9 aG r.body]:=by
 unfold kB at h
 refine vq aO Tryz.func101 rfl fun w X β0 hC hg=> ?_
 refine rq hC [.z (.b (true)),.z (.nat 20)] [1,2] [(1,V.tp (jW p)),(2,V.ref 20 0)] [(20,sc [V.t T.nilS,V.t T.nilS])] [(20,true)] ?_
 obtain⟨x1,hx1,h⟩:=bd h
 refine rq hC [oC [] [21] (S6 G hx1),.z (.nat 22)] [3,6,7,8,9] [(3,V.ref 22 0)] [(21,some (E.tree gE 1 1 (List.map aC x1) [])),(22,sc [ms 21 1 2 aC x1,V.t T.nilS])] [(21,true),(22,true)] (qs (rq hC [oN aG p.body] (fr 10 4) [(11,vM aG p.body),(12,vI (p.body.length:Int)),(13,vI 0)] [] [] (qb (qw (lk hC [.growc 22 1 23 86] [] [] [(23,some (ar 86 1 9 aG [])),(22,sc [ms 21 1 2 aC x1,ms 23 1 9 aG []])] [(23,true)]) (bD (γ:=Nat) h (fun x_ g_=>aY [(2,V.ref 20 0),(3,V.ref 22 0),(11,vM aG p.body),(12,vI (p.body.length:Int)),(13,vI x_.2)] [(20,E.cells [V.t T.nilS,V.t T.nilS]),(21,E.tree gE 1 1 (List.map aC x1) []),(22,E.cells [ms 21 1 2 aC x1,ms 23 g_ 9 aG x_.1]),(23,ar 86 g_ 9 aG x_.1)] [20,21,22,23]) 1 (lS) ?_)))))
 rintro again5 ⟨x2,x3⟩ g4 h
 refine rq hC [] [14] [(14,vB (decide (x3<(p.body.length:Int))))] [] [] (qs (aT h (fun c1 h=> ?_) (fun c1 h=> ?_)))
 ·refine qk (qs (qb ?_))
  obtain⟨x6,hx6,h⟩:=bd h
  refine rq hC [oR aG hx6,.z (.nat 24)] [5,15,16] [(5,V.ref 24 0)] [(24,some (E.cells (cO x6)))] [(24,true)] ?_
  obtain⟨x7,hx7,x8,hx8,h⟩:=cP h
  exact dk hC bC [oV (C1 G hx7),.z (.int 0),oA (aP aG hx8),oQ (bT (r:=aG) 9 dW x2),oQ (bT (r:=aG) 9 dW [x7])] (fr 17 7) [] [(23,some (ar 86 (g4+1) 9 aG x8)),(22,sc [ms 21 1 2 aC x1,ms 23 (g4+1) 9 aG x8])] [] (rk hC [] [13,24] [(13,vI (wr (x3+1)))] [] [] ⟨(x8,wr (x3+1)),(g4+1),h,lS⟩)
 ·obtain rfl:=so h
  exact cT (rq hC [] [25] [] [(20,sc [ms 21 1 2 aC x1,ms 23 g4 9 aG x2])] [] (qw (lk hC [.rn 21 0 [] [20,22]] [] [] [(20,sc [ms 0 1 2 aC x1,ms 23 g4 9 aG x2]),(22,sc [ms 0 1 2 aC x1,ms 23 g4 9 aG x2]),(21,none),(0,some (E.tree gE 1 1 (List.map aC x1) []))] [(0,true)]) (qw (lk hC [.rn 23 1 [] [20,22]] [] [] [(20,sc [ms 0 1 2 aC x1,ms 1 1 9 aG x2]),(22,sc [ms 0 1 2 aC x1,ms 1 1 9 aG x2]),(23,none),(1,some (ar 86 1 9 aG x2))] [(1,true)]) (qr eW))))
theorem yJ{p}{r}(h:eC n p=some r):VQ G 83 [] [V.agg (bH p)] (V.agg [ms 0 1 2 aJ r.arrays,ms 1 1 2 aD r.parts]) [ar 76 1 2 aJ r.arrays,E.tree gE 0 1 (List.map aD r.parts) []]:=by
 unfold eC at h
 refine vq aO Tryz.func83 rfl fun w X β0 hC hg=> ?_
 refine rq hC [.z (.b (true)),.z (.nat 20)] [1,2] [(1,V.tp (bL p)),(2,V.ref 20 0)] [(20,sc [V.t T.nilS,V.t T.nilS])] [(20,true)] (rq hC [.z (.nat 21)] [3] [(3,V.ref 21 0)] [(21,sc [V.t T.nilS,V.t T.nilS])] [(21,true)] (qs (rq hC [oN aJ p.arrays] (fr 8 4) [(9,vM aJ p.arrays),(10,vI (p.arrays.length:Int)),(11,vI 0)] [] [] (qb (qw (lk hC [.growc 21 0 22 76] [] [] [(22,some (ar 76 1 2 aJ [])),(21,sc [ms 22 1 2 aJ [],V.t T.nilS])] [(22,true)]) ?_)))))
 refine bD (γ:=Nat) h (fun x_ g_=>aY [(1,V.tp (bL p)),(2,V.ref 20 0),(3,V.ref 21 0),(9,vM aJ p.arrays),(10,vI (p.arrays.length:Int)),(11,vI x_.2)] [(20,E.cells [V.t T.nilS,V.t T.nilS]),(21,E.cells [ms 22 g_ 2 aJ x_.1,V.t T.nilS]),(22,ar 76 g_ 2 aJ x_.1)] [20,21,22]) 1 (lS) ?_
 rintro again4 ⟨x1,x2⟩ g3 h
 refine rq hC [] [12] [(12,vB (decide (x2<(p.arrays.length:Int))))] [] [] (qs (aT h (fun c1 h=> ?_) (fun c1 h=> ?_)))
 ·refine qk (qs (qb ?_))
  obtain⟨x5,hx5,h⟩:=bd h
  refine rq hC [oR aJ hx5,.z (.nat 23)] [5,13,14] [(5,V.ref 23 0)] [(23,sc [vS x5.name,vM rI x5.dims])] [(23,true)] ?_
  obtain⟨x6,hx6,x7,hx7,h⟩:=cP h
  exact dk hC bC [oC [] [24] (G.clone x5.dims hx6),.z (.at 5),.z (.fz 24 [21] []),.z (.int 0),oA (aP aJ hx7),oQ (bT (r:=aJ) 2 gQ x1),oQ (bT (r:=aJ) 2 gQ [(⟨x5.name,x6⟩:Arr)])] (fr 15 11) [] [(24,none),(22,some (ar 76 (g3+1) 2 aJ x7)),(21,sc [ms 22 (g3+1) 2 aJ x7,V.t T.nilS])] [(24,true)] (rk hC [] [11,26] [(11,vI (wr (x2+1)))] [] [] ⟨(x7,wr (x2+1)),(g3+1),h,lS⟩)
 ·refine cT (qs (rq hC [oN aD p.parts] (fr 27 4) [(28,vM aD p.parts),(29,vI (p.parts.length:Int)),(30,vI 0)] [] [] (qb (qw (lk hC [.growc 21 1 23 60,.tre 23 gE 0] [] [] [(23,some (E.tree gE 0 1 (List.map aD []) [])),(21,sc [ms 22 g3 2 aJ x1,ms 23 1 2 aD []])] [(23,true)]) (bD (γ:=Nat) h (fun x_ g_=>aY [(2,V.ref 20 0),(3,V.ref 21 0),(28,vM aD p.parts),(29,vI (p.parts.length:Int)),(30,vI x_.2)] [(20,E.cells [V.t T.nilS,V.t T.nilS]),(21,E.cells [ms 22 g3 2 aJ x1,ms 23 g_ 2 aD x_.1]),(22,ar 76 g3 2 aJ x1),(23,E.tree gE 0 g_ (List.map aD x_.1) [])] [20,21,22,23]) 1 (lS) ?_)))))
  rintro again11 ⟨x8,x9⟩ g10 h
  refine rq hC [] [31] [(31,vB (decide (x9<(p.parts.length:Int))))] [] [] (qs (aT h (fun c2 h=> ?_) (fun c2 h=> ?_)))
  ·refine qk (qs (qb ?_))
   obtain⟨x12,hx12,h⟩:=bd h
   refine rq hC [oR aD hx12,.z (.nat 24)] [7,32,33] [(7,V.ref 24 0)] [(24,some (E.cells (lG x12)))] [(24,true)] ?_
   obtain⟨x13,hx13,x14,hx14,h⟩:=cP h
   exact dk hC bC [oC [] [25,26] (S5 G hx13),.z (.lt 27 gE 0),.z (.rows (List.map aD (x8++[(⟨[],[]⟩:Part)]))),oQ (Eq.refl (ndOf gE 0)),oQ (aHf aD (⟨[],[]⟩:Part) hx14),oQ (bT (r:=aD) 2 b8 x8),oQ (bT (r:=aD) 2 b8 [(⟨[],[]⟩:Part)])] (fr 34 7) [] [(25,some (E.tree gE 1 1 (List.map aC x13.nest) [])),(26,some (ar 86 1 9 aG x13.body)),(27,some (E.tree gE 0 1 (List.map aD [(⟨[],[]⟩:Part)]) [(0,0,ms 25 1 2 aC x13.nest),(0,1,ms 26 1 9 aG x13.body)])),(23,some (E.tree gE 0 (g10+1) (List.map aD (x8++[(⟨[],[]⟩:Part)])) (o1 (List.map aD x8).length [(0,0,ms 25 1 2 aC x13.nest),(0,1,ms 26 1 9 aG x13.body)]))),(21,sc [ms 22 g3 2 aJ x1,ms 23 (g10+1) 2 aD (x8++[(⟨[],[]⟩:Part)])])] [(25,true),(26,true),(27,true)] (qw (zG hC [.unf 23 25 (aD (⟨[],[]⟩:Part)) (List.map aD (x8++[(⟨x13.nest,[]⟩:Part)])),.tre 26 gE 2,.unf 23 26 (aD (⟨x13.nest,[]⟩:Part)) (List.map aD x14),.lenc 21 1 (List.map aD x14).length] [] [] [(25,none),(26,none),(23,some (E.tree gE 0 (g10+1) (List.map aD x14) [])),(21,sc [ms 22 g3 2 aJ x1,ms 23 (g10+1) 2 aD x14])] [] (a9 (Eq.refl (List.map aC x13.nest).length) (Eq.refl gE) (Z8 aD x8 (⟨[],[]⟩:Part)) (aFW aD x8 (ph:=(⟨[],[]⟩:Part)) (y:=(⟨x13.nest,[]⟩:Part)) rfl) (Eq.refl (List.map aG x13.body).length) (Eq.refl gE) (Z8 aD x8 (⟨x13.nest,[]⟩:Part)) (aBh aD (ph:=(⟨x13.nest,[]⟩:Part)) hx14 rfl) (aGf aD (⟨[],[]⟩:Part) hx14)) (by kernel_rfl)) (rk hC [] [30,41] [(30,vI (wr (x9+1)))] [] [] ⟨(x14,wr (x9+1)),(g10+1),h,lS⟩))
  ·obtain rfl:=so h
   exact cT (rq hC [] [42] [] [(20,sc [ms 22 g3 2 aJ x1,ms 23 g10 2 aD x8])] [] (qw (lk hC [.rn 22 0 [] [20,21]] [] [] [(20,sc [ms 0 1 2 aJ x1,ms 23 g10 2 aD x8]),(21,sc [ms 0 1 2 aJ x1,ms 23 g10 2 aD x8]),(22,none),(0,some (ar 76 1 2 aJ x1))] [(0,true)]) (qw (lk hC [.rn 23 1 [] [20,21]] [] [] [(20,sc [ms 0 1 2 aJ x1,ms 1 1 2 aD x8]),(21,sc [ms 0 1 2 aJ x1,ms 1 1 2 aD x8]),(23,none),(1,some (E.tree gE 0 1 (List.map aD x8) []))] [(1,true)]) (qr eW))))
theorem cC{p}{part}{r}(h:eI n p part=some r):PQ G 86 [V.agg (bH p),vI part] (vB r):=by
 unfold eI at h
 refine pq aO Tryz.func86 rfl fun w X hC=> ?_
 refine rq hC [.z (.b (true))] [2,4] [(2,V.tp (bL p))] [] [] ?_
 obtain⟨x1,hx1,h⟩:=bd h
 obtain rfl:=so h
 exact rq hC [oN aD p.parts,oV (bF G hx1)] (fr 4 7) [(4,vB x1)] [] [] (qr eR)
theorem pA{p}{part}{loop}{r}(h:iY n p part loop=some r):PQ G 121 [V.agg (bH p),vI part,vI loop] (vB r):=by
 unfold iY at h
 refine pq aO Tryz.func121 rfl fun w X hC=> ?_
 refine rq hC [.z (.b (true))] [3,6] [(3,V.tp (bL p))] [] [] (vj h (fun x_=>aY [(6,vB x_)] [] []) (fun j1 h=> ?_) (fun x5 h=> ?_))
 ·
  obtain⟨x2,hx2,h⟩:=bd h
  refine aR h (fun c1 h=> ?_) (fun c1 h=> ?_)
  ·exact rk hC ([oV (cC G hx2)]++rF 11 c1) (fr 6 16) [(6,vB false)] [] [] (lE h)
  ·obtain⟨x3,hx3,x4,hx4,h⟩:=cP h
   exact rk hC ([oV (cC G hx2)]++rT 5 c1++[oR aD hx3]++rT 3 c1++[oN aC x3.nest,oT c1,oT c1,oV (bF G hx4),oT c1]) (fr 6 16) [(6,vB x4)] [] [] (lE h)
 ·obtain rfl:=so h
  exact qr eR
theorem aCa(G:GS)(n:Nat)(p:Prog)(part:Int)(loop:Int){r:Prog×Bool}(h:nC n p part loop=some r)(hr:r.2=true):VQ G 48 [] [V.agg (bH p),vI part,vI loop] (V.tup [V.agg [ms 0 1 2 aJ r.1.arrays,ms 1 1 2 aD r.1.parts],V.eref 1 1 2 (0+Int.toNat part) 0,vB true]) [ar 76 1 2 aJ r.1.arrays,E.tree gE 0 1 (List.map aD r.1.parts) []]:=by
 unfold nC at h
 refine vq aO Tryz.func48 rfl fun w X β0 hC hg=> ?_
 refine rq hC [.z (.b (true)),.z (.nat 20)] [3,6,7,8] [(3,V.tp (bL p)),(6,V.ref 20 0)] [(20,sc [V.t T.nilS,V.t T.nilS])] [(20,true)] (qs (vj h (fun x_=>aY [(1,vI part),(3,V.tp (bL p)),(6,V.ref 20 0),(29,vB x_)] [(20,E.cells [V.t T.nilS,V.t T.nilS])] [20]) (fun j1 h=> ?_) (fun x5 h=> ?_)))
 ·
  obtain⟨x2,hx2,h⟩:=bd h
  refine aR h (fun c1 h=> ?_) (fun c1 h=> ?_)
  ·obtain⟨x3,hx3,h⟩:=bd h
   refine aR h (fun c2 h=> ?_) (fun c2 h=> ?_)
   ·refine aR h (fun c3 h=> ?_) (fun c3 h=> ?_)
    ·exact rk hC ([oV (bI G hx2)]++rF 3 c1++[oV (cC G hx3),oF c1,oF c1]++rF 3 c2++rF 5 c3++[oF c2,oF c3,oF c2]) (fr 10 20) [(29,vB false)] [] [] (lE h)
    ·obtain⟨x4,hx4,h⟩:=bd h
     exact rk hC ([oV (bI G hx2)]++rF 3 c1++[oV (cC G hx3),oF c1,oF c1]++rF 3 c2++rT 4 c3++[oV (pA G hx4),oT c3,oF c2,oT c3,oF c2]) (fr 10 20) [(29,vB (!x4))] [] [] (lE h)
   ·exact rk hC ([oV (bI G hx2)]++rF 3 c1++[oV (cC G hx3),oF c1,oF c1]++rT 5 c2) (fr 10 20) [(29,vB true)] [] [] (lE h)
  ·exact rk hC ([oV (bI G hx2)]++rT 5 c1++sT 5) (fr 10 20) [(29,vB true)] [] [] (lE h)
 ·refine aT h (fun c4 h=> ?_) (fun c4 h=> ?_)
  ·obtain rfl:=so h
   cases hr
  ·refine qk ?_
   obtain⟨x6,hx6,x7,hx7,h⟩:=cP h
   obtain rfl:=so h
   exact rq hC [oC [] [21,22] (yJ G hx6),.z (.nat 23)] [9,31,32] [(9,V.ref 23 0)] [(21,some (ar 76 1 2 aJ x6.arrays)),(22,some (E.tree gE 0 1 (List.map aD x6.parts) [])),(23,sc [ms 21 1 2 aJ x6.arrays,ms 22 1 2 aD x6.parts])] [(21,true),(22,true),(23,true)] (qw (lk hC [.rn 21 0 [] [23]] [] [] [(23,sc [ms 0 1 2 aJ x6.arrays,ms 22 1 2 aD x6.parts]),(21,none),(0,some (ar 76 1 2 aJ x6.arrays))] [(0,true)]) (qw (lk hC [.rn 22 1 [] [23]] [] [] [(23,sc [ms 0 1 2 aJ x6.arrays,ms 1 1 2 aD x6.parts]),(22,none),(1,some (E.tree gE 0 1 (List.map aD x6.parts) []))] [(1,true)]) (qs (dk hC bC [oQ (lM aD hx7)] [7,8,33,34,35,36,37] [(7,V.eref 1 1 2 (0+Int.toNat part) 0),(8,vB true)] [(20,sc [ms 0 1 2 aJ x6.arrays,ms 1 1 2 aD x6.parts])] [] (qr eW)))))
theorem aCb(G:GS)(n:Nat)(p:Prog)(part:Int)(loop:Int){r:Prog×Bool}(h:nC n p part loop=some r)(hr:r.2=false):PQ G 48 [V.agg (bH p),vI part,vI loop] (V.tup [V.agg [vM aJ [],vM aD []],V.t T.nilP,vB false]):=by
 unfold nC at h
 refine pq aO Tryz.func48 rfl fun w X hC=> ?_
 refine rq hC [.z (.b (true)),.z (.nat 20)] [3,6,7,8] [(3,V.tp (bL p)),(6,V.ref 20 0)] [(20,sc [V.t T.nilS,V.t T.nilS])] [(20,true)] (qs (vj h (fun x_=>aY [(1,vI part),(3,V.tp (bL p)),(6,V.ref 20 0),(29,vB x_)] [(20,E.cells [V.t T.nilS,V.t T.nilS])] [20]) (fun j1 h=> ?_) (fun x5 h=> ?_)))
 ·
  obtain⟨x2,hx2,h⟩:=bd h
  refine aR h (fun c1 h=> ?_) (fun c1 h=> ?_)
  ·obtain⟨x3,hx3,h⟩:=bd h
   refine aR h (fun c2 h=> ?_) (fun c2 h=> ?_)
   ·refine aR h (fun c3 h=> ?_) (fun c3 h=> ?_)
    ·exact rk hC ([oV (bI G hx2)]++rF 3 c1++[oV (cC G hx3),oF c1,oF c1]++rF 3 c2++rF 5 c3++[oF c2,oF c3,oF c2]) (fr 10 20) [(29,vB false)] [] [] (lE h)
    ·obtain⟨x4,hx4,h⟩:=bd h
     exact rk hC ([oV (bI G hx2)]++rF 3 c1++[oV (cC G hx3),oF c1,oF c1]++rF 3 c2++rT 4 c3++[oV (pA G hx4),oT c3,oF c2,oT c3,oF c2]) (fr 10 20) [(29,vB (!x4))] [] [] (lE h)
   ·exact rk hC ([oV (bI G hx2)]++rF 3 c1++[oV (cC G hx3),oF c1,oF c1]++rT 5 c2) (fr 10 20) [(29,vB true)] [] [] (lE h)
  ·exact rk hC ([oV (bI G hx2)]++rT 5 c1++sT 5) (fr 10 20) [(29,vB true)] [] [] (lE h)
 ·refine aT h (fun c4 h=> ?_) (fun c4 h=> ?_)
  ·obtain rfl:=so h
   exact rq hC [] [7,8,30] [(7,V.t T.nilP),(8,vB false)] [(20,sc [V.t T.nilS,V.t T.nilS])] [] (qr eR)
  ·obtain⟨x6,hx6,x7,hx7,h⟩:=cP h
   obtain rfl:=so h
   cases hr
theorem aDD{n_a0}{r}(h:tW n n_a0=some r):PQ G 49 [vI n_a0] (vB r):=by
 unfold tW at h
 refine pq aO Tryz.func49 rfl fun w X hC=> ?_
 refine rq hC [] [2] [] [] [] ?_
 obtain⟨x1,hx1,h⟩:=bd h
 obtain rfl:=so h
 exact rq hC [oV (bF G hx1)] [2,3,4] [(2,vB x1)] [] [] (qr eR)
theorem mS(G:GS)(n:Nat)(rows:List Loop)(i:Int)(l:Loop)(hl:ix rows i=some l)(g:Nat)(fF:FuncId)(fC0:List T)(fC1:List T)(f:Affine→Option Affine)(hf: ∀(q0:Affine) r,f q0=some r→PQ G fF [V.agg (aK q0),V.tp fC0,V.tp fC1] (V.agg (aK r))){l':Loop}{rows':List Loop}(h:gY n l f=some l')(hr:dE rows i l'=some rows'):
  VQ G 50 [E.tree gE 1 g (List.map aC rows) []] [V.eref 0 g 2 (0+Int.toNat i) 0,V.fn fF [V.tp fC0,V.tp fC1]] (V.tup []) [E.tree gE 1 g (List.map aC rows') []]:=by
 unfold gY at h
 refine vq aO Tryz.func50 rfl fun w X β0 hC hg=> ?_
 refine qs (dk hC bC [.z (.foc 0 21 (0+Int.toNat i) 0 (aC l)),.z (.foc 0 22 (0+Int.toNat i) 1 (aC l)),oX aC hl,oX aC hl,.z (.lt 23 gE 4),.z (.nat 2),oQ (wE aC hl),oQ (wE aC hl),oQ (Eq.refl 2)] (fr 8 11) [(16,V.msl 23 1 1 0 2),(17,vI 2),(18,vI 0)] [(0,some (E.tree gE 1 g (List.map aC rows) [((0+Int.toNat i),1,ms 22 1 2 aA l.hi),((0+Int.toNat i),0,ms 21 1 2 aA l.lo)])),(21,some (E.tree gE 3 1 (List.map aA l.lo) [])),(22,some (E.tree gE 3 1 (List.map aA l.hi) [])),(23,some (E.tree gE 4 1 (List.replicate 2 [T.sl []]) [(0,0,ms 21 1 2 aA l.lo),(1,0,ms 22 1 2 aA l.hi)]))] [(21,true),(22,true),(23,true)] (qw (lk hC [.shd 21,.shd 22] [] [] [(21,some (ar 63 1 2 aA l.lo)),(22,some (ar 63 1 2 aA l.hi))] []) (qb (jP h (fun x_=>aY [(1,V.fn fF [V.tp fC0,V.tp fC1]),(16,V.msl 23 1 1 0 2),(17,vI 2),(18,vI x_.2)] [(0,E.tree gE 1 g (List.map aC rows) [((0+Int.toNat i),1,ms 22 1 2 aA l.hi),((0+Int.toNat i),0,ms 21 1 2 aA l.lo)]),(23,E.tree gE 4 1 (List.replicate 2 [T.sl []]) [(0,0,ms 21 1 2 aA l.lo),(1,0,ms 22 1 2 aA l.hi)]),(21,ar 63 1 2 aA x_.1.lo),(22,ar 63 1 2 aA x_.1.hi)] [0,21,22,23]) lS ?_))))
 rintro again1 ⟨x,q⟩ h
 obtain⟨s1,hs1,h⟩:=bd h
 obtain⟨s2,hs2,h⟩:=bd h
 refine rq hC [] [19] [(19,vB (decide (q<2)))] [] [] (qs (aT h (fun c1 h=> ?_) (fun c1 h=> ?_)))
 ·refine qk (qs (qb (qs (aR h (fun c2 h=> ?_) (fun c2 h=> ?_)))))
  ·refine aR h (fun c3 h=> ?_) (fun c3 h=> ?_)
   ·exact nof h
   ·have e:=of_decide_eq_true c3
    subst e
    refine rk hC [.z (.int 1),.z (.row [T.sl []]),oQ (And.intro (by decide) (by decide):(0:Int)≤1∧(1:Int)<((2:Nat):Int)),oQ (Eq.refl (some [T.sl []]))] [5,20,21] [(5,ms 22 1 2 aA l.hi)] [] [] (qw (zG hC [.len 5 (List.map aA x.hi).length] [5] [(5,ms 22 1 2 aA x.hi)] [] [] (a1 (q7 aA hs2)) (by kernel_rfl)) (rq hC [oN aA x.hi] [22,23,24] [(22,ms 22 1 2 aA x.hi),(23,vI (x.hi.length:Int)),(24,vI 0)] [] [] (qb (jP h (fun x_=>aY [(1,V.fn fF [V.tp fC0,V.tp fC1]),(16,V.msl 23 1 1 0 2),(17,vI 2),(18,vI 1),(5,ms 22 1 2 aA x_.1),(22,ms 22 1 2 aA x_.1),(23,vI (x.hi.length:Int)),(24,vI x_.2)] [(0,E.tree gE 1 g (List.map aC rows) [((0+Int.toNat i),1,ms 22 1 2 aA l.hi),((0+Int.toNat i),0,ms 21 1 2 aA l.lo)]),(23,E.tree gE 4 1 (List.replicate 2 [T.sl []]) [(0,0,ms 21 1 2 aA l.lo),(1,0,ms 22 1 2 aA l.hi)]),(21,ar 63 1 2 aA x.lo),(22,ar 63 1 2 aA x_.1)] [0,21,22,23]) lS ?_))))
    rintro again2 ⟨y,k⟩ h
    refine rq hC [] [25] [(25,vB (decide (k<(x.hi.length:Int))))] [] [] (qs (aT h (fun c4 h=> ?_) (fun c4 h=> ?_)))
    ·refine qk (qs (qb ?_))
     obtain⟨x3,hx3,h⟩:=bd h
     refine rq hC [oQ (lM aA hx3),oX aA hx3,.z (.nat 24)] [6,7,26,27,28] [(6,vI k),(7,V.ref 24 0)] [(24,some (E.cells (aK x3)))] [(24,true)] ?_
     obtain⟨x4,hx4,x5,hx5,h⟩:=cP h
     exact rk hC [oV (hf x3 _ hx4),oQ (lM aA hx3),oX aA hx3,.z (.rows (List.map aA x5)),.z (.len 5 (List.map aA x5).length),.z (.len 22 (List.map aA x5).length),oQ (str aA hx5),oQ (kH aA hx5),oQ (kH aA hx5)] [5,22,29,30,31,32,33,34] [(5,ms 22 1 2 aA x5),(22,ms 22 1 2 aA x5)] [(22,some (ar 63 1 2 aA x5))] [] (rk hC [] [24,35] [(24,vI (wr (k+1)))] [] [] (lE h))
    ·exact cT (rk hC [] [18,36] [(18,vI (wr (1+1)))] [] [] (lE h))
  ·have e:=of_decide_eq_true c2
   subst e
   refine rk hC [.z (.int 0),.z (.row [T.sl []]),oQ (And.intro (by decide) (by decide):(0:Int)≤0∧(0:Int)<((2:Nat):Int)),oQ (Eq.refl (some [T.sl []]))] [5,20,21] [(5,ms 21 1 2 aA l.lo)] [] [] (qw (zG hC [.len 5 (List.map aA x.lo).length] [5] [(5,ms 21 1 2 aA x.lo)] [] [] (a1 (q7 aA hs1)) (by kernel_rfl)) (rq hC [oN aA x.lo] [22,23,24] [(22,ms 21 1 2 aA x.lo),(23,vI (x.lo.length:Int)),(24,vI 0)] [] [] (qb (jP h (fun x_=>aY [(1,V.fn fF [V.tp fC0,V.tp fC1]),(16,V.msl 23 1 1 0 2),(17,vI 2),(18,vI 0),(5,ms 21 1 2 aA x_.1),(22,ms 21 1 2 aA x_.1),(23,vI (x.lo.length:Int)),(24,vI x_.2)] [(0,E.tree gE 1 g (List.map aC rows) [((0+Int.toNat i),1,ms 22 1 2 aA l.hi),((0+Int.toNat i),0,ms 21 1 2 aA l.lo)]),(23,E.tree gE 4 1 (List.replicate 2 [T.sl []]) [(0,0,ms 21 1 2 aA l.lo),(1,0,ms 22 1 2 aA l.hi)]),(21,ar 63 1 2 aA x_.1),(22,ar 63 1 2 aA x.hi)] [0,21,22,23]) lS ?_))))
   rintro again2 ⟨y,k⟩ h
   refine rq hC [] [25] [(25,vB (decide (k<(x.lo.length:Int))))] [] [] (qs (aT h (fun c4 h=> ?_) (fun c4 h=> ?_)))
   ·refine qk (qs (qb ?_))
    obtain⟨x3,hx3,h⟩:=bd h
    refine rq hC [oQ (lM aA hx3),oX aA hx3,.z (.nat 24)] [6,7,26,27,28] [(6,vI k),(7,V.ref 24 0)] [(24,some (E.cells (aK x3)))] [(24,true)] ?_
    obtain⟨x4,hx4,x5,hx5,h⟩:=cP h
    exact rk hC [oV (hf x3 _ hx4),oQ (lM aA hx3),oX aA hx3,.z (.rows (List.map aA x5)),.z (.len 5 (List.map aA x5).length),.z (.len 22 (List.map aA x5).length),oQ (str aA hx5),oQ (kH aA hx5),oQ (kH aA hx5)] [5,22,29,30,31,32,33,34] [(5,ms 21 1 2 aA x5),(22,ms 21 1 2 aA x5)] [(21,some (ar 63 1 2 aA x5))] [] (rk hC [] [24,35] [(24,vI (wr (k+1)))] [] [] (lE h))
   ·exact cT (rk hC [] [18,36] [(18,vI (wr (0+1)))] [] [] (lE h))
 ·obtain rfl:=so h
  exact qw (zG hC [.tre 21 gE 3,.tre 22 gE 3,.unf 0 22 (aC l) (List.map aC (rows.set i.toNat (⟨l.lo,x.hi⟩:Loop))),.unf 0 21 (aC (⟨l.lo,x.hi⟩:Loop)) (List.map aC rows')] [] [] [(21,none),(22,none),(0,some (E.tree gE 1 g (List.map aC rows') []))] [] (a8 (q7 aA hs2) (Eq.refl gE) (wE aC hl) (R4 aC (aBg hr (⟨l.lo,x.hi⟩:Loop)) rfl) (q7 aA hs1) (Eq.refl gE) (wE aC (aGl hr (⟨l.lo,x.hi⟩:Loop))) (R4 aC (aBe hr (⟨l.lo,x.hi⟩:Loop)) rfl)) (by kernel_rfl)) (cT eW)
theorem aAH{a}{k}{b}{r}(h:L2 n a k b=some r):VQ G 52 [] [V.agg (aK a),vI k,V.agg (aK b)] (V.agg [ms 0 1 1 rI r.coefs,vI r.const]) [ar 3 1 1 rI r.coefs]:=by
 unfold L2 at h
 refine vq aO Tryz.func52 rfl fun w X β0 hC hg=> ?_
 refine rq hC [.z (.b (true)),.z (.b (true)),.z (.nat 20)] [3,5,6] [(3,V.tp (aQ a)),(5,V.tp (aQ b)),(6,V.ref 20 0)] [(20,sc [V.t T.nilS,vI 0])] [(20,true)] ?_
 obtain⟨x1,hx1,h⟩:=bd h
 refine rq hC [oC [] [21] (sN G hx1),.z (.nat 22)] [7,10,11] [(7,V.ref 22 0)] [(21,some (ar 3 1 1 rI x1.coefs)),(22,sc [ms 21 1 1 rI x1.coefs,vI x1.const])] [(21,true),(22,true)] (qs (rq hC [oN rI b.coefs] (fr 12 4) [(13,vM rI b.coefs),(14,vI (b.coefs.length:Int)),(15,vI 0)] [] [] (qb (bD (γ:=Nat) h (fun x_ g_=>aY [(1,vI k),(5,V.tp (aQ b)),(6,V.ref 20 0),(7,V.ref 22 0),(13,vM rI b.coefs),(14,vI (b.coefs.length:Int)),(15,vI x_.2)] [(20,E.cells [V.t T.nilS,vI 0]),(21,ar 3 g_ 1 rI x_.1),(22,E.cells [ms 21 g_ 1 rI x_.1,vI x1.const])] [20,21,22]) 1 (lS) ?_))))
 rintro again5 ⟨x2,x3⟩ g4 h
 refine rq hC [] [16] [(16,vB (decide (x3<(b.coefs.length:Int))))] [] [] (qs (aT h (fun c1 h=> ?_) (fun c1 h=> ?_)))
 ·refine qk (qs (qb ?_))
  obtain⟨x6,hx6,h⟩:=bd h
  refine rq hC [oR rI hx6] [8,9,17,18,19] [(8,vI x3),(9,vI x6)] [] [] ?_
  obtain⟨x7,hx7,x8,hx8,h⟩:=cP h
  exact rk hC [oQ (lM rI hx7),oX rI hx7,oQ (lM rI hx7),oX rI hx7,.z (.rows (List.map rI x8)),.z (.lenc 22 0 (List.map rI x8).length),oQ (str rI hx8),oQ (kH rI hx8)] (fr 20 10) [] [(21,some (ar 3 g4 1 rI x8)),(22,sc [ms 21 g4 1 rI x8,vI x1.const])] [] (rk hC [] [15,30] [(15,vI (wr (x3+1)))] [] [] ⟨(x8,wr (x3+1)),g4,h,lS⟩)
 ·obtain rfl:=so h
  exact cT (rq hC [] (fr 31 8) [] [(22,sc [ms 21 g4 1 rI x2,vI (wr (x1.const+(wr (k*b.const))))])] [] (rq hC [] [39] [] [(20,sc [ms 21 g4 1 rI x2,vI (wr (x1.const+(wr (k*b.const))))])] [] (qw (lk hC [.rn 21 0 [] [20,22]] [] [] [(20,sc [ms 0 1 1 rI x2,vI (wr (x1.const+(wr (k*b.const))))]),(22,sc [ms 0 1 1 rI x2,vI (wr (x1.const+(wr (k*b.const))))]),(21,none),(0,some (ar 3 1 1 rI x2))] [(0,true)]) (qr eW))))
theorem aAL{n_a0}{r}(h:wH n n_a0=some r):VQ G 53 [] [vI n_a0] (V.agg [ms 0 1 1 rI r.coefs,vI r.const]) [ar 3 1 1 rI r.coefs]:=by
 unfold wH at h
 refine vq aO Tryz.func53 rfl fun w X β0 hC hg=> ?_
 refine rq hC [.z (.nat 20)] [2] [(2,V.ref 20 0)] [(20,sc [V.t T.nilS,vI 0])] [(20,true)] ?_
 obtain⟨x1,hx1,h⟩:=bd h
 obtain rfl:=so h
 exact rq hC [.z (.nat 21),oA (aGd rI hx1),oQ (E0 hx1).1] [3,4,5] [] [(21,some (ar 3 1 1 rI x1)),(20,sc [ms 21 1 1 rI x1,vI n_a0])] [(21,true)] (qw (lk hC [.rn 21 0 [] [20]] [] [] [(20,sc [ms 0 1 1 rI x1,vI n_a0]),(21,none),(0,some (ar 3 1 1 rI x1))] [(0,true)]) (qr eW))
theorem sC{v}{k}{r}(h:lX n v k=some r):VQ G 54 [] [vI v,vI k] (V.agg [ms 0 1 1 rI r.coefs,vI r.const]) [ar 3 1 1 rI r.coefs]:=by
 unfold lX at h
 refine vq aO Tryz.func54 rfl fun w X β0 hC hg=> ?_
 refine rq hC [.z (.nat 20)] [4] [(4,V.ref 20 0)] [(20,sc [V.t T.nilS,vI 0])] [(20,true)] ?_
 obtain⟨x1,hx1,h⟩:=bd h
 refine rq hC [oC [] [21] (aAL G hx1),.z (.nat 22)] [5,6] [(5,V.ref 22 0)] [(21,some (ar 3 1 1 rI x1.coefs)),(22,sc [ms 21 1 1 rI x1.coefs,vI x1.const])] [(21,true),(22,true)] ?_
 obtain⟨x2,hx2,x3,hx3,h⟩:=cP h
 obtain rfl:=so h
 exact rq hC [oQ (lM rI hx2),oX rI hx2,.z (.rows (List.map rI x3)),.z (.lenc 22 0 (List.map rI x3).length),oQ (str rI hx3),oQ (kH rI hx3)] (fr 7 5) [] [(21,some (ar 3 1 1 rI x3)),(22,sc [ms 21 1 1 rI x3,vI x1.const])] [] (rq hC [] [12] [] [(20,sc [ms 21 1 1 rI x3,vI x1.const])] [] (qw (lk hC [.rn 21 0 [] [20,22]] [] [] [(20,sc [ms 0 1 1 rI x3,vI x1.const]),(22,sc [ms 0 1 1 rI x3,vI x1.const]),(21,none),(0,some (ar 3 1 1 rI x3))] [(0,true)]) (qr eW)))
theorem qX(G:GS)(n:Nat)(a:Access)(changeF:FuncId)(changeC0:List T)(changeC1:List T)(change:Affine→Option Affine)(hchange: ∀(q0:Affine) r,change q0=some r→PQ G changeF [V.agg (aK q0),V.tp changeC0,V.tp changeC1] (V.agg (aK r))){r:Access}(h:gA n a change=some r):PQ G 184 [V.agg (cB a),V.fn changeF [V.tp changeC0,V.tp changeC1]] (V.agg (cB r)):=by
 unfold gA at h
 refine pq aO Tryz.func184 rfl fun w X hC=> ?_
 refine rq hC [.z (.b (true)),.z (.nat 20)] [2,4] [(2,V.tp (dO a)),(4,V.ref 20 0)] [(20,sc [vS [],V.t T.nilS])] [(20,true)] (rq hC [.z (.nat 21)] [5,8,9,10] [(5,V.ref 21 0)] [(21,sc [vS a.array,V.t T.nilS])] [(21,true)] (qs (rq hC [oN aA a.subs] (fr 11 4) [(12,vM aA a.subs),(13,vI (a.subs.length:Int)),(14,vI 0)] [] [] (qb (qw (lk hC [.growc 21 1 22 63] [] [] [(22,some (ar 63 1 2 aA [])),(21,sc [vS a.array,ms 22 1 2 aA []])] [(22,true)]) ?_)))))
 refine bD (γ:=Nat) h (fun x_ g_=>aY [(1,V.fn changeF [V.tp changeC0,V.tp changeC1]),(4,V.ref 20 0),(5,V.ref 21 0),(12,vM aA a.subs),(13,vI (a.subs.length:Int)),(14,vI x_.2)] [(20,E.cells [vS [],V.t T.nilS]),(21,E.cells [vS a.array,ms 22 g_ 2 aA x_.1]),(22,ar 63 g_ 2 aA x_.1)] [20,21,22]) 1 (lS) ?_
 rintro again4 ⟨x1,x2⟩ g3 h
 refine rq hC [] [15] [(15,vB (decide (x2<(a.subs.length:Int))))] [] [] (qs (aT h (fun c1 h=> ?_) (fun c1 h=> ?_)))
 ·refine qk (qs (qb ?_))
  obtain⟨x5,hx5,h⟩:=bd h
  refine rq hC [oR aA hx5,.z (.nat 23)] [7,16,17] [(7,V.ref 23 0)] [(23,some (E.cells (aK x5)))] [(23,true)] ?_
  obtain⟨x6,hx6,x7,hx7,h⟩:=cP h
  exact dk hC bC [oV (hchange x5 _ hx6),.z (.int 0),oA (aP aA hx7),oQ (bT (r:=aA) 2 aU x1),oQ (bT (r:=aA) 2 aU [x6])] (fr 18 8) [] [(22,some (ar 63 (g3+1) 2 aA x7)),(21,sc [vS a.array,ms 22 (g3+1) 2 aA x7])] [] (rk hC [] [14,26] [(14,vI (wr (x2+1)))] [] [] ⟨(x7,wr (x2+1)),(g3+1),h,lS⟩)
 ·obtain rfl:=so h
  exact cT (rq hC [.z (.at 2),.z (.fz 22 [] [21])] [27] [] [(21,sc [vS a.array,vM aA x1]),(22,none),(20,sc [vS a.array,vM aA x1])] [] (qr eR))
theorem P9(G:GS): ∀(n:Nat) (e:Expr) (changeF:FuncId) (changeC0:List T) (changeC1:List T) (change:Affine→Option Affine) (hchange: ∀(q0:Affine) r,change q0=some r→PQ G changeF [V.agg (aK q0),V.tp changeC0,V.tp changeC1] (V.agg (aK r))) {r:Expr} (h:i_exprMap n e change=some r),PQ G 185 [V.agg (cQ e),V.fn changeF [V.tp changeC0,V.tp changeC1]] (V.agg (cQ r)):=by
 intro n
 induction n with
 |zero=>intro e changeF changeC0 changeC1 change hchange r h;rw [i_exprMap.eq_def] at h;cases h
 |succ n ih=>
  intro e changeF changeC0 changeC1 change hchange r h
  rw [i_exprMap.eq_def] at h;dsimp only at h
  refine pq aO Tryz.func185 rfl fun w X hC=> ?_
  refine rq hC [.z (.b (true)),.z (.nat 20)] [2,4] [(2,V.tp (fA e)),(4,V.ref 20 0)] [(20,sc [vI 0,vI 0,V.t T.nilS,vI 0,vS [],V.t T.nilS,V.t T.nilS])] [(20,true)] (rq hC [.z (.nat 21)] [5,8,9,10,11,12] [(5,V.ref 21 0)] [(21,sc [vI e.kind,vI e.num,V.t T.nilS,vI 0,vS [],V.t T.nilS,V.t T.nilS])] [(21,true)] (vj h (fun x_=>aY [(1,V.fn changeF [V.tp changeC0,V.tp changeC1]),(2,V.tp (fA e)),(4,V.ref 20 0),(5,V.ref 21 0)] [(20,E.cells [vI 0,vI 0,V.t T.nilS,vI 0,vS [],V.t T.nilS,V.t T.nilS]),(21,E.cells [vI e.kind,vI e.num,vM rI x_.1,vI x_.2.1,vS x_.2.2.1,vM aA x_.2.2.2,V.t T.nilS])] [20,21]) (fun j1 h=> ?_) ?_))
  ·
   refine rq hC [] [13,14] [(14,vI e.kind)] [] [] (qb (rq hC [] [15,16] [(15,vB (decide (e.kind=2)))] [] [] (aT h (fun c1 h=> ?_) (fun c1 h=> ?_))))
   ·obtain⟨x2,hx2,h⟩:=bd h
    exact rk hC [oV (hchange e.index _ hx2)] (fr 17 5) [] [(21,sc [vI e.kind,vI e.num,vM rI x2.coefs,vI x2.const,vS [],V.t T.nilS,V.t T.nilS])] [] (lE h)
   ·refine rq hC [] [22,23] [(22,vB (decide (e.kind=3)))] [] [] (aT h (fun c2 h=> ?_) (fun c2 h=> ?_))
    ·obtain⟨x3,hx3,h⟩:=bd h
     exact rk hC [oV (qX G n e.read changeF changeC0 changeC1 change hchange hx3)] (fr 24 5) [] [(21,sc [vI e.kind,vI e.num,V.t T.nilS,vI 0,vS x3.array,vM aA x3.subs,V.t T.nilS])] [] (lE h)
    ·exact qk (lE h)
  ·rintro⟨x4,x5,x6,x7⟩ h
   refine qs (rq hC [oN aI e.kids] (fr 29 4) [(30,vM aI e.kids),(31,vI (e.kids.length:Int)),(32,vI 0)] [] [] (qb (qw (lk hC [.growc 21 6 22 84] [] [] [(22,some (ar 84 1 7 aI [])),(21,sc [vI e.kind,vI e.num,vM rI x4,vI x5,vS x6,vM aA x7,ms 22 1 7 aI []])] [(22,true)]) (bD (γ:=Nat) h (fun x_ g_=>aY [(1,V.fn changeF [V.tp changeC0,V.tp changeC1]),(4,V.ref 20 0),(5,V.ref 21 0),(30,vM aI e.kids),(31,vI (e.kids.length:Int)),(32,vI x_.2)] [(20,E.cells [vI 0,vI 0,V.t T.nilS,vI 0,vS [],V.t T.nilS,V.t T.nilS]),(21,E.cells [vI e.kind,vI e.num,vM rI x4,vI x5,vS x6,vM aA x7,ms 22 g_ 7 aI x_.1]),(22,ar 84 g_ 7 aI x_.1)] [20,21,22]) 1 (lS) ?_))))
   rintro again11 ⟨x8,x9⟩ g10 h
   refine rq hC [] [33] [(33,vB (decide (x9<(e.kids.length:Int))))] [] [] (qs (aT h (fun c3 h=> ?_) (fun c3 h=> ?_)))
   ·refine qk (qs (qb ?_))
    obtain⟨x12,hx12,h⟩:=bd h
    refine rq hC [.z (.row (d5 x12)),.z (.nat 23),oQ (eS aI hx12 (cM x12))] [7,34,35] [(7,V.ref 23 0)] [(23,some (E.cells (cQ x12)))] [(23,true)] ?_
    obtain⟨x13,hx13,x14,hx14,h⟩:=cP h
    exact dk hC bC [oV (ih x12 changeF changeC0 changeC1 change hchange hx13),.z (.int 2),.z (.rows (List.map aI [x13])),oQ (rV x13),oA (aP aI hx14),oQ (bT (r:=aI) 7 dX x8),oQ (bT (r:=aI) 7 dX [x13])] (fr 36 8) [] [(22,some (ar 84 (g10+1) 7 aI x14)),(21,sc [vI e.kind,vI e.num,vM rI x4,vI x5,vS x6,vM aA x7,ms 22 (g10+1) 7 aI x14])] [] (rk hC [] [32,44] [(32,vI (wr (x9+1)))] [] [] ⟨(x14,wr (x9+1)),(g10+1),h,lS⟩)
   ·obtain rfl:=so h
    exact cT (rq hC [.z (.at 2),.z (.fz 22 [] [21])] [45] [] [(21,sc [vI e.kind,vI e.num,vM rI x4,vI x5,vS x6,vM aA x7,vM aI x8]),(22,none),(20,sc [vI e.kind,vI e.num,vM rI x4,vI x5,vS x6,vM aA x7,vM aI x8])] [] (qr eR))
theorem P8(G:GS)(n:Nat)(s:Stmt)(changeF:FuncId)(changeC0:List T)(changeC1:List T)(change:Affine→Option Affine)(hchange: ∀(q0:Affine) r,change q0=some r→PQ G changeF [V.agg (aK q0),V.tp changeC0,V.tp changeC1] (V.agg (aK r))){r:Stmt}(h:gX n s change=some r):PQ G 122 [V.agg (cO s),V.fn changeF [V.tp changeC0,V.tp changeC1]] (V.agg (cO r)):=by
 unfold gX at h
 refine pq aO Tryz.func122 rfl fun w X hC=> ?_
 refine rq hC [.z (.b (true)),.z (.nat 20)] [2,4] [(2,V.tp (n6 s)),(4,V.ref 20 0)] [(20,sc [vS [],V.t T.nilS,vI 0,vI 0,V.t T.nilS,vI 0,vS [],V.t T.nilS,V.t T.nilS])] [(20,true)] (qs ?_)
 obtain⟨x1,hx1,x2,hx2,h⟩:=cP h
 obtain rfl:=so h
 exact dk hC bC [oV (qX G n s.write changeF changeC0 changeC1 change hchange hx1),oV (P9 G n s.value changeF changeC0 changeC1 change hchange hx2)] (fr 5 9) [] [(20,sc [vS x1.array,vM aA x1.subs,vI x2.kind,vI x2.num,vM rI x2.index.coefs,vI x2.index.const,vS x2.read.array,vM aA x2.read.subs,vM aI x2.kids])] [] (qr eR)
theorem uB(G:GS)(n:Nat)(rows:List Part)(i:Int)(p:Part)(hp:ix rows i=some p)(g:Nat)(from_:Int)(fF:FuncId)(fC0:List T)(fC1:List T)(f:Affine→Option Affine)(hf: ∀(q0:Affine) r,f q0=some r→PQ G fF [V.agg (aK q0),V.tp fC0,V.tp fC1] (V.agg (aK r))){p':Part}{rows':List Part}(h:jK n p from_ f=some p')(hr:dE rows i p'=some rows'):
  VQ G 55 [E.tree gE 0 g (List.map aD rows) []] [V.eref 0 g 2 (0+Int.toNat i) 0,vI from_,V.fn fF [V.tp fC0,V.tp fC1]] (V.tup []) [E.tree gE 0 g (List.map aD rows') []]:=by
 unfold jK at h
 refine vq aO Tryz.func55 rfl fun w X β0 hC hg=> ?_
 refine qs (rq hC [] [6,9] [(6,vI from_)] [] [] (qw (zG hC [.foc 0 21 (0+Int.toNat i) 0 (aD p),.foc 0 22 (0+Int.toNat i) 1 (aD p),.shd 22] [] [] [(0,some (E.tree gE 0 g (List.map aD rows) [((0+Int.toNat i),1,ms 22 1 9 aG p.body),((0+Int.toNat i),0,ms 21 1 2 aC p.nest)])),(21,some (E.tree gE 1 1 (List.map aC p.nest) [])),(22,some (ar 86 1 9 aG p.body))] [(21,true),(22,true)] (a2 (wE aD hp) (wE aD hp)) (by kernel_rfl)) (qb (jP h (fun x_=>aY [(0,V.eref 0 g 2 (0+Int.toNat i) 0),(2,V.fn fF [V.tp fC0,V.tp fC1]),(6,vI x_.2)] [(0,E.tree gE 0 g (List.map aD rows) [((0+Int.toNat i),1,ms 22 1 9 aG p.body),((0+Int.toNat i),0,ms 21 1 2 aC p.nest)]),(21,E.tree gE 1 1 (List.map aC x_.1) []),(22,ar 86 1 9 aG p.body)] [0,21,22]) lS ?_))))
 rintro again1 ⟨x,k⟩ h
 obtain⟨s1,hs1,h⟩:=bd h
 refine qs (rq hC [oX aD hp,.z (.nat x.length),oQ (aLg aC hs1)] (fr 10 7) [(16,vB (decide (k<(x.length:Int))))] [] [] (aT h (fun c1 h=> ?_) (fun c1 h=> ?_)))
 ·refine qk (qs (qb ?_))
  obtain⟨x2,hx2,x3,hx3,x4,hx4,h⟩:=kG h
  exact rk hC [oX aD hp,oQ (aKR aC hs1 hx2),oC [21] [] (mS G n x k x2 hx2 1 fF fC0 fC1 f hf hx3 hx4)] (fr 19 8) [] [(21,some (E.tree gE 1 1 (List.map aC x4) []))] [(21,true)] (rk hC [] [6,17,18] [(6,vI (wr (k+1)))] [] [] (lE h))
 ·refine cT (rq hC [oX aD hp,oN aG p.body] (fr 27 6) [(30,ms 22 1 9 aG p.body),(31,vI (p.body.length:Int)),(32,vI 0)] [] [] (qb (jP h (fun x_=>aY [(0,V.eref 0 g 2 (0+Int.toNat i) 0),(2,V.fn fF [V.tp fC0,V.tp fC1]),(30,ms 22 1 9 aG x_.1),(31,vI (p.body.length:Int)),(32,vI x_.2)] [(0,E.tree gE 0 g (List.map aD rows) [((0+Int.toNat i),1,ms 22 1 9 aG p.body),((0+Int.toNat i),0,ms 21 1 2 aC p.nest)]),(21,E.tree gE 1 1 (List.map aC x) []),(22,ar 86 1 9 aG x_.1)] [0,21,22]) lS ?_)))
  rintro again2 ⟨y,j⟩ h
  obtain⟨s2,hs2,h⟩:=bd h
  refine rq hC [] [33] [(33,vB (decide (j<(p.body.length:Int))))] [] [] (qs (aT h (fun c2 h=> ?_) (fun c2 h=> ?_)))
  ·refine qk (qs (qb ?_))
   obtain⟨x6,hx6,h⟩:=bd h
   refine rq hC [oQ (lM aG hx6),oX aG hx6,.z (.nat 24)] [7,8,34,35,36] [(7,vI j),(8,V.ref 24 0)] [(24,some (E.cells (cO x6)))] [(24,true)] ?_
   obtain⟨x7,hx7,x8,hx8,h⟩:=cP h
   exact dk hC bC [oX aD hp,oV (P8 G n x6 fF fC0 fC1 f hf hx7),oQ (aKR aG hs2 hx6),oX aG hx6,.z (.rows (List.map aG x8)),oQ (str aG hx8)] (fr 37 9) [] [(22,some (ar 86 1 9 aG x8))] [] (qw (zG hC [.len 30 (List.map aG x8).length] [30] [(30,ms 22 1 9 aG x8)] [] [] (a1 (kH aG hx8)) (by kernel_rfl)) (rk hC [] [32,46] [(32,vI (wr (j+1)))] [] [] (lE h)))
  ·obtain rfl:=so h
   exact qw (zG hC [.tre 22 gE 2,.unf 0 22 (aD p) (List.map aD (rows.set i.toNat (⟨p.nest,y⟩:Part))),.unf 0 21 (aD (⟨p.nest,y⟩:Part)) (List.map aD rows')] [] [] [(22,none),(21,none),(0,some (E.tree gE 0 g (List.map aD rows') []))] [] (a8 (q7 aG hs2) (Eq.refl gE) (wE aD hp) (R4 aD (aBg hr (⟨p.nest,y⟩:Part)) rfl) (q7 aC hs1) (Eq.refl gE) (wE aD (aGl hr (⟨p.nest,y⟩:Part))) (R4 aD (aBe hr (⟨p.nest,y⟩:Part)) rfl)) (by kernel_rfl)) (cT eW)
theorem aFc{a}{v}{b}{r}(h:xP n a v b=some r):VQ G 57 [] [V.agg (aK a),vI v,V.agg (aK b)] (V.agg [ms 0 1 1 rI r.coefs,vI r.const]) [ar 3 1 1 rI r.coefs]:=by
 unfold xP at h
 refine vq aO Tryz.func57 rfl fun w X β0 hC hg=> ?_
 refine rq hC [.z (.b (true)),.z (.b (true)),.z (.nat 20)] [3,5,6] [(3,V.tp (aQ a)),(5,V.tp (aQ b)),(6,V.ref 20 0)] [(20,sc [V.t T.nilS,vI 0])] [(20,true)] ?_
 obtain⟨x1,hx1,h⟩:=bd h
 refine rq hC [oC [] [21] (sN G hx1),.z (.nat 22)] [7,9,10] [(7,V.ref 22 0)] [(21,some (ar 3 1 1 rI x1.coefs)),(22,sc [ms 21 1 1 rI x1.coefs,vI x1.const])] [(21,true),(22,true)] ?_
 obtain⟨x2,hx2,h⟩:=bd h
 refine rq hC [oQ (lM rI hx2),oX rI hx2] [8,11,12,13,14,15] [(8,vI x2)] [] [] ?_
 obtain⟨x3,hx3,h⟩:=bd h
 refine rq hC [oQ (lM rI hx2),oX rI hx2,.z (.rows (List.map rI x3)),.z (.lenc 22 0 (List.map rI x3).length),oQ (str rI hx3),oQ (kH rI hx3)] (fr 16 4) [] [(21,some (ar 3 1 1 rI x3)),(22,sc [ms 21 1 1 rI x3,vI x1.const])] [] ?_
 obtain⟨x4,hx4,h⟩:=bd h
 obtain rfl:=so h
 exact rq hC [.z (.at 5),.z (.fz 21 [] [22]),oC [] [23] (aAH G hx4)] (fr 20 4) [] [(22,sc [vM rI x3,vI x1.const]),(21,none),(23,some (ar 3 1 1 rI x4.coefs)),(20,sc [ms 23 1 1 rI x4.coefs,vI x4.const])] [(23,true)] (qw (lk hC [.rn 23 0 [] [20]] [] [] [(20,sc [ms 0 1 1 rI x4.coefs,vI x4.const]),(23,none),(0,some (ar 3 1 1 rI x4.coefs))] [(0,true)]) (qr eW))
theorem aAI{p}{r}(h:oP n p=some r):PQ G 58 [V.agg (bH p)] (V.tup [V.agg (bH r.1),vB r.2]):=by
 unfold oP at h
 refine pq aO Tryz.func58 rfl fun w X hC=> ?_
 refine rq hC [.z (.b (true)),.z (.nat 20)] [1,2,3] [(1,V.tp (bL p)),(2,V.ref 20 0)] [(20,sc [V.t T.nilS,V.t T.nilS])] [(20,true)] (qs ?_)
 obtain⟨x1,hx1,h⟩:=bd h
 refine rq hC [oV (bI G hx1)] [4,5,6] [(6,vB (!x1))] [] [] (aT h (fun c1 h=> ?_) (fun c1 h=> ?_))
 ·obtain rfl:=so h
  exact rq hC [] [3,7] [(3,vB false)] [(20,sc [V.t T.nilS,V.t T.nilS])] [] (qr eR)
 ·refine qk ?_
  obtain⟨x2,hx2,h⟩:=bd h
  obtain rfl:=so h
  exact rq hC [oC [] [21,22] (D4 G hx2)] [3,8,9] [(3,vB true)] [(21,some (ar 76 1 2 aJ x2.arrays)),(22,some (ar 60 1 2 aD x2.parts)),(20,sc [ms 21 1 2 aJ x2.arrays,ms 22 1 2 aD x2.parts])] [(21,true),(22,true)] (qw (lk hC [.fz 21 [] [20]] [] [] [(20,sc [vM aJ x2.arrays,ms 22 1 2 aD x2.parts]),(21,none)] []) (qw (lk hC [.fz 22 [] [20]] [] [] [(20,some (E.cells (bH x2))),(22,none)] []) (qr eR)))
theorem jV(G:GS)(n:Nat){r:Affine}(h:kK n=some r):VQ G 80 [] [] (V.agg [ms 0 1 1 rI r.coefs,vI r.const]) [ar 3 1 1 rI r.coefs]:=by
 unfold kK at h
 refine vq aO Tryz.func80 rfl fun w X β0 hC hg=> ?_
 obtain rfl:=so h
 exact rq hC [.z (.nat 20)] [0] [(0,V.ref 20 0)] [(20,sc [V.t T.nilS,vI 0])] [(20,true)] (rq hC [.z (.int 1),.z (.nat 21)] [1,2] [] [(21,some (ar 3 1 1 rI [0,0,0,0])),(20,sc [ms 21 1 1 rI [0,0,0,0],vI 0])] [(21,true)] (qw (lk hC [.rn 21 0 [] [20]] [] [] [(20,sc [ms 0 1 1 rI [0,0,0,0],vI 0]),(21,none),(0,some (ar 3 1 1 rI [0,0,0,0]))] [(0,true)]) (qr eW)))
theorem dF{n_a0}{r}(h:dK n n_a0=some r):VQ G 64 [] [vI n_a0] (V.agg [ms 0 1 1 rI r.coefs,vI r.const]) [ar 3 1 1 rI r.coefs]:=by
 unfold dK at h
 refine vq aO Tryz.func64 rfl fun w X β0 hC hg=> ?_
 refine rq hC [.z (.nat 20)] [2] [(2,V.ref 20 0)] [(20,sc [V.t T.nilS,vI 0])] [(20,true)] ?_
 obtain⟨x1,hx1,h⟩:=bd h
 obtain rfl:=so h
 exact rq hC [oC [] [21] (jV G n hx1),.z (.nat 22)] [3,4] [(3,V.ref 22 0)] [(21,some (ar 3 1 1 rI x1.coefs)),(22,sc [ms 21 1 1 rI x1.coefs,vI x1.const])] [(21,true),(22,true)] (rq hC [] [5,6] [] [(22,sc [ms 21 1 1 rI x1.coefs,vI n_a0])] [] (rq hC [] [7] [] [(20,sc [ms 21 1 1 rI x1.coefs,vI n_a0])] [] (qw (lk hC [.rn 21 0 [] [20,22]] [] [] [(20,sc [ms 0 1 1 rI x1.coefs,vI n_a0]),(22,sc [ms 0 1 1 rI x1.coefs,vI n_a0]),(21,none),(0,some (ar 3 1 1 rI x1.coefs))] [(0,true)]) (qr eW))))
theorem D3{x}{r}(h:mC n x=some r):PQ G 186 [V.agg [vS x.name,vM rI x.dims]] (V.agg [vS r.name,vM rI r.dims]):=by
 unfold mC at h
 refine pq aO Tryz.func186 rfl fun w X hC=> ?_
 refine rq hC [.z (.nat 20),.z (.nat 21)] [1,2] [(1,V.ref 20 0),(2,V.ref 21 0)] [(20,sc [vS x.name,vM rI x.dims]),(21,sc [vS [],V.t T.nilS])] [(20,true),(21,true)] ?_
 obtain⟨x1,hx1,h⟩:=bd h
 obtain rfl:=so h
 exact rq hC [.z (.nat 22),oA (aP rI hx1),oQ (bT (r:=rI) 1 (fun _=>rfl) []),oQ (bT (r:=rI) 1 (fun _=>rfl) x.dims)] (fr 3 5) [] [(22,some (ar 3 2 1 rI x1)),(20,sc [vS x.name,ms 22 2 1 rI x1])] [(22,true)] (rq hC [.z (.at 2),.z (.fz 22 [] [20])] [8] [] [(20,sc [vS x.name,vM rI x1]),(22,none),(21,sc [vS x.name,vM rI x1])] [] (qr eR))
theorem uY{list}{r}(h:fD n list=some r):VQ G 123 [] [vM aJ list] (ms 0 1 2 aJ r) [ar 76 1 2 aJ r]:=by
 unfold fD at h
 refine vq aO Tryz.func123 rfl fun w X β0 hC hg=> ?_
 refine rq hC [] [2] [] [] [] (rq hC [.z (.nat 20)] [3,6] [(3,ms 20 1 2 aJ [])] [(20,some (ar 76 1 2 aJ []))] [(20,true)] (qs (rq hC [oN aJ list] [7,8,9] [(7,vM aJ list),(8,vI (list.length:Int)),(9,vI 0)] [] [] (qb (bD (γ:=Nat) h (fun x_ g_=>aY [(3,ms 20 g_ 2 aJ x_.1),(7,vM aJ list),(8,vI (list.length:Int)),(9,vI x_.2)] [(20,ar 76 g_ 2 aJ x_.1)] [20]) 1 (lS) ?_)))))
 rintro again4 ⟨x1,x2⟩ g3 h
 refine rq hC [] [10] [(10,vB (decide (x2<(list.length:Int))))] [] [] (qs (aT h (fun c1 h=> ?_) (fun c1 h=> ?_)))
 ·refine qk (qs (qb ?_))
  obtain⟨x5,hx5,h⟩:=bd h
  refine rq hC [oR aJ hx5,.z (.nat 21)] [5,11,12] [(5,V.ref 21 0)] [(21,sc [vS x5.name,vM rI x5.dims])] [(21,true)] ?_
  obtain⟨x6,hx6,x7,hx7,h⟩:=cP h
  exact rk hC [oV (D3 G hx6),.z (.int 0),oA (aP aJ hx7),oQ (bT (r:=aJ) 2 gQ x1),oQ (bT (r:=aJ) 2 gQ [x6])] [3,13,14,15,16,17] [(3,ms 20 (g3+1) 2 aJ x7)] [(20,some (ar 76 (g3+1) 2 aJ x7))] [] (rk hC [] [9,18] [(9,vI (wr (x2+1)))] [] [] ⟨(x7,wr (x2+1)),(g3+1),h,lS⟩)
 ·obtain rfl:=so h
  exact cT (rq hC [] [2,19] [(2,ms 20 g3 2 aJ x1)] [] [] (qw (lk hC [.ren 2 20 0] [2] [(2,ms 0 1 2 aJ x1)] [(0,some (ar 76 1 2 aJ x1)),(20,none)] [(0,true)]) (qr eW)))
theorem qT{x}{r}(h:fY n x=some r):PQ G 320 [V.agg (aK x)] (V.agg (aK r)):=by
 unfold fY at h
 refine pq aO Tryz.func320 rfl fun w X hC=> ?_
 refine rq hC [.z (.nat 20),.z (.nat 21)] [1,2] [(1,V.ref 20 0),(2,V.ref 21 0)] [(20,some (E.cells (aK x))),(21,sc [V.t T.nilS,vI 0])] [(20,true),(21,true)] ?_
 obtain⟨x1,hx1,h⟩:=bd h
 obtain rfl:=so h
 exact rq hC [.z (.nat 22),oA (aP rI hx1),oQ (bT (r:=rI) 1 (fun _=>rfl) []),oQ (bT (r:=rI) 1 (fun _=>rfl) x.coefs)] (fr 3 5) [] [(22,some (ar 3 2 1 rI x1)),(20,sc [ms 22 2 1 rI x1,vI x.const])] [(22,true)] (rq hC [.z (.at 2),.z (.fz 22 [] [20])] [8] [] [(20,sc [vM rI x1,vI x.const]),(22,none),(21,sc [vM rI x1,vI x.const])] [] (qr eR))
theorem iK{list}{r}(h:cS n list=some r):VQ G 298 [] [vM aA list] (ms 0 1 2 aA r) [ar 63 1 2 aA r]:=by
 unfold cS at h
 refine vq aO Tryz.func298 rfl fun w X β0 hC hg=> ?_
 refine rq hC [] [2] [] [] [] (rq hC [.z (.nat 20)] [3,6] [(3,ms 20 1 2 aA [])] [(20,some (ar 63 1 2 aA []))] [(20,true)] (qs (rq hC [oN aA list] [7,8,9] [(7,vM aA list),(8,vI (list.length:Int)),(9,vI 0)] [] [] (qb (bD (γ:=Nat) h (fun x_ g_=>aY [(3,ms 20 g_ 2 aA x_.1),(7,vM aA list),(8,vI (list.length:Int)),(9,vI x_.2)] [(20,ar 63 g_ 2 aA x_.1)] [20]) 1 (lS) ?_)))))
 rintro again4 ⟨x1,x2⟩ g3 h
 refine rq hC [] [10] [(10,vB (decide (x2<(list.length:Int))))] [] [] (qs (aT h (fun c1 h=> ?_) (fun c1 h=> ?_)))
 ·refine qk (qs (qb ?_))
  obtain⟨x5,hx5,h⟩:=bd h
  refine rq hC [oR aA hx5,.z (.nat 21)] [5,11,12] [(5,V.ref 21 0)] [(21,some (E.cells (aK x5)))] [(21,true)] ?_
  obtain⟨x6,hx6,x7,hx7,h⟩:=cP h
  exact rk hC [oV (qT G hx6),.z (.int 0),oA (aP aA hx7),oQ (bT (r:=aA) 2 aU x1),oQ (bT (r:=aA) 2 aU [x6])] [3,13,14,15,16,17] [(3,ms 20 (g3+1) 2 aA x7)] [(20,some (ar 63 (g3+1) 2 aA x7))] [] (rk hC [] [9,18] [(9,vI (wr (x2+1)))] [] [] ⟨(x7,wr (x2+1)),(g3+1),h,lS⟩)
 ·obtain rfl:=so h
  exact cT (rq hC [] [2,19] [(2,ms 20 g3 2 aA x1)] [] [] (qw (lk hC [.ren 2 20 0] [2] [(2,ms 0 1 2 aA x1)] [(0,some (ar 63 1 2 aA x1)),(20,none)] [(0,true)]) (qr eW)))
theorem P3{x}{r}(h:m8 n x=some r):PQ G 273 [V.agg (jD x)] (V.agg (jD r)):=by
 unfold m8 at h
 refine pq aO Tryz.func273 rfl fun w X hC=> ?_
 refine rq hC [.z (.nat 20),.z (.nat 21)] [1,2] [(1,V.ref 20 0),(2,V.ref 21 0)] [(20,some (E.cells (jD x))),(21,sc [V.t T.nilS,V.t T.nilS])] [(20,true),(21,true)] ?_
 obtain⟨x1,hx1,h⟩:=bd h
 refine rq hC [oC [] [22] (iK G hx1)] (fr 3 4) [] [(22,some (ar 63 1 2 aA x1)),(20,sc [ms 22 1 2 aA x1,vM aA x.hi])] [(22,true)] ?_
 obtain⟨x2,hx2,h⟩:=bd h
 obtain rfl:=so h
 exact rq hC [oC [] [23] (iK G hx2)] (fr 7 4) [] [(23,some (ar 63 1 2 aA x2)),(20,sc [ms 22 1 2 aA x1,ms 23 1 2 aA x2])] [(23,true)] (rq hC [.z (.at 2),.z (.fz 22 [] [20]),.z (.at 2),.z (.fz 23 [] [20])] [11] [] [(20,sc [vM aA x1,vM aA x2]),(22,none),(23,none),(21,sc [vM aA x1,vM aA x2])] [] (qr eR))
theorem wR{list}{r}(h:fX n list=some r):VQ G 234 [] [vM aC list] (ms 0 1 2 aC r) [ar 56 1 2 aC r]:=by
 unfold fX at h
 refine vq aO Tryz.func234 rfl fun w X β0 hC hg=> ?_
 refine rq hC [] [2] [] [] [] (rq hC [.z (.nat 20)] [3,6] [(3,ms 20 1 2 aC [])] [(20,some (ar 56 1 2 aC []))] [(20,true)] (qs (rq hC [oN aC list] [7,8,9] [(7,vM aC list),(8,vI (list.length:Int)),(9,vI 0)] [] [] (qb (bD (γ:=Nat) h (fun x_ g_=>aY [(3,ms 20 g_ 2 aC x_.1),(7,vM aC list),(8,vI (list.length:Int)),(9,vI x_.2)] [(20,ar 56 g_ 2 aC x_.1)] [20]) 1 (lS) ?_)))))
 rintro again4 ⟨x1,x2⟩ g3 h
 refine rq hC [] [10] [(10,vB (decide (x2<(list.length:Int))))] [] [] (qs (aT h (fun c1 h=> ?_) (fun c1 h=> ?_)))
 ·refine qk (qs (qb ?_))
  obtain⟨x5,hx5,h⟩:=bd h
  refine rq hC [oR aC hx5,.z (.nat 21)] [5,11,12] [(5,V.ref 21 0)] [(21,some (E.cells (jD x5)))] [(21,true)] ?_
  obtain⟨x6,hx6,x7,hx7,h⟩:=cP h
  exact rk hC [oV (P3 G hx6),.z (.int 0),oA (aP aC hx7),oQ (bT (r:=aC) 2 b9 x1),oQ (bT (r:=aC) 2 b9 [x6])] [3,13,14,15,16,17] [(3,ms 20 (g3+1) 2 aC x7)] [(20,some (ar 56 (g3+1) 2 aC x7))] [] (rk hC [] [9,18] [(9,vI (wr (x2+1)))] [] [] ⟨(x7,wr (x2+1)),(g3+1),h,lS⟩)
 ·obtain rfl:=so h
  exact cT (rq hC [] [2,19] [(2,ms 20 g3 2 aC x1)] [] [] (qw (lk hC [.ren 2 20 0] [2] [(2,ms 0 1 2 aC x1)] [(0,some (ar 56 1 2 aC x1)),(20,none)] [(0,true)]) (qr eW)))
theorem qU{x}{r}(h:fZ n x=some r):PQ G 299 [V.agg (cB x)] (V.agg (cB r)):=by
 unfold fZ at h
 refine pq aO Tryz.func299 rfl fun w X hC=> ?_
 refine rq hC [.z (.nat 20),.z (.nat 21)] [1,2] [(1,V.ref 20 0),(2,V.ref 21 0)] [(20,some (E.cells (cB x))),(21,sc [vS [],V.t T.nilS])] [(20,true),(21,true)] ?_
 obtain⟨x1,hx1,h⟩:=bd h
 obtain rfl:=so h
 exact rq hC [oC [] [22] (iK G hx1)] (fr 3 4) [] [(22,some (ar 63 1 2 aA x1)),(20,sc [vS x.array,ms 22 1 2 aA x1])] [(22,true)] (rq hC [.z (.at 2),.z (.fz 22 [] [20])] [7] [] [(20,sc [vS x.array,vM aA x1]),(22,none),(21,sc [vS x.array,vM aA x1])] [] (qr eR))
theorem wS(G:GS)(n:Nat)(self:Expr→Option Expr)(hself: ∀(q0:Expr) {r:Expr},self q0=some r→PQ G 300 [V.agg (cQ q0)] (V.agg (cQ r)))(list:List Expr){r:(List Expr)}(h:iO n self list=some r):VQ G 321 [] [vM aI list] (ms 0 1 7 aI r) [ar 84 1 7 aI r]:=by
 unfold iO at h
 refine vq aO Tryz.func321 rfl fun w X β0 hC hg=> ?_
 refine rq hC [] [2] [] [] [] (rq hC [.z (.nat 20)] [3,6] [(3,ms 20 1 7 aI [])] [(20,some (ar 84 1 7 aI []))] [(20,true)] (qs (rq hC [oN aI list] [7,8,9] [(7,vM aI list),(8,vI (list.length:Int)),(9,vI 0)] [] [] (qb (bD (γ:=Nat) h (fun x_ g_=>aY [(3,ms 20 g_ 7 aI x_.1),(7,vM aI list),(8,vI (list.length:Int)),(9,vI x_.2)] [(20,ar 84 g_ 7 aI x_.1)] [20]) 1 (lS) ?_)))))
 rintro again4 ⟨x1,x2⟩ g3 h
 refine rq hC [] [10] [(10,vB (decide (x2<(list.length:Int))))] [] [] (qs (aT h (fun c1 h=> ?_) (fun c1 h=> ?_)))
 ·refine qk (qs (qb ?_))
  obtain⟨x5,hx5,h⟩:=bd h
  refine rq hC [.z (.row (d5 x5)),.z (.nat 21),oQ (eS aI hx5 (cM x5))] [5,11,12] [(5,V.ref 21 0)] [(21,some (E.cells (cQ x5)))] [(21,true)] ?_
  obtain⟨x6,hx6,x7,hx7,h⟩:=cP h
  exact rk hC [oV (hself x5 hx6),.z (.int 2),.z (.rows (List.map aI [x6])),oQ (rV x6),oA (aP aI hx7),oQ (bT (r:=aI) 7 dX x1),oQ (bT (r:=aI) 7 dX [x6])] [3,13,14,15,16,17] [(3,ms 20 (g3+1) 7 aI x7)] [(20,some (ar 84 (g3+1) 7 aI x7))] [] (rk hC [] [9,18] [(9,vI (wr (x2+1)))] [] [] ⟨(x7,wr (x2+1)),(g3+1),h,lS⟩)
 ·obtain rfl:=so h
  exact cT (rq hC [] [2,19] [(2,ms 20 g3 7 aI x1)] [] [] (qw (lk hC [.ren 2 20 0] [2] [(2,ms 0 1 7 aI x1)] [(0,some (ar 84 1 7 aI x1)),(20,none)] [(0,true)]) (qr eW)))
theorem P4(G:GS): ∀(n:Nat) (x:Expr) {r:Expr} (h:s_l16OwnExpr n x=some r),PQ G 300 [V.agg (cQ x)] (V.agg (cQ r)):=by
 intro n
 induction n with
 |zero=>intro x r h;rw [s_l16OwnExpr.eq_def] at h;cases h
 |succ n ih=>
  intro x r h
  rw [s_l16OwnExpr.eq_def] at h;dsimp only at h
  refine pq aO Tryz.func300 rfl fun w X hC=> ?_
  refine rq hC [.z (.nat 20),.z (.nat 21)] [1,2] [(1,V.ref 20 0),(2,V.ref 21 0)] [(20,some (E.cells (cQ x))),(21,sc [vI 0,vI 0,V.t T.nilS,vI 0,vS [],V.t T.nilS,V.t T.nilS])] [(20,true),(21,true)] ?_
  obtain⟨x1,hx1,h⟩:=bd h
  refine rq hC [oV (qT G hx1)] (fr 3 4) [] [(20,sc [vI x.kind,vI x.num,vM rI x1.coefs,vI x1.const,vS x.read.array,vM aA x.read.subs,vM aI x.kids])] [] ?_
  obtain⟨x2,hx2,h⟩:=bd h
  refine rq hC [oV (qU G hx2)] (fr 7 4) [] [(20,sc [vI x.kind,vI x.num,vM rI x1.coefs,vI x1.const,vS x2.array,vM aA x2.subs,vM aI x.kids])] [] ?_
  obtain⟨x3,hx3,h⟩:=bd h
  obtain rfl:=so h
  exact rq hC [oC [] [22] (wS G n (s_l16OwnExpr n) (fun q0 r h=>ih q0 h) x.kids hx3)] (fr 11 4) [] [(22,some (ar 84 1 7 aI x3)),(20,sc [vI x.kind,vI x.num,vM rI x1.coefs,vI x1.const,vS x2.array,vM aA x2.subs,ms 22 1 7 aI x3])] [(22,true)] (rq hC [.z (.at 2),.z (.fz 22 [] [20])] [15] [] [(20,sc [vI x.kind,vI x.num,vM rI x1.coefs,vI x1.const,vS x2.array,vM aA x2.subs,vM aI x3]),(22,none),(21,sc [vI x.kind,vI x.num,vM rI x1.coefs,vI x1.const,vS x2.array,vM aA x2.subs,vM aI x3])] [] (qr eR))
theorem P1{x}{r}(h:kL n x=some r):PQ G 274 [V.agg (cO x)] (V.agg (cO r)):=by
 unfold kL at h
 refine pq aO Tryz.func274 rfl fun w X hC=> ?_
 refine rq hC [.z (.nat 20),.z (.nat 21)] [1,2] [(1,V.ref 20 0),(2,V.ref 21 0)] [(20,some (E.cells (cO x))),(21,sc [vS [],V.t T.nilS,vI 0,vI 0,V.t T.nilS,vI 0,vS [],V.t T.nilS,V.t T.nilS])] [(20,true),(21,true)] ?_
 obtain⟨x1,hx1,h⟩:=bd h
 refine rq hC [oV (qU G hx1)] (fr 3 4) [] [(20,sc [vS x1.array,vM aA x1.subs,vI x.value.kind,vI x.value.num,vM rI x.value.index.coefs,vI x.value.index.const,vS x.value.read.array,vM aA x.value.read.subs,vM aI x.value.kids])] [] ?_
 obtain⟨x2,hx2,h⟩:=bd h
 obtain rfl:=so h
 exact rq hC [oV (P4 G n x.value hx2)] (fr 7 4) [] [(20,sc [vS x1.array,vM aA x1.subs,vI x2.kind,vI x2.num,vM rI x2.index.coefs,vI x2.index.const,vS x2.read.array,vM aA x2.read.subs,vM aI x2.kids])] [] (rq hC [] [11] [] [(21,sc [vS x1.array,vM aA x1.subs,vI x2.kind,vI x2.num,vM rI x2.index.coefs,vI x2.index.const,vS x2.read.array,vM aA x2.read.subs,vM aI x2.kids])] [] (qr eR))
theorem wP{list}{r}(h:fV n list=some r):VQ G 235 [] [vM aG list] (ms 0 1 9 aG r) [ar 86 1 9 aG r]:=by
 unfold fV at h
 refine vq aO Tryz.func235 rfl fun w X β0 hC hg=> ?_
 refine rq hC [] [2] [] [] [] (rq hC [.z (.nat 20)] [3,6] [(3,ms 20 1 9 aG [])] [(20,some (ar 86 1 9 aG []))] [(20,true)] (qs (rq hC [oN aG list] [7,8,9] [(7,vM aG list),(8,vI (list.length:Int)),(9,vI 0)] [] [] (qb (bD (γ:=Nat) h (fun x_ g_=>aY [(3,ms 20 g_ 9 aG x_.1),(7,vM aG list),(8,vI (list.length:Int)),(9,vI x_.2)] [(20,ar 86 g_ 9 aG x_.1)] [20]) 1 (lS) ?_)))))
 rintro again4 ⟨x1,x2⟩ g3 h
 refine rq hC [] [10] [(10,vB (decide (x2<(list.length:Int))))] [] [] (qs (aT h (fun c1 h=> ?_) (fun c1 h=> ?_)))
 ·refine qk (qs (qb ?_))
  obtain⟨x5,hx5,h⟩:=bd h
  refine rq hC [oR aG hx5,.z (.nat 21)] [5,11,12] [(5,V.ref 21 0)] [(21,some (E.cells (cO x5)))] [(21,true)] ?_
  obtain⟨x6,hx6,x7,hx7,h⟩:=cP h
  exact rk hC [oV (P1 G hx6),.z (.int 0),oA (aP aG hx7),oQ (bT (r:=aG) 9 dW x1),oQ (bT (r:=aG) 9 dW [x6])] [3,13,14,15,16,17] [(3,ms 20 (g3+1) 9 aG x7)] [(20,some (ar 86 (g3+1) 9 aG x7))] [] (rk hC [] [9,18] [(9,vI (wr (x2+1)))] [] [] ⟨(x7,wr (x2+1)),(g3+1),h,lS⟩)
 ·obtain rfl:=so h
  exact cT (rq hC [] [2,19] [(2,ms 20 g3 9 aG x1)] [] [] (qw (lk hC [.ren 2 20 0] [2] [(2,ms 0 1 9 aG x1)] [(0,some (ar 86 1 9 aG x1)),(20,none)] [(0,true)]) (qr eW)))
theorem P2{x}{r}(h:kM n x=some r):PQ G 187 [V.agg (lG x)] (V.agg (lG r)):=by
 unfold kM at h
 refine pq aO Tryz.func187 rfl fun w X hC=> ?_
 refine rq hC [.z (.nat 20),.z (.nat 21)] [1,2] [(1,V.ref 20 0),(2,V.ref 21 0)] [(20,some (E.cells (lG x))),(21,sc [V.t T.nilS,V.t T.nilS])] [(20,true),(21,true)] ?_
 obtain⟨x1,hx1,h⟩:=bd h
 refine rq hC [oC [] [22] (wR G hx1)] (fr 3 4) [] [(22,some (ar 56 1 2 aC x1)),(20,sc [ms 22 1 2 aC x1,vM aG x.body])] [(22,true)] ?_
 obtain⟨x2,hx2,h⟩:=bd h
 obtain rfl:=so h
 exact rq hC [oC [] [23] (wP G hx2)] (fr 7 4) [] [(23,some (ar 86 1 9 aG x2)),(20,sc [ms 22 1 2 aC x1,ms 23 1 9 aG x2])] [(23,true)] (rq hC [.z (.at 2),.z (.fz 22 [] [20]),.z (.at 2),.z (.fz 23 [] [20])] [11] [] [(20,sc [vM aC x1,vM aG x2]),(22,none),(23,none),(21,sc [vM aC x1,vM aG x2])] [] (qr eR))
theorem wQ{list}{r}(h:fW n list=some r):VQ G 124 [] [vM aD list] (ms 0 1 2 aD r) [ar 60 1 2 aD r]:=by
 unfold fW at h
 refine vq aO Tryz.func124 rfl fun w X β0 hC hg=> ?_
 refine rq hC [] [2] [] [] [] (rq hC [.z (.nat 20)] [3,6] [(3,ms 20 1 2 aD [])] [(20,some (ar 60 1 2 aD []))] [(20,true)] (qs (rq hC [oN aD list] [7,8,9] [(7,vM aD list),(8,vI (list.length:Int)),(9,vI 0)] [] [] (qb (bD (γ:=Nat) h (fun x_ g_=>aY [(3,ms 20 g_ 2 aD x_.1),(7,vM aD list),(8,vI (list.length:Int)),(9,vI x_.2)] [(20,ar 60 g_ 2 aD x_.1)] [20]) 1 (lS) ?_)))))
 rintro again4 ⟨x1,x2⟩ g3 h
 refine rq hC [] [10] [(10,vB (decide (x2<(list.length:Int))))] [] [] (qs (aT h (fun c1 h=> ?_) (fun c1 h=> ?_)))
 ·refine qk (qs (qb ?_))
  obtain⟨x5,hx5,h⟩:=bd h
  refine rq hC [oR aD hx5,.z (.nat 21)] [5,11,12] [(5,V.ref 21 0)] [(21,some (E.cells (lG x5)))] [(21,true)] ?_
  obtain⟨x6,hx6,x7,hx7,h⟩:=cP h
  exact rk hC [oV (P2 G hx6),.z (.int 0),oA (aP aD hx7),oQ (bT (r:=aD) 2 b8 x1),oQ (bT (r:=aD) 2 b8 [x6])] [3,13,14,15,16,17] [(3,ms 20 (g3+1) 2 aD x7)] [(20,some (ar 60 (g3+1) 2 aD x7))] [] (rk hC [] [9,18] [(9,vI (wr (x2+1)))] [] [] ⟨(x7,wr (x2+1)),(g3+1),h,lS⟩)
 ·obtain rfl:=so h
  exact cT (rq hC [] [2,19] [(2,ms 20 g3 2 aD x1)] [] [] (qw (lk hC [.ren 2 20 0] [2] [(2,ms 0 1 2 aD x1)] [(0,some (ar 60 1 2 aD x1)),(20,none)] [(0,true)]) (qr eW)))
theorem yE{x}{r}(h:gP n x=some r):PQ G 59 [V.agg (bH x)] (V.agg (bH r)):=by
 unfold gP at h
 refine pq aO Tryz.func59 rfl fun w X hC=> ?_
 refine rq hC [.z (.nat 20),.z (.nat 21)] [1,2] [(1,V.ref 20 0),(2,V.ref 21 0)] [(20,some (E.cells (bH x))),(21,sc [V.t T.nilS,V.t T.nilS])] [(20,true),(21,true)] ?_
 obtain⟨x1,hx1,h⟩:=bd h
 refine rq hC [oC [] [22] (uY G hx1)] (fr 3 4) [] [(22,some (ar 76 1 2 aJ x1)),(20,sc [ms 22 1 2 aJ x1,vM aD x.parts])] [(22,true)] ?_
 obtain⟨x2,hx2,h⟩:=bd h
 obtain rfl:=so h
 exact rq hC [oC [] [23] (wQ G hx2)] (fr 7 4) [] [(23,some (ar 60 1 2 aD x2)),(20,sc [ms 22 1 2 aJ x1,ms 23 1 2 aD x2])] [(23,true)] (rq hC [.z (.at 2),.z (.fz 22 [] [20]),.z (.at 2),.z (.fz 23 [] [20])] [11] [] [(20,sc [vM aJ x1,vM aD x2]),(22,none),(23,none),(21,sc [vM aJ x1,vM aD x2])] [] (qr eR))
theorem yB{list}{r}(h:oE n list=some r):PQ G 142 [vM aJ list] (vB r):=by
 unfold oE at h
 refine pq aO Tryz.func142 rfl fun w X hC=> ?_
 refine rq hC [] [2] [] [] [] (qs (rq hC [] [3] [(3,vI 0)] [] [] (qb (jP h (fun x_=>aY [(0,vM aJ list),(3,vI x_)] [] []) lS ?_))))
 rintro again2 x1 h
 refine qs (rq hC [oN aJ list] (fr 6 4) [(9,vB (decide (x1<(list.length:Int))))] [] [] (aT h (fun c1 h=> ?_) (fun c1 h=> ?_)))
 ·refine qk (qs (qb ?_))
  obtain⟨x3,hx3,h⟩:=bd h
  refine rq hC [oR aJ hx3,.z (.nat 20)] [4,12,13,14,15] [(4,V.ref 20 0)] [(20,sc [vS x3.name,vM rI x3.dims])] [(20,true)] (qs (vj h (fun x_=>aY [(0,vM aJ list),(3,vI x1),(4,V.ref 20 0),(56,vB x_)] [(20,E.cells [vS x3.name,vM rI x3.dims])] [20]) (fun j4 h=> ?_) (fun x6 h=> ?_)))
  ·
   refine aR h (fun c2 h=> ?_) (fun c2 h=> ?_)
   ·refine aR h (fun c3 h=> ?_) (fun c3 h=> ?_)
    ·refine aR h (fun c4 h=> ?_) (fun c4 h=> ?_)
     ·refine aR h (fun c5 h=> ?_) (fun c5 h=> ?_)
      ·refine aR h (fun c6 h=> ?_) (fun c6 h=> ?_)
       ·exact dk hC bC (rF 4 c2++rF 4 c3++rF 3 c4++rF 9 c5++[oF c4,oF c5,oF c4,eF,eF,eF,oN rI x3.dims,eF,eF]++rF 3 c6++[oN rI x3.dims,oF c6,oF c6]) (fr 16 41) [(56,vB (decide ((2:Int)<(x3.dims.length:Int))))] [] [] (lE h)
       ·exact dk hC bC (rF 4 c2++rF 4 c3++rF 3 c4++rF 9 c5++[oF c4,oF c5,oF c4,eF,eF,eF,oN rI x3.dims,eF,eF]++rT 5 c6) (fr 16 41) [(56,vB true)] [] [] (lE h)
      ·obtain⟨x5,hx5,h⟩:=bd h
       refine aR h (fun c7 h=> ?_) (fun c7 h=> ?_)
       ·refine aR h (fun c8 h=> ?_) (fun c8 h=> ?_)
        ·exact dk hC bC (rF 4 c2++rF 4 c3++rF 3 c4++rT 4 c5++[oR aJ hx5]++rT 5 c5++[oF c4,oT c5,oF c4]++rF 3 c7++[oN rI x3.dims,oF c7,oF c7]++rF 3 c8++[oN rI x3.dims,oF c8,oF c8]) (fr 16 41) [(56,vB (decide ((2:Int)<(x3.dims.length:Int))))] [] [] (lE h)
        ·exact dk hC bC (rF 4 c2++rF 4 c3++rF 3 c4++rT 4 c5++[oR aJ hx5]++rT 5 c5++[oF c4,oT c5,oF c4]++rF 3 c7++[oN rI x3.dims,oF c7,oF c7]++rT 5 c8) (fr 16 41) [(56,vB true)] [] [] (lE h)
       ·exact dk hC bC (rF 4 c2++rF 4 c3++rF 3 c4++rT 4 c5++[oR aJ hx5]++rT 5 c5++[oF c4,oT c5,oF c4]++rT 5 c7++sT 5) (fr 16 41) [(56,vB true)] [] [] (lE h)
     ·exact dk hC bC (rF 4 c2++rF 4 c3++rT 5 c4++sT 10) (fr 16 41) [(56,vB true)] [] [] (lE h)
    ·exact dk hC bC (rF 4 c2++rT 4 c3++sT 15) (fr 16 41) [(56,vB true)] [] [] (lE h)
   ·exact dk hC bC (rT 4 c2++sT 19) (fr 16 41) [(56,vB true)] [] [] (lE h)
  ·refine aT h (fun c9 h=> ?_) (fun c9 h=> ?_)
   ·obtain rfl:=so h
    exact rq hC [] [2] [(2,vB false)] [] [] (qr eR)
   ·refine qk (rq hC [] [5] [(5,vI 0)] [] [] (qb (jP h (fun x_=>aY [(0,vM aJ list),(3,vI x1),(4,V.ref 20 0),(5,vI x_)] [(20,E.cells [vS x3.name,vM rI x3.dims])] [20]) lS ?_)))
    rintro again8 x7 h
    refine qs (rq hC [oN rI x3.dims] (fr 57 5) [(61,vB (decide (x7<(x3.dims.length:Int))))] [] [] (aT h (fun c10 h=> ?_) (fun c10 h=> ?_)))
    ·refine qk (qs (qb (vj h (fun x_=>aY [(0,vM aJ list),(3,vI x1),(4,V.ref 20 0),(5,vI x7),(77,vB x_)] [(20,E.cells [vS x3.name,vM rI x3.dims])] [20]) (fun j9 h=> ?_) (fun x11 h=> ?_))))
     ·
      obtain⟨x10,hx10,h⟩:=bd h
      refine aR h (fun c11 h=> ?_) (fun c11 h=> ?_)
      ·exact rk hC ([oR rI hx10]++rF 4 c11++[oR rI hx10]++rF 3 c11) (fr 64 14) [(77,vB (decide ((6:Int)<x10)))] [] [] (lE h)
      ·exact rk hC ([oR rI hx10]++rT 7 c11) (fr 64 14) [(77,vB true)] [] [] (lE h)
     ·refine aT h (fun c12 h=> ?_) (fun c12 h=> ?_)
      ·obtain rfl:=so h
       exact rq hC [] [2] [(2,vB false)] [] [] (qr eR)
      ·exact qk (rk hC [] [5,62,63] [(5,vI (wr (x7+1)))] [] [] (lE h))
    ·exact cT (rk hC [] [3,10,11] [(3,vI (wr (x1+1)))] [] [] (lE h))
 ·obtain rfl:=so h
  exact cT (rq hC [oN aJ list] [2,78,79,80] [(2,vB (decide ((list.length:Int)≤4)))] [] [] (qr eR))
theorem l7{a}{r}(h:eJ n a=some r):VQ G 275 [] [V.agg (aK a)] (V.agg [ms 0 1 1 rI r.coefs,vI r.const]) [ar 3 1 1 rI r.coefs]:=by
 unfold eJ at h
 refine vq aO Tryz.func275 rfl fun w X β0 hC hg=> ?_
 refine rq hC [.z (.b (true)),.z (.nat 20)] [1,2] [(1,V.tp (aQ a)),(2,V.ref 20 0)] [(20,sc [V.t T.nilS,vI 0])] [(20,true)] (qs (rq hC [oN rI a.coefs] (fr 3 4) [(6,vB (decide ((a.coefs.length:Int)=0)))] [] [] (aT h (fun c1 h=> ?_) (fun c1 h=> ?_))))
 ·obtain rfl:=so h
  exact rq hC [] [7,8,9] [] [(20,sc [V.t T.nilS,vI a.const])] [] (qw (lk hC [.growc 20 0 21 3] [] [] [(21,some (ar 3 1 1 rI [])),(20,sc [ms 21 1 1 rI [],vI a.const])] [(21,true)]) (qw (lk hC [.rn 21 0 [] [20]] [] [] [(20,sc [ms 0 1 1 rI [],vI a.const]),(21,none),(0,some (ar 3 1 1 rI []))] [(0,true)]) (qr eW)))
 ·refine qk (qs ?_)
  obtain⟨x1,hx1,h⟩:=bd h
  obtain rfl:=so h
  exact dk hC bC [.z (.nat 21),oA (aP rI hx1),oQ (bT (r:=rI) 1 (fun _=>rfl) []),oQ (bT (r:=rI) 1 (fun _=>rfl) a.coefs)] (fr 10 7) [] [(21,some (ar 3 2 1 rI x1)),(20,sc [ms 21 2 1 rI x1,vI a.const])] [(21,true)] (qw (lk hC [.rn 21 0 [] [20]] [] [] [(20,sc [ms 0 1 1 rI x1,vI a.const]),(21,none),(0,some (ar 3 1 1 rI x1))] [(0,true)]) (qr eW))
theorem l8{a}{r}(h:eK n a=some r):VQ G 236 [] [V.agg (cB a)] (V.agg [vS r.array,ms 0 1 2 aA r.subs]) [ar 63 1 2 aA r.subs]:=by
 unfold eK at h
 refine vq aO Tryz.func236 rfl fun w X β0 hC hg=> ?_
 refine rq hC [.z (.b (true)),.z (.nat 20)] [1,2] [(1,V.tp (dO a)),(2,V.ref 20 0)] [(20,sc [vS [],V.t T.nilS])] [(20,true)] (rq hC [.z (.nat 21)] [3,5,6,7] [(3,V.ref 21 0)] [(21,sc [vS a.array,V.t T.nilS])] [(21,true)] (qs (rq hC [] [4] [(4,vI 0)] [] [] (qb (qw (lk hC [.growc 21 1 22 63] [] [] [(22,some (ar 63 1 2 aA [])),(21,sc [vS a.array,ms 22 1 2 aA []])] [(22,true)]) ?_)))))
 refine bD (γ:=Nat) h (fun x_ g_=>aY [(1,V.tp (dO a)),(2,V.ref 20 0),(3,V.ref 21 0),(4,vI x_.2)] [(20,E.cells [vS [],V.t T.nilS]),(21,E.cells [vS a.array,ms 22 g_ 2 aA x_.1]),(22,ar 63 g_ 2 aA x_.1)] [20,21,22]) 1 (lS) ?_
 rintro again4 ⟨x1,x2⟩ g3 h
 refine qs (rq hC [oN aA a.subs] (fr 8 5) [(12,vB (decide (x2<(a.subs.length:Int))))] [] [] (aT h (fun c1 h=> ?_) (fun c1 h=> ?_)))
 ·refine qk (qs (qb ?_))
  obtain⟨x5,hx5,x6,hx6,x7,hx7,h⟩:=kG h
  exact dk hC bC [oR aA hx5,oC [] [23] (l7 G hx6),.z (.at 4),.z (.fz 23 [22] []),.z (.int 0),oA (aP aA hx7),oQ (bT (r:=aA) 2 aU x1),oQ (bT (r:=aA) 2 aU [x6])] (fr 15 11) [] [(23,none),(22,some (ar 63 (g3+1) 2 aA x7)),(21,sc [vS a.array,ms 22 (g3+1) 2 aA x7])] [(23,true)] (rk hC [] [4,13,14] [(4,vI (wr (x2+1)))] [] [] ⟨(x7,wr (x2+1)),(g3+1),h,lS⟩)
 ·obtain rfl:=so h
  exact cT (rq hC [] [26] [] [(20,sc [vS a.array,ms 22 g3 2 aA x1])] [] (qw (lk hC [.rn 22 0 [] [20,21]] [] [] [(20,sc [vS a.array,ms 0 1 2 aA x1]),(21,sc [vS a.array,ms 0 1 2 aA x1]),(22,none),(0,some (ar 63 1 2 aA x1))] [(0,true)]) (qr eW)))
theorem aBX(G:GS): ∀(n:Nat) (out:List Access) (outG:Nat) (e:Expr) {r:(List Access)} (h:s_l3Reads n out e=some r),VQ G 246 [ar 81 outG 2 aV out] [ms 0 outG 2 aV out,V.agg (cQ e)] (ms 0 (outG+1) 2 aV r) [ar 81 (outG+1) 2 aV r]:=by
 intro n
 induction n with
 |zero=>intro out outG e r h;rw [s_l3Reads.eq_def] at h;cases h
 |succ n ih=>
  intro out outG e r h
  rw [s_l3Reads.eq_def] at h;dsimp only at h
  refine vq aO Tryz.func246 rfl fun w X β0 hC hg=> ?_
  refine rq hC [.z (.b (true))] [3,4] [(3,V.tp (fA e))] [] [] ?_
  obtain⟨j1,hj1,h⟩:=R7 h
  refine n4 (γ:=Nat) (j:=j1) (r:=r) (fun x_ g_=>aY [(0,ms 0 g_ 2 aV x_),(3,V.tp (fA e))] [(0,ar 81 g_ 2 aV x_)] [0]) ?_ ?_
  ·
   refine rq hC [] [6,7,8] [(8,vB (decide (e.kind=3)))] [] [] (aT h (fun c1 h=> ?_) (fun c1 h=> ?_))
   ·obtain⟨x2,hx2,x3,hx3,h⟩:=cP h
    exact rk hC [oC [] [20] (l8 G hx2),.z (.at 3),.z (.fz 20 [12] []),.z (.int 0),oA (aP aV hx3),oQ (bT (r:=aV) 2 pF out),oQ (bT (r:=aV) 2 pF [x2])] [0,9,10,11,12,13,14] [(0,ms 0 (outG+1) 2 aV x3)] [(20,none),(0,some (ar 81 (outG+1) 2 aV x3))] [(20,true)] ⟨x3,(outG+1),h,lS⟩
   ·exact qk ⟨out,outG,h,lS⟩
  ·rintro x4 g5 h
   subst hj1
   refine qs (rq hC [] [5] [(5,vI 0)] [] [] (qb (bD (γ:=Nat) h (fun x_ g_=>aY [(0,ms 0 g_ 2 aV x_.1),(3,V.tp (fA e)),(5,vI x_.2)] [(0,ar 81 g_ 2 aV x_.1)] [0]) g5 (lS) ?_)))
   rintro again9 ⟨x6,x7⟩ g8 h
   refine qs (rq hC [oN aI e.kids] (fr 15 5) [(19,vB (decide (x7<(e.kids.length:Int))))] [] [] (aT h (fun c2 h=> ?_) (fun c2 h=> ?_)))
   ·refine qk (qs (qb ?_))
    obtain⟨x10,hx10,x11,hx11,h⟩:=cP h
    exact rk hC [.z (.row (d5 x10)),oQ (eS aI hx10 (cM x10)),oC [0] [] (ih x6 g8 x10 hx11)] [0,22,23,24,25,26,27,28] [(0,ms 0 (g8+1) 2 aV x11)] [(0,some (ar 81 (g8+1) 2 aV x11))] [(0,true)] (rk hC [] [5,20,21] [(5,vI (wr (x7+1)))] [] [] ⟨(x11,wr (x7+1)),(g8+1),h,lS⟩)
   ·obtain rfl:=so h
    exact cT (rq hC [] [4,29] [(4,ms 0 g8 2 aV x6)] [] [] (qw (uF 4 0 outG g8 2 0 (List.map aV x6).length (e:= .arr 81 g8 2 (List.map aV x6)) rfl (by kernel_rfl) (by kernel_rfl) rfl rfl hg.1) (qr eW)))
theorem aDr{a}{r}(h:tD n a=some r):PQ G 240 [V.agg [vS a.name,vM rI a.dims]] (vI r):=by
 unfold tD at h
 refine pq aO Tryz.func240 rfl fun w X hC=> ?_
 refine rq hC [.z (.b (true))] [1,2] [(1,V.tp [T.str a.name,T.sl (List.map rI a.dims)])] [] [] (rq hC [] [3] [(3,vI 1)] [] [] (qs (rq hC [] [4] [(4,vI 0)] [] [] (qb (jP h (fun x_=>aY [(1,V.tp [T.str a.name,T.sl (List.map rI a.dims)]),(3,vI x_.1),(4,vI x_.2)] [] []) lS ?_)))))
 rintro again3 ⟨x1,x2⟩ h
 refine qs (rq hC [oN rI a.dims] (fr 5 5) [(9,vB (decide (x2<(a.dims.length:Int))))] [] [] (aT h (fun c1 h=> ?_) (fun c1 h=> ?_)))
 ·refine qk (qs (qb ?_))
  obtain⟨x4,hx4,h⟩:=bd h
  exact rk hC [oR rI hx4] [3,12,13,14,15,16,17,18] [(3,vI (wr (x1*x4)))] [] [] (rk hC [] [4,10,11] [(4,vI (wr (x2+1)))] [] [] (lE h))
 ·obtain rfl:=so h
  exact cT (rq hC [] [2,19] [(2,vI x1)] [] [] (qr eR))
theorem o8{a}{point}{r}(h:iC n a point=some r):PQ G 248 [V.agg (aK a),vM rI point] (vI r):=by
 unfold iC at h
 refine pq aO Tryz.func248 rfl fun w X hC=> ?_
 refine rq hC [.z (.b (true))] [2,4] [(2,V.tp (aQ a))] [] [] (rq hC [] [5,7,8] [(5,vI a.const)] [] [] (qs (rq hC [] [6] [(6,vI 0)] [] [] (qb (jP h (fun x_=>aY [(1,vM rI point),(2,V.tp (aQ a)),(5,vI x_.1),(6,vI x_.2)] [] []) lS ?_)))))
 rintro again3 ⟨x1,x2⟩ h
 refine qs (vj h (fun x_=>aY [(1,vM rI point),(2,V.tp (aQ a)),(5,vI x1),(6,vI x2),(19,vB x_)] [] []) (fun j4 h=> ?_) (fun x5 h=> ?_))
 ·
  refine aR h (fun c1 h=> ?_) (fun c1 h=> ?_)
  ·exact rk hC ([oN rI point]++rF 6 c1) (fr 9 11) [(19,vB false)] [] [] (lE h)
  ·exact rk hC ([oN rI point]++rT 4 c1++[oN rI a.coefs,oT c1,oT c1]) (fr 9 11) [(19,vB (decide (x2<(a.coefs.length:Int))))] [] [] (lE h)
 ·refine aT h (fun c2 h=> ?_) (fun c2 h=> ?_)
  ·refine qk (qs (qb ?_))
   obtain⟨x6,hx6,x7,hx7,h⟩:=cP h
   exact dk hC bC [oR rI hx6,oR rI hx7] [5,22,23,24,25,26,27,28,29,30,31,32,33] [(5,vI (wr (x1+(wr (x6*x7)))))] [] [] (rk hC [] [6,20,21] [(6,vI (wr (x2+1)))] [] [] (lE h))
  ·obtain rfl:=so h
   exact cT (rq hC [] [4,34] [(4,vI x1)] [] [] (qr eR))
theorem O2{list}{a}{point}{r}(h:qE n list a point=some r):PQ G 247 [vM aJ list,V.agg (cB a),vM rI point] (vI r):=by
 unfold qE at h
 refine pq aO Tryz.func247 rfl fun w X hC=> ?_
 refine rq hC [.z (.b (true))] [4,6] [(4,V.tp (dO a))] [] [] (rq hC [] [7] [(7,vI 0)] [] [] (qs (rq hC [] [8] [(8,vI 0)] [] [] (qb (jP h (fun x_=>aY [(0,vM aJ list),(2,vM rI point),(4,V.tp (dO a)),(7,vI x_.1),(8,vI x_.2)] [] []) lS ?_)))))
 rintro again3 ⟨x1,x2⟩ h
 refine qs (rq hC [oN aJ list] (fr 12 4) [(15,vB (decide (x2<(list.length:Int))))] [] [] (aT h (fun c1 h=> ?_) (fun c1 h=> ?_)))
 ·refine qk (qs (qb (qs (qs ?_))))
  obtain⟨x4,hx4,h⟩:=bd h
  refine dk hC bC [oR aJ hx4] (fr 18 8) [(25,vB (!decide (x4.name=a.array)))] [] [] (aT h (fun c2 h=> ?_) (fun c2 h=> ?_))
  ·obtain⟨x5,hx5,h⟩:=bd h
   exact rq hC [oR aJ hx4,oV (aDr G hx5)] [7,26,27,28,29,30,31,32] [(7,vI (wr (x1+x5)))] [] [] (cT (rk hC [] [8,16,17] [(8,vI (wr (x2+1)))] [] [] (lE h)))
  ·refine qk (rq hC [] [9] [(9,vI 0)] [] [] (qs (rq hC [] [10] [(10,vI 0)] [] [] (qb (jP h (fun x_=>aY [(0,vM aJ list),(2,vM rI point),(4,V.tp (dO a)),(7,vI x1),(8,vI x2),(9,vI x_.1),(10,vI x_.2)] [] []) lS ?_)))))
   rintro again8 ⟨x6,x7⟩ h
   refine qs (rq hC [oN aA a.subs] (fr 33 5) [(37,vB (decide (x7<(a.subs.length:Int))))] [] [] (aT h (fun c3 h=> ?_) (fun c3 h=> ?_)))
   ·refine qk (qs (qb (qs (qs (dk hC bC [oN aA a.subs,oR aJ hx4,oN rI x4.dims] (fr 40 10) [(49,vB (!decide ((a.subs.length:Int)=(x4.dims.length:Int))))] [] [] ?_)))))
    refine aT h (fun c4 h=> ?_) (fun c4 h=> ?_)
    ·obtain rfl:=so h
     exact rq hC [] [6] [(6,vI (-1))] [] [] (qr eR)
    ·refine qk ?_
     obtain⟨x9,hx9,x10,hx10,h⟩:=cP h
     refine rq hC [oR aA hx9,oV (o8 G hx10)] [11,50,51,52,53,54,55,56] [(11,vI x10)] [] [] (qs (vj h (fun x_=>aY [(0,vM aJ list),(2,vM rI point),(4,V.tp (dO a)),(7,vI x1),(8,vI x2),(9,vI x6),(10,vI x7),(11,vI x10),(70,vB x_)] [] []) (fun j11 h=> ?_) (fun x13 h=> ?_)))
     ·
      refine aR h (fun c5 h=> ?_) (fun c5 h=> ?_)
      ·obtain⟨x12,hx12,h⟩:=bd h
       exact rk hC (rF 4 c5++[oR aJ hx4]++rF 4 c5++[oR rI hx12]++rF 3 c5) (fr 57 14) [(70,vB (decide (x12≤x10)))] [] [] (lE h)
      ·exact rk hC (rT 11 c5) (fr 57 14) [(70,vB true)] [] [] (lE h)
     ·refine aT h (fun c6 h=> ?_) (fun c6 h=> ?_)
      ·obtain rfl:=so h
       exact rq hC [] [6] [(6,vI (-1))] [] [] (qr eR)
      ·refine qk ?_
       obtain⟨x14,hx14,h⟩:=bd h
       exact rk hC [oR aJ hx4,oR rI hx14] [9,71,72,73,74,75,76,77,78,79,80,81,82] [(9,vI (wr ((wr (x6*x14))+x10)))] [] [] (rk hC [] [10,38,39] [(10,vI (wr (x7+1)))] [] [] (lE h))
   ·obtain rfl:=so h
    exact cT (rq hC [] [6,83,84,85] [(6,vI (wr (x1+x6)))] [] [] (qr eR))
 ·obtain rfl:=so h
  exact cT (rq hC [] [6] [(6,vI (-1))] [] [] (qr eR))
theorem aBS{list}{s}{point}{r}(h:qD n list s point=some r):VQ G 200 [] [vM aJ list,V.agg (cO s),vM rI point] (V.tup [ms 0 1 1 rI r.1,vI r.2.1,vB r.2.2]) [ar 3 1 1 rI r.1]:=by
 unfold qD at h
 refine vq aO Tryz.func200 rfl fun w X β0 hC hg=> ?_
 refine rq hC [.z (.b (true))] [4,6,7,8] [(4,V.tp (n6 s))] [] [] (rq hC [.z (.nat 20)] [9,14] [(9,ms 20 1 1 rI [])] [(20,some (ar 3 1 1 rI []))] [(20,true)] ?_)
 obtain⟨x1,hx1,h⟩:=bd h
 refine rq hC [.z (.nat 21),oC [21] [] (aBX G n [] 1 s.value hx1)] [10,15,16,17,18] [(10,ms 21 2 2 aV x1)] [(21,some (ar 81 2 2 aV x1))] [(21,true),(21,true)] (qs (rq hC [] [11] [(11,vI 0)] [] [] (qb (bD (γ:=Nat) h (fun x_ g_=>aY [(0,vM aJ list),(2,vM rI point),(4,V.tp (n6 s)),(9,ms 20 g_ 1 rI x_.1),(10,ms 21 2 2 aV x1),(11,vI x_.2)] [(20,ar 3 g_ 1 rI x_.1),(21,ar 81 2 2 aV x1)] [20,21]) 1 (lS) ?_))))
 rintro again5 ⟨x2,x3⟩ g4 h
 refine qs (rq hC [oN aV x1] (fr 19 4) [(22,vB (decide (x3<(x1.length:Int))))] [] [] (aT h (fun c1 h=> ?_) (fun c1 h=> ?_)))
 ·refine qk (qs (qb ?_))
  obtain⟨x6,hx6,x7,hx7,h⟩:=cP h
  refine rq hC [oQ (lM aV hx6),oX aV hx6,oV (O2 G hx7)] [12,25,26,27,28,29,30,31] [(12,vI x7)] [] [] (qs (rq hC [] [32,33] [(33,vB (decide (x7<0)))] [] [] (aT h (fun c2 h=> ?_) (fun c2 h=> ?_))))
  ·obtain rfl:=so h
   exact rq hC [.z (.nat 22)] [6,7,8,34] [(6,ms 22 1 1 rI []),(7,vI 0),(8,vB false)] [(22,some (ar 3 1 1 rI []))] [(22,true)] (qw (lk hC [.ren 6 22 0] [6] [(6,ms 0 1 1 rI [])] [(0,some (ar 3 1 1 rI [])),(22,none)] [(0,true)]) (qr eW))
  ·refine qk ?_
   obtain⟨x8,hx8,h⟩:=bd h
   exact rk hC [.z (.int 0),oA (aP rI hx8),oQ (bT (r:=rI) 1 (fun _=>rfl) x2),oQ (bT (r:=rI) 1 (fun _=>rfl) [x7])] [9,35,36,37,38] [(9,ms 20 (g4+1) 1 rI x8)] [(20,some (ar 3 (g4+1) 1 rI x8))] [] (rk hC [] [11,23,24] [(11,vI (wr (x3+1)))] [] [] ⟨(x8,wr (x3+1)),(g4+1),h,lS⟩)
 ·refine cT ?_
  obtain⟨x9,hx9,h⟩:=bd h
  refine rq hC [oV (O2 G hx9)] [13,39,40,41,42,43] [(13,vI x9)] [] [] (qs (rq hC [] [44,45] [(45,vB (decide (x9<0)))] [] [] (aT h (fun c3 h=> ?_) (fun c3 h=> ?_))))
  ·obtain rfl:=so h
   exact rq hC [.z (.nat 22)] [6,7,8,46] [(6,ms 22 1 1 rI []),(7,vI 0),(8,vB false)] [(22,some (ar 3 1 1 rI []))] [(22,true)] (qw (lk hC [.ren 6 22 0] [6] [(6,ms 0 1 1 rI [])] [(0,some (ar 3 1 1 rI [])),(22,none)] [(0,true)]) (qr eW))
  ·obtain rfl:=so h
   exact qk (rq hC [] [6,7,8,47,48] [(6,ms 20 g4 1 rI x2),(7,vI x9),(8,vB true)] [] [] (qw (lk hC [.ren 6 20 0] [6] [(6,ms 0 1 1 rI x2)] [(0,some (ar 3 1 1 rI x2)),(20,none)] [(0,true)]) (qr eW)))
theorem nF{n_a0}{most}{r}(h:iB n n_a0 most=some r):PQ G 61 [vI n_a0,vI most] (vB r):=by
 unfold iB at h
 refine pq aO Tryz.func61 rfl fun w X hC=> ?_
 refine rq hC [] [4] [] [] [] (vj h (fun x_=>aY [(4,vB x_)] [] []) (fun j1 h=> ?_) (fun x2 h=> ?_))
 ·
  refine aR h (fun c1 h=> ?_) (fun c1 h=> ?_)
  ·exact rk hC (rF 4 c1) (fr 4 10) [(4,vB false)] [] [] (lE h)
  ·exact rk hC (rT 4 c1) (fr 4 10) [(4,vB (decide (n_a0≤most)))] [] [] (lE h)
 ·obtain rfl:=so h
  exact qr eR
theorem aB1{p}{r}(h:qH n p=some r):PQ G 201 [vM rI p] (vB r):=by
 unfold qH at h
 refine pq aO Tryz.func201 rfl fun w X hC=> ?_
 refine rq hC [] [2] [] [] [] (qs (rq hC [] [3] [(3,vI 0)] [] [] (qb (jP h (fun x_=>aY [(0,vM rI p),(3,vI x_)] [] []) lS ?_))))
 rintro again2 x1 h
 refine qs (rq hC [oN rI p] (fr 4 4) [(7,vB (decide (x1<(p.length:Int))))] [] [] (aT h (fun c1 h=> ?_) (fun c1 h=> ?_)))
 ·refine qk (qs (qb ?_))
  obtain⟨x3,hx3,x4,hx4,h⟩:=cP h
  refine rq hC [oR rI hx3,oV (nF G hx4)] (fr 10 6) [(15,vB (!x4))] [] [] (aT h (fun c2 h=> ?_) (fun c2 h=> ?_))
  ·obtain rfl:=so h
   exact rq hC [] [2] [(2,vB false)] [] [] (qr eR)
  ·exact qk (rk hC [] [3,8,9] [(3,vI (wr (x1+1)))] [] [] (lE h))
 ·obtain rfl:=so h
  exact cT (rq hC [oN rI p] [2,16,17,18] [(2,vB (decide ((p.length:Int)≤4)))] [] [] (qr eR))
theorem t2{a}{r}(h:lT n a=some r):PQ G 219 [V.agg (aK a)] (vI r):=by
 unfold lT at h
 refine pq aO Tryz.func219 rfl fun w X hC=> ?_
 refine rq hC [.z (.b (true))] [1,2] [(1,V.tp (aQ a))] [] [] (rq hC [] [3] [(3,vI 0)] [] [] (qs (rq hC [] [4] [(4,vI 0)] [] [] (qb (jP h (fun x_=>aY [(1,V.tp (aQ a)),(3,vI x_.1),(4,vI x_.2)] [] []) lS ?_)))))
 rintro again3 ⟨x1,x2⟩ h
 refine qs (rq hC [oN rI a.coefs] (fr 5 5) [(9,vB (decide (x2<(a.coefs.length:Int))))] [] [] (aT h (fun c1 h=> ?_) (fun c1 h=> ?_)))
 ·refine qk (vj h (fun x_=>aY [(1,V.tp (aQ a)),(3,vI x_),(4,vI x2)] [] []) (fun j4 h=> ?_) (fun x6 h=> ?_))
  ·
   refine qb ?_
   obtain⟨x5,hx5,h⟩:=bd h
   refine rq hC [oR rI hx5] (fr 12 6) [(17,vB (!decide (x5=0)))] [] [] (aT h (fun c2 h=> ?_) (fun c2 h=> ?_))
   ·exact rk hC [] [3,18,19] [(3,vI (wr (x2+1)))] [] [] (lE h)
   ·exact qk (lE h)
  ·exact rk hC [] [4,10,11] [(4,vI (wr (x2+1)))] [] [] (lE h)
 ·obtain rfl:=so h
  exact cT (rq hC [] [2,20] [(2,vI x1)] [] [] (qr eR))
theorem d7{a}{r}(h:eB n a=some r):PQ G 277 [V.agg (aK a)] (vB r):=by
 unfold eB at h
 refine pq aO Tryz.func277 rfl fun w X hC=> ?_
 refine rq hC [.z (.b (true))] [1,2] [(1,V.tp (aQ a))] [] [] (qs (rq hC [] [3] [(3,vI 0)] [] [] (qb (jP h (fun x_=>aY [(1,V.tp (aQ a)),(3,vI x_)] [] []) lS ?_))))
 rintro again2 x1 h
 refine qs (rq hC [oN rI a.coefs] (fr 4 5) [(8,vB (decide (x1<(a.coefs.length:Int))))] [] [] (aT h (fun c1 h=> ?_) (fun c1 h=> ?_)))
 ·refine qk (qs (qb ?_))
  obtain⟨x3,hx3,x4,hx4,h⟩:=cP h
  refine rq hC [oR rI hx3,oV (nF G hx4)] (fr 11 7) [(17,vB (!x4))] [] [] (aT h (fun c2 h=> ?_) (fun c2 h=> ?_))
  ·obtain rfl:=so h
   exact rq hC [] [2] [(2,vB false)] [] [] (qr eR)
  ·exact qk (rk hC [] [3,9,10] [(3,vI (wr (x1+1)))] [] [] (lE h))
 ·refine cT (vj h (fun x_=>aY [(2,vB x_)] [] []) (fun j5 h=> ?_) (fun x7 h=> ?_))
  ·
   refine aR h (fun c3 h=> ?_) (fun c3 h=> ?_)
   ·exact rk hC ([oN rI a.coefs]++rF 4 c3) [2,18,19,20,21,22,23,24,25,26] [(2,vB false)] [] [] (lE h)
   ·obtain⟨x6,hx6,h⟩:=bd h
    exact rk hC ([oN rI a.coefs]++rT 3 c3++[oV (nF G hx6),oT c3]) [2,18,19,20,21,22,23,24,25,26] [(2,vB x6)] [] [] (lE h)
  ·obtain rfl:=so h
   exact qr eR
theorem wN{list}{depth}{r}(h:qF n list depth=some r):PQ G 276 [vM aA list,vI depth] (vB r):=by
 unfold qF at h
 refine pq aO Tryz.func276 rfl fun w X hC=> ?_
 refine rq hC [] [4] [] [] [] (qs (rq hC [] [5] [(5,vI 0)] [] [] (qb (jP h (fun x_=>aY [(0,vM aA list),(1,vI depth),(5,vI x_)] [] []) lS ?_))))
 rintro again2 x1 h
 refine qs (rq hC [oN aA list] (fr 6 4) [(9,vB (decide (x1<(list.length:Int))))] [] [] (aT h (fun c1 h=> ?_) (fun c1 h=> ?_)))
 ·refine qk (qs (qb (vj h (fun x_=>aY [(0,vM aA list),(1,vI depth),(5,vI x1),(26,vB x_)] [] []) (fun j3 h=> ?_) (fun x7 h=> ?_))))
  ·
   obtain⟨x4,hx4,x5,hx5,h⟩:=cP h
   refine aR h (fun c2 h=> ?_) (fun c2 h=> ?_)
   ·obtain⟨x6,hx6,h⟩:=bd h
    exact rk hC ([oR aA hx4,oV (d7 G hx5)]++rF 3 c2++[oR aA hx4,oF c2,oF c2,oV (t2 G hx6)]++rF 3 c2) (fr 12 15) [(26,vB (decide (depth<x6)))] [] [] (lE h)
   ·exact rk hC ([oR aA hx4,oV (d7 G hx5)]++rT 8 c2) (fr 12 15) [(26,vB true)] [] [] (lE h)
  ·refine aT h (fun c3 h=> ?_) (fun c3 h=> ?_)
   ·obtain rfl:=so h
    exact rq hC [] [4] [(4,vB false)] [] [] (qr eR)
   ·exact qk (rk hC [] [5,10,11] [(5,vI (wr (x1+1)))] [] [] (lE h))
 ·refine cT (vj h (fun x_=>aY [(4,vB x_)] [] []) (fun j8 h=> ?_) (fun x9 h=> ?_))
  ·
   refine aR h (fun c4 h=> ?_) (fun c4 h=> ?_)
   ·exact rk hC ([oN aA list]++rF 4 c4) [4,27,28,29,30,31,32,33,34] [(4,vB false)] [] [] (lE h)
   ·exact rk hC [oN aA list,oT c4,oT c4,oN aA list,oT c4,oT c4] [4,27,28,29,30,31,32,33,34] [(4,vB (decide ((list.length:Int)≤2)))] [] [] (lE h)
  ·obtain rfl:=so h
   exact qr eR
theorem vN{nest}{r}(h:mL n nest=some r):PQ G 241 [vM aC nest] (vB r):=by
 unfold mL at h
 refine pq aO Tryz.func241 rfl fun w X hC=> ?_
 refine rq hC [] [2] [] [] [] (qs (rq hC [] [3] [(3,vI 0)] [] [] (qb (jP h (fun x_=>aY [(0,vM aC nest),(3,vI x_)] [] []) lS ?_))))
 rintro again2 x1 h
 refine qs (vj h (fun x_=>aY [(0,vM aC nest),(3,vI x1),(12,vB x_)] [] []) (fun j3 h=> ?_) (fun x4 h=> ?_))
 ·
  refine aR h (fun c1 h=> ?_) (fun c1 h=> ?_)
  ·exact rk hC ([oN aC nest]++rF 4 c1) (fr 4 9) [(12,vB false)] [] [] (lE h)
  ·exact rk hC [oN aC nest,oT c1,oT c1,oN aC nest,oT c1,oT c1] (fr 4 9) [(12,vB (decide ((nest.length:Int)≤4)))] [] [] (lE h)
 ·refine aT h (fun c2 h=> ?_) (fun c2 h=> ?_)
  ·refine qk (qs (qb (vj h (fun x_=>aY [(0,vM aC nest),(3,vI x1),(32,vB x_)] [] []) (fun j5 h=> ?_) (fun x9 h=> ?_))))
   ·
    obtain⟨x6,hx6,x7,hx7,h⟩:=cP h
    refine aR h (fun c3 h=> ?_) (fun c3 h=> ?_)
    ·obtain⟨x8,hx8,h⟩:=bd h
     exact rk hC ([oR aC hx6,oV (wN G hx7)]++rF 3 c3++[oR aC hx6]++rF 4 c3++[oV (wN G hx8),oF c3,oF c3]) (fr 15 18) [(32,vB (!x8))] [] [] (lE h)
    ·exact rk hC ([oR aC hx6,oV (wN G hx7)]++rT 9 c3) (fr 15 18) [(32,vB true)] [] [] (lE h)
   ·refine aT h (fun c4 h=> ?_) (fun c4 h=> ?_)
    ·obtain rfl:=so h
     exact rq hC [] [2] [(2,vB false)] [] [] (qr eR)
    ·exact qk (rk hC [] [3,13,14] [(3,vI (wr (x1+1)))] [] [] (lE h))
  ·obtain rfl:=so h
   exact cT (rq hC [oN aC nest] [2,33,34,35] [(2,vB (decide ((nest.length:Int)≤4)))] [] [] (qr eR))
theorem C0{loop}{p}{r}(h:nQ n loop p=some r):PQ G 202 [V.agg (jD loop),vM rI p] (V.tup [vI r.1,vI r.2]):=by
 unfold nQ at h
 refine pq aO Tryz.func202 rfl fun w X hC=> ?_
 refine rq hC [.z (.b (true))] [2,4,5] [(2,V.tp (u5 loop))] [] [] ?_
 obtain⟨x1,hx1,x2,hx2,h⟩:=cP h
 refine rq hC [oR aA hx1,oV (o8 G hx2)] [6,12,13,14,15,16,17] [(6,vI x2)] [] [] ?_
 obtain⟨x3,hx3,x4,hx4,h⟩:=cP h
 refine rq hC [oR aA hx3,oV (o8 G hx4)] [7,18,19,20,21,22,23] [(7,vI x4)] [] [] (qs (rq hC [] [8] [(8,vI 1)] [] [] (qb (jP h (fun x_=>aY [(1,vM rI p),(2,V.tp (u5 loop)),(6,vI x_.1),(7,vI x4),(8,vI x_.2)] [] []) lS ?_))))
 rintro again7 ⟨x5,x6⟩ h
 refine qs (rq hC [oN aA loop.lo] (fr 24 5) [(28,vB (decide (x6<(loop.lo.length:Int))))] [] [] (aT h (fun c1 h=> ?_) (fun c1 h=> ?_)))
 ·refine qk (vj h (fun x_=>aY [(1,vM rI p),(2,V.tp (u5 loop)),(6,vI x_),(7,vI x4),(8,vI x6)] [] []) (fun j8 h=> ?_) (fun x11 h=> ?_))
  ·
   refine qb ?_
   obtain⟨x9,hx9,x10,hx10,h⟩:=cP h
   refine rq hC [oR aA hx9,oV (o8 G hx10)] [9,31,32,33,34,35,36,37] [(9,vI x10)] [] [] (rq hC [] [38,39,40] [(40,vB (decide (x5<x10)))] [] [] (aT h (fun c2 h=> ?_) (fun c2 h=> ?_)))
   ·exact rk hC [] [6,41] [(6,vI x10)] [] [] (lE h)
   ·exact qk (lE h)
  ·exact rk hC [] [8,29,30] [(8,vI (wr (x6+1)))] [] [] (lE h)
 ·refine cT (qs (rq hC [] [10] [(10,vI 1)] [] [] (qb (jP h (fun x_=>aY [(1,vM rI p),(2,V.tp (u5 loop)),(6,vI x5),(7,vI x_.1),(10,vI x_.2)] [] []) lS ?_))))
  rintro again14 ⟨x12,x13⟩ h
  refine qs (rq hC [oN aA loop.hi] (fr 42 5) [(46,vB (decide (x13<(loop.hi.length:Int))))] [] [] (aT h (fun c3 h=> ?_) (fun c3 h=> ?_)))
  ·refine qk (vj h (fun x_=>aY [(1,vM rI p),(2,V.tp (u5 loop)),(6,vI x5),(7,vI x_),(10,vI x13)] [] []) (fun j15 h=> ?_) (fun x18 h=> ?_))
   ·
    refine qb ?_
    obtain⟨x16,hx16,x17,hx17,h⟩:=cP h
    refine rq hC [oR aA hx16,oV (o8 G hx17)] [11,49,50,51,52,53,54,55] [(11,vI x17)] [] [] (rq hC [] [56,57,58] [(58,vB (decide (x17<x12)))] [] [] (aT h (fun c4 h=> ?_) (fun c4 h=> ?_)))
    ·exact rk hC [] [7,59] [(7,vI x17)] [] [] (lE h)
    ·exact qk (lE h)
   ·exact rk hC [] [10,47,48] [(10,vI (wr (x13+1)))] [] [] (lE h)
  ·obtain rfl:=so h
   exact cT (rq hC [] [4,5,60,61] [(4,vI x5),(5,vI x12)] [] [] (qr eR))
theorem aDw(G:GS): ∀(n:Nat) (nest:List Loop) (p:List Int) (most:Int) {r:Int} (h:s_l2Work n nest p most=some r),PQ G 242 [vM aC nest,vM rI p,vI most] (vI r):=by
 intro n
 induction n with
 |zero=>intro nest p most r h;rw [s_l2Work.eq_def] at h;cases h
 |succ n ih=>
  intro nest p most r h
  rw [s_l2Work.eq_def] at h;dsimp only at h
  refine pq aO Tryz.func242 rfl fun w X hC=> ?_
  refine rq hC [] [6] [] [] [] (rq hC [] [7] [(7,vI 1)] [] [] (qs (rq hC [oN rI p,oN aC nest] (fr 11 5) [(15,vB (decide ((p.length:Int)=(nest.length:Int))))] [] [] (aT h (fun c1 h=> ?_) (fun c1 h=> ?_)))))
  ·obtain rfl:=so h
   exact rq hC [] [6,16] [(6,vI 1)] [] [] (qr eR)
  ·refine qk ?_
   obtain⟨x1,hx1,x2,hx2,h⟩:=cP h
   refine rq hC [oN rI p,oR aC hx1,oV (C0 G hx2)] [8,9,17,18,19,20,21,22,23,24,25,26] [(8,vI x2.1),(9,vI x2.2)] [] [] (qs (rq hC [] [10,27] [(10,vI x2.1)] [] [] (qb (jP h (fun x_=>aY [(0,vM aC nest),(1,vM rI p),(2,vI most),(7,vI x_.1),(9,vI x2.2),(10,vI x_.2)] [] []) lS ?_))))
   rintro again5 ⟨x3,x4⟩ h
   refine qs (vj h (fun x_=>aY [(0,vM aC nest),(1,vM rI p),(2,vI most),(7,vI x3),(9,vI x2.2),(10,vI x4),(35,vB x_)] [] []) (fun j6 h=> ?_) (fun x7 h=> ?_))
   ·
    refine aR h (fun c2 h=> ?_) (fun c2 h=> ?_)
    ·exact rk hC (rF 4 c2) (fr 28 8) [(35,vB false)] [] [] (lE h)
    ·exact rk hC (rT 4 c2) (fr 28 8) [(35,vB (decide (x3≤most)))] [] [] (lE h)
   ·refine aT h (fun c3 h=> ?_) (fun c3 h=> ?_)
    ·refine qk (qs (qb ?_))
     obtain⟨x8,hx8,x9,hx9,x10,hx10,h⟩:=kG h
     exact rk hC [.z (.nat 20),oA (aP rI hx8),.z (.int 0),oQ (bT (r:=rI) 1 (fun _=>rfl) []),oQ (bT (r:=rI) 1 (fun _=>rfl) p),oA (aP rI hx9),.z (.b (true)),oQ (bT (r:=rI) 1 (fun _=>rfl) x8),oQ (bT (r:=rI) 1 (fun _=>rfl) [x4]),oV (ih nest x9 (wr (most-x3)) hx10)] [7,38,39,40,41,42,43,44,45,46,47,48,49,50] [(7,vI (wr (x3+x10)))] [(20,some (ar 3 3 1 rI x9))] [(20,true)] (rk hC [] [10,36,37] [(10,vI (wr (x4+1)))] [] [] (lE h))
    ·obtain rfl:=so h
     exact cT (rq hC [] [6,51] [(6,vI x3)] [] [] (qr eR))
theorem aAF(G:GS): ∀(n:Nat) (out:List (List Int)) (outG:Nat) (nest:List Loop) (p:List Int) {r:(List (List Int))} (h:s_l2Points n out nest p=some r),VQ G 147 [ar 45 outG 1 (rL rI) out] [ms 0 outG 1 (rL rI) out,vM aC nest,vM rI p] (ms 0 (outG+1) 1 (rL rI) r) [ar 45 (outG+1) 1 (rL rI) r]:=by
 intro n
 induction n with
 |zero=>intro out outG nest p r h;rw [s_l2Points.eq_def] at h;cases h
 |succ n ih=>
  intro out outG nest p r h
  rw [s_l2Points.eq_def] at h;dsimp only at h
  refine vq aO Tryz.func147 rfl fun w X β0 hC hg=> ?_
  refine rq hC [] [6] [] [] [] (qs (rq hC [oN rI p,oN aC nest] (fr 10 5) [(14,vB (decide ((p.length:Int)=(nest.length:Int))))] [] [] (aT h (fun c1 h=> ?_) (fun c1 h=> ?_))))
  ·obtain⟨x1,hx1,x2,hx2,h⟩:=cP h
   obtain rfl:=so h
   exact rq hC [.z (.nat 20),oA (aP rI hx1),.z (.at 3),.z (.fz 20 [18] []),.z (.int 0),oQ (bT (r:=rI) 1 (fun _=>rfl) []),oQ (bT (r:=rI) 1 (fun _=>rfl) p),oA (aP (rL rI) hx2),oQ (bT (r:=(rL rI)) 1 (fun _=>rfl) out),oQ (bT (r:=(rL rI)) 1 (fun _=>rfl) [x1])] [0,6,15,16,17,18,19,20] [(6,ms 0 (outG+1) 1 (rL rI) x2)] [(20,none),(0,some (ar 45 (outG+1) 1 (rL rI) x2))] [(20,true)] (qw (uF 6 0 outG (outG+1) 1 0 (List.map (rL rI) x2).length (e:= .arr 45 (outG+1) 1 (List.map (rL rI) x2)) rfl (by kernel_rfl) (by kernel_rfl) rfl rfl hg.1) (qr eW))
  ·refine qk ?_
   obtain⟨x3,hx3,x4,hx4,h⟩:=cP h
   refine rq hC [oN rI p,oR aC hx3,oV (C0 G hx4)] [7,8,21,22,23,24,25,26,27,28,29,30] [(7,vI x4.1),(8,vI x4.2)] [] [] (qs (rq hC [] [9,31] [(9,vI x4.1)] [] [] (qb (bD (γ:=Nat) h (fun x_ g_=>aY [(0,ms 0 g_ 1 (rL rI) x_.1),(1,vM aC nest),(2,vM rI p),(8,vI x4.2),(9,vI x_.2)] [(0,ar 45 g_ 1 (rL rI) x_.1)] [0]) outG (lS) ?_))))
   rintro again8 ⟨x5,x6⟩ g7 h
   refine qs (vj h (fun x_=>aY [(0,ms 0 g7 1 (rL rI) x5),(1,vM aC nest),(2,vM rI p),(8,vI x4.2),(9,vI x6),(39,vB x_)] [(0,ar 45 g7 1 (rL rI) x5)] [0]) (fun j9 h=> ?_) (fun x10 h=> ?_))
   ·
    refine aR h (fun c2 h=> ?_) (fun c2 h=> ?_)
    ·exact rk hC (rF 4 c2) (fr 32 8) [(39,vB false)] [] [] (lE h)
    ·exact rk hC [oT c2,oT c2,oN (rL rI) x5,oT c2,oT c2] (fr 32 8) [(39,vB (decide ((x5.length:Int)≤120)))] [] [] (lE h)
   ·refine aT h (fun c3 h=> ?_) (fun c3 h=> ?_)
    ·refine qk (qs (qb ?_))
     obtain⟨x11,hx11,x12,hx12,x13,hx13,h⟩:=kG h
     exact rk hC [.z (.nat 20),oA (aP rI hx11),.z (.int 0),oQ (bT (r:=rI) 1 (fun _=>rfl) []),oQ (bT (r:=rI) 1 (fun _=>rfl) p),oA (aP rI hx12),.z (.at 2),.z (.fz 20 [49] []),oQ (bT (r:=rI) 1 (fun _=>rfl) x11),oQ (bT (r:=rI) 1 (fun _=>rfl) [x6]),oC [0] [] (ih x5 g7 nest x12 hx13)] [0,42,43,44,45,46,47,48,49,50] [(0,ms 0 (g7+1) 1 (rL rI) x13)] [(20,none),(0,some (ar 45 (g7+1) 1 (rL rI) x13))] [(20,true),(0,true)] (rk hC [] [9,40,41] [(9,vI (wr (x6+1)))] [] [] ⟨(x13,wr (x6+1)),(g7+1),h,lS⟩)
    ·obtain rfl:=so h
     exact cT (rq hC [] [6,51] [(6,ms 0 g7 1 (rL rI) x5)] [] [] (qw (uF 6 0 outG g7 1 0 (List.map (rL rI) x5).length (e:= .arr 45 g7 1 (List.map (rL rI) x5)) rfl (by kernel_rfl) (by kernel_rfl) rfl rfl hg.1) (qr eW)))
theorem P6{nest}{r}(h:kO n nest=some r):VQ G 198 [] [vM aC nest] (V.tup [ms 0 1 1 (rL rI) r.1,vB r.2]) [ar 45 1 1 (rL rI) r.1]:=by
 unfold kO at h
 refine vq aO Tryz.func198 rfl fun w X β0 hC hg=> ?_
 refine rq hC [] [2,3] [] [] [] (qs (vj h (fun x_=>aY [(0,vM aC nest),(12,vB x_)] [] []) (fun j1 h=> ?_) (fun x4 h=> ?_)))
 ·
  obtain⟨x2,hx2,h⟩:=bd h
  refine aR h (fun c1 h=> ?_) (fun c1 h=> ?_)
  ·obtain⟨x3,hx3,h⟩:=bd h
   exact rk hC [oV (vN G hx2),oF c1,oF c1,oV (aDw G n nest [] 1200 hx3),oF c1,oF c1] (fr 5 8) [(12,vB (decide ((1200:Int)<x3)))] [] [] (lE h)
  ·exact rk hC ([oV (vN G hx2)]++rT 4 c1) (fr 5 8) [(12,vB true)] [] [] (lE h)
 ·refine aT h (fun c2 h=> ?_) (fun c2 h=> ?_)
  ·obtain rfl:=so h
   exact rq hC [.z (.nat 20)] [2,3,13] [(2,ms 20 1 1 (rL rI) []),(3,vB false)] [(20,some (ar 45 1 1 (rL rI) []))] [(20,true)] (qw (lk hC [.ren 2 20 0] [2] [(2,ms 0 1 1 (rL rI) [])] [(0,some (ar 45 1 1 (rL rI) [])),(20,none)] [(0,true)]) (qr eW))
  ·refine qk ?_
   obtain⟨x5,hx5,h⟩:=bd h
   refine rq hC [.z (.nat 20),oC [20] [] (aAF G n [] 1 nest [] hx5)] [4,14,15,16] [(4,ms 20 2 1 (rL rI) x5)] [(20,some (ar 45 2 1 (rL rI) x5))] [(20,true),(20,true)] (qs (rq hC [oN (rL rI) x5] [17,18,19] [(19,vB (decide ((120:Int)<(x5.length:Int))))] [] [] (aT h (fun c3 h=> ?_) (fun c3 h=> ?_))))
   ·obtain rfl:=so h
    exact rq hC [.z (.nat 21)] [2,3,20] [(2,ms 21 1 1 (rL rI) []),(3,vB false)] [(21,some (ar 45 1 1 (rL rI) []))] [(21,true)] (qw (lk hC [.ren 2 21 0] [2] [(2,ms 0 1 1 (rL rI) [])] [(0,some (ar 45 1 1 (rL rI) [])),(21,none)] [(0,true)]) (qr eW))
   ·obtain rfl:=so h
    exact qk (rq hC [] [2,3,21] [(2,ms 20 2 1 (rL rI) x5),(3,vB true)] [] [] (qw (lk hC [.ren 2 20 0] [2] [(2,ms 0 1 1 (rL rI) x5)] [(0,some (ar 45 1 1 (rL rI) x5)),(20,none)] [(0,true)]) (qr eW)))
theorem rZ{a}{depth}{r}(h:lR n a depth=some r):PQ G 243 [V.agg (cB a),vI depth] (vB r):=by
 unfold lR at h
 refine pq aO Tryz.func243 rfl fun w X hC=> ?_
 refine rq hC [.z (.b (true))] [2,4] [(2,V.tp (dO a))] [] [] (qs (rq hC [] [5] [(5,vI 0)] [] [] (qb (jP h (fun x_=>aY [(1,vI depth),(2,V.tp (dO a)),(5,vI x_)] [] []) lS ?_))))
 rintro again2 x1 h
 refine qs (rq hC [oN aA a.subs] (fr 6 5) [(10,vB (decide (x1<(a.subs.length:Int))))] [] [] (aT h (fun c1 h=> ?_) (fun c1 h=> ?_)))
 ·refine qk (qs (qb (vj h (fun x_=>aY [(1,vI depth),(2,V.tp (dO a)),(5,vI x1),(29,vB x_)] [] []) (fun j3 h=> ?_) (fun x7 h=> ?_))))
  ·
   obtain⟨x4,hx4,x5,hx5,h⟩:=cP h
   refine aR h (fun c2 h=> ?_) (fun c2 h=> ?_)
   ·obtain⟨x6,hx6,h⟩:=bd h
    exact rk hC ([oR aA hx4,oV (d7 G hx5)]++rF 4 c2++[oR aA hx4,oF c2,oF c2,oV (t2 G hx6)]++rF 3 c2) (fr 13 17) [(29,vB (decide (depth<x6)))] [] [] (lE h)
   ·exact rk hC ([oR aA hx4,oV (d7 G hx5)]++rT 9 c2) (fr 13 17) [(29,vB true)] [] [] (lE h)
  ·refine aT h (fun c3 h=> ?_) (fun c3 h=> ?_)
   ·obtain rfl:=so h
    exact rq hC [] [4] [(4,vB false)] [] [] (qr eR)
   ·exact qk (rk hC [] [5,11,12] [(5,vI (wr (x1+1)))] [] [] (lE h))
 ·refine cT (vj h (fun x_=>aY [(4,vB x_)] [] []) (fun j8 h=> ?_) (fun x9 h=> ?_))
  ·
   refine aR h (fun c4 h=> ?_) (fun c4 h=> ?_)
   ·exact rk hC (rF 4 c4++sF 14) [4,30,31,32,33,34,35,36,37,38,39,40,41,42,43,44,45,46,47,48,49,50,51,52,53,54,55] [(4,vB false)] [] [] (lE h)
   ·refine aR h (fun c5 h=> ?_) (fun c5 h=> ?_)
    ·exact rk hC (rT 4 c4++rF 4 c5++sF 10) [4,30,31,32,33,34,35,36,37,38,39,40,41,42,43,44,45,46,47,48,49,50,51,52,53,54,55] [(4,vB false)] [] [] (lE h)
    ·refine aR h (fun c6 h=> ?_) (fun c6 h=> ?_)
     ·exact rk hC (rT 4 c4++rT 4 c5++rF 5 c6++sF 5) [4,30,31,32,33,34,35,36,37,38,39,40,41,42,43,44,45,46,47,48,49,50,51,52,53,54,55] [(4,vB false)] [] [] (lE h)
     ·refine aR h (fun c7 h=> ?_) (fun c7 h=> ?_)
      ·exact rk hC (rT 4 c4++rT 4 c5++rT 3 c6++[oN aA a.subs,oT c6,oT c6]++rF 5 c7) [4,30,31,32,33,34,35,36,37,38,39,40,41,42,43,44,45,46,47,48,49,50,51,52,53,54,55] [(4,vB false)] [] [] (lE h)
      ·exact rk hC (rT 4 c4++rT 4 c5++rT 3 c6++[oN aA a.subs,oT c6,oT c6]++rT 3 c7++[oN aA a.subs,oT c7,oT c7]) [4,30,31,32,33,34,35,36,37,38,39,40,41,42,43,44,45,46,47,48,49,50,51,52,53,54,55] [(4,vB (decide ((a.subs.length:Int)≤2)))] [] [] (lE h)
  ·obtain rfl:=so h
   exact qr eR
theorem O4{kind}{r}(h:tI n kind=some r):PQ G 278 [vI kind] (vI r):=by
 unfold tI at h
 refine pq aO Tryz.func278 rfl fun w X hC=> ?_
 refine rq hC [] [2] [] [] [] (qs (rq hC [] [3] [(3,vI kind)] [] [] (qb (vj h (fun x_=>aY [(3,vI kind),(4,vB x_)] [] []) (fun j1 h=> ?_) (fun x2 h=> ?_)))))
 ·
  refine rq hC [] [4,5] [(4,vB (decide (kind=1)))] [] [] (aT h (fun c1 h=> ?_) (fun c1 h=> ?_))
  ·exact qk (lE h)
  ·refine rq hC [] [4,6] [(4,vB (decide (kind=2)))] [] [] (aT h (fun c2 h=> ?_) (fun c2 h=> ?_))
   ·exact qk (lE h)
   ·exact rk hC [] [4,7] [(4,vB (decide (kind=3)))] [] [] (lE h)
 ·refine aT h (fun c3 h=> ?_) (fun c3 h=> ?_)
  ·obtain rfl:=so h
   exact rq hC [] [2] [(2,vI 0)] [] [] (qr eR)
  ·refine vj h (fun x_=>aY [(8,vB x_)] [] []) (fun j3 h=> ?_) (fun x4 h=> ?_)
   ·
    refine rq hC [] [8,9] [(8,vB (decide (kind=4)))] [] [] (aT h (fun c4 h=> ?_) (fun c4 h=> ?_))
    ·exact qk (lE h)
    ·refine rq hC [] [8,10] [(8,vB (decide (kind=5)))] [] [] (aT h (fun c5 h=> ?_) (fun c5 h=> ?_))
     ·exact qk (lE h)
     ·exact rk hC [] [8,11] [(8,vB (decide (kind=6)))] [] [] (lE h)
   ·refine aT h (fun c6 h=> ?_) (fun c6 h=> ?_)
    ·obtain rfl:=so h
     exact rq hC [] [2] [(2,vI 2)] [] [] (qr eR)
    ·obtain rfl:=so h
     exact qk (rq hC [] [2] [(2,vI (-1))] [] [] (qr eR))
theorem mR{a}{r}(h:lQ n a=some r):PQ G 301 [V.agg (cB a)] (vB r):=by
 unfold lQ at h
 refine pq aO Tryz.func301 rfl fun w X hC=> ?_
 refine rq hC [.z (.b (true))] [1,2] [(1,V.tp (dO a))] [] [] (vj h (fun x_=>aY [(2,vB x_)] [] []) (fun j1 h=> ?_) (fun x2 h=> ?_))
 ·
  refine aR h (fun c1 h=> ?_) (fun c1 h=> ?_)
  ·exact rk hC (rF 5 c1) (fr 2 10) [(2,vB false)] [] [] (lE h)
  ·exact rk hC (rT 3 c1++[oN aA a.subs,oT c1,oT c1]) (fr 2 10) [(2,vB (decide ((a.subs.length:Int)=0)))] [] [] (lE h)
 ·obtain rfl:=so h
  exact qr eR
end Go.Lift
