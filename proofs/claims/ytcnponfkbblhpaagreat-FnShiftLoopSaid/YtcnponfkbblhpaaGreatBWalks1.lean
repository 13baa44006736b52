/- The walks: the code computes what the plain functions say. -/
import Derived.Test.YtcnponfkbblhpaaGreatBModels
import Derived.Test.YtcnponfkbblhpaaGreatBWalks0
set_option maxRecDepth 10000
set_option linter.unusedVariables false
namespace Go.Lift
open Go Go.Proofs
variable (G:GS) {n:Nat}
theorem D4{p}{r}(h:eC n p=some r):VQ G 83 [] [V.agg (bH p)] (V.agg [ms 0 1 2 aJ r.arrays,ms 1 1 2 aD r.parts]) [ar 76 1 2 aJ r.arrays,ar 60 1 2 aD r.parts]:=by
 unfold eC at h
 refine vq aN Tryz.func83 rfl fun w X β0 hC hg=> ?_
 refine rq hC [.z (.b (true)),.z (.nat 20)] [1,2] [(1,V.tp (bL p)),(2,V.ref 20 0)] [(20,sc [V.t T.nilS,V.t T.nilS])] [(20,true)] (rq hC [.z (.nat 21)] [3] [(3,V.ref 21 0)] [(21,sc [V.t T.nilS,V.t T.nilS])] [(21,true)] (qs (rq hC [oN aJ p.arrays] (fr 8 4) [(9,vM aJ p.arrays),(10,vI (p.arrays.length:Int)),(11,vI 0)] [] [] (qb (qw (lk hC [.growc 21 0 22 76] [] [] [(22,some (ar 76 1 2 aJ [])),(21,sc [ms 22 1 2 aJ [],V.t T.nilS])] [(22,true)]) ?_)))))
 refine bC (γ:=Nat) h (fun x_ g_=>aX [(1,V.tp (bL p)),(2,V.ref 20 0),(3,V.ref 21 0),(9,vM aJ p.arrays),(10,vI (p.arrays.length:Int)),(11,vI x_.2)] [(20,E.cells [V.t T.nilS,V.t T.nilS]),(21,E.cells [ms 22 g_ 2 aJ x_.1,V.t T.nilS]),(22,ar 76 g_ 2 aJ x_.1)] [20,21,22]) 1 (lS) ?_
 rintro again4 ⟨x1,x2⟩ g3 h
 refine rq hC [] [12] [(12,vB (decide (x2<(p.arrays.length:Int))))] [] [] (qs (aS h (fun c1 h=> ?_) (fun c1 h=> ?_)))
 ·refine qk (qs (qb ?_))
  obtain⟨x5,hx5,h⟩:=bd h
  refine rq hC [oR aJ hx5,.z (.nat 23)] [5,13,14] [(5,V.ref 23 0)] [(23,sc [vS x5.name,vM rI x5.dims])] [(23,true)] ?_
  obtain⟨x6,hx6,x7,hx7,h⟩:=cP h
  exact dk hC bF [oC [] [24] (G.clone x5.dims hx6),.z (.at 5),.z (.fz 24 [21] []),.z (.int 0),oA (aP aJ hx7),oQ (bT (r:=aJ) 2 gP x1),oQ (bT (r:=aJ) 2 gP [(⟨x5.name,x6⟩:Arr)])] (fr 15 11) [] [(24,none),(22,some (ar 76 (g3+1) 2 aJ x7)),(21,sc [ms 22 (g3+1) 2 aJ x7,V.t T.nilS])] [(24,true)] (rk hC [] [11,26] [(11,vI (wr (x2+1)))] [] [] ⟨(x7,wr (x2+1)),(g3+1),h,lS⟩)
 ·refine cQ (qs (rq hC [oN aD p.parts] (fr 27 4) [(28,vM aD p.parts),(29,vI (p.parts.length:Int)),(30,vI 0)] [] [] (qb (qw (lk hC [.growc 21 1 23 60] [] [] [(23,some (ar 60 1 2 aD [])),(21,sc [ms 22 g3 2 aJ x1,ms 23 1 2 aD []])] [(23,true)]) (bC (γ:=Nat) h (fun x_ g_=>aX [(2,V.ref 20 0),(3,V.ref 21 0),(28,vM aD p.parts),(29,vI (p.parts.length:Int)),(30,vI x_.2)] [(20,E.cells [V.t T.nilS,V.t T.nilS]),(21,E.cells [ms 22 g3 2 aJ x1,ms 23 g_ 2 aD x_.1]),(22,ar 76 g3 2 aJ x1),(23,ar 60 g_ 2 aD x_.1)] [20,21,22,23]) 1 (lS) ?_)))))
  rintro again11 ⟨x8,x9⟩ g10 h
  refine rq hC [] [31] [(31,vB (decide (x9<(p.parts.length:Int))))] [] [] (qs (aS h (fun c2 h=> ?_) (fun c2 h=> ?_)))
  ·refine qk (qs (qb ?_))
   obtain⟨x12,hx12,h⟩:=bd h
   refine rq hC [oR aD hx12,.z (.nat 24)] [7,32,33] [(7,V.ref 24 0)] [(24,some (E.cells (lD x12)))] [(24,true)] ?_
   obtain⟨x13,hx13,x14,hx14,h⟩:=cP h
   exact dk hC bF [oC [] [25,26] (aB1 G hx13),.z (.at 4),.z (.fz 25 [37] []),.z (.at 4),.z (.fz 26 [37] []),.z (.int 0),oA (aP aD hx14),oQ (bT (r:=aD) 2 b7 x8),oQ (bT (r:=aD) 2 b7 [x13])] (fr 34 7) [] [(25,none),(26,none),(23,some (ar 60 (g10+1) 2 aD x14)),(21,sc [ms 22 g3 2 aJ x1,ms 23 (g10+1) 2 aD x14])] [(25,true),(26,true)] (rk hC [] [30,41] [(30,vI (wr (x9+1)))] [] [] ⟨(x14,wr (x9+1)),(g10+1),h,lS⟩)
  ·obtain rfl:=so h
   exact cQ (rq hC [] [42] [] [(20,sc [ms 22 g3 2 aJ x1,ms 23 g10 2 aD x8])] [] (qw (lk hC [.rn 22 0 [] [20,21]] [] [] [(20,sc [ms 0 1 2 aJ x1,ms 23 g10 2 aD x8]),(21,sc [ms 0 1 2 aJ x1,ms 23 g10 2 aD x8]),(22,none),(0,some (ar 76 1 2 aJ x1))] [(0,true)]) (qw (lk hC [.rn 23 1 [] [20,21]] [] [] [(20,sc [ms 0 1 2 aJ x1,ms 1 1 2 aD x8]),(21,sc [ms 0 1 2 aJ x1,ms 1 1 2 aD x8]),(23,none),(1,some (ar 60 1 2 aD x8))] [(1,true)]) (qr eW))))
def eV:List Nd:=[⟨60,2,[(0,1),(1,2)]⟩,⟨56,2,[(0,3),(1,3)]⟩,⟨86,9,[]⟩,⟨63,2,[]⟩,⟨54,1,[(0,3)]⟩]
theorem S4{nest}{r}(h:lV n nest=some r):VQ G 160 [] [vM aC nest] (ms 0 1 2 aC r) [E.tree eV 1 1 (List.map aC r) []]:=by
 unfold lV at h
 refine vq aN Tryz.func160 rfl fun w X β0 hC hg=> ?_
 refine rq hC [] [2] [] [] [] (rq hC [] [3] [(3,V.t T.nilS)] [] [] (qs (rq hC [oN aC nest] [6,7,8] [(6,vM aC nest),(7,vI (nest.length:Int)),(8,vI 0)] [] [] (qb (qw (lk hC [.grow 3 20 56,.tre 20 eV 1] [3] [(3,ms 20 1 2 aC [])] [(20,some (E.tree eV 1 1 (List.map aC []) []))] [(20,true)]) ?_)))))
 refine bC (γ:=Nat) h (fun x_ g_=>aX [(3,ms 20 g_ 2 aC x_.1),(6,vM aC nest),(7,vI (nest.length:Int)),(8,vI x_.2)] [(20,E.tree eV 1 g_ (List.map aC x_.1) [])] [20]) 1 (lS) ?_
 rintro again4 ⟨x1,x2⟩ g3 h
 refine rq hC [] [9] [(9,vB (decide (x2<(nest.length:Int))))] [] [] (qs (aS h (fun c1 h=> ?_) (fun c1 h=> ?_)))
 ·refine qk (qs (qb ?_))
  obtain⟨x5,hx5,h⟩:=bd h
  refine rq hC [oR aC hx5,.z (.nat 21)] [5,10,11] [(5,V.ref 21 0)] [(21,some (E.cells (jD x5)))] [(21,true)] ?_
  obtain⟨x6,hx6,x7,hx7,x8,hx8,h⟩:=kG h
  exact dk hC bF [oC [] [22] (lA G hx6),oC [] [23] (lA G hx7),.z (.lt 24 eV 1),.z (.rows (List.map aC (x1++[(⟨[],[]⟩:Loop)]))),oQ (Eq.refl (ndOf eV 1)),oQ (aHd aC (⟨[],[]⟩:Loop) hx8),oQ (bT (r:=aC) 2 b8 x1),oQ (bT (r:=aC) 2 b8 [(⟨[],[]⟩:Loop)])] [3,12,13,14,15,16,17,18,19,20,21] [(3,ms 20 (g3+1) 2 aC (x1++[(⟨[],[]⟩:Loop)]))] [(22,some (ar 63 1 2 aA x6)),(23,some (ar 63 1 2 aA x7)),(24,some (E.tree eV 1 1 (List.map aC [(⟨[],[]⟩:Loop)]) [(0,0,ms 22 1 2 aA x6),(0,1,ms 23 1 2 aA x7)])),(20,some (E.tree eV 1 (g3+1) (List.map aC (x1++[(⟨[],[]⟩:Loop)])) (o0 (List.map aC x1).length [(0,0,ms 22 1 2 aA x6),(0,1,ms 23 1 2 aA x7)])))] [(22,true),(23,true),(24,true)] (qw (zD hC [.tre 22 eV 3,.unf 20 22 (aC (⟨[],[]⟩:Loop)) (List.map aC (x1++[(⟨x6,[]⟩:Loop)])),.tre 23 eV 3,.unf 20 23 (aC (⟨x6,[]⟩:Loop)) (List.map aC x8),.len 3 (List.map aC x8).length] [3] [(3,ms 20 (g3+1) 2 aC x8)] [(22,none),(23,none),(20,some (E.tree eV 1 (g3+1) (List.map aC x8) []))] [] (a9 (Eq.refl (List.map aA x6).length) (Eq.refl eV) (Z8 aC x1 (⟨[],[]⟩:Loop)) (aFV aC x1 (ph:=(⟨[],[]⟩:Loop)) (y:=(⟨x6,[]⟩:Loop)) rfl) (Eq.refl (List.map aA x7).length) (Eq.refl eV) (Z8 aC x1 (⟨x6,[]⟩:Loop)) (aBc aC (ph:=(⟨x6,[]⟩:Loop)) hx8 rfl) (aGg aC (⟨[],[]⟩:Loop) hx8)) (by kernel_rfl)) (rk hC [] [8,22] [(8,vI (wr (x2+1)))] [] [] ⟨(x8,wr (x2+1)),(g3+1),h,lS⟩))
 ·obtain rfl:=so h
  exact cQ (rq hC [] [2,23] [(2,ms 20 g3 2 aC x1)] [] [] (qw (lk hC [.rn 20 0 [2,3] []] [2,3] [(2,ms 0 1 2 aC x1),(3,ms 0 1 2 aC x1)] [(20,none),(0,some (E.tree eV 1 1 (List.map aC x1) []))] [(0,true)]) (qr eW)))
theorem S3{p}{r}(h:kA n p=some r):VQ G 101 [] [V.agg (lD p)] (V.agg [ms 0 1 2 aC r.nest,ms 1 1 9 aG r.body]) [E.tree eV 1 1 (List.map aC r.nest) [],ar 86 1 9 aG r.body]:=by
 unfold kA at h
 refine vq aN Tryz.func101 rfl fun w X β0 hC hg=> ?_
 refine rq hC [.z (.b (true)),.z (.nat 20)] [1,2] [(1,V.tp (jW p)),(2,V.ref 20 0)] [(20,sc [V.t T.nilS,V.t T.nilS])] [(20,true)] ?_
 obtain⟨x1,hx1,h⟩:=bd h
 refine rq hC [oC [] [21] (S4 G hx1),.z (.nat 22)] [3,6,7,8,9] [(3,V.ref 22 0)] [(21,some (E.tree eV 1 1 (List.map aC x1) [])),(22,sc [ms 21 1 2 aC x1,V.t T.nilS])] [(21,true),(22,true)] (qs (rq hC [oN aG p.body] (fr 10 4) [(11,vM aG p.body),(12,vI (p.body.length:Int)),(13,vI 0)] [] [] (qb (qw (lk hC [.growc 22 1 23 86] [] [] [(23,some (ar 86 1 9 aG [])),(22,sc [ms 21 1 2 aC x1,ms 23 1 9 aG []])] [(23,true)]) (bC (γ:=Nat) h (fun x_ g_=>aX [(2,V.ref 20 0),(3,V.ref 22 0),(11,vM aG p.body),(12,vI (p.body.length:Int)),(13,vI x_.2)] [(20,E.cells [V.t T.nilS,V.t T.nilS]),(21,E.tree eV 1 1 (List.map aC x1) []),(22,E.cells [ms 21 1 2 aC x1,ms 23 g_ 9 aG x_.1]),(23,ar 86 g_ 9 aG x_.1)] [20,21,22,23]) 1 (lS) ?_)))))
 rintro again5 ⟨x2,x3⟩ g4 h
 refine rq hC [] [14] [(14,vB (decide (x3<(p.body.length:Int))))] [] [] (qs (aS h (fun c1 h=> ?_) (fun c1 h=> ?_)))
 ·refine qk (qs (qb ?_))
  obtain⟨x6,hx6,h⟩:=bd h
  refine rq hC [oR aG hx6,.z (.nat 24)] [5,15,16] [(5,V.ref 24 0)] [(24,some (E.cells (cO x6)))] [(24,true)] ?_
  obtain⟨x7,hx7,x8,hx8,h⟩:=cP h
  exact dk hC bF [oV (B7 G hx7),.z (.int 0),oA (aP aG hx8),oQ (bT (r:=aG) 9 dW x2),oQ (bT (r:=aG) 9 dW [x7])] (fr 17 7) [] [(23,some (ar 86 (g4+1) 9 aG x8)),(22,sc [ms 21 1 2 aC x1,ms 23 (g4+1) 9 aG x8])] [] (rk hC [] [13,24] [(13,vI (wr (x3+1)))] [] [] ⟨(x8,wr (x3+1)),(g4+1),h,lS⟩)
 ·obtain rfl:=so h
  exact cQ (rq hC [] [25] [] [(20,sc [ms 21 1 2 aC x1,ms 23 g4 9 aG x2])] [] (qw (lk hC [.rn 21 0 [] [20,22]] [] [] [(20,sc [ms 0 1 2 aC x1,ms 23 g4 9 aG x2]),(22,sc [ms 0 1 2 aC x1,ms 23 g4 9 aG x2]),(21,none),(0,some (E.tree eV 1 1 (List.map aC x1) []))] [(0,true)]) (qw (lk hC [.rn 23 1 [] [20,22]] [] [] [(20,sc [ms 0 1 2 aC x1,ms 1 1 9 aG x2]),(22,sc [ms 0 1 2 aC x1,ms 1 1 9 aG x2]),(23,none),(1,some (ar 86 1 9 aG x2))] [(1,true)]) (qr eW))))
theorem yG{p}{r}(h:eC n p=some r):VQ G 83 [] [V.agg (bH p)] (V.agg [ms 0 1 2 aJ r.arrays,ms 1 1 2 aD r.parts]) [ar 76 1 2 aJ r.arrays,E.tree eV 0 1 (List.map aD r.parts) []]:=by
 unfold eC at h
 refine vq aN Tryz.func83 rfl fun w X β0 hC hg=> ?_
 refine rq hC [.z (.b (true)),.z (.nat 20)] [1,2] [(1,V.tp (bL p)),(2,V.ref 20 0)] [(20,sc [V.t T.nilS,V.t T.nilS])] [(20,true)] (rq hC [.z (.nat 21)] [3] [(3,V.ref 21 0)] [(21,sc [V.t T.nilS,V.t T.nilS])] [(21,true)] (qs (rq hC [oN aJ p.arrays] (fr 8 4) [(9,vM aJ p.arrays),(10,vI (p.arrays.length:Int)),(11,vI 0)] [] [] (qb (qw (lk hC [.growc 21 0 22 76] [] [] [(22,some (ar 76 1 2 aJ [])),(21,sc [ms 22 1 2 aJ [],V.t T.nilS])] [(22,true)]) ?_)))))
 refine bC (γ:=Nat) h (fun x_ g_=>aX [(1,V.tp (bL p)),(2,V.ref 20 0),(3,V.ref 21 0),(9,vM aJ p.arrays),(10,vI (p.arrays.length:Int)),(11,vI x_.2)] [(20,E.cells [V.t T.nilS,V.t T.nilS]),(21,E.cells [ms 22 g_ 2 aJ x_.1,V.t T.nilS]),(22,ar 76 g_ 2 aJ x_.1)] [20,21,22]) 1 (lS) ?_
 rintro again4 ⟨x1,x2⟩ g3 h
 refine rq hC [] [12] [(12,vB (decide (x2<(p.arrays.length:Int))))] [] [] (qs (aS h (fun c1 h=> ?_) (fun c1 h=> ?_)))
 ·refine qk (qs (qb ?_))
  obtain⟨x5,hx5,h⟩:=bd h
  refine rq hC [oR aJ hx5,.z (.nat 23)] [5,13,14] [(5,V.ref 23 0)] [(23,sc [vS x5.name,vM rI x5.dims])] [(23,true)] ?_
  obtain⟨x6,hx6,x7,hx7,h⟩:=cP h
  exact dk hC bF [oC [] [24] (G.clone x5.dims hx6),.z (.at 5),.z (.fz 24 [21] []),.z (.int 0),oA (aP aJ hx7),oQ (bT (r:=aJ) 2 gP x1),oQ (bT (r:=aJ) 2 gP [(⟨x5.name,x6⟩:Arr)])] (fr 15 11) [] [(24,none),(22,some (ar 76 (g3+1) 2 aJ x7)),(21,sc [ms 22 (g3+1) 2 aJ x7,V.t T.nilS])] [(24,true)] (rk hC [] [11,26] [(11,vI (wr (x2+1)))] [] [] ⟨(x7,wr (x2+1)),(g3+1),h,lS⟩)
 ·refine cQ (qs (rq hC [oN aD p.parts] (fr 27 4) [(28,vM aD p.parts),(29,vI (p.parts.length:Int)),(30,vI 0)] [] [] (qb (qw (lk hC [.growc 21 1 23 60,.tre 23 eV 0] [] [] [(23,some (E.tree eV 0 1 (List.map aD []) [])),(21,sc [ms 22 g3 2 aJ x1,ms 23 1 2 aD []])] [(23,true)]) (bC (γ:=Nat) h (fun x_ g_=>aX [(2,V.ref 20 0),(3,V.ref 21 0),(28,vM aD p.parts),(29,vI (p.parts.length:Int)),(30,vI x_.2)] [(20,E.cells [V.t T.nilS,V.t T.nilS]),(21,E.cells [ms 22 g3 2 aJ x1,ms 23 g_ 2 aD x_.1]),(22,ar 76 g3 2 aJ x1),(23,E.tree eV 0 g_ (List.map aD x_.1) [])] [20,21,22,23]) 1 (lS) ?_)))))
  rintro again11 ⟨x8,x9⟩ g10 h
  refine rq hC [] [31] [(31,vB (decide (x9<(p.parts.length:Int))))] [] [] (qs (aS h (fun c2 h=> ?_) (fun c2 h=> ?_)))
  ·refine qk (qs (qb ?_))
   obtain⟨x12,hx12,h⟩:=bd h
   refine rq hC [oR aD hx12,.z (.nat 24)] [7,32,33] [(7,V.ref 24 0)] [(24,some (E.cells (lD x12)))] [(24,true)] ?_
   obtain⟨x13,hx13,x14,hx14,h⟩:=cP h
   exact dk hC bF [oC [] [25,26] (S3 G hx13),.z (.lt 27 eV 0),.z (.rows (List.map aD (x8++[(⟨[],[]⟩:Part)]))),oQ (Eq.refl (ndOf eV 0)),oQ (aHd aD (⟨[],[]⟩:Part) hx14),oQ (bT (r:=aD) 2 b7 x8),oQ (bT (r:=aD) 2 b7 [(⟨[],[]⟩:Part)])] (fr 34 7) [] [(25,some (E.tree eV 1 1 (List.map aC x13.nest) [])),(26,some (ar 86 1 9 aG x13.body)),(27,some (E.tree eV 0 1 (List.map aD [(⟨[],[]⟩:Part)]) [(0,0,ms 25 1 2 aC x13.nest),(0,1,ms 26 1 9 aG x13.body)])),(23,some (E.tree eV 0 (g10+1) (List.map aD (x8++[(⟨[],[]⟩:Part)])) (o0 (List.map aD x8).length [(0,0,ms 25 1 2 aC x13.nest),(0,1,ms 26 1 9 aG x13.body)]))),(21,sc [ms 22 g3 2 aJ x1,ms 23 (g10+1) 2 aD (x8++[(⟨[],[]⟩:Part)])])] [(25,true),(26,true),(27,true)] (qw (zD hC [.unf 23 25 (aD (⟨[],[]⟩:Part)) (List.map aD (x8++[(⟨x13.nest,[]⟩:Part)])),.tre 26 eV 2,.unf 23 26 (aD (⟨x13.nest,[]⟩:Part)) (List.map aD x14),.lenc 21 1 (List.map aD x14).length] [] [] [(25,none),(26,none),(23,some (E.tree eV 0 (g10+1) (List.map aD x14) [])),(21,sc [ms 22 g3 2 aJ x1,ms 23 (g10+1) 2 aD x14])] [] (a9 (Eq.refl (List.map aC x13.nest).length) (Eq.refl eV) (Z8 aD x8 (⟨[],[]⟩:Part)) (aFV aD x8 (ph:=(⟨[],[]⟩:Part)) (y:=(⟨x13.nest,[]⟩:Part)) rfl) (Eq.refl (List.map aG x13.body).length) (Eq.refl eV) (Z8 aD x8 (⟨x13.nest,[]⟩:Part)) (aBc aD (ph:=(⟨x13.nest,[]⟩:Part)) hx14 rfl) (aGg aD (⟨[],[]⟩:Part) hx14)) (by kernel_rfl)) (rk hC [] [30,41] [(30,vI (wr (x9+1)))] [] [] ⟨(x14,wr (x9+1)),(g10+1),h,lS⟩))
  ·obtain rfl:=so h
   exact cQ (rq hC [] [42] [] [(20,sc [ms 22 g3 2 aJ x1,ms 23 g10 2 aD x8])] [] (qw (lk hC [.rn 22 0 [] [20,21]] [] [] [(20,sc [ms 0 1 2 aJ x1,ms 23 g10 2 aD x8]),(21,sc [ms 0 1 2 aJ x1,ms 23 g10 2 aD x8]),(22,none),(0,some (ar 76 1 2 aJ x1))] [(0,true)]) (qw (lk hC [.rn 23 1 [] [20,21]] [] [] [(20,sc [ms 0 1 2 aJ x1,ms 1 1 2 aD x8]),(21,sc [ms 0 1 2 aJ x1,ms 1 1 2 aD x8]),(23,none),(1,some (E.tree eV 0 1 (List.map aD x8) []))] [(1,true)]) (qr eW))))
theorem cC{p}{part}{r}(h:eJ n p part=some r):PQ G 86 [V.agg (bH p),vI part] (vB r):=by
 unfold eJ at h
 refine pq aN Tryz.func86 rfl fun w X hC=> ?_
 refine rq hC [.z (.b (true))] [2,4] [(2,V.tp (bL p))] [] [] ?_
 obtain⟨x1,hx1,h⟩:=bd h
 obtain rfl:=so h
 exact rq hC [oN aD p.parts,oV (bD G hx1)] (fr 4 7) [(4,vB x1)] [] [] (qr eR)
theorem o9{p}{part}{loop}{r}(h:iY n p part loop=some r):PQ G 121 [V.agg (bH p),vI part,vI loop] (vB r):=by
 unfold iY at h
 refine pq aN Tryz.func121 rfl fun w X hC=> ?_
 refine rq hC [.z (.b (true))] [3,6] [(3,V.tp (bL p))] [] [] (vj h (fun x_=>aX [(6,vB x_)] [] []) (fun j1 h=> ?_) (fun x5 h=> ?_))
 ·
  obtain⟨x2,hx2,h⟩:=bd h
  refine aQ h (fun c1 h=> ?_) (fun c1 h=> ?_)
  ·exact rk hC ([oV (cC G hx2)]++rF 11 c1) (fr 6 16) [(6,vB false)] [] [] (lE h)
  ·obtain⟨x3,hx3,x4,hx4,h⟩:=cP h
   exact rk hC ([oV (cC G hx2)]++rT 5 c1++[oR aD hx3]++rT 3 c1++[oN aC x3.nest,oT c1,oT c1,oV (bD G hx4),oT c1]) (fr 6 16) [(6,vB x4)] [] [] (lE h)
 ·obtain rfl:=so h
  exact qr eR
theorem aB5(G:GS)(n:Nat)(p:Prog)(part:Int)(loop:Int){r:Prog×Bool}(h:nB n p part loop=some r)(hr:r.2=true):VQ G 48 [] [V.agg (bH p),vI part,vI loop] (V.tup [V.agg [ms 0 1 2 aJ r.1.arrays,ms 1 1 2 aD r.1.parts],V.eref 1 1 2 (0+Int.toNat part) 0,vB true]) [ar 76 1 2 aJ r.1.arrays,E.tree eV 0 1 (List.map aD r.1.parts) []]:=by
 unfold nB at h
 refine vq aN Tryz.func48 rfl fun w X β0 hC hg=> ?_
 refine rq hC [.z (.b (true)),.z (.nat 20)] [3,6,7,8] [(3,V.tp (bL p)),(6,V.ref 20 0)] [(20,sc [V.t T.nilS,V.t T.nilS])] [(20,true)] (qs (vj h (fun x_=>aX [(1,vI part),(3,V.tp (bL p)),(6,V.ref 20 0),(29,vB x_)] [(20,E.cells [V.t T.nilS,V.t T.nilS])] [20]) (fun j1 h=> ?_) (fun x5 h=> ?_)))
 ·
  obtain⟨x2,hx2,h⟩:=bd h
  refine aQ h (fun c1 h=> ?_) (fun c1 h=> ?_)
  ·obtain⟨x3,hx3,h⟩:=bd h
   refine aQ h (fun c2 h=> ?_) (fun c2 h=> ?_)
   ·refine aQ h (fun c3 h=> ?_) (fun c3 h=> ?_)
    ·exact rk hC ([oV (bI G hx2)]++rF 3 c1++[oV (cC G hx3),oF c1,oF c1]++rF 3 c2++rF 5 c3++[oF c2,oF c3,oF c2]) (fr 10 20) [(29,vB false)] [] [] (lE h)
    ·obtain⟨x4,hx4,h⟩:=bd h
     exact rk hC ([oV (bI G hx2)]++rF 3 c1++[oV (cC G hx3),oF c1,oF c1]++rF 3 c2++rT 4 c3++[oV (o9 G hx4),oT c3,oF c2,oT c3,oF c2]) (fr 10 20) [(29,vB (!x4))] [] [] (lE h)
   ·exact rk hC ([oV (bI G hx2)]++rF 3 c1++[oV (cC G hx3),oF c1,oF c1]++rT 5 c2) (fr 10 20) [(29,vB true)] [] [] (lE h)
  ·exact rk hC ([oV (bI G hx2)]++rT 5 c1++sT 5) (fr 10 20) [(29,vB true)] [] [] (lE h)
 ·refine aS h (fun c4 h=> ?_) (fun c4 h=> ?_)
  ·obtain rfl:=so h
   cases hr
  ·refine qk ?_
   obtain⟨x6,hx6,x7,hx7,h⟩:=cP h
   obtain rfl:=so h
   exact rq hC [oC [] [21,22] (yG G hx6),.z (.nat 23)] [9,31,32] [(9,V.ref 23 0)] [(21,some (ar 76 1 2 aJ x6.arrays)),(22,some (E.tree eV 0 1 (List.map aD x6.parts) [])),(23,sc [ms 21 1 2 aJ x6.arrays,ms 22 1 2 aD x6.parts])] [(21,true),(22,true),(23,true)] (qw (lk hC [.rn 21 0 [] [23]] [] [] [(23,sc [ms 0 1 2 aJ x6.arrays,ms 22 1 2 aD x6.parts]),(21,none),(0,some (ar 76 1 2 aJ x6.arrays))] [(0,true)]) (qw (lk hC [.rn 22 1 [] [23]] [] [] [(23,sc [ms 0 1 2 aJ x6.arrays,ms 1 1 2 aD x6.parts]),(22,none),(1,some (E.tree eV 0 1 (List.map aD x6.parts) []))] [(1,true)]) (qs (dk hC bF [oQ (kF aD hx7)] [7,8,33,34,35,36,37] [(7,V.eref 1 1 2 (0+Int.toNat part) 0),(8,vB true)] [(20,sc [ms 0 1 2 aJ x6.arrays,ms 1 1 2 aD x6.parts])] [] (qr eW)))))
theorem aB6(G:GS)(n:Nat)(p:Prog)(part:Int)(loop:Int){r:Prog×Bool}(h:nB n p part loop=some r)(hr:r.2=false):PQ G 48 [V.agg (bH p),vI part,vI loop] (V.tup [V.agg [vM aJ [],vM aD []],V.t T.nilP,vB false]):=by
 unfold nB at h
 refine pq aN Tryz.func48 rfl fun w X hC=> ?_
 refine rq hC [.z (.b (true)),.z (.nat 20)] [3,6,7,8] [(3,V.tp (bL p)),(6,V.ref 20 0)] [(20,sc [V.t T.nilS,V.t T.nilS])] [(20,true)] (qs (vj h (fun x_=>aX [(1,vI part),(3,V.tp (bL p)),(6,V.ref 20 0),(29,vB x_)] [(20,E.cells [V.t T.nilS,V.t T.nilS])] [20]) (fun j1 h=> ?_) (fun x5 h=> ?_)))
 ·
  obtain⟨x2,hx2,h⟩:=bd h
  refine aQ h (fun c1 h=> ?_) (fun c1 h=> ?_)
  ·obtain⟨x3,hx3,h⟩:=bd h
   refine aQ h (fun c2 h=> ?_) (fun c2 h=> ?_)
   ·refine aQ h (fun c3 h=> ?_) (fun c3 h=> ?_)
    ·exact rk hC ([oV (bI G hx2)]++rF 3 c1++[oV (cC G hx3),oF c1,oF c1]++rF 3 c2++rF 5 c3++[oF c2,oF c3,oF c2]) (fr 10 20) [(29,vB false)] [] [] (lE h)
    ·obtain⟨x4,hx4,h⟩:=bd h
     exact rk hC ([oV (bI G hx2)]++rF 3 c1++[oV (cC G hx3),oF c1,oF c1]++rF 3 c2++rT 4 c3++[oV (o9 G hx4),oT c3,oF c2,oT c3,oF c2]) (fr 10 20) [(29,vB (!x4))] [] [] (lE h)
   ·exact rk hC ([oV (bI G hx2)]++rF 3 c1++[oV (cC G hx3),oF c1,oF c1]++rT 5 c2) (fr 10 20) [(29,vB true)] [] [] (lE h)
  ·exact rk hC ([oV (bI G hx2)]++rT 5 c1++sT 5) (fr 10 20) [(29,vB true)] [] [] (lE h)
 ·refine aS h (fun c4 h=> ?_) (fun c4 h=> ?_)
  ·obtain rfl:=so h
   exact rq hC [] [7,8,30] [(7,V.t T.nilP),(8,vB false)] [(20,sc [V.t T.nilS,V.t T.nilS])] [] (qr eR)
  ·obtain⟨x6,hx6,x7,hx7,h⟩:=cP h
   obtain rfl:=so h
   cases hr
theorem aDB{n_a0}{r}(h:tV n n_a0=some r):PQ G 49 [vI n_a0] (vB r):=by
 unfold tV at h
 refine pq aN Tryz.func49 rfl fun w X hC=> ?_
 refine rq hC [] [2] [] [] [] ?_
 obtain⟨x1,hx1,h⟩:=bd h
 obtain rfl:=so h
 exact rq hC [oV (bD G hx1)] [2,3,4] [(2,vB x1)] [] [] (qr eR)
theorem uB(G:GS)(n:Nat)(rows:List Loop)(i:Int)(l:Loop)(hl:ix rows i=some l)(g:Nat)(fF:FuncId)(fC0:List T)(f:Affine→Option Affine)(hf: ∀(q0:Affine) r,f q0=some r→PQ G fF [V.agg (aK q0),V.tp fC0] (V.agg (aK r))){l':Loop}{rows':List Loop}(h:eE n l f=some l')(hr:dC rows i l'=some rows'):
  VQ G 50 [E.tree eV 1 g (List.map aC rows) []] [V.eref 0 g 2 (0+Int.toNat i) 0,V.fn fF [V.tp fC0]] (V.tup []) [E.tree eV 1 g (List.map aC rows') []]:=by
 unfold eE at h
 refine vq aN Tryz.func50 rfl fun w X β0 hC hg=> ?_
 refine qs (dk hC bF [.z (.foc 0 21 (0+Int.toNat i) 0 (aC l)),.z (.foc 0 22 (0+Int.toNat i) 1 (aC l)),oX aC hl,oX aC hl,.z (.lt 23 eV 4),.z (.nat 2),oQ (vA aC hl),oQ (vA aC hl),oQ (Eq.refl 2)] (fr 8 11) [(16,V.msl 23 1 1 0 2),(17,vI 2),(18,vI 0)] [(0,some (E.tree eV 1 g (List.map aC rows) [((0+Int.toNat i),1,ms 22 1 2 aA l.hi),((0+Int.toNat i),0,ms 21 1 2 aA l.lo)])),(21,some (E.tree eV 3 1 (List.map aA l.lo) [])),(22,some (E.tree eV 3 1 (List.map aA l.hi) [])),(23,some (E.tree eV 4 1 (List.replicate 2 [T.sl []]) [(0,0,ms 21 1 2 aA l.lo),(1,0,ms 22 1 2 aA l.hi)]))] [(21,true),(22,true),(23,true)] (qw (lk hC [.shd 21,.shd 22] [] [] [(21,some (ar 63 1 2 aA l.lo)),(22,some (ar 63 1 2 aA l.hi))] []) (qb (jF h (fun x_=>aX [(1,V.fn fF [V.tp fC0]),(16,V.msl 23 1 1 0 2),(17,vI 2),(18,vI x_.2)] [(0,E.tree eV 1 g (List.map aC rows) [((0+Int.toNat i),1,ms 22 1 2 aA l.hi),((0+Int.toNat i),0,ms 21 1 2 aA l.lo)]),(23,E.tree eV 4 1 (List.replicate 2 [T.sl []]) [(0,0,ms 21 1 2 aA l.lo),(1,0,ms 22 1 2 aA l.hi)]),(21,ar 63 1 2 aA x_.1.lo),(22,ar 63 1 2 aA x_.1.hi)] [0,21,22,23]) lS ?_))))
 rintro again1 ⟨x,q⟩ h
 obtain⟨s1,hs1,h⟩:=bd h
 obtain⟨s2,hs2,h⟩:=bd h
 refine rq hC [] [19] [(19,vB (decide (q<2)))] [] [] (qs (aS h (fun c1 h=> ?_) (fun c1 h=> ?_)))
 ·refine qk (qs (qb (qs (aQ h (fun c2 h=> ?_) (fun c2 h=> ?_)))))
  ·refine aQ h (fun c3 h=> ?_) (fun c3 h=> ?_)
   ·exact nof h
   ·have e:=of_decide_eq_true c3
    subst e
    refine rk hC [.z (.int 1),.z (.row [T.sl []]),oQ (And.intro (by decide) (by decide):(0:Int)≤1∧(1:Int)<((2:Nat):Int)),oQ (Eq.refl (some [T.sl []]))] [5,20,21] [(5,ms 22 1 2 aA l.hi)] [] [] (qw (zD hC [.len 5 (List.map aA x.hi).length] [5] [(5,ms 22 1 2 aA x.hi)] [] [] (a1 (lN aA hs2)) (by kernel_rfl)) (rq hC [oN aA x.hi] [22,23,24] [(22,ms 22 1 2 aA x.hi),(23,vI (x.hi.length:Int)),(24,vI 0)] [] [] (qb (jF h (fun x_=>aX [(1,V.fn fF [V.tp fC0]),(16,V.msl 23 1 1 0 2),(17,vI 2),(18,vI 1),(5,ms 22 1 2 aA x_.1),(22,ms 22 1 2 aA x_.1),(23,vI (x.hi.length:Int)),(24,vI x_.2)] [(0,E.tree eV 1 g (List.map aC rows) [((0+Int.toNat i),1,ms 22 1 2 aA l.hi),((0+Int.toNat i),0,ms 21 1 2 aA l.lo)]),(23,E.tree eV 4 1 (List.replicate 2 [T.sl []]) [(0,0,ms 21 1 2 aA l.lo),(1,0,ms 22 1 2 aA l.hi)]),(21,ar 63 1 2 aA x.lo),(22,ar 63 1 2 aA x_.1)] [0,21,22,23]) lS ?_))))
    rintro again2 ⟨y,k⟩ h
    refine rq hC [] [25] [(25,vB (decide (k<(x.hi.length:Int))))] [] [] (qs (aS h (fun c4 h=> ?_) (fun c4 h=> ?_)))
    ·refine qk (qs (qb ?_))
     obtain⟨x3,hx3,h⟩:=bd h
     refine rq hC [oQ (kF aA hx3),oX aA hx3,.z (.nat 24)] [6,7,26,27,28] [(6,vI k),(7,V.ref 24 0)] [(24,some (E.cells (aK x3)))] [(24,true)] ?_
     obtain⟨x4,hx4,x5,hx5,h⟩:=cP h
     exact rk hC [oV (hf x3 _ hx4),oQ (kF aA hx3),oX aA hx3,.z (.rows (List.map aA x5)),.z (.len 5 (List.map aA x5).length),.z (.len 22 (List.map aA x5).length),oQ (str aA hx5),oQ (iQ aA hx5),oQ (iQ aA hx5)] [5,22,29,30,31,32,33,34] [(5,ms 22 1 2 aA x5),(22,ms 22 1 2 aA x5)] [(22,some (ar 63 1 2 aA x5))] [] (rk hC [] [24,35] [(24,vI (wr (k+1)))] [] [] (lE h))
    ·exact cQ (rk hC [] [18,36] [(18,vI (wr (1+1)))] [] [] (lE h))
  ·have e:=of_decide_eq_true c2
   subst e
   refine rk hC [.z (.int 0),.z (.row [T.sl []]),oQ (And.intro (by decide) (by decide):(0:Int)≤0∧(0:Int)<((2:Nat):Int)),oQ (Eq.refl (some [T.sl []]))] [5,20,21] [(5,ms 21 1 2 aA l.lo)] [] [] (qw (zD hC [.len 5 (List.map aA x.lo).length] [5] [(5,ms 21 1 2 aA x.lo)] [] [] (a1 (lN aA hs1)) (by kernel_rfl)) (rq hC [oN aA x.lo] [22,23,24] [(22,ms 21 1 2 aA x.lo),(23,vI (x.lo.length:Int)),(24,vI 0)] [] [] (qb (jF h (fun x_=>aX [(1,V.fn fF [V.tp fC0]),(16,V.msl 23 1 1 0 2),(17,vI 2),(18,vI 0),(5,ms 21 1 2 aA x_.1),(22,ms 21 1 2 aA x_.1),(23,vI (x.lo.length:Int)),(24,vI x_.2)] [(0,E.tree eV 1 g (List.map aC rows) [((0+Int.toNat i),1,ms 22 1 2 aA l.hi),((0+Int.toNat i),0,ms 21 1 2 aA l.lo)]),(23,E.tree eV 4 1 (List.replicate 2 [T.sl []]) [(0,0,ms 21 1 2 aA l.lo),(1,0,ms 22 1 2 aA l.hi)]),(21,ar 63 1 2 aA x_.1),(22,ar 63 1 2 aA x.hi)] [0,21,22,23]) lS ?_))))
   rintro again2 ⟨y,k⟩ h
   refine rq hC [] [25] [(25,vB (decide (k<(x.lo.length:Int))))] [] [] (qs (aS h (fun c4 h=> ?_) (fun c4 h=> ?_)))
   ·refine qk (qs (qb ?_))
    obtain⟨x3,hx3,h⟩:=bd h
    refine rq hC [oQ (kF aA hx3),oX aA hx3,.z (.nat 24)] [6,7,26,27,28] [(6,vI k),(7,V.ref 24 0)] [(24,some (E.cells (aK x3)))] [(24,true)] ?_
    obtain⟨x4,hx4,x5,hx5,h⟩:=cP h
    exact rk hC [oV (hf x3 _ hx4),oQ (kF aA hx3),oX aA hx3,.z (.rows (List.map aA x5)),.z (.len 5 (List.map aA x5).length),.z (.len 22 (List.map aA x5).length),oQ (str aA hx5),oQ (iQ aA hx5),oQ (iQ aA hx5)] [5,22,29,30,31,32,33,34] [(5,ms 21 1 2 aA x5),(22,ms 21 1 2 aA x5)] [(21,some (ar 63 1 2 aA x5))] [] (rk hC [] [24,35] [(24,vI (wr (k+1)))] [] [] (lE h))
   ·exact cQ (rk hC [] [18,36] [(18,vI (wr (0+1)))] [] [] (lE h))
 ·obtain rfl:=so h
  exact qw (zD hC [.tre 21 eV 3,.tre 22 eV 3,.unf 0 22 (aC l) (List.map aC (rows.set i.toNat (⟨l.lo,x.hi⟩:Loop))),.unf 0 21 (aC (⟨l.lo,x.hi⟩:Loop)) (List.map aC rows')] [] [] [(21,none),(22,none),(0,some (E.tree eV 1 g (List.map aC rows') []))] [] (a8 (lN aA hs2) (Eq.refl eV) (vA aC hl) (C3 aC (H1 hr (⟨l.lo,x.hi⟩:Loop)) rfl) (lN aA hs1) (Eq.refl eV) (vA aC (aCS hr (⟨l.lo,x.hi⟩:Loop))) (C3 aC (H0 hr (⟨l.lo,x.hi⟩:Loop)) rfl)) (by kernel_rfl)) (cQ eW)
theorem uA(G:GS)(n:Nat)(rows:List Loop)(i:Int)(l:Loop)(hl:ix rows i=some l)(g:Nat)(fF:FuncId)(fC0:List T)(fC1:List T)(f:Affine→Option Affine)(hf: ∀(q0:Affine) r,f q0=some r→PQ G fF [V.agg (aK q0),V.tp fC0,V.tp fC1] (V.agg (aK r))){l':Loop}{rows':List Loop}(h:eE n l f=some l')(hr:dC rows i l'=some rows'):
  VQ G 50 [E.tree eV 1 g (List.map aC rows) []] [V.eref 0 g 2 (0+Int.toNat i) 0,V.fn fF [V.tp fC0,V.tp fC1]] (V.tup []) [E.tree eV 1 g (List.map aC rows') []]:=by
 unfold eE at h
 refine vq aN Tryz.func50 rfl fun w X β0 hC hg=> ?_
 refine qs (dk hC bF [.z (.foc 0 21 (0+Int.toNat i) 0 (aC l)),.z (.foc 0 22 (0+Int.toNat i) 1 (aC l)),oX aC hl,oX aC hl,.z (.lt 23 eV 4),.z (.nat 2),oQ (vA aC hl),oQ (vA aC hl),oQ (Eq.refl 2)] (fr 8 11) [(16,V.msl 23 1 1 0 2),(17,vI 2),(18,vI 0)] [(0,some (E.tree eV 1 g (List.map aC rows) [((0+Int.toNat i),1,ms 22 1 2 aA l.hi),((0+Int.toNat i),0,ms 21 1 2 aA l.lo)])),(21,some (E.tree eV 3 1 (List.map aA l.lo) [])),(22,some (E.tree eV 3 1 (List.map aA l.hi) [])),(23,some (E.tree eV 4 1 (List.replicate 2 [T.sl []]) [(0,0,ms 21 1 2 aA l.lo),(1,0,ms 22 1 2 aA l.hi)]))] [(21,true),(22,true),(23,true)] (qw (lk hC [.shd 21,.shd 22] [] [] [(21,some (ar 63 1 2 aA l.lo)),(22,some (ar 63 1 2 aA l.hi))] []) (qb (jF h (fun x_=>aX [(1,V.fn fF [V.tp fC0,V.tp fC1]),(16,V.msl 23 1 1 0 2),(17,vI 2),(18,vI x_.2)] [(0,E.tree eV 1 g (List.map aC rows) [((0+Int.toNat i),1,ms 22 1 2 aA l.hi),((0+Int.toNat i),0,ms 21 1 2 aA l.lo)]),(23,E.tree eV 4 1 (List.replicate 2 [T.sl []]) [(0,0,ms 21 1 2 aA l.lo),(1,0,ms 22 1 2 aA l.hi)]),(21,ar 63 1 2 aA x_.1.lo),(22,ar 63 1 2 aA x_.1.hi)] [0,21,22,23]) lS ?_))))
 rintro again1 ⟨x,q⟩ h
 obtain⟨s1,hs1,h⟩:=bd h
 obtain⟨s2,hs2,h⟩:=bd h
 refine rq hC [] [19] [(19,vB (decide (q<2)))] [] [] (qs (aS h (fun c1 h=> ?_) (fun c1 h=> ?_)))
 ·refine qk (qs (qb (qs (aQ h (fun c2 h=> ?_) (fun c2 h=> ?_)))))
  ·refine aQ h (fun c3 h=> ?_) (fun c3 h=> ?_)
   ·exact nof h
   ·have e:=of_decide_eq_true c3
    subst e
    refine rk hC [.z (.int 1),.z (.row [T.sl []]),oQ (And.intro (by decide) (by decide):(0:Int)≤1∧(1:Int)<((2:Nat):Int)),oQ (Eq.refl (some [T.sl []]))] [5,20,21] [(5,ms 22 1 2 aA l.hi)] [] [] (qw (zD hC [.len 5 (List.map aA x.hi).length] [5] [(5,ms 22 1 2 aA x.hi)] [] [] (a1 (lN aA hs2)) (by kernel_rfl)) (rq hC [oN aA x.hi] [22,23,24] [(22,ms 22 1 2 aA x.hi),(23,vI (x.hi.length:Int)),(24,vI 0)] [] [] (qb (jF h (fun x_=>aX [(1,V.fn fF [V.tp fC0,V.tp fC1]),(16,V.msl 23 1 1 0 2),(17,vI 2),(18,vI 1),(5,ms 22 1 2 aA x_.1),(22,ms 22 1 2 aA x_.1),(23,vI (x.hi.length:Int)),(24,vI x_.2)] [(0,E.tree eV 1 g (List.map aC rows) [((0+Int.toNat i),1,ms 22 1 2 aA l.hi),((0+Int.toNat i),0,ms 21 1 2 aA l.lo)]),(23,E.tree eV 4 1 (List.replicate 2 [T.sl []]) [(0,0,ms 21 1 2 aA l.lo),(1,0,ms 22 1 2 aA l.hi)]),(21,ar 63 1 2 aA x.lo),(22,ar 63 1 2 aA x_.1)] [0,21,22,23]) lS ?_))))
    rintro again2 ⟨y,k⟩ h
    refine rq hC [] [25] [(25,vB (decide (k<(x.hi.length:Int))))] [] [] (qs (aS h (fun c4 h=> ?_) (fun c4 h=> ?_)))
    ·refine qk (qs (qb ?_))
     obtain⟨x3,hx3,h⟩:=bd h
     refine rq hC [oQ (kF aA hx3),oX aA hx3,.z (.nat 24)] [6,7,26,27,28] [(6,vI k),(7,V.ref 24 0)] [(24,some (E.cells (aK x3)))] [(24,true)] ?_
     obtain⟨x4,hx4,x5,hx5,h⟩:=cP h
     exact rk hC [oV (hf x3 _ hx4),oQ (kF aA hx3),oX aA hx3,.z (.rows (List.map aA x5)),.z (.len 5 (List.map aA x5).length),.z (.len 22 (List.map aA x5).length),oQ (str aA hx5),oQ (iQ aA hx5),oQ (iQ aA hx5)] [5,22,29,30,31,32,33,34] [(5,ms 22 1 2 aA x5),(22,ms 22 1 2 aA x5)] [(22,some (ar 63 1 2 aA x5))] [] (rk hC [] [24,35] [(24,vI (wr (k+1)))] [] [] (lE h))
    ·exact cQ (rk hC [] [18,36] [(18,vI (wr (1+1)))] [] [] (lE h))
  ·have e:=of_decide_eq_true c2
   subst e
   refine rk hC [.z (.int 0),.z (.row [T.sl []]),oQ (And.intro (by decide) (by decide):(0:Int)≤0∧(0:Int)<((2:Nat):Int)),oQ (Eq.refl (some [T.sl []]))] [5,20,21] [(5,ms 21 1 2 aA l.lo)] [] [] (qw (zD hC [.len 5 (List.map aA x.lo).length] [5] [(5,ms 21 1 2 aA x.lo)] [] [] (a1 (lN aA hs1)) (by kernel_rfl)) (rq hC [oN aA x.lo] [22,23,24] [(22,ms 21 1 2 aA x.lo),(23,vI (x.lo.length:Int)),(24,vI 0)] [] [] (qb (jF h (fun x_=>aX [(1,V.fn fF [V.tp fC0,V.tp fC1]),(16,V.msl 23 1 1 0 2),(17,vI 2),(18,vI 0),(5,ms 21 1 2 aA x_.1),(22,ms 21 1 2 aA x_.1),(23,vI (x.lo.length:Int)),(24,vI x_.2)] [(0,E.tree eV 1 g (List.map aC rows) [((0+Int.toNat i),1,ms 22 1 2 aA l.hi),((0+Int.toNat i),0,ms 21 1 2 aA l.lo)]),(23,E.tree eV 4 1 (List.replicate 2 [T.sl []]) [(0,0,ms 21 1 2 aA l.lo),(1,0,ms 22 1 2 aA l.hi)]),(21,ar 63 1 2 aA x_.1),(22,ar 63 1 2 aA x.hi)] [0,21,22,23]) lS ?_))))
   rintro again2 ⟨y,k⟩ h
   refine rq hC [] [25] [(25,vB (decide (k<(x.lo.length:Int))))] [] [] (qs (aS h (fun c4 h=> ?_) (fun c4 h=> ?_)))
   ·refine qk (qs (qb ?_))
    obtain⟨x3,hx3,h⟩:=bd h
    refine rq hC [oQ (kF aA hx3),oX aA hx3,.z (.nat 24)] [6,7,26,27,28] [(6,vI k),(7,V.ref 24 0)] [(24,some (E.cells (aK x3)))] [(24,true)] ?_
    obtain⟨x4,hx4,x5,hx5,h⟩:=cP h
    exact rk hC [oV (hf x3 _ hx4),oQ (kF aA hx3),oX aA hx3,.z (.rows (List.map aA x5)),.z (.len 5 (List.map aA x5).length),.z (.len 22 (List.map aA x5).length),oQ (str aA hx5),oQ (iQ aA hx5),oQ (iQ aA hx5)] [5,22,29,30,31,32,33,34] [(5,ms 21 1 2 aA x5),(22,ms 21 1 2 aA x5)] [(21,some (ar 63 1 2 aA x5))] [] (rk hC [] [24,35] [(24,vI (wr (k+1)))] [] [] (lE h))
   ·exact cQ (rk hC [] [18,36] [(18,vI (wr (0+1)))] [] [] (lE h))
 ·obtain rfl:=so h
  exact qw (zD hC [.tre 21 eV 3,.tre 22 eV 3,.unf 0 22 (aC l) (List.map aC (rows.set i.toNat (⟨l.lo,x.hi⟩:Loop))),.unf 0 21 (aC (⟨l.lo,x.hi⟩:Loop)) (List.map aC rows')] [] [] [(21,none),(22,none),(0,some (E.tree eV 1 g (List.map aC rows') []))] [] (a8 (lN aA hs2) (Eq.refl eV) (vA aC hl) (C3 aC (H1 hr (⟨l.lo,x.hi⟩:Loop)) rfl) (lN aA hs1) (Eq.refl eV) (vA aC (aCS hr (⟨l.lo,x.hi⟩:Loop))) (C3 aC (H0 hr (⟨l.lo,x.hi⟩:Loop)) rfl)) (by kernel_rfl)) (cQ eW)
theorem aEs{a}{k}{b}{r}(h:V7 n a k b=some r):VQ G 52 [] [V.agg (aK a),vI k,V.agg (aK b)] (V.agg [ms 0 1 1 rI r.coefs,vI r.const]) [ar 3 1 1 rI r.coefs]:=by
 unfold V7 at h
 refine vq aN Tryz.func52 rfl fun w X β0 hC hg=> ?_
 refine rq hC [.z (.b (true)),.z (.b (true)),.z (.nat 20)] [3,5,6] [(3,V.tp (aR a)),(5,V.tp (aR b)),(6,V.ref 20 0)] [(20,sc [V.t T.nilS,vI 0])] [(20,true)] ?_
 obtain⟨x1,hx1,h⟩:=bd h
 refine rq hC [oC [] [21] (sM G hx1),.z (.nat 22)] [7,10,11] [(7,V.ref 22 0)] [(21,some (ar 3 1 1 rI x1.coefs)),(22,sc [ms 21 1 1 rI x1.coefs,vI x1.const])] [(21,true),(22,true)] (qs (rq hC [oN rI b.coefs] (fr 12 4) [(13,vM rI b.coefs),(14,vI (b.coefs.length:Int)),(15,vI 0)] [] [] (qb (bC (γ:=Nat) h (fun x_ g_=>aX [(1,vI k),(5,V.tp (aR b)),(6,V.ref 20 0),(7,V.ref 22 0),(13,vM rI b.coefs),(14,vI (b.coefs.length:Int)),(15,vI x_.2)] [(20,E.cells [V.t T.nilS,vI 0]),(21,ar 3 g_ 1 rI x_.1),(22,E.cells [ms 21 g_ 1 rI x_.1,vI x1.const])] [20,21,22]) 1 (lS) ?_))))
 rintro again5 ⟨x2,x3⟩ g4 h
 refine rq hC [] [16] [(16,vB (decide (x3<(b.coefs.length:Int))))] [] [] (qs (aS h (fun c1 h=> ?_) (fun c1 h=> ?_)))
 ·refine qk (qs (qb ?_))
  obtain⟨x6,hx6,h⟩:=bd h
  refine rq hC [oR rI hx6] [8,9,17,18,19] [(8,vI x3),(9,vI x6)] [] [] ?_
  obtain⟨x7,hx7,x8,hx8,h⟩:=cP h
  exact rk hC [oQ (kF rI hx7),oX rI hx7,oQ (kF rI hx7),oX rI hx7,.z (.rows (List.map rI x8)),.z (.lenc 22 0 (List.map rI x8).length),oQ (str rI hx8),oQ (iQ rI hx8)] (fr 20 10) [] [(21,some (ar 3 g4 1 rI x8)),(22,sc [ms 21 g4 1 rI x8,vI x1.const])] [] (rk hC [] [15,30] [(15,vI (wr (x3+1)))] [] [] ⟨(x8,wr (x3+1)),g4,h,lS⟩)
 ·obtain rfl:=so h
  exact cQ (rq hC [] (fr 31 8) [] [(22,sc [ms 21 g4 1 rI x2,vI (wr (x1.const+(wr (k*b.const))))])] [] (rq hC [] [39] [] [(20,sc [ms 21 g4 1 rI x2,vI (wr (x1.const+(wr (k*b.const))))])] [] (qw (lk hC [.rn 21 0 [] [20,22]] [] [] [(20,sc [ms 0 1 1 rI x2,vI (wr (x1.const+(wr (k*b.const))))]),(22,sc [ms 0 1 1 rI x2,vI (wr (x1.const+(wr (k*b.const))))]),(21,none),(0,some (ar 3 1 1 rI x2))] [(0,true)]) (qr eW))))
theorem yD{n_a0}{r}(h:oP n n_a0=some r):VQ G 53 [] [vI n_a0] (V.agg [ms 0 1 1 rI r.coefs,vI r.const]) [ar 3 1 1 rI r.coefs]:=by
 unfold oP at h
 refine vq aN Tryz.func53 rfl fun w X β0 hC hg=> ?_
 refine rq hC [.z (.nat 20)] [2] [(2,V.ref 20 0)] [(20,sc [V.t T.nilS,vI 0])] [(20,true)] ?_
 obtain⟨x1,hx1,h⟩:=bd h
 obtain rfl:=so h
 exact rq hC [.z (.nat 21),oA (aGe rI hx1),oQ (E0 hx1).1] [3,4,5] [] [(21,some (ar 3 1 1 rI x1)),(20,sc [ms 21 1 1 rI x1,vI n_a0])] [(21,true)] (qw (lk hC [.rn 21 0 [] [20]] [] [] [(20,sc [ms 0 1 1 rI x1,vI n_a0]),(21,none),(0,some (ar 3 1 1 rI x1))] [(0,true)]) (qr eW))
theorem D3(G:GS)(n:Nat)(a:Affine)(c0__a1:Int){r:Affine}(h:gY n a c0__a1=some r):PQ G 51 [V.agg (aK a),V.tp [T.int .i64 c0__a1]] (V.agg (aK r)):=by
 unfold gY at h
 refine pq aN Tryz.func51 rfl fun w X hC=> ?_
 refine rq hC [.z (.b (true)),.z (.nat 20)] [2,3] [(2,V.tp (aR a)),(3,V.ref 20 0)] [(20,sc [V.t T.nilS,vI 0])] [(20,true)] (qs ?_)
 obtain⟨x1,hx1,x2,hx2,h⟩:=cP h
 obtain rfl:=so h
 exact dk hC bF [oC [] [21] (yD G hx1),.z (.at 2),.z (.fz 21 [6] []),oC [] [22] (aEs G hx2)] (fr 4 4) [] [(21,none),(22,some (ar 3 1 1 rI x2.coefs)),(20,sc [ms 22 1 1 rI x2.coefs,vI x2.const])] [(21,true),(22,true)] (qw (lk hC [.fz 22 [] [20]] [] [] [(20,some (E.cells (aK x2))),(22,none)] []) (qr eR))
theorem aAG{v}{k}{r}(h:rM n v k=some r):VQ G 54 [] [vI v,vI k] (V.agg [ms 0 1 1 rI r.coefs,vI r.const]) [ar 3 1 1 rI r.coefs]:=by
 unfold rM at h
 refine vq aN Tryz.func54 rfl fun w X β0 hC hg=> ?_
 refine rq hC [.z (.nat 20)] [4] [(4,V.ref 20 0)] [(20,sc [V.t T.nilS,vI 0])] [(20,true)] ?_
 obtain⟨x1,hx1,h⟩:=bd h
 refine rq hC [oC [] [21] (yD G hx1),.z (.nat 22)] [5,6] [(5,V.ref 22 0)] [(21,some (ar 3 1 1 rI x1.coefs)),(22,sc [ms 21 1 1 rI x1.coefs,vI x1.const])] [(21,true),(22,true)] ?_
 obtain⟨x2,hx2,x3,hx3,h⟩:=cP h
 obtain rfl:=so h
 exact rq hC [oQ (kF rI hx2),oX rI hx2,.z (.rows (List.map rI x3)),.z (.lenc 22 0 (List.map rI x3).length),oQ (str rI hx3),oQ (iQ rI hx3)] (fr 7 5) [] [(21,some (ar 3 1 1 rI x3)),(22,sc [ms 21 1 1 rI x3,vI x1.const])] [] (rq hC [] [12] [] [(20,sc [ms 21 1 1 rI x3,vI x1.const])] [] (qw (lk hC [.rn 21 0 [] [20,22]] [] [] [(20,sc [ms 0 1 1 rI x3,vI x1.const]),(22,sc [ms 0 1 1 rI x3,vI x1.const]),(21,none),(0,some (ar 3 1 1 rI x3))] [(0,true)]) (qr eW)))
theorem qU(G:GS)(n:Nat)(a:Access)(changeF:FuncId)(changeC0:List T)(changeC1:List T)(change:Affine→Option Affine)(hchange: ∀(q0:Affine) r,change q0=some r→PQ G changeF [V.agg (aK q0),V.tp changeC0,V.tp changeC1] (V.agg (aK r))){r:Access}(h:gA n a change=some r):PQ G 184 [V.agg (cB a),V.fn changeF [V.tp changeC0,V.tp changeC1]] (V.agg (cB r)):=by
 unfold gA at h
 refine pq aN Tryz.func184 rfl fun w X hC=> ?_
 refine rq hC [.z (.b (true)),.z (.nat 20)] [2,4] [(2,V.tp (dO a)),(4,V.ref 20 0)] [(20,sc [vS [],V.t T.nilS])] [(20,true)] (rq hC [.z (.nat 21)] [5,8,9,10] [(5,V.ref 21 0)] [(21,sc [vS a.array,V.t T.nilS])] [(21,true)] (qs (rq hC [oN aA a.subs] (fr 11 4) [(12,vM aA a.subs),(13,vI (a.subs.length:Int)),(14,vI 0)] [] [] (qb (qw (lk hC [.growc 21 1 22 63] [] [] [(22,some (ar 63 1 2 aA [])),(21,sc [vS a.array,ms 22 1 2 aA []])] [(22,true)]) ?_)))))
 refine bC (γ:=Nat) h (fun x_ g_=>aX [(1,V.fn changeF [V.tp changeC0,V.tp changeC1]),(4,V.ref 20 0),(5,V.ref 21 0),(12,vM aA a.subs),(13,vI (a.subs.length:Int)),(14,vI x_.2)] [(20,E.cells [vS [],V.t T.nilS]),(21,E.cells [vS a.array,ms 22 g_ 2 aA x_.1]),(22,ar 63 g_ 2 aA x_.1)] [20,21,22]) 1 (lS) ?_
 rintro again4 ⟨x1,x2⟩ g3 h
 refine rq hC [] [15] [(15,vB (decide (x2<(a.subs.length:Int))))] [] [] (qs (aS h (fun c1 h=> ?_) (fun c1 h=> ?_)))
 ·refine qk (qs (qb ?_))
  obtain⟨x5,hx5,h⟩:=bd h
  refine rq hC [oR aA hx5,.z (.nat 23)] [7,16,17] [(7,V.ref 23 0)] [(23,some (E.cells (aK x5)))] [(23,true)] ?_
  obtain⟨x6,hx6,x7,hx7,h⟩:=cP h
  exact dk hC bF [oV (hchange x5 _ hx6),.z (.int 0),oA (aP aA hx7),oQ (bT (r:=aA) 2 aU x1),oQ (bT (r:=aA) 2 aU [x6])] (fr 18 8) [] [(22,some (ar 63 (g3+1) 2 aA x7)),(21,sc [vS a.array,ms 22 (g3+1) 2 aA x7])] [] (rk hC [] [14,26] [(14,vI (wr (x2+1)))] [] [] ⟨(x7,wr (x2+1)),(g3+1),h,lS⟩)
 ·obtain rfl:=so h
  exact cQ (rq hC [.z (.at 2),.z (.fz 22 [] [21])] [27] [] [(21,sc [vS a.array,vM aA x1]),(22,none),(20,sc [vS a.array,vM aA x1])] [] (qr eR))
theorem P7(G:GS): ∀(n:Nat) (e:Expr) (changeF:FuncId) (changeC0:List T) (changeC1:List T) (change:Affine→Option Affine) (hchange: ∀(q0:Affine) r,change q0=some r→PQ G changeF [V.agg (aK q0),V.tp changeC0,V.tp changeC1] (V.agg (aK r))) {r:Expr} (h:i_exprMap n e change=some r),PQ G 185 [V.agg (cR e),V.fn changeF [V.tp changeC0,V.tp changeC1]] (V.agg (cR r)):=by
 intro n
 induction n with
 |zero=>intro e changeF changeC0 changeC1 change hchange r h;rw [i_exprMap.eq_def] at h;cases h
 |succ n ih=>
  intro e changeF changeC0 changeC1 change hchange r h
  rw [i_exprMap.eq_def] at h;dsimp only at h
  refine pq aN Tryz.func185 rfl fun w X hC=> ?_
  refine rq hC [.z (.b (true)),.z (.nat 20)] [2,4] [(2,V.tp (fD e)),(4,V.ref 20 0)] [(20,sc [vI 0,vI 0,V.t T.nilS,vI 0,vS [],V.t T.nilS,V.t T.nilS])] [(20,true)] (rq hC [.z (.nat 21)] [5,8,9,10,11,12] [(5,V.ref 21 0)] [(21,sc [vI e.kind,vI e.num,V.t T.nilS,vI 0,vS [],V.t T.nilS,V.t T.nilS])] [(21,true)] (vj h (fun x_=>aX [(1,V.fn changeF [V.tp changeC0,V.tp changeC1]),(2,V.tp (fD e)),(4,V.ref 20 0),(5,V.ref 21 0)] [(20,E.cells [vI 0,vI 0,V.t T.nilS,vI 0,vS [],V.t T.nilS,V.t T.nilS]),(21,E.cells [vI e.kind,vI e.num,vM rI x_.1,vI x_.2.1,vS x_.2.2.1,vM aA x_.2.2.2,V.t T.nilS])] [20,21]) (fun j1 h=> ?_) ?_))
  ·
   refine rq hC [] [13,14] [(14,vI e.kind)] [] [] (qb (rq hC [] [15,16] [(15,vB (decide (e.kind=2)))] [] [] (aS h (fun c1 h=> ?_) (fun c1 h=> ?_))))
   ·obtain⟨x2,hx2,h⟩:=bd h
    exact rk hC [oV (hchange e.index _ hx2)] (fr 17 5) [] [(21,sc [vI e.kind,vI e.num,vM rI x2.coefs,vI x2.const,vS [],V.t T.nilS,V.t T.nilS])] [] (lE h)
   ·refine rq hC [] [22,23] [(22,vB (decide (e.kind=3)))] [] [] (aS h (fun c2 h=> ?_) (fun c2 h=> ?_))
    ·obtain⟨x3,hx3,h⟩:=bd h
     exact rk hC [oV (qU G n e.read changeF changeC0 changeC1 change hchange hx3)] (fr 24 5) [] [(21,sc [vI e.kind,vI e.num,V.t T.nilS,vI 0,vS x3.array,vM aA x3.subs,V.t T.nilS])] [] (lE h)
    ·exact qk (lE h)
  ·rintro⟨x4,x5,x6,x7⟩ h
   refine qs (rq hC [oN aI e.kids] (fr 29 4) [(30,vM aI e.kids),(31,vI (e.kids.length:Int)),(32,vI 0)] [] [] (qb (qw (lk hC [.growc 21 6 22 84] [] [] [(22,some (ar 84 1 7 aI [])),(21,sc [vI e.kind,vI e.num,vM rI x4,vI x5,vS x6,vM aA x7,ms 22 1 7 aI []])] [(22,true)]) (bC (γ:=Nat) h (fun x_ g_=>aX [(1,V.fn changeF [V.tp changeC0,V.tp changeC1]),(4,V.ref 20 0),(5,V.ref 21 0),(30,vM aI e.kids),(31,vI (e.kids.length:Int)),(32,vI x_.2)] [(20,E.cells [vI 0,vI 0,V.t T.nilS,vI 0,vS [],V.t T.nilS,V.t T.nilS]),(21,E.cells [vI e.kind,vI e.num,vM rI x4,vI x5,vS x6,vM aA x7,ms 22 g_ 7 aI x_.1]),(22,ar 84 g_ 7 aI x_.1)] [20,21,22]) 1 (lS) ?_))))
   rintro again11 ⟨x8,x9⟩ g10 h
   refine rq hC [] [33] [(33,vB (decide (x9<(e.kids.length:Int))))] [] [] (qs (aS h (fun c3 h=> ?_) (fun c3 h=> ?_)))
   ·refine qk (qs (qb ?_))
    obtain⟨x12,hx12,h⟩:=bd h
    refine rq hC [.z (.row (d5 x12)),.z (.nat 23),oQ (eU aI hx12 (cM x12))] [7,34,35] [(7,V.ref 23 0)] [(23,some (E.cells (cR x12)))] [(23,true)] ?_
    obtain⟨x13,hx13,x14,hx14,h⟩:=cP h
    exact dk hC bF [oV (ih x12 changeF changeC0 changeC1 change hchange hx13),.z (.int 2),.z (.rows (List.map aI [x13])),oQ (rR x13),oA (aP aI hx14),oQ (bT (r:=aI) 7 dX x8),oQ (bT (r:=aI) 7 dX [x13])] (fr 36 8) [] [(22,some (ar 84 (g10+1) 7 aI x14)),(21,sc [vI e.kind,vI e.num,vM rI x4,vI x5,vS x6,vM aA x7,ms 22 (g10+1) 7 aI x14])] [] (rk hC [] [32,44] [(32,vI (wr (x9+1)))] [] [] ⟨(x14,wr (x9+1)),(g10+1),h,lS⟩)
   ·obtain rfl:=so h
    exact cQ (rq hC [.z (.at 2),.z (.fz 22 [] [21])] [45] [] [(21,sc [vI e.kind,vI e.num,vM rI x4,vI x5,vS x6,vM aA x7,vM aI x8]),(22,none),(20,sc [vI e.kind,vI e.num,vM rI x4,vI x5,vS x6,vM aA x7,vM aI x8])] [] (qr eR))
theorem P6(G:GS)(n:Nat)(s:Stmt)(changeF:FuncId)(changeC0:List T)(changeC1:List T)(change:Affine→Option Affine)(hchange: ∀(q0:Affine) r,change q0=some r→PQ G changeF [V.agg (aK q0),V.tp changeC0,V.tp changeC1] (V.agg (aK r))){r:Stmt}(h:gX n s change=some r):PQ G 122 [V.agg (cO s),V.fn changeF [V.tp changeC0,V.tp changeC1]] (V.agg (cO r)):=by
 unfold gX at h
 refine pq aN Tryz.func122 rfl fun w X hC=> ?_
 refine rq hC [.z (.b (true)),.z (.nat 20)] [2,4] [(2,V.tp (n6 s)),(4,V.ref 20 0)] [(20,sc [vS [],V.t T.nilS,vI 0,vI 0,V.t T.nilS,vI 0,vS [],V.t T.nilS,V.t T.nilS])] [(20,true)] (qs ?_)
 obtain⟨x1,hx1,x2,hx2,h⟩:=cP h
 obtain rfl:=so h
 exact dk hC bF [oV (qU G n s.write changeF changeC0 changeC1 change hchange hx1),oV (P7 G n s.value changeF changeC0 changeC1 change hchange hx2)] (fr 5 9) [] [(20,sc [vS x1.array,vM aA x1.subs,vI x2.kind,vI x2.num,vM rI x2.index.coefs,vI x2.index.const,vS x2.read.array,vM aA x2.read.subs,vM aI x2.kids])] [] (qr eR)
theorem t8(G:GS)(n:Nat)(rows:List Part)(i:Int)(p:Part)(hp:ix rows i=some p)(g:Nat)(from_:Int)(fF:FuncId)(fC0:List T)(fC1:List T)(f:Affine→Option Affine)(hf: ∀(q0:Affine) r,f q0=some r→PQ G fF [V.agg (aK q0),V.tp fC0,V.tp fC1] (V.agg (aK r))){p':Part}{rows':List Part}(h:jL n p from_ f=some p')(hr:dC rows i p'=some rows'):
  VQ G 55 [E.tree eV 0 g (List.map aD rows) []] [V.eref 0 g 2 (0+Int.toNat i) 0,vI from_,V.fn fF [V.tp fC0,V.tp fC1]] (V.tup []) [E.tree eV 0 g (List.map aD rows') []]:=by
 unfold jL at h
 refine vq aN Tryz.func55 rfl fun w X β0 hC hg=> ?_
 refine qs (rq hC [] [6,9] [(6,vI from_)] [] [] (qw (zD hC [.foc 0 21 (0+Int.toNat i) 0 (aD p),.foc 0 22 (0+Int.toNat i) 1 (aD p),.shd 22] [] [] [(0,some (E.tree eV 0 g (List.map aD rows) [((0+Int.toNat i),1,ms 22 1 9 aG p.body),((0+Int.toNat i),0,ms 21 1 2 aC p.nest)])),(21,some (E.tree eV 1 1 (List.map aC p.nest) [])),(22,some (ar 86 1 9 aG p.body))] [(21,true),(22,true)] (a2 (vA aD hp) (vA aD hp)) (by kernel_rfl)) (qb (jF h (fun x_=>aX [(0,V.eref 0 g 2 (0+Int.toNat i) 0),(2,V.fn fF [V.tp fC0,V.tp fC1]),(6,vI x_.2)] [(0,E.tree eV 0 g (List.map aD rows) [((0+Int.toNat i),1,ms 22 1 9 aG p.body),((0+Int.toNat i),0,ms 21 1 2 aC p.nest)]),(21,E.tree eV 1 1 (List.map aC x_.1) []),(22,ar 86 1 9 aG p.body)] [0,21,22]) lS ?_))))
 rintro again1 ⟨x,k⟩ h
 obtain⟨s1,hs1,h⟩:=bd h
 refine qs (rq hC [oX aD hp,.z (.nat x.length),oQ (aLd aC hs1)] (fr 10 7) [(16,vB (decide (k<(x.length:Int))))] [] [] (aS h (fun c1 h=> ?_) (fun c1 h=> ?_)))
 ·refine qk (qs (qb ?_))
  obtain⟨x2,hx2,x3,hx3,x4,hx4,h⟩:=kG h
  exact rk hC [oX aD hp,oQ (aKO aC hs1 hx2),oC [21] [] (uA G n x k x2 hx2 1 fF fC0 fC1 f hf hx3 hx4)] (fr 19 8) [] [(21,some (E.tree eV 1 1 (List.map aC x4) []))] [(21,true)] (rk hC [] [6,17,18] [(6,vI (wr (k+1)))] [] [] (lE h))
 ·refine cQ (rq hC [oX aD hp,oN aG p.body] (fr 27 6) [(30,ms 22 1 9 aG p.body),(31,vI (p.body.length:Int)),(32,vI 0)] [] [] (qb (jF h (fun x_=>aX [(0,V.eref 0 g 2 (0+Int.toNat i) 0),(2,V.fn fF [V.tp fC0,V.tp fC1]),(30,ms 22 1 9 aG x_.1),(31,vI (p.body.length:Int)),(32,vI x_.2)] [(0,E.tree eV 0 g (List.map aD rows) [((0+Int.toNat i),1,ms 22 1 9 aG p.body),((0+Int.toNat i),0,ms 21 1 2 aC p.nest)]),(21,E.tree eV 1 1 (List.map aC x) []),(22,ar 86 1 9 aG x_.1)] [0,21,22]) lS ?_)))
  rintro again2 ⟨y,j⟩ h
  obtain⟨s2,hs2,h⟩:=bd h
  refine rq hC [] [33] [(33,vB (decide (j<(p.body.length:Int))))] [] [] (qs (aS h (fun c2 h=> ?_) (fun c2 h=> ?_)))
  ·refine qk (qs (qb ?_))
   obtain⟨x6,hx6,h⟩:=bd h
   refine rq hC [oQ (kF aG hx6),oX aG hx6,.z (.nat 24)] [7,8,34,35,36] [(7,vI j),(8,V.ref 24 0)] [(24,some (E.cells (cO x6)))] [(24,true)] ?_
   obtain⟨x7,hx7,x8,hx8,h⟩:=cP h
   exact dk hC bF [oX aD hp,oV (P6 G n x6 fF fC0 fC1 f hf hx7),oQ (aKO aG hs2 hx6),oX aG hx6,.z (.rows (List.map aG x8)),oQ (str aG hx8)] (fr 37 9) [] [(22,some (ar 86 1 9 aG x8))] [] (qw (zD hC [.len 30 (List.map aG x8).length] [30] [(30,ms 22 1 9 aG x8)] [] [] (a1 (iQ aG hx8)) (by kernel_rfl)) (rk hC [] [32,46] [(32,vI (wr (j+1)))] [] [] (lE h)))
  ·obtain rfl:=so h
   exact qw (zD hC [.tre 22 eV 2,.unf 0 22 (aD p) (List.map aD (rows.set i.toNat (⟨p.nest,y⟩:Part))),.unf 0 21 (aD (⟨p.nest,y⟩:Part)) (List.map aD rows')] [] [] [(22,none),(21,none),(0,some (E.tree eV 0 g (List.map aD rows') []))] [] (a8 (lN aG hs2) (Eq.refl eV) (vA aD hp) (C3 aD (H1 hr (⟨p.nest,y⟩:Part)) rfl) (lN aC hs1) (Eq.refl eV) (vA aD (aCS hr (⟨p.nest,y⟩:Part))) (C3 aD (H0 hr (⟨p.nest,y⟩:Part)) rfl)) (by kernel_rfl)) (cQ eW)
theorem aFd{a}{v}{b}{r}(h:xK n a v b=some r):VQ G 57 [] [V.agg (aK a),vI v,V.agg (aK b)] (V.agg [ms 0 1 1 rI r.coefs,vI r.const]) [ar 3 1 1 rI r.coefs]:=by
 unfold xK at h
 refine vq aN Tryz.func57 rfl fun w X β0 hC hg=> ?_
 refine rq hC [.z (.b (true)),.z (.b (true)),.z (.nat 20)] [3,5,6] [(3,V.tp (aR a)),(5,V.tp (aR b)),(6,V.ref 20 0)] [(20,sc [V.t T.nilS,vI 0])] [(20,true)] ?_
 obtain⟨x1,hx1,h⟩:=bd h
 refine rq hC [oC [] [21] (sM G hx1),.z (.nat 22)] [7,9,10] [(7,V.ref 22 0)] [(21,some (ar 3 1 1 rI x1.coefs)),(22,sc [ms 21 1 1 rI x1.coefs,vI x1.const])] [(21,true),(22,true)] ?_
 obtain⟨x2,hx2,h⟩:=bd h
 refine rq hC [oQ (kF rI hx2),oX rI hx2] [8,11,12,13,14,15] [(8,vI x2)] [] [] ?_
 obtain⟨x3,hx3,h⟩:=bd h
 refine rq hC [oQ (kF rI hx2),oX rI hx2,.z (.rows (List.map rI x3)),.z (.lenc 22 0 (List.map rI x3).length),oQ (str rI hx3),oQ (iQ rI hx3)] (fr 16 4) [] [(21,some (ar 3 1 1 rI x3)),(22,sc [ms 21 1 1 rI x3,vI x1.const])] [] ?_
 obtain⟨x4,hx4,h⟩:=bd h
 obtain rfl:=so h
 exact rq hC [.z (.at 5),.z (.fz 21 [] [22]),oC [] [23] (aEs G hx4)] (fr 20 4) [] [(22,sc [vM rI x3,vI x1.const]),(21,none),(23,some (ar 3 1 1 rI x4.coefs)),(20,sc [ms 23 1 1 rI x4.coefs,vI x4.const])] [(23,true)] (qw (lk hC [.rn 23 0 [] [20]] [] [] [(20,sc [ms 0 1 1 rI x4.coefs,vI x4.const]),(23,none),(0,some (ar 3 1 1 rI x4.coefs))] [(0,true)]) (qr eW))
theorem D2(G:GS)(n:Nat)(a:Affine)(c0__a1:Int)(c1__a2:Affine){r:Affine}(h:fQ n a c0__a1 c1__a2=some r):PQ G 56 [V.agg (aK a),V.tp [T.int .i64 c0__a1],V.tp (aR c1__a2)] (V.agg (aK r)):=by
 unfold fQ at h
 refine pq aN Tryz.func56 rfl fun w X hC=> ?_
 refine rq hC [.z (.b (true)),.z (.nat 20)] [3,4] [(3,V.tp (aR a)),(4,V.ref 20 0)] [(20,sc [V.t T.nilS,vI 0])] [(20,true)] ?_
 obtain⟨x1,hx1,h⟩:=bd h
 obtain rfl:=so h
 exact rq hC [oC [] [21] (aFd G hx1)] (fr 5 4) [] [(21,some (ar 3 1 1 rI x1.coefs)),(20,sc [ms 21 1 1 rI x1.coefs,vI x1.const])] [(21,true)] (qw (lk hC [.fz 21 [] [20]] [] [] [(20,some (E.cells (aK x1))),(21,none)] []) (qr eR))
theorem aAH{p}{r}(h:oO n p=some r):PQ G 58 [V.agg (bH p)] (V.tup [V.agg (bH r.1),vB r.2]):=by
 unfold oO at h
 refine pq aN Tryz.func58 rfl fun w X hC=> ?_
 refine rq hC [.z (.b (true)),.z (.nat 20)] [1,2,3] [(1,V.tp (bL p)),(2,V.ref 20 0)] [(20,sc [V.t T.nilS,V.t T.nilS])] [(20,true)] (qs ?_)
 obtain⟨x1,hx1,h⟩:=bd h
 refine rq hC [oV (bI G hx1)] [4,5,6] [(6,vB (!x1))] [] [] (aS h (fun c1 h=> ?_) (fun c1 h=> ?_))
 ·obtain rfl:=so h
  exact rq hC [] [3,7] [(3,vB false)] [(20,sc [V.t T.nilS,V.t T.nilS])] [] (qr eR)
 ·refine qk ?_
  obtain⟨x2,hx2,h⟩:=bd h
  obtain rfl:=so h
  exact rq hC [oC [] [21,22] (D4 G hx2)] [3,8,9] [(3,vB true)] [(21,some (ar 76 1 2 aJ x2.arrays)),(22,some (ar 60 1 2 aD x2.parts)),(20,sc [ms 21 1 2 aJ x2.arrays,ms 22 1 2 aD x2.parts])] [(21,true),(22,true)] (qw (lk hC [.fz 21 [] [20]] [] [] [(20,sc [vM aJ x2.arrays,ms 22 1 2 aD x2.parts]),(21,none)] []) (qw (lk hC [.fz 22 [] [20]] [] [] [(20,some (E.cells (bH x2))),(22,none)] []) (qr eR)))
theorem S7{p}{part}{loop}{by_}{r}(h:mQ n p part loop by_=some r):PQ G 16 [V.agg (bH p),vI part,vI loop,vI by_] (V.tup [V.agg (bH r.1),vB r.2]):=by
 unfold mQ at h
 refine pq aN Tryz.func16 rfl fun w X hC=> ?_
 refine rq hC [.z (.b (true)),.z (.b (true)),.z (.b (true)),.z (.nat 20)] [4,6,7,8,9] [(4,V.tp (bL p)),(6,V.tp [T.int .i64 loop]),(7,V.tp [T.int .i64 by_]),(8,V.ref 20 0)] [(20,sc [V.t T.nilS,V.t T.nilS])] [(20,true)] (qs ?_)
 obtain⟨x1,hx1,h⟩:=bd h
 refine aQ h (fun c1 h=> ?_) (fun c1 h=> ?_)
 ·refine rk hC [oV (aB6 G n p part loop hx1 c1),.z (.nat 21)] [10,11,12,14,15,16,17,18,19,20,21] [(10,V.ref 21 0),(11,V.t T.nilP),(12,vB false)] [(21,sc [vM aJ [],vM aD []])] [(21,true)] (qs (rq hC (sT 7) (fr 22 11) [(32,vB true)] [] [] (F8 (b:=true) (by kernel_rfl) (fun c2=> ?_) (fun c2=>by cases c2))))
  obtain rfl:=so h
  exact rq hC [] [9,33] [(9,vB false)] [(20,sc [V.t T.nilS,V.t T.nilS])] [] (qr eR)
 ·refine rk hC [oC [] [21,22] (aB5 G n p part loop hx1 c1),.z (.nat 23)] [10,11,12,14,15,16,17,18,19,20,21] [(10,V.ref 23 0),(11,V.eref 22 1 2 (0+Int.toNat part) 0),(12,vB true)] [(21,some (ar 76 1 2 aJ x1.1.arrays)),(22,some (E.tree eV 0 1 (List.map aD x1.1.parts) [])),(23,sc [ms 21 1 2 aJ x1.1.arrays,ms 22 1 2 aD x1.1.parts])] [(21,true),(22,true),(23,true)] (qs (vj h (fun x_=>aX [(6,V.tp [T.int .i64 loop]),(7,V.tp [T.int .i64 by_]),(8,V.ref 20 0),(10,V.ref 23 0),(11,V.eref 22 1 2 (0+Int.toNat part) 0),(32,vB x_)] [(20,E.cells [V.t T.nilS,V.t T.nilS]),(21,ar 76 1 2 aJ x1.1.arrays),(22,E.tree eV 0 1 (List.map aD x1.1.parts) []),(23,E.cells [ms 21 1 2 aJ x1.1.arrays,ms 22 1 2 aD x1.1.parts])] [20,21,22,23]) (fun j2 h=> ?_) (fun x4 h=> ?_)))
  ·
   refine aQ h (fun c2 h=> ?_) (fun c2 h=> ?_)
   ·obtain⟨x3,hx3,h⟩:=bd h
    exact rk hC [eF,eF,eF,oF c2,oF c2,oV (aDB G hx3),oF c2,oF c2] (fr 22 11) [(32,vB (!x3))] [] [] (lE h)
   ·exact rk hC ([eF,eF,eF]++rT 4 c2) (fr 22 11) [(32,vB true)] [] [] (lE h)
  ·refine aS h (fun c3 h=> ?_) (fun c3 h=> ?_)
   ·obtain rfl:=so h
    exact rq hC [] [9,33] [(9,vB false)] [(20,sc [V.t T.nilS,V.t T.nilS])] [] (qr eR)
   ·refine qk (qs ?_)
    obtain⟨x5,hx5,x6,hx6,x7,hx7,h⟩:=kG h
    obtain⟨x8,hx8,x10,hx10,h⟩:=cP h
    refine dk hC bF [.z (.foc 22 25 (0+Int.toNat part) 0 (aD x5)),oX aD hx5,oQ (vA aD hx5),oQ (kF aC hx6),oC [25] [] (uB G n x5.nest loop x6 hx6 1 51 [T.int .i64 by_] (fun q0=>gY n q0 by_) (fun q0 r h=>D3 G n q0 by_ h) hx7 hx8)] (fr 34 8) [] [(22,some (E.tree eV 0 1 (List.map aD x1.1.parts) [((0+Int.toNat part),0,ms 25 1 2 aC x5.nest)])),(25,some (E.tree eV 1 1 (List.map aC x8) []))] [(25,true),(25,true)] (qw (zD hC [.unf 22 25 (aD x5) (List.map aD x10)] [] [] [(25,none),(22,some (E.tree eV 0 1 (List.map aD x10) []))] [] (a4 (iQ aC hx8) (Eq.refl eV) (vA aD hx5) (C3 aD hx10 rfl)) (by kernel_rfl)) ?_)
    obtain⟨x9,hx9,h⟩:=bd h
    refine rq hC [oC [] [26] (aAG G hx9),.z (.nat 27)] [13,42,43] [(13,V.ref 27 0)] [(26,some (ar 3 1 1 rI x9.coefs)),(27,sc [ms 26 1 1 rI x9.coefs,vI x9.const])] [(26,true),(27,true)] (rq hC [] [44,45,46] [] [(27,sc [ms 26 1 1 rI x9.coefs,vI (wr (0-by_))])] [] (qw (lk hC [.fz 26 [] [27],.fp 27 [13]] [13] [(13,V.tp [T.sl (List.map rI x9.coefs),T.int .i64 (wr (0-by_))])] [(26,none),(27,none)] []) ?_))
    obtain⟨x11,hx11,x12,hx12,h⟩:=cP h
    refine rq hC [oC [22] [] (t8 G n x10 part (⟨x8,x5.body⟩:Part) (aJN hx10) 1 (wr (loop+1)) 56 [T.int .i64 loop] [T.sl (List.map rI x9.coefs),T.int .i64 (wr (0-by_))] (fun q0=>fQ n q0 loop (⟨x9.coefs,wr (0-by_)⟩:Affine)) (fun q0 r h=>D2 G n q0 loop (⟨x9.coefs,wr (0-by_)⟩:Affine) h) hx11 hx12)] (fr 47 5) [] [(22,some (E.tree eV 0 1 (List.map aD x12) []))] [(22,true)] (qw (zD hC [.shd 22,.lenc 23 1 (List.map aD x12).length,.fz 21 [] [23],.fz 22 [] [23]] [] [] [(21,none),(22,none),(23,sc [vM aJ x1.1.arrays,vM aD x12])] [] (a1 ((iQ aD hx10).trans (iQ aD hx12))) (by kernel_rfl)) ?_)
    obtain⟨x13,hx13,h⟩:=bd h
    obtain rfl:=so h
    exact rq hC [oV (aAH G hx13)] [9,52,53,54,55] [(9,vB x13.2)] [(20,some (E.cells (bH x13.1)))] [] (qr eR)
theorem l7(G:GS)(n:Nat){r:Affine}(h:mI n=some r):VQ G 80 [] [] (V.agg [ms 0 1 1 rI r.coefs,vI r.const]) [ar 3 1 1 rI r.coefs]:=by
 unfold mI at h
 refine vq aN Tryz.func80 rfl fun w X β0 hC hg=> ?_
 obtain rfl:=so h
 exact rq hC [.z (.nat 20)] [0] [(0,V.ref 20 0)] [(20,sc [V.t T.nilS,vI 0])] [(20,true)] (rq hC [.z (.int 1),.z (.nat 21)] [1,2] [] [(21,some (ar 3 1 1 rI [0,0,0,0])),(20,sc [ms 21 1 1 rI [0,0,0,0],vI 0])] [(21,true)] (qw (lk hC [.rn 21 0 [] [20]] [] [] [(20,sc [ms 0 1 1 rI [0,0,0,0],vI 0]),(21,none),(0,some (ar 3 1 1 rI [0,0,0,0]))] [(0,true)]) (qr eW)))
theorem cY{n_a0}{r}(h:dF n n_a0=some r):VQ G 64 [] [vI n_a0] (V.agg [ms 0 1 1 rI r.coefs,vI r.const]) [ar 3 1 1 rI r.coefs]:=by
 unfold dF at h
 refine vq aN Tryz.func64 rfl fun w X β0 hC hg=> ?_
 refine rq hC [.z (.nat 20)] [2] [(2,V.ref 20 0)] [(20,sc [V.t T.nilS,vI 0])] [(20,true)] ?_
 obtain⟨x1,hx1,h⟩:=bd h
 obtain rfl:=so h
 exact rq hC [oC [] [21] (l7 G n hx1),.z (.nat 22)] [3,4] [(3,V.ref 22 0)] [(21,some (ar 3 1 1 rI x1.coefs)),(22,sc [ms 21 1 1 rI x1.coefs,vI x1.const])] [(21,true),(22,true)] (rq hC [] [5,6] [] [(22,sc [ms 21 1 1 rI x1.coefs,vI n_a0])] [] (rq hC [] [7] [] [(20,sc [ms 21 1 1 rI x1.coefs,vI n_a0])] [] (qw (lk hC [.rn 21 0 [] [20,22]] [] [] [(20,sc [ms 0 1 1 rI x1.coefs,vI n_a0]),(22,sc [ms 0 1 1 rI x1.coefs,vI n_a0]),(21,none),(0,some (ar 3 1 1 rI x1.coefs))] [(0,true)]) (qr eW))))
theorem D1{x}{r}(h:mA n x=some r):PQ G 186 [V.agg [vS x.name,vM rI x.dims]] (V.agg [vS r.name,vM rI r.dims]):=by
 unfold mA at h
 refine pq aN Tryz.func186 rfl fun w X hC=> ?_
 refine rq hC [.z (.nat 20),.z (.nat 21)] [1,2] [(1,V.ref 20 0),(2,V.ref 21 0)] [(20,sc [vS x.name,vM rI x.dims]),(21,sc [vS [],V.t T.nilS])] [(20,true),(21,true)] ?_
 obtain⟨x1,hx1,h⟩:=bd h
 obtain rfl:=so h
 exact rq hC [.z (.nat 22),oA (aP rI hx1),oQ (bT (r:=rI) 1 (fun _=>rfl) []),oQ (bT (r:=rI) 1 (fun _=>rfl) x.dims)] (fr 3 5) [] [(22,some (ar 3 2 1 rI x1)),(20,sc [vS x.name,ms 22 2 1 rI x1])] [(22,true)] (rq hC [.z (.at 2),.z (.fz 22 [] [20])] [8] [] [(20,sc [vS x.name,vM rI x1]),(22,none),(21,sc [vS x.name,vM rI x1])] [] (qr eR))
theorem uX{list}{r}(h:fG n list=some r):VQ G 123 [] [vM aJ list] (ms 0 1 2 aJ r) [ar 76 1 2 aJ r]:=by
 unfold fG at h
 refine vq aN Tryz.func123 rfl fun w X β0 hC hg=> ?_
 refine rq hC [] [2] [] [] [] (rq hC [.z (.nat 20)] [3,6] [(3,ms 20 1 2 aJ [])] [(20,some (ar 76 1 2 aJ []))] [(20,true)] (qs (rq hC [oN aJ list] [7,8,9] [(7,vM aJ list),(8,vI (list.length:Int)),(9,vI 0)] [] [] (qb (bC (γ:=Nat) h (fun x_ g_=>aX [(3,ms 20 g_ 2 aJ x_.1),(7,vM aJ list),(8,vI (list.length:Int)),(9,vI x_.2)] [(20,ar 76 g_ 2 aJ x_.1)] [20]) 1 (lS) ?_)))))
 rintro again4 ⟨x1,x2⟩ g3 h
 refine rq hC [] [10] [(10,vB (decide (x2<(list.length:Int))))] [] [] (qs (aS h (fun c1 h=> ?_) (fun c1 h=> ?_)))
 ·refine qk (qs (qb ?_))
  obtain⟨x5,hx5,h⟩:=bd h
  refine rq hC [oR aJ hx5,.z (.nat 21)] [5,11,12] [(5,V.ref 21 0)] [(21,sc [vS x5.name,vM rI x5.dims])] [(21,true)] ?_
  obtain⟨x6,hx6,x7,hx7,h⟩:=cP h
  exact rk hC [oV (D1 G hx6),.z (.int 0),oA (aP aJ hx7),oQ (bT (r:=aJ) 2 gP x1),oQ (bT (r:=aJ) 2 gP [x6])] [3,13,14,15,16,17] [(3,ms 20 (g3+1) 2 aJ x7)] [(20,some (ar 76 (g3+1) 2 aJ x7))] [] (rk hC [] [9,18] [(9,vI (wr (x2+1)))] [] [] ⟨(x7,wr (x2+1)),(g3+1),h,lS⟩)
 ·obtain rfl:=so h
  exact cQ (rq hC [] [2,19] [(2,ms 20 g3 2 aJ x1)] [] [] (qw (lk hC [.ren 2 20 0] [2] [(2,ms 0 1 2 aJ x1)] [(0,some (ar 76 1 2 aJ x1)),(20,none)] [(0,true)]) (qr eW)))
theorem qQ{x}{r}(h:fY n x=some r):PQ G 320 [V.agg (aK x)] (V.agg (aK r)):=by
 unfold fY at h
 refine pq aN Tryz.func320 rfl fun w X hC=> ?_
 refine rq hC [.z (.nat 20),.z (.nat 21)] [1,2] [(1,V.ref 20 0),(2,V.ref 21 0)] [(20,some (E.cells (aK x))),(21,sc [V.t T.nilS,vI 0])] [(20,true),(21,true)] ?_
 obtain⟨x1,hx1,h⟩:=bd h
 obtain rfl:=so h
 exact rq hC [.z (.nat 22),oA (aP rI hx1),oQ (bT (r:=rI) 1 (fun _=>rfl) []),oQ (bT (r:=rI) 1 (fun _=>rfl) x.coefs)] (fr 3 5) [] [(22,some (ar 3 2 1 rI x1)),(20,sc [ms 22 2 1 rI x1,vI x.const])] [(22,true)] (rq hC [.z (.at 2),.z (.fz 22 [] [20])] [8] [] [(20,sc [vM rI x1,vI x.const]),(22,none),(21,sc [vM rI x1,vI x.const])] [] (qr eR))
theorem iK{list}{r}(h:cT n list=some r):VQ G 298 [] [vM aA list] (ms 0 1 2 aA r) [ar 63 1 2 aA r]:=by
 unfold cT at h
 refine vq aN Tryz.func298 rfl fun w X β0 hC hg=> ?_
 refine rq hC [] [2] [] [] [] (rq hC [.z (.nat 20)] [3,6] [(3,ms 20 1 2 aA [])] [(20,some (ar 63 1 2 aA []))] [(20,true)] (qs (rq hC [oN aA list] [7,8,9] [(7,vM aA list),(8,vI (list.length:Int)),(9,vI 0)] [] [] (qb (bC (γ:=Nat) h (fun x_ g_=>aX [(3,ms 20 g_ 2 aA x_.1),(7,vM aA list),(8,vI (list.length:Int)),(9,vI x_.2)] [(20,ar 63 g_ 2 aA x_.1)] [20]) 1 (lS) ?_)))))
 rintro again4 ⟨x1,x2⟩ g3 h
 refine rq hC [] [10] [(10,vB (decide (x2<(list.length:Int))))] [] [] (qs (aS h (fun c1 h=> ?_) (fun c1 h=> ?_)))
 ·refine qk (qs (qb ?_))
  obtain⟨x5,hx5,h⟩:=bd h
  refine rq hC [oR aA hx5,.z (.nat 21)] [5,11,12] [(5,V.ref 21 0)] [(21,some (E.cells (aK x5)))] [(21,true)] ?_
  obtain⟨x6,hx6,x7,hx7,h⟩:=cP h
  exact rk hC [oV (qQ G hx6),.z (.int 0),oA (aP aA hx7),oQ (bT (r:=aA) 2 aU x1),oQ (bT (r:=aA) 2 aU [x6])] [3,13,14,15,16,17] [(3,ms 20 (g3+1) 2 aA x7)] [(20,some (ar 63 (g3+1) 2 aA x7))] [] (rk hC [] [9,18] [(9,vI (wr (x2+1)))] [] [] ⟨(x7,wr (x2+1)),(g3+1),h,lS⟩)
 ·obtain rfl:=so h
  exact cQ (rq hC [] [2,19] [(2,ms 20 g3 2 aA x1)] [] [] (qw (lk hC [.ren 2 20 0] [2] [(2,ms 0 1 2 aA x1)] [(0,some (ar 63 1 2 aA x1)),(20,none)] [(0,true)]) (qr eW)))
theorem P1{x}{r}(h:m7 n x=some r):PQ G 273 [V.agg (jD x)] (V.agg (jD r)):=by
 unfold m7 at h
 refine pq aN Tryz.func273 rfl fun w X hC=> ?_
 refine rq hC [.z (.nat 20),.z (.nat 21)] [1,2] [(1,V.ref 20 0),(2,V.ref 21 0)] [(20,some (E.cells (jD x))),(21,sc [V.t T.nilS,V.t T.nilS])] [(20,true),(21,true)] ?_
 obtain⟨x1,hx1,h⟩:=bd h
 refine rq hC [oC [] [22] (iK G hx1)] (fr 3 4) [] [(22,some (ar 63 1 2 aA x1)),(20,sc [ms 22 1 2 aA x1,vM aA x.hi])] [(22,true)] ?_
 obtain⟨x2,hx2,h⟩:=bd h
 obtain rfl:=so h
 exact rq hC [oC [] [23] (iK G hx2)] (fr 7 4) [] [(23,some (ar 63 1 2 aA x2)),(20,sc [ms 22 1 2 aA x1,ms 23 1 2 aA x2])] [(23,true)] (rq hC [.z (.at 2),.z (.fz 22 [] [20]),.z (.at 2),.z (.fz 23 [] [20])] [11] [] [(20,sc [vM aA x1,vM aA x2]),(22,none),(23,none),(21,sc [vM aA x1,vM aA x2])] [] (qr eR))
theorem wN{list}{r}(h:fX n list=some r):VQ G 234 [] [vM aC list] (ms 0 1 2 aC r) [ar 56 1 2 aC r]:=by
 unfold fX at h
 refine vq aN Tryz.func234 rfl fun w X β0 hC hg=> ?_
 refine rq hC [] [2] [] [] [] (rq hC [.z (.nat 20)] [3,6] [(3,ms 20 1 2 aC [])] [(20,some (ar 56 1 2 aC []))] [(20,true)] (qs (rq hC [oN aC list] [7,8,9] [(7,vM aC list),(8,vI (list.length:Int)),(9,vI 0)] [] [] (qb (bC (γ:=Nat) h (fun x_ g_=>aX [(3,ms 20 g_ 2 aC x_.1),(7,vM aC list),(8,vI (list.length:Int)),(9,vI x_.2)] [(20,ar 56 g_ 2 aC x_.1)] [20]) 1 (lS) ?_)))))
 rintro again4 ⟨x1,x2⟩ g3 h
 refine rq hC [] [10] [(10,vB (decide (x2<(list.length:Int))))] [] [] (qs (aS h (fun c1 h=> ?_) (fun c1 h=> ?_)))
 ·refine qk (qs (qb ?_))
  obtain⟨x5,hx5,h⟩:=bd h
  refine rq hC [oR aC hx5,.z (.nat 21)] [5,11,12] [(5,V.ref 21 0)] [(21,some (E.cells (jD x5)))] [(21,true)] ?_
  obtain⟨x6,hx6,x7,hx7,h⟩:=cP h
  exact rk hC [oV (P1 G hx6),.z (.int 0),oA (aP aC hx7),oQ (bT (r:=aC) 2 b8 x1),oQ (bT (r:=aC) 2 b8 [x6])] [3,13,14,15,16,17] [(3,ms 20 (g3+1) 2 aC x7)] [(20,some (ar 56 (g3+1) 2 aC x7))] [] (rk hC [] [9,18] [(9,vI (wr (x2+1)))] [] [] ⟨(x7,wr (x2+1)),(g3+1),h,lS⟩)
 ·obtain rfl:=so h
  exact cQ (rq hC [] [2,19] [(2,ms 20 g3 2 aC x1)] [] [] (qw (lk hC [.ren 2 20 0] [2] [(2,ms 0 1 2 aC x1)] [(0,some (ar 56 1 2 aC x1)),(20,none)] [(0,true)]) (qr eW)))
theorem qR{x}{r}(h:fZ n x=some r):PQ G 299 [V.agg (cB x)] (V.agg (cB r)):=by
 unfold fZ at h
 refine pq aN Tryz.func299 rfl fun w X hC=> ?_
 refine rq hC [.z (.nat 20),.z (.nat 21)] [1,2] [(1,V.ref 20 0),(2,V.ref 21 0)] [(20,some (E.cells (cB x))),(21,sc [vS [],V.t T.nilS])] [(20,true),(21,true)] ?_
 obtain⟨x1,hx1,h⟩:=bd h
 obtain rfl:=so h
 exact rq hC [oC [] [22] (iK G hx1)] (fr 3 4) [] [(22,some (ar 63 1 2 aA x1)),(20,sc [vS x.array,ms 22 1 2 aA x1])] [(22,true)] (rq hC [.z (.at 2),.z (.fz 22 [] [20])] [7] [] [(20,sc [vS x.array,vM aA x1]),(22,none),(21,sc [vS x.array,vM aA x1])] [] (qr eR))
theorem wO(G:GS)(n:Nat)(self:Expr→Option Expr)(hself: ∀(q0:Expr) {r:Expr},self q0=some r→PQ G 300 [V.agg (cR q0)] (V.agg (cR r)))(list:List Expr){r:(List Expr)}(h:iO n self list=some r):VQ G 321 [] [vM aI list] (ms 0 1 7 aI r) [ar 84 1 7 aI r]:=by
 unfold iO at h
 refine vq aN Tryz.func321 rfl fun w X β0 hC hg=> ?_
 refine rq hC [] [2] [] [] [] (rq hC [.z (.nat 20)] [3,6] [(3,ms 20 1 7 aI [])] [(20,some (ar 84 1 7 aI []))] [(20,true)] (qs (rq hC [oN aI list] [7,8,9] [(7,vM aI list),(8,vI (list.length:Int)),(9,vI 0)] [] [] (qb (bC (γ:=Nat) h (fun x_ g_=>aX [(3,ms 20 g_ 7 aI x_.1),(7,vM aI list),(8,vI (list.length:Int)),(9,vI x_.2)] [(20,ar 84 g_ 7 aI x_.1)] [20]) 1 (lS) ?_)))))
 rintro again4 ⟨x1,x2⟩ g3 h
 refine rq hC [] [10] [(10,vB (decide (x2<(list.length:Int))))] [] [] (qs (aS h (fun c1 h=> ?_) (fun c1 h=> ?_)))
 ·refine qk (qs (qb ?_))
  obtain⟨x5,hx5,h⟩:=bd h
  refine rq hC [.z (.row (d5 x5)),.z (.nat 21),oQ (eU aI hx5 (cM x5))] [5,11,12] [(5,V.ref 21 0)] [(21,some (E.cells (cR x5)))] [(21,true)] ?_
  obtain⟨x6,hx6,x7,hx7,h⟩:=cP h
  exact rk hC [oV (hself x5 hx6),.z (.int 2),.z (.rows (List.map aI [x6])),oQ (rR x6),oA (aP aI hx7),oQ (bT (r:=aI) 7 dX x1),oQ (bT (r:=aI) 7 dX [x6])] [3,13,14,15,16,17] [(3,ms 20 (g3+1) 7 aI x7)] [(20,some (ar 84 (g3+1) 7 aI x7))] [] (rk hC [] [9,18] [(9,vI (wr (x2+1)))] [] [] ⟨(x7,wr (x2+1)),(g3+1),h,lS⟩)
 ·obtain rfl:=so h
  exact cQ (rq hC [] [2,19] [(2,ms 20 g3 7 aI x1)] [] [] (qw (lk hC [.ren 2 20 0] [2] [(2,ms 0 1 7 aI x1)] [(0,some (ar 84 1 7 aI x1)),(20,none)] [(0,true)]) (qr eW)))
theorem P2(G:GS): ∀(n:Nat) (x:Expr) {r:Expr} (h:s_l16OwnExpr n x=some r),PQ G 300 [V.agg (cR x)] (V.agg (cR r)):=by
 intro n
 induction n with
 |zero=>intro x r h;rw [s_l16OwnExpr.eq_def] at h;cases h
 |succ n ih=>
  intro x r h
  rw [s_l16OwnExpr.eq_def] at h;dsimp only at h
  refine pq aN Tryz.func300 rfl fun w X hC=> ?_
  refine rq hC [.z (.nat 20),.z (.nat 21)] [1,2] [(1,V.ref 20 0),(2,V.ref 21 0)] [(20,some (E.cells (cR x))),(21,sc [vI 0,vI 0,V.t T.nilS,vI 0,vS [],V.t T.nilS,V.t T.nilS])] [(20,true),(21,true)] ?_
  obtain⟨x1,hx1,h⟩:=bd h
  refine rq hC [oV (qQ G hx1)] (fr 3 4) [] [(20,sc [vI x.kind,vI x.num,vM rI x1.coefs,vI x1.const,vS x.read.array,vM aA x.read.subs,vM aI x.kids])] [] ?_
  obtain⟨x2,hx2,h⟩:=bd h
  refine rq hC [oV (qR G hx2)] (fr 7 4) [] [(20,sc [vI x.kind,vI x.num,vM rI x1.coefs,vI x1.const,vS x2.array,vM aA x2.subs,vM aI x.kids])] [] ?_
  obtain⟨x3,hx3,h⟩:=bd h
  obtain rfl:=so h
  exact rq hC [oC [] [22] (wO G n (s_l16OwnExpr n) (fun q0 r h=>ih q0 h) x.kids hx3)] (fr 11 4) [] [(22,some (ar 84 1 7 aI x3)),(20,sc [vI x.kind,vI x.num,vM rI x1.coefs,vI x1.const,vS x2.array,vM aA x2.subs,ms 22 1 7 aI x3])] [(22,true)] (rq hC [.z (.at 2),.z (.fz 22 [] [20])] [15] [] [(20,sc [vI x.kind,vI x.num,vM rI x1.coefs,vI x1.const,vS x2.array,vM aA x2.subs,vM aI x3]),(22,none),(21,sc [vI x.kind,vI x.num,vM rI x1.coefs,vI x1.const,vS x2.array,vM aA x2.subs,vM aI x3])] [] (qr eR))
theorem O9{x}{r}(h:kK n x=some r):PQ G 274 [V.agg (cO x)] (V.agg (cO r)):=by
 unfold kK at h
 refine pq aN Tryz.func274 rfl fun w X hC=> ?_
 refine rq hC [.z (.nat 20),.z (.nat 21)] [1,2] [(1,V.ref 20 0),(2,V.ref 21 0)] [(20,some (E.cells (cO x))),(21,sc [vS [],V.t T.nilS,vI 0,vI 0,V.t T.nilS,vI 0,vS [],V.t T.nilS,V.t T.nilS])] [(20,true),(21,true)] ?_
 obtain⟨x1,hx1,h⟩:=bd h
 refine rq hC [oV (qR G hx1)] (fr 3 4) [] [(20,sc [vS x1.array,vM aA x1.subs,vI x.value.kind,vI x.value.num,vM rI x.value.index.coefs,vI x.value.index.const,vS x.value.read.array,vM aA x.value.read.subs,vM aI x.value.kids])] [] ?_
 obtain⟨x2,hx2,h⟩:=bd h
 obtain rfl:=so h
 exact rq hC [oV (P2 G n x.value hx2)] (fr 7 4) [] [(20,sc [vS x1.array,vM aA x1.subs,vI x2.kind,vI x2.num,vM rI x2.index.coefs,vI x2.index.const,vS x2.read.array,vM aA x2.read.subs,vM aI x2.kids])] [] (rq hC [] [11] [] [(21,sc [vS x1.array,vM aA x1.subs,vI x2.kind,vI x2.num,vM rI x2.index.coefs,vI x2.index.const,vS x2.read.array,vM aA x2.read.subs,vM aI x2.kids])] [] (qr eR))
theorem wL{list}{r}(h:fV n list=some r):VQ G 235 [] [vM aG list] (ms 0 1 9 aG r) [ar 86 1 9 aG r]:=by
 unfold fV at h
 refine vq aN Tryz.func235 rfl fun w X β0 hC hg=> ?_
 refine rq hC [] [2] [] [] [] (rq hC [.z (.nat 20)] [3,6] [(3,ms 20 1 9 aG [])] [(20,some (ar 86 1 9 aG []))] [(20,true)] (qs (rq hC [oN aG list] [7,8,9] [(7,vM aG list),(8,vI (list.length:Int)),(9,vI 0)] [] [] (qb (bC (γ:=Nat) h (fun x_ g_=>aX [(3,ms 20 g_ 9 aG x_.1),(7,vM aG list),(8,vI (list.length:Int)),(9,vI x_.2)] [(20,ar 86 g_ 9 aG x_.1)] [20]) 1 (lS) ?_)))))
 rintro again4 ⟨x1,x2⟩ g3 h
 refine rq hC [] [10] [(10,vB (decide (x2<(list.length:Int))))] [] [] (qs (aS h (fun c1 h=> ?_) (fun c1 h=> ?_)))
 ·refine qk (qs (qb ?_))
  obtain⟨x5,hx5,h⟩:=bd h
  refine rq hC [oR aG hx5,.z (.nat 21)] [5,11,12] [(5,V.ref 21 0)] [(21,some (E.cells (cO x5)))] [(21,true)] ?_
  obtain⟨x6,hx6,x7,hx7,h⟩:=cP h
  exact rk hC [oV (O9 G hx6),.z (.int 0),oA (aP aG hx7),oQ (bT (r:=aG) 9 dW x1),oQ (bT (r:=aG) 9 dW [x6])] [3,13,14,15,16,17] [(3,ms 20 (g3+1) 9 aG x7)] [(20,some (ar 86 (g3+1) 9 aG x7))] [] (rk hC [] [9,18] [(9,vI (wr (x2+1)))] [] [] ⟨(x7,wr (x2+1)),(g3+1),h,lS⟩)
 ·obtain rfl:=so h
  exact cQ (rq hC [] [2,19] [(2,ms 20 g3 9 aG x1)] [] [] (qw (lk hC [.ren 2 20 0] [2] [(2,ms 0 1 9 aG x1)] [(0,some (ar 86 1 9 aG x1)),(20,none)] [(0,true)]) (qr eW)))
theorem P0{x}{r}(h:kL n x=some r):PQ G 187 [V.agg (lD x)] (V.agg (lD r)):=by
 unfold kL at h
 refine pq aN Tryz.func187 rfl fun w X hC=> ?_
 refine rq hC [.z (.nat 20),.z (.nat 21)] [1,2] [(1,V.ref 20 0),(2,V.ref 21 0)] [(20,some (E.cells (lD x))),(21,sc [V.t T.nilS,V.t T.nilS])] [(20,true),(21,true)] ?_
 obtain⟨x1,hx1,h⟩:=bd h
 refine rq hC [oC [] [22] (wN G hx1)] (fr 3 4) [] [(22,some (ar 56 1 2 aC x1)),(20,sc [ms 22 1 2 aC x1,vM aG x.body])] [(22,true)] ?_
 obtain⟨x2,hx2,h⟩:=bd h
 obtain rfl:=so h
 exact rq hC [oC [] [23] (wL G hx2)] (fr 7 4) [] [(23,some (ar 86 1 9 aG x2)),(20,sc [ms 22 1 2 aC x1,ms 23 1 9 aG x2])] [(23,true)] (rq hC [.z (.at 2),.z (.fz 22 [] [20]),.z (.at 2),.z (.fz 23 [] [20])] [11] [] [(20,sc [vM aC x1,vM aG x2]),(22,none),(23,none),(21,sc [vM aC x1,vM aG x2])] [] (qr eR))
theorem wM{list}{r}(h:fW n list=some r):VQ G 124 [] [vM aD list] (ms 0 1 2 aD r) [ar 60 1 2 aD r]:=by
 unfold fW at h
 refine vq aN Tryz.func124 rfl fun w X β0 hC hg=> ?_
 refine rq hC [] [2] [] [] [] (rq hC [.z (.nat 20)] [3,6] [(3,ms 20 1 2 aD [])] [(20,some (ar 60 1 2 aD []))] [(20,true)] (qs (rq hC [oN aD list] [7,8,9] [(7,vM aD list),(8,vI (list.length:Int)),(9,vI 0)] [] [] (qb (bC (γ:=Nat) h (fun x_ g_=>aX [(3,ms 20 g_ 2 aD x_.1),(7,vM aD list),(8,vI (list.length:Int)),(9,vI x_.2)] [(20,ar 60 g_ 2 aD x_.1)] [20]) 1 (lS) ?_)))))
 rintro again4 ⟨x1,x2⟩ g3 h
 refine rq hC [] [10] [(10,vB (decide (x2<(list.length:Int))))] [] [] (qs (aS h (fun c1 h=> ?_) (fun c1 h=> ?_)))
 ·refine qk (qs (qb ?_))
  obtain⟨x5,hx5,h⟩:=bd h
  refine rq hC [oR aD hx5,.z (.nat 21)] [5,11,12] [(5,V.ref 21 0)] [(21,some (E.cells (lD x5)))] [(21,true)] ?_
  obtain⟨x6,hx6,x7,hx7,h⟩:=cP h
  exact rk hC [oV (P0 G hx6),.z (.int 0),oA (aP aD hx7),oQ (bT (r:=aD) 2 b7 x1),oQ (bT (r:=aD) 2 b7 [x6])] [3,13,14,15,16,17] [(3,ms 20 (g3+1) 2 aD x7)] [(20,some (ar 60 (g3+1) 2 aD x7))] [] (rk hC [] [9,18] [(9,vI (wr (x2+1)))] [] [] ⟨(x7,wr (x2+1)),(g3+1),h,lS⟩)
 ·obtain rfl:=so h
  exact cQ (rq hC [] [2,19] [(2,ms 20 g3 2 aD x1)] [] [] (qw (lk hC [.ren 2 20 0] [2] [(2,ms 0 1 2 aD x1)] [(0,some (ar 60 1 2 aD x1)),(20,none)] [(0,true)]) (qr eW)))
theorem xZ{x}{r}(h:gO n x=some r):PQ G 59 [V.agg (bH x)] (V.agg (bH r)):=by
 unfold gO at h
 refine pq aN Tryz.func59 rfl fun w X hC=> ?_
 refine rq hC [.z (.nat 20),.z (.nat 21)] [1,2] [(1,V.ref 20 0),(2,V.ref 21 0)] [(20,some (E.cells (bH x))),(21,sc [V.t T.nilS,V.t T.nilS])] [(20,true),(21,true)] ?_
 obtain⟨x1,hx1,h⟩:=bd h
 refine rq hC [oC [] [22] (uX G hx1)] (fr 3 4) [] [(22,some (ar 76 1 2 aJ x1)),(20,sc [ms 22 1 2 aJ x1,vM aD x.parts])] [(22,true)] ?_
 obtain⟨x2,hx2,h⟩:=bd h
 obtain rfl:=so h
 exact rq hC [oC [] [23] (wM G hx2)] (fr 7 4) [] [(23,some (ar 60 1 2 aD x2)),(20,sc [ms 22 1 2 aJ x1,ms 23 1 2 aD x2])] [(23,true)] (rq hC [.z (.at 2),.z (.fz 22 [] [20]),.z (.at 2),.z (.fz 23 [] [20])] [11] [] [(20,sc [vM aJ x1,vM aD x2]),(22,none),(23,none),(21,sc [vM aJ x1,vM aD x2])] [] (qr eR))
theorem xW{list}{r}(h:oE n list=some r):PQ G 142 [vM aJ list] (vB r):=by
 unfold oE at h
 refine pq aN Tryz.func142 rfl fun w X hC=> ?_
 refine rq hC [] [2] [] [] [] (qs (rq hC [] [3] [(3,vI 0)] [] [] (qb (jF h (fun x_=>aX [(0,vM aJ list),(3,vI x_)] [] []) lS ?_))))
 rintro again2 x1 h
 refine qs (rq hC [oN aJ list] (fr 6 4) [(9,vB (decide (x1<(list.length:Int))))] [] [] (aS h (fun c1 h=> ?_) (fun c1 h=> ?_)))
 ·refine qk (qs (qb ?_))
  obtain⟨x3,hx3,h⟩:=bd h
  refine rq hC [oR aJ hx3,.z (.nat 20)] [4,12,13,14,15] [(4,V.ref 20 0)] [(20,sc [vS x3.name,vM rI x3.dims])] [(20,true)] (qs (vj h (fun x_=>aX [(0,vM aJ list),(3,vI x1),(4,V.ref 20 0),(56,vB x_)] [(20,E.cells [vS x3.name,vM rI x3.dims])] [20]) (fun j4 h=> ?_) (fun x6 h=> ?_)))
  ·
   refine aQ h (fun c2 h=> ?_) (fun c2 h=> ?_)
   ·refine aQ h (fun c3 h=> ?_) (fun c3 h=> ?_)
    ·refine aQ h (fun c4 h=> ?_) (fun c4 h=> ?_)
     ·refine aQ h (fun c5 h=> ?_) (fun c5 h=> ?_)
      ·refine aQ h (fun c6 h=> ?_) (fun c6 h=> ?_)
       ·exact dk hC bF (rF 4 c2++rF 4 c3++rF 3 c4++rF 9 c5++[oF c4,oF c5,oF c4,eF,eF,eF,oN rI x3.dims,eF,eF]++rF 3 c6++[oN rI x3.dims,oF c6,oF c6]) (fr 16 41) [(56,vB (decide ((2:Int)<(x3.dims.length:Int))))] [] [] (lE h)
       ·exact dk hC bF (rF 4 c2++rF 4 c3++rF 3 c4++rF 9 c5++[oF c4,oF c5,oF c4,eF,eF,eF,oN rI x3.dims,eF,eF]++rT 5 c6) (fr 16 41) [(56,vB true)] [] [] (lE h)
      ·obtain⟨x5,hx5,h⟩:=bd h
       refine aQ h (fun c7 h=> ?_) (fun c7 h=> ?_)
       ·refine aQ h (fun c8 h=> ?_) (fun c8 h=> ?_)
        ·exact dk hC bF (rF 4 c2++rF 4 c3++rF 3 c4++rT 4 c5++[oR aJ hx5]++rT 5 c5++[oF c4,oT c5,oF c4]++rF 3 c7++[oN rI x3.dims,oF c7,oF c7]++rF 3 c8++[oN rI x3.dims,oF c8,oF c8]) (fr 16 41) [(56,vB (decide ((2:Int)<(x3.dims.length:Int))))] [] [] (lE h)
        ·exact dk hC bF (rF 4 c2++rF 4 c3++rF 3 c4++rT 4 c5++[oR aJ hx5]++rT 5 c5++[oF c4,oT c5,oF c4]++rF 3 c7++[oN rI x3.dims,oF c7,oF c7]++rT 5 c8) (fr 16 41) [(56,vB true)] [] [] (lE h)
       ·exact dk hC bF (rF 4 c2++rF 4 c3++rF 3 c4++rT 4 c5++[oR aJ hx5]++rT 5 c5++[oF c4,oT c5,oF c4]++rT 5 c7++sT 5) (fr 16 41) [(56,vB true)] [] [] (lE h)
     ·exact dk hC bF (rF 4 c2++rF 4 c3++rT 5 c4++sT 10) (fr 16 41) [(56,vB true)] [] [] (lE h)
    ·exact dk hC bF (rF 4 c2++rT 4 c3++sT 15) (fr 16 41) [(56,vB true)] [] [] (lE h)
   ·exact dk hC bF (rT 4 c2++sT 19) (fr 16 41) [(56,vB true)] [] [] (lE h)
  ·refine aS h (fun c9 h=> ?_) (fun c9 h=> ?_)
   ·obtain rfl:=so h
    exact rq hC [] [2] [(2,vB false)] [] [] (qr eR)
   ·refine qk (rq hC [] [5] [(5,vI 0)] [] [] (qb (jF h (fun x_=>aX [(0,vM aJ list),(3,vI x1),(4,V.ref 20 0),(5,vI x_)] [(20,E.cells [vS x3.name,vM rI x3.dims])] [20]) lS ?_)))
    rintro again8 x7 h
    refine qs (rq hC [oN rI x3.dims] (fr 57 5) [(61,vB (decide (x7<(x3.dims.length:Int))))] [] [] (aS h (fun c10 h=> ?_) (fun c10 h=> ?_)))
    ·refine qk (qs (qb (vj h (fun x_=>aX [(0,vM aJ list),(3,vI x1),(4,V.ref 20 0),(5,vI x7),(77,vB x_)] [(20,E.cells [vS x3.name,vM rI x3.dims])] [20]) (fun j9 h=> ?_) (fun x11 h=> ?_))))
     ·
      obtain⟨x10,hx10,h⟩:=bd h
      refine aQ h (fun c11 h=> ?_) (fun c11 h=> ?_)
      ·exact rk hC ([oR rI hx10]++rF 4 c11++[oR rI hx10]++rF 3 c11) (fr 64 14) [(77,vB (decide ((6:Int)<x10)))] [] [] (lE h)
      ·exact rk hC ([oR rI hx10]++rT 7 c11) (fr 64 14) [(77,vB true)] [] [] (lE h)
     ·refine aS h (fun c12 h=> ?_) (fun c12 h=> ?_)
      ·obtain rfl:=so h
       exact rq hC [] [2] [(2,vB false)] [] [] (qr eR)
      ·exact qk (rk hC [] [5,62,63] [(5,vI (wr (x7+1)))] [] [] (lE h))
    ·exact cQ (rk hC [] [3,10,11] [(3,vI (wr (x1+1)))] [] [] (lE h))
 ·obtain rfl:=so h
  exact cQ (rq hC [oN aJ list] [2,78,79,80] [(2,vB (decide ((list.length:Int)≤4)))] [] [] (qr eR))
theorem l4{a}{r}(h:eK n a=some r):VQ G 275 [] [V.agg (aK a)] (V.agg [ms 0 1 1 rI r.coefs,vI r.const]) [ar 3 1 1 rI r.coefs]:=by
 unfold eK at h
 refine vq aN Tryz.func275 rfl fun w X β0 hC hg=> ?_
 refine rq hC [.z (.b (true)),.z (.nat 20)] [1,2] [(1,V.tp (aR a)),(2,V.ref 20 0)] [(20,sc [V.t T.nilS,vI 0])] [(20,true)] (qs (rq hC [oN rI a.coefs] (fr 3 4) [(6,vB (decide ((a.coefs.length:Int)=0)))] [] [] (aS h (fun c1 h=> ?_) (fun c1 h=> ?_))))
 ·obtain rfl:=so h
  exact rq hC [] [7,8,9] [] [(20,sc [V.t T.nilS,vI a.const])] [] (qw (lk hC [.growc 20 0 21 3] [] [] [(21,some (ar 3 1 1 rI [])),(20,sc [ms 21 1 1 rI [],vI a.const])] [(21,true)]) (qw (lk hC [.rn 21 0 [] [20]] [] [] [(20,sc [ms 0 1 1 rI [],vI a.const]),(21,none),(0,some (ar 3 1 1 rI []))] [(0,true)]) (qr eW)))
 ·refine qk (qs ?_)
  obtain⟨x1,hx1,h⟩:=bd h
  obtain rfl:=so h
  exact dk hC bF [.z (.nat 21),oA (aP rI hx1),oQ (bT (r:=rI) 1 (fun _=>rfl) []),oQ (bT (r:=rI) 1 (fun _=>rfl) a.coefs)] (fr 10 7) [] [(21,some (ar 3 2 1 rI x1)),(20,sc [ms 21 2 1 rI x1,vI a.const])] [(21,true)] (qw (lk hC [.rn 21 0 [] [20]] [] [] [(20,sc [ms 0 1 1 rI x1,vI a.const]),(21,none),(0,some (ar 3 1 1 rI x1))] [(0,true)]) (qr eW))
theorem l5{a}{r}(h:eM n a=some r):VQ G 236 [] [V.agg (cB a)] (V.agg [vS r.array,ms 0 1 2 aA r.subs]) [ar 63 1 2 aA r.subs]:=by
 unfold eM at h
 refine vq aN Tryz.func236 rfl fun w X β0 hC hg=> ?_
 refine rq hC [.z (.b (true)),.z (.nat 20)] [1,2] [(1,V.tp (dO a)),(2,V.ref 20 0)] [(20,sc [vS [],V.t T.nilS])] [(20,true)] (rq hC [.z (.nat 21)] [3,5,6,7] [(3,V.ref 21 0)] [(21,sc [vS a.array,V.t T.nilS])] [(21,true)] (qs (rq hC [] [4] [(4,vI 0)] [] [] (qb (qw (lk hC [.growc 21 1 22 63] [] [] [(22,some (ar 63 1 2 aA [])),(21,sc [vS a.array,ms 22 1 2 aA []])] [(22,true)]) ?_)))))
 refine bC (γ:=Nat) h (fun x_ g_=>aX [(1,V.tp (dO a)),(2,V.ref 20 0),(3,V.ref 21 0),(4,vI x_.2)] [(20,E.cells [vS [],V.t T.nilS]),(21,E.cells [vS a.array,ms 22 g_ 2 aA x_.1]),(22,ar 63 g_ 2 aA x_.1)] [20,21,22]) 1 (lS) ?_
 rintro again4 ⟨x1,x2⟩ g3 h
 refine qs (rq hC [oN aA a.subs] (fr 8 5) [(12,vB (decide (x2<(a.subs.length:Int))))] [] [] (aS h (fun c1 h=> ?_) (fun c1 h=> ?_)))
 ·refine qk (qs (qb ?_))
  obtain⟨x5,hx5,x6,hx6,x7,hx7,h⟩:=kG h
  exact dk hC bF [oR aA hx5,oC [] [23] (l4 G hx6),.z (.at 4),.z (.fz 23 [22] []),.z (.int 0),oA (aP aA hx7),oQ (bT (r:=aA) 2 aU x1),oQ (bT (r:=aA) 2 aU [x6])] (fr 15 11) [] [(23,none),(22,some (ar 63 (g3+1) 2 aA x7)),(21,sc [vS a.array,ms 22 (g3+1) 2 aA x7])] [(23,true)] (rk hC [] [4,13,14] [(4,vI (wr (x2+1)))] [] [] ⟨(x7,wr (x2+1)),(g3+1),h,lS⟩)
 ·obtain rfl:=so h
  exact cQ (rq hC [] [26] [] [(20,sc [vS a.array,ms 22 g3 2 aA x1])] [] (qw (lk hC [.rn 22 0 [] [20,21]] [] [] [(20,sc [vS a.array,ms 0 1 2 aA x1]),(21,sc [vS a.array,ms 0 1 2 aA x1]),(22,none),(0,some (ar 63 1 2 aA x1))] [(0,true)]) (qr eW)))
theorem aBS(G:GS): ∀(n:Nat) (out:List Access) (outG:Nat) (e:Expr) {r:(List Access)} (h:s_l3Reads n out e=some r),VQ G 246 [ar 81 outG 2 aV out] [ms 0 outG 2 aV out,V.agg (cR e)] (ms 0 (outG+1) 2 aV r) [ar 81 (outG+1) 2 aV r]:=by
 intro n
 induction n with
 |zero=>intro out outG e r h;rw [s_l3Reads.eq_def] at h;cases h
 |succ n ih=>
  intro out outG e r h
  rw [s_l3Reads.eq_def] at h;dsimp only at h
  refine vq aN Tryz.func246 rfl fun w X β0 hC hg=> ?_
  refine rq hC [.z (.b (true))] [3,4] [(3,V.tp (fD e))] [] [] ?_
  obtain⟨j1,hj1,h⟩:=R3 h
  refine n4 (γ:=Nat) (j:=j1) (r:=r) (fun x_ g_=>aX [(0,ms 0 g_ 2 aV x_),(3,V.tp (fD e))] [(0,ar 81 g_ 2 aV x_)] [0]) ?_ ?_
  ·
   refine rq hC [] [6,7,8] [(8,vB (decide (e.kind=3)))] [] [] (aS h (fun c1 h=> ?_) (fun c1 h=> ?_))
   ·obtain⟨x2,hx2,x3,hx3,h⟩:=cP h
    exact rk hC [oC [] [20] (l5 G hx2),.z (.at 3),.z (.fz 20 [12] []),.z (.int 0),oA (aP aV hx3),oQ (bT (r:=aV) 2 pC out),oQ (bT (r:=aV) 2 pC [x2])] [0,9,10,11,12,13,14] [(0,ms 0 (outG+1) 2 aV x3)] [(20,none),(0,some (ar 81 (outG+1) 2 aV x3))] [(20,true)] ⟨x3,(outG+1),h,lS⟩
   ·exact qk ⟨out,outG,h,lS⟩
  ·rintro x4 g5 h
   subst hj1
   refine qs (rq hC [] [5] [(5,vI 0)] [] [] (qb (bC (γ:=Nat) h (fun x_ g_=>aX [(0,ms 0 g_ 2 aV x_.1),(3,V.tp (fD e)),(5,vI x_.2)] [(0,ar 81 g_ 2 aV x_.1)] [0]) g5 (lS) ?_)))
   rintro again9 ⟨x6,x7⟩ g8 h
   refine qs (rq hC [oN aI e.kids] (fr 15 5) [(19,vB (decide (x7<(e.kids.length:Int))))] [] [] (aS h (fun c2 h=> ?_) (fun c2 h=> ?_)))
   ·refine qk (qs (qb ?_))
    obtain⟨x10,hx10,x11,hx11,h⟩:=cP h
    exact rk hC [.z (.row (d5 x10)),oQ (eU aI hx10 (cM x10)),oC [0] [] (ih x6 g8 x10 hx11)] [0,22,23,24,25,26,27,28] [(0,ms 0 (g8+1) 2 aV x11)] [(0,some (ar 81 (g8+1) 2 aV x11))] [(0,true)] (rk hC [] [5,20,21] [(5,vI (wr (x7+1)))] [] [] ⟨(x11,wr (x7+1)),(g8+1),h,lS⟩)
   ·obtain rfl:=so h
    exact cQ (rq hC [] [4,29] [(4,ms 0 g8 2 aV x6)] [] [] (qw (uF 4 0 outG g8 2 0 (List.map aV x6).length (e:= .arr 81 g8 2 (List.map aV x6)) rfl (by kernel_rfl) (by kernel_rfl) rfl rfl hg.1) (qr eW)))
theorem aDp{a}{r}(h:tC n a=some r):PQ G 240 [V.agg [vS a.name,vM rI a.dims]] (vI r):=by
 unfold tC at h
 refine pq aN Tryz.func240 rfl fun w X hC=> ?_
 refine rq hC [.z (.b (true))] [1,2] [(1,V.tp [T.str a.name,T.sl (List.map rI a.dims)])] [] [] (rq hC [] [3] [(3,vI 1)] [] [] (qs (rq hC [] [4] [(4,vI 0)] [] [] (qb (jF h (fun x_=>aX [(1,V.tp [T.str a.name,T.sl (List.map rI a.dims)]),(3,vI x_.1),(4,vI x_.2)] [] []) lS ?_)))))
 rintro again3 ⟨x1,x2⟩ h
 refine qs (rq hC [oN rI a.dims] (fr 5 5) [(9,vB (decide (x2<(a.dims.length:Int))))] [] [] (aS h (fun c1 h=> ?_) (fun c1 h=> ?_)))
 ·refine qk (qs (qb ?_))
  obtain⟨x4,hx4,h⟩:=bd h
  exact rk hC [oR rI hx4] [3,12,13,14,15,16,17,18] [(3,vI (wr (x1*x4)))] [] [] (rk hC [] [4,10,11] [(4,vI (wr (x2+1)))] [] [] (lE h))
 ·obtain rfl:=so h
  exact cQ (rq hC [] [2,19] [(2,vI x1)] [] [] (qr eR))
theorem o7{a}{point}{r}(h:iD n a point=some r):PQ G 248 [V.agg (aK a),vM rI point] (vI r):=by
 unfold iD at h
 refine pq aN Tryz.func248 rfl fun w X hC=> ?_
 refine rq hC [.z (.b (true))] [2,4] [(2,V.tp (aR a))] [] [] (rq hC [] [5,7,8] [(5,vI a.const)] [] [] (qs (rq hC [] [6] [(6,vI 0)] [] [] (qb (jF h (fun x_=>aX [(1,vM rI point),(2,V.tp (aR a)),(5,vI x_.1),(6,vI x_.2)] [] []) lS ?_)))))
 rintro again3 ⟨x1,x2⟩ h
 refine qs (vj h (fun x_=>aX [(1,vM rI point),(2,V.tp (aR a)),(5,vI x1),(6,vI x2),(19,vB x_)] [] []) (fun j4 h=> ?_) (fun x5 h=> ?_))
 ·
  refine aQ h (fun c1 h=> ?_) (fun c1 h=> ?_)
  ·exact rk hC ([oN rI point]++rF 6 c1) (fr 9 11) [(19,vB false)] [] [] (lE h)
  ·exact rk hC ([oN rI point]++rT 4 c1++[oN rI a.coefs,oT c1,oT c1]) (fr 9 11) [(19,vB (decide (x2<(a.coefs.length:Int))))] [] [] (lE h)
 ·refine aS h (fun c2 h=> ?_) (fun c2 h=> ?_)
  ·refine qk (qs (qb ?_))
   obtain⟨x6,hx6,x7,hx7,h⟩:=cP h
   exact dk hC bF [oR rI hx6,oR rI hx7] [5,22,23,24,25,26,27,28,29,30,31,32,33] [(5,vI (wr (x1+(wr (x6*x7)))))] [] [] (rk hC [] [6,20,21] [(6,vI (wr (x2+1)))] [] [] (lE h))
  ·obtain rfl:=so h
   exact cQ (rq hC [] [4,34] [(4,vI x1)] [] [] (qr eR))
theorem O1{list}{a}{point}{r}(h:qD n list a point=some r):PQ G 247 [vM aJ list,V.agg (cB a),vM rI point] (vI r):=by
 unfold qD at h
 refine pq aN Tryz.func247 rfl fun w X hC=> ?_
 refine rq hC [.z (.b (true))] [4,6] [(4,V.tp (dO a))] [] [] (rq hC [] [7] [(7,vI 0)] [] [] (qs (rq hC [] [8] [(8,vI 0)] [] [] (qb (jF h (fun x_=>aX [(0,vM aJ list),(2,vM rI point),(4,V.tp (dO a)),(7,vI x_.1),(8,vI x_.2)] [] []) lS ?_)))))
 rintro again3 ⟨x1,x2⟩ h
 refine qs (rq hC [oN aJ list] (fr 12 4) [(15,vB (decide (x2<(list.length:Int))))] [] [] (aS h (fun c1 h=> ?_) (fun c1 h=> ?_)))
 ·refine qk (qs (qb (qs (qs ?_))))
  obtain⟨x4,hx4,h⟩:=bd h
  refine dk hC bF [oR aJ hx4] (fr 18 8) [(25,vB (!decide (x4.name=a.array)))] [] [] (aS h (fun c2 h=> ?_) (fun c2 h=> ?_))
  ·obtain⟨x5,hx5,h⟩:=bd h
   exact rq hC [oR aJ hx4,oV (aDp G hx5)] [7,26,27,28,29,30,31,32] [(7,vI (wr (x1+x5)))] [] [] (cQ (rk hC [] [8,16,17] [(8,vI (wr (x2+1)))] [] [] (lE h)))
  ·refine qk (rq hC [] [9] [(9,vI 0)] [] [] (qs (rq hC [] [10] [(10,vI 0)] [] [] (qb (jF h (fun x_=>aX [(0,vM aJ list),(2,vM rI point),(4,V.tp (dO a)),(7,vI x1),(8,vI x2),(9,vI x_.1),(10,vI x_.2)] [] []) lS ?_)))))
   rintro again8 ⟨x6,x7⟩ h
   refine qs (rq hC [oN aA a.subs] (fr 33 5) [(37,vB (decide (x7<(a.subs.length:Int))))] [] [] (aS h (fun c3 h=> ?_) (fun c3 h=> ?_)))
   ·refine qk (qs (qb (qs (qs (dk hC bF [oN aA a.subs,oR aJ hx4,oN rI x4.dims] (fr 40 10) [(49,vB (!decide ((a.subs.length:Int)=(x4.dims.length:Int))))] [] [] ?_)))))
    refine aS h (fun c4 h=> ?_) (fun c4 h=> ?_)
    ·obtain rfl:=so h
     exact rq hC [] [6] [(6,vI (-1))] [] [] (qr eR)
    ·refine qk ?_
     obtain⟨x9,hx9,x10,hx10,h⟩:=cP h
     refine rq hC [oR aA hx9,oV (o7 G hx10)] [11,50,51,52,53,54,55,56] [(11,vI x10)] [] [] (qs (vj h (fun x_=>aX [(0,vM aJ list),(2,vM rI point),(4,V.tp (dO a)),(7,vI x1),(8,vI x2),(9,vI x6),(10,vI x7),(11,vI x10),(70,vB x_)] [] []) (fun j11 h=> ?_) (fun x13 h=> ?_)))
     ·
      refine aQ h (fun c5 h=> ?_) (fun c5 h=> ?_)
      ·obtain⟨x12,hx12,h⟩:=bd h
       exact rk hC (rF 4 c5++[oR aJ hx4]++rF 4 c5++[oR rI hx12]++rF 3 c5) (fr 57 14) [(70,vB (decide (x12≤x10)))] [] [] (lE h)
      ·exact rk hC (rT 11 c5) (fr 57 14) [(70,vB true)] [] [] (lE h)
     ·refine aS h (fun c6 h=> ?_) (fun c6 h=> ?_)
      ·obtain rfl:=so h
       exact rq hC [] [6] [(6,vI (-1))] [] [] (qr eR)
      ·refine qk ?_
       obtain⟨x14,hx14,h⟩:=bd h
       exact rk hC [oR aJ hx4,oR rI hx14] [9,71,72,73,74,75,76,77,78,79,80,81,82] [(9,vI (wr ((wr (x6*x14))+x10)))] [] [] (rk hC [] [10,38,39] [(10,vI (wr (x7+1)))] [] [] (lE h))
   ·obtain rfl:=so h
    exact cQ (rq hC [] [6,83,84,85] [(6,vI (wr (x1+x6)))] [] [] (qr eR))
 ·obtain rfl:=so h
  exact cQ (rq hC [] [6] [(6,vI (-1))] [] [] (qr eR))
theorem aBN{list}{s}{point}{r}(h:qC n list s point=some r):VQ G 200 [] [vM aJ list,V.agg (cO s),vM rI point] (V.tup [ms 0 1 1 rI r.1,vI r.2.1,vB r.2.2]) [ar 3 1 1 rI r.1]:=by
 unfold qC at h
 refine vq aN Tryz.func200 rfl fun w X β0 hC hg=> ?_
 refine rq hC [.z (.b (true))] [4,6,7,8] [(4,V.tp (n6 s))] [] [] (rq hC [.z (.nat 20)] [9,14] [(9,ms 20 1 1 rI [])] [(20,some (ar 3 1 1 rI []))] [(20,true)] ?_)
 obtain⟨x1,hx1,h⟩:=bd h
 refine rq hC [.z (.nat 21),oC [21] [] (aBS G n [] 1 s.value hx1)] [10,15,16,17,18] [(10,ms 21 2 2 aV x1)] [(21,some (ar 81 2 2 aV x1))] [(21,true),(21,true)] (qs (rq hC [] [11] [(11,vI 0)] [] [] (qb (bC (γ:=Nat) h (fun x_ g_=>aX [(0,vM aJ list),(2,vM rI point),(4,V.tp (n6 s)),(9,ms 20 g_ 1 rI x_.1),(10,ms 21 2 2 aV x1),(11,vI x_.2)] [(20,ar 3 g_ 1 rI x_.1),(21,ar 81 2 2 aV x1)] [20,21]) 1 (lS) ?_))))
 rintro again5 ⟨x2,x3⟩ g4 h
 refine qs (rq hC [oN aV x1] (fr 19 4) [(22,vB (decide (x3<(x1.length:Int))))] [] [] (aS h (fun c1 h=> ?_) (fun c1 h=> ?_)))
 ·refine qk (qs (qb ?_))
  obtain⟨x6,hx6,x7,hx7,h⟩:=cP h
  refine rq hC [oQ (kF aV hx6),oX aV hx6,oV (O1 G hx7)] [12,25,26,27,28,29,30,31] [(12,vI x7)] [] [] (qs (rq hC [] [32,33] [(33,vB (decide (x7<0)))] [] [] (aS h (fun c2 h=> ?_) (fun c2 h=> ?_))))
  ·obtain rfl:=so h
   exact rq hC [.z (.nat 22)] [6,7,8,34] [(6,ms 22 1 1 rI []),(7,vI 0),(8,vB false)] [(22,some (ar 3 1 1 rI []))] [(22,true)] (qw (lk hC [.ren 6 22 0] [6] [(6,ms 0 1 1 rI [])] [(0,some (ar 3 1 1 rI [])),(22,none)] [(0,true)]) (qr eW))
  ·refine qk ?_
   obtain⟨x8,hx8,h⟩:=bd h
   exact rk hC [.z (.int 0),oA (aP rI hx8),oQ (bT (r:=rI) 1 (fun _=>rfl) x2),oQ (bT (r:=rI) 1 (fun _=>rfl) [x7])] [9,35,36,37,38] [(9,ms 20 (g4+1) 1 rI x8)] [(20,some (ar 3 (g4+1) 1 rI x8))] [] (rk hC [] [11,23,24] [(11,vI (wr (x3+1)))] [] [] ⟨(x8,wr (x3+1)),(g4+1),h,lS⟩)
 ·refine cQ ?_
  obtain⟨x9,hx9,h⟩:=bd h
  refine rq hC [oV (O1 G hx9)] [13,39,40,41,42,43] [(13,vI x9)] [] [] (qs (rq hC [] [44,45] [(45,vB (decide (x9<0)))] [] [] (aS h (fun c3 h=> ?_) (fun c3 h=> ?_))))
  ·obtain rfl:=so h
   exact rq hC [.z (.nat 22)] [6,7,8,46] [(6,ms 22 1 1 rI []),(7,vI 0),(8,vB false)] [(22,some (ar 3 1 1 rI []))] [(22,true)] (qw (lk hC [.ren 6 22 0] [6] [(6,ms 0 1 1 rI [])] [(0,some (ar 3 1 1 rI [])),(22,none)] [(0,true)]) (qr eW))
  ·obtain rfl:=so h
   exact qk (rq hC [] [6,7,8,47,48] [(6,ms 20 g4 1 rI x2),(7,vI x9),(8,vB true)] [] [] (qw (lk hC [.ren 6 20 0] [6] [(6,ms 0 1 1 rI x2)] [(0,some (ar 3 1 1 rI x2)),(20,none)] [(0,true)]) (qr eW)))
theorem nE{n_a0}{most}{r}(h:iC n n_a0 most=some r):PQ G 61 [vI n_a0,vI most] (vB r):=by
 unfold iC at h
 refine pq aN Tryz.func61 rfl fun w X hC=> ?_
 refine rq hC [] [4] [] [] [] (vj h (fun x_=>aX [(4,vB x_)] [] []) (fun j1 h=> ?_) (fun x2 h=> ?_))
 ·
  refine aQ h (fun c1 h=> ?_) (fun c1 h=> ?_)
  ·exact rk hC (rF 4 c1) (fr 4 10) [(4,vB false)] [] [] (lE h)
  ·exact rk hC (rT 4 c1) (fr 4 10) [(4,vB (decide (n_a0≤most)))] [] [] (lE h)
 ·obtain rfl:=so h
  exact qr eR
theorem aBW{p}{r}(h:qG n p=some r):PQ G 201 [vM rI p] (vB r):=by
 unfold qG at h
 refine pq aN Tryz.func201 rfl fun w X hC=> ?_
 refine rq hC [] [2] [] [] [] (qs (rq hC [] [3] [(3,vI 0)] [] [] (qb (jF h (fun x_=>aX [(0,vM rI p),(3,vI x_)] [] []) lS ?_))))
 rintro again2 x1 h
 refine qs (rq hC [oN rI p] (fr 4 4) [(7,vB (decide (x1<(p.length:Int))))] [] [] (aS h (fun c1 h=> ?_) (fun c1 h=> ?_)))
 ·refine qk (qs (qb ?_))
  obtain⟨x3,hx3,x4,hx4,h⟩:=cP h
  refine rq hC [oR rI hx3,oV (nE G hx4)] (fr 10 6) [(15,vB (!x4))] [] [] (aS h (fun c2 h=> ?_) (fun c2 h=> ?_))
  ·obtain rfl:=so h
   exact rq hC [] [2] [(2,vB false)] [] [] (qr eR)
  ·exact qk (rk hC [] [3,8,9] [(3,vI (wr (x1+1)))] [] [] (lE h))
 ·obtain rfl:=so h
  exact cQ (rq hC [oN rI p] [2,16,17,18] [(2,vB (decide ((p.length:Int)≤4)))] [] [] (qr eR))
theorem t0{a}{r}(h:lQ n a=some r):PQ G 219 [V.agg (aK a)] (vI r):=by
 unfold lQ at h
 refine pq aN Tryz.func219 rfl fun w X hC=> ?_
 refine rq hC [.z (.b (true))] [1,2] [(1,V.tp (aR a))] [] [] (rq hC [] [3] [(3,vI 0)] [] [] (qs (rq hC [] [4] [(4,vI 0)] [] [] (qb (jF h (fun x_=>aX [(1,V.tp (aR a)),(3,vI x_.1),(4,vI x_.2)] [] []) lS ?_)))))
 rintro again3 ⟨x1,x2⟩ h
 refine qs (rq hC [oN rI a.coefs] (fr 5 5) [(9,vB (decide (x2<(a.coefs.length:Int))))] [] [] (aS h (fun c1 h=> ?_) (fun c1 h=> ?_)))
 ·refine qk (vj h (fun x_=>aX [(1,V.tp (aR a)),(3,vI x_),(4,vI x2)] [] []) (fun j4 h=> ?_) (fun x6 h=> ?_))
  ·
   refine qb ?_
   obtain⟨x5,hx5,h⟩:=bd h
   refine rq hC [oR rI hx5] (fr 12 6) [(17,vB (!decide (x5=0)))] [] [] (aS h (fun c2 h=> ?_) (fun c2 h=> ?_))
   ·exact rk hC [] [3,18,19] [(3,vI (wr (x2+1)))] [] [] (lE h)
   ·exact qk (lE h)
  ·exact rk hC [] [4,10,11] [(4,vI (wr (x2+1)))] [] [] (lE h)
 ·obtain rfl:=so h
  exact cQ (rq hC [] [2,20] [(2,vI x1)] [] [] (qr eR))
theorem d7{a}{r}(h:eB n a=some r):PQ G 277 [V.agg (aK a)] (vB r):=by
 unfold eB at h
 refine pq aN Tryz.func277 rfl fun w X hC=> ?_
 refine rq hC [.z (.b (true))] [1,2] [(1,V.tp (aR a))] [] [] (qs (rq hC [] [3] [(3,vI 0)] [] [] (qb (jF h (fun x_=>aX [(1,V.tp (aR a)),(3,vI x_)] [] []) lS ?_))))
 rintro again2 x1 h
 refine qs (rq hC [oN rI a.coefs] (fr 4 5) [(8,vB (decide (x1<(a.coefs.length:Int))))] [] [] (aS h (fun c1 h=> ?_) (fun c1 h=> ?_)))
 ·refine qk (qs (qb ?_))
  obtain⟨x3,hx3,x4,hx4,h⟩:=cP h
  refine rq hC [oR rI hx3,oV (nE G hx4)] (fr 11 7) [(17,vB (!x4))] [] [] (aS h (fun c2 h=> ?_) (fun c2 h=> ?_))
  ·obtain rfl:=so h
   exact rq hC [] [2] [(2,vB false)] [] [] (qr eR)
  ·exact qk (rk hC [] [3,9,10] [(3,vI (wr (x1+1)))] [] [] (lE h))
 ·refine cQ (vj h (fun x_=>aX [(2,vB x_)] [] []) (fun j5 h=> ?_) (fun x7 h=> ?_))
  ·
   refine aQ h (fun c3 h=> ?_) (fun c3 h=> ?_)
   ·exact rk hC ([oN rI a.coefs]++rF 4 c3) [2,18,19,20,21,22,23,24,25,26] [(2,vB false)] [] [] (lE h)
   ·obtain⟨x6,hx6,h⟩:=bd h
    exact rk hC ([oN rI a.coefs]++rT 3 c3++[oV (nE G hx6),oT c3]) [2,18,19,20,21,22,23,24,25,26] [(2,vB x6)] [] [] (lE h)
  ·obtain rfl:=so h
   exact qr eR
theorem wJ{list}{depth}{r}(h:qE n list depth=some r):PQ G 276 [vM aA list,vI depth] (vB r):=by
 unfold qE at h
 refine pq aN Tryz.func276 rfl fun w X hC=> ?_
 refine rq hC [] [4] [] [] [] (qs (rq hC [] [5] [(5,vI 0)] [] [] (qb (jF h (fun x_=>aX [(0,vM aA list),(1,vI depth),(5,vI x_)] [] []) lS ?_))))
 rintro again2 x1 h
 refine qs (rq hC [oN aA list] (fr 6 4) [(9,vB (decide (x1<(list.length:Int))))] [] [] (aS h (fun c1 h=> ?_) (fun c1 h=> ?_)))
 ·refine qk (qs (qb (vj h (fun x_=>aX [(0,vM aA list),(1,vI depth),(5,vI x1),(26,vB x_)] [] []) (fun j3 h=> ?_) (fun x7 h=> ?_))))
  ·
   obtain⟨x4,hx4,x5,hx5,h⟩:=cP h
   refine aQ h (fun c2 h=> ?_) (fun c2 h=> ?_)
   ·obtain⟨x6,hx6,h⟩:=bd h
    exact rk hC ([oR aA hx4,oV (d7 G hx5)]++rF 3 c2++[oR aA hx4,oF c2,oF c2,oV (t0 G hx6)]++rF 3 c2) (fr 12 15) [(26,vB (decide (depth<x6)))] [] [] (lE h)
   ·exact rk hC ([oR aA hx4,oV (d7 G hx5)]++rT 8 c2) (fr 12 15) [(26,vB true)] [] [] (lE h)
  ·refine aS h (fun c3 h=> ?_) (fun c3 h=> ?_)
   ·obtain rfl:=so h
    exact rq hC [] [4] [(4,vB false)] [] [] (qr eR)
   ·exact qk (rk hC [] [5,10,11] [(5,vI (wr (x1+1)))] [] [] (lE h))
 ·refine cQ (vj h (fun x_=>aX [(4,vB x_)] [] []) (fun j8 h=> ?_) (fun x9 h=> ?_))
  ·
   refine aQ h (fun c4 h=> ?_) (fun c4 h=> ?_)
   ·exact rk hC ([oN aA list]++rF 4 c4) [4,27,28,29,30,31,32,33,34] [(4,vB false)] [] [] (lE h)
   ·exact rk hC [oN aA list,oT c4,oT c4,oN aA list,oT c4,oT c4] [4,27,28,29,30,31,32,33,34] [(4,vB (decide ((list.length:Int)≤2)))] [] [] (lE h)
  ·obtain rfl:=so h
   exact qr eR
theorem vJ{nest}{r}(h:mL n nest=some r):PQ G 241 [vM aC nest] (vB r):=by
 unfold mL at h
 refine pq aN Tryz.func241 rfl fun w X hC=> ?_
 refine rq hC [] [2] [] [] [] (qs (rq hC [] [3] [(3,vI 0)] [] [] (qb (jF h (fun x_=>aX [(0,vM aC nest),(3,vI x_)] [] []) lS ?_))))
 rintro again2 x1 h
 refine qs (vj h (fun x_=>aX [(0,vM aC nest),(3,vI x1),(12,vB x_)] [] []) (fun j3 h=> ?_) (fun x4 h=> ?_))
 ·
  refine aQ h (fun c1 h=> ?_) (fun c1 h=> ?_)
  ·exact rk hC ([oN aC nest]++rF 4 c1) (fr 4 9) [(12,vB false)] [] [] (lE h)
  ·exact rk hC [oN aC nest,oT c1,oT c1,oN aC nest,oT c1,oT c1] (fr 4 9) [(12,vB (decide ((nest.length:Int)≤4)))] [] [] (lE h)
 ·refine aS h (fun c2 h=> ?_) (fun c2 h=> ?_)
  ·refine qk (qs (qb (vj h (fun x_=>aX [(0,vM aC nest),(3,vI x1),(32,vB x_)] [] []) (fun j5 h=> ?_) (fun x9 h=> ?_))))
   ·
    obtain⟨x6,hx6,x7,hx7,h⟩:=cP h
    refine aQ h (fun c3 h=> ?_) (fun c3 h=> ?_)
    ·obtain⟨x8,hx8,h⟩:=bd h
     exact rk hC ([oR aC hx6,oV (wJ G hx7)]++rF 3 c3++[oR aC hx6]++rF 4 c3++[oV (wJ G hx8),oF c3,oF c3]) (fr 15 18) [(32,vB (!x8))] [] [] (lE h)
    ·exact rk hC ([oR aC hx6,oV (wJ G hx7)]++rT 9 c3) (fr 15 18) [(32,vB true)] [] [] (lE h)
   ·refine aS h (fun c4 h=> ?_) (fun c4 h=> ?_)
    ·obtain rfl:=so h
     exact rq hC [] [2] [(2,vB false)] [] [] (qr eR)
    ·exact qk (rk hC [] [3,13,14] [(3,vI (wr (x1+1)))] [] [] (lE h))
  ·obtain rfl:=so h
   exact cQ (rq hC [oN aC nest] [2,33,34,35] [(2,vB (decide ((nest.length:Int)≤4)))] [] [] (qr eR))
theorem B6{loop}{p}{r}(h:nP n loop p=some r):PQ G 202 [V.agg (jD loop),vM rI p] (V.tup [vI r.1,vI r.2]):=by
 unfold nP at h
 refine pq aN Tryz.func202 rfl fun w X hC=> ?_
 refine rq hC [.z (.b (true))] [2,4,5] [(2,V.tp (u4 loop))] [] [] ?_
 obtain⟨x1,hx1,x2,hx2,h⟩:=cP h
 refine rq hC [oR aA hx1,oV (o7 G hx2)] [6,12,13,14,15,16,17] [(6,vI x2)] [] [] ?_
 obtain⟨x3,hx3,x4,hx4,h⟩:=cP h
 refine rq hC [oR aA hx3,oV (o7 G hx4)] [7,18,19,20,21,22,23] [(7,vI x4)] [] [] (qs (rq hC [] [8] [(8,vI 1)] [] [] (qb (jF h (fun x_=>aX [(1,vM rI p),(2,V.tp (u4 loop)),(6,vI x_.1),(7,vI x4),(8,vI x_.2)] [] []) lS ?_))))
 rintro again7 ⟨x5,x6⟩ h
 refine qs (rq hC [oN aA loop.lo] (fr 24 5) [(28,vB (decide (x6<(loop.lo.length:Int))))] [] [] (aS h (fun c1 h=> ?_) (fun c1 h=> ?_)))
 ·refine qk (vj h (fun x_=>aX [(1,vM rI p),(2,V.tp (u4 loop)),(6,vI x_),(7,vI x4),(8,vI x6)] [] []) (fun j8 h=> ?_) (fun x11 h=> ?_))
  ·
   refine qb ?_
   obtain⟨x9,hx9,x10,hx10,h⟩:=cP h
   refine rq hC [oR aA hx9,oV (o7 G hx10)] [9,31,32,33,34,35,36,37] [(9,vI x10)] [] [] (rq hC [] [38,39,40] [(40,vB (decide (x5<x10)))] [] [] (aS h (fun c2 h=> ?_) (fun c2 h=> ?_)))
   ·exact rk hC [] [6,41] [(6,vI x10)] [] [] (lE h)
   ·exact qk (lE h)
  ·exact rk hC [] [8,29,30] [(8,vI (wr (x6+1)))] [] [] (lE h)
 ·refine cQ (qs (rq hC [] [10] [(10,vI 1)] [] [] (qb (jF h (fun x_=>aX [(1,vM rI p),(2,V.tp (u4 loop)),(6,vI x5),(7,vI x_.1),(10,vI x_.2)] [] []) lS ?_))))
  rintro again14 ⟨x12,x13⟩ h
  refine qs (rq hC [oN aA loop.hi] (fr 42 5) [(46,vB (decide (x13<(loop.hi.length:Int))))] [] [] (aS h (fun c3 h=> ?_) (fun c3 h=> ?_)))
  ·refine qk (vj h (fun x_=>aX [(1,vM rI p),(2,V.tp (u4 loop)),(6,vI x5),(7,vI x_),(10,vI x13)] [] []) (fun j15 h=> ?_) (fun x18 h=> ?_))
   ·
    refine qb ?_
    obtain⟨x16,hx16,x17,hx17,h⟩:=cP h
    refine rq hC [oR aA hx16,oV (o7 G hx17)] [11,49,50,51,52,53,54,55] [(11,vI x17)] [] [] (rq hC [] [56,57,58] [(58,vB (decide (x17<x12)))] [] [] (aS h (fun c4 h=> ?_) (fun c4 h=> ?_)))
    ·exact rk hC [] [7,59] [(7,vI x17)] [] [] (lE h)
    ·exact qk (lE h)
   ·exact rk hC [] [10,47,48] [(10,vI (wr (x13+1)))] [] [] (lE h)
  ·obtain rfl:=so h
   exact cQ (rq hC [] [4,5,60,61] [(4,vI x5),(5,vI x12)] [] [] (qr eR))
theorem aDu(G:GS): ∀(n:Nat) (nest:List Loop) (p:List Int) (most:Int) {r:Int} (h:s_l2Work n nest p most=some r),PQ G 242 [vM aC nest,vM rI p,vI most] (vI r):=by
 intro n
 induction n with
 |zero=>intro nest p most r h;rw [s_l2Work.eq_def] at h;cases h
 |succ n ih=>
  intro nest p most r h
  rw [s_l2Work.eq_def] at h;dsimp only at h
  refine pq aN Tryz.func242 rfl fun w X hC=> ?_
  refine rq hC [] [6] [] [] [] (rq hC [] [7] [(7,vI 1)] [] [] (qs (rq hC [oN rI p,oN aC nest] (fr 11 5) [(15,vB (decide ((p.length:Int)=(nest.length:Int))))] [] [] (aS h (fun c1 h=> ?_) (fun c1 h=> ?_)))))
  ·obtain rfl:=so h
   exact rq hC [] [6,16] [(6,vI 1)] [] [] (qr eR)
  ·refine qk ?_
   obtain⟨x1,hx1,x2,hx2,h⟩:=cP h
   refine rq hC [oN rI p,oR aC hx1,oV (B6 G hx2)] [8,9,17,18,19,20,21,22,23,24,25,26] [(8,vI x2.1),(9,vI x2.2)] [] [] (qs (rq hC [] [10,27] [(10,vI x2.1)] [] [] (qb (jF h (fun x_=>aX [(0,vM aC nest),(1,vM rI p),(2,vI most),(7,vI x_.1),(9,vI x2.2),(10,vI x_.2)] [] []) lS ?_))))
   rintro again5 ⟨x3,x4⟩ h
   refine qs (vj h (fun x_=>aX [(0,vM aC nest),(1,vM rI p),(2,vI most),(7,vI x3),(9,vI x2.2),(10,vI x4),(35,vB x_)] [] []) (fun j6 h=> ?_) (fun x7 h=> ?_))
   ·
    refine aQ h (fun c2 h=> ?_) (fun c2 h=> ?_)
    ·exact rk hC (rF 4 c2) (fr 28 8) [(35,vB false)] [] [] (lE h)
    ·exact rk hC (rT 4 c2) (fr 28 8) [(35,vB (decide (x3≤most)))] [] [] (lE h)
   ·refine aS h (fun c3 h=> ?_) (fun c3 h=> ?_)
    ·refine qk (qs (qb ?_))
     obtain⟨x8,hx8,x9,hx9,x10,hx10,h⟩:=kG h
     exact rk hC [.z (.nat 20),oA (aP rI hx8),.z (.int 0),oQ (bT (r:=rI) 1 (fun _=>rfl) []),oQ (bT (r:=rI) 1 (fun _=>rfl) p),oA (aP rI hx9),.z (.b (true)),oQ (bT (r:=rI) 1 (fun _=>rfl) x8),oQ (bT (r:=rI) 1 (fun _=>rfl) [x4]),oV (ih nest x9 (wr (most-x3)) hx10)] [7,38,39,40,41,42,43,44,45,46,47,48,49,50] [(7,vI (wr (x3+x10)))] [(20,some (ar 3 3 1 rI x9))] [(20,true)] (rk hC [] [10,36,37] [(10,vI (wr (x4+1)))] [] [] (lE h))
    ·obtain rfl:=so h
     exact cQ (rq hC [] [6,51] [(6,vI x3)] [] [] (qr eR))
theorem aAF(G:GS): ∀(n:Nat) (out:List (List Int)) (outG:Nat) (nest:List Loop) (p:List Int) {r:(List (List Int))} (h:s_l2Points n out nest p=some r),VQ G 147 [ar 45 outG 1 (rL rI) out] [ms 0 outG 1 (rL rI) out,vM aC nest,vM rI p] (ms 0 (outG+1) 1 (rL rI) r) [ar 45 (outG+1) 1 (rL rI) r]:=by
 intro n
 induction n with
 |zero=>intro out outG nest p r h;rw [s_l2Points.eq_def] at h;cases h
 |succ n ih=>
  intro out outG nest p r h
  rw [s_l2Points.eq_def] at h;dsimp only at h
  refine vq aN Tryz.func147 rfl fun w X β0 hC hg=> ?_
  refine rq hC [] [6] [] [] [] (qs (rq hC [oN rI p,oN aC nest] (fr 10 5) [(14,vB (decide ((p.length:Int)=(nest.length:Int))))] [] [] (aS h (fun c1 h=> ?_) (fun c1 h=> ?_))))
  ·obtain⟨x1,hx1,x2,hx2,h⟩:=cP h
   obtain rfl:=so h
   exact rq hC [.z (.nat 20),oA (aP rI hx1),.z (.at 3),.z (.fz 20 [18] []),.z (.int 0),oQ (bT (r:=rI) 1 (fun _=>rfl) []),oQ (bT (r:=rI) 1 (fun _=>rfl) p),oA (aP (rL rI) hx2),oQ (bT (r:=(rL rI)) 1 (fun _=>rfl) out),oQ (bT (r:=(rL rI)) 1 (fun _=>rfl) [x1])] [0,6,15,16,17,18,19,20] [(6,ms 0 (outG+1) 1 (rL rI) x2)] [(20,none),(0,some (ar 45 (outG+1) 1 (rL rI) x2))] [(20,true)] (qw (uF 6 0 outG (outG+1) 1 0 (List.map (rL rI) x2).length (e:= .arr 45 (outG+1) 1 (List.map (rL rI) x2)) rfl (by kernel_rfl) (by kernel_rfl) rfl rfl hg.1) (qr eW))
  ·refine qk ?_
   obtain⟨x3,hx3,x4,hx4,h⟩:=cP h
   refine rq hC [oN rI p,oR aC hx3,oV (B6 G hx4)] [7,8,21,22,23,24,25,26,27,28,29,30] [(7,vI x4.1),(8,vI x4.2)] [] [] (qs (rq hC [] [9,31] [(9,vI x4.1)] [] [] (qb (bC (γ:=Nat) h (fun x_ g_=>aX [(0,ms 0 g_ 1 (rL rI) x_.1),(1,vM aC nest),(2,vM rI p),(8,vI x4.2),(9,vI x_.2)] [(0,ar 45 g_ 1 (rL rI) x_.1)] [0]) outG (lS) ?_))))
   rintro again8 ⟨x5,x6⟩ g7 h
   refine qs (vj h (fun x_=>aX [(0,ms 0 g7 1 (rL rI) x5),(1,vM aC nest),(2,vM rI p),(8,vI x4.2),(9,vI x6),(39,vB x_)] [(0,ar 45 g7 1 (rL rI) x5)] [0]) (fun j9 h=> ?_) (fun x10 h=> ?_))
   ·
    refine aQ h (fun c2 h=> ?_) (fun c2 h=> ?_)
    ·exact rk hC (rF 4 c2) (fr 32 8) [(39,vB false)] [] [] (lE h)
    ·exact rk hC [oT c2,oT c2,oN (rL rI) x5,oT c2,oT c2] (fr 32 8) [(39,vB (decide ((x5.length:Int)≤120)))] [] [] (lE h)
   ·refine aS h (fun c3 h=> ?_) (fun c3 h=> ?_)
    ·refine qk (qs (qb ?_))
     obtain⟨x11,hx11,x12,hx12,x13,hx13,h⟩:=kG h
     exact rk hC [.z (.nat 20),oA (aP rI hx11),.z (.int 0),oQ (bT (r:=rI) 1 (fun _=>rfl) []),oQ (bT (r:=rI) 1 (fun _=>rfl) p),oA (aP rI hx12),.z (.at 2),.z (.fz 20 [49] []),oQ (bT (r:=rI) 1 (fun _=>rfl) x11),oQ (bT (r:=rI) 1 (fun _=>rfl) [x6]),oC [0] [] (ih x5 g7 nest x12 hx13)] [0,42,43,44,45,46,47,48,49,50] [(0,ms 0 (g7+1) 1 (rL rI) x13)] [(20,none),(0,some (ar 45 (g7+1) 1 (rL rI) x13))] [(20,true),(0,true)] (rk hC [] [9,40,41] [(9,vI (wr (x6+1)))] [] [] ⟨(x13,wr (x6+1)),(g7+1),h,lS⟩)
    ·obtain rfl:=so h
     exact cQ (rq hC [] [6,51] [(6,ms 0 g7 1 (rL rI) x5)] [] [] (qw (uF 6 0 outG g7 1 0 (List.map (rL rI) x5).length (e:= .arr 45 g7 1 (List.map (rL rI) x5)) rfl (by kernel_rfl) (by kernel_rfl) rfl rfl hg.1) (qr eW)))
theorem P4{nest}{r}(h:kN n nest=some r):VQ G 198 [] [vM aC nest] (V.tup [ms 0 1 1 (rL rI) r.1,vB r.2]) [ar 45 1 1 (rL rI) r.1]:=by
 unfold kN at h
 refine vq aN Tryz.func198 rfl fun w X β0 hC hg=> ?_
 refine rq hC [] [2,3] [] [] [] (qs (vj h (fun x_=>aX [(0,vM aC nest),(12,vB x_)] [] []) (fun j1 h=> ?_) (fun x4 h=> ?_)))
 ·
  obtain⟨x2,hx2,h⟩:=bd h
  refine aQ h (fun c1 h=> ?_) (fun c1 h=> ?_)
  ·obtain⟨x3,hx3,h⟩:=bd h
   exact rk hC [oV (vJ G hx2),oF c1,oF c1,oV (aDu G n nest [] 1200 hx3),oF c1,oF c1] (fr 5 8) [(12,vB (decide ((1200:Int)<x3)))] [] [] (lE h)
  ·exact rk hC ([oV (vJ G hx2)]++rT 4 c1) (fr 5 8) [(12,vB true)] [] [] (lE h)
 ·refine aS h (fun c2 h=> ?_) (fun c2 h=> ?_)
  ·obtain rfl:=so h
   exact rq hC [.z (.nat 20)] [2,3,13] [(2,ms 20 1 1 (rL rI) []),(3,vB false)] [(20,some (ar 45 1 1 (rL rI) []))] [(20,true)] (qw (lk hC [.ren 2 20 0] [2] [(2,ms 0 1 1 (rL rI) [])] [(0,some (ar 45 1 1 (rL rI) [])),(20,none)] [(0,true)]) (qr eW))
  ·refine qk ?_
   obtain⟨x5,hx5,h⟩:=bd h
   refine rq hC [.z (.nat 20),oC [20] [] (aAF G n [] 1 nest [] hx5)] [4,14,15,16] [(4,ms 20 2 1 (rL rI) x5)] [(20,some (ar 45 2 1 (rL rI) x5))] [(20,true),(20,true)] (qs (rq hC [oN (rL rI) x5] [17,18,19] [(19,vB (decide ((120:Int)<(x5.length:Int))))] [] [] (aS h (fun c3 h=> ?_) (fun c3 h=> ?_))))
   ·obtain rfl:=so h
    exact rq hC [.z (.nat 21)] [2,3,20] [(2,ms 21 1 1 (rL rI) []),(3,vB false)] [(21,some (ar 45 1 1 (rL rI) []))] [(21,true)] (qw (lk hC [.ren 2 21 0] [2] [(2,ms 0 1 1 (rL rI) [])] [(0,some (ar 45 1 1 (rL rI) [])),(21,none)] [(0,true)]) (qr eW))
   ·obtain rfl:=so h
    exact qk (rq hC [] [2,3,21] [(2,ms 20 2 1 (rL rI) x5),(3,vB true)] [] [] (qw (lk hC [.ren 2 20 0] [2] [(2,ms 0 1 1 (rL rI) x5)] [(0,some (ar 45 1 1 (rL rI) x5)),(20,none)] [(0,true)]) (qr eW)))
end Go.Lift
